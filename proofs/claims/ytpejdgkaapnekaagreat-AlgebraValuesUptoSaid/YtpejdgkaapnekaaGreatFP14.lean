import Derived.Test.YtpejdgkaapnekaaGreatFP10
import Derived.Test.YtpejdgkaapnekaaGreatFPb
set_option linter.unusedVariables false
set_option linter.unusedSimpArgs false
set_option maxHeartbeats 1000000
namespace Go.Abs
open Go
variable {P : Program} {V : Env} {T : Tab} {c : Ctx} {w0 : World} {σ0 : Sig} {φ0 : Pl} {M : Nat→Prop} {n : Nat} {rd : Option Nat} {mk : List Deferred} {ops : Array Oper} {o : Oper} {rest : List Oper} {fr : List (Nat×AV)} {sto : Sto} {K : St→Prop} {st st0 : St} {acc : List Tr}
theorem yT(hg : o.guard = none) : ({ o with guard:=none } : Oper) = o:=by obtain ⟨_,_,_,_,_,g⟩:=o; simp only at hg; subst hg; rfl
def zf : Op→Bool
 | .binOp .add _ _ _ _ | .binOp .sub _ _ _ _ | .binOp .mul _ _ _ _ | .binOp .rem _ _ _ _ | .binOp .quo _ _ _ _ | .unOp .neg _ _ | .convert _ _ _ | .pick .. | .index .. | .indexAddr .. | .call { callee:=.value _,.. }=>false
 | _=>true
theorem ah(hT : bE P T){d : Nat}{v : AV}(hp : zf o.op = true)(hg : o.guard = none)(hdst : o.dst = some d)(hd : Nat.blt d n = true)(hv : cy T ⟨fr,sto⟩ o.op = some v)
  (h : ao P ⟨w0,σ0,φ0,M,n,rd,mk⟩ ops rest ⟨(d,v)::fr,sto⟩ K) : ao P ⟨w0,σ0,φ0,M,n,rd,mk⟩ ops (o::rest) ⟨fr,sto⟩ K:=dk hT hg hdst hd hv h
theorem xi(hV : EnvOk P V){e : Ef}{dst : Option Nat}(hg : o.guard = none)(hdst : o.dst = dst)(hd : bu n dst = true)(h : bw V ⟨fr,sto⟩ o 0 = some e)(he : e.new = [])(hk : ao P ⟨w0,σ0,φ0,M,n,rd,mk⟩ ops rest ⟨bX dst e.v fr,c4 e.wr sto⟩ K) :
  ao P ⟨w0,σ0,φ0,M,n,rd,mk⟩ ops (o::rest) ⟨fr,sto⟩ K:=by
 have:=nT (c:=⟨w0,σ0,φ0,M,n,rd,mk⟩) hV (o:=o) (by rw [hdst]; exact hd) h rfl (fun i hi=>by rw [he] at hi; simp at hi) ops rest K (by rw [hdst]; exact hk)
 rwa [yT hg] at this
theorem bn{d j : Nat}{want b : Bool}(hg : o.guard = some (j,want))(hb : f7 ⟨fr,sto⟩ ops j = some (some b))(hdst : o.dst = some d)(hd : Nat.blt d n = true)
  (h1 : b = want→ao P ⟨w0,σ0,φ0,M,n,rd,mk⟩ ops ({ o with guard:=none }::rest) ⟨fr,sto⟩ K) (h2 : b = !want→ao P ⟨w0,σ0,φ0,M,n,rd,mk⟩ ops rest ⟨(d,.tup [])::fr,sto⟩ K) :
  ao P ⟨w0,σ0,φ0,M,n,rd,mk⟩ ops (o::rest) ⟨fr,sto⟩ K:=by
 by_cases h : b = want
 ·exact aT hg hb h (h1 h)
 ·have h' : b = !want:=by cases b <;> cases want <;> simp at h ⊢
  exact bH hg hb h' hdst hd (h2 h')
theorem mK{d j : Nat}{want : Bool}(hg : o.guard = some (j,want))(hb : f7 ⟨fr,sto⟩ ops j = some none)(hdst : o.dst = some d)(hd : Nat.blt d n = true)
  (h : ao P ⟨w0,σ0,φ0,M,n,rd,mk⟩ ops rest ⟨(d,.tup [])::fr,sto⟩ K) : ao P ⟨w0,σ0,φ0,M,n,rd,mk⟩ ops (o::rest) ⟨fr,sto⟩ K :=
 oQ hg hb rfl (by rw [hdst]; exact hd) (by rw [hdst]; exact h)
theorem aM(id : Nat){d : Nat}{t : TypeId}{x : Operand}{v : AV}{cs : List AC}(ho : o.op = .box t x)(hg : o.guard = none)(hdst : o.dst = some d)(hd : (Nat.blt d n && (Nat.blt id 1000000 && (!bQ sto id && !bY id fr && !br id sto))) = true)
  (hx : ev ⟨fr,sto⟩ x = some v) (hc : (match cellsOf v with | some cs'=>bif cH id cs' then none else some cs' | none=>none) = some cs)
  (h : ao P ⟨w0,σ0,φ0,M,n,rd,mk⟩ ops rest ⟨(d,.one (.ref id 0))::fr,(id,.box cs)::sto⟩ K) : ao P ⟨w0,σ0,φ0,M,n,rd,mk⟩ ops (o::rest) ⟨fr,sto⟩ K:=by
 simp only [Bool.and_eq_true,Bool.not_eq_true'] at hd
 split at hc <;> (try (simp at hc; done))
 rename_i cs' hcs
 cases hm : cH id cs' <;> simp [hm] at hc
 subst hc
 exact uc ho hg hdst (by simp only [Bool.and_eq_true]; exact ⟨hd.1,hd.2.1⟩) hx hcs hd.2.2.1.2 hd.2.2.2 hm h
theorem ag{d : Nat}{fop : Operand}{args : Array Operand}{ats : Array TypeId}{f : FuncId}{caps : List D}{avs avs' : List AV}{rav : AV}{rsto : Sto}
  (ho : o.op = .call { callee:=.value fop,args:=args,argTypes:=ats }) (hg : o.guard = none) (hdst : o.dst = some d) (hd : Nat.blt d n = true) (hf : ev ⟨fr,sto⟩ fop = some (.one (.d (.fn f caps))))
  (ha : evL ⟨fr,sto⟩ args.toList = some avs) (hD : cT avs = true) (hap : (avs ++ caps.map fun x=>.one (.d x)) = avs') (hC : CallA P f avs' [] rav rsto) (hfl : eV rav = true)
  (h : ao P ⟨w0,σ0,φ0,M,n,rd,mk⟩ ops rest ⟨(d,rav)::fr,sto⟩ K) : ao P ⟨w0,σ0,φ0,M,n,rd,mk⟩ ops (o::rest) ⟨fr,sto⟩ K:=by
 subst hap
 exact iu ho hg (by rw [hdst]; exact hd) (Imp.refl _) hf ha hD hC hfl (by rw [hdst]; exact h)
theorem bG(h1 : jG ops.toList st0 acc.reverse = true)(h2 : K st) : aU P c ops st0 [] st acc K:=⟨h1,h2⟩
theorem lH{tr : Tr}(hg : o.guard = none)(hl : Loc P c o st tr)(h : aU P c ops st0 rest ⟨bX o.dst tr.v st.fr,c4 tr.wr st.sto⟩ (tr::acc) K) : aU P c ops st0 (o::rest) st acc K :=
 ⟨true,tr,by unfold fN; rw [hg],fun _=>hl,fun e=>by simp at e,fun e=>by simp at e,h⟩
theorem FI{tr : Tr}{j : Nat}{want b : Bool}(hg : o.guard = some (j,want))(hb : f7 st ops j = some (some b))(hw : b = want)
  (hl : Loc P c o st tr) (h : aU P c ops st0 rest ⟨bX o.dst tr.v st.fr,c4 tr.wr st.sto⟩ (tr::acc) K) : aU P c ops st0 (o::rest) st acc K :=
 ⟨true,tr,by unfold fN; rw [hg]; exact ⟨_,hb,by subst hw; simp⟩,fun _=>hl,fun e=>by simp at e,fun e=>by simp at e,h⟩
theorem nv{d j : Nat}{want b : Bool}(hg : o.guard = some (j,want))(hb : f7 st ops j = some (some b))(hw : b = !want)(hdst : o.dst = some d)(hd : Nat.blt d c.n = true)
  (h : aU P c ops st0 rest ⟨(d,.tup [])::st.fr,st.sto⟩ (Tr.none::acc) K) : aU P c ops st0 (o::rest) st acc K :=
 ⟨false,Tr.none,by unfold fN; rw [hg]; exact ⟨_,hb,by subst hw; cases want <;> simp⟩,fun e=>by simp at e,fun _=>rfl,fun _=>by rw [hdst]; exact hd,by rw [hdst]; exact h⟩
theorem kV{j : Nat}{want b : Bool}(hg : o.guard = some (j,want))(hb : f7 st ops j = some (some b))(h1 : b = want→aU P c ops st0 (o::rest) st acc K)(h2 : b = !want→aU P c ops st0 (o::rest) st acc K) : aU P c ops st0 (o::rest) st acc K:=by
 by_cases h : b = want
 ·exact h1 h
 ·exact h2 (by cases b <;> cases want <;> simp at h ⊢)
theorem IB(hV : EnvOk P V){e : Ef}(hd : bu c.n o.dst = true)(h : bw V st o 0 = some e) : Loc P c o st (e.tr (qF st o.op)):=lD hV hd h rfl
theorem eI{v : AV}(hv : cy V.T st o.op = some v) : bw V st o 0 = some ⟨v,[],[]⟩:=by
 simp only [bw,de,hv]
theorem aK{v : AV}(hp : zf o.op = true)(hv : cy V.T st o.op = some v) : bw V st o 0 = some ⟨v,[],[]⟩:=eI hv
theorem mr{op : BinOp}{t ty : TypeId}{x y : Operand}{k k' : IntKind}{a b z : Int}(ho : o.op = .binOp op t x y ty)(hop : yN op = true)
  (hx : ev st x = some (.one (.d (.int k a)))) (hy : ev st y = some (.one (.d (.int k' b)))) (hk : kEq k k' = true) (hz : k.wrap (EA op a b) = z) : bw V st o 0 = some ⟨.one (.d (.int k z)),[],[]⟩:=by
 refine eI ?_
 rw [ho]
 simp only [cy,hx,hy,nf,hk,cond_true]
 cases op <;> simp [yN] at hop <;> simp only [iR,cond_false,qT,← hz,EA]
theorem sq{x y z : Operand}{b : Bool}{v : AV}(ho : o.op = .pick x y z)(hx : ev st x = some (.one (.d (.bool b))))(hv : ev st (if b then y else z) = some v) : bw V st o 0 = some ⟨v,[],[]⟩:=by
 simp only [bw,de,cy,ho,cX,hx,hv]
theorem aF{x y z : Operand}{b : Bool}{v : AV}(ho : o.op = .pick x y z)(hx : ev st x = some (.one (.d (.bool b))))(hb : b = true)(hv : ev st y = some v) : bw V st o 0 = some ⟨v,[],[]⟩:=sq ho hx (by rw [hb]; exact hv)
theorem az{x y z : Operand}{b : Bool}{v : AV}(ho : o.op = .pick x y z)(hx : ev st x = some (.one (.d (.bool b))))(hb : b = false)(hv : ev st z = some v) : bw V st o 0 = some ⟨v,[],[]⟩:=sq ho hx (by rw [hb]; exact hv)
theorem d_e(hV : EnvOk P V){d : Nat}{v : AV}(hg : o.guard = none)(hdst : o.dst = some d)(hd : Nat.blt d c.n = true)(h : bw V ⟨fr,sto⟩ o 0 = some ⟨v,[],[]⟩)
  (k : aU P c ops st0 rest ⟨(d,v)::fr,sto⟩ (⟨v,[],qF ⟨fr,sto⟩ o.op,[]⟩::acc) K) : aU P c ops st0 (o::rest) ⟨fr,sto⟩ acc K :=
 lH hg (IB hV (by rw [hdst]; exact hd) h) (by rw [hdst]; exact k)
theorem d_l{d : Nat}{v : AV}(hg : o.guard = none)(hdst : o.dst = some d)(hl : Loc P c o ⟨fr,sto⟩ ⟨v,[],[],[]⟩)
  (k : aU P c ops st0 rest ⟨(d,v)::fr,sto⟩ (⟨v,[],[],[]⟩::acc) K) : aU P c ops st0 (o::rest) ⟨fr,sto⟩ acc K :=
 lH hg hl (by rw [hdst]; exact k)
theorem jH{j : Nat}{want b : Bool}(hg : o.guard = some (j,want))(hb : f7 st ops j = some (some b))(hw : b = want)
  (h : aU P c ops st0 ({ o with guard:=none }::rest) st acc K) : aU P c ops st0 (o::rest) st acc K:=by
 obtain ⟨run,tr,h1,h2,h3,h4,h5⟩:=h
 have hr : run = true:=h1
 subst hr
 exact FI hg hb hw (h2 rfl) h5
theorem ar{k b k' b' : Nat}{t e : TypeId}{z : List D}{x y : Operand}{xs : List (List D)}{ik : IntKind}{i : Int}{el : List D}
  (ho : o.op = .indexAddr t x y) (ht : bz V.T t = some (e,k',b',z)) (hx : ev st x = some (.one (.d (.sl k b xs)))) (hk : Nat.beq k k' = true)
  (hy : ev st y = some (.one (.d (.int ik i)))) (hi : 0≤i) (hel : xs[i.toNat]? = some el) : bw V st o 0 = some ⟨.one (.d (.ptr el)),[],[]⟩:=by
 simp only [bw,de,cy,ho,cX,hx,hy,nz,ht,hk,hi,decide_true,Bool.and_self,cond_true,fQ,hel]
theorem pd{t : TypeId}{x y : Operand}{ik : IntKind}{i : Int}{s : List UInt8}{b : UInt8}
  (ho : o.op = .index t x y) (ht : fR V.T t = true) (hx : ev st x = some (.one (.d (.str s))))
  (hy : ev st y = some (.one (.d (.int ik i)))) (hi : 0≤i) (hb : s[i.toNat]? = some b) : bw V st o 0 = some ⟨.one (.d (.int .u8 (b.toNat : Int))),[],[]⟩:=by
 simp only [bw,de,cy,ho,cX,hx,hy,pP,ht,hi,decide_true,Bool.and_self,cond_true,fQ,hb]
theorem bj{fop : Operand}{args : Array Operand}{ats : Array TypeId}{f : FuncId}{caps : List D}{avs avs' : List AV}{rav : AV}{rsto : Sto}
  (ho : o.op = .call { callee:=.value fop,args:=args,argTypes:=ats }) (hd : bu c.n o.dst = true) (hf : ev st fop = some (.one (.d (.fn f caps))))
  (ha : evL st args.toList = some avs) (hD : cT avs = true) (hap : (avs ++ caps.map fun x=>.one (.d x)) = avs') (hC : CallA P f avs' [] rav rsto) (hfl : eV rav = true) : Loc P c o st ⟨rav,[],[],[]⟩:=by
 subst hap
 intro st2 hs hri hnew opsA rest K h
 have he : ∀ {x : Operand},x∈o.op.operands.toList→ev st2 x = ev st x:=fun hx=>eK hs hx
 rw [ho] at he
 have ha2 : evL st2 args.toList = some avs:=(iH fun x hx=>he (by simp [Op.operands,Call.operands]; exact .inr (by simpa using hx))).trans ha
 exact iu (o:={ o with guard:=none }) ho rfl hd (Imp.refl _) ((he (by simp [Op.operands,Call.operands])).trans hf) ha2 hD hC hfl h
theorem aL{t ty : TypeId}{x y : Operand}{k k' : IntKind}{a b z : Int}(ho : o.op = .binOp .add t x y ty)
  (hx : ev st x = some (.one (.d (.int k a)))) (hy : ev st y = some (.one (.d (.int k' b)))) (hk : kEq k k' = true) (hz : k.wrap (a + b) = z) : bw V st o 0 = some ⟨.one (.d (.int k z)),[],[]⟩:=mr ho rfl hx hy hk hz
theorem bW{t ty : TypeId}{x y : Operand}{k k' : IntKind}{a b z : Int}(ho : o.op = .binOp .sub t x y ty)
  (hx : ev st x = some (.one (.d (.int k a)))) (hy : ev st y = some (.one (.d (.int k' b)))) (hk : kEq k k' = true) (hz : k.wrap (a - b) = z) : bw V st o 0 = some ⟨.one (.d (.int k z)),[],[]⟩:=mr ho rfl hx hy hk hz
theorem lM{t ty : TypeId}{x y : Operand}{k k' : IntKind}{a b z : Int}(ho : o.op = .binOp .mul t x y ty)
  (hx : ev st x = some (.one (.d (.int k a)))) (hy : ev st y = some (.one (.d (.int k' b)))) (hk : kEq k k' = true) (hz : k.wrap (a * b) = z) : bw V st o 0 = some ⟨.one (.d (.int k z)),[],[]⟩:=mr ho rfl hx hy hk hz
theorem uB{t ty : TypeId}{x y : Operand}{k k' : IntKind}{a b : Int}(ho : o.op = .binOp .rem t x y ty)
  (hx : ev st x = some (.one (.d (.int k a)))) (hy : ev st y = some (.one (.d (.int k' b)))) (hk : kEq k k' = true) (h0 : ¬ b = 0) : bw V st o 0 = some ⟨.one (.d (.int k (a.tmod b))),[],[]⟩:=by
 simp only [bw,de,cy,ho,hx,hy,nf,iR,cond_false,hk,cond_true,qT,cX,kA,ji,tF,h0,decide_false,Bool.not_false,Bool.and_self]
 cases o.dst <;> simp [gq]
theorem BX{t ty : TypeId}{x y : Operand}{k k' : IntKind}{a b z : Int}(ho : o.op = .binOp .quo t x y ty)
  (hx : ev st x = some (.one (.d (.int k a)))) (hy : ev st y = some (.one (.d (.int k' b)))) (hk : kEq k k' = true) (h0 : ¬ b = 0) (hz : k.wrap (a.tdiv b) = z) : bw V st o 0 = some ⟨.one (.d (.int k z)),[],[]⟩:=by
 subst hz
 simp only [bw,de,cy,ho,hx,hy,nf,iR,cond_false,hk,cond_true,qT,cX,kA,ji,tF,h0,decide_false,Bool.not_false,Bool.and_self]
 cases o.dst <;> simp [gq]
theorem cJ{z : Int}(h1 : 0≤z)(h2 : z≤18446744073709551615) : IntKind.u64.wrap z = z :=
 tn ⟨by simp [IntKind.min,IntKind.signed]; exact h1,by simp [IntKind.max,IntKind.signed,IntKind.bits]; exact h2⟩
theorem iZ{z : Int}(h1 : 0≤z)(h2 : z≤4294967295) : IntKind.u32.wrap z = z :=
 tn ⟨by simp [IntKind.min,IntKind.signed]; exact h1,by simp [IntKind.max,IntKind.signed,IntKind.bits]; exact h2⟩
def EF(T : Tab)(t : TypeId) : Bool:=match look T t with | some _=>true | none=>false
theorem o9{t : TypeId}{x : Operand}{k : IntKind}{a z : Int}(ho : o.op = .unOp .neg t x)
  (hx : ev st x = some (.one (.d (.int k a)))) (hz : k.wrap (0 - a) = z) : bw V st o 0 = some ⟨.one (.d (.int k z)),[],[]⟩:=by
 subst hz
 exact eI (by simp only [ho,cy,hx,unF])
def Ce(T : Tab)(t : TypeId)(k : IntKind) : Bool:=match look T t with | some ⟨.int k',_,_,_⟩=>kEq k' k | _=>false
theorem c7{src dst : TypeId}{x : Operand}{k k' : IntKind}{a z : Int}(ho : o.op = .convert src dst x)
  (hx : ev st x = some (.one (.d (.int k a)))) (hs : EF V.T src = true) (hd : Ce V.T dst k' = true) (hz : k'.wrap a = z) : bw V st o 0 = some ⟨.one (.d (.int k' z)),[],[]⟩:=by
 subst hz
 refine eI ?_
 unfold EF at hs
 unfold Ce at hd
 split at hs <;> (try (simp at hs; done))
 rename_i td hs'
 split at hd <;> (try (simp at hd; done))
 rename_i k'' h1 h2 h3 hd'
 obtain rfl:=fB hd
 simp only [ho,cy,hx,vc,hs',hd']
theorem E0(hT : bE P T){d : Nat}{src dst : TypeId}{x : Operand}{s : List UInt8}(ho : o.op = .convert src dst x)(hg : o.guard = none)(hdst : o.dst = some d)(hd : Nat.blt d n = true)(hb : (fR T src && lv T dst) = true)
  (hx : ev ⟨fr,sto⟩ x = some (.one (.d (.str s)))) (hl : s.length≤1000000) (h : ao P ⟨w0,σ0,φ0,M,n,rd,mk⟩ ops rest ⟨(d,.one (.d (mV s)))::fr,sto⟩ K) : ao P ⟨w0,σ0,φ0,M,n,rd,mk⟩ ops (o::rest) ⟨fr,sto⟩ K :=
 qs hT ho hg (by rw [hdst]; exact hd) hb hx (by omega) (by rw [hdst]; exact h)
theorem s_e(hV : EnvOk P V){d : Nat}{v : AV}(hg : o.guard = none)(hdst : o.dst = some d)(hd : Nat.blt d n = true)(h : bw V ⟨fr,sto⟩ o 0 = some ⟨v,[],[]⟩)
  (hk : ao P ⟨w0,σ0,φ0,M,n,rd,mk⟩ ops rest ⟨(d,v)::fr,sto⟩ K) : ao P ⟨w0,σ0,φ0,M,n,rd,mk⟩ ops (o::rest) ⟨fr,sto⟩ K :=
 xi hV (dst:=some d) hg hdst hd h rfl hk
theorem ax(hT : bE P T)(id : Nat){d : Nat}{t : TypeId}{td : TD}(ho : o.op = .alloc t)(hg : o.guard = none)(hdst : o.dst = some d)(hd : (Nat.blt d n && (Nat.blt id 1000000 && (!bQ sto id && !bY id fr && !br id sto))) = true)(ht : look T t = some td)
  (h : ao P ⟨w0,σ0,φ0,M,n,rd,mk⟩ ops rest ⟨(d,.one (.ref id 0))::fr,(id,.box (td.zero.map .d))::sto⟩ K) : ao P ⟨w0,σ0,φ0,M,n,rd,mk⟩ ops (o::rest) ⟨fr,sto⟩ K:=by
 simp only [Bool.and_eq_true,Bool.not_eq_true'] at hd
 exact p8 hT ho hg hdst (by simp only [Bool.and_eq_true]; exact ⟨hd.1,hd.2.1⟩) ht hd.2.2.1.2 hd.2.2.2 h
theorem aI(hV : EnvOk P V){i : Nat}{ob : AObj}(hg : o.guard = none)(hdst : o.dst = none)(h : bw V ⟨fr,sto⟩ o 0 = some ⟨.any,[(i,some ob)],[]⟩)(hk : ao P ⟨w0,σ0,φ0,M,n,rd,mk⟩ ops rest ⟨fr,cL i ob sto⟩ K) :
  ao P ⟨w0,σ0,φ0,M,n,rd,mk⟩ ops (o::rest) ⟨fr,sto⟩ K:=xi hV (dst:=none) hg hdst rfl h rfl hk
theorem vj(hV : EnvOk P V){d f : Nat}{caps : Array Operand}{v : AV}{wr : List (Nat×Option AObj)}(ho : o.op = .makeFunc (.func f) ⟨[]⟩ caps)(hg : o.guard = none)(hdst : o.dst = some d)(hd : Nat.blt d n = true)(h : bw V ⟨fr,sto⟩ o 0 = some ⟨v,wr,[]⟩)
  (hk : ao P ⟨w0,σ0,φ0,M,n,rd,mk⟩ ops rest ⟨(d,v)::fr,c4 wr sto⟩ K) : ao P ⟨w0,σ0,φ0,M,n,rd,mk⟩ ops (o::rest) ⟨fr,sto⟩ K:=xi hV (dst:=some d) hg hdst hd h rfl hk
theorem bc{x : Operand}{p q : Code}{Q : Exit→St→Prop}(hx : ev st x = some (.one (.d (.bool true))))(ht : OkC P c p st Q) : OkC P c (.cond x p q) st Q:=aA hx (fun _=>ht) (fun h=>by simp at h)
theorem bm{x : Operand}{p q : Code}{Q : Exit→St→Prop}(hx : ev st x = some (.one (.d (.bool false))))(ht : OkC P c q st Q) : OkC P c (.cond x p q) st Q:=aA hx (fun h=>by simp at h) (fun _=>ht)
theorem bv{x : Operand}{p q : Code}{Q : Exit→St→Prop}{b : Bool}(hx : ev st x = some (.one (.d (.bool b))))(hb : b = true)(ht : OkC P c p st Q) : OkC P c (.cond x p q) st Q:=bc (by rw [hx,hb]) ht
theorem aZ{x : Operand}{p q : Code}{Q : Exit→St→Prop}{b : Bool}(hx : ev st x = some (.one (.d (.bool b))))(hb : b = false)(ht : OkC P c q st Q) : OkC P c (.cond x p q) st Q:=bm (by rw [hx,hb]) ht
theorem iI{fr fr' : List (Nat×AV)}(h : SubL fr fr') : Imp c ⟨fr,sto⟩ ⟨fr',sto⟩:=fun a w σ φ hr=>by
 exact ⟨σ,φ,⟨hr.le,hr.fresh,hr.inv,hr.mine,fun s v hv=>hr.slot s v (h.look hv),hr.defers,hr.size,hr.fra,hr.pin⟩⟩
theorem ap{α : Type}{fr : List (Nat×α)} : SubL fr []:=trivial
theorem af{α : Type}{fr r : List (Nat×α)}{s : Nat}{v : α}(h : look fr s = some v)(ht : SubL fr r) : SubL fr ((s,v)::r):=⟨h,ht⟩
theorem q1Q{α : Type}{fr : List (Nat×α)}{s0 : Nat}{v0 : α}(h0 : look fr s0 = some v0) : SubL fr [(s0,v0)]:=af h0 ap
theorem q2Q{α : Type}{fr : List (Nat×α)}{s0 s1 : Nat}{v0 v1 : α}(h0 : look fr s0 = some v0)(h1 : look fr s1 = some v1) : SubL fr [(s0,v0),(s1,v1)]:=af h0 (af h1 ap)
theorem q3Q{α : Type}{fr : List (Nat×α)}{s0 s1 s2 : Nat}{v0 v1 v2 : α}(h0 : look fr s0 = some v0)(h1 : look fr s1 = some v1)(h2 : look fr s2 = some v2) : SubL fr [(s0,v0),(s1,v1),(s2,v2)]:=af h0 (af h1 (af h2 ap))
theorem q4Q{α : Type}{fr : List (Nat×α)}{s0 s1 s2 s3 : Nat}{v0 v1 v2 v3 : α}(h0 : look fr s0 = some v0)(h1 : look fr s1 = some v1)(h2 : look fr s2 = some v2)(h3 : look fr s3 = some v3) : SubL fr [(s0,v0),(s1,v1),(s2,v2),(s3,v3)]:=af h0 (af h1 (af h2 (af h3 ap)))
theorem q5Q{α : Type}{fr : List (Nat×α)}{s0 s1 s2 s3 s4 : Nat}{v0 v1 v2 v3 v4 : α}(h0 : look fr s0 = some v0)(h1 : look fr s1 = some v1)(h2 : look fr s2 = some v2)(h3 : look fr s3 = some v3)(h4 : look fr s4 = some v4) : SubL fr [(s0,v0),(s1,v1),(s2,v2),(s3,v3),(s4,v4)]:=af h0 (af h1 (af h2 (af h3 (af h4 ap))))
theorem q6Q{α : Type}{fr : List (Nat×α)}{s0 s1 s2 s3 s4 s5 : Nat}{v0 v1 v2 v3 v4 v5 : α}(h0 : look fr s0 = some v0)(h1 : look fr s1 = some v1)(h2 : look fr s2 = some v2)(h3 : look fr s3 = some v3)(h4 : look fr s4 = some v4)(h5 : look fr s5 = some v5) : SubL fr [(s0,v0),(s1,v1),(s2,v2),(s3,v3),(s4,v4),(s5,v5)]:=af h0 (af h1 (af h2 (af h3 (af h4 (af h5 ap)))))
theorem q7Q{α : Type}{fr : List (Nat×α)}{s0 s1 s2 s3 s4 s5 s6 : Nat}{v0 v1 v2 v3 v4 v5 v6 : α}(h0 : look fr s0 = some v0)(h1 : look fr s1 = some v1)(h2 : look fr s2 = some v2)(h3 : look fr s3 = some v3)(h4 : look fr s4 = some v4)(h5 : look fr s5 = some v5)(h6 : look fr s6 = some v6) : SubL fr [(s0,v0),(s1,v1),(s2,v2),(s3,v3),(s4,v4),(s5,v5),(s6,v6)]:=af h0 (af h1 (af h2 (af h3 (af h4 (af h5 (af h6 ap))))))
theorem q8Q{α : Type}{fr : List (Nat×α)}{s0 s1 s2 s3 s4 s5 s6 s7 : Nat}{v0 v1 v2 v3 v4 v5 v6 v7 : α}(h0 : look fr s0 = some v0)(h1 : look fr s1 = some v1)(h2 : look fr s2 = some v2)(h3 : look fr s3 = some v3)(h4 : look fr s4 = some v4)(h5 : look fr s5 = some v5)(h6 : look fr s6 = some v6)(h7 : look fr s7 = some v7) : SubL fr [(s0,v0),(s1,v1),(s2,v2),(s3,v3),(s4,v4),(s5,v5),(s6,v6),(s7,v7)]:=af h0 (af h1 (af h2 (af h3 (af h4 (af h5 (af h6 (af h7 ap)))))))
theorem q9Q{α : Type}{fr : List (Nat×α)}{s0 s1 s2 s3 s4 s5 s6 s7 s8 : Nat}{v0 v1 v2 v3 v4 v5 v6 v7 v8 : α}(h0 : look fr s0 = some v0)(h1 : look fr s1 = some v1)(h2 : look fr s2 = some v2)(h3 : look fr s3 = some v3)(h4 : look fr s4 = some v4)(h5 : look fr s5 = some v5)(h6 : look fr s6 = some v6)(h7 : look fr s7 = some v7)(h8 : look fr s8 = some v8) : SubL fr [(s0,v0),(s1,v1),(s2,v2),(s3,v3),(s4,v4),(s5,v5),(s6,v6),(s7,v7),(s8,v8)]:=af h0 (af h1 (af h2 (af h3 (af h4 (af h5 (af h6 (af h7 (af h8 ap))))))))
theorem a0A : type_of% @decide_eq_true_eq:=@decide_eq_true_eq
theorem a1A : type_of% @decide_eq_false_iff_not:=@decide_eq_false_iff_not
theorem a2A : type_of% @Bool.not_eq_true':=@Bool.not_eq_true'
theorem a3A : type_of% @Bool.not_true:=@Bool.not_true
theorem a4A : type_of% @Bool.not_false:=@Bool.not_false
theorem a5A : type_of% @List.length_map:=@List.length_map
theorem a6A : type_of% @List.length_set:=@List.length_set
theorem a7A : type_of% @bne_iff_ne:=@bne_iff_ne
theorem a8A : type_of% @ne_eq:=@ne_eq
theorem a9A : type_of% @beq_iff_eq:=@beq_iff_eq
theorem au : type_of% @bne_eq_false_iff_eq:=@bne_eq_false_iff_eq
theorem av : type_of% @beq_eq_false_iff_ne:=@beq_eq_false_iff_ne
theorem nI : type_of% @List.length_cons:=@List.length_cons
theorem nJ : type_of% @List.length_nil:=@List.length_nil
theorem oM : type_of% @List.length_append:=@List.length_append
theorem oN : type_of% @List.length_take:=@List.length_take
theorem oO : type_of% @List.length_drop:=@List.length_drop
theorem nC : type_of% @Int.toNat_natCast:=@Int.toNat_natCast
def iK : Code→Nat
 | .region id _ _=>id
 | .seq x _=>iK x
 | .block _ x=>iK x
 | .loop x=>iK x
 | _=>0
theorem bk{α : Type}{body : Code}{Q : Exit→St→Prop}(rg : Nat)(hrg : iK body = rg)(kept : List (Nat×AV))(hk : SubL fr kept)(L : α→List (Nat×AV))(Inv : α→Prop)(μ : α→Nat)(x0 : α)(hL : SubL fr (L x0))(h0 : Inv x0)
  (hround : ∀ x,Inv x→OkC P c body ⟨L x ++ kept,sto⟩ (bg (fun st'=>∃ y,Inv y∧μ y < μ x∧SubL st'.sto sto∧SubL st'.fr (L y)∧SubL st'.fr kept) Q)) : OkC P c (.loop body) ⟨fr,sto⟩ Q:=by
 have hap : ∀ {f a b : List (Nat×AV)},SubL f a→SubL f b→SubL f (a ++ b):=by
  intro f a b h1 h2
  induction a with
  | nil=>exact h2
  | cons p r ih=>exact ⟨h1.1,ih h1.2⟩
 refine dI (st':=⟨L x0 ++ kept,sto⟩) (iI (hap hL hk)) ?_
 refine mC (fun n st=>∃ x,Inv x∧n = μ x∧st = ⟨L x ++ kept,sto⟩) (μ x0) ⟨x0,h0,rfl,rfl⟩ ?_
 rintro n st ⟨x,hx,rfl,rfl⟩
 refine iO (hround x hx) fun e st h=>?_
 cases e with
 | normal =>
   obtain ⟨y,hy,hlt,hs,h1,h2⟩:=h
   obtain ⟨f,s⟩:=st
   simp only at hs h1 h2
   exact ⟨μ y,_,hlt,⟨y,hy,rfl,rfl⟩,Imp.trans (iI (hap h1 h2)) (fun a w σ φ hr=>⟨σ,φ,hr.dropTo fun i e h=>hs.look h⟩)⟩
 | _=>exact h
theorem ak{f : St→Prop}{Q : Exit→St→Prop}(h : f st) : bg f Q .normal st:=h
theorem aC{f : St→Prop}{Q : Exit→St→Prop}(h : Q .ret st) : bg f Q .ret st:=h
theorem bd{f : St→Prop}{Q : Exit→St→Prop}{i : Nat}(h : Q (.exit i) st) : bg f Q (.exit i) st:=h
theorem aG{i : Nat}{Q : Exit→St→Prop}(h : Q .normal st) : aV i Q .normal st:=h
theorem aP{i : Nat}{Q : Exit→St→Prop}(h : Q .ret st) : aV i Q .ret st:=h
theorem aX{i j : Nat}{Q : Exit→St→Prop}(hb : Nat.beq j i = true)(h : Q .normal st) : aV i Q (.exit j) st:=by simp only [aV,hb,cond_true]; exact h
theorem FJ{i j : Nat}{Q : Exit→St→Prop}(hb : Nat.beq j i = false)(h : Q (.exit j) st) : aV i Q (.exit j) st:=by simp only [aV,hb,cond_false]; exact h
def OkD(d : D) : Prop:=∃ σ v,Rep σ d v
theorem OkD.str{s : List UInt8}(h : OkD (.str s)) : s.length < 281474976710656:=by
 obtain ⟨σ,v,h⟩:=h
 cases h with
 | str h=>simpa using h
theorem OkD.int{k : IntKind}{z : Int}(h : OkD (.int k z)) : inR k z:=by
 obtain ⟨σ,v,h⟩:=h
 cases h with
 | int h=>exact h
theorem OkD.i64{z : Int}(h : OkD (.int .i64 z)) : -9223372036854775808≤z∧z≤9223372036854775807:=by
 have:=h.int
 simpa [inR,IntKind.min,IntKind.max,IntKind.signed,IntKind.bits] using this
theorem OkD.sl{k b : Nat}{xs : List (List D)}(h : OkD (.sl k b xs)) : xs.length < 281474976710656∧xs.length * b≤140737488355328∧∀ x∈xs,x.length = k∧∀ d∈x,OkD d:=by
 obtain ⟨σ,v,h⟩:=h
 cases h with
 | sl vs hc h48 hb hk hA hh =>
   refine ⟨by simpa using h48,by simpa using hb,fun x hx=>⟨hk x hx,fun d hd=>?_⟩⟩
   obtain ⟨i,hi⟩:=List.getElem?_of_mem hx
   obtain ⟨j,hj⟩:=List.getElem?_of_mem hd
   exact ⟨σ,_,hh i j x d hi hj⟩
def DX : AC→Prop
 | .d d=>OkD d
 | _=>True
def LM : AV→Prop
 | .one c=>DX c
 | .agg cs=>∀ c∈cs,DX c
 | _=>True
def AG : List AV→Prop
 | []=>True
 | v::r=>LM v∧AG r
theorem xj{σ : Sig}{φ : Pl}{sto : Sto} : ∀ {avs : List AV} {vs : List Value},All2 (RepV σ φ sto) avs vs→AG avs
 | [],[],_=>trivial
 | v::r,u::us,h=>by
   refine ⟨?_,xj h.2⟩
   have h1:=h.1
   have key : ∀ {x : AC} {u : Value},RepC σ φ sto x u→DX x:=by
    intro x u h
    cases x with
    | d d=>exact ⟨σ,_,RepC.d_inv h⟩
    | _=>trivial
   cases v with
   | one x=>exact key h1
   | agg cs =>
     obtain ⟨vs,rfl,h2⟩:=h1
     intro x hx
     obtain ⟨j,hj⟩:=List.getElem?_of_mem hx
     obtain ⟨w,_,hr⟩:=h2.get hj
     exact key hr
   | _=>trivial
 | [],_::_,h=>h.elim
 | _::_,[],h=>h.elim
theorem enter(hT : bE P T){f : FuncId}{fn : Func}{code : Code}{args : List AV}{sto : Sto}{rav : AV}{rsto : Sto}(hf : P.funcs[f]? = some fn)(hb : fn.body = some code)
  (hname : (fn.name == "runtime.NumGoroutine") = false) (hn : Nat.ble args.length fn.ntmps = true)
  (h : AG args→∀ (w0 : World) (σ0 : Sig) (φ0 : Pl) (M : Nat→Prop),OkC P ⟨w0,σ0,φ0,M,fn.ntmps,none,[]⟩ code ⟨ko 0 args,sto⟩ (bA T fn.results.toList rav rsto)) : CallA P f args sto rav rsto :=
 ⟨⟨fn,hf,hname,by rw [hb]; rfl⟩,fun w σ φ vs hinv hargs=>(qt hT hf hb hname hn (h (xj hargs))).run w σ φ vs hinv hargs⟩
def at_{α : Type}[Inhabited α](l : List α)(i : Nat) : α:=l.getD i default
theorem ix{α : Type}[Inhabited α]{l : List α}{i : Nat}(h : i < l.length) : l[i]? = some (at_ l i):=by simp [at_,List.getD_eq_getElem?_getD,h]
theorem aJ{α β : Type}[Inhabited α]{f : α→β}{l : List α}{i : Nat}(h : i < l.length) : (l.map f)[i]? = some (f (at_ l i)):=by simp [ix h]
theorem aO{α : Type}[Inhabited α]{l : List α}{i : Nat}(h : i < l.length) : l.drop i = at_ l i::l.drop (i + 1):=by
 rw [List.drop_eq_getElem_cons h]
 have:=ix h
 rw [List.getElem?_eq_getElem h] at this
 rw [Option.some.inj this]
theorem gl{α : Type}[Inhabited α]{l : List α}{i : Nat}(h : i < l.length) : l.take (i + 1) = l.take i ++ [at_ l i]:=by
 rw [List.take_add_one,ix h]; rfl
theorem ea{α : Type}[Inhabited α]{l : List α}{i : Nat}(h : i < l.length) : at_ l i∈l:=List.mem_of_getElem? (ix h)
theorem re{α : Type}[Inhabited α]{l : List α}{n i : Nat}(h : i < n) : at_ (l.take n) i = at_ l i:=by
 simp only [at_,List.getD_eq_getElem?_getD,List.getElem?_take,h,if_true]
theorem DY{α β : Type}[Inhabited α][BEq β][LawfulBEq β]{f : α→β}{l : List α}{j k : Nat}{x : β}(hj : j < k)(hk : k≤l.length)(h : f (at_ l j) = x) : ((l.take k).map f).contains x = true:=by
 subst h
 simp only [List.contains_iff_mem,List.mem_map]
 exact ⟨_,List.mem_of_getElem? (i:=j) (by rw [List.getElem?_take,if_pos hj]; exact ix (by omega)),rfl⟩
theorem ai{T : Tab}{rs : List ResultVar}{rav rav' : AV}{e : Exit}{st : St}{l : List (Bool×List AC)}(he : e = .ret∨e = .normal)(hl : ld T st rs = some l)(hr : np l = some rav')(h : rav' = rav) : bA T rs rav [] e st :=
 ⟨he,l,hl,by rw [hr,h],by first | exact SubL.nil | (intro i; simp [look]) | trivial⟩
theorem h7H{x1 x2 x3 x4 x5}(h : OkC x1 x2 x3 x4 x5) : OkC x1 x2 x3 x4 x5:=h
end Go.Abs
namespace Go.Proofs.YtpejdgkaapnekaaGreat
open Go Go.Abs
attribute [local irreducible] ao OkC aU bg aV bA
set_option maxRecDepth 10000
def g8(c : Nat) : Bool:=decide (97≤c) && decide (c≤122)
def gP(c : Nat) : Bool:=g8 c || (decide (48≤c) && decide (c≤57)) || decide (c = 95)
theorem HK(c : Nat) : CallA Tryz.prog 208 [.one (.d (.int .u8 c))] [] (.one (.d (.bool (g8 c)))) []:=by
 refine enter ab Tryz.func208 rfl (by decide +kernel) rfl fun hok w0 σ0 φ0 M=>?_
 repeat' (first|(refine h6H ?_; first|refine ac ?_|refine ah ab J J J J J ?_|(refine h0H ?_; first|refine aT J J (by first|assumption|rfl) ?_|refine bH J J (by first|assumption|rfl) J J ?_|refine bn J J J J (fun h=>?_) (fun h=>?_))|(refine h2H ?_; first|refine s_e aa J J J (aF J J (by first|rfl|assumption) J) ?_|refine s_e aa J J J (az J J (by first|rfl|assumption) J) ?_))|(refine h7H ?_; first|refine al ?_|refine ae ?_|refine am ?_)|refine ak ?_|refine ai (.inl J) J J ?_)
 all_goals (try (((simp_all [g8,aO,List.drop_eq_nil_of_le]) <;> first | omega | (rw [Bool.eq_iff_iff]; simp; omega) | grind); done))
theorem LT(c : Nat) : CallA Tryz.prog 209 [.one (.d (.int .u8 c))] [] (.one (.d (.bool (gP c)))) []:=by
 refine enter ab Tryz.func209 rfl (by decide +kernel) rfl fun hok w0 σ0 φ0 M=>?_
 repeat' (first|(refine h6H ?_; first|refine ac ?_|refine ah ab J J J J J ?_|(refine h0H ?_; first|refine aT J J (by first|assumption|rfl) ?_|refine bH J J (by first|assumption|rfl) J J ?_|refine mK J J J J ?_|refine bn J J J J (fun h=>?_) (fun h=>?_))|(refine h2H ?_; first|refine s_e aa J J J (aF J J (by first|rfl|assumption) J) ?_|refine s_e aa J J J (az J J (by first|rfl|assumption) J) ?_)|(refine h4H ?_; refine ag J J J J J J J J (HK _) J ?_))|(refine h7H ?_; first|refine al ?_|refine ae ?_|refine am ?_)|refine ak ?_|refine ai (.inl J) J J ?_)
 all_goals (try (((simp_all [gP,aO,List.drop_eq_nil_of_le]) <;> first | omega | (rw [Bool.eq_iff_iff]; simp; omega) | grind); done))
def iE(s : List UInt8) : Bool:=decide (1≤s.length) && decide (s.length≤12) && g8 (at_ s 0).toNat && s.all (fun c=>gP c.toNat)
theorem HL(s : List UInt8) : CallA Tryz.prog 149 [.one (.d (.str s))] [] (.one (.d (.bool (iE s)))) []:=by
 refine enter ab Tryz.func149 rfl (by decide +kernel) rfl fun hok w0 σ0 φ0 M=>?_
 have hl:=hok.1.str; clear hok
 repeat' (first|(refine h6H ?_; first|refine ac ?_|refine ah ab J J J J J ?_|(refine h0H ?_; first|refine aT J J (by first|assumption|rfl) ?_|refine bH J J (by first|assumption|rfl) J J ?_|refine bn J J J J (fun h=>?_) (fun h=>?_))|(refine h1H ?_; refine s_e aa J J J (aL J J J J (aN (by omega) (by omega))) ?_)|(refine h2H ?_; first|refine s_e aa J J J (aF J J (by first|rfl|assumption) J) ?_|refine s_e aa J J J (az J J (by first|rfl|assumption) J) ?_)|(refine GX ?_; refine s_e aa J J J (pd J J J J (by first|omega|((try simp only [a0A,a1A,a2A,a3A,a4A,a5A,a6A,a7A,a8A,a9A,au,av] at *); omega)) (ix (by first|omega|((try simp only [a0A,a1A,a2A,a3A,a4A,a5A,a6A,a7A,a8A,a9A,au,av] at *); omega)))) ?_)|(refine h4H ?_; first|refine ag J J J J J J J J (HK _) J ?_|refine ag J J J J J J J J (LT _) J ?_))|(refine h7H ?_; first|refine al ?_|refine ae ?_|refine ay ?_|refine aw ?_|refine am ?_|refine aW ?_|refine bc J ?_|refine aA J (fun h=>?_) (fun h=>?_)|refine bk 4 J [(0,_)] (q1Q J) (fun (k : Nat)=>[(3,.one (.d (.int .i64 k)))]) (fun (k : Nat)=>k≤s.length∧iE s = (s.drop k).all (fun c=>gP c.toNat)) (fun (k : Nat)=>s.length - k) 0 (q1Q J) ?_ (fun k ⟨hk,hs⟩=>?_))|(show Exists _; refine Exists.intro (k + 1) ⟨?_,?_,(by (repeat' first|exact ap|refine af J ?_); done),(q1Q J),(q1Q J)⟩)|refine ak ?_|refine aC ?_|refine bd ?_|refine aG ?_|refine aP ?_|refine aX J ?_|refine ai (.inl J) J J ?_)
 all_goals (try (((simp_all [iE,aO,List.drop_eq_nil_of_le]) <;> first | omega | (rw [Bool.eq_iff_iff]; simp; omega) | grind); done))
end Go.Proofs.YtpejdgkaapnekaaGreat
namespace Go.Proofs.YtpejdgkaapnekaaGreat
open Go Go.Abs
attribute [local irreducible] ao OkC aU bg aV bA
set_option maxRecDepth 10000
structure Dim where
 name : List UInt8
 lo : Int
 hi : Int
 deriving Inhabited
structure Attr where
 name : List UInt8
 type : Int
 deriving Inhabited
def wY(d : Dim) : List D:=[.str d.name,.int .i64 d.lo,.int .i64 d.hi]
def bZ(l : List Dim) : D:=.sl 3 32 (l.map wY)
def tD(a : Attr) : List D:=[.str a.name,.int .i64 a.type]
def bT(l : List Attr) : D:=.sl 2 24 (l.map tD)
def dA(n : Int) : List D:=[.int .i64 n]
def bI(l : List Int) : D:=.sl 1 8 (l.map dA)
def sB(hi : Int) : Int:=min hi 1073741824
theorem L4(nm : List UInt8)(lo hi : Int) : CallA Tryz.prog 183 [.agg [.d (.str nm),.d (.int .i64 lo),.d (.int .i64 hi)]] [] (.one (.d (.int .i64 (sB hi)))) []:=by
 refine enter ab Tryz.func183 rfl (by decide +kernel) rfl fun hok w0 σ0 φ0 M=>?_
 repeat' (first|(refine h6H ?_; first|refine ac ?_|refine ah ab J J J J J ?_|(refine bC ?_; refine aM 0 J J J J J J ?_))|(refine h7H ?_; first|refine al ?_|refine ae ?_|refine am ?_)|refine ak ?_|refine ai (.inl J) J J ?_)
 all_goals (try (((simp_all [sB,aO,List.drop_eq_nil_of_le]) <;> first | omega | (rw [Bool.eq_iff_iff]; simp; omega) | grind); done))
theorem Jy(nm : List UInt8)(lo hi : Int) : CallA Tryz.prog 247 [.agg [.d (.str nm),.d (.int .i64 lo),.d (.int .i64 hi)]] [] (.one (.d (.int .i64 (sB hi)))) []:=by
 refine enter ab Tryz.func247 rfl (by decide +kernel) rfl fun hok w0 σ0 φ0 M=>?_
 repeat' (first|(refine h6H ?_; first|refine ac ?_|refine ah ab J J J J J ?_|(refine bC ?_; refine aM 0 J J J J J J ?_))|(refine h7H ?_; first|refine al ?_|refine ae ?_|refine am ?_)|refine ak ?_|refine ai (.inl J) J J ?_)
 all_goals (try (((simp_all [sB,aO,List.drop_eq_nil_of_le]) <;> first | omega | (rw [Bool.eq_iff_iff]; simp; omega) | grind); done))
def g9(lo hi : Int) : Bool:=decide (-1073741824≤lo) && decide (lo≤1073741824) && decide (lo≤hi) && decide (hi≤1073741825)
theorem L5(nm : List UInt8)(lo hi : Int) : CallA Tryz.prog 243 [.agg [.d (.str nm),.d (.int .i64 lo),.d (.int .i64 hi)]] [] (.one (.d (.bool (g9 lo hi)))) []:=by
 refine enter ab Tryz.func243 rfl (by decide +kernel) rfl fun hok w0 σ0 φ0 M=>?_
 repeat' (first|(refine h6H ?_; first|refine ac ?_|refine ah ab J J J J J ?_|(refine h0H ?_; first|refine aT J J (by first|assumption|rfl) ?_|refine bH J J (by first|assumption|rfl) J J ?_|refine bn J J J J (fun h=>?_) (fun h=>?_))|(refine h2H ?_; first|refine s_e aa J J J (aF J J (by first|rfl|assumption) J) ?_|refine s_e aa J J J (az J J (by first|rfl|assumption) J) ?_)|(refine bC ?_; refine aM 0 J J J J J J ?_))|(refine h7H ?_; first|refine al ?_|refine ae ?_|refine am ?_)|refine ak ?_|refine ai (.inl J) J J ?_)
 all_goals (try (((simp_all [g9,aO,List.drop_eq_nil_of_le]) <;> first | omega | (rw [Bool.eq_iff_iff]; simp; omega) | grind); done))
def iS : List Dim→List Int→Bool
 | d::ds,x::xs=>decide (d.lo≤x) && decide (x≤sB d.hi) && iS ds xs
 | _,_=>true
def ofF(ds : List Dim)(at' : List Int) : Bool:=decide (at'.length = ds.length) && iS ds at'
theorem IZ(ds : List Dim)(at' : List Int) : CallA Tryz.prog 100 [.one (.d (bZ ds)),.one (.d (bI at'))] [] (.one (.d (.bool (ofF ds at')))) []:=by
 refine enter ab Tryz.func100 rfl (by decide +kernel) rfl fun hok w0 σ0 φ0 M=>?_
 have h1:=hok.1.sl; have h2:=hok.2.1.sl; clear hok; simp only [List.length_map] at h1 h2; replace h1:=h1.1; replace h2:=h2.1
 repeat' (first|(refine h6H ?_; first|refine ac ?_|refine ah ab J J J J J ?_|(refine h1H ?_; refine s_e aa J J J (aL J J J J (aN (by omega) (by omega))) ?_))|(refine h7H ?_; first|refine al ?_|refine ae ?_|refine ay ?_|refine aw ?_|refine am ?_|refine aW ?_|refine bc J ?_|refine aA J (fun h=>?_) (fun h=>?_)|refine aR progOk.mo ?_|refine bk 4 J [(0,_),(1,_)] (q2Q J J) (fun (k : Nat)=>[(5,.one (.d (.int .i64 k)))]) (fun (k : Nat)=>k≤ds.length∧at'.length = ds.length∧iS ds at' = iS (ds.drop k) (at'.drop k)) (fun (k : Nat)=>ds.length - k) 0 (q1Q J) ?_ (fun k ⟨hk,hq,hs⟩=>?_))|(refine bP ?_; first|refine bG (by kernel_rfl) ?_|refine d_e aa J J J (aK J J) ?_|(refine qO ?_; first|refine jH J J (by first|assumption|rfl) ?_|refine nv J J (by first|assumption|rfl) J J ?_|refine kV J J (fun h=>?_) (fun h=>?_))|(refine qP ?_; first|refine d_e aa J J J (aF J J (by first|rfl|assumption) J) ?_|refine d_e aa J J J (az J J (by first|rfl|assumption) J) ?_)|(refine h8H ?_; refine d_e aa J J J (ar J J J J J (by first|omega|((try simp only [a0A,a1A,a2A,a3A,a4A,a5A,a6A,a7A,a8A,a9A,au,av] at *); omega)) (aJ (by first|omega|((try simp only [a0A,a1A,a2A,a3A,a4A,a5A,a6A,a7A,a8A,a9A,au,av] at *); omega)))) ?_)|(refine h9H ?_; refine d_l J J (bj J J J J J J (L4 _ _ _) J) ?_))|(show Exists _; refine Exists.intro (k + 1) ⟨?_,?_,(by (repeat' first|exact ap|refine af J ?_); done),(q1Q J),(q2Q J J)⟩)|refine ak ?_|refine aC ?_|refine bd ?_|refine aG ?_|refine aP ?_|refine aX J ?_|refine ai (.inl J) J J ?_)
 all_goals (try (((simp_all [ofF,iS,aO,List.drop_eq_nil_of_le]) <;> first | omega | (rw [Bool.eq_iff_iff]; simp; omega) | grind); done))
def na(ds : List Dim)(ats : List Attr)(name : List UInt8) : Bool:=ds.any (fun d=>d.name == name) || ats.any (fun a=>a.name == name)
theorem L6(ds : List Dim)(ats : List Attr)(n : Nat)(name : List UInt8)(hn : n≤ats.length) : CallA Tryz.prog 192 [.one (.d (bZ ds)),.one (.d (bT ats)),.one (.d (.int .i64 n)),.one (.d (.str name))] [] (.one (.d (.bool (na ds (ats.take n) name)))) []:=by
 refine enter ab Tryz.func192 rfl (by decide +kernel) rfl fun hok w0 σ0 φ0 M=>?_
 have h1:=hok.1.sl; have h2:=hok.2.1.sl; clear hok; simp only [List.length_map] at h1 h2; replace h1:=h1.1; replace h2:=h2.1
 repeat' (first|(refine h6H ?_; first|refine ac ?_|refine ah ab J J J J J ?_|(refine h1H ?_; refine s_e aa J J J (aL J J J J (aN (by omega) (by omega))) ?_)|(refine h3H ?_; refine s_e aa J J J (ar J J J J J (by first|omega|((try simp only [a0A,a1A,a2A,a3A,a4A,a5A,a6A,a7A,a8A,a9A,au,av] at *); omega)) (aJ (by first|omega|((try simp only [a0A,a1A,a2A,a3A,a4A,a5A,a6A,a7A,a8A,a9A,au,av] at *); omega)))) ?_))|(refine h7H ?_; first|refine al ?_|refine ae ?_|refine ay ?_|refine aw ?_|refine am ?_|refine aW ?_|refine aA J (fun h=>?_) (fun h=>?_)|refine bk 2 J [(0,_),(1,_),(2,_),(3,_)] (q4Q J J J J) (fun (k : Nat)=>[(9,.one (.d (.int .i64 k)))]) (fun (k : Nat)=>k≤ds.length∧na ds (ats.take n) name = ((ds.drop k).any (fun d=>d.name == name) || (ats.take n).any (fun a=>a.name == name))) (fun (k : Nat)=>ds.length - k) 0 (q1Q J) ?_ (fun k ⟨hk,hs⟩=>?_)|refine bk 7 J [(1,_),(2,_),(3,_)] (q3Q J J J) (fun (k : Nat)=>[(10,.one (.d (.int .i64 k)))]) (fun (k : Nat)=>k≤n∧na ds (ats.take n) name = ((ats.take n).drop k).any (fun a=>a.name == name)) (fun (k : Nat)=>n - k) 0 (q1Q J) ?_ (fun k ⟨hk,hs⟩=>?_))|(show Exists _; first|refine Exists.intro (k + 1) ⟨?_,?_,(by first|(repeat' first|exact ap|refine af J ?_) <;> fail),(q1Q J),(q3Q J J J)⟩|refine Exists.intro (k + 1) ⟨?_,?_,(by first|(repeat' first|exact ap|refine af J ?_) <;> fail),(q1Q J),(q4Q J J J J)⟩)|refine ak ?_|refine aC ?_|refine bd ?_|refine aG ?_|refine aP ?_|refine aX J ?_|refine ai (.inl J) J J ?_)
 all_goals (try (((simp_all [na,re,Nat.min_eq_left hn,aO,List.drop_eq_nil_of_le]) <;> first | omega | (rw [Bool.eq_iff_iff]; simp; omega) | grind); done))
def gQ : List (List UInt8)→List Dim→Int
 | _,[]=>0
 | met,d::r=>if !iE d.name || met.contains d.name then 11 else if !g9 d.lo d.hi then 3 else gQ (met ++ [d.name]) r
def er(ds : List Dim) : Int:=if (ds.length : Int) < 1∨4 < (ds.length : Int) then 13 else gQ [] ds
theorem L7(ds : List Dim) : CallA Tryz.prog 191 [.one (.d (bZ ds))] [] (.one (.d (.int .i64 (er ds)))) []:=by
 refine enter ab Tryz.func191 rfl (by decide +kernel) rfl fun hok w0 σ0 φ0 M=>?_
 have h1:=hok.1.sl; clear hok; simp only [List.length_map] at h1; replace h1:=h1.1
 repeat' (first|(refine h6H ?_; first|refine ac ?_|refine ah ab J J J J J ?_|(refine h0H ?_; first|refine aT J J (by first|assumption|rfl) ?_|refine bH J J (by first|assumption|rfl) J J ?_|refine bn J J J J (fun h=>?_) (fun h=>?_))|(refine h1H ?_; refine s_e aa J J J (aL J J J J (aN (by omega) (by omega))) ?_)|(refine h2H ?_; first|refine s_e aa J J J (aF J J (by first|rfl|assumption) J) ?_|refine s_e aa J J J (az J J (by first|rfl|assumption) J) ?_)|(refine h3H ?_; first|refine s_e aa J J J (ar J J J J J (by omega) (aJ (by omega))) ?_|refine s_e aa J J J (ar J J J J J (by first|omega|((try simp only [a0A,a1A,a2A,a3A,a4A,a5A,a6A,a7A,a8A,a9A,au,av] at *); omega)) (aJ (by first|omega|((try simp only [a0A,a1A,a2A,a3A,a4A,a5A,a6A,a7A,a8A,a9A,au,av] at *); omega)))) ?_)|(refine h4H ?_; first|refine ag J J J J J J J J (HL _) J ?_|refine ag J J J J J J J J (L5 _ _ _) J ?_))|(refine h7H ?_; first|refine al ?_|refine ae ?_|refine ay ?_|refine aw ?_|refine am ?_|refine aW ?_|refine bc J ?_|refine aA J (fun h=>?_) (fun h=>?_)|refine aR progOk.mo ?_|refine bk 4 J [(0,_)] (q1Q J) (fun (k : Nat)=>[(3,.one (.d (.int .i64 k)))]) (fun (k : Nat)=>k≤ds.length∧1≤ds.length∧ds.length≤4∧er ds = gQ ((ds.take k).map Dim.name) (ds.drop k)) (fun (k : Nat)=>ds.length - k) 0 (q1Q J) ?_ (fun k ⟨hk,hq,hq2,hs⟩=>?_)|refine bk 9 J [(0,_),(3,_)] (q2Q J J) (fun (j : Nat)=>[(4,.one (.d (.int .i64 j)))]) (fun (j : Nat)=>j≤k∧k < ds.length∧iE (at_ ds k).name = true∧((ds.take j).map Dim.name).contains (at_ ds k).name = false) (fun (j : Nat)=>k - j) 0 (q1Q J) ?_ (fun j ⟨hj,hkl,hnm,hjs⟩=>?_))|(refine bP ?_; first|refine bG (by kernel_rfl) ?_|refine d_e aa J J J (aK J J) ?_|(refine h8H ?_; refine d_e aa J J J (ar J J J J J (by omega) (aJ (by omega))) ?_))|(show Exists _; first|refine Exists.intro (j + 1) ⟨?_,?_,(by first|(repeat' first|exact ap|refine af J ?_) <;> fail),(q1Q J),(q2Q J J)⟩|refine Exists.intro (k + 1) ⟨?_,?_,(by first|(repeat' first|exact ap|refine af J ?_) <;> fail),(q1Q J),(q1Q J)⟩)|refine ak ?_|refine aC ?_|refine bd ?_|refine aG ?_|refine aP ?_|refine aX J ?_|refine ai (.inl J) J J ?_)
 all_goals (try (((simp_all [er,gQ,gl,aO,List.drop_eq_nil_of_le]) <;> first | omega | (rw [Bool.eq_iff_iff]; simp; omega) | grind); done))
 ·rename_i hlt
  have hlt' : j < k:=by simpa using hlt
  have he : (at_ ds j).name = (at_ ds k).name:=by simpa using h
  rw [hs,aO hkl]; simp only [gQ]; rw [DY hlt' hk he]; simp
 ·rename_i hlt
  have hlt' : j < k:=by simpa using hlt
  have he : ¬ (at_ ds j).name = (at_ ds k).name:=by simpa using h
  refine ⟨by omega,hkl,hnm,?_⟩
  rw [gl (by omega)]
  simp at hjs ⊢
  exact ⟨hjs,fun e=>he e.symm⟩
def jN : List (List UInt8)→List Attr→Int
 | _,[]=>0
 | met,a::r=>if !iE a.name || met.contains a.name then 11 else if a.type < 1∨4 < a.type then 12 else jN (met ++ [a.name]) r
def d7(ds : List Dim)(ats : List Attr) : Int:=if er ds≠0 then er ds else if (ats.length : Int) < 1∨6 < (ats.length : Int) then 9 else jN (ds.map Dim.name) ats
theorem Eg{ds : List Dim}{ats : List Attr}{x : List UInt8} : na ds ats x = (ds.map Dim.name ++ ats.map Attr.name).contains x:=by
 rw [Bool.eq_iff_iff]
 simp [na]
theorem J8(ds : List Dim)(ats : List Attr) : CallA Tryz.prog 115 [.one (.d (bZ ds)),.one (.d (bT ats))] [] (.one (.d (.int .i64 (d7 ds ats)))) []:=by
 refine enter ab Tryz.func115 rfl (by decide +kernel) rfl fun hok w0 σ0 φ0 M=>?_
 have h1:=hok.1.sl; have h2:=hok.2.1.sl; clear hok; simp only [List.length_map] at h1 h2; replace h1:=h1.1; replace h2:=h2.1
 repeat' (first|(refine h6H ?_; first|refine ac ?_|refine ah ab J J J J J ?_|(refine h0H ?_; first|refine aT J J (by first|assumption|rfl) ?_|refine bH J J (by first|assumption|rfl) J J ?_|refine bn J J J J (fun h=>?_) (fun h=>?_))|(refine h1H ?_; refine s_e aa J J J (aL J J J J (aN (by omega) (by omega))) ?_)|(refine h2H ?_; first|refine s_e aa J J J (aF J J (by first|rfl|assumption) J) ?_|refine s_e aa J J J (az J J (by first|rfl|assumption) J) ?_)|(refine h3H ?_; refine s_e aa J J J (ar J J J J J (by first|omega|((try simp only [a0A,a1A,a2A,a3A,a4A,a5A,a6A,a7A,a8A,a9A,au,av] at *); omega)) (aJ (by first|omega|((try simp only [a0A,a1A,a2A,a3A,a4A,a5A,a6A,a7A,a8A,a9A,au,av] at *); omega)))) ?_)|(refine h4H ?_; first|refine ag J J J J J J J J (HL _) J ?_|refine ag J J J J J J J J (L7 _) J ?_|refine ag J J J J J J J J (L6 _ _ _ _ (by assumption)) J ?_))|(refine h7H ?_; first|refine al ?_|refine ae ?_|refine ay ?_|refine aw ?_|refine am ?_|refine aW ?_|refine bc J ?_|refine aA J (fun h=>?_) (fun h=>?_)|refine bk 7 J [(0,_),(1,_)] (q2Q J J) (fun (k : Nat)=>[(6,.one (.d (.int .i64 k)))]) (fun (k : Nat)=>k≤ats.length∧er ds = 0∧1≤ats.length∧ats.length≤6∧d7 ds ats = jN (ds.map Dim.name ++ (ats.take k).map Attr.name) (ats.drop k)) (fun (k : Nat)=>ats.length - k) 0 (q1Q J) ?_ (fun k ⟨hk,hd,hq,hq2,hs⟩=>?_))|(show Exists _; refine Exists.intro (k + 1) ⟨?_,?_,(by (repeat' first|exact ap|refine af J ?_); done),(q1Q J),(q2Q J J)⟩)|refine ak ?_|refine aC ?_|refine bd ?_|refine aG ?_|refine aP ?_|refine aX J ?_|refine ai (.inl J) J J ?_)
 all_goals (try (((simp_all [d7,jN,gl,Eg,aO,List.drop_eq_nil_of_le]) <;> first | omega | (rw [Bool.eq_iff_iff]; simp; omega) | grind); done))
end Go.Proofs.YtpejdgkaapnekaaGreat
namespace Go.Proofs.YtpejdgkaapnekaaGreat
open Go Go.Abs
attribute [local irreducible] ao OkC aU bg aV bA
set_option maxRecDepth 10000
structure Val where
 kind : Int
 num : Int
 den : Int
 str : List UInt8
 deriving Inhabited
def aj(v : Val) : List D:=[.int .i64 v.kind,.int .i64 v.num,.int .i64 v.den,.str v.str]
def bf(l : List Val) : D:=.sl 4 40 (l.map aj)
def mH(d : Int)(s : List UInt8) : Bool:=d == 0 && s == []
theorem LY(k n d : Int)(s : List UInt8) : CallA Tryz.prog 279 [.agg [.d (.int .i64 k),.d (.int .i64 n),.d (.int .i64 d),.d (.str s)]] [] (.one (.d (.bool (mH d s)))) []:=by
 refine enter ab Tryz.func279 rfl (by decide +kernel) rfl fun hok w0 σ0 φ0 M=>?_
 repeat' (first|(refine h6H ?_; first|refine ac ?_|refine ah ab J J J J J ?_|(refine h0H ?_; first|refine aT J J (by first|assumption|rfl) ?_|refine bH J J (by first|assumption|rfl) J J ?_|refine bn J J J J (fun h=>?_) (fun h=>?_))|(refine h2H ?_; first|refine s_e aa J J J (aF J J (by first|rfl|assumption) J) ?_|refine s_e aa J J J (az J J (by first|rfl|assumption) J) ?_)|(refine bC ?_; refine aM 0 J J J J J J ?_))|(refine h7H ?_; first|refine al ?_|refine ae ?_|refine am ?_)|refine ak ?_|refine ai (.inl J) J J ?_)
 all_goals (try (((simp_all [mH,aO,List.drop_eq_nil_of_le]) <;> first | omega | (rw [Bool.eq_iff_iff]; simp; omega) | grind); done))
theorem LZ(a b : Nat) : CallA Tryz.prog 280 [.one (.d (.int .i64 a)),.one (.d (.int .i64 b))] [] (.one (.d (.int .i64 (Nat.gcd a b)))) []:=by
 refine enter ab Tryz.func280 rfl (by decide +kernel) rfl fun hok w0 σ0 φ0 M=>?_
 repeat' (first|(refine h6H ?_; first|refine ac ?_|refine ah ab J J J J J ?_)|(refine h7H ?_; first|refine al ?_|refine ae ?_|refine ay ?_|refine aw ?_|refine am ?_|refine aW ?_|refine aA J (fun h=>?_) (fun h=>?_)|refine aR progOk.mo ?_|refine bk 1 J [] ap (fun (p : Nat×Nat)=>[(0,.one (.d (.int .i64 (p.1 : Int)))),(1,.one (.d (.int .i64 (p.2 : Int))))]) (fun (p : Nat×Nat)=>Nat.gcd p.1 p.2 = Nat.gcd a b) (fun (p : Nat×Nat)=>p.2) (a,b) (q2Q J J) ?_ (fun p hg=>?_))|(refine bP ?_; first|refine bG (by kernel_rfl) ?_|refine d_e aa J J J (aK J J) ?_|(refine GJ ?_; refine d_e aa J J J (uB J J J J (by first|omega|((try simp only [a0A,a1A,a2A,a3A,a4A,a5A,a6A,a7A,a8A,a9A,au,av] at *); omega))) ?_))|(show Exists _; refine Exists.intro ((p.2,p.1 % p.2)) ⟨?_,?_,(by (repeat' first|exact ap|refine af J ?_); done),(q2Q J J),ap⟩)|refine ak ?_|refine bd ?_|refine aG ?_|refine aX J ?_|refine ai (.inl J) J J ?_)
 all_goals (try (((simp_all [aO,List.drop_eq_nil_of_le]) <;> first | omega | (rw [Bool.eq_iff_iff]; simp; omega) | grind); done))
 ·have h' : p.2≠0:=by simpa using h
  show Nat.gcd p.2 (p.1 % p.2) = _
  rw [Nat.gcd_comm,← Nat.gcd_rec,Nat.gcd_comm]; exact hg
 ·have h' : p.2≠0:=by simpa using h
  exact Nat.mod_lt _ (by omega)
end Go.Proofs.YtpejdgkaapnekaaGreat
namespace Go.Proofs.YtpejdgkaapnekaaGreat
open Go Go.Abs
attribute [local irreducible] ao OkC aU bg aV bA
set_option maxRecDepth 10000
theorem Jj(ds : List Dim)(at' : List Int) : CallA Tryz.prog 204 [.one (.d (bZ ds)),.one (.d (bI at'))] [] (.one (.d (.bool (ofF ds at')))) []:=by
 refine enter ab Tryz.func204 rfl (by decide +kernel) rfl fun hok w0 σ0 φ0 M=>?_
 have h1:=hok.1.sl; have h2:=hok.2.1.sl; clear hok; simp only [List.length_map] at h1 h2; replace h1:=h1.1; replace h2:=h2.1
 repeat' (first|(refine h6H ?_; first|refine ac ?_|refine ah ab J J J J J ?_|(refine h0H ?_; first|refine aT J J (by first|assumption|rfl) ?_|refine bH J J (by first|assumption|rfl) J J ?_|refine bn J J J J (fun h=>?_) (fun h=>?_))|(refine h1H ?_; refine s_e aa J J J (aL J J J J (aN (by omega) (by omega))) ?_)|(refine h2H ?_; first|refine s_e aa J J J (aF J J (by first|rfl|assumption) J) ?_|refine s_e aa J J J (az J J (by first|rfl|assumption) J) ?_)|(refine h3H ?_; refine s_e aa J J J (ar J J J J J (by first|omega|((try simp only [a0A,a1A,a2A,a3A,a4A,a5A,a6A,a7A,a8A,a9A,au,av] at *); omega)) (aJ (by first|omega|((try simp only [a0A,a1A,a2A,a3A,a4A,a5A,a6A,a7A,a8A,a9A,au,av] at *); omega)))) ?_)|(refine h4H ?_; refine ag J J J J J J J J (Jy _ _ _) J ?_))|(refine h7H ?_; first|refine al ?_|refine ae ?_|refine ay ?_|refine aw ?_|refine am ?_|refine aW ?_|refine bc J ?_|refine aA J (fun h=>?_) (fun h=>?_)|refine bk 4 J [(0,_),(12,_),(13,_)] (q3Q J J J) (fun (k : Nat)=>[(14,.one (.d (.int .i64 k)))]) (fun (k : Nat)=>k≤ds.length∧at'.length = ds.length∧iS ds at' = iS (ds.drop k) (at'.drop k)) (fun (k : Nat)=>ds.length - k) 0 (q1Q J) ?_ (fun k ⟨hk,hq,hs⟩=>?_))|(show Exists _; refine Exists.intro (k + 1) ⟨?_,?_,(by (repeat' first|exact ap|refine af J ?_); done),(q1Q J),(q3Q J J J)⟩)|refine ak ?_|refine aC ?_|refine bd ?_|refine aG ?_|refine aP ?_|refine aX J ?_|refine ai (.inl J) J J ?_)
 all_goals (try (((simp_all [ofF,iS,aO,List.drop_eq_nil_of_le]) <;> first | omega | (rw [Bool.eq_iff_iff]; simp; omega) | grind); done))
def cD : List Int→List Int→Int
 | [],[]=>0
 | [],_::_=>-1
 | _::_,[]=>1
 | x::xs,y::ys=>if x < y then -1 else if y < x then 1 else cD xs ys
theorem wo{b : List Int} : cD [] b = if b = [] then 0 else -1:=by cases b <;> simp [cD]
theorem um{a : List Int} : cD a [] = if a = [] then 0 else 1:=by cases a <;> simp [cD]
theorem Jz(a b : List Int) : CallA Tryz.prog 176 [.one (.d (bI a)),.one (.d (bI b))] [] (.one (.d (.int .i64 (cD a b)))) []:=by
 refine enter ab Tryz.func176 rfl (by decide +kernel) rfl fun hok w0 σ0 φ0 M=>?_
 have h1:=hok.1.sl; have h2:=hok.2.1.sl; clear hok; simp only [List.length_map] at h1 h2; replace h1:=h1.1; replace h2:=h2.1
 repeat' (first|(refine h6H ?_; first|refine ac ?_|refine ah ab J J J J J ?_|(refine h0H ?_; first|refine aT J J (by first|assumption|rfl) ?_|refine bH J J (by first|assumption|rfl) J J ?_|refine bn J J J J (fun h=>?_) (fun h=>?_))|(refine h1H ?_; refine s_e aa J J J (aL J J J J (aN (by omega) (by omega))) ?_)|(refine h2H ?_; first|refine s_e aa J J J (aF J J (by first|rfl|assumption) J) ?_|refine s_e aa J J J (az J J (by first|rfl|assumption) J) ?_))|(refine h7H ?_; first|refine al ?_|refine ae ?_|refine ay ?_|refine aw ?_|refine am ?_|refine aW ?_|refine bm J ?_|refine aA J (fun h=>?_) (fun h=>?_)|refine aR progOk.mo ?_|refine bk 2 J [(0,_),(1,_)] (q2Q J J) (fun (k : Nat)=>[(5,.one (.d (.int .i64 k)))]) (fun (k : Nat)=>k≤a.length∧k≤b.length∧cD a b = cD (a.drop k) (b.drop k)) (fun (k : Nat)=>a.length - k) 0 (q1Q J) ?_ (fun k ⟨hk,hq,hs⟩=>?_))|(refine bP ?_; first|refine bG (by kernel_rfl) ?_|refine d_e aa J J J (aK J J) ?_|(refine h8H ?_; refine d_e aa J J J (ar J J J J J (by first|omega|((try simp only [a0A,a1A,a2A,a3A,a4A,a5A,a6A,a7A,a8A,a9A,au,av] at *); omega)) (aJ (by first|omega|((try simp only [a0A,a1A,a2A,a3A,a4A,a5A,a6A,a7A,a8A,a9A,au,av] at *); omega)))) ?_))|(show Exists _; refine Exists.intro (k + 1) ⟨?_,?_,(by (repeat' first|exact ap|refine af J ?_); done),(q1Q J),(q2Q J J)⟩)|refine ak ?_|refine aC ?_|refine bd ?_|refine aG ?_|refine aP ?_|refine aX J ?_|refine ai (.inl J) J J ?_)
 all_goals (try (((simp_all [cD,wo,um,aO,List.drop_eq_nil_of_le]) <;> first | omega | (rw [Bool.eq_iff_iff]; simp; omega) | grind); done))
theorem JA(x : Int) : CallA Tryz.prog 246 [.one (.d (.int .i64 x))] [] (.one (.d (.bool false))) []:=by
 refine enter ab Tryz.func246 rfl (by decide +kernel) rfl fun hok w0 σ0 φ0 M=>?_
 repeat' (first|(refine h6H ?_; first|refine ac ?_|refine ah ab J J J J J ?_)|(refine h7H ?_; first|refine al ?_|refine ae ?_|refine am ?_)|refine ak ?_|refine ai (.inl J) J J ?_)
 all_goals (try (((simp_all [aO,List.drop_eq_nil_of_le]) <;> first | omega | (rw [Bool.eq_iff_iff]; simp; omega) | grind); done))
theorem JB(x y : Int) : CallA Tryz.prog 198 [.one (.d (.int .i64 x)),.one (.d (.int .i64 y))] [] (.one (.d (.int .i64 (if x < y then -1 else if y < x then 1 else 0)))) []:=by
 refine enter ab Tryz.func198 rfl (by decide +kernel) rfl fun hok w0 σ0 φ0 M=>?_
 repeat' (first|(refine h6H ?_; first|refine ac ?_|refine ah ab J J J J J ?_|(refine h4H ?_; refine ag J J J J J J J J (JA _) J ?_))|(refine h7H ?_; first|refine al ?_|refine ae ?_|refine aw ?_|refine am ?_|refine bm J ?_|refine aA J (fun h=>?_) (fun h=>?_))|refine ak ?_|refine aC ?_|refine ai (.inl J) J J ?_)
 all_goals (try (((simp_all [aO,List.drop_eq_nil_of_le]) <;> first | omega | (rw [Bool.eq_iff_iff]; simp; omega) | grind); done))
theorem JC(a b : List Int) : CallA Tryz.prog 130 [.one (.d (bI a)),.one (.d (bI b))] [] (.one (.d (.int .i64 (cD a b)))) []:=by
 refine enter ab Tryz.func130 rfl (by decide +kernel) rfl fun hok w0 σ0 φ0 M=>?_
 have h1:=hok.1.sl; have h2:=hok.2.1.sl; clear hok; simp only [List.length_map] at h1 h2; replace h1:=h1.1; replace h2:=h2.1
 repeat' (first|(refine h6H ?_; first|refine ac ?_|refine ah ab J J J J J ?_|(refine h1H ?_; refine s_e aa J J J (aL J J J J (aN (by omega) (by omega))) ?_)|(refine h3H ?_; refine s_e aa J J J (ar J J J J J (by first|omega|((try simp only [a0A,a1A,a2A,a3A,a4A,a5A,a6A,a7A,a8A,a9A,au,av] at *); omega)) (aJ (by first|omega|((try simp only [a0A,a1A,a2A,a3A,a4A,a5A,a6A,a7A,a8A,a9A,au,av] at *); omega)))) ?_)|(refine h4H ?_; refine ag J J J J J J J J (JB _ _) J ?_))|(refine h7H ?_; first|refine al ?_|refine ae ?_|refine ay ?_|refine aw ?_|refine am ?_|refine aW ?_|refine aA J (fun h=>?_) (fun h=>?_)|refine bk 2 J [(0,_),(1,_),(9,_),(10,_)] (q4Q J J J J) (fun (k : Nat)=>[(11,.one (.d (.int .i64 k)))]) (fun (k : Nat)=>k≤a.length∧k≤b.length∧cD a b = cD (a.drop k) (b.drop k)) (fun (k : Nat)=>a.length - k) 0 (q1Q J) ?_ (fun k ⟨hk,hq,hs⟩=>?_))|(show Exists _; refine Exists.intro (k + 1) ⟨?_,?_,(by (repeat' first|exact ap|refine af J ?_); done),(q1Q J),(q4Q J J J J)⟩)|refine ak ?_|refine aC ?_|refine bd ?_|refine aG ?_|refine aP ?_|refine aX J ?_|refine ai (.inl J) J J ?_)
 all_goals (try (((simp_all [cD,wo,um,aO,List.drop_eq_nil_of_le]) <;> first | omega | (rw [Bool.eq_iff_iff]; simp; omega) | grind); done))
theorem c35(a b : List Int) : CallA Tryz.prog 35 [.one (.d (bI a)),.one (.d (bI b))] [] (.one (.d (.int .i64 (cD a b)))) []:=by
 refine enter ab Tryz.func35 rfl (by decide +kernel) rfl fun hok w0 σ0 φ0 M=>?_
 repeat' (first|(refine h6H ?_; first|refine ac ?_|refine ah ab J J J J J ?_|(refine h4H ?_; refine ag J J J J J J J J (JC _ _) J ?_))|(refine h7H ?_; first|refine al ?_|refine ae ?_|refine am ?_)|refine ak ?_|refine ai (.inl J) J J ?_)
 all_goals (try (((simp_all [aO,List.drop_eq_nil_of_le]) <;> first | omega | (rw [Bool.eq_iff_iff]; simp; omega) | grind); done))
def bS{α : Type}(p : α→Bool) : List α→Nat→Int
 | [],_=>-1
 | x::r,k=>if p x then k else bS p r (k + 1)
theorem C9(l : List Attr)(name : List UInt8) : CallA Tryz.prog 114 [.one (.d (bT l)),.one (.d (.str name))] [] (.one (.d (.int .i64 (bS (fun a : Attr=>a.name == name) l 0)))) []:=by
 refine enter ab Tryz.func114 rfl (by decide +kernel) rfl fun hok w0 σ0 φ0 M=>?_
 have h1:=hok.1.sl; clear hok; simp only [List.length_map] at h1; replace h1:=h1.1
 repeat' (first|(refine h6H ?_; first|refine ac ?_|refine ah ab J J J J J ?_|(refine h1H ?_; refine s_e aa J J J (aL J J J J (aN (by omega) (by omega))) ?_)|(refine h3H ?_; refine s_e aa J J J (ar J J J J J (by first|omega|((try simp only [a0A,a1A,a2A,a3A,a4A,a5A,a6A,a7A,a8A,a9A,au,av] at *); omega)) (aJ (by first|omega|((try simp only [a0A,a1A,a2A,a3A,a4A,a5A,a6A,a7A,a8A,a9A,au,av] at *); omega)))) ?_))|(refine h7H ?_; first|refine al ?_|refine ae ?_|refine ay ?_|refine aw ?_|refine am ?_|refine aW ?_|refine aA J (fun h=>?_) (fun h=>?_)|refine bk 2 J [(0,_),(1,_)] (q2Q J J) (fun (k : Nat)=>[(5,.one (.d (.int .i64 k)))]) (fun (k : Nat)=>k≤l.length∧bS (fun a : Attr=>a.name == name) l 0 = bS (fun a : Attr=>a.name == name) (l.drop k) k) (fun (k : Nat)=>l.length - k) 0 (q1Q J) ?_ (fun k ⟨hk,hs⟩=>?_))|(show Exists _; refine Exists.intro (k + 1) ⟨?_,?_,(by (repeat' first|exact ap|refine af J ?_); done),(q1Q J),(q2Q J J)⟩)|refine ak ?_|refine aC ?_|refine bd ?_|refine aG ?_|refine aP ?_|refine aX J ?_|refine ai (.inl J) J J ?_)
 all_goals (try (((simp_all [bS,aO,List.drop_eq_nil_of_le]) <;> first | omega | (rw [Bool.eq_iff_iff]; simp; omega) | grind); done))
theorem Dh(l : List Dim)(name : List UInt8) : CallA Tryz.prog 118 [.one (.d (bZ l)),.one (.d (.str name))] [] (.one (.d (.int .i64 (bS (fun a : Dim=>a.name == name) l 0)))) []:=by
 refine enter ab Tryz.func118 rfl (by decide +kernel) rfl fun hok w0 σ0 φ0 M=>?_
 have h1:=hok.1.sl; clear hok; simp only [List.length_map] at h1; replace h1:=h1.1
 repeat' (first|(refine h6H ?_; first|refine ac ?_|refine ah ab J J J J J ?_|(refine h1H ?_; refine s_e aa J J J (aL J J J J (aN (by omega) (by omega))) ?_)|(refine h3H ?_; refine s_e aa J J J (ar J J J J J (by first|omega|((try simp only [a0A,a1A,a2A,a3A,a4A,a5A,a6A,a7A,a8A,a9A,au,av] at *); omega)) (aJ (by first|omega|((try simp only [a0A,a1A,a2A,a3A,a4A,a5A,a6A,a7A,a8A,a9A,au,av] at *); omega)))) ?_))|(refine h7H ?_; first|refine al ?_|refine ae ?_|refine ay ?_|refine aw ?_|refine am ?_|refine aW ?_|refine aA J (fun h=>?_) (fun h=>?_)|refine bk 2 J [(0,_),(1,_)] (q2Q J J) (fun (k : Nat)=>[(5,.one (.d (.int .i64 k)))]) (fun (k : Nat)=>k≤l.length∧bS (fun a : Dim=>a.name == name) l 0 = bS (fun a : Dim=>a.name == name) (l.drop k) k) (fun (k : Nat)=>l.length - k) 0 (q1Q J) ?_ (fun k ⟨hk,hs⟩=>?_))|(show Exists _; refine Exists.intro (k + 1) ⟨?_,?_,(by (repeat' first|exact ap|refine af J ?_); done),(q1Q J),(q2Q J J)⟩)|refine ak ?_|refine aC ?_|refine bd ?_|refine aG ?_|refine aP ?_|refine aX J ?_|refine ai (.inl J) J J ?_)
 all_goals (try (((simp_all [bS,aO,List.drop_eq_nil_of_le]) <;> first | omega | (rw [Bool.eq_iff_iff]; simp; omega) | grind); done))
end Go.Proofs.YtpejdgkaapnekaaGreat
namespace Go.Proofs.YtpejdgkaapnekaaGreat
open Go Go.Abs
theorem oh : ∀ a b c : List Int,cD a b≤0→cD b c≤0→cD a c≤0∧(cD a c = 0→cD a b = 0∧cD b c = 0)
 | [],[],[],_,_=>by simp [cD]
 | [],[],_::_,_,_=>by simp [cD]
 | [],_::_,[],_,h=>by simp [cD] at h
 | [],_::_,_::_,_,_=>by simp [cD]
 | _::_,[],_,h,_=>by simp [cD] at h
 | _::_,_::_,[],_,h=>by simp [cD] at h
 | x::a,y::b,z::c,h1,h2=>by
   have ih:=oh a b c
   simp only [cD] at h1 h2 ⊢
   split at h1 <;> split at h2 <;> (try split at h1) <;> (try split at h2) <;> (try omega)
   all_goals first
    | (rw [if_pos (by omega)]; omega)
    | (have:=ih h1 h2
       simp only [if_neg (show ¬ x < y by omega),if_neg (show ¬ y < x by omega),if_neg (show ¬ y < z by omega),if_neg (show ¬ z < y by omega),if_neg (show ¬ x < z by omega),if_neg (show ¬ z < x by omega)]
       exact this)
end Go.Proofs.YtpejdgkaapnekaaGreat
