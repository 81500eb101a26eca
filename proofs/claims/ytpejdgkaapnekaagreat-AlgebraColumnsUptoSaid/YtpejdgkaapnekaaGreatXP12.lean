import Derived.LoopNIn
import Derived.Laws.RangeAny
import Derived.Test.YtpejdgkaapnekaaGreatXP11
set_option linter.unusedVariables false
set_option linter.unusedSimpArgs false
set_option maxHeartbeats 1000000
namespace Go.Abs
open Go
variable {P : Program} {V : Env} {T : Tab} {c : Ctx} {w0 : World} {σ0 : Sig} {φ0 : Pl} {M : Nat→Prop} {n : Nat} {rd : Option Nat} {mk : List Deferred} {ops : Array Oper} {o : Oper} {rest : List Oper} {fr : List (Nat×AV)} {sto : Sto} {K : St→Prop} {st st0 : St}
def dj(met : List (List UInt8)) : List (List D×List D):=met.map fun nm=>([.str nm],[.bool true])
theorem rm{s : List UInt8} : ∀ {met : List (List UInt8)} {i : Nat},(met.contains s = true→∃ j,cP [.str s] (dj met) i = some (j,[.bool true]))∧(met.contains s = false→cP [.str s] (dj met) i = none)
 | [],i=>by simp [dj,cP]
 | x::r,i=>by
   have ih:=rm (s:=s) (met:=r) (i:=i + 1)
   simp only [dj,List.map_cons,cP,cL,eqD,Bool.and_true,List.contains_cons] at ih ⊢
   cases hb : (s == x) with
   | true=>simp
   | false=>simpa [hb] using ih
theorem z6{s : List UInt8} : ∀ {met : List (List UInt8)},met.contains s = false→gX [.str s] [.bool true] (dj met) = dj (met ++ [s])
 | [],_=>rfl
 | x::r,h=>by
   simp only [List.contains_cons,Bool.or_eq_false_iff] at h
   have ih:=z6 (s:=s) (met:=r) h.2
   simp only [dj,List.map_cons,gX,cL,eqD,Bool.and_true,List.cons_append,h.1,cond_false] at ih ⊢
   rw [ih]
theorem n9 : ∀ {met : List (List UInt8)},gi [.str] (dj met) = true
 | []=>rfl
 | x::r=>by
   have ih:=n9 (met:=r)
   simp only [dj,List.map_cons,gi,fw,Di,Bool.and_true,Bool.true_and] at ih ⊢
   exact ih
theorem F0(hV : EnvOk P V){d t id : Nat}{m : MTy}{x y : Operand}{s : List UInt8}{met : List (List UInt8)}(ho : o.op = .lookup t x y false)(hg : o.guard = none)(hdst : o.dst = some d)(hd : Nat.blt d n = true)
  (hm : look V.M t = some m) (hms : m.ks = [.str]) (hk : m.kg = false) (hv : m.vg = false) (hz : m.z = [.bool false])
  (hx : ev ⟨fr,sto⟩ x = some (.one (.mapr id))) (hl : look sto id = some (.map false false (dj met))) (hy : ev ⟨fr,sto⟩ y = some (.one (.d (.str s))))
  (h : ae P ⟨w0,σ0,φ0,M,n,rd,mk⟩ ops rest ⟨(d,.one (.d (.bool (met.contains s))))::fr,sto⟩ K) : ae P ⟨w0,σ0,φ0,M,n,rd,mk⟩ ops (o::rest) ⟨fr,sto⟩ K:=by
 refine rp (hV.M t m hm) ho hg (by rw [hdst]; exact hd) hx (es:=dj met) (by rw [hl,hk,hv]) hy (kd:=[.str s]) (by rw [hk]; rfl) (by rw [hms]; rfl) (by rw [hms]; exact n9) (v:=.one (.d (.bool (met.contains s)))) ?_ (by rw [hdst]; exact h)
 cases hb : met.contains s with
 | true =>
   obtain ⟨j,hj⟩:=(rm (i:=0)).1 hb
   simp only [sc,hj,hv,wi]; rfl
 | false =>
   simp only [sc,(rm (i:=0)).2 hb,hv,hz,wi]; rfl
theorem HU(hV : EnvOk P V){t id : Nat}{m : MTy}{x y z : Operand}{s : List UInt8}{met : List (List UInt8)}(ho : o.op = .mapUpdate t x y z)(hg : o.guard = none)(hdst : o.dst = none)
  (hm : look V.M t = some m) (hms : m.ks = [.str]) (hk : m.kg = false) (hv : m.vg = false)
  (hx : ev ⟨fr,sto⟩ x = some (.one (.mapr id))) (hl : look sto id = some (.map false false (dj met))) (hy : ev ⟨fr,sto⟩ y = some (.one (.d (.str s)))) (hz : ev ⟨fr,sto⟩ z = some (.one (.d (.bool true)))) (hnot : met.contains s = false)
  (h : ae P ⟨w0,σ0,φ0,M,n,rd,mk⟩ ops rest ⟨fr,bS id (.map false false (dj (met ++ [s]))) sto⟩ K) : ae P ⟨w0,σ0,φ0,M,n,rd,mk⟩ ops (o::rest) ⟨fr,sto⟩ K:=by
 refine nL (hV.M t m hm) ho hg hdst hx (es:=dj met) (by rw [hl,hk,hv]) hy (kd:=[.str s]) (by rw [hk]; rfl) (by rw [hms]; rfl) (by rw [hms]; exact n9) hz (vd:=[.bool true]) (by rw [hv]; rfl) ?_
 rw [z6 hnot,hk,hv]
 exact h
theorem ey(k : Nat)(ρ : List (Nat×Nat)){d : Nat}{fop : Operand}{args : Array Operand}{ats : Array TypeId}{f : FuncId}{cargs : List AV}{cs rs : Sto}{rav rav' : AV}{sto' : Sto}(hC : CallA P f cargs cs rav rs)
  (ho : o.op = .call { callee:=.value fop,args:=args,argTypes:=ats }) (hg : o.guard = none) (hdst : o.dst = some d) (hd : Nat.blt d n = true) (hf : ev ⟨fr,sto⟩ fop = some (.one (.d (.fn f []))))
  (ha : evL ⟨fr,sto⟩ args.toList = some (cX (rn k ρ) cargs)) (hpass : Pass ⟨fr,sto⟩ (rn k ρ) ρ cs) (hcomp : CompatL ⟨fr,sto⟩ (rn k ρ) ρ rs)
  (hk : (fG ρ && iZ ρ && gu cs ρ && fV ρ && cA ρ rs && dp cs (cargs ++ []) && bm cs cs && c7 rs rav && bm rs rs && Nat.ble (k + 16) 1000000) = true) (hfresh : mu k ⟨fr,sto⟩ = true)
  (hr : dD (rn k ρ) rav = rav') (hs : dO (rn k ρ) (fU ρ sto) rs = sto')
  (h : ae P ⟨w0,σ0,φ0,M,n,rd,mk⟩ ops rest ⟨(d,rav')::fr,sto'⟩ K) : ae P ⟨w0,σ0,φ0,M,n,rd,mk⟩ ops (o::rest) ⟨fr,sto⟩ K:=by
 subst hr; subst hs
 exact lu k ρ ho hg (by rw [hdst]; exact hd) hf ha (caps:=[]) (by simpa using hC) hpass hcomp hk (po hfresh) (by rw [hdst]; exact h)
theorem ca{α : Type}{body : Code}{Q : Exit→St→Prop}(rg : Nat)(hrg : jB body = rg)(kept : List (Nat×AV))(hk : SubL fr kept)(L : α→List (Nat×AV))(S : α→Sto)(Inv : α→Prop)(μ : α→Nat)(x0 : α)(hL : SubL fr (L x0))(hS : SubL sto (S x0))(h0 : Inv x0)
  (hround : ∀ x,Inv x→OkC P c body ⟨L x ++ kept,S x⟩ (aA (fun st'=>∃ y,Inv y∧μ y < μ x∧SubL st'.sto (S y)∧SubL st'.fr (L y)∧SubL st'.fr kept) Q)) : OkC P c (.loop body) ⟨fr,sto⟩ Q:=by
 have hap : ∀ {f a b : List (Nat×AV)},SubL f a→SubL f b→SubL f (a ++ b):=by
  intro f a b h1 h2
  induction a with
  | nil=>exact h2
  | cons p r ih=>exact ⟨h1.1,ih h1.2⟩
 have hdr : ∀ {f : List (Nat×AV)} {s s' : Sto},SubL s s'→Imp c ⟨f,s⟩ ⟨f,s'⟩:=fun h a w σ φ hr=>⟨σ,φ,hr.dropTo fun i e hi=>h.look hi⟩
 refine bf (st':=⟨L x0 ++ kept,S x0⟩) (Imp.trans (jz (hap hL hk)) (hdr hS)) ?_
 refine ox (fun n st=>∃ x,Inv x∧n = μ x∧st = ⟨L x ++ kept,S x⟩) (μ x0) ⟨x0,h0,rfl,rfl⟩ ?_
 rintro n st ⟨x,hx,rfl,rfl⟩
 refine jI (hround x hx) fun e st h=>?_
 cases e with
 | normal =>
   obtain ⟨y,hy,hlt,hs,h1,h2⟩:=h
   obtain ⟨f,s⟩:=st
   simp only at hs h1 h2
   exact ⟨μ y,_,hlt,⟨y,hy,rfl,rfl⟩,Imp.trans (jz (hap h1 h2)) (hdr hs)⟩
 | _=>exact h
theorem gC{t ty : TypeId}{x y : Operand}{k k' : IntKind}{a b : Int}(ho : o.op = .binOp .rem t x y ty)
  (hx : ev st x = some (.one (.d (.int k a)))) (hy : ev st y = some (.one (.d (.int k' b)))) (hk : kEq k k' = true) (ha : 0≤a) (h0 : 0 < b) : aV V st o 0 = some ⟨.one (.d (.int k (a % b))),[],[]⟩:=by
 rw [← Int.tmod_eq_emod_of_nonneg ha]
 exact xx ho hx hy hk (by omega)
theorem eN{t ty : TypeId}{x y : Operand}{k k' : IntKind}{a b : Int}(ho : o.op = .binOp .quo t x y ty)
  (hx : ev st x = some (.one (.d (.int k a)))) (hy : ev st y = some (.one (.d (.int k' b)))) (hk : kEq k k' = true) (ha : 0≤a) (h0 : 0 < b) (hz : k.wrap (a / b) = a / b) : aV V st o 0 = some ⟨.one (.d (.int k (a / b))),[],[]⟩:=by
 refine F2 ho hx hy hk (by omega) ?_
 rw [Int.tdiv_eq_ediv_of_nonneg ha]
 exact hz
theorem bq{dl : List Nat}{ss : St}(h : sealL st dl = some ss) : Imp c st ss:=fun a w σ φ hr=>by
 obtain ⟨σs,_,h3,_⟩:=Rel.sealL h hr
 exact ⟨σs,φ,h3⟩
theorem az(k : Nat){d : Nat}{fop : Operand}{args : Array Operand}{ats : Array TypeId}{f : FuncId}{caps : List D}{avs avs' : List AV}{rav rav' : AV}
  (ho : o.op = .call { callee:=.value fop,args:=args,argTypes:=ats }) (hg : o.guard = none) (hdst : o.dst = some d) (hd : Nat.blt d n = true) (hf : ev ⟨fr,sto⟩ fop = some (.one (.d (.fn f caps))))
  (ha : evL ⟨fr,sto⟩ args.toList = some avs) (hD : cw avs = true) (hap : (avs ++ caps.map fun x=>.one (.d x)) = avs') (hC : CallA P f avs' [] rav [])
  (hk : (cA [] [] && Nat.ble (k + 16) 1000000 && c7 [] rav && bm [] []) = true) (hfresh : mu k ⟨fr,sto⟩ = true) (hr : dD (rn k []) rav = rav')
  (h : ae P ⟨w0,σ0,φ0,M,n,rd,mk⟩ ops rest ⟨(d,rav')::fr,sto⟩ K) : ae P ⟨w0,σ0,φ0,M,n,rd,mk⟩ ops (o::rest) ⟨fr,sto⟩ K:=by
 subst hap; subst hr
 exact DU k ho hg (by rw [hdst]; exact hd) hf ha hD hC hk (po hfresh) (by rw [hdst]; exact h)
theorem bh(k : Nat){ops : Array Oper}{acc : List Tr}{d : Nat}{fop : Operand}{args : Array Operand}{ats : Array TypeId}{f : FuncId}{caps : List D}{avs avs' : List AV}{rav rav' : AV}
  (ho : o.op = .call { callee:=.value fop,args:=args,argTypes:=ats }) (hg : o.guard = none) (hdst : o.dst = some d) (hd : Nat.blt d c.n = true) (hf : ev ⟨fr,sto⟩ fop = some (.one (.d (.fn f caps))))
  (ha : evL ⟨fr,sto⟩ args.toList = some avs) (hD : cw avs = true) (hap : (avs ++ caps.map fun x=>.one (.d x)) = avs') (hC : CallA P f avs' [] rav [])
  (hk : (cA [] [] && Nat.ble (k + 16) 1000000 && c7 [] rav && bm [] []) = true) (hr : dD (rn k []) rav = rav')
  (h : ar P c ops st0 rest ⟨(d,rav')::fr,sto⟩ (lF k [] [] rav []::acc) K) : ar P c ops st0 (o::rest) ⟨fr,sto⟩ acc K:=by
 subst hap; subst hr
 refine mb hg (xq k ho (by rw [hdst]; exact hd) hf ha hD hC hk) ?_
 rw [hdst]; exact h
def tM(P : Program)(c : Ctx)(body : Code)(Q : Exit→St→Prop) : Nat→St→Prop
 | 0,_=>False
 | m + 1,st=>OkC P c body st (aA (fun st'=>tM P c body Q m st') Q)
theorem qV{body : Code}{Q : Exit→St→Prop}(rg : Nat)(hrg : jB body = rg)(m : Nat)(h : tM P c body Q m st) : OkC P c (.loop body) st Q:=by
 intro a w σ φ hr
 refine wpIn_loop_rounds m ?_
 have key : ∀ m st a w σ φ,tM P c body Q m st→Rel c st a w σ φ→Code.roundsIn (fnc c) 0 P body (fun e a' w'=>∃ st' σ' φ',Q e st'∧RelE c e st' a' w' σ' φ') m a w:=by
  intro m
  induction m with
  | zero=>intro st a w σ φ h; exact h.elim
  | succ m ih =>
    intro st a w σ φ h hr
    rw [roundsIn_succ]
    refine wpIn_mono (h a w σ φ hr) fun e a' w' ⟨st',σ',φ',h1,h2⟩=>?_
    cases e with
    | normal=>exact ih st' a' w' σ' φ' h1 (h2.rel (by simp))
    | _=>exact ⟨st',σ',φ',h1,h2⟩
 exact key m st a w σ φ h hr
theorem fi(hV : EnvOk P V)(id : Nat){d : Nat}{v : AV}{wr : List (Nat×Option AObj)}{nw : List Nat}(hg : o.guard = none)(hdst : o.dst = some d)(hd : Nat.blt d n = true)(h : aV V ⟨fr,sto⟩ o id = some ⟨v,wr,nw⟩)(hid : Nat.blt (id + 1) 1000000 = true)(hf : dQ ⟨fr,sto⟩ nw = true)
  (hk : ae P ⟨w0,σ0,φ0,M,n,rd,mk⟩ ops rest ⟨(d,v)::fr,cM wr sto⟩ K) : ae P ⟨w0,σ0,φ0,M,n,rd,mk⟩ ops (o::rest) ⟨fr,sto⟩ K:=by
 have:=pT (c:=⟨w0,σ0,φ0,M,n,rd,mk⟩) hV (o:=o) (by rw [hdst]; exact hd) h hid (eK hf) ops rest K (by rw [hdst]; exact hk)
 rwa [Ca hg] at this
theorem jF{T : Tab}{rs : List ResultVar}{rav rav' : AV}{rsto : Sto}{e : Exit}{st : St}{l : List (Bool×List AC)}(he : e = .ret∨e = .normal)(hl : mJ T st rs = some l)(hr : pj l = some rav')(h : rav' = rav)(hs : SubL st.sto rsto) : aN T rs rav rsto e st :=
 ⟨he,l,hl,by rw [hr,h],hs⟩
end Go.Abs
namespace Go.Abs
open Go
variable {P : Program} {V : Env} {T : Tab} {c : Ctx} {w0 : World} {σ0 : Sig} {φ0 : Pl} {M : Nat→Prop} {n : Nat} {rd : Option Nat} {mk : List Deferred} {ops : Array Oper} {o : Oper} {rest : List Oper} {fr : List (Nat×AV)} {sto : Sto} {K : St→Prop} {st st0 : St} {acc : List Tr}
variable {σ σ' : Sig} {φ φ' : Pl} {w w' : World}
def we : AC→Bool
 | .own i _ | .sub i _ _ | .ref i _ | .rref i _ _ | .yl i | .mapr i | .bsl i _ _=>Nat.ble i 1000000
 | _=>true
def kZ : List AC→Bool
 | []=>true
 | x::r=>we x && kZ r
def sa : List (Bool×List AC)→Bool
 | []=>true
 | t::r=>kZ t.2 && sa r
def wg : AV→Bool
 | .one x=>we x
 | .agg cs=>kZ cs
 | .tup ts=>sa ts
 | .any=>true
def iW : List (Nat×AV)→Bool
 | []=>true
 | p::r=>wg p.2 && iW r
def k9 : Sto→Bool
 | []=>true
 | p::r=>(match p.2 with | .box cs=>kZ cs | .loop _ fr _ _=>iW fr | _=>true) && k9 r
theorem sK{x : AC}(h : we x = true) : ∀ i,1000000 < i→x.men i = false:=by
 intro i hi
 have key : ∀ {j : Nat},Nat.ble j 1000000 = true→Nat.beq j i = false:=by
  intro j hj
  have:=Nat.le_of_ble_eq_true hj
  cases hb : Nat.beq j i with
  | false=>rfl
  | true=>have:=Nat.eq_of_beq_eq_true hb; omega
 cases x <;> first | rfl | exact key h
theorem ku : ∀ {l : List AC},kZ l = true→∀ i,1000000 < i→cq i l = false
 | [],_,_,_=>rfl
 | x::r,h,i,hi=>by
   simp only [kZ,Bool.and_eq_true] at h
   simp only [cq,sK h.1 i hi,ku h.2 i hi,Bool.or_self]
theorem sL : ∀ {l : List (Bool×List AC)},sa l = true→∀ i,1000000 < i→fM i l = false
 | [],_,_,_=>rfl
 | x::r,h,i,hi=>by
   simp only [sa,Bool.and_eq_true] at h
   simp only [fM,ku h.1 i hi,sL h.2 i hi,Bool.or_self]
theorem sM{x : AV}(h : wg x = true) : ∀ i,1000000 < i→x.men i = false:=by
 intro i hi
 cases x with
 | one x=>exact sK h i hi
 | agg cs=>exact ku h i hi
 | tup ts=>exact sL h i hi
 | any=>rfl
theorem qX : ∀ {l : List (Nat×AV)},iW l = true→∀ {s : Nat} {v : AV},look l s = some v→wg v = true
 | [],_,_,_,h=>by simp [look] at h
 | (t,x)::r,h,s,v,hl=>by
   simp only [iW,Bool.and_eq_true] at h
   rcases ai hl with ⟨_,rfl⟩ | ⟨_,hl⟩
   ·exact h.1
   ·exact qX h.2 hl
theorem sN : ∀ {l : List (Nat×AV)},iW l = true→∀ i,1000000 < i→bx i l = false
 | [],_,_,_=>rfl
 | x::r,h,i,hi=>by
   simp only [iW,Bool.and_eq_true] at h
   simp only [bx,sM h.1 i hi,sN h.2 i hi,Bool.or_self]
theorem qY : ∀ {l : Sto},k9 l = true→∀ {j : Nat} {e : AObj},look l j = some e→∀ i,1000000 < i→e.men i = false
 | [],_,_,_,h,_,_=>by simp [look] at h
 | (t,x)::r,h,j,e,hl,i,hi=>by
   simp only [k9,Bool.and_eq_true] at h
   rcases ai hl with ⟨_,rfl⟩ | ⟨_,hl⟩
   ·have h1:=h.1
    cases e with
    | box cs=>exact ku h1 i hi
    | loop li fr s q=>exact sN h1 i hi
    | _=>rfl
   ·exact qY h.2 hl i hi
theorem n4{α : Type} : ∀ {a b : List (Nat×α)} {i : Nat},look (a ++ b) i = match look a i with | some v=>some v | none=>look b i
 | [],_,_=>rfl
 | (j,x)::r,b,i=>by
   simp only [List.cons_append,look]
   cases Nat.beq j i with
   | true=>rfl
   | false=>simp only [cond_false]; exact n4
def iu(s : Sto) : Prop:=∀ i e,look s i = some e→1000000≤i
theorem iP{o1 s : Sto}(hs : iu s){i : Nat}(hi : i < 1000000) : look (o1 ++ s) i = look o1 i:=by
 rw [n4]
 cases hl : look o1 i with
 | some v=>rfl
 | none =>
   simp only
   cases hl' : look s i with
   | none=>rfl
   | some e=>have:=hs _ _ hl'; omega
theorem eb{o1 s : Sto}(ho : fz 1000000 o1 = true){i : Nat}(hi : 1000000≤i) : look (o1 ++ s) i = look s i:=by
 rw [n4]
 cases hl : look o1 i with
 | none=>rfl
 | some e=>have:=lA ho hl; omega
theorem RepC.mv{x : AC}{v : Value}{s s2 : Sto}(h : ∀ i,x.men i = true→look s2 i = look s i∧φ' i = φ i)(hr : RepC σ φ s x v) : RepC σ φ' s2 x v:=by
 have hk : ∀ i,x.men i = true→bo s2 i = bo s i:=fun i hi=>by unfold bo; rw [(h i hi).1]
 cases hr with
 | d h1=>exact .d h1
 | junk h1=>exact .junk h1
 | dead hx h1 =>
   refine .dead ?_ h1
   cases x <;> simp only [bG] at hx ⊢ <;> first | exact hx | (rw [hk _ (Nat.beq_refl _)]; exact hx)
 | ownNil hl hp=>have:=h _ (Nat.beq_refl _); exact .ownNil (this.1.trans hl) (this.2.trans hp)
 | own hl hn hp=>have:=h _ (Nat.beq_refl _); exact .own (this.1.trans hl) hn (this.2.trans hp)
 | sub hl hn hc hA =>
   have:=h _ (Nat.beq_refl _)
   refine .sub (this.1.trans hl) hn hc fun h0=>?_
   obtain ⟨B,cap,h1,h2⟩:=hA h0
   exact ⟨B,cap,this.2.trans h1,h2⟩
 | ref hl hp=>have:=h _ (Nat.beq_refl _); exact .ref (this.1.trans hl) (this.2.trans hp)
 | rref hl hp=>have:=h _ (Nat.beq_refl _); exact .rref (this.1.trans hl) (this.2.trans hp)
 | yl hl hp=>have:=h _ (Nat.beq_refl _); exact .yl (this.1.trans hl) (this.2.trans hp)
 | mapr hl hp=>have:=h _ (Nat.beq_refl _); exact .mapr (this.1.trans hl) (this.2.trans hp)
 | bsl hl hp=>have:=h _ (Nat.beq_refl _); exact .bsl (this.1.trans hl) (this.2.trans hp)
theorem zV{x : AC}{s : Sto}(h : bG s x = true) : ∀ i,x.men i = true→bo s i = true:=by
 intro i hi
 cases x <;> simp only [AC.men,Bool.false_eq_true] at hi <;> (have:=Nat.eq_of_beq_eq_true hi; subst this; exact h)
theorem nI : ∀ {l : List AC} {s : Sto},eC s l = true→∀ i,cq i l = true→bo s i = true
 | [],_,_,_,h=>by simp [cq] at h
 | x::r,s,h,i,hi=>by
   simp only [eC,Bool.and_eq_true] at h
   simp only [cq,Bool.or_eq_true] at hi
   rcases hi with hi | hi
   ·exact zV h.1 i hi
   ·exact nI h.2 i hi
theorem zW : ∀ {l : List (Bool×List AC)} {s : Sto},wh s l = true→∀ i,fM i l = true→bo s i = true
 | [],_,_,_,h=>by simp [fM] at h
 | x::r,s,h,i,hi=>by
   simp only [wh,Bool.and_eq_true] at h
   simp only [fM,Bool.or_eq_true] at hi
   rcases hi with hi | hi
   ·exact nI h.1 i hi
   ·exact zW h.2 i hi
theorem zX{x : AV}{s : Sto}(h : c7 s x = true) : ∀ i,x.men i = true→bo s i = true:=by
 intro i hi
 cases x with
 | one x=>exact zV h i hi
 | agg cs=>exact nI h i hi
 | tup ts=>exact zW h i hi
 | any=>simp [AV.men] at hi
theorem zY : ∀ {l : List (Nat×AV)} {s : Sto},jc s l = true→∀ i,bx i l = true→bo s i = true
 | [],_,_,_,h=>by simp [bx] at h
 | x::r,s,h,i,hi=>by
   simp only [jc,Bool.and_eq_true] at h
   simp only [bx,Bool.or_eq_true] at hi
   rcases hi with hi | hi
   ·exact zX h.1 i hi
   ·exact zY h.2 i hi
theorem qZ{s s2 : Sto} : ∀ {l : List AC} {vs : List Value},(∀ i,cq i l = true→look s2 i = look s i∧φ' i = φ i)→All2 (RepC σ φ s) l vs→All2 (RepC σ φ' s2) l vs
 | [],[],_,_=>trivial
 | x::r,v::vs,h,ha=>⟨RepC.mv (fun i hi=>h i (by simp [cq,hi])) ha.1,qZ (fun i hi=>h i (by simp [cq,hi])) ha.2⟩
 | [],_::_,_,ha=>ha.elim
 | _::_,[],_,ha=>ha.elim
theorem JF{s s2 : Sto}{t : Bool×List AC}{v : Value}(h : ∀ i,cq i t.2 = true→look s2 i = look s i∧φ' i = φ i)(hr : RepT σ φ s t v) : RepT σ φ' s2 t v:=by
 obtain ⟨b,cs⟩:=t
 cases b with
 | true=>obtain ⟨vs,rfl,h1⟩:=hr; exact ⟨vs,rfl,qZ h h1⟩
 | false=>exact qZ h hr
theorem IS{s s2 : Sto} : ∀ {l : List (Bool×List AC)} {vs : List Value},(∀ i,fM i l = true→look s2 i = look s i∧φ' i = φ i)→All2 (RepT σ φ s) l vs→All2 (RepT σ φ' s2) l vs
 | [],[],_,_=>trivial
 | x::r,v::vs,h,ha=>⟨JF (fun i hi=>h i (by simp [fM,hi])) ha.1,IS (fun i hi=>h i (by simp [fM,hi])) ha.2⟩
 | [],_::_,_,ha=>ha.elim
 | _::_,[],_,ha=>ha.elim
theorem RepV.mv{x : AV}{v : Value}{s s2 : Sto}(h : ∀ i,x.men i = true→look s2 i = look s i∧φ' i = φ i)(hr : RepV σ φ s x v) : RepV σ φ' s2 x v:=by
 cases x with
 | one x=>exact RepC.mv h hr
 | agg cs=>obtain ⟨vs,rfl,h1⟩:=hr; exact ⟨vs,rfl,qZ h h1⟩
 | tup ts=>obtain ⟨vs,rfl,h1⟩:=hr; exact ⟨vs,rfl,IS h h1⟩
 | any=>trivial
theorem tn{e : AObj}{s : Sto}(h : DN s e = true) : ∀ i,e.men i = true→bo s i = true:=by
 intro i hi
 cases e with
 | box cs=>exact nI h i hi
 | loop li fr st p=>exact zY h i hi
 | _=>simp [AObj.men] at hi
theorem uN : ∀ {fr : List (Nat×AV)} {s : Nat} {v : AV} {i : Nat},look fr s = some v→v.men i = true→bx i fr = true
  | [],_,_,_,h,_=>by simp [look] at h
  | (t,x)::r,s,v,i,h,hi=>by
    rcases ai h with ⟨_,rfl⟩ | ⟨_,h⟩
    ·simp [bx,hi]
    ·simp only [bx,uN h hi,Bool.or_true]
theorem ObjRep.mv{id : Nat}{e : AObj}{s s2 : Sto}(h : ∀ i,e.men i = true→look s2 i = look s i∧φ' i = φ i)(hφ : φ' id = φ id)(hr : ObjRep σ φ s w id e) : ObjRep σ φ' s2 w id e:=by
 cases e with
 | box cs =>
   obtain ⟨B,c,vs,t,h1,h2,h3,h4⟩:=hr
   exact ⟨B,c,vs,t,hφ.trans h1,h2,qZ h h3,h4⟩
 | row k b xs =>
   rcases hr with ⟨h1,h2⟩ | ⟨B,cap,arr,t,vs,h1,h2⟩
   ·exact .inl ⟨h1,hφ.trans h2⟩
   ·exact .inr ⟨B,cap,arr,t,vs,hφ.trans h1,h2⟩
 | map kg vg es =>
   obtain ⟨B,c,ents,h1,h2⟩:=hr
   exact ⟨B,c,ents,hφ.trans h1,h2⟩
 | loop li fr st p =>
   obtain ⟨B,c,r,h1,h2,h3,h4,h5⟩:=hr
   refine ⟨B,c,r,hφ.trans h1,h2,h3,fun s v hv=>?_,h5⟩
   obtain ⟨u,hu,hru⟩:=h4 s v hv
   refine ⟨u,hu,RepV.mv (fun i hi=>h i ?_) hru⟩
   exact uN hv hi
theorem HInv.pinned{o1 s : Sto}(ho : fz 1000000 o1 = true)(hs : iu s)(hin : bm s s = true)(h : HInv σ φ (o1 ++ s) w) : HInv σ φ s w:=by
 have hl : ∀ {i : Nat},bo s i = true→look s i = look (o1 ++ s) i:=fun {i} hi=>by
  obtain ⟨e,he⟩:=iv hi
  rw [eb ho (hs _ _ he)]
 refine ⟨h.sig,fun i e hi=>?_,fun i i' e e' p p' hi hi'=>?_⟩
 ·refine ObjRep.mv (fun j hj=>⟨hl (tn (fA hin hi) j hj),rfl⟩) rfl (h.obj i e ?_)
  rw [eb ho (hs _ _ hi)]; exact hi
 ·exact h.inj _ _ _ _ _ _ (by rw [eb ho (hs _ _ hi)]; exact hi) (by rw [eb ho (hs _ _ hi')]; exact hi')
def lG(s : Sto) : Prop:=∃ li fr st p,look s 1000000 = some (.loop li fr st p)
theorem Rel.callW{o1 s s' : Sto}{a : Act}{rav : AV}{v : Value}{dst : Option Nat}(hr : Rel c ⟨fr,o1 ++ s⟩ a w σ φ)(hd : aU c.n dst = true)(ho : (fz 1000000 o1 && k9 o1 && iW fr) = true)(hs : iu s)(hs' : iu s')(hin' : bm s' s' = true)
  (hlp : lG s) (hlp' : lG s') (hfl : fh rav = true) (hret : RetP rav s' w σ φ (MOf φ s) v w' σ' φ') : Rel c ⟨bt dst rav fr,o1 ++ s'⟩ (a.put dst v) w' σ' (fun i=>if 1000000≤i then φ' i else φ i):=by
 simp only [Bool.and_eq_true] at ho
 obtain ⟨⟨ho,hoc⟩,hfc⟩:=ho
 have hpin : ∀ i,1000000≤i→(fun i=>if 1000000≤i then φ' i else φ i) i = φ' i:=fun i hi=>by simp [hi]
 have hsm : ∀ i : Nat,i < 1000000→(fun i=>if 1000000≤i then φ' i else φ i) i = φ i:=by
  intro i hi
  have h9 : ¬ 1000000≤i:=by omega
  simp [h9]
 have hpn : φ' 1000000 = φ 1000000:=hret.pin 1000000 ⟨Nat.le_refl _,by omega⟩
 generalize hφ : (fun i=>if 1000000≤i then φ' i else φ i) = φn at hpin hsm ⊢
 have hold : ∀ {i e},look s i = some e→look (o1 ++ s) i = some e:=fun {i e} hi=>by rw [eb ho (hs _ _ hi)]; exact hi
 have hownl : ∀ {i e},look o1 i = some e→look (o1 ++ s) i = some e:=fun {i e} hi=>by rw [iP hs (lA ho hi)]; exact hi
 have hM : ∀ b,MOf φ s b→∃ i e p,look (o1 ++ s) i = some e∧1000000≤i∧φ i = some p∧p.1 = b:=by
  rintro b ⟨i,e,p,h1,h2,h3⟩
  exact ⟨i,e,p,hold h1,hs _ _ h1,h2,h3⟩
 have hsplit : ∀ {i e},look (o1 ++ s') i = some e→(i < 1000000∧look o1 i = some e)∨(1000000≤i∧look s' i = some e):=by
  intro i e hi
  rcases Nat.lt_or_ge i 1000000 with h | h
  ·exact .inl ⟨h,by rwa [iP hs' h] at hi⟩
  ·exact .inr ⟨h,by rwa [eb ho h] at hi⟩
 obtain ⟨li,lf,ls,lp,hL⟩:=hlp
 obtain ⟨li',lf',ls',lp',hL'⟩:=hlp'
 have hE : Ext (fun i=>1000000 < i) φ φn (o1 ++ s) (o1 ++ s'):=by
  intro i hi
  rcases Nat.lt_or_ge i 1000000 with h | h
  ·rw [iP hs' h,iP hs h]
   cases hl : look o1 i with
   | none=>exact .inl rfl
   | some e=>exact .inr ⟨e,rfl,hsm i h,e,rfl,compat.refl _⟩
  ·have : i = 1000000:=by omega
   subst this
   exact .inr ⟨.loop li lf ls lp,hold hL,(hpin _ (Nat.le_refl _)).trans hpn,.loop li' lf' ls' lp',by rw [eb ho (Nat.le_refl _)]; exact hL',trivial⟩
 have hnot : ∀ {i e p},look o1 i = some e→φ i = some p→¬ MOf φ s p.1:=by
  intro i e p hi hp hm
  obtain ⟨j,e',q,h1,h2,h3,h4⟩:=hM _ hm
  exact hr.inv.inj _ _ _ _ _ _ (hownl hi) h1 (by have:=lA ho hi; omega) hp h3 h4.symm
 have hinv : HInv σ' φn (o1 ++ s') w':=by
  refine ⟨hret.inv.sig,fun i e hi=>?_,fun i i' e e' p p' hi hi' hne hp hp'=>?_⟩
  ·rcases hsplit hi with ⟨h1,h2⟩ | ⟨h1,h2⟩
   ·have hob:=hr.inv.obj _ _ (hownl h2)
    refine hob.ext hret.le hE (fun j hj=>qY hoc h2 j hj) (hsm i h1) fun B cc hB=>?_
    have hlt:=hob.lt hB
    have hn:=hnot h2 hB
    refine ⟨hret.kept.block B hlt hn,?_⟩
    have hn0 : σ B = none:=by
     cases e with
     | box cs=>obtain ⟨_,_,_,_,q1,_,_,q4⟩:=hob; rw [hB] at q1; cases q1; exact q4
     | row k b xs =>
       rcases hob with ⟨_,q⟩ | ⟨_,_,_,_,_,q1,_,_,_,_,_,_,_,_,q4⟩
       ·rw [hB] at q; cases q
       ·rw [hB] at q1; cases q1; exact q4
     | map kg vg es=>obtain ⟨_,_,_,q1,_,_,q4⟩:=hob; rw [hB] at q1; cases q1; exact q4
     | loop li fr st p=>obtain ⟨_,_,_,q1,_,_,_,q4⟩:=hob; rw [hB] at q1; cases q1; exact q4
    rw [hn0]
    cases hσ : σ' B with
    | none=>rfl
    | some x =>
      rcases hret.fresh B (by rw [hσ]; simp) with q | q | q
      ·exact absurd hn0 q
      ·exact absurd hlt (by simp only at q ⊢; omega)
      ·exact absurd q hn
   ·refine ObjRep.mv (s:=s') (fun j hj=>?_) (hpin i h1) (hret.inv.obj _ _ h2)
    obtain ⟨e2,he2⟩:=iv (tn (fA hin' h2) j hj)
    have hj2:=hs' _ _ he2
    exact ⟨eb ho hj2,hpin j hj2⟩
  ·rcases hsplit hi with ⟨h1,h2⟩ | ⟨h1,h2⟩ <;> rcases hsplit hi' with ⟨h3,h4⟩ | ⟨h3,h4⟩
   ·rw [hsm i h1] at hp; rw [hsm i' h3] at hp'; exact hr.inv.inj _ _ _ _ _ _ (hownl h2) (hownl h4) hne hp hp'
   ·rw [hsm i h1] at hp; rw [hpin i' h3] at hp'
    rcases hret.mine _ _ _ h4 hp' with q | q
    ·have:=(hr.inv.obj _ _ (hownl h2)).lt hp; omega
    ·intro e0; exact hnot h2 hp (e0 ▸ q)
   ·rw [hpin i h1] at hp; rw [hsm i' h3] at hp'
    rcases hret.mine _ _ _ h2 hp with q | q
    ·have:=(hr.inv.obj _ _ (hownl h4)).lt hp'; omega
    ·intro e0; exact hnot h4 hp' (e0 ▸ q)
   ·rw [hpin i h1] at hp; rw [hpin i' h3] at hp'; exact hret.inv.inj _ _ _ _ _ _ h2 h4 hne hp hp'
 have hMc : ∀ {b},MOf φ s b→c.w0.heap.size≤b∨c.M b:=by
  intro b hb
  obtain ⟨j,e',q,h1,h2,h3,rfl⟩:=hM _ hb
  exact hr.mine _ _ _ h1 h3
 refine hr.putTo (st':=⟨fr,o1 ++ s'⟩) hd (Sig.le_trans hr.le hret.le) (fun b hb=>?_) hinv (fun i e p hi hp=>?_) ⟨hret.kept.os.trans hr.fra.os,hret.kept.tape.trans hr.fra.tape,hret.kept.output.trans hr.fra.output,Nat.le_trans hr.fra.size hret.kept.size,Nat.le_trans hr.fra.drawn hret.kept.drawn,fun b hb hM'=>?_⟩ (fun i hi=>(hpin i hi.1).trans ((hret.pin i hi).trans (hr.pin i hi)))
  (fun _=>q8 hfl hret.rep) (fun t x _ hx=>⟨x,hx,fun z hz=>?_⟩)
 ·rcases hret.fresh b hb with q | q | q
  ·exact hr.fresh b q
  ·exact .inr (.inl (Nat.le_trans hr.fra.size q))
  ·exact .inr (hMc q)
 ·rcases hsplit hi with ⟨h1,h2⟩ | ⟨h1,h2⟩
  ·rw [hsm i h1] at hp; exact hr.mine _ _ _ (hownl h2) hp
  ·rw [hpin i h1] at hp
   rcases hret.mine _ _ _ h2 hp with q | q
   ·exact .inl (Nat.le_trans hr.fra.size q)
   ·exact hMc q
 ·rw [hret.kept.block b (Nat.lt_of_lt_of_le hb hr.fra.size) (fun hm=>?_)]
  ·exact hr.fra.block b hb hM'
  ·rcases hMc hm with q | q
   ·omega
   ·exact hM' q
 ·exact RepV.ext hret.le hE (fun i hi=>sM (qX hfc hx) i hi) hz
theorem n5{o1 s : Sto}(ho : fz 1000000 o1 = true)(hs : iu s) : ∀ {avs : List AV} {vs : List Value},dp s avs = true→All2 (RepV σ φ (o1 ++ s)) avs vs→All2 (RepV σ φ s) avs vs
 | [],[],_,_=>trivial
 | x::r,v::vs,h,ha=>by
   simp only [dp,Bool.and_eq_true] at h
   refine ⟨RepV.mv (fun i hi=>⟨?_,rfl⟩) ha.1,n5 ho hs h.2 ha.2⟩
   obtain ⟨e,he⟩:=iv (zX h.1 i hi)
   rw [eb ho (hs _ _ he)]
 | [],_::_,_,ha=>ha.elim
 | _::_,[],_,ha=>ha.elim
theorem B7(o1 : Sto){d : Nat}{s s' : Sto}{fop : Operand}{args : Array Operand}{ats : Array TypeId}{f : FuncId}{avs : List AV}{rav : AV}(hC : CallA P f avs s rav s')(hs : iu s)(hs' : iu s')(hin : bm s s = true)(hin' : bm s' s' = true)(hlp : lG s)(hlp' : lG s')
  (hsto : sto = o1 ++ s) (ho : o.op = .call { callee:=.value fop,args:=args,argTypes:=ats }) (hg : o.guard = none) (hdst : o.dst = some d) (hd : Nat.blt d n = true) (hf : ev ⟨fr,sto⟩ fop = some (.one (.d (.fn f []))))
  (ha : evL ⟨fr,sto⟩ args.toList = some avs) (hai : dp s avs = true) (hk : (fz 1000000 o1 && k9 o1 && iW fr) = true) (hfl : fh rav = true)
  (h : ae P ⟨w0,σ0,φ0,M,n,rd,mk⟩ ops rest ⟨(d,rav)::fr,o1 ++ s'⟩ K) : ae P ⟨w0,σ0,φ0,M,n,rd,mk⟩ ops (o::rest) ⟨fr,sto⟩ K:=by
 subst hsto
 refine lz hg fun a w σ φ hr=>?_
 have hfr:=aI hr hf
 replace hfr:=RepC.d_inv hfr
 generalize hfe : a.eval fop = fv at hfr
 have hk':=hk
 simp only [Bool.and_eq_true] at hk'
 cases hfr with
 | fn cs hl hcs =>
   have : cs = []:=by cases cs with | nil=>rfl | cons _ _=>simp at hl
   subst this
   have hargs:=n5 hk'.1.1 hs hai (gQ hr ha)
   refine ⟨f,_,_,pH ho hfe hC.fn,hC.run w σ φ _ (HInv.pinned hk'.1.1 hs hin hr.inv) (by rw [List.append_nil]; exact hargs),?_⟩
   rintro e w' ⟨v,σ',φ',rfl,hret⟩
   refine ⟨v,_,σ',_,rfl,hr.callW (dst:=o.dst) (by rw [hdst]; exact hd) hk hs hs' hin' hlp hlp' hfl hret,?_⟩
   rw [hdst]; exact h
theorem HS(o1 : Sto){d : Nat}{s s' : Sto}{fop : Operand}{args : Array Operand}{ats : Array TypeId}{avs : List AV}{rav : AV}(hY : YieldA P 1000000 avs s rav s')(hs : iu s)(hs' : iu s')(hin : bm s s = true)(hin' : bm s' s' = true)(hlp : lG s)(hlp' : lG s')
  (hsto : sto = o1 ++ s) (hrd : rd = none) (ho : o.op = .call { callee:=.value fop,args:=args,argTypes:=ats }) (hg : o.guard = none) (hdst : o.dst = some d) (hd : Nat.blt d n = true) (hf : ev ⟨fr,sto⟩ fop = some (.one (.yl 1000000)))
  (ha : evL ⟨fr,sto⟩ args.toList = some avs) (hai : dp s avs = true) (hk : (fz 1000000 o1 && k9 o1 && iW fr) = true) (hfl : fh rav = true)
  (h : ae P ⟨w0,σ0,φ0,M,n,rd,mk⟩ ops rest ⟨(d,rav)::fr,o1 ++ s'⟩ K) : ae P ⟨w0,σ0,φ0,M,n,rd,mk⟩ ops (o::rest) ⟨fr,sto⟩ K:=by
 subst hsto
 intro a w σ φ Q hr hQ
 have hk':=hk
 simp only [Bool.and_eq_true] at hk'
 have hfr : RepC σ φ (o1 ++ s) (.yl 1000000) (a.eval fop):=aI hr hf
 generalize hfe : a.eval fop = fv at hfr
 obtain ⟨li,lf,ls,lp,hL⟩:=hlp
 have hl0 : look (o1 ++ s) 1000000 = some (.loop li lf ls lp):=by rw [eb hk'.1.1 (Nat.le_refl _)]; exact hL
 cases hfr with
 | dead hxx _=>simp [bG,bo,hl0] at hxx
 | yl hl hp =>
   rename_i B cap li2 fr2 s2 p2
   obtain ⟨fn,tmps,assign,body,hy,hR⟩:=hY.run w σ φ _ B cap (HInv.pinned hk'.1.1 hs hin hr.inv) hp (n5 hk'.1.1 hs hai (gQ hr ha))
   refine wpListIn_plain hg fun K' hK=>⟨fun f _=>iC _ f,?_⟩
   rw [jK (by simp) (xw ho hfe hy),Oper.uponIn_round,ir (c:=⟨w0,σ0,φ0,M,n,rd,mk⟩) hrd]
   refine ⟨fun h=>by simp [Fence.wide] at h,hR.mono fun e w' he=>?_⟩
   obtain ⟨v,σ',φ',rfl,hret⟩:=he
   refine hK _ _ (h _ _ σ' (fun i=>if 1000000≤i then φ' i else φ i) _ ?_ hQ)
   have:=hr.callW (dst:=o.dst) (by rw [hdst]; exact hd) hk hs hs' hin' ⟨li,lf,ls,lp,hL⟩ hlp' hfl hret
   rw [hdst] at this ⊢; exact this
end Go.Abs
namespace Go.Abs
open Go
variable {P : Program} {V : Env} {T : Tab} {c : Ctx} {w0 : World} {σ0 : Sig} {φ0 : Pl} {M : Nat→Prop} {n : Nat} {rd : Option Nat} {mk : List Deferred} {ops : Array Oper} {o : Oper} {rest : List Oper} {fr : List (Nat×AV)} {sto : Sto} {K : St→Prop} {st st0 : St} {acc : List Tr}
theorem yV{t : TypeId}{x y : Operand}{a b v : AV}(ho : o.op = .index t x y)(hs : cT V.T st o 0 = none)(hx : ev st x = some a)(hy : ev st y = some b)(h : yW V.T t (some b) (some a) = some v) : aV V st o 0 = some ⟨v,[],[]⟩:=by
 simp only [aV,hs,ho,hx,hy,h]
theorem eM(hV : EnvOk P V)(id : Nat){d : Nat}{v : AV}{wr : List (Nat×Option AObj)}{nw : List Nat}(hg : o.guard = none)(hdst : o.dst = some d)(hd : Nat.blt d c.n = true)(h : aV V ⟨fr,sto⟩ o id = some ⟨v,wr,nw⟩)(hid : Nat.blt (id + 1) 1000000 = true)(hf : dQ ⟨fr,sto⟩ nw = true)
  (k : ar P c ops st0 rest ⟨(d,v)::fr,cM wr sto⟩ (⟨v,wr,tf ⟨fr,sto⟩ o.op,nw⟩::acc) K) : ar P c ops st0 (o::rest) ⟨fr,sto⟩ acc K :=
 mb hg (nq hV (by rw [hdst]; exact hd) h hid) (by rw [hdst]; exact k)
theorem rS(hV : EnvOk P V){v : AV}{wr : List (Nat×Option AObj)}(hg : o.guard = none)(hdst : o.dst = none)(h : aV V ⟨fr,sto⟩ o 0 = some ⟨v,wr,[]⟩)
  (k : ar P c ops st0 rest ⟨fr,cM wr sto⟩ (⟨v,wr,tf ⟨fr,sto⟩ o.op,[]⟩::acc) K) : ar P c ops st0 (o::rest) ⟨fr,sto⟩ acc K :=
 mb hg (nq hV (by rw [hdst]; rfl) h rfl) (by rw [hdst]; exact k)
def OkR(P : Program)(c : Ctx)(bl : Nat)(g : Operand)(ps : Array Nat)(assign body rest : Code)(st : St)(Q : Exit→St→Prop) : Prop :=
 ∀ (a : Act) (w : World) (σ : Sig) (φ : Pl),Rel c st a w σ φ→(Code.block bl (.rangeFunc g ps assign body)).wpIn (fnc c) 0 P
   (Exit.then (rest.wpIn (fnc c) 0 P fun e a' w'=>∃ st' σ' φ',Q e st'∧RelE c e st' a' w' σ' φ') fun e a' w'=>∃ st' σ' φ',Q e st'∧RelE c e st' a' w' σ' φ') a w
def rT(R : St→Prop)(e : Exit)(st : St) : Prop:=e = .normal∧R st
theorem KL{R : St→Prop}(h : R st) : rT R .normal st:=⟨rfl,h⟩
def vB(Q : Exit→St→Prop)(e : Exit)(st : St) : Prop:=e = .ret∧Q .ret st
theorem KM{Q : Exit→St→Prop}(h : Q .ret st) : vB Q .ret st:=⟨rfl,h⟩
theorem Fi{bl : Nat}{g : Operand}{ps : Array Nat}{x assign body rest : Code}{Q : Exit→St→Prop}(h : OkC P c x st (rT fun st1=>OkR P c bl g ps assign body rest st1 Q)) : OkC P c (.seq (.seq x (.block bl (.rangeFunc g ps assign body))) rest) st Q:=by
 intro a w σ φ hr
 refine wpIn_seq (wpIn_seq (wpIn_mono (h a w σ φ hr) ?_))
 rintro e a1 w1 ⟨st1,σ1,φ1,⟨rfl,hR⟩,hre⟩
 exact hR a1 w1 σ1 φ1 (hre.rel (by simp))
theorem qw{g : Operand}{ps : Array Nat}{assign body rest : Code}{bl : Nat}{Q : Exit→St→Prop}{f : FuncId}{caps : List D}{os : List (Nat×AObj)}{rav : AV}{liR : LI}{frR : List (Nat×AV)}{s' : LoopState}{p' : Option Code}{rs : Sto}(ids : List Nat)(idl : Nat)
  (hrd : c.rd = none) (hmk : c.mks = []) (hg : ev st g = some (.one (.d (.fn f caps)))) (hos : iL st.sto ids = some os)
  (hC : CallA P f ((.one (.yl 1000000))::caps.map fun x=>.one (.d x)) ((1000000,.loop ⟨c.n,ps,assign,body⟩ (c6 (inv 1000000 (idl::ids)) (b7 ids st.fr [])) .ready none)::gS (inv 1000000 (idl::ids)) os) rav ((1000000,.loop liR frR s' p')::rs))
  (hb : qx st ids idl ⟨c.n,ps,assign,body⟩ os caps rav 1000000 liR frR s' p' rs = true)
  (h1 : p' = none→∀ c1,yX c c1→OkC P c1 rest ⟨st.fr,jH (idl + 1) (bL 1000000 (idl::ids)) rs st.sto⟩ (vB Q))
  (h2 : p' = some .ret→Q .ret ⟨st.fr,jH (idl + 1) (bL 1000000 (idl::ids)) rs st.sto⟩) : OkR P c bl g ps assign body rest st Q:=by
 intro a w σ φ hr
 unfold qx at hb
 simp only [Bool.and_eq_true,Bool.not_eq_true'] at hb
 obtain ⟨⟨⟨⟨⟨⟨⟨⟨hj,hall⟩,hni⟩,hcm⟩,hk⟩,hi⟩,hfr⟩,hbu⟩,hp⟩:=hb
 have hren : c6 (rn (idl + 1) (bL 1000000 (idl::ids))) (c6 (inv 1000000 (idl::ids)) (b7 ids st.fr [])) = b7 ids st.fr [] :=
  nk fun i hi=>qs (by simp only [cg,Bool.or_eq_true]; exact .inr (kh i hi))
 have hne : ∀ i∈ids,i≠idl:=by
  intro i hmem e
  rw [e] at hmem
  rw [memL_iff.2 hmem] at hni; cases hni
 have e : c6 (rn (idl + 1) ((1000000,idl)::bL 1000001 ids)) (c6 (inv 1000000 (idl::ids)) (b7 ids st.fr [])) = b7 ids st.fr []:=hren
 have hX:=w3 (P:=P) (c:=c) (st:=st) (g:=g) (ps:=ps) (assign:=assign) (body:=body) (k:=idl + 1) (idl:=idl) (ρ:=bL 1000001 ids) hrd hmk hg hC (fun s v hv=>by rw [e] at hv; exact (gN hv).2)
  (j9 (s:=(idl,_)::st.sto) ((j8 (s:=st.sto) fun i hi=>aS (hne i hi)).trans hos) hall)
  (jh (s:=(idl,.loop ⟨c.n,ps,assign,body⟩ (b7 ids st.fr []) .ready none)::st.sto) (fun j i _=>by
   show look ((idl,AObj.loop _ _ _ _)::st.sto) i = _
   rw [e]) hcm) hk (by
   rw [e]
   simp only [Bool.and_eq_true,Bool.not_eq_true']
   exact hi) (fun i h1 h2=>eK hfr i (rng_mem.2 ⟨h1,h2⟩)) (by rintro rfl; cases hbu) (by
   unfold pOk at hp
   split at hp
   ·exact .inl rfl
   ·exact .inr rfl
   ·cases hp) a w σ φ hr
 refine wpIn_block (wpIn_mono hX ?_)
 rintro x a' w' (⟨hp0,rfl,c1,σ',φ',hg1,hr1⟩ | ⟨hp0,rfl,σ',φ',hr1⟩)
 ·have hc:=h1 hp0 c1 hg1 a' w' σ' φ' hr1
  have hf : fnc c1 = fnc c:=by rw [ir hg1.2.1,ir hrd]
  rw [hf] at hc
  refine wpIn_mono hc ?_
  rintro x a2 w2 ⟨s2,σ2,φ2,⟨rfl,hq⟩,hre⟩
  refine ⟨s2,σ2,φ2,hq,?_⟩
  rcases hre with h5 | ⟨_,r,_,_,_,h5⟩
  ·exact hg1.2.2.2 _ _ _ _ _ h5
  ·exact absurd h5.defers.symm hg1.2.2.1
 ·exact ⟨_,σ',φ',h2 hp0,hr1⟩
structure FamW {α : Type} (E : α→Sto) : Prop where
 big : ∀ a,iu (E a)
 ins : ∀ a,bm (E a) (E a) = true
 lp : ∀ a,lG (E a)
 nd : ∀ a,cB (bg (E a)) = true
theorem BM{α : Type}{l : List (Nat×α)} : ∀ {t : List (Nat×α)},(∀ q∈t,look l q.1 = some q.2)→SubL l t
 | [],_=>trivial
 | (i,x)::t,h=>⟨h _ List.mem_cons_self,BM fun q hq=>h q (List.mem_cons_of_mem _ hq)⟩
theorem yY : ∀ {s : Sto} {q : Nat×AObj},q∈s→cg q.1 (bg s) = true
 | p::r,q,h=>by
   obtain ⟨i,x⟩:=p
   rcases List.mem_cons.1 h with rfl | h
   ·simp [bg,cg]
   ·simp [bg,cg,yY h]
theorem BN : ∀ {s : Sto},cB (bg s) = true→∀ q∈s,look s q.1 = some q.2
 | (i,x)::r,h,q,hq=>by
   simp only [bg,cB,Bool.and_eq_true,Bool.not_eq_true'] at h
   rcases List.mem_cons.1 hq with rfl | hq
   ·simp [look]
   ·have hm:=yY hq
    have hne : Nat.beq i q.1 = false:=by
     cases hb : Nat.beq i q.1 with
     | false=>rfl
     | true =>
       have:=Nat.eq_of_beq_eq_true hb
       subst this
       rw [h.1] at hm; cases hm
    simp only [look,hne,cond_false]
    exact BN h.2 q hq
theorem G6{o1 s : Sto}(ho : fz 1000000 o1 = true)(hs : iu s)(hn : cB (bg s) = true) : SubL (o1 ++ s) s :=
 BM fun q hq=>by
  have h:=BN hn q hq
  rw [eb ho (hs _ _ h)]; exact h
theorem Jd{α β : Type}{E : α→Sto}(hE : FamW E)(g : β→α){body : Code}{Q : Exit→St→Prop}(o1 : Sto)(kept : List (Nat×AV))(hk : SubL fr kept)(L : β→List (Nat×AV))(Inv : β→Prop)(μ : β→Nat)(x0 : β)(hsto : sto = o1 ++ E (g x0))(ho : fz 1000000 o1 = true)(hL : SubL fr (L x0))(h0 : Inv x0)
  (hround : ∀ x,Inv x→OkC P c body ⟨L x ++ kept,o1 ++ E (g x)⟩ (aA (fun st'=>∃ y o2,Inv y∧μ y < μ x∧st'.sto = o2 ++ E (g y)∧fz 1000000 o2 = true∧SubL o2 o1∧SubL st'.fr (L y)∧SubL st'.fr kept) Q)) : OkC P c (.loop body) ⟨fr,sto⟩ Q:=by
 subst hsto
 have hap : ∀ {f a b : List (Nat×AV)},SubL f a→SubL f b→SubL f (a ++ b):=by
  intro f a b h1 h2
  induction a with
  | nil=>exact h2
  | cons p r ih=>exact ⟨h1.1,ih h1.2⟩
 have hdr : ∀ {f : List (Nat×AV)} {o2 s : Sto},iu s→fz 1000000 o2 = true→SubL o2 o1→Imp c ⟨f,o2 ++ s⟩ ⟨f,o1 ++ s⟩:=fun hs h2 h a w σ φ hr=>⟨σ,φ,hr.dropTo fun i e hi=>by
  show look (_ ++ _) i = some e
  rcases Nat.lt_or_ge i 1000000 with h3 | h3
  ·rw [iP hs h3] at hi ⊢; exact h.look hi
  ·rw [eb ho h3] at hi; rw [eb h2 h3]; exact hi⟩
 refine bf (st':=⟨L x0 ++ kept,o1 ++ E (g x0)⟩) (jz (hap hL hk)) ?_
 refine ox (fun n st=>∃ x,Inv x∧n = μ x∧st = ⟨L x ++ kept,o1 ++ E (g x)⟩) (μ x0) ⟨x0,h0,rfl,rfl⟩ ?_
 rintro n st ⟨x,hx,rfl,rfl⟩
 refine jI (hround x hx) fun e st h=>?_
 cases e with
 | normal =>
   obtain ⟨y,o2,hy,hlt,hs,h4,h5,h1,h2⟩:=h
   obtain ⟨f,s⟩:=st
   simp only at hs h1 h2
   subst hs
   exact ⟨μ y,_,hlt,⟨y,hy,rfl,rfl⟩,Imp.trans (jz (hap h1 h2)) (hdr (hE.big (g y)) h4 h5)⟩
 | _=>exact h
def tm(r : Nat→Nat) : List Nat→Bool
 | []=>true
 | i::l=>(!(Nat.ble 1000000 (r i) && Nat.blt (r i) 2000000) || Nat.beq (r i) i) && tm r l
theorem vC{r : Nat→Nat} : ∀ {l : List Nat},tm r l = true→∀ {i : Nat},i∈l→Pin (r i)→r i = i
 | j::l,h,i,hi,hb=>by
   simp only [tm,Bool.and_eq_true,Bool.or_eq_true,Bool.not_eq_true'] at h
   rcases List.mem_cons.1 hi with rfl | hi
   ·rcases h.1 with h1 | h1
    ·rw [Nat.ble_eq.mpr hb.1,Nat.blt_eq.mpr hb.2] at h1; cases h1
    ·exact Nat.eq_of_beq_eq_true h1
   ·exact vC h.2 hi hb
theorem dY(r : Nat→Nat)(hk : (cB (bg sto) && cB (jb r (bg sto)) && tm r (bg sto) && bm sto sto && jc sto fr) = true) : Imp c ⟨fr,sto⟩ ⟨c6 r fr,fW r sto⟩:=by
 intro a w σ φ hr
 simp only [Bool.and_eq_true] at hk
 obtain ⟨⟨⟨⟨h1,h2⟩,h3⟩,h4⟩,h5⟩:=hk
 classical
 let φ' : Pl:=fun t=>if h : ∃ i,i∈bg sto∧r i = t then φ h.choose else φ t
 have hφ : ∀ {i : Nat},i∈bg sto→φ' (r i) = φ i:=by
  intro i hi
  have hex : ∃ j,j∈bg sto∧r j = r i:=⟨i,hi,rfl⟩
  show (if h : ∃ j,j∈bg sto∧r j = r i then φ h.choose else φ (r i)) = φ i
  rw [dif_pos hex]
  have:=hex.choose_spec
  rw [nu h2 this.1 hi this.2]
 have hR : ∀ j o,look sto j = some o→look (fW r sto) (r j) = some (cG r o)∧φ' (r j) = φ j:=fun j o hj=>⟨nv h2 hj,hφ (mI hj)⟩
 refine ⟨σ,φ',hr.le,hr.fresh,⟨hr.inv.sig,fun t e ht=>?_,fun t t' e e' p p' ht ht' hne hp hp'=>?_⟩,fun t e p ht hp=>?_,fun s v hv=>?_,hr.defers,hr.size,hr.fra,fun t ht=>?_⟩
 ·obtain ⟨i,o,rfl,hi,rfl⟩:=dx h1 ht
  exact yo hR hi (fA h4 hi) (hr.inv.obj _ _ hi)
 ·obtain ⟨i,o,rfl,hi,rfl⟩:=dx h1 ht
  obtain ⟨i',o',rfl,hi',rfl⟩:=dx h1 ht'
  rw [(hR _ _ hi).2] at hp
  rw [(hR _ _ hi').2] at hp'
  exact hr.inv.inj _ _ _ _ _ _ hi hi' (fun e=>hne (by rw [e])) hp hp'
 ·obtain ⟨i,o,rfl,hi,rfl⟩:=dx h1 ht
  rw [(hR _ _ hi).2] at hp
  exact hr.mine _ _ _ hi hp
 ·rw [ki] at hv
  cases hl : look fr s with
  | none=>rw [hl] at hv; cases hv
  | some v0 =>
    rw [hl] at hv; cases hv
    obtain ⟨u,hu,hru⟩:=hr.slot s v0 hl
    exact ⟨u,hu,reV hR (lH h5 hl) hru⟩
 ·show (if h : ∃ j,j∈bg sto∧r j = t then φ h.choose else φ t) = _
  split
  ·rename_i hex
   have hs:=hex.choose_spec
   have:=vC h3 hs.1 (by rw [hs.2]; exact ht)
   rw [hs.2] at this
   rw [← this]; exact hr.pin t ht
  ·exact hr.pin t ht
theorem ug{i : Nat} : ∀ {a b : Sto},aR i (a ++ b) = (aR i a || aR i b)
 | [],_=>by simp [aR]
 | p::r,b=>by simp only [List.cons_append,aR,ug (a:=r),Bool.or_assoc]
theorem uh{s t : Sto}(hs : iu s){i : Nat}(hi : i < 1000000) : ∀ {l : Sto},bm s l = true→aR i l = false
 | [],_=>rfl
 | (j,e)::r,h=>by
   simp only [bm,Bool.and_eq_true] at h
   simp only [aR]
   rw [uh (t:=t) hs hi h.2,Bool.or_false]
   cases hm : e.men i with
   | false=>rfl
   | true =>
     obtain ⟨e',he⟩:=iv (tn h.1 i hm)
     have:=hs _ _ he; omega
theorem Fj{o1 s : Sto}(hs : iu s)(hin : bm s s = true){id : Nat}(h : (Nat.blt id 1000000 && (!bo o1 id && !bx id fr && !aR id o1)) = true) : (Nat.blt id 1000000 && (!bo (o1 ++ s) id && !bx id fr && !aR id (o1 ++ s))) = true:=by
 simp only [Bool.and_eq_true,Bool.not_eq_true',Nat.blt_eq] at h ⊢
 obtain ⟨h1,⟨h2,h3⟩,h4⟩:=h
 refine ⟨h1,⟨?_,h3⟩,?_⟩
 ·unfold bo at h2 ⊢; rw [iP hs h1]; exact h2
 ·rw [ug,h4,uh (t:=s) hs h1 hin]; rfl
theorem KN(o1 : Sto)(id : Nat){s : Sto}(hs : iu s)(hin : bm s s = true){d : Nat}{t : TypeId}{x : Operand}{v : AV}{cs : List AC}(hsto : sto = o1 ++ s)(ho : o.op = .box t x)(hg : o.guard = none)(hdst : o.dst = some d)(hdn : Nat.blt d n = true)(hd : (Nat.blt id 1000000 && (!bo o1 id && !bx id fr && !aR id o1)) = true)
  (hx : ev ⟨fr,sto⟩ x = some v) (hc : (match cellsOf v with | some cs'=>bif cq id cs' then none else some cs' | none=>none) = some cs)
  (h : ae P ⟨w0,σ0,φ0,M,n,rd,mk⟩ ops rest ⟨(d,.one (.ref id 0))::fr,(id,.box cs)::sto⟩ K) : ae P ⟨w0,σ0,φ0,M,n,rd,mk⟩ ops (o::rest) ⟨fr,sto⟩ K:=by
 subst hsto
 exact yp id ho hg hdst (by rw [hdn,Bool.true_and]; exact Fj hs hin hd) hx hc h
theorem G7(hT : ba P T)(o1 : Sto)(id : Nat){s : Sto}(hs : iu s)(hin : bm s s = true){d : Nat}{t : TypeId}{td : TD}(hsto : sto = o1 ++ s)(ho : o.op = .alloc t)(hg : o.guard = none)(hdst : o.dst = some d)(hdn : Nat.blt d n = true)(hd : (Nat.blt id 1000000 && (!bo o1 id && !bx id fr && !aR id o1)) = true)(ht : look T t = some td)
  (h : ae P ⟨w0,σ0,φ0,M,n,rd,mk⟩ ops rest ⟨(d,.one (.ref id 0))::fr,(id,.box (td.zero.map .d))::sto⟩ K) : ae P ⟨w0,σ0,φ0,M,n,rd,mk⟩ ops (o::rest) ⟨fr,sto⟩ K:=by
 subst hsto
 exact my hT id ho hg hdst (by rw [hdn,Bool.true_and]; exact Fj hs hin hd) ht h
theorem IG{s : Sto}(h : lG s) : bo s 1000000 = true:=by
 obtain ⟨li,fr,st,p,h⟩:=h
 simp [bo,h]
theorem qy{rs : List ResultVar}{rav rav' : AV}{rsto s : Sto}{e : Exit}{l : List (Bool×List AC)}(o1 : Sto)(he : e = .ret∨e = .normal)(hsto : sto = o1 ++ s)(hl : mJ T ⟨fr,sto⟩ rs = some l)(hr : pj l = some rav')(h : rav' = rav∧s = rsto)(ho : fz 1000000 o1 = true)(hs : iu s)(hn : cB (bg s) = true) : aN T rs rav rsto e ⟨fr,sto⟩:=by
 obtain ⟨h1,rfl⟩:=h
 subst hsto
 exact ⟨he,l,hl,by rw [hr,h1],G6 ho hs hn⟩
def iQ(P : Program)(id : Nat)(c : Ctx)(body : Code)(rav : AV)(rsto : Sto)(e : Exit)(st : St) : Prop :=
 e = .normal∧∃ li1 fr1,look st.sto id = some (.loop li1 fr1 .ready none)∧OkC P c body ⟨st.fr,bS id (.loop li1 fr1 .busy none) st.sto⟩ (cN id rav rsto)
theorem G8{id : Nat}{body : Code}{rav : AV}{rsto : Sto}{li1 : LI}{fr1 : List (Nat×AV)}(hl : look st.sto id = some (.loop li1 fr1 .ready none))(h : OkC P c body ⟨st.fr,bS id (.loop li1 fr1 .busy none) st.sto⟩ (cN id rav rsto)) : iQ P id c body rav rsto .normal st:=⟨rfl,_,_,hl,h⟩
theorem fX{id : Nat}{rav : AV}{rsto : Sto}{li : LI}{fr1 : List (Nat×AV)}{p : Option Code}(hl : look st.sto id = some (.loop li fr1 .busy p))(hr : rav = .one (.d (.bool true)))(hs : SubL (bS id (.loop li fr1 .ready none) st.sto) rsto) : cN id rav rsto .normal st :=
 ⟨li,fr1,p,hl,.inl ⟨rfl,hr,hs⟩⟩
theorem oy{id : Nat}{rav : AV}{rsto : Sto}{li : LI}{fr1 : List (Nat×AV)}{p : Option Code}{e : Exit}{j : Code}(hl : look st.sto id = some (.loop li fr1 .busy p))(hj : yZ e = some j)(hr : rav = .one (.d (.bool false)))(hs : SubL (bS id (.loop li fr1 .done (some j)) st.sto) rsto) : cN id rav rsto e st :=
 ⟨li,fr1,p,hl,.inr ⟨j,hj,hr,hs⟩⟩
theorem qz{id : Nat}{li : LI}{fr : List (Nat×AV)}{args : List AV}{sto : Sto}{rav : AV}{rsto : Sto}(hid : Pin id)(hl : look sto id = some (.loop li fr .ready none))
  (hps : (jj li.n li.params.toList && Nat.beq li.params.toList.length args.length) = true)
  (h : ∀ (w0 : World) (σ0 : Sig) (φ0 : Pl) (M : Nat→Prop) (B : Nat),OkC P ⟨w0,σ0,φ0,M,li.n,some B,[]⟩ li.assign ⟨fY li.params.toList args fr,sto⟩ (iQ P id ⟨w0,σ0,φ0,M,li.n,some B,[]⟩ li.body rav rsto)) : YieldA P id args sto rav rsto:=qA hid hl hps h
end Go.Abs
namespace Go.Abs
open Go
variable {P : Program} {V : Env} {T : Tab} {c : Ctx} {st st0 : St} {σ σ' : Sig} {φ φ' : Pl} {w w' : World}
theorem uv{ops : Array Oper}{o : Oper}{rest : List Oper}{a : Act}{Q : Exit→Act→World→Prop}{u : Value}(hg : o.guard = none)(hrun : (execOp a.eval o).run P w = .ok (.value u) w')(h : wpListIn (fnc c) 0 P ops Q rest (a.put o.dst u) w') : wpListIn (fnc c) 0 P ops Q (o::rest) a w:=by
 refine wpListIn_plain hg fun K' hK=>⟨fun f _=>iC c f,?_⟩
 rw [jK (by simp) hrun]
 exact hK _ _ h
theorem yc{s : ByteArray}{pos r : Nat}{ty : TypeId}(hh : w.heap[r]? = some (.stringIter s pos))(h : ¬ pos < s.size) : (Instr.next (.pointer (some ⟨r,0,none⟩)) true ty).run P w = .ok (.tuple #[.bool false]) w:=by
 simp [Instr.next,getObj,Sem.run,hh,Result.andThen,h]
theorem yd{s : ByteArray}{pos r : Nat}{ty : TypeId}(hh : w.heap[r]? = some (.stringIter s pos))(h : pos < s.size) : (Instr.next (.pointer (some ⟨r,0,none⟩)) true ty).run P w =
  .ok (.tuple #[.bool true,.int .i64 pos,.int .i32 (Utf8.decode s pos).1]) { w with heap:=w.heap.setIfInBounds r (.stringIter s (pos + (Utf8.decode s pos).2)) }:=by
 simp [Instr.next,getObj,setObj,Sem.run,hh,Result.andThen,h,goInt]
theorem Br(s : ByteArray)(pos : Nat)(h : pos < s.size) : 1≤(Utf8.decode s pos).2:=by
 by_cases ha : (s[pos]'h).toNat < 128
 ·rw [decode_ascii s pos h ha]; exact Nat.le_refl _
 ·exact (decode_high s pos h (by omega)).2
theorem Rel.iter{fr : List (Nat×AV)}{a : Act}{r : Nat}{s : ByteArray}{p q : Nat}(hr : Rel c ⟨fr,[]⟩ a w σ φ)(hh : w.heap[r]? = some (.stringIter s p))(hn : c.w0.heap.size≤r) :
  Rel c ⟨fr,[]⟩ a { w with heap:=w.heap.setIfInBounds r (.stringIter s q) } σ φ:=by
 refine ⟨hr.le,hr.fresh,⟨fun b cs hb=>?_,fun i e hi=>by simp [look] at hi,fun i i' e e' p p' hi=>by simp [look] at hi⟩,fun i e p hi=>by simp [look] at hi,hr.slot,hr.defers,hr.size,⟨hr.fra.os,hr.fra.tape,hr.fra.output,?_,hr.fra.drawn,fun b hb hm=>?_⟩,hr.pin⟩
 ·obtain ⟨t,f,h1⟩:=hr.inv.sig b cs hb
  refine ⟨t,f,?_⟩
  have hne : r≠b:=by rintro rfl; rw [hh] at h1; cases h1
  simp only [Array.getElem?_setIfInBounds_ne hne]; exact h1
 ·simp only [Array.size_setIfInBounds]; exact hr.fra.size
 ·have hne : r≠b:=by omega
  simp only [Array.getElem?_setIfInBounds_ne hne]; exact hr.fra.block b hb hm
def ko(s : List UInt8)(k : Nat) : Int:=((Utf8.decode ⟨s.toArray⟩ k).1 : Nat)
def kP(s : List UInt8)(k : Nat) : Nat:=(Utf8.decode ⟨s.toArray⟩ k).2
theorem uw{s : List UInt8}{k : Nat}{b : UInt8}(h : s[k]? = some b)(hb : b.toNat < 128) : ko s k = b.toNat∧kP s k = 1:=by
 obtain ⟨hl,he⟩:=List.getElem?_eq_some_iff.1 h
 have hk : k < (⟨s.toArray⟩ : ByteArray).size:=by simpa [ByteArray.size] using hl
 have hg : (⟨s.toArray⟩ : ByteArray)[k]'hk = b:=by
  show s.toArray[k]'(by simpa using hl) = b
  simpa using he
 have:=decode_ascii ⟨s.toArray⟩ k hk (by rw [hg]; exact hb)
 unfold ko kP
 rw [this,hg]
 exact ⟨rfl,rfl⟩
theorem Fw{s : List UInt8}{k : Nat}{b : UInt8}(h : s[k]? = some b)(hb : ¬ b.toNat < 128) : 128≤ko s k:=by
 obtain ⟨hl,he⟩:=List.getElem?_eq_some_iff.1 h
 have hk : k < (⟨s.toArray⟩ : ByteArray).size:=by simpa [ByteArray.size] using hl
 have hg : (⟨s.toArray⟩ : ByteArray)[k]'hk = b:=by
  show s.toArray[k]'(by simpa using hl) = b
  simpa using he
 have:=(decode_high ⟨s.toArray⟩ k hk (by rw [hg]; omega)).1
 unfold ko; omega
theorem qE{α : Type}{d : Nat}{v : α}{l : List (Nat×α)} : ∀ {kept : List (Nat×α)},look kept d = none→SubL l kept→SubL ((d,v)::l) kept
 | [],_,_=>trivial
 | (t,x)::r,h,hs=>by
   simp only [look] at h
   cases hb : Nat.beq t d with
   | true=>rw [hb] at h; simp at h
   | false =>
     rw [hb] at h
     simp only [cond_false] at h
     refine ⟨?_,qE h hs.2⟩
     have : Nat.beq d t = false:=by
      cases hc : Nat.beq d t with
      | false=>rfl
      | true=>have:=Nat.eq_of_beq_eq_true hc; subst this; rw [Nat.beq_refl] at hb; cases hb
     simp only [look,this,cond_false]
     exact hs.1
theorem RelE.back{fr : List (Nat×AV)}{st' : St}{a a' : Act}{e : Exit}(hmk : c.mks = [])(hr : Rel c ⟨fr,[]⟩ a w σ φ)(h : RelE ⟨w,σ,φ,MOf φ [],c.n,c.rd,[]⟩ e st' a' w' σ' φ') : RelE c e st' a' w' σ' φ':=by
 rcases h with h | ⟨he,r,h1,h2,h3,h4⟩
 ·have hb:=Rel.back (rd:=c.rd) (mk:=[]) hr h
  have hd : a'.defers = []:=h.defers
  have : ({ a' with defers:=c.mks } : Act) = a':=by rw [hmk,← hd]
  rw [this] at hb
  exact .inl hb
 ·have hb:=Rel.back (rd:=c.rd) (mk:=[]) hr h4
  rw [hmk] at hb
  exact .inr ⟨he,r,h1,h2,Nat.le_trans hr.fra.size h3,hb⟩
def zh(bl : Nat)(Q : Exit→St→Prop)(I : Prop)(kept : List (Nat×AV))(e : Exit)(st : St) : Prop:=(e = .normal∧I∧SubL st.fr kept)∨(e≠.normal∧av bl Q e st)
def Dt(bl : Nat)(Q : Exit→St→Prop)(e : Exit)(st : St) : Prop:=e≠.normal∧av bl Q e st
theorem KV{bl : Nat}{Q : Exit→St→Prop}{I : Prop}{kept : List (Nat×AV)}(h : I)(hs : SubL st.fr kept) : zh bl Q I kept .normal st:=.inl ⟨rfl,h,hs⟩
theorem KW{bl : Nat}{Q : Exit→St→Prop}{I : Prop}{kept : List (Nat×AV)}{e : Exit}(he : e≠.normal)(h : av bl Q e st) : zh bl Q I kept e st:=.inr ⟨he,h⟩
theorem Jk{bl : Nat}{Q : Exit→St→Prop}{e : Exit}(he : e≠.normal)(h : av bl Q e st) : Dt bl Q e st:=⟨he,h⟩
theorem Bt{id1 id2 bl : Nat}{o0 o1 o2 : Oper}{l2 : List Oper}{body2 : Code}{fr kept : List (Nat×AV)}{Q : Exit→St→Prop}{d0 d1 d2 : Nat}{t : TypeId}{x0 : Operand}{s : List UInt8}
  (hmk : c.mks = []) (h0 : o0.op = .move x0) (hg0 : o0.guard = none) (hd0 : o0.dst = some d0) (hb0 : Nat.blt d0 c.n = true) (hx : ev ⟨fr,[]⟩ x0 = some (.one (.d (.str s))))
  (h1 : o1.op = .range t (.tmp d0)) (hg1 : o1.guard = none) (hd1 : o1.dst = some d1) (hb1 : Nat.blt d1 c.n = true) (ht : P.underlying t = some .string)
  (h2 : o2.op = .next (.tmp d1) true) (hg2 : o2.guard = none) (hd2 : o2.dst = some d2) (hb2 : Nat.blt d2 c.n = true) (hne : Nat.beq d0 d1 = false)
  (hk : SubL fr kept) (hkd : look kept d0 = none) (hkd1 : look kept d1 = none) (hkd2 : look kept d2 = none) (Inv : Nat→Prop) (hi : Inv 0)
  (hmore : ∀ k,Inv k→k < s.length→∀ (c2 : Ctx),c2.n = c.n→c2.rd = c.rd→c2.mks = []→∀ raw,ae P c2 (o2::l2).toArray l2 ⟨(d2,.tup [(false,[.d (.bool true)]),(false,[.d (.int .i64 k)]),(false,[.d (.int .i32 (ko s k))])])::(d1,.one (.d (.raw raw)))::kept,[]⟩
   (fun st'=>OkC P c2 body2 st' (zh bl Q (Inv (k + kP s k)) ((d1,.one (.d (.raw raw)))::kept))))
  (hover : ∀ k,Inv k→s.length≤k→∀ (c2 : Ctx),c2.n = c.n→c2.rd = c.rd→c2.mks = []→∀ raw,ae P c2 (o2::l2).toArray l2 ⟨(d2,.tup [(false,[.d (.bool false)])])::(d1,.one (.d (.raw raw)))::kept,[]⟩
   (fun st'=>OkC P c2 body2 st' (Dt bl Q))) :
  OkC P c (.seq (.region id1 ⟨[o0,o1]⟩ false) (.block bl (.loop (.seq (.region id2 ⟨o2::l2⟩ false) body2)))) ⟨fr,[]⟩ Q:=by
 intro a w σ φ hr
 refine wpIn_seq (wpIn_region_list ?_)
 have hs:=aI hr hx
 replace hs:=RepC.d_inv hs
 generalize hv : a.eval x0 = v at hs
 cases hs with
 | str hlen =>
 have hrun0 : (execOp a.eval o0).run P w = .ok (.value (.string ⟨s.toArray⟩)) w:=by
  rw [← hv]; simp [execOp,h0]
 refine uv hg0 hrun0 ?_
 have hr1 : Rel c ⟨(d0,.one (.d (.str s)))::fr,[]⟩ (a.put o0.dst (.string ⟨s.toArray⟩)) w σ φ:=by
  have:=hr.putTo (dst:=o0.dst) (v:=.one (.d (.str s))) (u:=.string ⟨s.toArray⟩) (st':=⟨fr,[]⟩) (by rw [hd0]; exact hb0) hr.le hr.fresh hr.inv hr.mine hr.fra hr.pin (fun _=>RepC.d (.str hlen)) (fun s x _ hx=>⟨x,hx,fun z hz=>hz⟩)
  rw [hd0] at this ⊢; exact this
 generalize ha1 : a.put o0.dst (.string ⟨s.toArray⟩) = a1 at hr1
 have hv1 : a1.eval (.tmp d0) = .string ⟨s.toArray⟩:=by
  have h3:=aI hr1 (x:=.tmp d0) (v:=.one (.d (.str s))) (by simp [ev,look])
  replace h3:=RepC.d_inv h3
  generalize a1.eval (.tmp d0) = v1 at h3
  cases h3; rfl
 let ptr : Value:=.pointer (some ⟨w.heap.size,0,none⟩)
 have hrun1 : (execOp a1.eval o1).run P w = .ok (.value ptr) (w.alloc (.stringIter ⟨s.toArray⟩ 0)):=by
  have h4:=run_range_string (P:=P) w t ⟨s.toArray⟩ ht
  simp only [execOp,h1,hv1]
  simp only [Sem.run_bind,h4,Result.andThen_ok,Sem.run_pure]
  rfl
 refine uv hg1 hrun1 (wpListIn_nil ?_)
 have hrA:=hr1.alien (.stringIter ⟨s.toArray⟩ 0)
 have hr2 : Rel c ⟨(d1,.one (.d (.raw ptr)))::(d0,.one (.d (.str s)))::fr,[]⟩ (a1.put o1.dst ptr) (w.alloc (.stringIter ⟨s.toArray⟩ 0)) σ φ:=by
  have:=hrA.putTo (dst:=o1.dst) (v:=.one (.d (.raw ptr))) (u:=ptr) (st':=⟨(d0,.one (.d (.str s)))::fr,[]⟩) (by rw [hd1]; exact hb1) hrA.le hrA.fresh hrA.inv hrA.mine hrA.fra hrA.pin (fun _=>RepC.d (.raw rfl)) (fun s x _ hx=>⟨x,hx,fun z hz=>hz⟩)
  rw [hd1] at this ⊢; exact this
 generalize a1.put o1.dst ptr = a2 at hr2
 have hold : c.w0.heap.size≤w.heap.size:=hr.fra.size
 let r:=w.heap.size
 have hr3 : Rel c ⟨(d1,.one (.d (.raw ptr)))::kept,[]⟩ a2 (w.alloc (.stringIter ⟨s.toArray⟩ 0)) σ φ :=
  ⟨hr2.le,hr2.fresh,hr2.inv,hr2.mine,fun s v hv=>hr2.slot s v (SubL.look (l':=(d1,.one (.d (.raw ptr)))::kept) ⟨by simp [look],qE hkd1 (qE hkd hk)⟩ hv),hr2.defers,hr2.size,hr2.fra,hr2.pin⟩
 refine wpIn_block (wpIn_loop (fun a w=>∃ k σ φ,Inv k∧Rel c ⟨(d1,.one (.d (.raw ptr)))::kept,[]⟩ a w σ φ∧w.heap[r]? = some (.stringIter ⟨s.toArray⟩ k)) (fun _ w=>match w.heap[r]? with | some (.stringIter _ p)=>s.length - p | _=>0)
  ⟨0,σ,φ,hi,hr3,cn _ _⟩ ?_)
 clear hr3 hr2 hrA hr1 hrun1 hrun0 hv1 ha1 a1 a2
 rintro a w1 ⟨k,σ1,φ1,hI,hr4,hh⟩
 refine wpIn_seq (wpIn_region_list ?_)
 have hp : a.eval (.tmp d1) = ptr:=by
  have h3:=aI hr4 (x:=.tmp d1) (v:=.one (.d (.raw ptr))) (by simp [ev,look])
  replace h3:=RepC.d_inv h3
  generalize a.eval (.tmp d1) = v1 at h3
  cases h3; rfl
 have hsz : (⟨s.toArray⟩ : ByteArray).size = s.length:=by simp [ByteArray.size]
 have fin : ∀ {w2 : World} {st2 : St} {a2 : Act} (hr5 : Rel c ⟨st2.fr,[]⟩ a2 w2 σ1 φ1) (hst : st2.sto = []) {R : St→Prop} {K : Exit→St→Prop} (_ : ∀ st',R st'→OkC P ⟨w2,σ1,φ1,MOf φ1 [],c.n,c.rd,[]⟩ body2 st' K)
   (_ : ae P ⟨w2,σ1,φ1,MOf φ1 [],c.n,c.rd,[]⟩ (o2::l2).toArray l2 st2 R) {Z : Exit→Act→World→Prop}
   (_ : ∀ e a5 w5 st5 σ5 φ5,K e st5→RelE ⟨w2,σ1,φ1,MOf φ1 [],c.n,c.rd,[]⟩ e st5 a5 w5 σ5 φ5→Z e a5 w5),wpListIn (fnc c) 0 P (o2::l2).toArray (Exit.then (body2.wpIn (fnc c) 0 P Z) Z) l2 a2 w2:=by
  intro w2 st2 a2 hr5 hst R K hR hO Z hZ
  have hd0 : a2.defers = []:=hr5.defers.trans hmk
  have hd : ({ a2 with defers:=[] } : Act) = a2:=by rw [← hd0]
  have hr6:=hr5.anew [] c.rd
  rw [hd] at hr6
  obtain ⟨f2,s2⟩:=st2
  simp only at hst hr6
  subst hst
  refine hO a2 w2 σ1 φ1 _ hr6 fun a4 w4 σ4 φ4 st4 hK hr7=>?_
  exact wpIn_mono (hR st4 hK a4 w4 σ4 φ4 hr7) fun e a5 w5 ⟨st5,σ5,φ5,hq,hre⟩=>hZ e a5 w5 st5 σ5 φ5 hq hre
 have leave : ∀ {e : Exit} {a5 : Act} {w5 : World} {st5 : St} {σ5 : Sig} {φ5 : Pl},av bl Q e st5→RelE c e st5 a5 w5 σ5 φ5→e≠.normal→Exit.inBlock bl (fun e a' w'=>∃ st' σ' φ',Q e st'∧RelE c e st' a' w' σ' φ') e a5 w5:=by
  intro e a5 w5 st5 σ5 φ5 hq hre hne
  cases e with
  | normal=>exact absurd rfl hne
  | exit i =>
    simp only [av] at hq
    cases hb : Nat.beq i bl with
    | true =>
      have hi:=Nat.eq_of_beq_eq_true hb
      rw [hb] at hq
      simp only [Exit.inBlock]
      rw [if_pos hi]
      exact ⟨st5,σ5,φ5,hq,.inl (hre.rel (by simp))⟩
    | false =>
      have hi : i≠bl:=by rintro rfl; rw [Nat.beq_refl] at hb; cases hb
      rw [hb] at hq
      simp only [Exit.inBlock]
      rw [if_neg hi]
      exact ⟨st5,σ5,φ5,hq,hre⟩
  | _=>exact ⟨st5,σ5,φ5,hq,hre⟩
 by_cases hlt : k < s.length
 ·have hrun2:=yd (P:=P) (ty:=o2.type) hh (by rw [hsz]; exact hlt)
  have hrun : (execOp a.eval o2).run P w1 = .ok (.value (.tuple #[.bool true,.int .i64 k,.int .i32 (Utf8.decode ⟨s.toArray⟩ k).1])) { w1 with heap:=w1.heap.setIfInBounds r (.stringIter ⟨s.toArray⟩ (k + (Utf8.decode ⟨s.toArray⟩ k).2)) }:=by
   simp only [execOp,h2,hp]
   simp only [Sem.run_bind,ptr]
   rw [show (⟨w.heap.size,0,none⟩ : Addr) = ⟨r,0,none⟩ from rfl,hrun2]
   rfl
  refine uv hg2 hrun ?_
  have hri:=hr4.iter (q:=k + (Utf8.decode ⟨s.toArray⟩ k).2) hh hold
  have hrl:=decode_le ⟨s.toArray⟩ k
  have hr5:=hri.putTo (dst:=o2.dst) (v:=.tup [(false,[.d (.bool true)]),(false,[.d (.int .i64 k)]),(false,[.d (.int .i32 (ko s k))])]) (u:=.tuple #[.bool true,.int .i64 k,.int .i32 (Utf8.decode ⟨s.toArray⟩ k).1]) (st':=⟨(d1,.one (.d (.raw ptr)))::kept,[]⟩) (by rw [hd2]; exact hb2) hri.le hri.fresh hri.inv hri.mine hri.fra hri.pin
   (fun _=>⟨[_,_,_],rfl,⟨⟨.d .bool,trivial⟩,⟨⟨.d (.int (by
    simp only [inR,IntKind.min,IntKind.max,IntKind.signed,IntKind.bits,if_true]; omega)),trivial⟩,⟨⟨.d (.int (by
    simp only [inR,ko,IntKind.min,IntKind.max,IntKind.signed,IntKind.bits,if_true]; omega)),trivial⟩,trivial⟩⟩⟩⟩) (fun s x _ hx=>⟨x,hx,fun z hz=>hz⟩)
  rw [hd2] at hr5 ⊢
  refine fin (st2:=⟨_,[]⟩) hr5 rfl (fun st' h=>h) (hmore k hI hlt ⟨_,σ1,φ1,MOf φ1 [],c.n,c.rd,[]⟩ rfl rfl rfl ptr) ?_
  rintro e a5 w5 st5 σ5 φ5 hq hre
  have hbk:=RelE.back hmk hri hre
  rcases hq with ⟨rfl,hI',hsub⟩ | ⟨hne',hq⟩
  ·have h6:=hbk.rel (by simp)
   have h7:=hre.rel (by simp)
   have hlt1 : r < w1.heap.size:=(Array.getElem?_eq_some_iff.1 hh).1
   have h8 : w5.heap[r]? = some (.stringIter ⟨s.toArray⟩ (k + kP s k)):=by
    rw [h7.fra.block r (by simp only [Array.size_setIfInBounds]; exact hlt1) (by rintro ⟨id,e,p,h,_⟩; simp [look] at h)]
    simp [hlt1,kP]
   have h9:=h6.dropTo (s':=[]) (by simp [look])
   refine ⟨⟨_,σ5,φ5,hI',⟨h9.le,h9.fresh,h9.inv,h9.mine,fun s v hv=>h9.slot s v (hsub.look hv),h9.defers,h9.size,h9.fra,h9.pin⟩,h8⟩,?_⟩
   ·simp only [h8,hh]
    have:=Br ⟨s.toArray⟩ k (by rw [hsz]; exact hlt)
    simp only [kP]
    omega
  ·have:=leave hq hbk hne'
   cases e <;> first | exact absurd rfl hne' | exact this
 ·have hrun2:=yc (P:=P) (ty:=o2.type) hh (by rw [hsz]; exact hlt)
  have hrun : (execOp a.eval o2).run P w1 = .ok (.value (.tuple #[.bool false])) w1:=by
   simp only [execOp,h2,hp]
   simp only [Sem.run_bind,ptr]
   rw [show (⟨w.heap.size,0,none⟩ : Addr) = ⟨r,0,none⟩ from rfl,hrun2]
   rfl
  refine uv hg2 hrun ?_
  have hr5:=hr4.putTo (dst:=o2.dst) (v:=.tup [(false,[.d (.bool false)])]) (u:=.tuple #[.bool false]) (st':=⟨(d1,.one (.d (.raw ptr)))::kept,[]⟩) (by rw [hd2]; exact hb2) hr4.le hr4.fresh hr4.inv hr4.mine hr4.fra hr4.pin
   (fun _=>⟨[_],rfl,⟨⟨.d .bool,trivial⟩,trivial⟩⟩) (fun s x _ hx=>⟨x,hx,fun z hz=>hz⟩)
  rw [hd2] at hr5 ⊢
  refine fin (st2:=⟨_,[]⟩) hr5 rfl (fun st' h=>h) (hover k hI (by omega) ⟨_,σ1,φ1,MOf φ1 [],c.n,c.rd,[]⟩ rfl rfl rfl ptr) ?_
  rintro e a5 w5 st5 σ5 φ5 ⟨hne',hq⟩ hre
  have:=leave hq (RelE.back hmk hr4 hre) hne'
  cases e <;> first | exact absurd rfl hne' | exact this
end Go.Abs
namespace Go.Proofs.YtpejdgkaapnekaaGreat
open Go Go.Abs
attribute [local irreducible] ae OkC ar aA av aN zh Dt
set_option maxRecDepth 10000
theorem Ln : Tryz.prog.underlying 9 = some .string:=by kernel_rfl
theorem zD{s : List UInt8}{k : Nat}(h : k < s.length) : (decide (ko s k < 32) || decide (126 < ko s k)) = !dV (at_ s k):=by
 have hb:=gH h
 by_cases ha : (at_ s k).toNat < 128
 ·rw [(uw hb ha).1,Bool.eq_iff_iff]
  simp [dV]
  omega
 ·have:=Fw hb ha
  rw [Bool.eq_iff_iff]
  simp [dV]
  omega
theorem HC{s : List UInt8}{k : Nat}(h : k < s.length)(hb : dV (at_ s k) = true) : kP s k = 1:=by
 simp [dV] at hb
 exact (uw (gH h) (by omega)).2
theorem P7(s : List UInt8) : CallA Tryz.prog 341 [.one (.d (.str s)),.one (.d (.fn 281 [])),.one (.d (.bool true))] [] (.one (.d (.int .i64 (aL (fun c=>!dV c) s 0)))) []:=by
 refine enter af Tryz.func341 rfl (by decide +kernel) rfl fun hok w0 σ0 φ0 M=>?_
 have hl:=hok.1.str; clear hok
 repeat' (first|(refine h4H ?_; refine Bt (kept:=[(1,_),(2,_)]) J J J J J J J J J J Ln J J J J J (q2Q J J) J J J (fun k=>k≤s.length∧aL (fun c=>!dV c) s 0 = aL (fun c=>!dV c) (s.drop k) k) ⟨Nat.zero_le _,rfl⟩ ?_ ?_)|refine wG ?_)
 ·rintro k ⟨hk,hi⟩ hlt ⟨w1,σ1,φ1,M1,n1,rd1,mk1⟩ hn hrd hmk raw
  dsimp only at hn hrd hmk
  subst hn hrd hmk
  repeat' (first|(refine h1H ?_; (refine h0H ?_; refine aa J J J J J J J J (Pk _) J ?_))|(show zh _ _ _ _ _ _; refine KV ?_ (by first|exact aZ|exact (q1Q J)|exact (q2Q J J)|exact (q3Q J J J)|exact (q4Q J J J J)|exact (q5Q J J J J J)|exact (q6Q J J J J J J)|exact (q7Q J J J J J J J)))|refine wG ?_|(refine h4H ?_; refine ah J (fun h=>?_) (fun h=>?_)))
  ·rw [zD hlt] at h
   rw [hi,ao hlt]
   simp at h
   simp [aL,h]
  ·rw [zD hlt] at h
   have hb : dV (at_ s k) = true:=by simpa using h
   rw [HC hlt hb]
   refine ⟨by omega,?_⟩
   rw [hi,ao hlt]
   simp [aL,hb]
 ·rintro k ⟨hk,hi⟩ hge ⟨w1,σ1,φ1,M1,n1,rd1,mk1⟩ hn hrd hmk raw
  dsimp only at hn hrd hmk
  subst hn hrd hmk
  repeat' (first|refine wG ?_)
  rw [hi,List.drop_eq_nil_of_le hge]
  rfl
theorem P8(s : List UInt8) : CallA Tryz.prog 282 [.one (.d (.str s)),.one (.d (.fn 281 []))] [] (.one (.d (.int .i64 (aL (fun c=>!dV c) s 0)))) []:=by
 refine enter af Tryz.func282 rfl (by decide +kernel) rfl fun hok w0 σ0 φ0 M=>?_
 clear hok
 repeat' (first|(refine h1H ?_; (refine h0H ?_; refine aa J J J J J J J J (P7 _) J ?_))|refine wG ?_)
 all_goals rfl
end Go.Proofs.YtpejdgkaapnekaaGreat
namespace Go.Proofs.YtpejdgkaapnekaaGreat
open Go Go.Abs
attribute [local irreducible] ae OkC ar aA av aN
set_option maxRecDepth 10000
theorem Ot(a b : Int)(ha : 0≤a)(hb : 0≤b) : CallA Tryz.prog 280 [.one (.d (.int .i64 a)),.one (.d (.int .i64 b))] [] (.one (.d (.int .i64 ((Nat.gcd a.toNat b.toNat : Nat) : Int)))) []:=by
 have:=Ts a.toNat b.toNat
 rwa [Int.toNat_of_nonneg ha,Int.toNat_of_nonneg hb] at this
theorem Kq{s : List UInt8} : ∀ (k : Nat),(decide (aL (fun c=>!dV c) s k < 0)) = s.all dV:=by
 induction s with
 | nil=>intro k; simp [aL]
 | cons c r ih =>
   intro k
   simp only [aL,List.all_cons,← ih (k + 1)]
   rw [Bool.eq_iff_iff]
   by_cases hc : dV c = true <;> simp [hc]
theorem HF(k n d : Int)(s : List UInt8) : CallA Tryz.prog 233 [.agg [.d (.int .i64 k),.d (.int .i64 n),.d (.int .i64 d),.d (.str s)]] [] (.one (.d (.bool (dK k n d s)))) []:=by
 refine enter af Tryz.func233 rfl (by decide +kernel) rfl fun hok w0 σ0 φ0 M=>?_
 have h1:=(hok.1 (.d (.int .i64 n)) (by simp)); replace h1:=OkD.i64 h1; clear hok
 repeat' (first|(refine h1H ?_; (refine h0H ?_; first|refine aa J J J J J J J J (Tq _ _ _ _) J ?_|refine aa J J J J J J J J (Ot _ _ wB wB) J ?_|refine aa J J J J J J J J (P8 _) J ?_))|refine wG ?_|(refine h1H ?_; (refine h5H ?_; refine aJ J J J J (fun h=>?_) (fun h=>?_)))|(refine h4H ?_; refine ah J (fun h=>?_) (fun h=>?_)))
 all_goals (try (((simp_all [dK,← Kq 0,ao,List.drop_eq_nil_of_le]) <;> exact wL); done))
theorem Ql(k n d : Int)(s : List UInt8) : CallA Tryz.prog 225 [.agg [.d (.int .i64 k),.d (.int .i64 n),.d (.int .i64 d),.d (.str s)]] [] (.one (.d (.int .i64 (if dK k n d s then 0 else 2)))) []:=by
 refine enter af Tryz.func225 rfl (by decide +kernel) rfl fun hok w0 σ0 φ0 M=>?_
 repeat' (first|(refine h1H ?_; (refine h0H ?_; refine aa J J J J J J J J (HF _ _ _ _) J ?_))|refine wG ?_|(refine h4H ?_; refine ah J (fun h=>?_) (fun h=>?_)))
 all_goals (try (((simp_all [ao,List.drop_eq_nil_of_le]) <;> exact wL); done))
theorem KO(k n d : Int)(s : List UInt8)(t : Int) : CallA Tryz.prog 215 [.agg [.d (.int .i64 k),.d (.int .i64 n),.d (.int .i64 d),.d (.str s)],.one (.d (.int .i64 t))] [] (.one (.d (.bool (js k n d s t)))) []:=by
 refine enter af Tryz.func215 rfl (by decide +kernel) rfl fun hok w0 σ0 φ0 M=>?_
 clear hok
 repeat' (first|(refine h1H ?_; (refine h0H ?_; refine aa J J J J J J J J (HF _ _ _ _) J ?_))|refine wG ?_|(refine h1H ?_; (refine h5H ?_; refine aJ J J J J (fun h=>?_) (fun h=>?_)))|(refine h4H ?_; refine ah J (fun h=>?_) (fun h=>?_)))
 all_goals (try (((simp_all [js,ao,List.drop_eq_nil_of_le]) <;> exact wL); done))
 all_goals (by_cases hk : k = 0 <;> simp_all [js,dK])
 all_goals omega
structure Cell where
 at' : List Int
 vals : List Val
 deriving Inhabited
def aD(c : Cell) : List D:=[aM c.at',aG c.vals]
def aO(l : List Cell) : D:=.sl 2 48 (l.map aD)
def jY : List Attr→List Val→Int
 | a::ats,v::vs=>if !js v.kind v.num v.den v.str a.type then 12 else jY ats vs
 | _,_=>0
def dn(ds : List Dim)(ats : List Attr)(at' : List Int)(vs : List Val) : Int :=
 if (at'.length : Int)≠ds.length∨(vs.length : Int)≠ats.length then 13 else if !ofF ds at' then 3 else jY ats vs
theorem Pe(ds : List Dim)(ats : List Attr)(at' : List Int)(vs : List Val) : CallA Tryz.prog 161 [.one (.d (aF ds)),.one (.d (ax ats)),.agg [.d (aM at'),.d (aG vs)]] [] (.one (.d (.int .i64 (dn ds ats at' vs)))) []:=by
 refine enter af Tryz.func161 rfl (by decide +kernel) rfl fun hok w0 σ0 φ0 M=>?_
 have h1:=hok.1.sl.1; have h2:=hok.2.1.sl.1; have h3:=OkD.sl (hok.2.2.1 (.d (aM at')) (by simp)); have h4:=OkD.sl (hok.2.2.1 (.d (aG vs)) (by simp)); clear hok
 replace h3:=h3.1; replace h4:=h4.1; simp only [List.length_map] at h1 h2 h3 h4
 repeat' (first|(refine h1H ?_; (refine h0H ?_; refine aa J J J J J J J J (Pf _ _) J ?_))|(refine h3H ?_; (refine h2H ?_; refine d_l J J (aB J J J J J J (KO _ _ _ _ _) J) ?_))|refine wG ?_|(refine h1H ?_; (refine h5H ?_; refine aJ J J J J (fun h=>?_) (fun h=>?_)))|(refine h4H ?_; first|refine ah J (fun h=>?_) (fun h=>?_)|refine aH 6 J [(1,_),(29,_),(30,_)] (q3Q J J J) (fun (k : Nat)=>[(31,.one (.d (.int .i64 k)))]) (fun (k : Nat)=>k≤vs.length∧at'.length = ds.length∧vs.length = ats.length∧ofF ds at' = true∧dn ds ats at' vs = jY (ats.drop k) (vs.drop k)) (fun (k : Nat)=>vs.length - k) 0 (q1Q J) ?_ (fun k ⟨hk,hq,hq2,hof,hs⟩=>?_))|(show Exists _; refine Exists.intro (k + 1) ⟨?_,?_,wK,(q1Q J),(q3Q J J J)⟩))
 all_goals (try (((simp_all [dn,jY,ao,List.drop_eq_nil_of_le]) <;> exact wL); done))
def c8(ds : List Dim)(ats : List Attr) : Option (List Int)→List Cell→Int
 | _,[]=>0
 | none,c::r=>if dn ds ats c.at' c.vals≠0 then dn ds ats c.at' c.vals else c8 ds ats (some c.at') r
 | some p,c::r=>if dn ds ats c.at' c.vals≠0 then dn ds ats c.at' c.vals else if bn p c.at' = 0 then 5 else if 0 < bn p c.at' then 2 else c8 ds ats (some c.at') r
def bI(ds : List Dim)(ats : List Attr)(cs : List Cell) : Int:=if c9 ds ats≠0 then c9 ds ats else if 4096 < (cs.length : Int) then 9 else c8 ds ats none cs
def pv(cs : List Cell)(k : Nat) : Option (List Int):=if k = 0 then none else some (at_ cs ((k : Int) - 1).toNat).at'
theorem rQ{cs : List Cell} : pv cs 0 = none:=rfl
theorem yS{cs : List Cell}{k : Nat}(h : ¬ k = 0) : pv cs k = some (at_ cs ((k : Int) - 1).toNat).at':=by simp [pv,h]
theorem rR{cs : List Cell}{k : Nat} : pv cs (k + 1) = some (at_ cs k).at':=by
 have : (((k + 1 : Nat) : Int) - 1).toNat = k:=by omega
 rw [yS (by omega),this]
theorem sA{ds : List Dim}{ats : List Attr}{p : Option (List Int)}{c : Cell}{r : List Cell}(h : dn ds ats c.at' c.vals≠0) : c8 ds ats p (c::r) = dn ds ats c.at' c.vals:=by cases p <;> simp [c8,h]
theorem ue : ∀ {a b : List Int},bn a b = 0∨bn a b = 1∨bn a b = -1
 | [],[]=>by simp [bn]
 | [],_::_=>by simp [bn]
 | _::_,[]=>by simp [bn]
 | x::xs,y::ys=>by
   simp only [bn]
   split
   ·simp
   ·split
    ·simp
    ·exact ue
theorem yT{a b : List Int} : 0 < bn a b↔bn a b = 1:=by
 rcases ue (a:=a) (b:=b) with h | h | h <;> simp [h]
end Go.Proofs.YtpejdgkaapnekaaGreat
