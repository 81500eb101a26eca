import Derived.LoopNIn
import Derived.Laws.RangeAny
import Derived.Test.YtpejdgkaapnekaaGreatKP13
set_option linter.unusedVariables false
set_option linter.unusedSimpArgs false
set_option maxHeartbeats 1000000
namespace Go.Abs
open Go
variable {P:Program} {V:Env} {T:Tab} {c:Ctx} {w0:World} {σ0:Sig} {φ0:Pl} {M:Nat→Prop} {n:Nat} {rd:Option Nat} {mk:List Deferred} {ops:Array Oper} {o:Oper} {rest:List Oper} {fr:List (Nat×AV)} {sto:Sto} {K:St→Prop} {st st0:St}
def dT(met:List (List UInt8)):List (List D×List D):=met.map fun nm=>([.str nm],[.bool true])
theorem sQ{s:List UInt8}:∀ {met:List (List UInt8)} {i:Nat},(met.contains s=true→∃ j,cO [.str s] (dT met) i=some (j,[.bool true]))∧(met.contains s=false→cO [.str s] (dT met) i=none)
 | [],i=>by simp[dT,cO]
 | x::r,i=>by
   have ih:=sQ (s:=s) (met:=r) (i:=i+1)
   simp only[dT,XK,cO,c9,eqD,Bool.and_true,List.contains_cons] at ih ⊢
   cases hb:(s==x) with
   | true=>simp
   | false=>simpa[hb] using ih
theorem B3{s:List UInt8}:∀ {met:List (List UInt8)},met.contains s=false→ig [.str s] [.bool true] (dT met)=dT (met++[s])
 | [],_=>rfl
 | x::r,h=>by
   simp only[List.contains_cons,XA] at h
   have ih:=B3 (s:=s) (met:=r) h.2
   simp only[dT,XK,ig,c9,eqD,Bool.and_true,XL,h.1,Ye] at ih ⊢
   rw[ih]
theorem pE:∀ {met:List (List UInt8)},fM [.str] (dT met)=true
 | []=>rfl
 | x::r=>by
   have ih:=pE (met:=r)
   simp only[dT,XK,fM,gm,FD,Bool.and_true,Bool.true_and] at ih ⊢
   exact ih
theorem It(hV:EnvOk P V){d t id:Nat}{m:MTy}{x y:Operand}{s:List UInt8}{met:List (List UInt8)}(ho:o.op=.lookup t x y false)(hg:o.guard=none)(hdst:o.dst=some d)(hd:Nat.blt d n=true)
  (hm:look V.M t=some m) (hms:m.ks=[.str]) (hk:m.kg=false) (hv:m.vg=false) (hz:m.z=[.bool false])
  (hx:ev ⟨fr,sto⟩ x=some (.one (.mapr id))) (hl:look sto id=some (.map false false (dT met))) (hy:ev ⟨fr,sto⟩ y=some (.one (.d (.str s))))
  (h:aa P ⟨w0,σ0,φ0,M,n,rd,mk⟩ ops rest ⟨(d,.one (.d (.bool (met.contains s))))::fr,sto⟩ K):aa P ⟨w0,σ0,φ0,M,n,rd,mk⟩ ops (o::rest) ⟨fr,sto⟩ K:=by
 refine sR (hV.M t m hm) ho hg (by rw[hdst];exact hd) hx (es:=dT met) (by rw[hl,hk,hv]) hy (kd:=[.str s]) (by rw[hk];rfl) (by rw[hms];rfl) (by rw[hms];exact pE) (v:=.one (.d (.bool (met.contains s)))) ?_ (by rw[hdst];exact h)
 cases hb:met.contains s with
 | true =>
   obtain⟨j,hj⟩:=(sQ (i:=0)).1 hb
   simp only[o6,hj,hv,sS];rfl
 | false =>
   simp only[o6,(sQ (i:=0)).2 hb,hv,hz,sS];rfl
theorem KC(hV:EnvOk P V){t id:Nat}{m:MTy}{x y z:Operand}{s:List UInt8}{met:List (List UInt8)}(ho:o.op=.mapUpdate t x y z)(hg:o.guard=none)(hdst:o.dst=none)
  (hm:look V.M t=some m) (hms:m.ks=[.str]) (hk:m.kg=false) (hv:m.vg=false)
  (hx:ev ⟨fr,sto⟩ x=some (.one (.mapr id))) (hl:look sto id=some (.map false false (dT met))) (hy:ev ⟨fr,sto⟩ y=some (.one (.d (.str s)))) (hz:ev ⟨fr,sto⟩ z=some (.one (.d (.bool true)))) (hnot:met.contains s=false)
  (h:aa P ⟨w0,σ0,φ0,M,n,rd,mk⟩ ops rest ⟨fr,cD id (.map false false (dT (met++[s]))) sto⟩ K):aa P ⟨w0,σ0,φ0,M,n,rd,mk⟩ ops (o::rest) ⟨fr,sto⟩ K:=by
 refine o7 (hV.M t m hm) ho hg hdst hx (es:=dT met) (by rw[hl,hk,hv]) hy (kd:=[.str s]) (by rw[hk];rfl) (by rw[hms];rfl) (by rw[hms];exact pE) hz (vd:=[.bool true]) (by rw[hv];rfl) ?_
 rw[B3 hnot,hk,hv]
 exact h
theorem cS(k:Nat)(ρ:List (Nat×Nat)){d:Nat}{fop:Operand}{args:Array Operand}{ats:Array TypeId}{f:FuncId}{cargs:List AV}{cs rs:Sto}{rav rav':AV}{sto':Sto}(hC:CallA P f cargs cs rav rs)
  (ho:o.op=.call { callee:=.value fop,args:=args,argTypes:=ats }) (hg:o.guard=none) (hdst:o.dst=some d) (hd:Nat.blt d n=true) (hf:ev ⟨fr,sto⟩ fop=some (.one (.d (.fn f []))))
  (ha:evL ⟨fr,sto⟩ args.toList=some (dF (rn k ρ) cargs)) (hpass:Pass ⟨fr,sto⟩ (rn k ρ) ρ cs) (hcomp:CompatL ⟨fr,sto⟩ (rn k ρ) ρ rs)
  (hk:(gG ρ&&jV ρ&&iB cs ρ&&gU ρ&&c7 ρ rs&&dU cs (cargs++[])&&bt cs cs&&dG rs rav&&bt rs rs&&Nat.ble (k+16) 1000000)=true) (hfresh:nF k ⟨fr,sto⟩=true)
  (hr:eC (rn k ρ) rav=rav') (hs:eL (rn k ρ) (gT ρ sto) rs=sto')
  (h:aa P ⟨w0,σ0,φ0,M,n,rd,mk⟩ ops rest ⟨(d,rav')::fr,sto'⟩ K):aa P ⟨w0,σ0,φ0,M,n,rd,mk⟩ ops (o::rest) ⟨fr,sto⟩ K:=by
 subst hr;subst hs
 exact mh k ρ ho hg (by rw[hdst];exact hd) hf ha (caps:=[]) (by simpa using hC) hpass hcomp hk (qT hfresh) (by rw[hdst];exact h)
theorem cm{α:Type}{body:Code}{Q:Exit→St→Prop}(rg:Nat)(hrg:kq body=rg)(kept:List (Nat×AV))(hk:SubL fr kept)(L:α→List (Nat×AV))(S:α→Sto)(Inv:α→Prop)(μ:α→Nat)(x0:α)(hL:SubL fr (L x0))(hS:SubL sto (S x0))(h0:Inv x0)
  (hround:∀ x,Inv x→OkC P c body ⟨L x++kept,S x⟩ (av (fun st'=>∃ y,Inv y∧μ y<μ x∧SubL st'.sto (S y)∧SubL st'.fr (L y)∧SubL st'.fr kept) Q)):OkC P c (.loop body) ⟨fr,sto⟩ Q:=by
 have hap:∀ {f a b:List (Nat×AV)},SubL f a→SubL f b→SubL f (a++b):=by
  intro f a b h1 h2
  induction a with
  | nil=>exact h2
  | cons p r ih=>exact⟨h1.1,ih h1.2⟩
 have hdr:∀ {f:List (Nat×AV)} {s s':Sto},SubL s s'→Imp c ⟨f,s⟩ ⟨f,s'⟩:=fun h a w σ φ hr=>⟨σ,φ,hr.dropTo fun i e hi=>h.look hi⟩
 refine bm (st':=⟨L x0++kept,S x0⟩) (Imp.trans (ko (hap hL hk)) (hdr hS)) ?_
 refine pQ (fun n st=>∃ x,Inv x∧n=μ x∧st=⟨L x++kept,S x⟩) (μ x0) ⟨x0,h0,rfl,rfl⟩ ?_
 rintro n st ⟨x,hx,rfl,rfl⟩
 refine kF (hround x hx) fun e st h=>?_
 cases e with
 | normal =>
   obtain⟨y,hy,hlt,hs,h1,h2⟩:=h
   obtain⟨f,s⟩:=st
   simp only at hs h1 h2
   exact⟨μ y,_,hlt,⟨y,hy,rfl,rfl⟩,Imp.trans (ko (hap h1 h2)) (hdr hs)⟩
 | _=>exact h
theorem rA{t ty:TypeId}{x y:Operand}{k k':IntKind}{a b:Int}(ho:o.op=.binOp .rem t x y ty)
  (hx:ev st x=some (.one (.d (.int k a)))) (hy:ev st y=some (.one (.d (.int k' b)))) (hk:kEq k k'=true) (ha:0≤a) (h0:0<b):aR V st o 0=some ⟨.one (.d (.int k (a % b))),[],[]⟩:=by
 rw[← Int.tmod_eq_emod_of_nonneg ha]
 exact zy ho hx hy hk (by omega)
theorem nu{t ty:TypeId}{x y:Operand}{k k':IntKind}{a b:Int}(ho:o.op=.binOp .quo t x y ty)
  (hx:ev st x=some (.one (.d (.int k a)))) (hy:ev st y=some (.one (.d (.int k' b)))) (hk:kEq k k'=true) (ha:0≤a) (h0:0<b) (hz:k.wrap (a / b)=a / b):aR V st o 0=some ⟨.one (.d (.int k (a / b))),[],[]⟩:=by
 refine Iu ho hx hy hk (by omega) ?_
 rw[Int.tdiv_eq_ediv_of_nonneg ha]
 exact hz
theorem bq{dl:List Nat}{ss:St}(h:sealL st dl=some ss):Imp c st ss:=fun a w σ φ hr=>by
 obtain⟨σs,_,h3,_⟩:=Rel.sealL h hr
 exact⟨σs,φ,h3⟩
theorem aM(k:Nat){d:Nat}{fop:Operand}{args:Array Operand}{ats:Array TypeId}{f:FuncId}{caps:List D}{avs avs':List AV}{rav rav':AV}
  (ho:o.op=.call { callee:=.value fop,args:=args,argTypes:=ats }) (hg:o.guard=none) (hdst:o.dst=some d) (hd:Nat.blt d n=true) (hf:ev ⟨fr,sto⟩ fop=some (.one (.d (.fn f caps))))
  (ha:evL ⟨fr,sto⟩ args.toList=some avs) (hD:c8 avs=true) (hap:(avs++caps.map fun x=>.one (.d x))=avs') (hC:CallA P f avs' [] rav [])
  (hk:(c7 [] []&&Nat.ble (k+16) 1000000&&dG [] rav&&bt [] [])=true) (hfresh:nF k ⟨fr,sto⟩=true) (hr:eC (rn k []) rav=rav')
  (h:aa P ⟨w0,σ0,φ0,M,n,rd,mk⟩ ops rest ⟨(d,rav')::fr,sto⟩ K):aa P ⟨w0,σ0,φ0,M,n,rd,mk⟩ ops (o::rest) ⟨fr,sto⟩ K:=by
 subst hap;subst hr
 exact Gh k ho hg (by rw[hdst];exact hd) hf ha hD hC hk (qT hfresh) (by rw[hdst];exact h)
theorem bz(k:Nat){ops:Array Oper}{acc:List Tr}{d:Nat}{fop:Operand}{args:Array Operand}{ats:Array TypeId}{f:FuncId}{caps:List D}{avs avs':List AV}{rav rav':AV}
  (ho:o.op=.call { callee:=.value fop,args:=args,argTypes:=ats }) (hg:o.guard=none) (hdst:o.dst=some d) (hd:Nat.blt d c.n=true) (hf:ev ⟨fr,sto⟩ fop=some (.one (.d (.fn f caps))))
  (ha:evL ⟨fr,sto⟩ args.toList=some avs) (hD:c8 avs=true) (hap:(avs++caps.map fun x=>.one (.d x))=avs') (hC:CallA P f avs' [] rav [])
  (hk:(c7 [] []&&Nat.ble (k+16) 1000000&&dG [] rav&&bt [] [])=true) (hr:eC (rn k []) rav=rav')
  (h:ak P c ops st0 rest ⟨(d,rav')::fr,sto⟩ (k6 k [] [] rav []::acc) K):ak P c ops st0 (o::rest) ⟨fr,sto⟩ acc K:=by
 subst hap;subst hr
 refine mi hg (sA k ho (by rw[hdst];exact hd) hf ha hD hC hk) ?_
 rw[hdst];exact h
def vq(P:Program)(c:Ctx)(body:Code)(Q:Exit→St→Prop):Nat→St→Prop
 | 0,_=>False
 | m+1,st=>OkC P c body st (av (fun st'=>vq P c body Q m st') Q)
theorem Iv{body:Code}{Q:Exit→St→Prop}(rg:Nat)(hrg:kq body=rg)(m:Nat)(h:vq P c body Q m st):OkC P c (.loop body) st Q:=by
 intro a w σ φ hr
 refine wpIn_loop_rounds m ?_
 have key:∀ m st a w σ φ,vq P c body Q m st→Rel c st a w σ φ→Code.roundsIn (fnc c) 0 P body (fun e a' w'=>∃ st' σ' φ',Q e st'∧RelE c e st' a' w' σ' φ') m a w:=by
  intro m
  induction m with
  | zero=>intro st a w σ φ h;exact h.elim
  | succ m ih =>
    intro st a w σ φ h hr
    rw[roundsIn_succ]
    refine wpIn_mono (h a w σ φ hr) fun e a' w' ⟨st',σ',φ',h1,h2⟩=>?_
    cases e with
    | normal=>exact ih st' a' w' σ' φ' h1 (h2.rel (by simp))
    | _=>exact⟨st',σ',φ',h1,h2⟩
 exact key m st a w σ φ h hr
theorem eG(hV:EnvOk P V)(id:Nat){d:Nat}{v:AV}{wr:List (Nat×Option AObj)}{nw:List Nat}(hg:o.guard=none)(hdst:o.dst=some d)(hd:Nat.blt d n=true)(h:aR V ⟨fr,sto⟩ o id=some ⟨v,wr,nw⟩)(hid:Nat.blt (id+1) 1000000=true)(hf:eM ⟨fr,sto⟩ nw=true)
  (hk:aa P ⟨w0,σ0,φ0,M,n,rd,mk⟩ ops rest ⟨(d,v)::fr,dh wr sto⟩ K):aa P ⟨w0,σ0,φ0,M,n,rd,mk⟩ ops (o::rest) ⟨fr,sto⟩ K:=by
 have:=rB (c:=⟨w0,σ0,φ0,M,n,rd,mk⟩) hV (o:=o) (by rw[hdst];exact hd) h hid (fB hf) ops rest K (by rw[hdst];exact hk)
 rwa [ED hg] at this
theorem kB{T:Tab}{rs:List ResultVar}{rav rav':AV}{rsto:Sto}{e:Exit}{st:St}{l:List (Bool×List AC)}(he:e=.ret∨e=.normal)(hl:nR T st rs=some l)(hr:qO l=some rav')(h:rav'=rav)(hs:SubL st.sto rsto):aI T rs rav rsto e st :=
 ⟨he,l,hl,by rw[hr,h],hs⟩
end Go.Abs
namespace Go.Abs
open Go
variable {P:Program} {V:Env} {T:Tab} {c:Ctx} {w0:World} {σ0:Sig} {φ0:Pl} {M:Nat→Prop} {n:Nat} {rd:Option Nat} {mk:List Deferred} {ops:Array Oper} {o:Oper} {rest:List Oper} {fr:List (Nat×AV)} {sto:Sto} {K:St→Prop} {st st0:St} {acc:List Tr}
variable {σ σ':Sig} {φ φ':Pl} {w w':World}
def xZ:AC→Bool
 | .own i _|.sub i _ _|.ref i _|.rref i _ _|.yl i|.mapr i|.bsl i _ _=>Nat.ble i 1000000
 | _=>true
def l0:List AC→Bool
 | []=>true
 | x::r=>xZ x&&l0 r
def tF:List (Bool×List AC)→Bool
 | []=>true
 | t::r=>l0 t.2&&tF r
def ya:AV→Bool
 | .one x=>xZ x
 | .agg cs=>l0 cs
 | .tup ts=>tF ts
 | .any=>true
def jR:List (Nat×AV)→Bool
 | []=>true
 | p::r=>ya p.2&&jR r
def l7:Sto→Bool
 | []=>true
 | p::r=>(match p.2 with|.box cs=>l0 cs|.loop _ fr _ _=>jR fr|_=>true)&&l7 r
theorem ui{x:AC}(h:xZ x=true):∀ i,1000000<i→x.men i=false:=by
 intro i hi
 have key:∀ {j:Nat},Nat.ble j 1000000=true→Nat.beq j i=false:=by
  intro j hj
  have:=W6 hj
  cases hb:Nat.beq j i with
  | false=>rfl
  | true=>have:=W4 hb;omega
 cases x<;>first|rfl|exact key h
theorem lC:∀ {l:List AC},l0 l=true→∀ i,1000000<i→db i l=false
 | [],_,_,_=>rfl
 | x::r,h,i,hi=>by
   simp only[l0,WX] at h
   simp only[db,ui h.1 i hi,lC h.2 i hi,Bool.or_self]
theorem uj:∀ {l:List (Bool×List AC)},tF l=true→∀ i,1000000<i→gP i l=false
 | [],_,_,_=>rfl
 | x::r,h,i,hi=>by
   simp only[tF,WX] at h
   simp only[gP,lC h.1 i hi,uj h.2 i hi,Bool.or_self]
theorem uk{x:AV}(h:ya x=true):∀ i,1000000<i→x.men i=false:=by
 intro i hi
 cases x with
 | one x=>exact ui h i hi
 | agg cs=>exact lC h i hi
 | tup ts=>exact uj h i hi
 | any=>rfl
theorem sJ:∀ {l:List (Nat×AV)},jR l=true→∀ {s:Nat} {v:AV},look l s=some v→ya v=true
 | [],_,_,_,h=>by simp[look] at h
 | (t,x)::r,h,s,v,hl=>by
   simp only[jR,WX] at h
   rcases ah hl with⟨_,rfl⟩|⟨_,hl⟩
   ·exact h.1
   ·exact sJ h.2 hl
theorem um:∀ {l:List (Nat×AV)},jR l=true→∀ i,1000000<i→br i l=false
 | [],_,_,_=>rfl
 | x::r,h,i,hi=>by
   simp only[jR,WX] at h
   simp only[br,uk h.1 i hi,um h.2 i hi,Bool.or_self]
theorem sK:∀ {l:Sto},l7 l=true→∀ {j:Nat} {e:AObj},look l j=some e→∀ i,1000000<i→e.men i=false
 | [],_,_,_,h,_,_=>by simp[look] at h
 | (t,x)::r,h,j,e,hl,i,hi=>by
   simp only[l7,WX] at h
   rcases ah hl with⟨_,rfl⟩|⟨_,hl⟩
   ·have h1:=h.1
    cases e with
    | box cs=>exact lC h1 i hi
    | loop li fr s q=>exact um h1 i hi
    | _=>rfl
   ·exact sK h.2 hl i hi
theorem pB{α:Type}:∀ {a b:List (Nat×α)} {i:Nat},look (a++b) i=match look a i with|some v=>some v|none=>look b i
 | [],_,_=>rfl
 | (j,x)::r,b,i=>by
   simp only[XL,look]
   cases Nat.beq j i with
   | true=>rfl
   | false=>simp only[Ye];exact pB
def jo(s:Sto):Prop:=∀ i e,look s i=some e→1000000≤i
theorem jL{o1 s:Sto}(hs:jo s){i:Nat}(hi:i<1000000):look (o1++s) i=look o1 i:=by
 rw[pB]
 cases hl:look o1 i with
 | some v=>rfl
 | none =>
   simp only
   cases hl':look s i with
   | none=>rfl
   | some e=>have:=hs _ _ hl';omega
theorem fa{o1 s:Sto}(ho:gp 1000000 o1=true){i:Nat}(hi:1000000≤i):look (o1++s) i=look s i:=by
 rw[pB]
 cases hl:look o1 i with
 | none=>rfl
 | some e=>have:=mz ho hl;omega
theorem RepC.mv{x:AC}{v:Value}{s s2:Sto}(h:∀ i,x.men i=true→look s2 i=look s i∧φ' i=φ i)(hr:RepC σ φ s x v):RepC σ φ' s2 x v:=by
 have hk:∀ i,x.men i=true→bw s2 i=bw s i:=fun i hi=>by unfold bw;rw[(h i hi).1]
 cases hr with
 | d h1=>exact .d h1
 | junk h1=>exact .junk h1
 | dead hx h1 =>
   refine .dead ?_ h1
   cases x<;>simp only[bY] at hx ⊢<;>first|exact hx|(rw[hk _ (XN _)];exact hx)
 | ownNil hl hp=>have:=h _ (XN _);exact .ownNil (this.1.trans hl) (this.2.trans hp)
 | own hl hn hp=>have:=h _ (XN _);exact .own (this.1.trans hl) hn (this.2.trans hp)
 | sub hl hn hc hA =>
   have:=h _ (XN _)
   refine .sub (this.1.trans hl) hn hc fun h0=>?_
   obtain⟨B,cap,h1,h2⟩:=hA h0
   exact⟨B,cap,this.2.trans h1,h2⟩
 | ref hl hp=>have:=h _ (XN _);exact .ref (this.1.trans hl) (this.2.trans hp)
 | rref hl hp=>have:=h _ (XN _);exact .rref (this.1.trans hl) (this.2.trans hp)
 | yl hl hp=>have:=h _ (XN _);exact .yl (this.1.trans hl) (this.2.trans hp)
 | mapr hl hp=>have:=h _ (XN _);exact .mapr (this.1.trans hl) (this.2.trans hp)
 | bsl hl hp=>have:=h _ (XN _);exact .bsl (this.1.trans hl) (this.2.trans hp)
theorem BU{x:AC}{s:Sto}(h:bY s x=true):∀ i,x.men i=true→bw s i=true:=by
 intro i hi
 cases x<;>simp only[AC.men,XD] at hi<;>(have:=W4 hi;subst this;exact h)
theorem o4:∀ {l:List AC} {s:Sto},fi s l=true→∀ i,db i l=true→bw s i=true
 | [],_,_,_,h=>by simp[db] at h
 | x::r,s,h,i,hi=>by
   simp only[fi,WX] at h
   simp only[db,Xs] at hi
   rcases hi with hi|hi
   ·exact BU h.1 i hi
   ·exact o4 h.2 i hi
theorem BV:∀ {l:List (Bool×List AC)} {s:Sto},yb s l=true→∀ i,gP i l=true→bw s i=true
 | [],_,_,_,h=>by simp[gP] at h
 | x::r,s,h,i,hi=>by
   simp only[yb,WX] at h
   simp only[gP,Xs] at hi
   rcases hi with hi|hi
   ·exact o4 h.1 i hi
   ·exact BV h.2 i hi
theorem BW{x:AV}{s:Sto}(h:dG s x=true):∀ i,x.men i=true→bw s i=true:=by
 intro i hi
 cases x with
 | one x=>exact BU h i hi
 | agg cs=>exact o4 h i hi
 | tup ts=>exact BV h i hi
 | any=>simp[AV.men] at hi
theorem BX:∀ {l:List (Nat×AV)} {s:Sto},iC s l=true→∀ i,br i l=true→bw s i=true
 | [],_,_,_,h=>by simp[br] at h
 | x::r,s,h,i,hi=>by
   simp only[iC,WX] at h
   simp only[br,Xs] at hi
   rcases hi with hi|hi
   ·exact BW h.1 i hi
   ·exact BX h.2 i hi
theorem sL{s s2:Sto}:∀ {l:List AC} {vs:List Value},(∀ i,db i l=true→look s2 i=look s i∧φ' i=φ i)→All2 (RepC σ φ s) l vs→All2 (RepC σ φ' s2) l vs
 | [],[],_,_=>trivial
 | x::r,v::vs,h,ha=>⟨RepC.mv (fun i hi=>h i (by simp[db,hi])) ha.1,sL (fun i hi=>h i (by simp[db,hi])) ha.2⟩
 | [],_::_,_,ha=>ha.elim
 | _::_,[],_,ha=>ha.elim
theorem M0{s s2:Sto}{t:Bool×List AC}{v:Value}(h:∀ i,db i t.2=true→look s2 i=look s i∧φ' i=φ i)(hr:RepT σ φ s t v):RepT σ φ' s2 t v:=by
 obtain⟨b,cs⟩:=t
 cases b with
 | true=>obtain⟨vs,rfl,h1⟩:=hr;exact⟨vs,rfl,sL h h1⟩
 | false=>exact sL h hr
theorem LX{s s2:Sto}:∀ {l:List (Bool×List AC)} {vs:List Value},(∀ i,gP i l=true→look s2 i=look s i∧φ' i=φ i)→All2 (RepT σ φ s) l vs→All2 (RepT σ φ' s2) l vs
 | [],[],_,_=>trivial
 | x::r,v::vs,h,ha=>⟨M0 (fun i hi=>h i (by simp[gP,hi])) ha.1,LX (fun i hi=>h i (by simp[gP,hi])) ha.2⟩
 | [],_::_,_,ha=>ha.elim
 | _::_,[],_,ha=>ha.elim
theorem RepV.mv{x:AV}{v:Value}{s s2:Sto}(h:∀ i,x.men i=true→look s2 i=look s i∧φ' i=φ i)(hr:RepV σ φ s x v):RepV σ φ' s2 x v:=by
 cases x with
 | one x=>exact RepC.mv h hr
 | agg cs=>obtain⟨vs,rfl,h1⟩:=hr;exact⟨vs,rfl,sL h h1⟩
 | tup ts=>obtain⟨vs,rfl,h1⟩:=hr;exact⟨vs,rfl,LX h h1⟩
 | any=>trivial
theorem uQ{e:AObj}{s:Sto}(h:F8 s e=true):∀ i,e.men i=true→bw s i=true:=by
 intro i hi
 cases e with
 | box cs=>exact o4 h i hi
 | loop li fr st p=>exact BX h i hi
 | _=>simp[AObj.men] at hi
theorem wJ:∀ {fr:List (Nat×AV)} {s:Nat} {v:AV} {i:Nat},look fr s=some v→v.men i=true→br i fr=true
  | [],_,_,_,h,_=>by simp[look] at h
  | (t,x)::r,s,v,i,h,hi=>by
    rcases ah h with⟨_,rfl⟩|⟨_,h⟩
    ·simp[br,hi]
    ·simp only[br,wJ h hi,Bool.or_true]
theorem ObjRep.mv{id:Nat}{e:AObj}{s s2:Sto}(h:∀ i,e.men i=true→look s2 i=look s i∧φ' i=φ i)(hφ:φ' id=φ id)(hr:ObjRep σ φ s w id e):ObjRep σ φ' s2 w id e:=by
 cases e with
 | box cs =>
   obtain⟨B,c,vs,t,h1,h2,h3,h4⟩:=hr
   exact⟨B,c,vs,t,hφ.trans h1,h2,sL h h3,h4⟩
 | row k b xs =>
   rcases hr with⟨h1,h2⟩|⟨B,cap,arr,t,vs,h1,h2⟩
   ·exact .inl ⟨h1,hφ.trans h2⟩
   ·exact .inr ⟨B,cap,arr,t,vs,hφ.trans h1,h2⟩
 | map kg vg es =>
   obtain⟨B,c,ents,h1,h2⟩:=hr
   exact⟨B,c,ents,hφ.trans h1,h2⟩
 | loop li fr st p =>
   obtain⟨B,c,r,h1,h2,h3,h4,h5⟩:=hr
   refine⟨B,c,r,hφ.trans h1,h2,h3,fun s v hv=>?_,h5⟩
   obtain⟨u,hu,hru⟩:=h4 s v hv
   refine⟨u,hu,RepV.mv (fun i hi=>h i ?_) hru⟩
   exact wJ hv hi
theorem HInv.pinned{o1 s:Sto}(ho:gp 1000000 o1=true)(hs:jo s)(hin:bt s s=true)(h:HInv σ φ (o1++s) w):HInv σ φ s w:=by
 have hl:∀ {i:Nat},bw s i=true→look s i=look (o1++s) i:=fun {i} hi=>by
  obtain⟨e,he⟩:=jq hi
  rw[fa ho (hs _ _ he)]
 refine⟨h.sig,fun i e hi=>?_,fun i i' e e' p p' hi hi'=>?_⟩
 ·refine ObjRep.mv (fun j hj=>⟨hl (uQ (gq hin hi) j hj),rfl⟩) rfl (h.obj i e ?_)
  rw[fa ho (hs _ _ hi)];exact hi
 ·exact h.inj _ _ _ _ _ _ (by rw[fa ho (hs _ _ hi)];exact hi) (by rw[fa ho (hs _ _ hi')];exact hi')
def mM(s:Sto):Prop:=∃ li fr st p,look s 1000000=some (.loop li fr st p)
theorem Rel.callW{o1 s s':Sto}{a:Act}{rav:AV}{v:Value}{dst:Option Nat}(hr:Rel c ⟨fr,o1++s⟩ a w σ φ)(hd:aX c.n dst=true)(ho:(gp 1000000 o1&&l7 o1&&jR fr)=true)(hs:jo s)(hs':jo s')(hin':bt s' s'=true)
  (hlp:mM s) (hlp':mM s') (hfl:fZ rav=true) (hret:RetP rav s' w σ φ (MOf φ s) v w' σ' φ'):Rel c ⟨bI dst rav fr,o1++s'⟩ (a.put dst v) w' σ' (fun i=>if 1000000≤i then φ' i else φ i):=by
 simp only[WX] at ho
 obtain⟨⟨ho,hoc⟩,hfc⟩:=ho
 have hpin:∀ i,1000000≤i→(fun i=>if 1000000≤i then φ' i else φ i) i=φ' i:=fun i hi=>by simp[hi]
 have hsm:∀ i:Nat,i<1000000→(fun i=>if 1000000≤i then φ' i else φ i) i=φ i:=by
  intro i hi
  have h9:¬ 1000000≤i:=by omega
  simp[h9]
 have hpn:φ' 1000000=φ 1000000:=hret.pin 1000000 ⟨Xc _,by omega⟩
 generalize hφ:(fun i=>if 1000000≤i then φ' i else φ i)=φn at hpin hsm ⊢
 have hold:∀ {i e},look s i=some e→look (o1++s) i=some e:=fun {i e} hi=>by rw[fa ho (hs _ _ hi)];exact hi
 have hownl:∀ {i e},look o1 i=some e→look (o1++s) i=some e:=fun {i e} hi=>by rw[jL hs (mz ho hi)];exact hi
 have hM:∀ b,MOf φ s b→∃ i e p,look (o1++s) i=some e∧1000000≤i∧φ i=some p∧p.1=b:=by
  rintro b ⟨i,e,p,h1,h2,h3⟩
  exact⟨i,e,p,hold h1,hs _ _ h1,h2,h3⟩
 have hsplit:∀ {i e},look (o1++s') i=some e→(i<1000000∧look o1 i=some e)∨(1000000≤i∧look s' i=some e):=by
  intro i e hi
  rcases XM i 1000000 with h|h
  ·exact .inl ⟨h,by rwa [jL hs' h] at hi⟩
  ·exact .inr ⟨h,by rwa [fa ho h] at hi⟩
 obtain⟨li,lf,ls,lp,hL⟩:=hlp
 obtain⟨li',lf',ls',lp',hL'⟩:=hlp'
 have hE:Ext (fun i=>1000000<i) φ φn (o1++s) (o1++s'):=by
  intro i hi
  rcases XM i 1000000 with h|h
  ·rw[jL hs' h,jL hs h]
   cases hl:look o1 i with
   | none=>exact .inl rfl
   | some e=>exact .inr ⟨e,rfl,hsm i h,e,rfl,compat.refl _⟩
  ·have:i=1000000:=by omega
   subst this
   exact .inr ⟨.loop li lf ls lp,hold hL,(hpin _ (Xc _)).trans hpn,.loop li' lf' ls' lp',by rw[fa ho (Xc _)];exact hL',trivial⟩
 have hnot:∀ {i e p},look o1 i=some e→φ i=some p→¬ MOf φ s p.1:=by
  intro i e p hi hp hm
  obtain⟨j,e',q,h1,h2,h3,h4⟩:=hM _ hm
  exact hr.inv.inj _ _ _ _ _ _ (hownl hi) h1 (by have:=mz ho hi;omega) hp h3 h4.symm
 have hinv:HInv σ' φn (o1++s') w':=by
  refine⟨hret.inv.sig,fun i e hi=>?_,fun i i' e e' p p' hi hi' hne hp hp'=>?_⟩
  ·rcases hsplit hi with⟨h1,h2⟩|⟨h1,h2⟩
   ·have hob:=hr.inv.obj _ _ (hownl h2)
    refine hob.ext hret.le hE (fun j hj=>sK hoc h2 j hj) (hsm i h1) fun B cc hB=>?_
    have hlt:=hob.lt hB
    have hn:=hnot h2 hB
    refine⟨hret.kept.block B hlt hn,?_⟩
    have hn0:σ B=none:=by
     cases e with
     | box cs=>obtain⟨_,_,_,_,q1,_,_,q4⟩:=hob;rw[hB] at q1;cases q1;exact q4
     | row k b xs =>
       rcases hob with⟨_,q⟩|⟨_,_,_,_,_,q1,_,_,_,_,_,_,_,_,q4⟩
       ·rw[hB] at q;cases q
       ·rw[hB] at q1;cases q1;exact q4
     | map kg vg es=>obtain⟨_,_,_,q1,_,_,q4⟩:=hob;rw[hB] at q1;cases q1;exact q4
     | loop li fr st p=>obtain⟨_,_,_,q1,_,_,_,q4⟩:=hob;rw[hB] at q1;cases q1;exact q4
    rw[hn0]
    cases hσ:σ' B with
    | none=>rfl
    | some x =>
      rcases hret.fresh B (by rw[hσ];simp) with q|q|q
      ·exact absurd hn0 q
      ·exact absurd hlt (by simp only at q ⊢;omega)
      ·exact absurd q hn
   ·refine ObjRep.mv (s:=s') (fun j hj=>?_) (hpin i h1) (hret.inv.obj _ _ h2)
    obtain⟨e2,he2⟩:=jq (uQ (gq hin' h2) j hj)
    have hj2:=hs' _ _ he2
    exact⟨fa ho hj2,hpin j hj2⟩
  ·rcases hsplit hi with⟨h1,h2⟩|⟨h1,h2⟩<;>rcases hsplit hi' with⟨h3,h4⟩|⟨h3,h4⟩
   ·rw[hsm i h1] at hp;rw[hsm i' h3] at hp';exact hr.inv.inj _ _ _ _ _ _ (hownl h2) (hownl h4) hne hp hp'
   ·rw[hsm i h1] at hp;rw[hpin i' h3] at hp'
    rcases hret.mine _ _ _ h4 hp' with q|q
    ·have:=(hr.inv.obj _ _ (hownl h2)).lt hp;omega
    ·intro e0;exact hnot h2 hp (e0 ▸ q)
   ·rw[hpin i h1] at hp;rw[hsm i' h3] at hp'
    rcases hret.mine _ _ _ h2 hp with q|q
    ·have:=(hr.inv.obj _ _ (hownl h4)).lt hp';omega
    ·intro e0;exact hnot h4 hp' (e0 ▸ q)
   ·rw[hpin i h1] at hp;rw[hpin i' h3] at hp';exact hret.inv.inj _ _ _ _ _ _ h2 h4 hne hp hp'
 have hMc:∀ {b},MOf φ s b→c.w0.heap.size≤b∨c.M b:=by
  intro b hb
  obtain⟨j,e',q,h1,h2,h3,rfl⟩:=hM _ hb
  exact hr.mine _ _ _ h1 h3
 refine hr.putTo (st':=⟨fr,o1++s'⟩) hd (Sig.le_trans hr.le hret.le) (fun b hb=>?_) hinv (fun i e p hi hp=>?_) ⟨hret.kept.os.trans hr.fra.os,hret.kept.tape.trans hr.fra.tape,hret.kept.output.trans hr.fra.output,Xg hr.fra.size hret.kept.size,Xg hr.fra.drawn hret.kept.drawn,fun b hb hM'=>?_⟩ (fun i hi=>(hpin i hi.1).trans ((hret.pin i hi).trans (hr.pin i hi)))
  (fun _=>sM hfl hret.rep) (fun t x _ hx=>⟨x,hx,fun z hz=>?_⟩)
 ·rcases hret.fresh b hb with q|q|q
  ·exact hr.fresh b q
  ·exact .inr (.inl (Xg hr.fra.size q))
  ·exact .inr (hMc q)
 ·rcases hsplit hi with⟨h1,h2⟩|⟨h1,h2⟩
  ·rw[hsm i h1] at hp;exact hr.mine _ _ _ (hownl h2) hp
  ·rw[hpin i h1] at hp
   rcases hret.mine _ _ _ h2 hp with q|q
   ·exact .inl (Xg hr.fra.size q)
   ·exact hMc q
 ·rw[hret.kept.block b (Xz hb hr.fra.size) (fun hm=>?_)]
  ·exact hr.fra.block b hb hM'
  ·rcases hMc hm with q|q
   ·omega
   ·exact hM' q
 ·exact RepV.ext hret.le hE (fun i hi=>uk (sJ hfc hx) i hi) hz
theorem pC{o1 s:Sto}(ho:gp 1000000 o1=true)(hs:jo s):∀ {avs:List AV} {vs:List Value},dU s avs=true→All2 (RepV σ φ (o1++s)) avs vs→All2 (RepV σ φ s) avs vs
 | [],[],_,_=>trivial
 | x::r,v::vs,h,ha=>by
   simp only[dU,WX] at h
   refine⟨RepV.mv (fun i hi=>⟨?_,rfl⟩) ha.1,pC ho hs h.2 ha.2⟩
   obtain⟨e,he⟩:=jq (BW h.1 i hi)
   rw[fa ho (hs _ _ he)]
 | [],_::_,_,ha=>ha.elim
 | _::_,[],_,ha=>ha.elim
theorem Ex(o1:Sto){d:Nat}{s s':Sto}{fop:Operand}{args:Array Operand}{ats:Array TypeId}{f:FuncId}{avs:List AV}{rav:AV}(hC:CallA P f avs s rav s')(hs:jo s)(hs':jo s')(hin:bt s s=true)(hin':bt s' s'=true)(hlp:mM s)(hlp':mM s')
  (hsto:sto=o1++s) (ho:o.op=.call { callee:=.value fop,args:=args,argTypes:=ats }) (hg:o.guard=none) (hdst:o.dst=some d) (hd:Nat.blt d n=true) (hf:ev ⟨fr,sto⟩ fop=some (.one (.d (.fn f []))))
  (ha:evL ⟨fr,sto⟩ args.toList=some avs) (hai:dU s avs=true) (hk:(gp 1000000 o1&&l7 o1&&jR fr)=true) (hfl:fZ rav=true)
  (h:aa P ⟨w0,σ0,φ0,M,n,rd,mk⟩ ops rest ⟨(d,rav)::fr,o1++s'⟩ K):aa P ⟨w0,σ0,φ0,M,n,rd,mk⟩ ops (o::rest) ⟨fr,sto⟩ K:=by
 subst hsto
 refine mw hg fun a w σ φ hr=>?_
 have hfr:=aD hr hf
 replace hfr:=RepC.d_inv hfr
 generalize hfe:a.eval fop=fv at hfr
 have hk':=hk
 simp only[WX] at hk'
 cases hfr with
 | fn cs hl hcs =>
   have:cs=[]:=by cases cs with|nil=>rfl|cons _ _=>simp at hl
   subst this
   have hargs:=pC hk'.1.1 hs hai (iT hr ha)
   refine⟨f,_,_,rk ho hfe hC.fn,hC.run w σ φ _ (HInv.pinned hk'.1.1 hs hin hr.inv) (by rw[Yt];exact hargs),?_⟩
   rintro e w' ⟨v,σ',φ',rfl,hret⟩
   refine⟨v,_,σ',_,rfl,hr.callW (dst:=o.dst) (by rw[hdst];exact hd) hk hs hs' hin' hlp hlp' hfl hret,?_⟩
   rw[hdst];exact h
theorem BT(o1:Sto){d:Nat}{s s':Sto}{fop:Operand}{args:Array Operand}{ats:Array TypeId}{avs:List AV}{rav:AV}(hY:YieldA P 1000000 avs s rav s')(hs:jo s)(hs':jo s')(hin:bt s s=true)(hin':bt s' s'=true)(hlp:mM s)(hlp':mM s')
  (hsto:sto=o1++s) (hrd:rd=none) (ho:o.op=.call { callee:=.value fop,args:=args,argTypes:=ats }) (hg:o.guard=none) (hdst:o.dst=some d) (hd:Nat.blt d n=true) (hf:ev ⟨fr,sto⟩ fop=some (.one (.yl 1000000)))
  (ha:evL ⟨fr,sto⟩ args.toList=some avs) (hai:dU s avs=true) (hk:(gp 1000000 o1&&l7 o1&&jR fr)=true) (hfl:fZ rav=true)
  (h:aa P ⟨w0,σ0,φ0,M,n,rd,mk⟩ ops rest ⟨(d,rav)::fr,o1++s'⟩ K):aa P ⟨w0,σ0,φ0,M,n,rd,mk⟩ ops (o::rest) ⟨fr,sto⟩ K:=by
 subst hsto
 intro a w σ φ Q hr hQ
 have hk':=hk
 simp only[WX] at hk'
 have hfr:RepC σ φ (o1++s) (.yl 1000000) (a.eval fop):=aD hr hf
 generalize hfe:a.eval fop=fv at hfr
 obtain⟨li,lf,ls,lp,hL⟩:=hlp
 have hl0:look (o1++s) 1000000=some (.loop li lf ls lp):=by rw[fa hk'.1.1 (Xc _)];exact hL
 cases hfr with
 | dead hxx _=>simp[bY,bw,hl0] at hxx
 | yl hl hp =>
   rename_i B cap li2 fr2 s2 p2
   obtain⟨fn,tmps,assign,body,hy,hR⟩:=hY.run w σ φ _ B cap (HInv.pinned hk'.1.1 hs hin hr.inv) hp (pC hk'.1.1 hs hai (iT hr ha))
   refine wpListIn_plain hg fun K' hK=>⟨fun f _=>iL _ f,?_⟩
   rw[jx (by simp) (zt ho hfe hy),Oper.uponIn_round,jn (c:=⟨w0,σ0,φ0,M,n,rd,mk⟩) hrd]
   refine⟨fun h=>by simp[Fence.wide] at h,hR.mono fun e w' he=>?_⟩
   obtain⟨v,σ',φ',rfl,hret⟩:=he
   refine hK _ _ (h _ _ σ' (fun i=>if 1000000≤i then φ' i else φ i) _ ?_ hQ)
   have:=hr.callW (dst:=o.dst) (by rw[hdst];exact hd) hk hs hs' hin' ⟨li,lf,ls,lp,hL⟩ hlp' hfl hret
   rw[hdst] at this ⊢;exact this
end Go.Abs
namespace Go.Abs
open Go
variable {P:Program} {V:Env} {T:Tab} {c:Ctx} {w0:World} {σ0:Sig} {φ0:Pl} {M:Nat→Prop} {n:Nat} {rd:Option Nat} {mk:List Deferred} {ops:Array Oper} {o:Oper} {rest:List Oper} {fr:List (Nat×AV)} {sto:Sto} {K:St→Prop} {st st0:St} {acc:List Tr}
theorem AY{t:TypeId}{x y:Operand}{a b v:AV}(ho:o.op=.index t x y)(hs:dg V.T st o 0=none)(hx:ev st x=some a)(hy:ev st y=some b)(h:AZ V.T t (some b) (some a)=some v):aR V st o 0=some ⟨v,[],[]⟩:=by
 simp only[aR,hs,ho,hx,hy,h]
theorem dV(hV:EnvOk P V)(id:Nat){d:Nat}{v:AV}{wr:List (Nat×Option AObj)}{nw:List Nat}(hg:o.guard=none)(hdst:o.dst=some d)(hd:Nat.blt d c.n=true)(h:aR V ⟨fr,sto⟩ o id=some ⟨v,wr,nw⟩)(hid:Nat.blt (id+1) 1000000=true)(hf:eM ⟨fr,sto⟩ nw=true)
  (k:ak P c ops st0 rest ⟨(d,v)::fr,dh wr sto⟩ (⟨v,wr,uK ⟨fr,sto⟩ o.op,nw⟩::acc) K):ak P c ops st0 (o::rest) ⟨fr,sto⟩ acc K :=
 mi hg (oE hV (by rw[hdst];exact hd) h hid) (by rw[hdst];exact k)
theorem kD(hV:EnvOk P V){v:AV}{wr:List (Nat×Option AObj)}(hg:o.guard=none)(hdst:o.dst=none)(h:aR V ⟨fr,sto⟩ o 0=some ⟨v,wr,[]⟩)
  (k:ak P c ops st0 rest ⟨fr,dh wr sto⟩ (⟨v,wr,uK ⟨fr,sto⟩ o.op,[]⟩::acc) K):ak P c ops st0 (o::rest) ⟨fr,sto⟩ acc K :=
 mi hg (oE hV (by rw[hdst];rfl) h rfl) (by rw[hdst];exact k)
def OkR(P:Program)(c:Ctx)(bl:Nat)(g:Operand)(ps:Array Nat)(assign body rest:Code)(st:St)(Q:Exit→St→Prop):Prop :=
 ∀ (a:Act) (w:World) (σ:Sig) (φ:Pl),Rel c st a w σ φ→(Code.block bl (.rangeFunc g ps assign body)).wpIn (fnc c) 0 P
   (Exit.then (rest.wpIn (fnc c) 0 P fun e a' w'=>∃ st' σ' φ',Q e st'∧RelE c e st' a' w' σ' φ') fun e a' w'=>∃ st' σ' φ',Q e st'∧RelE c e st' a' w' σ' φ') a w
def tt(R:St→Prop)(e:Exit)(st:St):Prop:=e=.normal∧R st
theorem OB{R:St→Prop}(h:R st):tt R .normal st:=⟨rfl,h⟩
def xy(Q:Exit→St→Prop)(e:Exit)(st:St):Prop:=e=.ret∧Q .ret st
theorem OC{Q:Exit→St→Prop}(h:Q .ret st):xy Q .ret st:=⟨rfl,h⟩
theorem HG{bl:Nat}{g:Operand}{ps:Array Nat}{x assign body rest:Code}{Q:Exit→St→Prop}(h:OkC P c x st (tt fun st1=>OkR P c bl g ps assign body rest st1 Q)):OkC P c (.seq (.seq x (.block bl (.rangeFunc g ps assign body))) rest) st Q:=by
 intro a w σ φ hr
 refine wpIn_seq (wpIn_seq (wpIn_mono (h a w σ φ hr) ?_))
 rintro e a1 w1 ⟨st1,σ1,φ1,⟨rfl,hR⟩,hre⟩
 exact hR a1 w1 σ1 φ1 (hre.rel (by simp))
theorem oH{g:Operand}{ps:Array Nat}{assign body rest:Code}{bl:Nat}{Q:Exit→St→Prop}{f:FuncId}{caps:List D}{os:List (Nat×AObj)}{rav:AV}{liR:LI}{frR:List (Nat×AV)}{s':LoopState}{p':Option Code}{rs:Sto}(ids:List Nat)(idl:Nat)
  (hrd:c.rd=none) (hmk:c.mks=[]) (hg:ev st g=some (.one (.d (.fn f caps)))) (hos:jG st.sto ids=some os)
  (hC:CallA P f ((.one (.yl 1000000))::caps.map fun x=>.one (.d x)) ((1000000,.loop ⟨c.n,ps,assign,body⟩ (dO (inv 1000000 (idl::ids)) (cN ids st.fr [])) .ready none)::iW (inv 1000000 (idl::ids)) os) rav ((1000000,.loop liR frR s' p')::rs))
  (hb:sa st ids idl ⟨c.n,ps,assign,body⟩ os caps rav 1000000 liR frR s' p' rs=true)
  (h1:p'=none→∀ c1,A4 c c1→OkC P c1 rest ⟨st.fr,kE (idl+1) (cj 1000000 (idl::ids)) rs st.sto⟩ (xy Q))
  (h2:p'=some .ret→Q .ret ⟨st.fr,kE (idl+1) (cj 1000000 (idl::ids)) rs st.sto⟩):OkR P c bl g ps assign body rest st Q:=by
 intro a w σ φ hr
 unfold sa at hb
 simp only[WX,Xe] at hb
 obtain⟨⟨⟨⟨⟨⟨⟨⟨hj,hall⟩,hni⟩,hcm⟩,hk⟩,hi⟩,hfr⟩,hbu⟩,hp⟩:=hb
 have hren:dO (rn (idl+1) (cj 1000000 (idl::ids))) (dO (inv 1000000 (idl::ids)) (cN ids st.fr []))=cN ids st.fr [] :=
  oC fun i hi=>r7 (by simp only[cT,Xs];exact .inr (lh i hi))
 have hne:∀ i∈ids,i≠idl:=by
  intro i hmem e
  rw[e] at hmem
  rw[memL_iff.2 hmem] at hni;cases hni
 have e:dO (rn (idl+1) ((1000000,idl)::cj 1000001 ids)) (dO (inv 1000000 (idl::ids)) (cN ids st.fr []))=cN ids st.fr []:=hren
 have hX:=yW (P:=P) (c:=c) (st:=st) (g:=g) (ps:=ps) (assign:=assign) (body:=body) (k:=idl+1) (idl:=idl) (ρ:=cj 1000001 ids) hrd hmk hg hC (fun s v hv=>by rw[e] at hv;exact (iP hv).2)
  (kZ (s:=(idl,_)::st.sto) ((kY (s:=st.sto) fun i hi=>aP (hne i hi)).trans hos) hall)
  (j8 (s:=(idl,.loop ⟨c.n,ps,assign,body⟩ (cN ids st.fr []) .ready none)::st.sto) (fun j i _=>by
   show look ((idl,AObj.loop _ _ _ _)::st.sto) i=_
   rw[e]) hcm) hk (by
   rw[e]
   simp only[WX,Xe]
   exact hi) (fun i h1 h2=>fB hfr i (rng_mem.2 ⟨h1,h2⟩)) (by rintro rfl;cases hbu) (by
   unfold pOk at hp
   split at hp
   ·exact .inl rfl
   ·exact .inr rfl
   ·cases hp) a w σ φ hr
 refine wpIn_block (wpIn_mono hX ?_)
 rintro x a' w' (⟨hp0,rfl,c1,σ',φ',hg1,hr1⟩|⟨hp0,rfl,σ',φ',hr1⟩)
 ·have hc:=h1 hp0 c1 hg1 a' w' σ' φ' hr1
  have hf:fnc c1=fnc c:=by rw[jn hg1.2.1,jn hrd]
  rw[hf] at hc
  refine wpIn_mono hc ?_
  rintro x a2 w2 ⟨s2,σ2,φ2,⟨rfl,hq⟩,hre⟩
  refine⟨s2,σ2,φ2,hq,?_⟩
  rcases hre with h5|⟨_,r,_,_,_,h5⟩
  ·exact hg1.2.2.2 _ _ _ _ _ h5
  ·exact absurd h5.defers.symm hg1.2.2.1
 ·exact⟨_,σ',φ',h2 hp0,hr1⟩
structure FamW {α:Type} (E:α→Sto):Prop where
 big:∀ a,jo (E a)
 ins:∀ a,bt (E a) (E a)=true
 lp:∀ a,mM (E a)
 nd:∀ a,dn (bn (E a))=true
theorem D7{α:Type}{l:List (Nat×α)}:∀ {t:List (Nat×α)},(∀ q∈t,look l q.1=some q.2)→SubL l t
 | [],_=>trivial
 | (i,x)::t,h=>⟨h _ Xd,D7 fun q hq=>h q (Xa _ hq)⟩
theorem A5:∀ {s:Sto} {q:Nat×AObj},q∈s→cT q.1 (bn s)=true
 | p::r,q,h=>by
   obtain⟨i,x⟩:=p
   rcases Xo.1 h with rfl|h
   ·simp[bn,cT]
   ·simp[bn,cT,A5 h]
theorem D8:∀ {s:Sto},dn (bn s)=true→∀ q∈s,look s q.1=some q.2
 | (i,x)::r,h,q,hq=>by
   simp only[bn,dn,WX,Xe] at h
   rcases Xo.1 hq with rfl|hq
   ·simp[look]
   ·have hm:=A5 hq
    have hne:Nat.beq i q.1=false:=by
     cases hb:Nat.beq i q.1 with
     | false=>rfl
     | true =>
       have:=W4 hb
       subst this
       rw[h.1] at hm;cases hm
    simp only[look,hne,Ye]
    exact D8 h.2 q hq
theorem JP{o1 s:Sto}(ho:gp 1000000 o1=true)(hs:jo s)(hn:dn (bn s)=true):SubL (o1++s) s :=
 D7 fun q hq=>by
  have h:=D8 hn q hq
  rw[fa ho (hs _ _ h)];exact h
theorem D9{α β:Type}{E:α→Sto}(hE:FamW E)(g:β→α){body:Code}{Q:Exit→St→Prop}(o1:Sto)(kept:List (Nat×AV))(hk:SubL fr kept)(L:β→List (Nat×AV))(Inv:β→Prop)(μ:β→Nat)(x0:β)(hsto:sto=o1++E (g x0))(ho:gp 1000000 o1=true)(hL:SubL fr (L x0))(h0:Inv x0)
  (hround:∀ x,Inv x→OkC P c body ⟨L x++kept,o1++E (g x)⟩ (av (fun st'=>∃ y o2,Inv y∧μ y<μ x∧st'.sto=o2++E (g y)∧gp 1000000 o2=true∧SubL o2 o1∧SubL st'.fr (L y)∧SubL st'.fr kept) Q)):OkC P c (.loop body) ⟨fr,sto⟩ Q:=by
 subst hsto
 have hap:∀ {f a b:List (Nat×AV)},SubL f a→SubL f b→SubL f (a++b):=by
  intro f a b h1 h2
  induction a with
  | nil=>exact h2
  | cons p r ih=>exact⟨h1.1,ih h1.2⟩
 have hdr:∀ {f:List (Nat×AV)} {o2 s:Sto},jo s→gp 1000000 o2=true→SubL o2 o1→Imp c ⟨f,o2++s⟩ ⟨f,o1++s⟩:=fun hs h2 h a w σ φ hr=>⟨σ,φ,hr.dropTo fun i e hi=>by
  show look (_++_) i=some e
  rcases XM i 1000000 with h3|h3
  ·rw[jL hs h3] at hi ⊢;exact h.look hi
  ·rw[fa ho h3] at hi;rw[fa h2 h3];exact hi⟩
 refine bm (st':=⟨L x0++kept,o1++E (g x0)⟩) (ko (hap hL hk)) ?_
 refine pQ (fun n st=>∃ x,Inv x∧n=μ x∧st=⟨L x++kept,o1++E (g x)⟩) (μ x0) ⟨x0,h0,rfl,rfl⟩ ?_
 rintro n st ⟨x,hx,rfl,rfl⟩
 refine kF (hround x hx) fun e st h=>?_
 cases e with
 | normal =>
   obtain⟨y,o2,hy,hlt,hs,h4,h5,h1,h2⟩:=h
   obtain⟨f,s⟩:=st
   simp only at hs h1 h2
   subst hs
   exact⟨μ y,_,hlt,⟨y,hy,rfl,rfl⟩,Imp.trans (ko (hap h1 h2)) (hdr (hE.big (g y)) h4 h5)⟩
 | _=>exact h
def uP(r:Nat→Nat):List Nat→Bool
 | []=>true
 | i::l=>(!(Nat.ble 1000000 (r i)&&Nat.blt (r i) 2000000)||Nat.beq (r i) i)&&uP r l
theorem xz{r:Nat→Nat}:∀ {l:List Nat},uP r l=true→∀ {i:Nat},i∈l→Pin (r i)→r i=i
 | j::l,h,i,hi,hb=>by
   simp only[uP,WX,Xs,Xe] at h
   rcases Xo.1 hi with rfl|hi
   ·rcases h.1 with h1|h1
    ·rw[Nat.ble_eq.mpr hb.1,Yb.mpr hb.2] at h1;cases h1
    ·exact W4 h1
   ·exact xz h.2 hi hb
theorem eu(r:Nat→Nat)(hk:(dn (bn sto)&&dn (jX r (bn sto))&&uP r (bn sto)&&bt sto sto&&iC sto fr)=true):Imp c ⟨fr,sto⟩ ⟨dO r fr,gW r sto⟩:=by
 intro a w σ φ hr
 simp only[WX] at hk
 obtain⟨⟨⟨⟨h1,h2⟩,h3⟩,h4⟩,h5⟩:=hk
 classical
 let φ':Pl:=fun t=>if h:∃ i,i∈bn sto∧r i=t then φ h.choose else φ t
 have hφ:∀ {i:Nat},i∈bn sto→φ' (r i)=φ i:=by
  intro i hi
  have hex:∃ j,j∈bn sto∧r j=r i:=⟨i,hi,rfl⟩
  show (if h:∃ j,j∈bn sto∧r j=r i then φ h.choose else φ (r i))=φ i
  rw[dif_pos hex]
  have:=hex.choose_spec
  rw[oI h2 this.1 hi this.2]
 have hR:∀ j o,look sto j=some o→look (gW r sto) (r j)=some (du r o)∧φ' (r j)=φ j:=fun j o hj=>⟨oJ h2 hj,hφ (nQ hj)⟩
 refine⟨σ,φ',hr.le,hr.fresh,⟨hr.inv.sig,fun t e ht=>?_,fun t t' e e' p p' ht ht' hne hp hp'=>?_⟩,fun t e p ht hp=>?_,fun s v hv=>?_,hr.defers,hr.size,hr.fra,fun t ht=>?_⟩
 ·obtain⟨i,o,rfl,hi,rfl⟩:=ey h1 ht
  exact Am hR hi (gq h4 hi) (hr.inv.obj _ _ hi)
 ·obtain⟨i,o,rfl,hi,rfl⟩:=ey h1 ht
  obtain⟨i',o',rfl,hi',rfl⟩:=ey h1 ht'
  rw[(hR _ _ hi).2] at hp
  rw[(hR _ _ hi').2] at hp'
  exact hr.inv.inj _ _ _ _ _ _ hi hi' (fun e=>hne (by rw[e])) hp hp'
 ·obtain⟨i,o,rfl,hi,rfl⟩:=ey h1 ht
  rw[(hR _ _ hi).2] at hp
  exact hr.mine _ _ _ hi hp
 ·rw[lj] at hv
  cases hl:look fr s with
  | none=>rw[hl] at hv;cases hv
  | some v0 =>
    rw[hl] at hv;cases hv
    obtain⟨u,hu,hru⟩:=hr.slot s v0 hl
    exact⟨u,hu,reV hR (mN h5 hl) hru⟩
 ·show (if h:∃ j,j∈bn sto∧r j=t then φ h.choose else φ t)=_
  split
  ·rename_i hex
   have hs:=hex.choose_spec
   have:=xz h3 hs.1 (by rw[hs.2];exact ht)
   rw[hs.2] at this
   rw[← this];exact hr.pin t ht
  ·exact hr.pin t ht
theorem vW{i:Nat}:∀ {a b:Sto},aN i (a++b)=(aN i a||aN i b)
 | [],_=>by simp[aN]
 | p::r,b=>by simp only[XL,aN,vW (a:=r),Bool.or_assoc]
theorem vX{s t:Sto}(hs:jo s){i:Nat}(hi:i<1000000):∀ {l:Sto},bt s l=true→aN i l=false
 | [],_=>rfl
 | (j,e)::r,h=>by
   simp only[bt,WX] at h
   simp only[aN]
   rw[vX (t:=t) hs hi h.2,Bool.or_false]
   cases hm:e.men i with
   | false=>rfl
   | true =>
     obtain⟨e',he⟩:=jq (uQ h.1 i hm)
     have:=hs _ _ he;omega
theorem HH{o1 s:Sto}(hs:jo s)(hin:bt s s=true){id:Nat}(h:(Nat.blt id 1000000&&(!bw o1 id&&!br id fr&&!aN id o1))=true):(Nat.blt id 1000000&&(!bw (o1++s) id&&!br id fr&&!aN id (o1++s)))=true:=by
 simp only[WX,Xe,Yb] at h ⊢
 obtain⟨h1,⟨h2,h3⟩,h4⟩:=h
 refine⟨h1,⟨?_,h3⟩,?_⟩
 ·unfold bw at h2 ⊢;rw[jL hs h1];exact h2
 ·rw[vW,h4,vX (t:=s) hs h1 hin];rfl
theorem OD(o1:Sto)(id:Nat){s:Sto}(hs:jo s)(hin:bt s s=true){d:Nat}{t:TypeId}{x:Operand}{v:AV}{cs:List AC}(hsto:sto=o1++s)(ho:o.op=.box t x)(hg:o.guard=none)(hdst:o.dst=some d)(hdn:Nat.blt d n=true)(hd:(Nat.blt id 1000000&&(!bw o1 id&&!br id fr&&!aN id o1))=true)
  (hx:ev ⟨fr,sto⟩ x=some v) (hc:(match cellsOf v with|some cs'=>bif db id cs' then none else some cs'|none=>none)=some cs)
  (h:aa P ⟨w0,σ0,φ0,M,n,rd,mk⟩ ops rest ⟨(d,.one (.ref id 0))::fr,(id,.box cs)::sto⟩ K):aa P ⟨w0,σ0,φ0,M,n,rd,mk⟩ ops (o::rest) ⟨fr,sto⟩ K:=by
 subst hsto
 exact oK id ho hg hdst (by rw[hdn,Bool.true_and];exact HH hs hin hd) hx hc h
theorem JQ(hT:bg P T)(o1:Sto)(id:Nat){s:Sto}(hs:jo s)(hin:bt s s=true){d:Nat}{t:TypeId}{td:TD}(hsto:sto=o1++s)(ho:o.op=.alloc t)(hg:o.guard=none)(hdst:o.dst=some d)(hdn:Nat.blt d n=true)(hd:(Nat.blt id 1000000&&(!bw o1 id&&!br id fr&&!aN id o1))=true)(ht:look T t=some td)
  (h:aa P ⟨w0,σ0,φ0,M,n,rd,mk⟩ ops rest ⟨(d,.one (.ref id 0))::fr,(id,.box (td.zero.map .d))::sto⟩ K):aa P ⟨w0,σ0,φ0,M,n,rd,mk⟩ ops (o::rest) ⟨fr,sto⟩ K:=by
 subst hsto
 exact kH hT id ho hg hdst (by rw[hdn,Bool.true_and];exact HH hs hin hd) ht h
theorem LF{s:Sto}(h:mM s):bw s 1000000=true:=by
 obtain⟨li,fr,st,p,h⟩:=h
 simp[bw,h]
theorem oL{rs:List ResultVar}{rav rav':AV}{rsto s:Sto}{e:Exit}{l:List (Bool×List AC)}(o1:Sto)(he:e=.ret∨e=.normal)(hsto:sto=o1++s)(hl:nR T ⟨fr,sto⟩ rs=some l)(hr:qO l=some rav')(h:rav'=rav∧s=rsto)(ho:gp 1000000 o1=true)(hs:jo s)(hn:dn (bn s)=true):aI T rs rav rsto e ⟨fr,sto⟩:=by
 obtain⟨h1,rfl⟩:=h
 subst hsto
 exact⟨he,l,hl,by rw[hr,h1],JP ho hs hn⟩
def jM(P:Program)(id:Nat)(c:Ctx)(body:Code)(rav:AV)(rsto:Sto)(e:Exit)(st:St):Prop :=
 e=.normal∧∃ li1 fr1,look st.sto id=some (.loop li1 fr1 .ready none)∧OkC P c body ⟨st.fr,cD id (.loop li1 fr1 .busy none) st.sto⟩ (dp id rav rsto)
theorem JR{id:Nat}{body:Code}{rav:AV}{rsto:Sto}{li1:LI}{fr1:List (Nat×AV)}(hl:look st.sto id=some (.loop li1 fr1 .ready none))(h:OkC P c body ⟨st.fr,cD id (.loop li1 fr1 .busy none) st.sto⟩ (dp id rav rsto)):jM P id c body rav rsto .normal st:=⟨rfl,_,_,hl,h⟩
theorem gj{id:Nat}{rav:AV}{rsto:Sto}{li:LI}{fr1:List (Nat×AV)}{p:Option Code}(hl:look st.sto id=some (.loop li fr1 .busy p))(hr:rav=.one (.d (.bool true)))(hs:SubL (cD id (.loop li fr1 .ready none) st.sto) rsto):dp id rav rsto .normal st :=
 ⟨li,fr1,p,hl,.inl ⟨rfl,hr,hs⟩⟩
theorem pR{id:Nat}{rav:AV}{rsto:Sto}{li:LI}{fr1:List (Nat×AV)}{p:Option Code}{e:Exit}{j:Code}(hl:look st.sto id=some (.loop li fr1 .busy p))(hj:A7 e=some j)(hr:rav=.one (.d (.bool false)))(hs:SubL (cD id (.loop li fr1 .done (some j)) st.sto) rsto):dp id rav rsto e st :=
 ⟨li,fr1,p,hl,.inr ⟨j,hj,hr,hs⟩⟩
theorem oM{id:Nat}{li:LI}{fr:List (Nat×AV)}{args:List AV}{sto:Sto}{rav:AV}{rsto:Sto}(hid:Pin id)(hl:look sto id=some (.loop li fr .ready none))
  (hps:(ka li.n li.params.toList&&Nat.beq li.params.toList.length args.length)=true)
  (h:∀ (w0:World) (σ0:Sig) (φ0:Pl) (M:Nat→Prop) (B:Nat),OkC P ⟨w0,σ0,φ0,M,li.n,some B,[]⟩ li.assign ⟨gX li.params.toList args fr,sto⟩ (jM P id ⟨w0,σ0,φ0,M,li.n,some B,[]⟩ li.body rav rsto)):YieldA P id args sto rav rsto:=sb hid hl hps h
end Go.Abs
namespace Go.Abs
open Go
variable {P:Program} {V:Env} {T:Tab} {c:Ctx} {st st0:St} {σ σ':Sig} {φ φ':Pl} {w w':World}
theorem sj{ops:Array Oper}{o:Oper}{rest:List Oper}{a:Act}{Q:Exit→Act→World→Prop}{u:Value}(hg:o.guard=none)(hrun:(execOp a.eval o).run P w=.ok (.value u) w')(h:wpListIn (fnc c) 0 P ops Q rest (a.put o.dst u) w'):wpListIn (fnc c) 0 P ops Q (o::rest) a w:=by
 refine wpListIn_plain hg fun K' hK=>⟨fun f _=>iL c f,?_⟩
 rw[jx (by simp) hrun]
 exact hK _ _ h
theorem Ae{s:ByteArray}{pos r:Nat}{ty:TypeId}(hh:w.heap[r]?=some (.stringIter s pos))(h:¬ pos<s.size):(Instr.next (.pointer (some ⟨r,0,none⟩)) true ty).run P w=.ok (.tuple #[.bool false]) w:=by
 simp[Instr.next,getObj,Sem.run,hh,Result.andThen,h]
theorem Af{s:ByteArray}{pos r:Nat}{ty:TypeId}(hh:w.heap[r]?=some (.stringIter s pos))(h:pos<s.size):(Instr.next (.pointer (some ⟨r,0,none⟩)) true ty).run P w =
  .ok (.tuple #[.bool true,.int .i64 pos,.int .i32 (Utf8.decode s pos).1]) { w with heap:=w.heap.setIfInBounds r (.stringIter s (pos+(Utf8.decode s pos).2)) }:=by
 simp[Instr.next,getObj,setObj,Sem.run,hh,Result.andThen,h,goInt]
theorem DB(s:ByteArray)(pos:Nat)(h:pos<s.size):1≤(Utf8.decode s pos).2:=by
 by_cases ha:(s[pos]'h).toNat<128
 ·rw[decode_ascii s pos h ha];exact Xc _
 ·exact (decode_high s pos h (by omega)).2
theorem Rel.iter{fr:List (Nat×AV)}{a:Act}{r:Nat}{s:ByteArray}{p q:Nat}(hr:Rel c ⟨fr,[]⟩ a w σ φ)(hh:w.heap[r]?=some (.stringIter s p))(hn:c.w0.heap.size≤r) :
  Rel c ⟨fr,[]⟩ a { w with heap:=w.heap.setIfInBounds r (.stringIter s q) } σ φ:=by
 refine⟨hr.le,hr.fresh,⟨fun b cs hb=>?_,fun i e hi=>by simp[look] at hi,fun i i' e e' p p' hi=>by simp[look] at hi⟩,fun i e p hi=>by simp[look] at hi,hr.slot,hr.defers,hr.size,⟨hr.fra.os,hr.fra.tape,hr.fra.output,?_,hr.fra.drawn,fun b hb hm=>?_⟩,hr.pin⟩
 ·obtain⟨t,f,h1⟩:=hr.inv.sig b cs hb
  refine⟨t,f,?_⟩
  have hne:r≠b:=by rintro rfl;rw[hh] at h1;cases h1
  simp only[Xu hne];exact h1
 ·simp only[Array.size_setIfInBounds];exact hr.fra.size
 ·have hne:r≠b:=by omega
  simp only[Xu hne];exact hr.fra.block b hb hm
def ly(s:List UInt8)(k:Nat):Int:=((Utf8.decode ⟨s.toArray⟩ k).1:Nat)
def lW(s:List UInt8)(k:Nat):Nat:=(Utf8.decode ⟨s.toArray⟩ k).2
theorem wo{s:List UInt8}{k:Nat}{b:UInt8}(h:s[k]?=some b)(hb:b.toNat<128):ly s k=b.toNat∧lW s k=1:=by
 obtain⟨hl,he⟩:=W8.1 h
 have hk:k<(⟨s.toArray⟩:ByteArray).size:=by simpa[ByteArray.size] using hl
 have hg:(⟨s.toArray⟩:ByteArray)[k]'hk=b:=by
  show s.toArray[k]'(by simpa using hl)=b
  simpa using he
 have:=decode_ascii ⟨s.toArray⟩ k hk (by rw[hg];exact hb)
 unfold ly lW
 rw[this,hg]
 exact⟨rfl,rfl⟩
theorem HZ{s:List UInt8}{k:Nat}{b:UInt8}(h:s[k]?=some b)(hb:¬ b.toNat<128):128≤ly s k:=by
 obtain⟨hl,he⟩:=W8.1 h
 have hk:k<(⟨s.toArray⟩:ByteArray).size:=by simpa[ByteArray.size] using hl
 have hg:(⟨s.toArray⟩:ByteArray)[k]'hk=b:=by
  show s.toArray[k]'(by simpa using hl)=b
  simpa using he
 have:=(decode_high ⟨s.toArray⟩ k hk (by rw[hg];omega)).1
 unfold ly;omega
theorem sk{α:Type}{d:Nat}{v:α}{l:List (Nat×α)}:∀ {kept:List (Nat×α)},look kept d=none→SubL l kept→SubL ((d,v)::l) kept
 | [],_,_=>trivial
 | (t,x)::r,h,hs=>by
   simp only[look] at h
   cases hb:Nat.beq t d with
   | true=>rw[hb] at h;simp at h
   | false =>
     rw[hb] at h
     simp only[Ye] at h
     refine⟨?_,sk h hs.2⟩
     have:Nat.beq d t=false:=by
      cases hc:Nat.beq d t with
      | false=>rfl
      | true=>have:=W4 hc;subst this;rw[XN] at hb;cases hb
     simp only[look,this,Ye]
     exact hs.1
theorem RelE.back{fr:List (Nat×AV)}{st':St}{a a':Act}{e:Exit}(hmk:c.mks=[])(hr:Rel c ⟨fr,[]⟩ a w σ φ)(h:RelE ⟨w,σ,φ,MOf φ [],c.n,c.rd,[]⟩ e st' a' w' σ' φ'):RelE c e st' a' w' σ' φ':=by
 rcases h with h|⟨he,r,h1,h2,h3,h4⟩
 ·have hb:=Rel.back (rd:=c.rd) (mk:=[]) hr h
  have hd:a'.defers=[]:=h.defers
  have:({ a' with defers:=c.mks }:Act)=a':=by rw[hmk,← hd]
  rw[this] at hb
  exact .inl hb
 ·have hb:=Rel.back (rd:=c.rd) (mk:=[]) hr h4
  rw[hmk] at hb
  exact .inr ⟨he,r,h1,h2,Xg hr.fra.size h3,hb⟩
def Br(bl:Nat)(Q:Exit→St→Prop)(I:Prop)(kept:List (Nat×AV))(e:Exit)(st:St):Prop:=(e=.normal∧I∧SubL st.fr kept)∨(e≠.normal∧aq bl Q e st)
def FN(bl:Nat)(Q:Exit→St→Prop)(e:Exit)(st:St):Prop:=e≠.normal∧aq bl Q e st
theorem OS{bl:Nat}{Q:Exit→St→Prop}{I:Prop}{kept:List (Nat×AV)}(h:I)(hs:SubL st.fr kept):Br bl Q I kept .normal st:=.inl ⟨rfl,h,hs⟩
theorem OT{bl:Nat}{Q:Exit→St→Prop}{I:Prop}{kept:List (Nat×AV)}{e:Exit}(he:e≠.normal)(h:aq bl Q e st):Br bl Q I kept e st:=.inr ⟨he,h⟩
theorem MN{bl:Nat}{Q:Exit→St→Prop}{e:Exit}(he:e≠.normal)(h:aq bl Q e st):FN bl Q e st:=⟨he,h⟩
theorem DC{id1 id2 bl:Nat}{o0 o1 o2:Oper}{l2:List Oper}{body2:Code}{fr kept:List (Nat×AV)}{Q:Exit→St→Prop}{d0 d1 d2:Nat}{t:TypeId}{x0:Operand}{s:List UInt8}
  (hmk:c.mks=[]) (h0:o0.op=.move x0) (hg0:o0.guard=none) (hd0:o0.dst=some d0) (hb0:Nat.blt d0 c.n=true) (hx:ev ⟨fr,[]⟩ x0=some (.one (.d (.str s))))
  (h1:o1.op=.range t (.tmp d0)) (hg1:o1.guard=none) (hd1:o1.dst=some d1) (hb1:Nat.blt d1 c.n=true) (ht:P.underlying t=some .string)
  (h2:o2.op=.next (.tmp d1) true) (hg2:o2.guard=none) (hd2:o2.dst=some d2) (hb2:Nat.blt d2 c.n=true) (hne:Nat.beq d0 d1=false)
  (hk:SubL fr kept) (hkd:look kept d0=none) (hkd1:look kept d1=none) (hkd2:look kept d2=none) (Inv:Nat→Prop) (hi:Inv 0)
  (hmore:∀ k,Inv k→k<s.length→∀ (c2:Ctx),c2.n=c.n→c2.rd=c.rd→c2.mks=[]→∀ raw,aa P c2 (o2::l2).toArray l2 ⟨(d2,.tup [(false,[.d (.bool true)]),(false,[.d (.int .i64 k)]),(false,[.d (.int .i32 (ly s k))])])::(d1,.one (.d (.raw raw)))::kept,[]⟩
   (fun st'=>OkC P c2 body2 st' (Br bl Q (Inv (k+lW s k)) ((d1,.one (.d (.raw raw)))::kept))))
  (hover:∀ k,Inv k→s.length≤k→∀ (c2:Ctx),c2.n=c.n→c2.rd=c.rd→c2.mks=[]→∀ raw,aa P c2 (o2::l2).toArray l2 ⟨(d2,.tup [(false,[.d (.bool false)])])::(d1,.one (.d (.raw raw)))::kept,[]⟩
   (fun st'=>OkC P c2 body2 st' (FN bl Q))) :
  OkC P c (.seq (.region id1 ⟨[o0,o1]⟩ false) (.block bl (.loop (.seq (.region id2 ⟨o2::l2⟩ false) body2)))) ⟨fr,[]⟩ Q:=by
 intro a w σ φ hr
 refine wpIn_seq (wpIn_region_list ?_)
 have hs:=aD hr hx
 replace hs:=RepC.d_inv hs
 generalize hv:a.eval x0=v at hs
 cases hs with
 | str hlen =>
 have hrun0:(execOp a.eval o0).run P w=.ok (.value (.string ⟨s.toArray⟩)) w:=by
  rw[← hv];simp[execOp,h0]
 refine sj hg0 hrun0 ?_
 have hr1:Rel c ⟨(d0,.one (.d (.str s)))::fr,[]⟩ (a.put o0.dst (.string ⟨s.toArray⟩)) w σ φ:=by
  have:=hr.putTo (dst:=o0.dst) (v:=.one (.d (.str s))) (u:=.string ⟨s.toArray⟩) (st':=⟨fr,[]⟩) (by rw[hd0];exact hb0) hr.le hr.fresh hr.inv hr.mine hr.fra hr.pin (fun _=>RepC.d (.str hlen)) (fun s x _ hx=>⟨x,hx,fun z hz=>hz⟩)
  rw[hd0] at this ⊢;exact this
 generalize ha1:a.put o0.dst (.string ⟨s.toArray⟩)=a1 at hr1
 have hv1:a1.eval (.tmp d0)=.string ⟨s.toArray⟩:=by
  have h3:=aD hr1 (x:=.tmp d0) (v:=.one (.d (.str s))) (by simp[ev,look])
  replace h3:=RepC.d_inv h3
  generalize a1.eval (.tmp d0)=v1 at h3
  cases h3;rfl
 let ptr:Value:=.pointer (some ⟨w.heap.size,0,none⟩)
 have hrun1:(execOp a1.eval o1).run P w=.ok (.value ptr) (w.alloc (.stringIter ⟨s.toArray⟩ 0)):=by
  have h4:=run_range_string (P:=P) w t ⟨s.toArray⟩ ht
  simp only[execOp,h1,hv1]
  simp only[Xl,h4,Xb,Xt]
  rfl
 refine sj hg1 hrun1 (wpListIn_nil ?_)
 have hrA:=hr1.alien (.stringIter ⟨s.toArray⟩ 0)
 have hr2:Rel c ⟨(d1,.one (.d (.raw ptr)))::(d0,.one (.d (.str s)))::fr,[]⟩ (a1.put o1.dst ptr) (w.alloc (.stringIter ⟨s.toArray⟩ 0)) σ φ:=by
  have:=hrA.putTo (dst:=o1.dst) (v:=.one (.d (.raw ptr))) (u:=ptr) (st':=⟨(d0,.one (.d (.str s)))::fr,[]⟩) (by rw[hd1];exact hb1) hrA.le hrA.fresh hrA.inv hrA.mine hrA.fra hrA.pin (fun _=>RepC.d (.raw rfl)) (fun s x _ hx=>⟨x,hx,fun z hz=>hz⟩)
  rw[hd1] at this ⊢;exact this
 generalize a1.put o1.dst ptr=a2 at hr2
 have hold:c.w0.heap.size≤w.heap.size:=hr.fra.size
 let r:=w.heap.size
 have hr3:Rel c ⟨(d1,.one (.d (.raw ptr)))::kept,[]⟩ a2 (w.alloc (.stringIter ⟨s.toArray⟩ 0)) σ φ :=
  ⟨hr2.le,hr2.fresh,hr2.inv,hr2.mine,fun s v hv=>hr2.slot s v (SubL.look (l':=(d1,.one (.d (.raw ptr)))::kept) ⟨by simp[look],sk hkd1 (sk hkd hk)⟩ hv),hr2.defers,hr2.size,hr2.fra,hr2.pin⟩
 refine wpIn_block (wpIn_loop (fun a w=>∃ k σ φ,Inv k∧Rel c ⟨(d1,.one (.d (.raw ptr)))::kept,[]⟩ a w σ φ∧w.heap[r]?=some (.stringIter ⟨s.toArray⟩ k)) (fun _ w=>match w.heap[r]? with|some (.stringIter _ p)=>s.length-p|_=>0)
  ⟨0,σ,φ,hi,hr3,da _ _⟩ ?_)
 clear hr3 hr2 hrA hr1 hrun1 hrun0 hv1 ha1 a1 a2
 rintro a w1 ⟨k,σ1,φ1,hI,hr4,hh⟩
 refine wpIn_seq (wpIn_region_list ?_)
 have hp:a.eval (.tmp d1)=ptr:=by
  have h3:=aD hr4 (x:=.tmp d1) (v:=.one (.d (.raw ptr))) (by simp[ev,look])
  replace h3:=RepC.d_inv h3
  generalize a.eval (.tmp d1)=v1 at h3
  cases h3;rfl
 have hsz:(⟨s.toArray⟩:ByteArray).size=s.length:=by simp[ByteArray.size]
 have fin:∀ {w2:World} {st2:St} {a2:Act} (hr5:Rel c ⟨st2.fr,[]⟩ a2 w2 σ1 φ1) (hst:st2.sto=[]) {R:St→Prop} {K:Exit→St→Prop} (_:∀ st',R st'→OkC P ⟨w2,σ1,φ1,MOf φ1 [],c.n,c.rd,[]⟩ body2 st' K)
   (_:aa P ⟨w2,σ1,φ1,MOf φ1 [],c.n,c.rd,[]⟩ (o2::l2).toArray l2 st2 R) {Z:Exit→Act→World→Prop}
   (_:∀ e a5 w5 st5 σ5 φ5,K e st5→RelE ⟨w2,σ1,φ1,MOf φ1 [],c.n,c.rd,[]⟩ e st5 a5 w5 σ5 φ5→Z e a5 w5),wpListIn (fnc c) 0 P (o2::l2).toArray (Exit.then (body2.wpIn (fnc c) 0 P Z) Z) l2 a2 w2:=by
  intro w2 st2 a2 hr5 hst R K hR hO Z hZ
  have hd0:a2.defers=[]:=hr5.defers.trans hmk
  have hd:({ a2 with defers:=[] }:Act)=a2:=by rw[← hd0]
  have hr6:=hr5.anew [] c.rd
  rw[hd] at hr6
  obtain⟨f2,s2⟩:=st2
  simp only at hst hr6
  subst hst
  refine hO a2 w2 σ1 φ1 _ hr6 fun a4 w4 σ4 φ4 st4 hK hr7=>?_
  exact wpIn_mono (hR st4 hK a4 w4 σ4 φ4 hr7) fun e a5 w5 ⟨st5,σ5,φ5,hq,hre⟩=>hZ e a5 w5 st5 σ5 φ5 hq hre
 have leave:∀ {e:Exit} {a5:Act} {w5:World} {st5:St} {σ5:Sig} {φ5:Pl},aq bl Q e st5→RelE c e st5 a5 w5 σ5 φ5→e≠.normal→Exit.inBlock bl (fun e a' w'=>∃ st' σ' φ',Q e st'∧RelE c e st' a' w' σ' φ') e a5 w5:=by
  intro e a5 w5 st5 σ5 φ5 hq hre hne
  cases e with
  | normal=>exact absurd rfl hne
  | exit i =>
    simp only[aq] at hq
    cases hb:Nat.beq i bl with
    | true =>
      have hi:=W4 hb
      rw[hb] at hq
      simp only[Exit.inBlock]
      rw[if_pos hi]
      exact⟨st5,σ5,φ5,hq,.inl (hre.rel (by simp))⟩
    | false =>
      have hi:i≠bl:=by rintro rfl;rw[XN] at hb;cases hb
      rw[hb] at hq
      simp only[Exit.inBlock]
      rw[if_neg hi]
      exact⟨st5,σ5,φ5,hq,hre⟩
  | _=>exact⟨st5,σ5,φ5,hq,hre⟩
 by_cases hlt:k<s.length
 ·have hrun2:=Af (P:=P) (ty:=o2.type) hh (by rw[hsz];exact hlt)
  have hrun:(execOp a.eval o2).run P w1=.ok (.value (.tuple #[.bool true,.int .i64 k,.int .i32 (Utf8.decode ⟨s.toArray⟩ k).1])) { w1 with heap:=w1.heap.setIfInBounds r (.stringIter ⟨s.toArray⟩ (k+(Utf8.decode ⟨s.toArray⟩ k).2)) }:=by
   simp only[execOp,h2,hp]
   simp only[Xl,ptr]
   rw[show (⟨w.heap.size,0,none⟩:Addr)=⟨r,0,none⟩ from rfl,hrun2]
   rfl
  refine sj hg2 hrun ?_
  have hri:=hr4.iter (q:=k+(Utf8.decode ⟨s.toArray⟩ k).2) hh hold
  have hrl:=decode_le ⟨s.toArray⟩ k
  have hr5:=hri.putTo (dst:=o2.dst) (v:=.tup [(false,[.d (.bool true)]),(false,[.d (.int .i64 k)]),(false,[.d (.int .i32 (ly s k))])]) (u:=.tuple #[.bool true,.int .i64 k,.int .i32 (Utf8.decode ⟨s.toArray⟩ k).1]) (st':=⟨(d1,.one (.d (.raw ptr)))::kept,[]⟩) (by rw[hd2];exact hb2) hri.le hri.fresh hri.inv hri.mine hri.fra hri.pin
   (fun _=>⟨[_,_,_],rfl,⟨⟨.d .bool,trivial⟩,⟨⟨.d (.int (by
    simp only[inR,IntKind.min,IntKind.max,IntKind.signed,IntKind.bits,if_true];omega)),trivial⟩,⟨⟨.d (.int (by
    simp only[inR,ly,IntKind.min,IntKind.max,IntKind.signed,IntKind.bits,if_true];omega)),trivial⟩,trivial⟩⟩⟩⟩) (fun s x _ hx=>⟨x,hx,fun z hz=>hz⟩)
  rw[hd2] at hr5 ⊢
  refine fin (st2:=⟨_,[]⟩) hr5 rfl (fun st' h=>h) (hmore k hI hlt ⟨_,σ1,φ1,MOf φ1 [],c.n,c.rd,[]⟩ rfl rfl rfl ptr) ?_
  rintro e a5 w5 st5 σ5 φ5 hq hre
  have hbk:=RelE.back hmk hri hre
  rcases hq with⟨rfl,hI',hsub⟩|⟨hne',hq⟩
  ·have h6:=hbk.rel (by simp)
   have h7:=hre.rel (by simp)
   have hlt1:r<w1.heap.size:=(Xm.1 hh).1
   have h8:w5.heap[r]?=some (.stringIter ⟨s.toArray⟩ (k+lW s k)):=by
    rw[h7.fra.block r (by simp only[Array.size_setIfInBounds];exact hlt1) (by rintro ⟨id,e,p,h,_⟩;simp[look] at h)]
    simp[hlt1,lW]
   have h9:=h6.dropTo (s':=[]) (by simp[look])
   refine⟨⟨_,σ5,φ5,hI',⟨h9.le,h9.fresh,h9.inv,h9.mine,fun s v hv=>h9.slot s v (hsub.look hv),h9.defers,h9.size,h9.fra,h9.pin⟩,h8⟩,?_⟩
   ·simp only[h8,hh]
    have:=DB ⟨s.toArray⟩ k (by rw[hsz];exact hlt)
    simp only[lW]
    omega
  ·have:=leave hq hbk hne'
   cases e<;>first|exact absurd rfl hne'|exact this
 ·have hrun2:=Ae (P:=P) (ty:=o2.type) hh (by rw[hsz];exact hlt)
  have hrun:(execOp a.eval o2).run P w1=.ok (.value (.tuple #[.bool false])) w1:=by
   simp only[execOp,h2,hp]
   simp only[Xl,ptr]
   rw[show (⟨w.heap.size,0,none⟩:Addr)=⟨r,0,none⟩ from rfl,hrun2]
   rfl
  refine sj hg2 hrun ?_
  have hr5:=hr4.putTo (dst:=o2.dst) (v:=.tup [(false,[.d (.bool false)])]) (u:=.tuple #[.bool false]) (st':=⟨(d1,.one (.d (.raw ptr)))::kept,[]⟩) (by rw[hd2];exact hb2) hr4.le hr4.fresh hr4.inv hr4.mine hr4.fra hr4.pin
   (fun _=>⟨[_],rfl,⟨⟨.d .bool,trivial⟩,trivial⟩⟩) (fun s x _ hx=>⟨x,hx,fun z hz=>hz⟩)
  rw[hd2] at hr5 ⊢
  refine fin (st2:=⟨_,[]⟩) hr5 rfl (fun st' h=>h) (hover k hI (by omega) ⟨_,σ1,φ1,MOf φ1 [],c.n,c.rd,[]⟩ rfl rfl rfl ptr) ?_
  rintro e a5 w5 st5 σ5 φ5 ⟨hne',hq⟩ hre
  have:=leave hq (RelE.back hmk hr4 hre) hne'
  cases e<;>first|exact absurd rfl hne'|exact this
end Go.Abs
namespace Go.Proofs.YtpejdgkaapnekaaGreat
open Go Go.Abs
attribute [local irreducible] aa OkC ak av aq aI Br FN
set_option maxRecDepth 10000
theorem Pf:Tryz.prog.underlying 9=some .string:=by kernel_rfl
theorem BD{s:List UInt8}{k:Nat}(h:k<s.length):(decide (ly s k<32)||decide (126<ly s k))=!gr (at_ s k):=by
 have hb:=ea h
 by_cases ha:(at_ s k).toNat<128
 ·rw[(wo hb ha).1,XR]
  simp[gr]
  omega
 ·have:=HZ hb ha
  rw[XR]
  simp[gr]
  omega
theorem Ko{s:List UInt8}{k:Nat}(h:k<s.length)(hb:gr (at_ s k)=true):lW s k=1:=by
 simp[gr] at hb
 exact (wo (ea h) (by omega)).2
theorem TI(s:List UInt8):CallA Tryz.prog 341 [.one (.d (.str s)),.one (.d (.fn 281 [])),.one (.d (.bool true))] [] (.one (.d (.int .i64 (aK (fun c=>!gr c) s 0)))) []:=by
 refine enter af Tryz.func341 rfl (by decide +kernel) rfl fun hok w0 σ0 φ0 M=>?_
 have hl:=hok.1.str;clear hok
 repeat' (first|(refine h2H ?_;refine DC (kept:=[(1,_),(2,_)]) J J J J J J J J J J Pf J J J J J (q2Q J J) J J J (fun k=>k≤s.length∧aK (fun c=>!gr c) s 0=aK (fun c=>!gr c) (s.drop k) k) ⟨Xk _,rfl⟩ ?_ ?_)|refine wG ?_)
 ·rintro k ⟨hk,hi⟩ hlt ⟨w1,σ1,φ1,M1,n1,rd1,mk1⟩ hn hrd hmk raw
  dsimp only at hn hrd hmk
  subst hn hrd hmk
  repeat' (first|(refine h1H ?_;(refine h0H ?_;refine ae J J J J J J J J (S5 _) J ?_))|(show Br _ _ _ _ _ _;refine OS ?_ (by first|exact aW|exact (q1Q J)|exact (q2Q J J)|exact (q3Q J J J)|exact (q4Q J J J J)|exact (q5Q J J J J J)|exact (q6Q J J J J J J)|exact (q7Q J J J J J J J)))|refine wG ?_|(refine h2H ?_;refine aj J (fun h=>?_) (fun h=>?_)))
  ·rw[BD hlt] at h
   rw[hi,au hlt]
   simp at h
   simp[aK,h]
  ·rw[BD hlt] at h
   have hb:gr (at_ s k)=true:=by simpa using h
   rw[Ko hlt hb]
   refine⟨by omega,?_⟩
   rw[hi,au hlt]
   simp[aK,hb]
 ·rintro k ⟨hk,hi⟩ hge ⟨w1,σ1,φ1,M1,n1,rd1,mk1⟩ hn hrd hmk raw
  dsimp only at hn hrd hmk
  subst hn hrd hmk
  repeat' (first|refine wG ?_)
  rw[hi,W7 hge]
  rfl
theorem TJ(s:List UInt8):CallA Tryz.prog 282 [.one (.d (.str s)),.one (.d (.fn 281 []))] [] (.one (.d (.int .i64 (aK (fun c=>!gr c) s 0)))) []:=by
 refine enter af Tryz.func282 rfl (by decide +kernel) rfl fun hok w0 σ0 φ0 M=>?_
 clear hok
 repeat' (first|(refine h1H ?_;(refine h0H ?_;refine ae J J J J J J J J (TI _) J ?_))|refine wG ?_)
 all_goals rfl
end Go.Proofs.YtpejdgkaapnekaaGreat
namespace Go.Proofs.YtpejdgkaapnekaaGreat
open Go Go.Abs
attribute [local irreducible] aa OkC ak av aq aI
set_option maxRecDepth 10000
theorem RZ(a b:Int)(ha:0≤a)(hb:0≤b):CallA Tryz.prog 280 [.one (.d (.int .i64 a)),.one (.d (.int .i64 b))] [] (.one (.d (.int .i64 ((Nat.gcd a.toNat b.toNat:Nat):Int)))) []:=by
 have:=WL a.toNat b.toNat
 rwa [Int.toNat_of_nonneg ha,Int.toNat_of_nonneg hb] at this
theorem N8{s:List UInt8}:∀ (k:Nat),(decide (aK (fun c=>!gr c) s k<0))=s.all gr:=by
 induction s with
 | nil=>intro k;simp[aK]
 | cons c r ih =>
   intro k
   simp only[aK,List.all_cons,← ih (k+1)]
   rw[XR]
   by_cases hc:gr c=true<;>simp[hc]
theorem Kt(k n d:Int)(s:List UInt8):CallA Tryz.prog 233 [.agg [.d (.int .i64 k),.d (.int .i64 n),.d (.int .i64 d),.d (.str s)]] [] (.one (.d (.bool (mO k n d s)))) []:=by
 refine enter af Tryz.func233 rfl (by decide +kernel) rfl fun hok w0 σ0 φ0 M=>?_
 have h1:=(hok.1 (.d (.int .i64 n)) (by simp));replace h1:=OkD.i64 h1;clear hok
 repeat' (first|(refine h1H ?_;(refine h0H ?_;first|refine ae J J J J J J J J (WK _ _ _ _) J ?_|refine ae J J J J J J J J (RZ _ _ wB wB) J ?_|refine ae J J J J J J J J (TJ _) J ?_))|refine wG ?_|(refine h1H ?_;(refine dv ?_;refine bx J J J J (fun h=>?_) (fun h=>?_)))|(refine h2H ?_;refine aj J (fun h=>?_) (fun h=>?_)))
 all_goals (try (((simp_all[mO,← N8 0,au,W7])<;>exact wL);done))
end Go.Proofs.YtpejdgkaapnekaaGreat
