import Derived.Test.YtpejdgkaapnekaaGreatKP18
set_option linter.unusedVariables false
set_option linter.unusedSimpArgs false
set_option maxHeartbeats 1000000
namespace Go.Abs
open Go
variable {P:Program} {c:Ctx} {T:Tab}
theorem dz(hT:bg P T){ops:Array Oper}{o:Oper}{rest:List Oper}{st:St}{K:St→Prop}{op:BinOp}{t ty:TypeId}{x y:Operand}{e:Bool}{k b:Nat}{xs:List (List D)}
  (ho:o.op=.binOp op t x y ty) (hop:jI op=some e) (hg:o.guard=none) (hd:aX c.n o.dst=true) (ht:(ma T t&&qu (ev st y))=true) (hx:ev st x=some (.one (.d (.sl k b xs))))
  (h:∀ r:Bool,(r=true→xs=[])→aa P c ops rest ⟨bI o.dst (.one (.d (.bool (r==e)))) st.fr,st.sto⟩ K):aa P c ops (o::rest) st K :=
 bu hg fun a w σ φ hr=>by
  rw[WX] at ht
  obtain⟨el,hu⟩:=uw hT ht.1
  have hr1:∃ A n cap,a.eval x=.slice A n cap∧(A.isNone=true→xs=[]):=by
   have h1:=RepC.d_inv (aD hr hx)
   generalize a.eval x=u at h1
   cases h1 with
   | sl vs hc h48 hb hk hA hh =>
     refine⟨_,_,_,rfl,fun hn=>?_⟩
     cases xs with
     | nil=>rfl
     | cons z zs =>
       obtain⟨B,o,cells,rfl,_⟩:=hA (by simp)
       simp at hn
  obtain⟨A,n,cap,hx,hA⟩:=hr1
  have hy:a.eval y=.slice none 0 0:=by
   have h2:=ht.2
   unfold qu at h2
   split at h2
   ·rename_i hy
    have h1:=RepC.d_inv (aD hr hy)
    generalize a.eval y=u at h1
    cases h1;rfl
   ·cases h2
  refine⟨.bool (A.isNone==e),w,_,σ,φ,?_,hr.put (v:=.one (.d (.bool (A.isNone==e)))) hd (RepC.d .bool),h _ hA⟩
  cases op<;>simp only[jI,W5,reduceCtorEq] at hop<;>subst hop
  ·simp[execOp,ho,hx,hy,cA,Lib.run_eql_slice_nil _ _ _ _ _ _ _ _ hu]
  ·simp[execOp,ho,hx,hy,cA,run_neq_slice_nil_any _ _ _ _ _ _ _ _ hu]
variable {w0:World} {σ0:Sig} {φ0:Pl} {fr:List (Nat×AV)} {sto:Sto}
theorem jE(i j0 id:Nat){k b:Nat}{cs:List AC}(hl:look sto i=some (.box cs))(hc:cs[j0]?=some (.d .nil))(hlt:(Nat.blt id 1000000&&(!br id fr&&!aN id sto&&!bw sto id))=true):Imp c ⟨fr,sto⟩ ⟨fr,(id,.row k b [])::cD i (.box (cs.set j0 (.own id 0))) sto⟩:=by
 simp only[WX,Xe,Yb] at hlt
 obtain⟨h1,⟨h2,h3⟩,h4⟩:=hlt
 intro a w σ φ hr
 have hn:=hr.nilRow (id:=id) (k:=k) (b:=b) (by simpa using h1) h2 h3
 have hne:id≠i:=by rintro rfl;simp[bw,hl] at h4
 have hE:Ext (fun _=>False) (cq φ id none) (cq φ id none) ((id,.row k b [])::sto) ((id,.row k b [])::cD i (.box (cs.set j0 (.own id 0))) sto):=by
  intro j _
  cases hj:look ((id,AObj.row k b [])::cD i (.box (cs.set j0 (.own id 0))) sto) j with
  | none=>exact .inl rfl
  | some e =>
    refine .inr ?_
    rcases ah hj with⟨rfl,rfl⟩|⟨hne2,hj2⟩
    ·exact⟨_,aH,rfl,_,rfl,compat.refl _⟩
    ·rw[dq] at hj2
     rcases ah hj2 with⟨rfl,rfl⟩|⟨_,hj3⟩
     ·exact⟨.box cs,by rw[aP hne2];exact hl,rfl,.box (cs.set j0 (.own id 0)),rfl,trivial⟩
     ·exact⟨_,by rw[aP hne2];exact hj3,rfl,_,rfl,compat.refl _⟩
 have hold:∀ {j e},look ((id,AObj.row k b [])::cD i (.box (cs.set j0 (.own id 0))) sto) j=some e→(j=i∧e=.box (cs.set j0 (.own id 0)))∨look ((id,AObj.row k b [])::sto) j=some e:=by
  intro j e hj
  rcases ah hj with⟨rfl,rfl⟩|⟨hne2,hj2⟩
  ·exact .inr aH
  ·rw[dq] at hj2
   rcases ah hj2 with⟨rfl,rfl⟩|⟨_,hj3⟩
   ·exact .inl ⟨rfl,rfl⟩
   ·exact .inr (by rw[aP hne2];exact hj3)
 have hi:look ((id,AObj.row k b [])::sto) i=some (.box cs):=by rw[aP (fun e=>hne e.symm)];exact hl
 refine⟨σ,_,hn.le,hn.fresh,⟨hn.inv.sig,fun j e hj=>?_,fun j j' e e' p p' hj hj' hne2 hp hp'=>?_⟩,fun j e p hj hp=>?_,fun s v hv=>?_,hn.defers,hn.size,hn.fra,hn.pin⟩
 ·rcases hold hj with⟨rfl,rfl⟩|hj2
  ·obtain⟨B,cc,vs,t,h5,h6,h7,h8⟩:=hn.inv.obj _ _ hi
   refine⟨B,cc,vs,t,h5,h6,All2.of_get (by rw[List.length_set];exact h7.length) fun m x u hx hu=>?_,h8⟩
   by_cases hm:j0=m
   ·subst hm
    have hlt:j0<cs.length:=(W8.1 hc).1
    rw[List.getElem?_set_self hlt] at hx
    cases hx
    obtain⟨u',hu',hr9⟩:=h7.get hc
    rw[hu] at hu';cases hu'
    replace hr9:=RepC.d_inv hr9
    cases hr9
    exact .ownNil aH az
   ·rw[List.getElem?_set_ne hm] at hx
    obtain⟨u',hu',hr9⟩:=h7.get hx
    rw[hu] at hu';cases hu'
    exact hr9.ext (Sig.le_refl _) hE fun j hj=>hj.elim
  ·exact (hn.inv.obj _ _ hj2).ext (X:=fun _=>False) (Sig.le_refl _) hE (fun j hj=>hj.elim) rfl fun _ _ _=>⟨rfl,rfl⟩
 ·have h5:∀ {j e},look ((id,AObj.row k b [])::cD i (.box (cs.set j0 (.own id 0))) sto) j=some e→∃ e0,look ((id,AObj.row k b [])::sto) j=some e0:=by
   intro j e hj
   rcases hold hj with⟨rfl,rfl⟩|hj2
   ·exact⟨_,hi⟩
   ·exact⟨_,hj2⟩
  obtain⟨_,h6⟩:=h5 hj
  obtain⟨_,h7⟩:=h5 hj'
  exact hn.inv.inj _ _ _ _ _ _ h6 h7 hne2 hp hp'
 ·rcases hold hj with⟨rfl,rfl⟩|hj2
  ·exact hn.mine _ _ _ hi hp
  ·exact hn.mine _ _ _ hj2 hp
 ·obtain⟨u,hu,hru⟩:=hn.slot s v hv
  exact⟨u,hu,hru.ext (Sig.le_refl _) hE fun j hj=>hj.elim⟩
theorem Bi{V:Env}{st:St}{o:Oper}{id i n k b k' b':Nat}{t t2:TypeId}{x y:Operand}{v:AV}{xs ys:List (List D)}{e:TypeId}{z:List D}{q:TypeId×Nat×Nat×List D}
  (ho:o.op=.call { callee:=.builtin .append,args:=⟨[x,y]⟩,argTypes:=⟨[t,t2]⟩ }) (ht:bc V.T t=some (e,k,b,z)) (ht2:bc V.T t2=some q) (hx:ev st x=some (.one (.own i n))) (hl:look st.sto i=some (.row k' b' xs))
  (hkb:(Nat.beq k k'&&Nat.beq b b')=true) (hy:ev st y=some v) (hs:ga st k v=some ys) (h1:n+ys.length≤1000000000) (h2:(n+ys.length)*b≤100000000000) :
  aR V st o id=some ⟨.one (.own id (n+ys.length)),[(id,some (.row k b (xs.take n++ys))),(i,none)],[id]⟩:=by
 obtain⟨q1,q2,q3,q4⟩:=q
 have e1:Nat.ble (n+ys.length) 1000000000=true:=by simpa using h1
 have e2:Nat.ble ((n+ys.length)*b) 100000000000=true:=by simpa using h2
 simp only[aR,dg,cL,ho,df,vb,hx,hy,ht,ht2,hl,hs,hkb,e1,e2,Yf,XV,nL,XK,List.map_nil]
end Go.Abs
namespace Go.Abs
open Go
variable {P:Program} {c:Ctx} {fr:List (Nat×AV)} {sto:Sto}
def nmA(b:Bool×Bool):Nat:=bif b.1 then 11 else 10
def nmB(b:Bool×Bool):Nat:=bif b.2 then 13 else 12
def qN(i:Nat):Nat:=bif Nat.beq i 11 then 10 else bif Nat.beq i 13 then 12 else i
theorem Bh{α:Type}{f a b:List (Nat×α)}(h1:SubL f a)(h2:SubL f b):SubL f (a++b):=by
 induction a with
 | nil=>exact h2
 | cons p r ih=>exact⟨h1.1,ih h1.2⟩
theorem lT{f f':List (Nat×AV)}{s s':Sto}(hf:SubL f f')(hs:SubL s s'):Imp c ⟨f,s⟩ ⟨f',s'⟩:=Imp.trans (ko hf) (uX hs)
theorem ep{α:Type}{body:Code}{Q:Exit→St→Prop}(rg:Nat)(hrg:kq body=rg){fr1:List (Nat×AV)}{sto1:Sto}(ha:Imp c ⟨fr,sto⟩ ⟨fr1,sto1⟩)(kept:List (Nat×AV))(hk:SubL fr1 kept)(L:Bool×Bool→α→List (Nat×AV))(S:Bool×Bool→α→Sto)(Inv:α→Prop)(μ:α→Nat)(x0:α)
  (hL:SubL fr1 (L (false,false) x0)) (hS:SubL sto1 (S (false,false) x0)) (hq:∀ b y,Imp c ⟨L b y++kept,S b y⟩ ⟨L (false,false) y++kept,S (false,false) y⟩) (h0:Inv x0)
  (hround:∀ x,Inv x→OkC P c body ⟨L (false,false) x++kept,S (false,false) x⟩ (av (fun st'=>∃ y b,Inv y∧μ y<μ x∧SubL st'.sto (S b y)∧SubL st'.fr (L b y)∧SubL st'.fr kept) Q)):OkC P c (.loop body) ⟨fr,sto⟩ Q:=by
 refine bm (st':=⟨L (false,false) x0++kept,S (false,false) x0⟩) (Imp.trans ha (lT (Bh hL hk) hS)) ?_
 refine pQ (fun n st=>∃ x,Inv x∧n=μ x∧st=⟨L (false,false) x++kept,S (false,false) x⟩) (μ x0) ⟨x0,h0,rfl,rfl⟩ ?_
 rintro n st ⟨x,hx,rfl,rfl⟩
 refine kF (hround x hx) fun e st h=>?_
 cases e with
 | normal =>
   obtain⟨y,b,hy,hlt,hs,h1,h2⟩:=h
   obtain⟨f,s⟩:=st
   simp only at hs h1 h2
   exact⟨μ y,_,hlt,⟨y,hy,rfl,rfl⟩,Imp.trans (lT (Bh h1 h2) hs) (hq b y)⟩
 | _=>exact h
section
variable {w0:World} {σ0:Sig} {φ0:Pl} {M:Nat→Prop} {n:Nat} {rd:Option Nat} {mk:List Deferred} {ops:Array Oper} {o:Oper} {rest:List Oper} {K:St→Prop} {st0:St} {acc:List Tr}
theorem eP(k:Nat)(dl:List Nat){ss:St}{d:Nat}{fop:Operand}{args:Array Operand}{ats:Array TypeId}{f:FuncId}{caps:List D}{avs avs':List AV}{rav rav':AV}
  (ho:o.op=.call { callee:=.value fop,args:=args,argTypes:=ats }) (hg:o.guard=none) (hdst:o.dst=some d) (hd:Nat.blt d n=true) (hss:sealL ⟨fr,sto⟩ dl=some ss) (hf:ev ss fop=some (.one (.d (.fn f caps))))
  (ha:evL ss args.toList=some avs) (hD:c8 avs=true) (hap:(avs++caps.map fun x=>.one (.d x))=avs') (hC:CallA P f avs' [] rav [])
  (hk:(c7 [] []&&Nat.ble (k+16) 1000000&&dG [] rav&&bt [] [])=true) (hfresh:nF k ⟨fr,eR dl sto⟩=true) (hr:eC (rn k []) rav=rav')
  (h:aa P ⟨w0,σ0,φ0,M,n,rd,mk⟩ ops rest ⟨(d,rav')::fr,eR dl sto⟩ K):aa P ⟨w0,σ0,φ0,M,n,rd,mk⟩ ops (o::rest) ⟨fr,sto⟩ K:=by
 subst hap;subst hr
 exact mn k dl ho hg (by rw[hdst];exact hd) hss hf ha hD hC hk (qT hfresh) (by rw[hdst];exact h)
theorem p8(k:Nat)(dl:List Nat){os:List (Nat×AObj)}{d:Nat}{fop:Operand}{args:Array Operand}{ats:Array TypeId}{f:FuncId}{caps:List D}{avs avs':List AV}{rav rav':AV}
  (ho:o.op=.call { callee:=.value fop,args:=args,argTypes:=ats }) (hg:o.guard=none) (hdst:o.dst=some d) (hd:Nat.blt d c.n=true) (hos:eF sto dl=some os) (hf:evS os ⟨fr,sto⟩ fop=some (.one (.d (.fn f caps))))
  (ha:lQ os ⟨fr,sto⟩ args.toList=some avs) (hD:c8 avs=true) (hap:(avs++caps.map fun x=>.one (.d x))=avs') (hC:CallA P f avs' [] rav [])
  (hk:(c7 [] []&&Nat.ble (k+16) 1000000&&dG [] rav&&bt [] [])=true) (hr:eC (rn k []) rav=rav')
  (h:ak P c ops st0 rest ⟨(d,rav')::fr,dh (qK dl) sto⟩ (k6 k dl dl rav []::acc) K):ak P c ops st0 (o::rest) ⟨fr,sto⟩ acc K:=by
 subst hap;subst hr
 refine mi hg (yS k dl ho (by rw[hdst];exact hd) hos hf ha hD hC hk) ?_
 rw[hdst];exact h
end
theorem b5{V:Env}{st:St}{o:Oper}{id i n k b k' b':Nat}{t t2:TypeId}{x y:Operand}{v:AV}{xs ys:List (List D)}{e:TypeId}{z:List D}{q:TypeId×Nat×Nat×List D}
  (ho:o.op=.call { callee:=.builtin .append,args:=⟨[x,y]⟩,argTypes:=⟨[t,t2]⟩ }) (ht:bc V.T t=some (e,k,b,z)) (ht2:bc V.T t2=some q) (hx:ev st x=some (.one (.own i n))) (hl:look st.sto i=some (.row k' b' xs))
  (hkb:(Nat.beq k k'&&Nat.beq b b')=true) (hy:ev st y=some v) (hs:ga st k v=some ys) (hn:n≤100000000) (hys:ys.length≤10000000) (hb:b≤100) :
  aR V st o id=some ⟨.one (.own id (n+ys.length)),[(id,some (.row k b (xs.take n++ys))),(i,none)],[id]⟩ :=
 Bi ho ht ht2 hx hl hkb hy hs (by omega) (Xg (Nat.mul_le_mul (show n+ys.length≤110000000 by omega) hb) (by omega))
end Go.Abs
namespace Go.Abs
open Go
def fE(a:List Int):List D:=[.int .i64 (at_ a 0),.int .i64 (at_ a 1),.int .i64 (at_ a 2),.int .i64 (at_ a 3)]
theorem rz{a b:List Int}(h:a.length=b.length)(h4:a.length≤4):c9 (fE a) (fE b)=(a==b):=by
 have key:a=b↔at_ a 0=at_ b 0∧at_ a 1=at_ b 1∧at_ a 2=at_ b 2∧at_ a 3=at_ b 3:=by
  constructor
  ·rintro rfl;exact⟨rfl,rfl,rfl,rfl⟩
  ·rintro ⟨h0,h1,h2,h3⟩
   refine List.ext_getElem? fun i=>?_
   rcases XM i a.length with hi|hi
   ·rw[ea hi,ea (by omega)]
    have:i=0∨i=1∨i=2∨i=3:=by omega
    rcases this with rfl|rfl|rfl|rfl
    ·rw[h0]
    ·rw[h1]
    ·rw[h2]
    ·rw[h3]
   ·rw[List.getElem?_eq_none hi,List.getElem?_eq_none (by omega)]
 rw[XR]
 simp only[fE,c9,eqD,Bool.and_true,WX,beq_iff_eq,key]
def dH(f:Nat→D):List (List Int)→Nat→List (List D×List D)
 | [],_=>[]
 | k::r,i=>(fE k,[f i])::dH f r (i+1)
def bC(x:List Int):List (List Int)→Nat→Option Nat
 | [],_=>none
 | k::r,i=>if k==x then some i else bC x r (i+1)
theorem yd{f:Nat→D}{x:List Int}(h4:x.length≤4):∀ {ks:List (List Int)} {n i:Nat},(∀ k∈ks,k.length=x.length) →
  (bC x ks n=none→cO (fE x) (dH f ks n) i=none)∧∀ j,bC x ks n=some j→∃ m,cO (fE x) (dH f ks n) i=some (m,[f j])
 | [],n,i,_=>⟨fun _=>rfl,fun j h=>by cases h⟩
 | k::r,n,i,h=>by
   have hk:=h k Xd
   have ih:=yd (f:=f) h4 (ks:=r) (n:=n+1) (i:=i+1) fun y hy=>h y (Xa _ hy)
   have e:=rz hk.symm h4
   have e2:(k==x)=(x==k):=by rw[XR];simp only[beq_iff_eq];exact eq_comm
   simp only[bC,dH,cO,e,e2]
   cases hb:(x==k) with
   | true=>exact⟨fun h=>(by simp at h),fun j hj=>⟨i,by simp at hj;subst hj;rfl⟩⟩
   | false=>simpa using ih
theorem JB{f:Nat→D}{x:List Int}(h4:x.length≤4):∀ {ks:List (List Int)} {n:Nat},(∀ k∈ks,k.length=x.length)→bC x ks n=none→ig (fE x) [f (n+ks.length)] (dH f ks n)=dH f (ks++[x]) n
 | [],n,_,_=>rfl
 | k::r,n,h,hw=>by
   have hk:=h k Xd
   have e:=rz hk.symm h4
   have e2:(k==x)=(x==k):=by rw[XR];simp only[beq_iff_eq];exact eq_comm
   simp only[bC] at hw
   cases hb:(x==k) with
   | true=>rw[e2,hb] at hw;simp at hw
   | false =>
     rw[e2,hb] at hw
     have ih:=JB (f:=f) h4 (ks:=r) (n:=n+1) (fun y hy=>h y (Xa _ hy)) (by simpa using hw)
     have e3:n+1+r.length=n+(k::r).length:=by simp only[Xq];omega
     rw[e3] at ih
     simp only[XL,dH,ig,e,hb,Ye,ih]
def pk:List KK:=[.int .i64,.int .i64,.int .i64,.int .i64]
theorem o5{f:Nat→D}:∀ {ks:List (List Int)} {n:Nat},fM pk (dH f ks n)=true
 | [],_=>rfl
 | k::r,n=>by
   simp only[dH,fM,o5 (ks:=r)]
   rfl
variable {V:Env} {st:St} {o:Oper}
def lS(x:List Int):AV:=.agg [.d (.int .i64 (at_ x 0)),.d (.int .i64 (at_ x 1)),.d (.int .i64 (at_ x 2)),.d (.int .i64 (at_ x 3))]
theorem iU{t id:Nat}{m:MTy}{x y:Operand}{ok:Bool}{a:List Int}{f:Nat→D}{ks:List (List Int)}{v:AV}(ho:o.op=.lookup t x y ok)(hm:look V.M t=some m)(hms:m.ks=pk)(hk:m.kg=true)(hv:m.vg=false)
  (hx:ev st x=some (.one (.mapr id))) (hl:look st.sto id=some (.map true false (dH f ks 0))) (hy:ev st y=some (lS a)) (h4:a.length≤4) (hks:∀ k∈ks,k.length=a.length)
  (hr:(match bC a ks 0 with|some j=>sS false [f j] true ok|none=>sS false m.z false ok)=some v):aR V st o 0=some ⟨v,[],[]⟩:=by
 have hd:jB true (lS a)=some (fE a):=rfl
 have hF:=yd (f:=f) h4 (ks:=ks) (n:=0) (i:=0) hks
 have hlk:o6 m (dH f ks 0) (fE a) ok=some v:=by
  unfold o6
  rw[hv]
  cases hw:bC a ks 0 with
  | none=>rw[hF.1 hw];rw[hw] at hr;exact hr
  | some j =>
    obtain⟨q,hq⟩:=hF.2 j hw
    rw[hq];rw[hw] at hr;exact hr
 have e1:dg V.T st o 0=none:=by
  simp only[dg,cL,ho,df,lv]
  cases o.dst<;>simp[iE]
 simp only[aR,e1]
 rw[ho]
 simp only[hm,hx,hy,hl,hk,hd,hv,bEq,hms,o5,hlk,Yf]
 rfl
theorem wS{t id:Nat}{m:MTy}{x y z:Operand}{a:List Int}{f:Nat→D}{ks:List (List Int)}{d:D}(ho:o.op=.mapUpdate t x y z)(hdst:o.dst=none)(hm:look V.M t=some m)(hms:m.ks=pk)(hk:m.kg=true)(hv:m.vg=false)
  (hx:ev st x=some (.one (.mapr id))) (hl:look st.sto id=some (.map true false (dH f ks 0))) (hy:ev st y=some (lS a)) (hz:ev st z=some (.one (.d d))) (h4:a.length≤4) (hks:∀ k∈ks,k.length=a.length)
  (hn:bC a ks 0=none) (hf:f ks.length=d):aR V st o 0=some ⟨.any,[(id,some (.map true false (dH f (ks++[a]) 0)))],[]⟩:=by
 have hd:jB true (lS a)=some (fE a):=rfl
 have hd2:jB false (.one (.d d))=some [d]:=rfl
 have hU:=JB (f:=f) h4 (n:=0) hks hn
 rw[Xp,hf] at hU
 have e1:dg V.T st o 0=none:=by
  simp only[dg,cL,ho,df,lv,hdst]
  rfl
 simp only[aR,e1]
 rw[ho]
 simp only[hm,hx,hy,hz,hl,hk,hd,hd2,hv,bEq,hms,o5,hU,hdst,Yf]
 rfl
theorem CZ{t id:Nat}{m:MTy}{x y:Operand}{a:List Int}{f:Nat→D}{ks:List (List Int)}(ho:o.op=.lookup t x y true)(hm:look V.M t=some m)(hms:m.ks=pk)(hk:m.kg=true)(hv:m.vg=false)(hz:m.z=[.int .i64 0])
  (hx:ev st x=some (.one (.mapr id))) (hl:look st.sto id=some (.map true false (dH f ks 0))) (hy:ev st y=some (lS a)) (h4:a.length≤4) (hks:∀ k∈ks,k.length=a.length)
  (hw:bC a ks 0=none):aR V st o 0=some ⟨.tup [(false,[.d (.int .i64 0)]),(false,[.d (.bool false)])],[],[]⟩ :=
 iU ho hm hms hk hv hx hl hy h4 hks (by rw[hw,hz];rfl)
theorem C6{t id j:Nat}{m:MTy}{x y:Operand}{a:List Int}{f:Nat→D}{ks:List (List Int)}(ho:o.op=.lookup t x y true)(hm:look V.M t=some m)(hms:m.ks=pk)(hk:m.kg=true)(hv:m.vg=false)
  (hx:ev st x=some (.one (.mapr id))) (hl:look st.sto id=some (.map true false (dH f ks 0))) (hy:ev st y=some (lS a)) (h4:a.length≤4) (hks:∀ k∈ks,k.length=a.length)
  (hw:bC a ks 0=some j):aR V st o 0=some ⟨.tup [(false,[.d (f j)]),(false,[.d (.bool true)])],[],[]⟩ :=
 iU ho hm hms hk hv hx hl hy h4 hks (by rw[hw];rfl)
theorem z8{x:List Int}:∀ {ks:List (List Int)} {n j:Nat},bC x ks n=some j→n≤j∧j<n+ks.length
 | [],n,j,h=>by cases h
 | k::r,n,j,h=>by
   simp only[bC] at h
   split at h
   ·cases h;simp only[Xq];omega
   ·have:=z8 h
    simp only[Xq];omega
theorem xl{x:List Int}{ks:List (List Int)}{j n:Nat}(h:bC x ks 0=some j)(hn:ks.length=n):(j:Int)<(n:Int):=by have:=z8 h;omega
end Go.Abs
namespace Go.Abs
open Go
variable {P:Program} {V:Env} {st:St} {o:Oper}
theorem ia{t e:TypeId}{x y:Operand}{id m k k' b b':Nat}{ik:IntKind}{i:Int}{xs:List (List D)}{z:List D}(ho:o.op=.indexAddr t x y)(ht:bc V.T t=some (e,k',b',z))(hx:ev st x=some (.one (.own id m)))
  (hl:look st.sto id=some (.row k b xs)) (hk:Nat.beq k k'=true) (hy:ev st y=some (.one (.d (.int ik i)))) (h0:0≤i) (hm:i<(m:Int)):aR V st o 0=some ⟨.one (.rref id i.toNat 0),[],[]⟩:=by
 simp only[aR,dg,cL,ho,df,qY,hx,hy,ht,hl,hk,h0,hm,decide_true,XV,Yf]
theorem cz{t:TypeId}{x:Operand}{id j off k b s:Nat}{g:Bool}{xs:List (List D)}{el:List D}{v:AV}(ho:o.op=.load t x)(hx:ev st x=some (.one (.rref id j off)))(hT:j6 V.T t=some (g,s))
  (hl:look st.sto id=some (.row k b xs)) (hj:xs[j]?=some el) (hv:gA g s ((el.drop off).map .d)=some v):aR V st o 0=some ⟨v,[],[]⟩:=by
 simp only[aR,dg,cL,ho,df,hx,hT,hl,mD,nX,im,hj,hv]
theorem cx{t:TypeId}{x y:Operand}{id j off k b s:Nat}{g:Bool}{xs:List (List D)}{el el' ds:List D}{cs:List AC}{v:AV}(ho:o.op=.store t x y)(hd:o.dst=none)(hx:ev st x=some (.one (.rref id j off)))(hy:ev st y=some v)(hT:j6 V.T t=some (g,s))
  (hl:look st.sto id=some (.row k b xs)) (hc:cellsOf v=some cs) (hs:Nat.beq cs.length s=true) (ha:gf cs=some ds) (hj:xs[j]?=some el) (hsp:dK off ds el=some el'):aR V st o 0=some ⟨.any,[(id,some (.row k b (xs.set j el')))],[]⟩:=by
 simp only[aR,dg,cL,ho,df,hx,hy,hT,hl,hc,hs,ha,nY,im,hj,hsp,Yf]
 simp[hd,iE]
theorem pZ{xs:List (List D)}{j:Nat}{el:List D}(h:j<xs.length):(xs.set j el)[j]?=some el:=by simp[h]
theorem eO{α:Type}[Inhabited α]{f:α→List D}{l:List α}{xs:List (List D)}{i:Nat}(h:xs=l.map f)(hi:i<xs.length):xs[i]?=some (f (at_ l i)):=by
 subst h;exact dZ (by simpa using hi)
theorem bZ{t e:TypeId}{x y:Operand}{id n k b d:Nat}{i j:Int}{z:List D}(ho:o.op=.makeSlice t x y)(hd:o.dst=some d)(ht:bc V.T t=some (e,k,b,z))(hx:ev st x=some (.one (.d (.int .i64 i))))(hy:ev st y=some (.one (.d (.int .i64 j))))(hi:i=(n:Int))(hj:j=(n:Int))(hn:n≤1000)(hb:b≤100) :
  aR V st o id=some ⟨.one (.own id n),[(id,some (.row k b (List.replicate n z)))],[id]⟩:=by
 subst hi;subst hj
 have h1:Nat.ble (n*b) 1000000=true:=Nat.ble_eq.mpr (Xg (Nat.mul_le_mul hn hb) (by omega))
 have h2:Nat.ble n 1000000=true:=Nat.ble_eq.mpr (by omega)
 have h3:(0:Int)≤(n:Int):=Yq n
 simp only[aR,dg,cL,ho,df,lv,hx,hy,ht,hd,iE,h3,decide_true,Xr,h1,h2,XV,Yf]
end Go.Abs
namespace Go.Abs
open Go
variable {V:Env} {st:St} {o:Oper}
theorem xB{t e:TypeId}{x y:Operand}{k k' b b':Nat}{ik:IntKind}{h:Int}{xs:List (List D)}{z:List D}(ho:o.op=.slice t x none (some y) none)(ht:bc V.T t=some (e,k',b',z))(hx:ev st x=some (.one (.d (.sl k b xs))))(hy:ev st y=some (.one (.d (.int ik h))))
  (hk:Nat.beq k k'=true) (h0:0≤h) (hm:h.toNat≤xs.length):aR V st o 0=some ⟨.one (.d (.sl k b (xs.take h.toNat))),[],[]⟩:=by
 have e1:Nat.ble h.toNat xs.length=true:=Nat.ble_eq.mpr hm
 have e0:Nat.ble 0 h.toNat=true:=Nat.ble_eq.mpr (Xk _)
 simp only[aR,dg,cL,ho,df,iD,hx,hy,h0,decide_true,Yf,iK,ht,hk,e0,e1,XV,List.drop_zero]
end Go.Abs
namespace Go.Proofs.YtpejdgkaapnekaaGreat
open Go Go.Abs
attribute [local irreducible] aa OkC ak av aq aI
set_option maxRecDepth 10000
def aw(d:Int):List D:=[.int .u32 d]
def fA(l:List Int):D:=.sl 1 4 (l.map aw)
def bJ(n:Nat):D:=fA (dig n)
theorem KW{l:List Int}{p2:List (List D)}{k j:Nat}(hr:p2=(l.map aw).take k)(hk:k≤l.length)(hj:j<k):p2[j]?=some (aw (at_ l j)):=by
 rw[hr,List.getElem?_take_of_lt hj];exact dZ (by omega)
theorem O9(l:List Int)(h:Dg l):CallA Tryz.prog 374 [.one (.d (fA l))] [] (.one (.d (bJ (ag l).toNat))) []:=by
 refine enter af Tryz.func374 rfl (by decide +kernel) rfl fun hok w0 σ0 φ0 M=>?_
 have h1:=(OkD.sl hok.1).1
 clear hok
 simp only[WZ] at h1
 repeat' (first|(refine h1H ?_;(refine h8H ?_;refine s_e envOk J J J (xB J J J J J wB wB) ?_))|(refine h1H ?_;(refine nW ?_;refine s_e envOk J J J (dr J J J J J wB (KW hr hk wB)) ?_))|refine wG ?_|(refine h1H ?_;(refine dv ?_;refine bx J J J J (fun h=>?_) (fun h=>?_)))|(refine h2H ?_;first|refine aj J (fun h=>?_) (fun h=>?_)|refine cu 1 J [] aW (fun (p:Nat×List (List D))=>[(0,.one (.d (.sl 1 4 p.2)))]) (fun (p:Nat×List (List D))=>p.1≤l.length∧p.2.length=p.1∧p.2=(l.map aw).take p.1∧ag (l.take p.1)=ag l) (fun (p:Nat×List (List D))=>p.1) (l.length,l.map aw) (q1Q J) ?_ (fun p ⟨hk,hq,hr,hv⟩=>?_))|(show Exists _;refine Exists.intro ((p.1-1,p.2.take (Int.toNat ((p.2.length:Int)-1)))) ⟨?_,?_,wK,(q1Q J),aW⟩))
 ·exact⟨Xc _,by simp,(WY (by simp)).symm,by simp⟩
 ·have e:((p.2.length:Int)-1).toNat=p.1-1:=by omega
  have h0:(0:Int)<(p.2.length:Int):=Yg ‹decide (_<_)=true›
  have hz:=yU (l:=l) (k:=p.1-1) (by omega) (by rw[← e];simpa using h)
  rw[show p.1-1+1=p.1 by omega] at hz
  refine⟨by show p.1-1≤_;omega,?_,?_,?_⟩
  ·show (p.2.take _).length=p.1-1
   rw[e];simp;omega
  ·show p.2.take _=(l.map aw).take (p.1-1)
   rw[e,hr,List.take_take,Nat.min_eq_left (by omega)]
  ·show ag (l.take (p.1-1))=_
   rw[← hz,hv]
 ·have h0:(0:Int)<(p.2.length:Int):=Yg ‹decide (_<_)=true›
  show p.1-1<p.1
  omega
 ·have e:((p.2.length:Int)-1).toNat=p.1-1:=by omega
  show AV.one (.d (.sl 1 4 p.2))=AV.one (.d (.sl 1 4 ((dig (ag l).toNat).map aw)))
  rw[B4 ‹Dg l› hk hv (.inr (by rw[← e];simpa using h)),hr,List.map_take]
 ·have h0:¬ (0:Int)<(p.2.length:Int):=Yh (by simpa using h)
  show AV.one (.d (.sl 1 4 p.2))=AV.one (.d (.sl 1 4 ((dig (ag l).toNat).map aw)))
  rw[B4 ‹Dg l› hk hv (.inl (by omega)),hr,List.map_take]
theorem yB:dig 1=[1]:=by rw[l8 (by omega)];simp[gL]
theorem WC(n:Nat):CallA Tryz.prog 379 [.one (.d (bJ n))] [] (.one (.d (.bool (n==1)))) []:=by
 obtain⟨hD,hv,hl⟩:=dt n
 refine enter af Tryz.func379 rfl (by decide +kernel) rfl fun hok w0 σ0 φ0 M=>?_
 clear hok
 repeat' (first|refine wG ?_|(refine h1H ?_;(refine dv ?_;refine bx J J J J (fun h=>?_) (fun h=>?_))))
 ·have hlen:(dig n).length=1:=by simp at h;omega
  match hd:dig n,hlen with
  | [d],_ =>
    rw[hd] at hv
    simp only[ag] at hv
    show AV.one (.d (.bool (d==1)))=_
    have e:(d==1)=(n==1):=by
     rw[XR];simp only[beq_iff_eq];omega
    rw[e]
 ·have hlen:(dig n).length≠1:=fun e=>by simp[e] at h
  have e:(n==1)=false:=by
   refine beq_false_of_ne fun hn=>hlen ?_
   rw[hn,yB];rfl
  rw[e]
theorem pd{m n:Nat}(h:(dig m).length<(dig n).length):m<n:=by
 obtain⟨a1,a2,a3⟩:=dt m
 obtain⟨b1,b2,b3⟩:=dt n
 have:=B5 a1 b1 b3 h
 omega
theorem Fc{m n:Nat}{k:Nat}(hl:(dig m).length=(dig n).length)(hk:k<(dig m).length)(he:∀ i,k<i→i<(dig m).length→at_ (dig m) i=at_ (dig n) i)(h:at_ (dig m) k<at_ (dig n) k):m<n:=by
 obtain⟨a1,a2,a3⟩:=dt m
 obtain⟨b1,b2,b3⟩:=dt n
 have:=EE a1 b1 hl hk he h
 omega
theorem KX{m n:Nat}(hl:(dig m).length=(dig n).length)(he:∀ i,i<(dig m).length→at_ (dig m) i=at_ (dig n) i):m=n:=by
 have e:dig m=dig n:=List.ext_getElem hl fun i h1 h2=>by
  have:=he i h1
  simpa[at_,h1,h2] using this
 have a:=(dt m).2.1
 have b:=(dt n).2.1
 rw[e] at a
 omega
def nh(m n:Nat):Int:=if m<n then -1 else if n<m then 1 else 0
theorem qe{m n:Nat}(h:m<n):nh m n=-1:=if_pos h
theorem qf{m n:Nat}(h:n<m):nh m n=1:=by unfold nh;rw[if_neg (by omega),if_pos h]
theorem tz{m n:Nat}(h:m=n):nh m n=0:=by unfold nh;rw[if_neg (by omega),if_neg (by omega)]
theorem CK{a b:List Int}(h:(((a.map aw).length:Int) != ((b.map aw).length:Int))=false):a.length=b.length:=by simp at h;omega
theorem Qq{a b:List Int}(h:(((a.map aw).length:Int) != ((b.map aw).length:Int))=true):a.length≠b.length:=fun e=>by simp[e] at h
theorem Qr{a b:List Int}(h:decide (((a.map aw).length:Int)<((b.map aw).length:Int))=true):a.length<b.length:=by simpa using h
theorem Qs{a b:List Int}(h:decide (((a.map aw).length:Int)<((b.map aw).length:Int))=false):b.length≤a.length:=by simpa using h
theorem xL(m n:Nat):CallA Tryz.prog 369 [.one (.d (bJ m)),.one (.d (bJ n))] [] (.one (.d (.int .i64 (nh m n)))) []:=by
 refine enter af Tryz.func369 rfl (by decide +kernel) rfl fun hok w0 σ0 φ0 M=>?_
 have h1:=(OkD.sl hok.1).1
 clear hok
 simp only[WZ] at h1
 repeat' (first|refine wG ?_|(refine h2H ?_;first|refine aj J (fun h=>?_) (fun h=>?_)|refine cu 6 J [(0,_),(1,_)] (q2Q J J) (fun (p:Int)=>[(5,.one (.d (.int .i64 p)))]) (fun (p:Int)=>-1≤p∧p<((dig m).length:Int)∧(∀ i:Nat,p<(i:Int)→i<(dig m).length→at_ (dig m) i=at_ (dig n) i)) (fun (p:Int)=>(p+1).toNat) ((((dig m).map aw).length:Int)-1) (q1Q J) ?_ (fun p ⟨hk,hk2,hs⟩=>?_))|(show Exists _;refine Exists.intro ((p-1)) ⟨?_,?_,wK,(q1Q J),(q2Q J J)⟩))
 ·rw[qe (pd (Qr h))]
 ·rw[qf (pd (by
   have h2:=Qq ‹_›
   have:=Qs h;omega))]
 ·simp only[WZ];exact⟨by omega,by omega,fun i h2 h3=>by omega⟩
 ·have hl:=CK ‹_›
  have h0:0≤p:=Yg ‹decide (0≤p)=true›
  rw[qe (Fc hl (k:=p.toNat) (by omega) (fun i h2 h3=>hs i (by omega) h3) (Yg h))]
 ·have hl:=CK ‹_›
  have h0:0≤p:=Yg ‹decide (0≤p)=true›
  have hne:at_ (dig m) p.toNat≠at_ (dig n) p.toNat:=by simpa using ‹(at_ (dig m) p.toNat != at_ (dig n) p.toNat)=true›
  have hle:=Yh h
  rw[qf (Fc hl.symm (k:=p.toNat) (by omega) (fun i h2 h3=>(hs i (by omega) (by omega)).symm) (by omega))]
 ·have h0:0≤p:=Yg ‹decide (0≤p)=true›
  have he:at_ (dig m) p.toNat=at_ (dig n) p.toNat:=by simpa using h
  refine⟨by omega,by omega,fun i h2 h3=>?_⟩
  rcases Int.lt_or_le p (i:Int) with h4|h4
  ·exact hs i h4 h3
  ·have:i=p.toNat:=by omega
   rw[this,he]
 ·have h0:0≤p:=Yg ‹decide (0≤p)=true›
  omega
 ·have hl:=CK ‹_›
  have h0:¬ 0≤p:=Yh h
  rw[tz (KX hl fun i h3=>hs i (by omega) h3)]
def LM(a b:Int):AV:=.tup [(false,[.d (.int .u32 a)]),(false,[.d (.int .u32 b)])]
theorem j5(v:Int):IntKind.u32.wrap v=v % 4294967296:=rfl
theorem Bm(v:Int):v.fdiv (2^min (Int.toNat 32) IntKind.u64.bits)=v / 4294967296:=Int.fdiv_eq_ediv_of_nonneg v (by decide)
theorem TF(v:Int):v.fdiv (2^min (Int.toNat 31) IntKind.u32.bits)=v / 2147483648:=Int.fdiv_eq_ediv_of_nonneg v (by decide)
theorem bkm(v:BitVec IntKind.u32.bits):BitVec.ofInt IntKind.u32.bits ((v.toNat:Int) % 4294967296)=v:=by
 have h:v.toNat<4294967296:=v.isLt
 rw[show ((v.toNat:Int) % 4294967296)=(v.toNat:Int) by omega,BitVec.ofInt_natCast,BitVec.ofNat_toNat,BitVec.setWidth_eq]
theorem TG(v:BitVec 32):(v.toNat:Int) % 4294967296 / 2147483648=if v.msb=true then 1 else 0:=by
 have h:v.toNat<4294967296:=v.isLt
 rw[BitVec.msb_eq_decide]
 split
 ·rename_i h2
  have:=Yg h2
  simp at this;omega
 ·rename_i h2
  have:¬ _:=fun hh=>h2 (decide_eq_true hh)
  simp at this;omega
theorem Ia{x:Int}(hx:0≤x∧x<4294967296):((BitVec.ofInt 32 x).toNat:Int)=x:=by
 rw[BitVec.toNat_ofInt];simp;omega
theorem xP{x:Int}(hx:0≤x∧x<4294967296):(BitVec.ofInt 32 x).msb=decide (2147483648≤x):=by
 have h:=Ia hx
 rw[BitVec.msb_eq_decide,XR]
 simp only[Yi]
 simp
 omega
theorem DE(X Y E:BitVec 32):(((((BitVec.ofInt 32 4294967295 ^^^ X) &&& Y) ||| ((BitVec.ofInt 32 4294967295 ^^^ (X ^^^ Y)) &&& E)).toNat:Int)) % 4294967296 / 2147483648=if ((!X.msb&&Y.msb)||(!(X.msb ^^ Y.msb)&&E.msb))=true then 1 else 0:=by
 rw[TG]
 have h:(BitVec.ofInt 32 4294967295).msb=true:=by decide
 simp only[BitVec.msb_or,BitVec.msb_and,BitVec.msb_xor,h,Bool.true_xor]
theorem Bz(x y c:Int)(hx:0≤x∧x<4294967296)(hy:0≤y∧y<4294967296)(hc:0≤c∧c≤1):CallA Tryz.prog 376 [.one (.d (.int .u32 x)),.one (.d (.int .u32 y)),.one (.d (.int .u32 c))] [] (LM ((x+y+c) % 4294967296) ((x+y+c) / 4294967296)) []:=by
 refine enter af Tryz.func376 rfl (by decide +kernel) rfl fun hok w0 σ0 φ0 M=>?_
 clear hok
 repeat' (first|refine wG ?_)
 rw[j5,j5,Bm,show (x+y+c) / 4294967296 % 4294967296=(x+y+c) / 4294967296 by omega]
 rfl
theorem FQ(x y c:Int)(hx:0≤x∧x<4294967296)(hy:0≤y∧y<4294967296)(hc:0≤c∧c≤1):CallA Tryz.prog 384 [.one (.d (.int .u32 x)),.one (.d (.int .u32 y)),.one (.d (.int .u32 c))] [] (LM ((x-y-c) % 4294967296) (if x<y+c then 1 else 0)) []:=by
 refine enter af Tryz.func384 rfl (by decide +kernel) rfl fun hok w0 σ0 φ0 M=>?_
 clear hok
 repeat' (first|refine wG ?_)
 simp only[j5,TF,bkm]
 have hd:(((x-y) % 4294967296-c) % 4294967296)=(x-y-c) % 4294967296:=by omega
 rw[hd]
 have hb:=DE (BitVec.ofInt 32 x) (BitVec.ofInt 32 y) (BitVec.ofInt 32 ((x-y-c) % 4294967296))
 rw[xP hx,xP hy,xP (by omega)] at hb
 refine congrArg (fun b=>AV.tup [(false,[.d (.int .u32 ((x-y-c) % 4294967296))]),(false,[.d (.int .u32 b)])]) (hb.trans ?_)
 by_cases h1:2147483648≤x<;>by_cases h2:2147483648≤y<;>by_cases h3:2147483648≤(x-y-c) % 4294967296<;>by_cases h4:x<y+c<;>simp[h1,h2,h3,h4]<;>omega
theorem oQ(ys:List (List D))(l:List Int)(m:Nat)(hy:ys=l.map aw)(h:Dg l)(hm:(ag l).toNat=m):CallA Tryz.prog 374 [.one (.d (.sl 1 4 ys))] [] (.one (.d (bJ m))) []:=by
 subst hy;subst hm;exact O9 l h
theorem Pd{a b:Int}(ha:0≤a∧a<4294967296)(hb:0≤b∧b<4294967296):Dg [a,b]:=fun d hd=>by
 rcases Xo.1 hd with rfl|hd
 ·exact ha
 ·rw[X6.1 hd];exact hb
theorem O7(n:Nat)(hn:n<18446744073709551616):CallA Tryz.prog 370 [.one (.d (.int .u64 n))] [] (.one (.d (bJ n))) []:=by
 have hD:Dg [IntKind.u32.wrap (n:Int),IntKind.u32.wrap ((n:Int).fdiv (2^min (Int.toNat 32) IntKind.u64.bits))]:=Pd (by rw[j5];omega) (by rw[j5];omega)
 have hN:(ag [IntKind.u32.wrap (n:Int),IntKind.u32.wrap ((n:Int).fdiv (2^min (Int.toNat 32) IntKind.u64.bits))]).toNat=n:=by
  simp only[ag,j5,Bm];omega
 refine enter af Tryz.func370 rfl (by decide +kernel) rfl fun hok w0 σ0 φ0 M=>?_
 clear hok
 repeat' (first|(refine h1H ?_;(refine h0H ?_;refine eP 16 [0] J J J J J J J J J (oQ _ [IntKind.u32.wrap (n:Int),IntKind.u32.wrap ((n:Int).fdiv (2^min (Int.toNat 32) IntKind.u64.bits))] n J hD hN) J J J ?_))|refine wG ?_)
 all_goals rfl
theorem Ib{X Y L:List Int}{k:Nat}{c:Int}(hX:k<X.length)(hL:k<L.length)(h:ag (L.take k)+pw k*c=ag (X.take k)+ag (Y.take k)) :
  ag ((L.set k ((at_ X k+at_ Y k+c) % 4294967296)).take (k+1))+pw (k+1)*((at_ X k+at_ Y k+c) / 4294967296)=ag (X.take (k+1))+ag (Y.take (k+1)):=by
 have hs:k<(L.set k ((at_ X k+at_ Y k+c) % 4294967296)).length:=by simpa using hL
 rw[bK hs,bK hX,List.take_set_of_le (Xc _),dX]
 have e1:at_ (L.set k ((at_ X k+at_ Y k+c) % 4294967296)) k=(at_ X k+at_ Y k+c) % 4294967296:=by simp[at_,hL]
 have e2:ag (Y.take (k+1))=ag (Y.take k)+pw k*at_ Y k:=by
  by_cases hY:k<Y.length
  ·exact bK hY
  ·have:at_ Y k=0:=by simp[at_,Xi,List.getElem?_eq_none (Yp hY)]
   rw[this,WY (by omega),WY (by omega)];simp
 rw[e1,e2]
 have e3:(at_ X k+at_ Y k+c) % 4294967296+4294967296*((at_ X k+at_ Y k+c) / 4294967296)=at_ X k+at_ Y k+c:=by omega
 generalize (at_ X k+at_ Y k+c) % 4294967296=r at e3 ⊢
 generalize (at_ X k+at_ Y k+c) / 4294967296=q at e3 ⊢
 have e4:pw k*r+4294967296*pw k*q=pw k*(at_ X k+at_ Y k+c):=by
  rw[← e3,XS,XI 4294967296 (pw k),Xx]
 simp only[XS] at e4 h ⊢
 omega
theorem qj{l:List Int}{k:Nat}(h:l.length≤k):at_ l k=0:=by simp[at_,Xi,List.getElem?_eq_none h]
theorem rb{X Y L:List Int}{k:Nat}{c b:Int}{R:List (List D)}(hX:Dg X)(hlt:k<X.length)(hb:at_ Y k=b)(hb2:0≤b∧b<4294967296)(hr:R=L.map aw)(hl2:R.length=X.length+1)(hL:Dg L)(hc:0≤c∧c≤1)
  (hv:ag (L.take k)+pw k*c=ag (X.take k)+ag (Y.take k)) :
  k+1≤X.length∧R.set k [.int .u32 ((at_ X k+b+c) % 4294967296)]=(L.set k ((at_ X k+b+c) % 4294967296)).map aw∧(R.set k [.int .u32 ((at_ X k+b+c) % 4294967296)]).length=X.length+1∧Dg (L.set k ((at_ X k+b+c) % 4294967296)) ∧
  (0≤(at_ X k+b+c) / 4294967296∧(at_ X k+b+c) / 4294967296≤1)∧ag ((L.set k ((at_ X k+b+c) % 4294967296)).take (k+1))+pw (k+1)*((at_ X k+b+c) / 4294967296)=ag (X.take (k+1))+ag (Y.take (k+1)):=by
 have hLl:L.length=X.length+1:=by rw[hr] at hl2;simpa using hl2
 have h1:=hX.at hlt
 subst hb
 refine⟨hlt,?_,by simpa using hl2,hL.set (by omega),by omega,Ib hlt (by omega) hv⟩
 rw[hr,XW];rfl
theorem En{X L:List Int}{c:Int}{R:List (List D)}(hr:R=L.map aw)(hl2:R.length=X.length+1):(R.set (((X.map aw).length:Int).toNat) [.int .u32 c]).take (X.length+1)=(L.set X.length c).map aw:=by
 rw[WY (by simp;omega),WZ,Xr,hr,XW];rfl
theorem tA{X Y L:List Int}{k:Nat}{c:Int}(hk:X.length≤k)(hk2:k≤X.length)(hxy:Y.length≤X.length)(hLl:L.length=X.length+1)(hL:Dg L)(hc:0≤c∧c≤1)(hv:ag (L.take k)+pw k*c=ag (X.take k)+ag (Y.take k)) :
  Dg (L.set X.length c)∧(ag (L.set X.length c)).toNat=(ag X+ag Y).toNat:=by
 have e:k=X.length:=by omega
 subst e
 refine⟨hL.set (by omega),?_⟩
 have hs:X.length<(L.set X.length c).length:=by simp;omega
 have h1:=bK hs
 rw[WY (by simp;omega),List.take_set_of_le (Xc _)] at h1
 have e1:at_ (L.set X.length c) X.length=c:=by simp[at_,hLl]
 rw[e1,hv,WY (Xc _),WY hxy] at h1
 rw[h1]
theorem Q9(X Y:List Int)(hX:Dg X)(hY:Dg Y)(hn:X.length≤400)(hxy:Y.length≤X.length):CallA Tryz.prog 356 [.one (.d (fA X)),.one (.d (fA Y))] [] (.one (.d (bJ (ag X+ag Y).toNat))) []:=by
 have zr:(0:Int)≤0∧(0:Int)<4294967296:=⟨by omega,by omega⟩
 have hsw:decide (((X.map aw).length:Int)<((Y.map aw).length:Int))=false:=by simpa using hxy
 refine enter af Tryz.func356 rfl (by decide +kernel) rfl fun hok w0 σ0 φ0 M=>?_
 clear hok
 repeat' (first|(refine h1H ?_;(refine h6H ?_;refine eG envOk 10 J J J (bZ (n:=X.length+1) J J J J J (by simp) (by simp) (by omega) (W6 J)) J J ?_))|(refine h1H ?_;(refine h0H ?_;first|refine eP 40 [10] J J J J J J J J J (oQ _ (p.2.2.1.set X.length p.2.1) _ (En hr hl2) (tA (by simpa using h) hk hxy (by rw[hr] at hl2;simpa using hl2) hL hc hv).1 (tA (by simpa using h) hk hxy (by rw[hr] at hl2;simpa using hl2) hL hc hv).2) J J J ?_|refine ae J J J J J J J J (Bz _ _ _ (hX.at wB) (hY.at wB) hc) J ?_|refine ae J J J J J J J J (Bz _ _ _ (hX.at wB) zr hc) J ?_))|refine wG ?_|(refine h2H ?_;first|refine aj J (fun h=>?_) (fun h=>?_)|refine cm 6 J [(0,_),(1,_),(5,_),(21,_)] (q4Q J J J J) (fun (p:Nat×Int×List Int×List (List D))=>[(22,.one (.d (.int .i64 (p.1:Int)))),(6,.one (.d (.int .u32 p.2.1)))]) (fun (p:Nat×Int×List Int×List (List D))=>[(10,.row 1 4 p.2.2.2)]) (fun (p:Nat×Int×List Int×List (List D))=>p.1≤X.length∧p.2.2.2=p.2.2.1.map aw∧p.2.2.2.length=X.length+1∧Dg p.2.2.1∧(0≤p.2.1∧p.2.1≤1)∧ag (p.2.2.1.take p.1)+pw p.1*p.2.1=ag (X.take p.1)+ag (Y.take p.1)) (fun (p:Nat×Int×List Int×List (List D))=>X.length-p.1) (0,0,List.replicate (X.length+1) 0,List.replicate (X.length+1) [.int .u32 0]) (q2Q J J) wK ?_ (fun p ⟨hk,hr,hl2,hL,hc,hv⟩=>?_))|(show Exists _;first|refine Exists.intro ((p.1+1,(at_ X p.1+at_ Y p.1+p.2.1) / 4294967296,p.2.2.1.set p.1 ((at_ X p.1+at_ Y p.1+p.2.1) % 4294967296),p.2.2.2.set p.1 [.int .u32 ((at_ X p.1+at_ Y p.1+p.2.1) % 4294967296)])) ⟨?_,?_,wK,(q2Q J J),(q4Q J J J J)⟩|refine Exists.intro ((p.1+1,(at_ X p.1+0+p.2.1) / 4294967296,p.2.2.1.set p.1 ((at_ X p.1+0+p.2.1) % 4294967296),p.2.2.2.set p.1 [.int .u32 ((at_ X p.1+0+p.2.1) % 4294967296)])) ⟨?_,?_,wK,(q2Q J J),(q4Q J J J J)⟩))
 ·exact⟨Xk _,by simp[aw],by simp,Dg.zeros _,⟨Int.le_refl _,Int.zero_le_ofNat 1⟩,by simp[ag]⟩
 ·exact rb hX (by simpa using ‹decide ((p.1:Int)<((X.map aw).length:Int))=true›) rfl (hY.at (by simpa using h)) hr hl2 hL hc hv
 ·have hlt:p.1<X.length:=by simpa using ‹decide ((p.1:Int)<((X.map aw).length:Int))=true›
  show X.length-(p.1+1)<X.length-p.1
  omega
 ·exact rb hX (by simpa using ‹decide ((p.1:Int)<((X.map aw).length:Int))=true›) (qj (by simpa using h)) zr hr hl2 hL hc hv
 ·have hlt:p.1<X.length:=by simpa using ‹decide ((p.1:Int)<((X.map aw).length:Int))=true›
  show X.length-(p.1+1)<X.length-p.1
  omega
 ·rfl
theorem Rj(X Y:List Int)(hY:Dg Y)(hX:Dg X)(hn:Y.length≤400)(hlt0:X.length<Y.length):CallA Tryz.prog 356 [.one (.d (fA X)),.one (.d (fA Y))] [] (.one (.d (bJ (ag Y+ag X).toNat))) []:=by
 have zr:(0:Int)≤0∧(0:Int)<4294967296:=⟨by omega,by omega⟩
 have hxy:X.length≤Y.length:=by omega
 have hsw:decide (((X.map aw).length:Int)<((Y.map aw).length:Int))=true:=by simpa using hlt0
 refine enter af Tryz.func356 rfl (by decide +kernel) rfl fun hok w0 σ0 φ0 M=>?_
 clear hok
 repeat' (first|(refine h1H ?_;(refine h6H ?_;refine eG envOk 10 J J J (bZ (n:=Y.length+1) J J J J J (by simp) (by simp) (by omega) (W6 J)) J J ?_))|(refine h1H ?_;(refine h0H ?_;first|refine eP 40 [10] J J J J J J J J J (oQ _ (p.2.2.1.set Y.length p.2.1) _ (En hr hl2) (tA (by simpa using h) hk hxy (by rw[hr] at hl2;simpa using hl2) hL hc hv).1 (tA (by simpa using h) hk hxy (by rw[hr] at hl2;simpa using hl2) hL hc hv).2) J J J ?_|refine ae J J J J J J J J (Bz _ _ _ (hY.at wB) (hX.at wB) hc) J ?_|refine ae J J J J J J J J (Bz _ _ _ (hY.at wB) zr hc) J ?_))|refine wG ?_|(refine h2H ?_;first|refine aj J (fun h=>?_) (fun h=>?_)|refine cm 6 J [(0,_),(1,_),(5,_),(21,_)] (q4Q J J J J) (fun (p:Nat×Int×List Int×List (List D))=>[(22,.one (.d (.int .i64 (p.1:Int)))),(6,.one (.d (.int .u32 p.2.1)))]) (fun (p:Nat×Int×List Int×List (List D))=>[(10,.row 1 4 p.2.2.2)]) (fun (p:Nat×Int×List Int×List (List D))=>p.1≤Y.length∧p.2.2.2=p.2.2.1.map aw∧p.2.2.2.length=Y.length+1∧Dg p.2.2.1∧(0≤p.2.1∧p.2.1≤1)∧ag (p.2.2.1.take p.1)+pw p.1*p.2.1=ag (Y.take p.1)+ag (X.take p.1)) (fun (p:Nat×Int×List Int×List (List D))=>Y.length-p.1) (0,0,List.replicate (Y.length+1) 0,List.replicate (Y.length+1) [.int .u32 0]) (q2Q J J) wK ?_ (fun p ⟨hk,hr,hl2,hL,hc,hv⟩=>?_))|(show Exists _;first|refine Exists.intro ((p.1+1,(at_ Y p.1+at_ X p.1+p.2.1) / 4294967296,p.2.2.1.set p.1 ((at_ Y p.1+at_ X p.1+p.2.1) % 4294967296),p.2.2.2.set p.1 [.int .u32 ((at_ Y p.1+at_ X p.1+p.2.1) % 4294967296)])) ⟨?_,?_,wK,(q2Q J J),(q4Q J J J J)⟩|refine Exists.intro ((p.1+1,(at_ Y p.1+0+p.2.1) / 4294967296,p.2.2.1.set p.1 ((at_ Y p.1+0+p.2.1) % 4294967296),p.2.2.2.set p.1 [.int .u32 ((at_ Y p.1+0+p.2.1) % 4294967296)])) ⟨?_,?_,wK,(q2Q J J),(q4Q J J J J)⟩))
 ·exact⟨Xk _,by simp[aw],by simp,Dg.zeros _,⟨Int.le_refl _,Int.zero_le_ofNat 1⟩,by simp[ag]⟩
 ·exact rb hY (by simpa using ‹decide ((p.1:Int)<((Y.map aw).length:Int))=true›) rfl (hX.at (by simpa using h)) hr hl2 hL hc hv
 ·have hlt:p.1<Y.length:=by simpa using ‹decide ((p.1:Int)<((Y.map aw).length:Int))=true›
  show Y.length-(p.1+1)<Y.length-p.1
  omega
 ·exact rb hY (by simpa using ‹decide ((p.1:Int)<((Y.map aw).length:Int))=true›) (qj (by simpa using h)) zr hr hl2 hL hc hv
 ·have hlt:p.1<Y.length:=by simpa using ‹decide ((p.1:Int)<((Y.map aw).length:Int))=true›
  show Y.length-(p.1+1)<Y.length-p.1
  omega
 ·rfl
theorem Pe(m n:Nat)(hm:(dig m).length≤400)(hn:(dig n).length≤400):CallA Tryz.prog 356 [.one (.d (bJ m)),.one (.d (bJ n))] [] (.one (.d (bJ (m+n)))) []:=by
 obtain⟨a1,a2,a3⟩:=dt m
 obtain⟨b1,b2,b3⟩:=dt n
 rcases XM (dig m).length (dig n).length with h|h
 ·have:=Rj (dig m) (dig n) b1 a1 hn h
  rwa [a2,b2,show ((n:Int)+(m:Int)).toNat=m+n by omega] at this
 ·have:=Q9 (dig m) (dig n) a1 b1 hm h
  rwa [a2,b2,show ((m:Int)+(n:Int)).toNat=m+n by omega] at this
theorem Dp{X Y L:List Int}{k:Nat}{c b:Int}{R:List (List D)}(hX:Dg X)(hlt:k<X.length)(hb:at_ Y k=b)(hb2:0≤b∧b<4294967296)(hr:R=L.map aw)(hl2:R.length=X.length)(hL:Dg L)(hc:0≤c∧c≤1)
  (hv:ag (L.take k)=ag (X.take k)-ag (Y.take k)+pw k*c) :
  k+1≤X.length∧R.set k [.int .u32 ((at_ X k-b-c) % 4294967296)]=(L.set k ((at_ X k-b-c) % 4294967296)).map aw∧(R.set k [.int .u32 ((at_ X k-b-c) % 4294967296)]).length=X.length∧Dg (L.set k ((at_ X k-b-c) % 4294967296)) ∧
  (0≤(if at_ X k<b+c then (1:Int) else 0)∧(if at_ X k<b+c then (1:Int) else 0)≤1)∧ag ((L.set k ((at_ X k-b-c) % 4294967296)).take (k+1))=ag (X.take (k+1))-ag (Y.take (k+1))+pw (k+1)*(if at_ X k<b+c then (1:Int) else 0):=by
 have hLl:L.length=X.length:=by rw[hr] at hl2;simpa using hl2
 have h1:=hX.at hlt
 subst hb
 refine⟨hlt,?_,by simpa using hl2,hL.set (by omega),by split<;>omega,?_⟩
 ·rw[hr,XW];rfl
 have hs:k<(L.set k ((at_ X k-at_ Y k-c) % 4294967296)).length:=by simp;omega
 have hLk:k<L.length:=by omega
 rw[bK hs,bK hlt,List.take_set_of_le (Xc _),dX]
 have e1:at_ (L.set k ((at_ X k-at_ Y k-c) % 4294967296)) k=(at_ X k-at_ Y k-c) % 4294967296:=by simp[at_,hLk]
 have e2:ag (Y.take (k+1))=ag (Y.take k)+pw k*at_ Y k:=by
  by_cases hY:k<Y.length
  ·exact bK hY
  ·rw[qj (Yp hY),WY (by omega),WY (by omega)];simp
 rw[e1,e2,hv]
 have e3:(at_ X k-at_ Y k-c) % 4294967296=at_ X k-at_ Y k-c+4294967296*(if at_ X k<at_ Y k+c then (1:Int) else 0):=by split<;>omega
 rw[e3]
 generalize (if at_ X k<at_ Y k+c then (1:Int) else 0)=q
 have e4:pw k*(at_ X k-at_ Y k-c+4294967296*q)=pw k*at_ X k-pw k*at_ Y k-pw k*c+4294967296*pw k*q:=by
  simp only[XS,Int.mul_sub]
  rw[← Xx,XI (pw k) 4294967296]
 rw[e4]
 omega
theorem Om{X Y L:List Int}{k:Nat}{c:Int}(hk:X.length≤k)(hk2:k≤X.length)(hxy:Y.length≤X.length)(hle:ag Y≤ag X)(hLl:L.length=X.length)(hX:Dg X)(hL:Dg L)(hc:0≤c∧c≤1)(hv:ag (L.take k)=ag (X.take k)-ag (Y.take k)+pw k*c):(ag L).toNat=(ag X-ag Y).toNat:=by
 have e:k=X.length:=by omega
 subst e
 rw[WY (by omega),WY (Xc _),WY hxy] at hv
 have h1:=eo hL
 rw[hLl] at h1
 have hc':c=0∨c=1:=by omega
 rcases hc' with rfl|rfl
 ·rw[hv];simp
 ·exfalso;rw[Int.mul_one] at hv;omega
theorem On{X L:List Int}{R:List (List D)}(hr:R=L.map aw)(hl2:R.length=X.length):R.take X.length=L.map aw:=by
 rw[WY (by omega),hr]
theorem Sh(X Y:List Int)(hX:Dg X)(hY:Dg Y)(hn:X.length≤400)(hxy:Y.length≤X.length)(hle:ag Y≤ag X):CallA Tryz.prog 377 [.one (.d (fA X)),.one (.d (fA Y))] [] (.one (.d (bJ (ag X-ag Y).toNat))) []:=by
 have zr:(0:Int)≤0∧(0:Int)<4294967296:=⟨by omega,by omega⟩
 refine enter af Tryz.func377 rfl (by decide +kernel) rfl fun hok w0 σ0 φ0 M=>?_
 clear hok
 repeat' (first|(refine h1H ?_;(refine h6H ?_;refine eG envOk 10 J J J (bZ (n:=X.length) J J J J J (by simp) (by simp) (by omega) (W6 J)) J J ?_))|(refine h1H ?_;(refine h0H ?_;first|refine eP 40 [10] J J J J J J J J J (oQ _ p.2.2.1 _ (On hr hl2) hL (Om (by simpa using h) hk hxy hle (by rw[hr] at hl2;simpa using hl2) hX hL hc hv)) J J J ?_|refine ae J J J J J J J J (FQ _ _ _ (hX.at wB) (hY.at wB) hc) J ?_|refine ae J J J J J J J J (FQ _ _ _ (hX.at wB) zr hc) J ?_))|refine wG ?_|(refine h2H ?_;first|refine aj J (fun h=>?_) (fun h=>?_)|refine cm 4 J [(0,_),(1,_),(5,_),(13,_)] (q4Q J J J J) (fun (p:Nat×Int×List Int×List (List D))=>[(14,.one (.d (.int .i64 (p.1:Int)))),(6,.one (.d (.int .u32 p.2.1)))]) (fun (p:Nat×Int×List Int×List (List D))=>[(10,.row 1 4 p.2.2.2)]) (fun (p:Nat×Int×List Int×List (List D))=>p.1≤X.length∧p.2.2.2=p.2.2.1.map aw∧p.2.2.2.length=X.length∧Dg p.2.2.1∧(0≤p.2.1∧p.2.1≤1)∧ag (p.2.2.1.take p.1)=ag (X.take p.1)-ag (Y.take p.1)+pw p.1*p.2.1) (fun (p:Nat×Int×List Int×List (List D))=>X.length-p.1) (0,0,List.replicate X.length 0,List.replicate X.length [.int .u32 0]) (q2Q J J) wK ?_ (fun p ⟨hk,hr,hl2,hL,hc,hv⟩=>?_))|(show Exists _;first|refine Exists.intro ((p.1+1,(if at_ X p.1<at_ Y p.1+p.2.1 then 1 else 0),p.2.2.1.set p.1 ((at_ X p.1-at_ Y p.1-p.2.1) % 4294967296),p.2.2.2.set p.1 [.int .u32 ((at_ X p.1-at_ Y p.1-p.2.1) % 4294967296)])) ⟨?_,?_,wK,(q2Q J J),(q4Q J J J J)⟩|refine Exists.intro ((p.1+1,(if at_ X p.1<0+p.2.1 then 1 else 0),p.2.2.1.set p.1 ((at_ X p.1-0-p.2.1) % 4294967296),p.2.2.2.set p.1 [.int .u32 ((at_ X p.1-0-p.2.1) % 4294967296)])) ⟨?_,?_,wK,(q2Q J J),(q4Q J J J J)⟩))
 ·exact⟨Xk _,by simp[aw],by simp,Dg.zeros _,⟨Int.le_refl _,Int.zero_le_ofNat 1⟩,by simp[ag]⟩
 ·exact Dp hX (by simpa using ‹decide ((p.1:Int)<((X.map aw).length:Int))=true›) rfl (hY.at (by simpa using h)) hr hl2 hL hc hv
 ·have hlt:p.1<X.length:=by simpa using ‹decide ((p.1:Int)<((X.map aw).length:Int))=true›
  show X.length-(p.1+1)<X.length-p.1
  omega
 ·exact Dp hX (by simpa using ‹decide ((p.1:Int)<((X.map aw).length:Int))=true›) (qj (by simpa using h)) zr hr hl2 hL hc hv
 ·have hlt:p.1<X.length:=by simpa using ‹decide ((p.1:Int)<((X.map aw).length:Int))=true›
  show X.length-(p.1+1)<X.length-p.1
  omega
 ·rfl
theorem Qu(m n:Nat)(hm:(dig m).length≤400)(h:n≤m):CallA Tryz.prog 377 [.one (.d (bJ m)),.one (.d (bJ n))] [] (.one (.d (bJ (m-n)))) []:=by
 obtain⟨a1,a2,a3⟩:=dt m
 obtain⟨b1,b2,b3⟩:=dt n
 have hl:(dig n).length≤(dig m).length:=by
  refine Yp fun hc=>?_
  have:=pd hc;omega
 have:=Sh (dig m) (dig n) a1 b1 hm hl (by omega)
 rwa [a2,b2,show ((m:Int)-(n:Int)).toNat=m-n by omega] at this
def yA(c x y o:Int):Int:=IntKind.u64.wrap (c+IntKind.u64.wrap (IntKind.u64.wrap (IntKind.u64.wrap x*IntKind.u64.wrap y)+IntKind.u64.wrap o))
theorem Cl{x y:Int}(hx:0≤x∧x<4294967296)(hy:0≤y∧y<4294967296):0≤x*y∧x*y≤18446744065119617025:=by
 have h1:x≤4294967295:=by omega
 have h2:y≤4294967295:=by omega
 exact⟨Int.mul_nonneg hx.1 hy.1,Int.le_trans (Int.mul_le_mul h1 h2 hy.1 (by omega)) (by decide)⟩
theorem ed{v:Int}(h0:0≤v)(h1:v≤18446744073709551615):IntKind.u64.wrap v=v:=by
 show v % 18446744073709551616=v
 omega
theorem NV{c x y o:Int}(hc:0≤c∧c<4294967296)(hx:0≤x∧x<4294967296)(hy:0≤y∧y<4294967296)(ho:0≤o∧o<4294967296):yA c x y o=c+x*y+o∧0≤c+x*y+o∧c+x*y+o≤18446744073709551615:=by
 have h:=Cl hx hy
 unfold yA
 rw[ed hx.1 (by omega),ed hy.1 (by omega),ed ho.1 (by omega),ed h.1 (by omega),ed (v:=x*y+o) (by omega) (by omega),ed (by omega) (by omega)]
 omega
theorem fH{l:List Int}{k t:Nat}{x:Int}(h:t≠k):at_ (l.set k x) t=at_ l t:=by
 simp[at_,Xi,List.getElem?_set,Ne.symm h]
theorem KV{X Y L:List Int}{R:List (List D)}{i j:Nat}{c V T:Int}(hT:T=yA c (at_ X i) (at_ Y j) (at_ L (i+j)))(hX:Dg X)(hY:Dg Y)(hi:i<X.length)(hj:j<Y.length)(hr:R=L.map aw)(hl:R.length=X.length+Y.length)(hL:Dg L)(hc:0≤c∧c<4294967296)
  (hz:∀ t,i+Y.length≤t→at_ L t=0) (hv:ag L+pw (i+j)*c=V+pw i*(at_ X i*ag (Y.take j))) :
  j+1≤Y.length∧R.set (i+j) [.int .u32 (IntKind.u32.wrap T)]=(L.set (i+j) (IntKind.u32.wrap T)).map aw∧(R.set (i+j) [.int .u32 (IntKind.u32.wrap T)]).length=X.length+Y.length∧Dg (L.set (i+j) (IntKind.u32.wrap T)) ∧
  (0≤T.fdiv (2^min (Int.toNat 32) IntKind.u64.bits)∧T.fdiv (2^min (Int.toNat 32) IntKind.u64.bits)<4294967296)∧(∀ t,i+Y.length≤t→at_ (L.set (i+j) (IntKind.u32.wrap T)) t=0) ∧
  ag (L.set (i+j) (IntKind.u32.wrap T))+pw (i+(j+1))*T.fdiv (2^min (Int.toNat 32) IntKind.u64.bits)=V+pw i*(at_ X i*ag (Y.take (j+1))):=by
 have hLl:L.length=X.length+Y.length:=by rw[hr] at hl;simpa using hl
 have hk:i+j<L.length:=by omega
 obtain⟨e,h0,h1⟩:=NV hc (hX.at hi) (hY.at hj) (hL.at hk)
 rw[← hT] at e
 rw[j5,Bm]
 refine⟨hj,by rw[hr,XW];rfl,by simpa using hl,hL.set (by omega),by omega,fun t ht=>by rw[fH (by omega)];exact hz t ht,?_⟩
 rw[l9 hk,bK hj,show i+(j+1)=(i+j)+1 by omega,dX]
 have e3:T % 4294967296+4294967296*(T / 4294967296)=T:=by omega
 generalize T % 4294967296=r at e3 ⊢
 generalize T / 4294967296=q at e3 ⊢
 have e4:pw (i+j)*r+4294967296*pw (i+j)*q=pw (i+j)*c+pw (i+j)*(at_ X i*at_ Y j)+pw (i+j)*at_ L (i+j):=by
  rw[← XS,← XS,← e,← e3,XS,XI 4294967296 (pw (i+j)),Xx]
 have e5:pw i*(at_ X i*(ag (Y.take j)+pw j*at_ Y j))=pw i*(at_ X i*ag (Y.take j))+pw (i+j)*(at_ X i*at_ Y j):=by
  rw[XS,XS,jj,Xx (pw i) (pw j),Int.mul_left_comm (at_ X i) (pw j)]
 rw[e5,Int.mul_sub]
 omega
theorem NW{X Y L:List Int}{R:List (List D)}{i j:Nat}{c V:Int}(hX:Dg X)(hY:Dg Y)(hi:i<X.length)(hj:j≤Y.length)(hj2:Y.length≤j)(hr:R=L.map aw)(hl:R.length=X.length+Y.length)(hL:Dg L)(hc:0≤c∧c<4294967296)
  (hz:∀ t,i+Y.length≤t→at_ L t=0) (hV:V=ag (X.take i)*ag Y) (hv:ag L+pw (i+j)*c=V+pw i*(at_ X i*ag (Y.take j))) :
  i+1≤X.length∧R.set (i+(Y.map aw).length) [.int .u32 c]=(L.set (i+Y.length) c).map aw∧(R.set (i+(Y.map aw).length) [.int .u32 c]).length=X.length+Y.length∧Dg (L.set (i+Y.length) c) ∧
  (∀ t,i+1+Y.length≤t→at_ (L.set (i+Y.length) c) t=0)∧ag (L.set (i+Y.length) c)=ag (X.take (i+1))*ag Y:=by
 have hLl:L.length=X.length+Y.length:=by rw[hr] at hl;simpa using hl
 have e:j=Y.length:=by omega
 subst e
 rw[WZ]
 refine⟨hi,by rw[hr,XW];rfl,by simpa using hl,hL.set hc,fun t ht=>by rw[fH (by omega)];exact hz t (by omega),?_⟩
 rw[l9 (by omega),hz _ (Xc _),bK hi,Int.sub_zero,hv,hV,WY (Xc _),Int.add_mul,Xx]
theorem xN{n:Nat}{L:List Int}{R:List (List D)}(hr:R=L.map aw)(hl:R.length=n):R.take n=L.map aw:=by rw[WY (by omega),hr]
theorem NX{X Y L:List Int}{k:Nat}(hv:ag L=ag (X.take k)*ag Y)(hk:k≤X.length)(h:X.length≤k):(ag L).toNat=(ag X*ag Y).toNat:=by
 rw[hv,WY h]
set_option maxHeartbeats 1000000 in
theorem RN(X Y:List Int)(hX:Dg X)(hY:Dg Y)(hn:X.length≤400)(hm:Y.length≤400):CallA Tryz.prog 361 [.one (.d (fA X)),.one (.d (fA Y))] [] (.one (.d (bJ (ag X*ag Y).toNat))) []:=by
 refine enter af Tryz.func361 rfl (by decide +kernel) rfl fun hok w0 σ0 φ0 M=>?_
 clear hok
 repeat' (first|(refine h1H ?_;(refine h6H ?_;refine eG envOk 10 J J J (bZ (n:=X.length+Y.length) J J J J J (by simp) (by simp) (by omega) (W6 J)) J J ?_))|(refine h1H ?_;(refine h0H ?_;refine eP 40 [10] J J J J J J J J J (oQ _ p.2.1 _ (xN hr hl2) hL (NX hv hk (by simpa using h))) J J J ?_))|refine wG ?_|(refine h2H ?_;first|refine aj J (fun h=>?_) (fun h=>?_)|refine cm 7 J [(1,_),(5,_),(6,_),(7,_),(17,_),(18,_),(19,_),(24,_),(25,_)] (q9Q J J J J J J J J J) (fun (q:Nat×Int×List Int×List (List D))=>[(26,.one (.d (.int .i64 (q.1:Int)))),(8,.one (.d (.int .u64 q.2.1)))]) (fun (q:Nat×Int×List Int×List (List D))=>[(10,.row 1 4 q.2.2.2)]) (fun (q:Nat×Int×List Int×List (List D))=>q.1≤Y.length∧q.2.2.2=q.2.2.1.map aw∧q.2.2.2.length=X.length+Y.length∧Dg q.2.2.1∧(0≤q.2.1∧q.2.1<4294967296)∧(∀ t,p.1+Y.length≤t→at_ q.2.2.1 t=0)∧ag q.2.2.1+pw (p.1+q.1)*q.2.1=ag p.2.1+pw p.1*(at_ X p.1*ag (Y.take q.1))) (fun (q:Nat×Int×List Int×List (List D))=>Y.length-q.1) (0,0,p.2.1,p.2.2) (q2Q J J) wK ?_ (fun q ⟨hqk,hqr,hql,hqL,hqc,hqz,hqv⟩=>?_)|refine cm 3 J [(1,_),(5,_),(17,_),(18,_)] (q4Q J J J J) (fun (p:Nat×List Int×List (List D))=>[(19,.one (.d (.int .i64 (p.1:Int))))]) (fun (p:Nat×List Int×List (List D))=>[(10,.row 1 4 p.2.2)]) (fun (p:Nat×List Int×List (List D))=>p.1≤X.length∧p.2.2=p.2.1.map aw∧p.2.2.length=X.length+Y.length∧Dg p.2.1∧(∀ t,p.1+Y.length≤t→at_ p.2.1 t=0)∧ag p.2.1=ag (X.take p.1)*ag Y) (fun (p:Nat×List Int×List (List D))=>X.length-p.1) (0,List.replicate (X.length+Y.length) 0,List.replicate (X.length+Y.length) [.int .u32 0]) (q1Q J) wK ?_ (fun p ⟨hk,hr,hl2,hL,hz,hv⟩=>?_))|(show Exists _;first|refine Exists.intro ((p.1+1,q.2.2.1.set (p.1+Y.length) q.2.1,q.2.2.2.set (p.1+(Y.map aw).length) [.int .u32 q.2.1])) ⟨?_,?_,wK,(q1Q J),(q4Q J J J J)⟩|refine Exists.intro ((q.1+1,(yA q.2.1 (at_ X p.1) (at_ Y q.1) (at_ q.2.2.1 (p.1+q.1))).fdiv (2^min (Int.toNat 32) IntKind.u64.bits),q.2.2.1.set (p.1+q.1) (IntKind.u32.wrap (yA q.2.1 (at_ X p.1) (at_ Y q.1) (at_ q.2.2.1 (p.1+q.1)))),q.2.2.2.set (p.1+q.1) [.int .u32 (IntKind.u32.wrap (yA q.2.1 (at_ X p.1) (at_ Y q.1) (at_ q.2.2.1 (p.1+q.1))))])) ⟨?_,?_,wK,(q2Q J J),(q9Q J J J J J J J J J)⟩))
 ·exact⟨Xk _,by simp[aw],by simp,Dg.zeros _,fun t _=>by
   show at_ (List.replicate _ (0:Int)) t=0
   simp only[at_,Xi,List.getElem?_replicate]
   split<;>rfl,by
   show ag (List.replicate _ (0:Int))=ag (X.take 0)*ag Y
   rw[GC,List.take_zero];simp[ag]⟩
 ·exact⟨Xk _,hr,hl2,hL,⟨Int.le_refl _,by show (0:Int)<4294967296;omega⟩,hz,by
   show ag p.2.1+pw (p.1+0)*0=ag p.2.1+pw p.1*(at_ X p.1*ag (Y.take 0))
   rw[List.take_zero];simp[ag]⟩
 ·exact KV rfl hX hY (by simpa using ‹decide ((p.1:Int)<((X.map aw).length:Int))=true›) (by simpa using h) hqr hql hqL hqc hqz hqv
 ·have hlt:q.1<Y.length:=by simpa using h
  show Y.length-(q.1+1)<Y.length-q.1
  omega
 ·exact NW hX hY (by simpa using ‹decide ((p.1:Int)<((X.map aw).length:Int))=true›) hqk (by simpa using h) hqr hql hqL hqc hqz hv hqv
 ·have hlt:p.1<X.length:=by simpa using ‹decide ((p.1:Int)<((X.map aw).length:Int))=true›
  show X.length-(p.1+1)<X.length-p.1
  omega
 ·rfl
theorem BM(m n:Nat)(hm:(dig m).length≤400)(hn:(dig n).length≤400):CallA Tryz.prog 361 [.one (.d (bJ m)),.one (.d (bJ n))] [] (.one (.d (bJ (m*n)))) []:=by
 obtain⟨a1,a2,a3⟩:=dt m
 obtain⟨b1,b2,b3⟩:=dt n
 have:=RN (dig m) (dig n) a1 b1 hm hn
 rwa [a2,b2,show ((m:Int)*(n:Int)).toNat=m*n by rw[← Ya];rfl] at this
end Go.Proofs.YtpejdgkaapnekaaGreat
