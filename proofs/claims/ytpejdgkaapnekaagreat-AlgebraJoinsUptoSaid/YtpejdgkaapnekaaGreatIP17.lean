import Derived.Test.YtpejdgkaapnekaaGreatIP16
import Derived.Test.YtpejdgkaapnekaaGreatIP14
import Derived.Test.YtpejdgkaapnekaaGreatIP15
set_option linter.unusedVariables false
set_option linter.unusedSimpArgs false
set_option maxHeartbeats 1000000
namespace Go.Abs
open Go
variable {P:Program} {c:Ctx} {fr:List (Nat×AV)} {sto:Sto}
def nmA(b:Bool×Bool):Nat:=bif b.1 then 11 else 10
def nmB(b:Bool×Bool):Nat:=bif b.2 then 13 else 12
def qN(i:Nat):Nat:=bif Nat.beq i 11 then 10 else bif Nat.beq i 13 then 12 else i
theorem tm{α:Type}{f a b:List (Nat×α)}(h1:SubL f a)(h2:SubL f b):SubL f (a++b):=by
 induction a with
 | nil=>exact h2
 | cons p r ih=>exact⟨h1.1,ih h1.2⟩
theorem qG{f f':List (Nat×AV)}{s s':Sto}(hf:SubL f f')(hs:SubL s s'):Imp c ⟨f,s⟩ ⟨f',s'⟩:=Imp.trans (jI hf) (Ae hs)
theorem eh{α:Type}{body:Code}{Q:Exit→St→Prop}(rg:Nat)(hrg:ic body=rg){fr1:List (Nat×AV)}{sto1:Sto}(ha:Imp c ⟨fr,sto⟩ ⟨fr1,sto1⟩)(kept:List (Nat×AV))(hk:SubL fr1 kept)(L:Bool×Bool→α→List (Nat×AV))(S:Bool×Bool→α→Sto)(Inv:α→Prop)(μ:α→Nat)(x0:α)
  (hL:SubL fr1 (L (false,false) x0)) (hS:SubL sto1 (S (false,false) x0)) (hq:∀ b y,Imp c ⟨L b y++kept,S b y⟩ ⟨L (false,false) y++kept,S (false,false) y⟩) (h0:Inv x0)
  (hround:∀ x,Inv x→OkC P c body ⟨L (false,false) x++kept,S (false,false) x⟩ (av (fun st'=>∃ y b,Inv y∧μ y<μ x∧SubL st'.sto (S b y)∧SubL st'.fr (L b y)∧SubL st'.fr kept) Q)):OkC P c (.loop body) ⟨fr,sto⟩ Q:=by
 refine bG (st':=⟨L (false,false) x0++kept,S (false,false) x0⟩) (Imp.trans ha (qG (tm hL hk) hS)) ?_
 refine nK (fun n st=>∃ x,Inv x∧n=μ x∧st=⟨L (false,false) x++kept,S (false,false) x⟩) (μ x0) ⟨x0,h0,rfl,rfl⟩ ?_
 rintro n st ⟨x,hx,rfl,rfl⟩
 refine ie (hround x hx) fun e st h=>?_
 cases e with
 | normal =>
   obtain⟨y,b,hy,hlt,hs,h1,h2⟩:=h
   obtain⟨f,s⟩:=st
   simp only at hs h1 h2
   exact⟨μ y,_,hlt,⟨y,hy,rfl,rfl⟩,Imp.trans (qG (tm h1 h2) hs) (hq b y)⟩
 | _=>exact h
section
variable {w0:World} {σ0:Sig} {φ0:Pl} {M:Nat→Prop} {n:Nat} {rd:Option Nat} {mk:List Deferred} {ops:Array Oper} {o:Oper} {rest:List Oper} {K:St→Prop} {st0:St} {acc:List Tr}
theorem BF(k:Nat)(dl:List Nat){ss:St}{d:Nat}{fop:Operand}{args:Array Operand}{ats:Array TypeId}{f:FuncId}{caps:List D}{avs avs':List AV}{rav rav':AV}
  (ho:o.op=.call { callee:=.value fop,args:=args,argTypes:=ats }) (hg:o.guard=none) (hdst:o.dst=some d) (hd:Nat.blt d n=true) (hss:sealL ⟨fr,sto⟩ dl=some ss) (hf:ev ss fop=some (.one (.d (.fn f caps))))
  (ha:evL ss args.toList=some avs) (hD:bS avs=true) (hap:(avs++caps.map fun x=>.one (.d x))=avs') (hC:CallA P f avs' [] rav [])
  (hk:(bY [] []&&Nat.ble (k+16) 1000000&&cE [] rav&&bg [] [])=true) (hfresh:jw k ⟨fr,cT dl sto⟩=true) (hr:cZ (rn k []) rav=rav')
  (h:aa P ⟨w0,σ0,φ0,M,n,rd,mk⟩ ops rest ⟨(d,rav')::fr,cT dl sto⟩ K):aa P ⟨w0,σ0,φ0,M,n,rd,mk⟩ ops (o::rest) ⟨fr,sto⟩ K:=by
 subst hap;subst hr
 exact iE k dl ho hg (by rw[hdst];exact hd) hss hf ha hD hC hk (lW hfresh) (by rw[hdst];exact h)
theorem vG(k:Nat)(dl:List Nat){os:List (Nat×AObj)}{d:Nat}{fop:Operand}{args:Array Operand}{ats:Array TypeId}{f:FuncId}{caps:List D}{avs avs':List AV}{rav rav':AV}
  (ho:o.op=.call { callee:=.value fop,args:=args,argTypes:=ats }) (hg:o.guard=none) (hdst:o.dst=some d) (hd:Nat.blt d c.n=true) (hos:cW sto dl=some os) (hf:evS os ⟨fr,sto⟩ fop=some (.one (.d (.fn f caps))))
  (ha:iY os ⟨fr,sto⟩ args.toList=some avs) (hD:bS avs=true) (hap:(avs++caps.map fun x=>.one (.d x))=avs') (hC:CallA P f avs' [] rav [])
  (hk:(bY [] []&&Nat.ble (k+16) 1000000&&cE [] rav&&bg [] [])=true) (hr:cZ (rn k []) rav=rav')
  (h:ah P c ops st0 rest ⟨(d,rav')::fr,bT (lO dl) sto⟩ (iK k dl dl rav []::acc) K):ah P c ops st0 (o::rest) ⟨fr,sto⟩ acc K:=by
 subst hap;subst hr
 refine ji hg (rz k dl ho (by rw[hdst];exact hd) hos hf ha hD hC hk) ?_
 rw[hdst];exact h
end
theorem bM{V:Env}{st:St}{o:Oper}{id i n k b k' b':Nat}{t t2:TypeId}{x y:Operand}{v:AV}{xs ys:List (List D)}{e:TypeId}{z:List D}{q:TypeId×Nat×Nat×List D}
  (ho:o.op=.call { callee:=.builtin .append,args:=⟨[x,y]⟩,argTypes:=⟨[t,t2]⟩ }) (ht:aM V.T t=some (e,k,b,z)) (ht2:aM V.T t2=some q) (hx:ev st x=some (.one (.own i n))) (hl:look st.sto i=some (.row k' b' xs))
  (hkb:(Nat.beq k k'&&Nat.beq b b')=true) (hy:ev st y=some v) (hs:dG st k v=some ys) (hn:n≤100000000) (hys:ys.length≤10000000) (hb:b≤100) :
  aR V st o id=some ⟨.one (.own id (n+ys.length)),[(id,some (.row k b (xs.take n++ys))),(i,none)],[id]⟩ :=
 tn ho ht ht2 hx hl hkb hy hs (by omega) (Hf (Nat.mul_le_mul (show n+ys.length≤110000000 by omega) hb) (by omega))
end Go.Abs
namespace Go.Proofs.YtpejdgkaapnekaaGreat
open Go Go.Abs
attribute [local irreducible] aa OkC ah av aq aP
set_option maxRecDepth 10000
theorem DI(id n:Nat)(cs:List Cell)(rows:List (List D))(hr:rows=cs.map ay)(hn:n=cs.length)(hd:cs.Pairwise cx) :
  CallA Tryz.prog 181 [.one (.own id n),.one (.d (.fn 182 []))] [(id,.row 2 48 rows)] (.tup []) [(id,.row 2 48 ((bI cs).map ay))]:=by
 subst hr;subst hn
 exact Ek id cs (bI cs) (yo hd)
theorem Cz{w0:World}{σ0:Sig}{φ0:Pl}{M:Nat→Prop}{n:Nat}{rd:Option Nat}{mk:List Deferred}{ops:Array Oper}{o:Oper}{rest:List Oper}{fr:List (Nat×AV)}{sto:Sto}{K:St→Prop}{d m:Nat}{fop x y:Operand}{ats:Array TypeId}{rows:List (List D)}(id:Nat)(cs:List Cell)
  (ho:o.op=.call { callee:=.value fop,args:=⟨[x,y]⟩,argTypes:=ats }) (hg:o.guard=none) (hdst:o.dst=some d) (hdn:Nat.blt d n=true) (hf:ev ⟨fr,sto⟩ fop=some (.one (.d (.fn 181 [])))) (hx:ev ⟨fr,sto⟩ x=some (.one (.own id m))) (hy:ev ⟨fr,sto⟩ y=some (.one (.d (.fn 182 []))))
  (hl:Abs.look sto id=some (.row 2 48 rows)) (hr:rows=cs.map ay) (hn:m=cs.length) (hd:cs.Pairwise cx) (hfr:jw 16 ⟨fr,sto⟩=true)
  (h:aa Tryz.prog ⟨w0,σ0,φ0,M,n,rd,mk⟩ ops rest ⟨(d,.tup [])::fr,bR id (.row 2 48 ((bI cs).map ay)) (del id sto)⟩ K):aa Tryz.prog ⟨w0,σ0,φ0,M,n,rd,mk⟩ ops (o::rest) ⟨fr,sto⟩ K:=by
 refine qB 16 [(1000000,id)] (rav':=.tup []) (sto':=bR id (.row 2 48 ((bI cs).map ay)) (del id sto)) (DI 1000000 m cs rows hr hn hd) ho hg hdst hdn hf ?_ ⟨⟨id,rfl,hl⟩,trivial⟩ ⟨fun i e h1 h2=>?_,trivial⟩ rfl hfr rfl rfl h
 ·show evL ⟨fr,sto⟩ [x,y]=_
  simp only[evL,hx,hy]
  rfl
 ·have e1:some id=some i:=h1
  cases e1
  rw[hl] at h2
  cases h2
  refine⟨rfl,rfl,?_⟩
  rw[hr,G2,G2,dy]
  exact Hb _
theorem sU{α β:Type}[Inhabited α](f:α→β)(l:List α){k:Nat}(h:k<l.length):((l.take k).map f).take k++[f (at_ l k)]=(l.take (k+1)).map f:=by
 rw[List.take_succ_eq_append_getElem h,Hy,G1 (by simp;omega)]
 simp[at_,h]
def gl:Option Arr×Int→AV
 | (none,e)=>.tup [(true,[.d .nil,.d .nil,.d .nil]),(false,[.d (.int .i64 e)])]
 | (some a,e)=>.tup [(true,[.d (ar a.dims),.d (al a.attrs),.d (aG a.cells)]),(false,[.d (.int .i64 e)])]
theorem zU{α β:Type}(f:α→β){l:List α}{k:Nat}(h:l.length≤k):(l.take k).map f=l.map f:=by rw[G1 h]
theorem c99(ds:List Dim)(ats:List Attr)(cs:List Cell)(hd:cs.Pairwise cx):CallA Tryz.prog 99 [.one (.d (ar ds)),.one (.d (al ats)),.one (.d (aG cs))] [] (gl (dH ds ats cs)) []:=by
 refine enter ag Tryz.func99 rfl (by decide +kernel) rfl fun hok w0 σ0 φ0 M=>?_
 have h1:=hok.2.2.1.sl;clear hok;simp only[G2] at h1;replace h1:=h1.1
 by_cases h4:4096<(cs.length:Int)
 ·have hb:decide (4096<((cs.map ay).length:Int))=true:=by simpa using h4
  simp only[dH,if_pos h4,gl]
  repeat' (first|refine wG ?_)
  all_goals rfl
 ·have hb:decide (4096<((cs.map ay).length:Int))=false:=by simpa using h4
  simp only[dH,if_neg h4,gl]
  repeat' (first|(refine h1H ?_;(refine h0H ?_;first|refine Cz 10 cs J J J J J J J J (hr.trans (zU _ (by first|omega|(simp only[HX,HY,G2] at *;omega)))) (by first|omega|(simp only[HX,HY,G2] at *;omega)) hd J ?_|refine bF 16 J J J J J J J J (c97 _) J J J ?_|refine bF 16 J J J J J J J J (Em _) J J J ?_))|(refine h2H ?_;refine bG (bA (dl:=[10]) J) (cr ?_))|(refine h4H ?_;(refine h3H ?_;first|refine ef 16 J J J J J J J J (En _) J J ?_|refine ef 16 J J J J J J J J (Eo _) J J ?_))|refine wG ?_|(refine h2H ?_;first|refine aA J (fun h=>?_) (fun h=>?_)|refine eh 5 J (gm 1 2 10 (k:=2) (b:=48) J J (by kernel_rfl)) [(6,_),(8,_),(20,_),(21,_)] (q4Q J J J J) (fun (bN:Bool×Bool) (p:Nat×List (List D))=>[(22,.one (.d (.int .i64 (p.1:Int))))]) (fun (bN:Bool×Bool) (p:Nat×List (List D))=>[(1,.box [.d (ar ds),.d (al ats),.own (nmA bN) p.1]),((nmA bN),.row 2 48 p.2),(0,.box [.d .nil,.d .nil,.d .nil])]) (fun (p:Nat×List (List D))=>p.1≤cs.length∧p.2=(cs.take p.1).map ay) (fun (p:Nat×List (List D))=>cs.length-p.1) (0,[]) (q1Q J) wK (fun b y=>by obtain⟨b1,b2⟩:=b;cases b1<;>cases b2<;>first|exact Imp.refl _|exact ei qN (by kernel_rfl)) ?_ (fun p ⟨hk,hr⟩=>?_))|(show Exists _;refine Exists.intro ((p.1+1,p.2.take p.1++[ay (at_ cs p.1)])) (Exists.intro (true,false) ⟨?_,?_,wK,(q1Q J),(q4Q J J J J)⟩)))
  ·exact⟨Hi _,rfl⟩
  ·have hlt:p.1<cs.length:=by simpa using h
   exact⟨hlt,by show p.2.take p.1++_=_;rw[hr];exact sU _ _ hlt⟩
  ·have hlt:p.1<cs.length:=by simpa using h
   show cs.length-(p.1+1)<cs.length-p.1
   omega
  ·have hge:cs.length≤p.1:=by simpa using h
   show AV.tup [(true,[.d (ar ds),.d (al ats),.d (.sl 2 48 (((bI cs).map ay).take p.1))]),_]=_
   rw[G1 (by simp only[G2,dy];exact hge)]
   rfl
theorem wE(l:List Dim)(hne:0<l.length):CallA Tryz.prog 97 [.one (.d (ar l))] [] (.one (.own 0 l.length)) [(0,.row 3 32 (l.map aN))]:=by
 refine enter ag Tryz.func97 rfl (by decide +kernel) rfl fun hok w0 σ0 φ0 M=>?_
 have h1:=hok.1.sl;clear hok;simp only[G2] at h1
 repeat' (first|(refine h1H ?_;(refine h5H ?_;refine cD ag J J J J J J (fun r hr=>?_)))|(refine h1H ?_;(refine h0H ?_;refine ct ag J J J J J (id:=0) J J J J J J J (by simp only[G2,Hn];omega) (by simp only[G2,Hn];omega) ?_))|refine wG ?_|(refine h2H ?_;refine aA J (fun h=>?_) (fun h=>?_)))
 ·have e:=hr (by simpa using h)
  simp only[List.map_eq_nil_iff] at e
  subst e;simp at hne
 ·simp
theorem Ep(ds:List Dim)(ats:List Attr)(cs:List Cell)(xs ys:List (List D))(hd:cs.Pairwise cx)(hx:xs=ds.map aN)(hy:ys=cs.map ay):CallA Tryz.prog 99 [.one (.d (.sl 3 32 xs)),.one (.d (al ats)),.one (.d (.sl 2 48 ys))] [] (gl (dH ds ats cs)) []:=by
 subst hx;subst hy;exact c99 ds ats cs hd
theorem zV(ds:List Dim)(ats:List Attr)(cs:List Cell)(xs ys:List (List D))(hd:cs.Pairwise cx)(hf:cs.length≤4096)(hx:xs=ds.map aN)(hy:ys=cs.map ay):CallA Tryz.prog 99 [.one (.d (.sl 3 32 xs)),.one (.d (al ats)),.one (.d (.sl 2 48 ys))] [] (.tup [(true,[.d (ar ds),.d (al ats),.d (aG (bI cs))]),(false,[.d (.int .i64 0)])]) []:=by
 have h:=Ep ds ats cs xs ys hd hx hy
 unfold dH at h
 rw[if_neg (by omega)] at h
 exact h
end Go.Proofs.YtpejdgkaapnekaaGreat
namespace Go.Abs
open Go
variable {P:Program} {V:Env} {st:St} {o:Oper}
theorem gD{t e:TypeId}{x y:Operand}{id m k k' b b':Nat}{ik:IntKind}{i:Int}{xs:List (List D)}{z:List D}(ho:o.op=.indexAddr t x y)(ht:aM V.T t=some (e,k',b',z))(hx:ev st x=some (.one (.own id m)))
  (hl:look st.sto id=some (.row k b xs)) (hk:Nat.beq k k'=true) (hy:ev st y=some (.one (.d (.int ik i)))) (h0:0≤i) (hm:i<(m:Int)):aR V st o 0=some ⟨.one (.rref id i.toNat 0),[],[]⟩:=by
 simp only[aR,dg,b5,ho,db,mQ,hx,hy,ht,hl,hk,h0,hm,decide_true,HL,HW]
theorem dK{t:TypeId}{x:Operand}{id j off k b s:Nat}{g:Bool}{xs:List (List D)}{el:List D}{v:AV}(ho:o.op=.load t x)(hx:ev st x=some (.one (.rref id j off)))(hT:fI V.T t=some (g,s))
  (hl:look st.sto id=some (.row k b xs)) (hj:xs[j]?=some el) (hv:dX g s ((el.drop off).map .d)=some v):aR V st o 0=some ⟨v,[],[]⟩:=by
 simp only[aR,dg,b5,ho,db,hx,hT,hl,iG,jL,ey,hj,hv]
theorem cj{t:TypeId}{x y:Operand}{id j off k b s:Nat}{g:Bool}{xs:List (List D)}{el el' ds:List D}{cs:List AC}{v:AV}(ho:o.op=.store t x y)(hd:o.dst=none)(hx:ev st x=some (.one (.rref id j off)))(hy:ev st y=some v)(hT:fI V.T t=some (g,s))
  (hl:look st.sto id=some (.row k b xs)) (hc:cellsOf v=some cs) (hs:Nat.beq cs.length s=true) (ha:dI cs=some ds) (hj:xs[j]?=some el) (hsp:b7 off ds el=some el'):aR V st o 0=some ⟨.any,[(id,some (.row k b (xs.set j el')))],[]⟩:=by
 simp only[aR,dg,b5,ho,db,hx,hy,hT,hl,hc,hs,ha,jM,ey,hj,hsp,HW]
 simp[hd,fi]
theorem lk{xs:List (List D)}{j:Nat}{el:List D}(h:j<xs.length):(xs.set j el)[j]?=some el:=by simp[h]
theorem ia{α:Type}[Inhabited α]{f:α→List D}{l:List α}{xs:List (List D)}{i:Nat}(h:xs=l.map f)(hi:i<xs.length):xs[i]?=some (f (at_ l i)):=by
 subst h;exact eJ (by simpa using hi)
theorem eV{t e:TypeId}{x y:Operand}{id n k b d:Nat}{i j:Int}{z:List D}(ho:o.op=.makeSlice t x y)(hd:o.dst=some d)(ht:aM V.T t=some (e,k,b,z))(hx:ev st x=some (.one (.d (.int .i64 i))))(hy:ev st y=some (.one (.d (.int .i64 j))))(hi:i=(n:Int))(hj:j=(n:Int))(hn:n≤1000)(hb:b≤100) :
  aR V st o id=some ⟨.one (.own id n),[(id,some (.row k b (List.replicate n z)))],[id]⟩:=by
 subst hi;subst hj
 have h1:Nat.ble (n*b) 1000000=true:=Nat.ble_eq.mpr (Hf (Nat.mul_le_mul hn hb) (by omega))
 have h2:Nat.ble n 1000000=true:=Nat.ble_eq.mpr (by omega)
 have h3:(0:Int)≤(n:Int):=Int.natCast_nonneg n
 simp only[aR,dg,b5,ho,db,jK,hx,hy,ht,hd,fi,h3,decide_true,Hp,h1,h2,HL,HW]
end Go.Abs
namespace Go.Abs
open Go
def dW(a:List Int):List D:=[.int .i64 (at_ a 0),.int .i64 (at_ a 1),.int .i64 (at_ a 2),.int .i64 (at_ a 3)]
theorem pe{a b:List Int}(h:a.length=b.length)(h4:a.length≤4):bV (dW a) (dW b)=(a==b):=by
 have key:a=b↔at_ a 0=at_ b 0∧at_ a 1=at_ b 1∧at_ a 2=at_ b 2∧at_ a 3=at_ b 3:=by
  constructor
  ·rintro rfl;exact⟨rfl,rfl,rfl,rfl⟩
  ·rintro ⟨h0,h1,h2,h3⟩
   refine List.ext_getElem? fun i=>?_
   rcases HG i a.length with hi|hi
   ·rw[cv hi,cv (by omega)]
    have:i=0∨i=1∨i=2∨i=3:=by omega
    rcases this with rfl|rfl|rfl|rfl
    ·rw[h0]
    ·rw[h1]
    ·rw[h2]
    ·rw[h3]
   ·rw[List.getElem?_eq_none hi,List.getElem?_eq_none (by omega)]
 rw[HK]
 simp only[dW,bV,eqD,Bool.and_true,GZ,beq_iff_eq,key]
def dC(f:Nat→D):List (List Int)→Nat→List (List D×List D)
 | [],_=>[]
 | k::r,i=>(dW k,[f i])::dC f r (i+1)
def cA(x:List Int):List (List Int)→Nat→Option Nat
 | [],_=>none
 | k::r,i=>if k==x then some i else cA x r (i+1)
theorem qU{f:Nat→D}{x:List Int}(h4:x.length≤4):∀ {ks:List (List Int)} {n i:Nat},(∀ k∈ks,k.length=x.length) →
  (cA x ks n=none→bC (dW x) (dC f ks n) i=none)∧∀ j,cA x ks n=some j→∃ m,bC (dW x) (dC f ks n) i=some (m,[f j])
 | [],n,i,_=>⟨fun _=>rfl,fun j h=>by cases h⟩
 | k::r,n,i,h=>by
   have hk:=h k Hc
   have ih:=qU (f:=f) h4 (ks:=r) (n:=n+1) (i:=i+1) fun y hy=>h y (G9 _ hy)
   have e:=pe hk.symm h4
   have e2:(k==x)=(x==k):=by rw[HK];simp only[beq_iff_eq];exact eq_comm
   simp only[cA,dC,bC,e,e2]
   cases hb:(x==k) with
   | true=>exact⟨fun h=>(by simp at h),fun j hj=>⟨i,by simp at hj;subst hj;rfl⟩⟩
   | false=>simpa using ih
def pk:List KK:=[.int .i64,.int .i64,.int .i64,.int .i64]
theorem nk{f:Nat→D}:∀ {ks:List (List Int)} {n:Nat},dw pk (dC f ks n)=true
 | [],_=>rfl
 | k::r,n=>by
   simp only[dC,dw,nk (ks:=r)]
   rfl
variable {V:Env} {st:St} {o:Oper}
def oY(x:List Int):AV:=.agg [.d (.int .i64 (at_ x 0)),.d (.int .i64 (at_ x 1)),.d (.int .i64 (at_ x 2)),.d (.int .i64 (at_ x 3))]
theorem oM{t id:Nat}{m:MTy}{x y:Operand}{ok:Bool}{a:List Int}{f:Nat→D}{ks:List (List Int)}{v:AV}(ho:o.op=.lookup t x y ok)(hm:look V.M t=some m)(hms:m.ks=pk)(hk:m.kg=true)(hv:m.vg=false)
  (hx:ev st x=some (.one (.mapr id))) (hl:look st.sto id=some (.map true false (dC f ks 0))) (hy:ev st y=some (oY a)) (h4:a.length≤4) (hks:∀ k∈ks,k.length=a.length)
  (hr:(match cA a ks 0 with|some j=>nr false [f j] true ok|none=>nr false m.z false ok)=some v):aR V st o 0=some ⟨v,[],[]⟩:=by
 have hd:gQ true (oY a)=some (dW a):=rfl
 have hF:=qU (f:=f) h4 (ks:=ks) (n:=0) (i:=0) hks
 have hlk:kp m (dC f ks 0) (dW a) ok=some v:=by
  unfold kp
  rw[hv]
  cases hw:cA a ks 0 with
  | none=>rw[hF.1 hw];rw[hw] at hr;exact hr
  | some j =>
    obtain⟨q,hq⟩:=hF.2 j hw
    rw[hq];rw[hw] at hr;exact hr
 have e1:dg V.T st o 0=none:=by
  simp only[dg,b5,ho,db,jK]
  cases o.dst<;>simp[fi]
 simp only[aR,e1]
 rw[ho]
 simp only[hm,hx,hy,hl,hk,hd,hv,bEq,hms,nk,hlk,HW]
 rfl
end Go.Abs
namespace Go.Proofs.YtpejdgkaapnekaaGreat
open Go Go.Abs
attribute [local irreducible] aa OkC ah av aq aP
set_option maxRecDepth 10000
theorem CI(x:List Int)(h:x.length≤4):CallA Tryz.prog 111 [.one (.d (aC x))] [] (oY x) []:=by
 refine enter ag Tryz.func111 rfl (by decide +kernel) rfl fun hok w0 σ0 φ0 M=>?_
 clear hok
 match x,h with
 | [],_ =>
   repeat' (first|refine wG ?_)
   all_goals rfl
 | [a],_ =>
   repeat' (first|refine wG ?_)
   all_goals rfl
 | [a,b],_ =>
   repeat' (first|refine wG ?_)
   all_goals rfl
 | [a,b,c],_ =>
   repeat' (first|refine wG ?_)
   all_goals rfl
 | [a,b,c,d],_ =>
   repeat' (first|refine wG ?_)
   all_goals rfl
end Go.Proofs.YtpejdgkaapnekaaGreat
namespace Go.Proofs.YtpejdgkaapnekaaGreat
open Go Go.Abs
attribute [local irreducible] aa OkC ah av aq aP
set_option maxRecDepth 10000
section
variable {src:List (Int×Bool)} {c:Cell} {k:Nat}
end
end Go.Proofs.YtpejdgkaapnekaaGreat
namespace Go.Proofs.YtpejdgkaapnekaaGreat
open Go Go.Abs
attribute [local irreducible] aa OkC ah av aq aP
set_option maxRecDepth 10000
def bp(s:List UInt8):List D:=[.str s]
def dj(l:List (List UInt8)):D:=.sl 1 16 (l.map bp)
theorem il{α:Type}[Inhabited α](f:α→List D)(l:List α){n:Nat}{r:List (List D)}(h:r=(l.take n).map f)(hlt:n<l.length):r.take n++[f (at_ l n)]=(l.take (n+1)).map f:=by
 rw[h];exact sU f l hlt
section
variable {src kept:List (Int×Bool)} {ds:List Dim} {rule:Int} {c:Cell} {cs cs' l:List Cell} {x:List Int} {j:Nat}
end
end Go.Proofs.YtpejdgkaapnekaaGreat
namespace Go.Proofs.YtpejdgkaapnekaaGreat
open Go Go.Abs
attribute [local irreducible] aa OkC ah av aq aP
set_option maxRecDepth 10000
structure Dok (ds:List Dim):Prop where
 len:1≤ds.length∧ds.length≤4
 bnd:∀ i,i<ds.length→-1073741824≤(at_ ds i).lo∧(at_ ds i).lo≤1073741824∧(at_ ds i).lo≤(at_ ds i).hi∧(at_ ds i).hi≤1073741825
 ext:∀ i,i<ds.length→1≤(at_ ds i).hi-(at_ ds i).lo+1
theorem pP{α:Type}[Inhabited α]{p:α→Bool}{l:List α}:decide (0≤aS p l 0)=l.any p:=by
 rw[HK,HX,List.any_eq_true]
 constructor
 ·intro h
  obtain⟨k,_,h2,h3,_⟩:=jO (p:=p) (l:=l) (j:=0) (by omega)
  exact⟨_,aW h2,h3⟩
 ·rintro ⟨x,hx,hp⟩
  by_cases h0:aS p l 0<0
  ·have:=gJ h0 x hx
   rw[hp] at this;cases this
  ·omega
structure Vok (ds:List Dim):Prop where
 dok:Dok ds
 fin:∀ i,i<ds.length→(at_ ds i).hi≤1073741824
 vol:(E8 ds).1=nR ds
 part:∀ i,i<ds.length→nR (ds.take i)*((at_ ds i).hi-(at_ ds i).lo+1)≤4611686018427387904
 all:nR ds≤4611686018427387904
theorem EB(l:List Int)(v:Int):CallA Tryz.prog 249 [.one (.d (aC l)),.one (.d (.int .i64 v))] [] (.one (.d (.int .i64 (aS (fun x=>v==x) l 0)))) []:=by
 refine enter ag Tryz.func249 rfl (by decide +kernel) rfl fun hok w0 σ0 φ0 M=>?_
 have h1:=hok.1.sl;clear hok;simp only[G2] at h1;replace h1:=h1.1
 repeat' (first|refine wG ?_|(refine h2H ?_;first|refine aA J (fun h=>?_) (fun h=>?_)|refine c9 2 J [(0,_),(1,_),(7,_)] (q3Q J J J) (fun (k:Nat)=>[(8,.one (.d (.int .i64 (k:Int))))]) (fun (k:Nat)=>k≤l.length∧aS (fun x=>v==x) l 0=aS (fun x=>v==x) (l.drop k) k) (fun (k:Nat)=>l.length-k) 0 (q1Q J) ?_ (fun k ⟨hk,hs⟩=>?_))|(show Exists _;refine Exists.intro (k+1) ⟨?_,?_,wK,(q1Q J),(q3Q J J J)⟩))
 all_goals (try (((simp_all[aS,aB,G6])<;>exact wL);done))
theorem EC(l:List Int)(v:Int):CallA Tryz.prog 206 [.one (.d (aC l)),.one (.d (.int .i64 v))] [] (.one (.d (.bool (l.contains v)))) []:=by
 refine enter ag Tryz.func206 rfl (by decide +kernel) rfl fun hok w0 σ0 φ0 M=>?_
 clear hok
 repeat' (first|(refine h1H ?_;(refine h0H ?_;refine aj J J J J J J J J (EB _ _) J ?_))|refine wG ?_)
 all_goals
  rw[pP]
  have e:(l.any fun x=>v==x)=l.contains v:=by
   rw[HK];simp
  rw[e]
theorem Bi(ys:List (List D))(l:List Int)(v:Int)(h:ys=l.map aH):CallA Tryz.prog 206 [.one (.d (.sl 1 8 ys)),.one (.d (.int .i64 v))] [] (.one (.d (.bool (l.contains v)))) []:=by
 subst h;exact EC l v
def DM:Option (List Int)→AV
 | some ks=>.tup [(false,[.d (aC ks)]),(false,[.d (.bool true)])]
 | none=>.tup [(false,[.d .nil]),(false,[.d (.bool false)])]
theorem o3{ds:List Dim}{n:List UInt8}{r:List (List UInt8)}{acc:List Int}:df ds acc (n::r)=if aY ds n<0 then none else if acc.contains (aY ds n) then none else df ds (acc++[aY ds n]) r:=rfl
theorem CM(ds:List Dim)(names:List (List UInt8))(hn:names.length≤1048576):CallA Tryz.prog 138 [.one (.d (ar ds)),.one (.d (dj names)),.one (.d (.fn 139 []))] [] (DM (df ds [] names)) []:=by
 refine enter ag Tryz.func138 rfl (by decide +kernel) rfl fun hok w0 σ0 φ0 M=>?_
 clear hok
 repeat' (first|(refine h1H ?_;(refine h0H ?_;first|refine cm [10] J J J J J J J J J (Bi _ ((names.take p.1).map (aY ds)) _ (by rw[G1 (by rw[hr];simp;omega),hr];simp[HM,Function.comp_def])) J ?_|refine aj J J J J J J J J (CN _ _) J ?_))|(refine h2H ?_;refine bG (bA (dl:=[10]) J) (cr ?_))|refine wG ?_|(refine h1H ?_;(refine h9H ?_;refine cq J J J J (fun h=>?_) (fun h=>?_)))|(refine h2H ?_;first|refine aA J (fun h=>?_) (fun h=>?_)|refine eh 3 J (dQ (s:=8) (id:=10) (k:=1) (b:=8) J J J J) [(0,_),(2,_),(12,_),(13,_)] (q4Q J J J J) (fun (bN:Bool×Bool) (p:Nat×List (List D))=>[(8,.one (.own 10 p.1)),(14,.one (.d (.int .i64 (p.1:Int))))]) (fun (bN:Bool×Bool) (p:Nat×List (List D))=>[(10,.row 1 8 p.2)]) (fun (p:Nat×List (List D))=>p.1≤names.length∧p.2=(names.take p.1).map (fun n=>aH (aY ds n))∧df ds [] names=df ds ((names.take p.1).map (aY ds)) (names.drop p.1)) (fun (p:Nat×List (List D))=>names.length-p.1) (0,[]) (q2Q J J) wK (fun b y=>by obtain⟨b1,b2⟩:=b;cases b1<;>cases b2<;>first|exact Imp.refl _|exact ei qN (by kernel_rfl)) ?_ (fun p ⟨hk,hr,hs⟩=>?_))|(show Exists _;refine Exists.intro ((p.1+1,p.2.take p.1++[[.int .i64 (aY ds (at_ names p.1))]])) (Exists.intro (false,false) ⟨?_,?_,wK,(q2Q J J),(q4Q J J J J)⟩)))
 ·exact⟨Hi _,rfl,rfl⟩
 ·have hlt:p.1<names.length:=by simpa using ‹decide ((p.1:Int)<((names.map bp).length:Int))=true›
  have hd:¬ aY ds (at_ names p.1)<0:=of_decide_eq_false ‹decide (aS (fun a:Dim=>a.name==at_ names (p.1:Int).toNat) ds 0<0)=false›
  have hc:((names.take p.1).map (aY ds)).contains (aY ds (at_ names p.1))=true:=h
  rw[hs,aB hlt,o3,if_neg hd,if_pos hc];rfl
 ·have hlt:p.1<names.length:=by simpa using ‹decide ((p.1:Int)<((names.map bp).length:Int))=true›
  have hd:¬ aY ds (at_ names p.1)<0:=of_decide_eq_false ‹decide (aS (fun a:Dim=>a.name==at_ names (p.1:Int).toNat) ds 0<0)=false›
  have hc:¬ ((names.take p.1).map (aY ds)).contains (aY ds (at_ names p.1))=true:=by rw[HO];exact h
  refine⟨hlt,il (fun n=>aH (aY ds n)) names hr hlt,?_⟩
  rw[hs,aB hlt,o3,if_neg hd,if_neg hc]
  show _=df ds ((names.take (p.1+1)).map (aY ds)) (names.drop (p.1+1))
  rw[fY hlt,Hy];rfl
 ·have hlt:p.1<names.length:=by simpa using ‹decide ((p.1:Int)<((names.map bp).length:Int))=true›
  show names.length-(p.1+1)<names.length-p.1
  omega
 ·have hlt:p.1<names.length:=by simpa using ‹decide ((p.1:Int)<((names.map bp).length:Int))=true›
  have hd:aY ds (at_ names p.1)<0:=of_decide_eq_true h
  rw[hs,aB hlt,o3,if_pos hd];rfl
 ·have hge:names.length≤p.1:=by simpa using h
  have e:p.2.take p.1=((names.take p.1).map (aY ds)).map aH:=by rw[G1 (by rw[hr];simp;omega),hr,HM];rfl
  rw[hs,G6 hge]
  show AV.tup [(false,[.d (.sl 1 8 (p.2.take p.1))]),_]=_
  rw[e];rfl
def fV{α:Type}(Y:List α)(z:α)(k:Nat):List α:=Y.take k++List.replicate (Y.length-k) z
theorem kf{α:Type}[Inhabited α]{Y:List α}{z:α}{k:Nat}(h:k<Y.length):(fV Y z k).set k (at_ Y k)=fV Y z (k+1):=by
 unfold fV
 have hl:(Y.take k).length=k:=by simp;omega
 obtain⟨m,hm⟩:∃ m,Y.length-k=m+1:=⟨Y.length-k-1,by omega⟩
 rw[List.set_append,if_neg (by omega),hl,Nat.sub_self,hm,List.replicate_succ,List.set_cons_zero,fY h,List.append_assoc,show Y.length-(k+1)=m by omega]
 rfl
theorem lZ{α:Type}{Y:List α}{z:α}:fV Y z Y.length=Y:=by simp[fV]
theorem kh{α:Type}{Y:List α}{z:α}:fV Y z 0=List.replicate Y.length z:=by simp[fV]
theorem wR(l ks:List Int)(hn:ks.length≤1000)(hks:∀ i,i<ks.length→0≤at_ ks i∧(at_ ks i).toNat<l.length):CallA Tryz.prog 140 [.one (.d (aC l)),.one (.d (aC ks))] [] (.one (.d (aC (af l ks)))) []:=by
 refine enter ag Tryz.func140 rfl (by decide +kernel) rfl fun hok w0 σ0 φ0 M=>?_
 clear hok
 repeat' (first|(refine h1H ?_;(refine wV ?_;refine gF envOk 10 J J J (eV (n:=ks.length) J J J J J (by simp) (by simp) (by omega) (G5 J)) J J ?_))|(refine h1H ?_;(refine wW ?_;refine s_e envOk J J J (dS J J J J J (hks _ wB).1 (eJ (hks _ wB).2)) ?_))|(refine h2H ?_;refine bG (bA (dl:=[10]) J) (cr ?_))|refine wG ?_|(refine h2H ?_;first|refine aA J (fun h=>?_) (fun h=>?_)|refine fy 3 J [(0,_),(5,_),(11,_),(12,_)] (q4Q J J J J) (fun (p:Nat×List Int×List (List D))=>[(13,.one (.d (.int .i64 (p.1:Int))))]) (fun (p:Nat×List Int×List (List D))=>[(10,.row 1 8 p.2.2)]) (fun (p:Nat×List Int×List (List D))=>p.1≤ks.length∧p.2.2=p.2.1.map aH∧p.2.2.length=ks.length∧p.2.1=fV (af l ks) 0 p.1) (fun (p:Nat×List Int×List (List D))=>ks.length-p.1) (0,List.replicate ks.length 0,List.replicate ks.length [.int .i64 0]) (q1Q J) wK ?_ (fun p ⟨hk,hr,hrl,hx⟩=>?_))|(show Exists _;refine Exists.intro ((p.1+1,p.2.1.set p.1 (at_ l (at_ ks p.1).toNat),p.2.2.set p.1 [.int .i64 (at_ l (at_ ks p.1).toNat)])) ⟨?_,?_,wK,(q1Q J),(q4Q J J J J)⟩))
 ·exact⟨Hi _,by simp[aH],by simp,by rw[kh];simp[af]⟩
 ·have hlt:p.1<ks.length:=by simpa using h
  refine⟨hlt,?_,by simp[hrl],?_⟩
  ·show p.2.2.set p.1 _=List.map aH (p.2.1.set p.1 _)
   rw[hr,List.map_set];rfl
  ·show p.2.1.set p.1 _=fV (af l ks) 0 (p.1+1)
   rw[hx,← kf (by rw[bc];exact hlt),cQ hlt]
 ·have hlt:p.1<ks.length:=by simpa using h
  show ks.length-(p.1+1)<ks.length-p.1
  omega
 ·have hge:ks.length≤p.1:=by simpa using h
  have e:p.2.2.take ks.length=(af l ks).map aH:=by
   rw[G1 (by omega),hr,hx,show p.1=(af l ks).length by rw[bc];omega,lZ]
  show AV.one (AC.d (.sl 1 8 (p.2.2.take ks.length)))=_
  rw[e];rfl
theorem tk(l:List Dim)(ks:List Int)(hn:ks.length≤1000)(hks:∀ i,i<ks.length→0≤at_ ks i∧(at_ ks i).toNat<l.length):CallA Tryz.prog 141 [.one (.d (ar l)),.one (.d (aC ks))] [] (.one (.d (ar (af l ks)))) []:=by
 refine enter ag Tryz.func141 rfl (by decide +kernel) rfl fun hok w0 σ0 φ0 M=>?_
 clear hok
 repeat' (first|(refine h1H ?_;(refine wV ?_;refine gF envOk 10 J J J (eV (n:=ks.length) J J J J J (by simp) (by simp) (by omega) (G5 J)) J J ?_))|(refine h1H ?_;(refine wW ?_;refine s_e envOk J J J (dS J J J J J (hks _ wB).1 (eJ (hks _ wB).2)) ?_))|(refine h2H ?_;refine bG (bA (dl:=[10]) J) (cr ?_))|refine wG ?_|(refine h2H ?_;first|refine aA J (fun h=>?_) (fun h=>?_)|refine fy 3 J [(0,_),(5,_),(11,_),(12,_)] (q4Q J J J J) (fun (p:Nat×List Dim×List (List D))=>[(13,.one (.d (.int .i64 (p.1:Int))))]) (fun (p:Nat×List Dim×List (List D))=>[(10,.row 3 32 p.2.2)]) (fun (p:Nat×List Dim×List (List D))=>p.1≤ks.length∧p.2.2=p.2.1.map aN∧p.2.2.length=ks.length∧p.2.1=fV (af l ks) ⟨[],0,0⟩ p.1) (fun (p:Nat×List Dim×List (List D))=>ks.length-p.1) (0,List.replicate ks.length ⟨[],0,0⟩,List.replicate ks.length [.str [],.int .i64 0,.int .i64 0]) (q1Q J) wK ?_ (fun p ⟨hk,hr,hrl,hx⟩=>?_))|(show Exists _;refine Exists.intro ((p.1+1,p.2.1.set p.1 (at_ l (at_ ks p.1).toNat),p.2.2.set p.1 [.str (at_ l (at_ ks p.1).toNat).name,.int .i64 (at_ l (at_ ks p.1).toNat).lo,.int .i64 (at_ l (at_ ks p.1).toNat).hi])) ⟨?_,?_,wK,(q1Q J),(q4Q J J J J)⟩))
 ·exact⟨Hi _,by simp[aN],by simp,by rw[kh];simp[af]⟩
 ·have hlt:p.1<ks.length:=by simpa using h
  refine⟨hlt,?_,by simp[hrl],?_⟩
  ·show p.2.2.set p.1 _=List.map aN (p.2.1.set p.1 _)
   rw[hr,List.map_set];rfl
  ·show p.2.1.set p.1 _=fV (af l ks) ⟨[],0,0⟩ (p.1+1)
   rw[hx,← kf (by rw[bc];exact hlt),cQ hlt]
 ·have hlt:p.1<ks.length:=by simpa using h
  show ks.length-(p.1+1)<ks.length-p.1
  omega
 ·have hge:ks.length≤p.1:=by simpa using h
  have e:p.2.2.take ks.length=(af l ks).map aN:=by
   rw[G1 (by omega),hr,hx,show p.1=(af l ks).length by rw[bc];omega,lZ]
  show AV.one (AC.d (.sl 3 32 (p.2.2.take ks.length)))=_
  rw[e];rfl
theorem sJ(l:List Attr)(hne:0<l.length):CallA Tryz.prog 145 [.one (.d (al l))] [] (.one (.own 0 l.length)) [(0,.row 2 24 (l.map aL))]:=by
 refine enter ag Tryz.func145 rfl (by decide +kernel) rfl fun hok w0 σ0 φ0 M=>?_
 have h1:=hok.1.sl;clear hok;simp only[G2] at h1
 repeat' (first|(refine h1H ?_;(refine h5H ?_;refine cD ag J J J J J J (fun r hr=>?_)))|(refine h1H ?_;(refine h0H ?_;refine ct ag J J J J J (id:=0) J J J J J J J (by simp only[G2,Hn];omega) (by simp only[G2,Hn];omega) ?_))|refine wG ?_|(refine h2H ?_;refine aA J (fun h=>?_) (fun h=>?_)))
 ·have e:=hr (by simpa using h)
  simp only[List.map_eq_nil_iff] at e
  subst e;simp at hne
 ·simp
theorem Dy(a:Arr)(name:List UInt8):CallA Tryz.prog 143 [.agg [.d (ar a.dims),.d (al a.attrs),.d (aG a.cells)],.one (.d (.str name))] [] (.one (.d (.bool (hU a name)))) []:=by
 refine enter ag Tryz.func143 rfl (by decide +kernel) rfl fun hok w0 σ0 φ0 M=>?_
 clear hok
 repeat' (first|(refine h1H ?_;(refine h0H ?_;first|refine aj J J J J J J J J (CL _ _ _ _) J ?_|refine aj J J J J J J J J (EO _ _ _ _) J ?_))|refine wG ?_|(refine h1H ?_;(refine h9H ?_;refine cq J J J J (fun h=>?_) (fun h=>?_))))
 ·have e:hU a name=decide (0≤aS (fun x:Attr=>x.name==name) a.attrs 0):=by
   show (decide (0≤aS (fun x:Dim=>x.name==name) a.dims 0)||_)=_
   rw[h];rfl
  rw[e]
 ·have e:hU a name=true:=by
   show (decide (0≤aS (fun x:Dim=>x.name==name) a.dims 0)||_)=_
   rw[h];rfl
  rw[e]
def eo(ats:List Attr):List Int→List (List UInt8)→Option (List Int)
 | acc,[]=>some acc
 | acc,n::r=>if atX ats n<0 then none else if acc.contains (atX ats n) then none else eo ats (acc++[atX ats n]) r
theorem mT{ats:List Attr}{n:List UInt8}{r:List (List UInt8)}{acc:List Int}:eo ats acc (n::r)=if atX ats n<0 then none else if acc.contains (atX ats n) then none else eo ats (acc++[atX ats n]) r:=rfl
theorem vJ{ats:List Attr}:∀ {names:List (List UInt8)} {acc ks:List Int},eo ats acc names=some ks→ks=acc++names.map (atX ats)∧(∀ n∈names,¬ atX ats n<0)∧(acc.Nodup→ks.Nodup)
 | [],acc,ks,h=>by
   simp only[eo,G4] at h
   subst h;simp
 | n::r,acc,ks,h=>by
   simp only[eo] at h
   split at h
   ·cases h
   split at h
   ·cases h
   rename_i h1 h2
   obtain⟨e1,e2,e3⟩:=vJ h
   refine⟨by rw[e1];simp,fun x hx=>?_,fun hn=>e3 ?_⟩
   ·rcases Hm.1 hx with rfl|hx
    ·exact h1
    ·exact e2 x hx
   ·have h3:atX ats n ∉ acc:=by simpa using h2
    rw[List.nodup_append]
    exact⟨hn,by simp,fun a ha b hb=>by rw[List.mem_singleton.1 hb];rintro rfl;exact h3 ha⟩
def pjC(ks:List Int)(c:Cell):Cell:=⟨c.at',af c.vals ks⟩
def ed(a:Arr)(names:List (List UInt8)):Option Arr×Int :=
 if ba a≠0∨names.length=0 then (none,2)
 else match eo a.attrs [] names with
  | none=>(none,11)
  | some ks=>dH a.dims (af a.attrs ks) (a.cells.map (pjC ks))
def CR:Option (List Int)→AV
 | some ks=>.tup [(false,[.d (aC ks)]),(false,[.d (.bool true)])]
 | none=>.tup [(false,[.d .nil]),(false,[.d (.bool false)])]
theorem CS(ds:List Attr)(names:List (List UInt8))(hn:names.length≤1048576):CallA Tryz.prog 150 [.one (.d (al ds)),.one (.d (dj names)),.one (.d (.fn 151 []))] [] (CR (eo ds [] names)) []:=by
 refine enter ag Tryz.func150 rfl (by decide +kernel) rfl fun hok w0 σ0 φ0 M=>?_
 clear hok
 repeat' (first|(refine h1H ?_;(refine h0H ?_;first|refine cm [10] J J J J J J J J J (Bi _ ((names.take p.1).map (atX ds)) _ (by rw[G1 (by rw[hr];simp;omega),hr];simp[HM,Function.comp_def])) J ?_|refine aj J J J J J J J J (CT _ _) J ?_))|(refine h2H ?_;refine bG (bA (dl:=[10]) J) (cr ?_))|refine wG ?_|(refine h1H ?_;(refine h9H ?_;refine cq J J J J (fun h=>?_) (fun h=>?_)))|(refine h2H ?_;first|refine aA J (fun h=>?_) (fun h=>?_)|refine eh 3 J (dQ (s:=8) (id:=10) (k:=1) (b:=8) J J J J) [(0,_),(2,_),(12,_),(13,_)] (q4Q J J J J) (fun (bN:Bool×Bool) (p:Nat×List (List D))=>[(8,.one (.own 10 p.1)),(14,.one (.d (.int .i64 (p.1:Int))))]) (fun (bN:Bool×Bool) (p:Nat×List (List D))=>[(10,.row 1 8 p.2)]) (fun (p:Nat×List (List D))=>p.1≤names.length∧p.2=(names.take p.1).map (fun n=>aH (atX ds n))∧eo ds [] names=eo ds ((names.take p.1).map (atX ds)) (names.drop p.1)) (fun (p:Nat×List (List D))=>names.length-p.1) (0,[]) (q2Q J J) wK (fun b y=>by obtain⟨b1,b2⟩:=b;cases b1<;>cases b2<;>first|exact Imp.refl _|exact ei qN (by kernel_rfl)) ?_ (fun p ⟨hk,hr,hs⟩=>?_))|(show Exists _;refine Exists.intro ((p.1+1,p.2.take p.1++[[.int .i64 (atX ds (at_ names p.1))]])) (Exists.intro (false,false) ⟨?_,?_,wK,(q2Q J J),(q4Q J J J J)⟩)))
 ·exact⟨Hi _,rfl,rfl⟩
 ·have hlt:p.1<names.length:=by simpa using ‹decide ((p.1:Int)<((names.map bp).length:Int))=true›
  have hd:¬ atX ds (at_ names p.1)<0:=of_decide_eq_false ‹decide (aS (fun a:Attr=>a.name==at_ names (p.1:Int).toNat) ds 0<0)=false›
  have hc:((names.take p.1).map (atX ds)).contains (atX ds (at_ names p.1))=true:=h
  rw[hs,aB hlt,mT,if_neg hd,if_pos hc];rfl
 ·have hlt:p.1<names.length:=by simpa using ‹decide ((p.1:Int)<((names.map bp).length:Int))=true›
  have hd:¬ atX ds (at_ names p.1)<0:=of_decide_eq_false ‹decide (aS (fun a:Attr=>a.name==at_ names (p.1:Int).toNat) ds 0<0)=false›
  have hc:¬ ((names.take p.1).map (atX ds)).contains (atX ds (at_ names p.1))=true:=by rw[HO];exact h
  refine⟨hlt,il (fun n=>aH (atX ds n)) names hr hlt,?_⟩
  rw[hs,aB hlt,mT,if_neg hd,if_neg hc]
  show _=eo ds ((names.take (p.1+1)).map (atX ds)) (names.drop (p.1+1))
  rw[fY hlt,Hy];rfl
 ·have hlt:p.1<names.length:=by simpa using ‹decide ((p.1:Int)<((names.map bp).length:Int))=true›
  show names.length-(p.1+1)<names.length-p.1
  omega
 ·have hlt:p.1<names.length:=by simpa using ‹decide ((p.1:Int)<((names.map bp).length:Int))=true›
  have hd:atX ds (at_ names p.1)<0:=of_decide_eq_true h
  rw[hs,aB hlt,mT,if_pos hd];rfl
 ·have hge:names.length≤p.1:=by simpa using h
  have e:p.2.take p.1=((names.take p.1).map (atX ds)).map aH:=by rw[G1 (by rw[hr];simp;omega),hr,HM];rfl
  rw[hs,G6 hge]
  show AV.tup [(false,[.d (.sl 1 8 (p.2.take p.1))]),_]=_
  rw[e];rfl
theorem ED(l:List Val)(ks:List Int)(hn:ks.length≤1000)(hks:∀ i,i<ks.length→0≤at_ ks i∧(at_ ks i).toNat<l.length):CallA Tryz.prog 152 [.one (.d (cR l)),.one (.d (aC ks))] [] (.one (.d (cR (af l ks)))) []:=by
 refine enter ag Tryz.func152 rfl (by decide +kernel) rfl fun hok w0 σ0 φ0 M=>?_
 clear hok
 repeat' (first|(refine h1H ?_;(refine wV ?_;refine gF envOk 10 J J J (eV (n:=ks.length) J J J J J (by simp) (by simp) (by omega) (G5 J)) J J ?_))|(refine h1H ?_;(refine wW ?_;refine s_e envOk J J J (dS J J J J J (hks _ wB).1 (eJ (hks _ wB).2)) ?_))|(refine h2H ?_;refine bG (bA (dl:=[10]) J) (cr ?_))|refine wG ?_|(refine h2H ?_;first|refine aA J (fun h=>?_) (fun h=>?_)|refine fy 3 J [(0,_),(5,_),(11,_),(12,_)] (q4Q J J J J) (fun (p:Nat×List Val×List (List D))=>[(13,.one (.d (.int .i64 (p.1:Int))))]) (fun (p:Nat×List Val×List (List D))=>[(10,.row 4 40 p.2.2)]) (fun (p:Nat×List Val×List (List D))=>p.1≤ks.length∧p.2.2=p.2.1.map bW∧p.2.2.length=ks.length∧p.2.1=fV (af l ks) ⟨0,0,0,[]⟩ p.1) (fun (p:Nat×List Val×List (List D))=>ks.length-p.1) (0,List.replicate ks.length ⟨0,0,0,[]⟩,List.replicate ks.length [.int .i64 0,.int .i64 0,.int .i64 0,.str []]) (q1Q J) wK ?_ (fun p ⟨hk,hr,hrl,hx⟩=>?_))|(show Exists _;refine Exists.intro ((p.1+1,p.2.1.set p.1 (at_ l (at_ ks p.1).toNat),p.2.2.set p.1 [.int .i64 (at_ l (at_ ks p.1).toNat).kind,.int .i64 (at_ l (at_ ks p.1).toNat).num,.int .i64 (at_ l (at_ ks p.1).toNat).den,.str (at_ l (at_ ks p.1).toNat).str])) ⟨?_,?_,wK,(q1Q J),(q4Q J J J J)⟩))
 ·exact⟨Hi _,by simp[bW],by simp,by rw[kh];simp[af]⟩
 ·have hlt:p.1<ks.length:=by simpa using h
  refine⟨hlt,?_,by simp[hrl],?_⟩
  ·show p.2.2.set p.1 _=List.map bW (p.2.1.set p.1 _)
   rw[hr,List.map_set];rfl
  ·show p.2.1.set p.1 _=fV (af l ks) ⟨0,0,0,[]⟩ (p.1+1)
   rw[hx,← kf (by rw[bc];exact hlt),cQ hlt]
 ·have hlt:p.1<ks.length:=by simpa using h
  show ks.length-(p.1+1)<ks.length-p.1
  omega
 ·have hge:ks.length≤p.1:=by simpa using h
  have e:p.2.2.take ks.length=(af l ks).map bW:=by
   rw[G1 (by omega),hr,hx,show p.1=(af l ks).length by rw[bc];omega,lZ]
  show AV.one (AC.d (.sl 4 40 (p.2.2.take ks.length)))=_
  rw[e];rfl
theorem EE(l:List Attr)(ks:List Int)(hn:ks.length≤1000)(hks:∀ i,i<ks.length→0≤at_ ks i∧(at_ ks i).toNat<l.length):CallA Tryz.prog 153 [.one (.d (al l)),.one (.d (aC ks))] [] (.one (.d (al (af l ks)))) []:=by
 refine enter ag Tryz.func153 rfl (by decide +kernel) rfl fun hok w0 σ0 φ0 M=>?_
 clear hok
 repeat' (first|(refine h1H ?_;(refine wV ?_;refine gF envOk 10 J J J (eV (n:=ks.length) J J J J J (by simp) (by simp) (by omega) (G5 J)) J J ?_))|(refine h1H ?_;(refine wW ?_;refine s_e envOk J J J (dS J J J J J (hks _ wB).1 (eJ (hks _ wB).2)) ?_))|(refine h2H ?_;refine bG (bA (dl:=[10]) J) (cr ?_))|refine wG ?_|(refine h2H ?_;first|refine aA J (fun h=>?_) (fun h=>?_)|refine fy 3 J [(0,_),(5,_),(11,_),(12,_)] (q4Q J J J J) (fun (p:Nat×List Attr×List (List D))=>[(13,.one (.d (.int .i64 (p.1:Int))))]) (fun (p:Nat×List Attr×List (List D))=>[(10,.row 2 24 p.2.2)]) (fun (p:Nat×List Attr×List (List D))=>p.1≤ks.length∧p.2.2=p.2.1.map aL∧p.2.2.length=ks.length∧p.2.1=fV (af l ks) ⟨[],0⟩ p.1) (fun (p:Nat×List Attr×List (List D))=>ks.length-p.1) (0,List.replicate ks.length ⟨[],0⟩,List.replicate ks.length [.str [],.int .i64 0]) (q1Q J) wK ?_ (fun p ⟨hk,hr,hrl,hx⟩=>?_))|(show Exists _;refine Exists.intro ((p.1+1,p.2.1.set p.1 (at_ l (at_ ks p.1).toNat),p.2.2.set p.1 [.str (at_ l (at_ ks p.1).toNat).name,.int .i64 (at_ l (at_ ks p.1).toNat).type])) ⟨?_,?_,wK,(q1Q J),(q4Q J J J J)⟩))
 ·exact⟨Hi _,by simp[aL],by simp,by rw[kh];simp[af]⟩
 ·have hlt:p.1<ks.length:=by simpa using h
  refine⟨hlt,?_,by simp[hrl],?_⟩
  ·show p.2.2.set p.1 _=List.map aL (p.2.1.set p.1 _)
   rw[hr,List.map_set];rfl
  ·show p.2.1.set p.1 _=fV (af l ks) ⟨[],0⟩ (p.1+1)
   rw[hx,← kf (by rw[bc];exact hlt),cQ hlt]
 ·have hlt:p.1<ks.length:=by simpa using h
  show ks.length-(p.1+1)<ks.length-p.1
  omega
 ·have hge:ks.length≤p.1:=by simpa using h
  have e:p.2.2.take ks.length=(af l ks).map aL:=by
   rw[G1 (by omega),hr,hx,show p.1=(af l ks).length by rw[bc];omega,lZ]
  show AV.one (AC.d (.sl 2 24 (p.2.2.take ks.length)))=_
  rw[e];rfl
theorem DN(ds:List Attr)(names:List (List UInt8))(hn:names.length≤1048576)(h:eo ds [] names=none):CallA Tryz.prog 150 [.one (.d (al ds)),.one (.d (dj names)),.one (.d (.fn 151 []))] [] (.tup [(false,[.d .nil]),(false,[.d (.bool false)])]) []:=by
 have h1:=CS ds names hn
 rw[h] at h1;exact h1
theorem DO(ds:List Attr)(names:List (List UInt8))(hn:names.length≤1048576)(ks:List Int)(h:eo ds [] names=some ks):CallA Tryz.prog 150 [.one (.d (al ds)),.one (.d (dj names)),.one (.d (.fn 151 []))] [] (.tup [(false,[.d (aC ks)]),(false,[.d (.bool true)])]) []:=by
 have h1:=CS ds names hn
 rw[h] at h1;exact h1
theorem BS{ats:List Attr}{n:List UInt8}(h:¬ atX ats n<0):0≤atX ats n∧(atX ats n).toNat<ats.length:=by
 obtain⟨k,h1,h2,_⟩:=jO h
 unfold atX;omega
structure SelK (ats:List Attr) (names:List (List UInt8)) (ks:List Int):Prop where
 eq:ks=names.map (atX ats)
 rng:∀ i,i<ks.length→0≤at_ ks i∧(at_ ks i).toNat<ats.length
 few:ks.length≤ats.length
theorem BT{ats:List Attr}{names:List (List UInt8)}{ks:List Int}(h:eo ats [] names=some ks):SelK ats names ks:=by
 obtain⟨e1,e2,e3⟩:=vJ h
 simp only[HQ] at e1
 have hr:∀ k∈ks,0≤k∧k.toNat<ats.length:=fun k hk=>by
  rw[e1] at hk
  obtain⟨n,hn,rfl⟩:=Hh.1 hk
  exact BS (e2 n hn)
 refine⟨e1,fun i hi=>hr _ (aW hi),?_⟩
 have hn:(ks.map Int.toNat).Nodup:=by
  have h4:=e3 (by simp)
  clear e1 e3 h
  induction ks with
  | nil=>simp
  | cons x r ih =>
    rw[H5] at h4
    rw[HE,H5]
    refine⟨fun hm=>?_,ih (fun k hk=>hr k (G9 _ hk)) h4.2⟩
    obtain⟨y,hy,he⟩:=Hh.1 hm
    have h5:=(hr x Hc).1
    have h6:=(hr y (G9 _ hy)).1
    exact h4.1 (by rw[show x=y by omega];exact hy)
 have h7:=pU hn (m:=ats.length) fun x hx=>by
  obtain⟨k,hk,rfl⟩:=Hh.1 hx
  exact (hr k hk).2
 simpa using h7
theorem xa(a:Arr)(names:List (List UInt8)) :
  ((!bj [a])=true∧ed a names=(none,2)) ∨
  ((!bj [a])=false∧(((names.map bp).length:Int)==0)=true∧ed a names=(none,2)) ∨
  ((!bj [a])=false∧(((names.map bp).length:Int)==0)=false∧eo a.attrs [] names=none∧ed a names=(none,11)) ∨
  ((!bj [a])=false∧(((names.map bp).length:Int)==0)=false∧∃ ks,eo a.attrs [] names=some ks∧SelK a.attrs names ks∧OkA a.dims a.attrs a.cells∧ed a names=(some ⟨a.dims,af a.attrs ks,bI (a.cells.map (pjC ks))⟩,0)):=by
 by_cases hc:ba a=0
 rotate_left
 ·exact .inl ⟨by simp[bj,hc],by unfold ed;rw[if_pos (.inl hc)]⟩
 have hv:(!bj [a])=false:=by simp[bj,hc]
 refine .inr ?_
 by_cases h2:names.length=0
 ·exact .inl ⟨hv,by simp[h2],by unfold ed;rw[if_pos (.inr h2)]⟩
 have hb:(((names.map bp).length:Int)==0)=false:=by simpa using h2
 refine .inr ?_
 have hg:¬ (ba a≠0∨names.length=0):=by rintro (h|h);exact h hc;exact h2 h
 cases hs:eo a.attrs [] names with
 | none=>exact .inl ⟨hv,hb,rfl,by unfold ed;rw[if_neg hg,hs]⟩
 | some ks =>
   refine .inr ⟨hv,hb,ks,rfl,BT hs,okA hc,?_⟩
   unfold ed
   rw[if_neg hg,hs]
   simp only[dH]
   rw[if_neg (by rw[G2];have:=(okA hc).few;omega)]
theorem EF(ds:List Dim)(ats:List Attr)(cs:List Cell)(ys:List (List D))(hd:cs.Pairwise cx)(hf:cs.length≤4096)(hy:ys=cs.map ay):CallA Tryz.prog 99 [.one (.d (ar ds)),.one (.d (al ats)),.one (.d (.sl 2 48 ys))] [] (.tup [(true,[.d (ar ds),.d (al ats),.d (aG (bI cs))]),(false,[.d (.int .i64 0)])]) [] :=
 zV ds ats cs _ ys hd hf rfl hy
set_option maxHeartbeats 4000000 in
theorem c50(a:Arr)(names:List (List UInt8))(hnn:names.length≤1048576):CallA Tryz.prog 50 [bB a,.one (.d (dj names))] [] (gl (ed a names)) []:=by
 unfold bB
 refine enter ag Tryz.func50 rfl (by decide +kernel) rfl fun hok w0 σ0 φ0 M=>?_
 clear hok
 rcases xa a names with⟨hv,e⟩|⟨hv,hb1,e⟩|⟨hv,hb1,hs,e⟩|⟨hv,hb1,ks,hs,hK,hA,e⟩
 all_goals rw[e]
 rotate_right
 have hcn:=hA.few
 have ha6:=(aV hA.sch).2.2.1
 have hkn:ks.length≤1000:=by have:=hK.few;omega
 have hkc:∀ j,j<a.cells.length→∀ i,i<ks.length→0≤at_ ks i∧(at_ ks i).toNat<(at_ a.cells j).vals.length:=fun j hj i hi=>by
  rw[(cellF_ok.1 (hA.cel _ (aW hj))).2.1];exact hK.rng i hi
 have hdf:(a.cells.map (pjC ks)).Pairwise cx:=HR.2 ((bP hA.srt).imp fun h=>h)
 repeat' (first|(refine h1H ?_;(refine h0H ?_;first|refine cm [2] J J J J J J J J J (c96 [a]) J ?_|refine aj J J J J J J J J (DN a.attrs names hnn (by assumption)) J ?_|refine bF 16 J J J J J J J J (DO a.attrs names hnn _ hs) J J J ?_))|(refine h4H ?_;(refine h3H ?_;first|refine ef 16 J J J J J J J J (ED (at_ a.cells (p.1:Int).toNat).vals ks hkn (hkc _ wB)) J J ?_|refine ef 16 J J J J J J J J (EE a.attrs ks hkn hK.rng) J J ?_|refine vG 16 [10] J J J J J J J J J (EF a.dims (af a.attrs ks) (a.cells.map (pjC ks)) _ hdf (by rw[G2];omega) (by rw[hr,G1 (by simp;omega),G1 wB,HM];rfl)) J J ?_))|refine wG ?_|(refine h2H ?_;first|refine aA J (fun h=>?_) (fun h=>?_)|refine eh 8 J (dQ (s:=8) (id:=10) (k:=2) (b:=48) J J J J) [(2,_),(4,_),(6,_),(32,_),(33,_)] (q5Q J J J J J) (fun (bN:Bool×Bool) (p:Nat×List (List D))=>[(8,.one (.own (nmA bN) p.1)),(34,.one (.d (.int .i64 (p.1:Int))))]) (fun (bN:Bool×Bool) (p:Nat×List (List D))=>[((nmA bN),.row 2 48 p.2),(0,.box [.d (ar a.dims),.d (al a.attrs),.d (aG a.cells)]),(1,.box [.d .nil,.d .nil,.d .nil])]) (fun (p:Nat×List (List D))=>p.1≤a.cells.length∧p.2=(a.cells.take p.1).map (fun c=>ay (pjC ks c))) (fun (p:Nat×List (List D))=>a.cells.length-p.1) (0,[]) (q2Q J J) wK (fun b y=>by obtain⟨b1,b2⟩:=b;cases b1<;>cases b2<;>first|exact Imp.refl _|exact ei qN (by kernel_rfl)) ?_ (fun p ⟨hk,hr⟩=>?_))|(show Exists _;refine Exists.intro ((p.1+1,p.2.take p.1++[ay (pjC ks (at_ a.cells p.1))])) (Exists.intro (true,false) ⟨?_,?_,wK,(q2Q J J),(q5Q J J J J J)⟩)))
 all_goals first
  | rfl
  | exact⟨Hi _,rfl⟩
  | (have hlt:p.1<a.cells.length:=by simpa using h
     exact⟨hlt,il (fun c=>ay (pjC ks c)) a.cells hr hlt⟩)
  | (have hlt:p.1<a.cells.length:=by simpa using h
     show a.cells.length-(p.1+1)<a.cells.length-p.1
     omega)
  | skip
end Go.Proofs.YtpejdgkaapnekaaGreat
