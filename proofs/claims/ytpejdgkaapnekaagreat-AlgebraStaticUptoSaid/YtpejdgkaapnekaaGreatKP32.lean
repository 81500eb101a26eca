import Derived.Test.YtpejdgkaapnekaaGreatKP23
import Derived.Test.YtpejdgkaapnekaaGreatKP15
import Derived.Test.YtpejdgkaapnekaaGreatKKZ
import Derived.Test.YtpejdgkaapnekaaGreatKP18
import Derived.Test.YtpejdgkaapnekaaGreatKP22
import Derived.Test.YtpejdgkaapnekaaGreatKP19
import Derived.Test.YtpejdgkaapnekaaGreatKP14
set_option linter.unusedVariables false
set_option linter.unusedSimpArgs false
set_option linter.unnecessarySimpa false
set_option maxHeartbeats 1000000
namespace Go.Proofs.YtpejdgkaapnekaaGreat
open Go Go.Abs
attribute [local irreducible] aa OkC ak av aq aI
set_option maxRecDepth 10000
theorem EF{s:Scalar}(h:gz s=0):gu s=true∧(bB s).length≤64:=by
 have h3:=zR (bB s) 0 true (by omega)
 unfold gz at h
 split at h
 ·omega
 ·by_cases hc:64<((bB s).length:Int)
  ·rw[h3.1 (by omega)] at h;omega
  ·rw[h3.2 (by omega),Bool.true_and,← I3] at h
   refine⟨?_,by omega⟩
   cases hp:gu s with
   | true=>rfl
   | false=>rw[hp] at h;simp at h
def b8(ds:List Dim)(ats:List Attr)(cs:List Cell)(s:Scalar):Int×Int :=
 if bf ds ats cs≠0 then (0,2) else if gz s≠0 then (0,gz s) else dM dN ds ats s
theorem c20(ds:List Dim)(ats:List Attr)(cs:List Cell)(s:Scalar):CallA Tryz.prog 20 [.agg [.d (ai ds),.d (ao ats),.d (aC cs)],fc s] [] (ie (b8 ds ats cs s)) []:=by
 refine enter af Tryz.func20 rfl (by decide +kernel) rfl fun hok w0 σ0 φ0 M=>?_
 clear hok
 by_cases h1:bf ds ats cs=0
 ·have hb1:(bf ds ats cs != 0)=false:=by simp[h1]
  by_cases h2:gz s=0
  ·have hb2:(gz s != 0)=false:=by simp[h2]
   obtain⟨hp,hsz⟩:=EF h2
   have e:b8 ds ats cs s=dM dN ds ats s:=by simp[b8,h1,h2]
   rw[e]
   repeat' (first|(refine h1H ?_;(refine h0H ?_;first|refine ae J J J J J J J J (c59 _ _ _) J ?_|refine ae J J J J J J J J (c87 _) J ?_|refine ae J J J J J J J J (c88 _ _ _ _ (by assumption) (by assumption)) J ?_))|refine wG ?_)
   all_goals rfl
  ·have hb2:(gz s != 0)=true:=by simp[h2]
   have e:b8 ds ats cs s=(0,gz s):=by simp[b8,h1,h2]
   rw[e]
   repeat' (first|(refine h1H ?_;(refine h0H ?_;first|refine ae J J J J J J J J (c59 _ _ _) J ?_|refine ae J J J J J J J J (c87 _) J ?_))|refine wG ?_)
   all_goals rfl
 ·have hb1:(bf ds ats cs != 0)=true:=by simp[h1]
  have e:b8 ds ats cs s=(0,2):=by simp[b8,h1]
  rw[e]
  repeat' (first|(refine h1H ?_;(refine h0H ?_;refine ae J J J J J J J J (c59 _ _ _) J ?_))|refine wG ?_)
  all_goals rfl
theorem c19:CallA Tryz.prog 19 [] [] (.one (.d (.bool true))) []:=P2
end Go.Proofs.YtpejdgkaapnekaaGreat
namespace Go.Proofs.YtpejdgkaapnekaaGreat
open Go Go.Abs
def gN:List Int→Int
 | []=>0
 | d::r=>d+1000000000*gN r
def Dw(l:List Int):Prop:=∀ d∈l,0≤d∧d<1000000000
def dw(n:Nat):List Int:=if h:n=0 then [] else ((n % 1000000000:Nat):Int)::dw (n / 1000000000)
 termination_by n
 decreasing_by omega
def pu(k:Nat):Int:=1000000000^k
theorem yM(k:Nat):pu (k+1)=1000000000*pu k:=by unfold pu;rw[Int.pow_succ,XI]
theorem Fq:pu 0=1:=rfl
theorem Dq(k:Nat):0<pu k:=by
 induction k with
 | zero=>decide
 | succ k ih=>rw[yM];omega
theorem QG(a b:Nat):pu (a+b)=pu a*pu b:=by unfold pu;rw[Int.pow_add]
theorem Dr:∀ {a b:List Int},gN (a++b)=gN a+pu a.length*gN b
 | [],b=>by simp[gN,Fq]
 | d::a,b=>by
   simp only[XL,gN,Dr (a:=a) (b:=b),Xq,yM,XS,Xx]
   omega
theorem Dw.cons{d:Int}{r:List Int}(h:Dw (d::r)):(0≤d∧d<1000000000)∧Dw r:=⟨h d Xd,fun x hx=>h x (Xa _ hx)⟩
theorem Dw.at{l:List Int}(h:Dw l){i:Nat}(hi:i<l.length):0≤at_ l i∧at_ l i<1000000000:=h _ (aU hi)
theorem Dw.take{l:List Int}(h:Dw l)(n:Nat):Dw (l.take n):=fun d hd=>h d (List.mem_of_mem_take hd)
theorem Dw.drop{l:List Int}(h:Dw l)(n:Nat):Dw (l.drop n):=fun d hd=>h d (List.mem_of_mem_drop hd)
theorem yN:∀ {l:List Int},Dw l→0≤gN l∧gN l<pu l.length
 | [],_=>by simp[gN,Fq]
 | d::r,h=>by
   obtain⟨h1,h2⟩:=h.cons
   have:=yN h2
   simp only[gN,Xq,yM]
   omega
theorem Ew:dw 0=[]:=by rw[dw];simp
theorem sI{n:Nat}(h:n≠0):dw n=((n % 1000000000:Nat):Int)::dw (n / 1000000000):=by rw[dw];simp[h]
theorem Mh:∀ (n:Nat),Dw (dw n)∧gN (dw n)=n∧(dw n=[]∨at_ (dw n) ((dw n).length-1)≠0):=by
 intro n
 induction n using Nat.strongRecOn with
 | _ n ih =>
   by_cases h:n=0
   ·subst h;rw[Ew];exact⟨fun d hd=>by simp at hd,rfl,.inl rfl⟩
   ·obtain⟨i1,i2,i3⟩:=ih (n / 1000000000) (by omega)
    rw[sI h]
    refine⟨fun d hd=>?_,?_,.inr ?_⟩
    ·rcases Xo.1 hd with rfl|hd
     ·omega
     ·exact i1 d hd
    ·simp only[gN,i2];omega
    ·rcases i3 with i3|i3
     ·rw[i3]
      have h0:n / 1000000000=0:=by rw[i3] at i2;simp only[gN] at i2;omega
      show ((n % 1000000000:Nat):Int)≠0
      omega
     ·cases hd:dw (n / 1000000000) with
      | nil =>
        rw[hd] at i2;simp only[gN] at i2
        show ((n % 1000000000:Nat):Int)≠0
        omega
      | cons e r =>
        rw[hd] at i3
        show at_ (_::e::r) (r.length+1)≠0
        exact i3
theorem JD{l:List Int}{k:Nat}(h:k<l.length):gN (l.take (k+1))=gN (l.take k)+pu k*at_ l k:=by
 rw[ez h,Dr,XU,Nat.min_eq_left (by omega)];simp[gN]
theorem Dw.set{l:List Int}{k:Nat}{x:Int}(h:Dw l)(hx:0≤x∧x<1000000000):Dw (l.set k x):=fun d hd=>by
 rcases List.mem_or_eq_of_mem_set hd with hd|rfl
 ·exact h d hd
 ·exact hx
theorem Dw.zeros(n:Nat):Dw (List.replicate n 0):=fun d hd=>by rw[XQ hd];omega
theorem CD{a b:List Int}(ha:Dw a)(hb:Dw b)(hn:b=[]∨at_ b (b.length-1)≠0)(hl:a.length<b.length):gN a<gN b:=by
 have h1:=(yN ha).2
 have hne:b≠[]:=fun e=>by rw[e] at hl;simp at hl
 have hn':=hn.resolve_left hne
 have h2:gN b=gN (b.take (b.length-1))+pu (b.length-1)*at_ b (b.length-1):=by
  have:=JD (l:=b) (k:=b.length-1) (by omega)
  rwa [show b.length-1+1=b.length by omega,XT] at this
 have h3:=(yN (hb.take (b.length-1))).1
 have h4:1≤at_ b (b.length-1):=by have:=hb.at (i:=b.length-1) (by omega);omega
 have h5:pu a.length≤pu (b.length-1):=by
  obtain⟨m,hm⟩:∃ m,b.length-1=a.length+m:=⟨b.length-1-a.length,by omega⟩
  rw[hm,QG]
  have:=XG (show 1≤pu m by have:=Dq m;omega) (X7 (Dq a.length))
  omega
 have h6:=XG h4 (X7 (Dq (b.length-1)))
 omega
end Go.Proofs.YtpejdgkaapnekaaGreat
namespace Go.Proofs.YtpejdgkaapnekaaGreat
open Go Go.Abs
attribute [local irreducible] aa OkC ak av aq aI
set_option maxRecDepth 10000
theorem Kp{m n:Nat}(h:(dw m).length<(dw n).length):m<n:=by
 obtain⟨a1,a2,a3⟩:=Mh m
 obtain⟨b1,b2,b3⟩:=Mh n
 have:=CD a1 b1 b3 h
 omega
theorem Dw.at'{l:List Int}(h:Dw l)(i:Nat):0≤at_ l i∧at_ l i<1000000000:=by
 by_cases hi:i<l.length
 ·exact h.at hi
 ·rw[qj (Yp hi)];omega
def dwl(n:Nat):Nat:=(dw n).length
theorem MU{m n:Nat}(h:m≤n):dwl m≤dwl n:=by
 refine Yp fun hc=>?_
 have:=Kp hc;omega
structure Hlv (y r:Nat) (q:Int×Int):Prop where
 b:0≤q.1∧q.1≤q.2∧q.2≤999999999
 lo:y*q.1.toNat≤r
 hi:r<y*(q.2.toNat+1)
theorem Io{n:Nat}(h:n<1000000000000000000000000000000000000):dwl n≤4:=by
 refine Xg (MU (show n≤999999999999999999999999999999999999 by omega)) ?_
 unfold dwl
 rw[sI (by omega),show (999999999999999999999999999999999999:Nat) / 1000000000=999999999999999999999999999 from rfl,sI (by omega),show (999999999999999999999999999:Nat) / 1000000000=999999999999999999 from rfl,
  sI (by omega),show (999999999999999999:Nat) / 1000000000=999999999 from rfl,sI (by omega),show (999999999:Nat) / 1000000000=0 from rfl,Ew]
 exact Xc _
structure RatW (a1 b1 a2 b2:Nat):Prop where
 h1:1≤b1∧b1≤1099511627776
 h2:1≤b2∧b2≤1099511627776
 l1:a1≤1099511627776
 l2:a2≤1099511627776
theorem RatW.len{a1 b1 a2 b2:Nat}(h:RatW a1 b1 a2 b2):((dw a1).length≤400∧(dw b1).length≤400∧(dw a2).length≤400∧(dw b2).length≤400)∧(dw (a1*b2)).length≤300∧(dw (a2*b1)).length≤300∧(dw (b1*b2)).length≤300∧(dw (a1*b2+a2*b1)).length≤300∧(dw (a1*b2-a2*b1)).length≤300∧(dw (a2*b1-a1*b2)).length≤300∧(dw (a1*a2)).length≤300∧(dw (b1*a2)).length≤300:=by
 have hm:∀ {x y:Nat},x≤1099511627776→y≤1099511627776→x*y≤1208925819614629174706176:=fun hx hy=>Nat.mul_le_mul hx hy
 have d:∀ {x:Nat},x≤1099511627776→(dw x).length≤400:=fun hx=>Xg (Io (Nat.lt_of_le_of_lt hx (Xz (Nat.lt_succ_self _) (W6 rfl)))) (by omega)
 have p:∀ {x:Nat},x≤2417851639229258349412352→(dw x).length≤300:=fun hx=>Xg (Io (Nat.lt_of_le_of_lt hx (Xz (Nat.lt_succ_self _) (W6 rfl)))) (by omega)
 have p1:=hm h.l1 h.h2.2
 have p2:=hm h.l2 h.h1.2
 have p3:=hm h.h1.2 h.h2.2
 have p5:=hm h.l1 h.l2
 have p6:=hm h.h1.2 h.l2
 exact⟨⟨d h.l1,d h.h1.2,d h.l2,d h.h2.2⟩,p (by omega),p (by omega),p (by omega),p (by omega),p (by omega),p (by omega),p (by omega),p (by omega)⟩
theorem NumOk.w{x y:Val}(h:NumOk x)(h':NumOk y):RatW (naV x) (dnV x) (naV y) (dnV y):=⟨h.b,h'.b,h.a,h'.a⟩
end Go.Proofs.YtpejdgkaapnekaaGreat
namespace Go.Proofs.YtpejdgkaapnekaaGreat
open Go Go.Abs
end Go.Proofs.YtpejdgkaapnekaaGreat
namespace Go.Proofs.YtpejdgkaapnekaaGreat
open Go Go.Abs
attribute [local irreducible] aa OkC ak av aq aI
set_option maxRecDepth 10000
theorem yg{ds:List Dim}{ats:List Attr}{cs:List Cell}{s:Scalar}(h:(b8 ds ats cs s).2=0):bf ds ats cs=0∧gu s=true∧(bB s).length≤64∧∀ z∈bB s,yh ds ats z:=by
 unfold b8 at h
 by_cases h1:bf ds ats cs=0
 ·rw[if_neg (by simpa using h1)] at h
  by_cases h2:gz s=0
  ·rw[if_neg (by simpa using h2)] at h
   obtain⟨hp,hsz⟩:=EF h2
   exact⟨h1,hp,hsz,PK s hp h⟩
  ·rw[if_pos h2] at h;exact absurd h h2
 ·rw[if_pos h1] at h;simp at h
end Go.Proofs.YtpejdgkaapnekaaGreat
namespace Go.Proofs.YtpejdgkaapnekaaGreat
open Go Go.Abs
attribute [local irreducible] aa OkC ak av aq aI
set_option maxRecDepth 10000
def ln(src:List (Int×Bool))(c:Cell)(k:Nat):List Int:=(List.range src.length).map fun i=>if i<k then (ofS (at_ src i) c).num else 0
section
variable {src:List (Int×Bool)} {c:Cell} {k:Nat}
theorem OH{n i:Nat}(h:i<n):at_ (List.range n) i=i:=by simp[at_,Xi,h]
theorem ju:(ln src c k).length=src.length:=by simp[ln]
theorem tw{i:Nat}(h:i<src.length):at_ (ln src c k) i=if i<k then (ofS (at_ src i) c).num else 0:=by
 unfold ln;rw[bj (by simpa using h),OH h]
theorem nmix_zero:(ln src c 0).map aA=List.replicate src.length [.int .i64 0]:=by
 refine c5 (by simp[ju]) fun i hi=>?_
 have hi':i<src.length:=by simpa[ju] using hi
 rw[bj (by rw[ju];exact hi'),tw hi',if_neg (by omega)]
 simp[at_,Xi,hi',aA]
theorem HO(h:k<src.length):((ln src c k).map aA).set k (aA (ofS (at_ src k) c).num)=(ln src c (k+1)).map aA:=by
 rw[← XW]
 congr 1
 refine c5 (by simp[ju]) fun i hi=>?_
 have hi':i<src.length:=by simpa[ju] using hi
 rw[fP (by rw[ju];exact hi'),tw hi',tw hi']
 by_cases e:i=k
 ·subst e;simp
 ·by_cases h1:i<k
  ·rw[if_neg e,if_pos h1,if_pos (by omega)]
  ·rw[if_neg e,if_neg h1,if_neg (by omega)]
theorem Bg:ln src c src.length=b6 src c:=by
 refine c5 (by simp[ju,b6]) fun i hi=>?_
 rw[ju] at hi
 rw[tw hi,if_pos hi,b6,bj hi]
end
theorem SV(ds:List Dim)(ys:List (List D))(at':List Int)(hy:ys=at'.map aA)(hl:at'.length=ds.length):CallA Tryz.prog 98 [.one (.d (ai ds)),.one (.d (.sl 1 8 ys))] [] (.one (.d (.bool (bF ds at')))) []:=by
 subst hy;exact c98 ds at' hl
def p7(src:List (Int×Bool))(ds:List Dim)(c:Cell):AV:=if src.all (fun s=>(ofS s c).kind==2) then .tup [(false,[.d (ar (b6 src c))]),(false,[.d (.bool (bF ds (b6 src c)))])] else .tup [(false,[.d .nil]),(false,[.d (.bool false)])]
theorem OI(c:Cell)(src:List (Int×Bool))(ds:List Dim)(hl:src.length=ds.length)(h4:src.length≤1000)(hs:∀ i,i<src.length→okS (at_ src i) c):CallA Tryz.prog 109 [.agg [.d (ar c.at'),.d (aY c.vals)],.one (.d (nI src)),.one (.d (ai ds))] [] (p7 src ds c) []:=by
 refine enter af Tryz.func109 rfl (by decide +kernel) rfl fun hok w0 σ0 φ0 M=>?_
 clear hok
 have hnl:(b6 src c).length=ds.length:=by simp[b6,hl]
 repeat' (first|(refine h1H ?_;(refine h6H ?_;refine eG envOk 10 J J J (bZ (n:=src.length) J J J J J (by simp) (by simp) (by omega) (W6 J)) J J ?_))|(refine h1H ?_;(refine h0H ?_;first|refine ae J J J J J J J J (OJ _ c (hs _ wB)) J ?_|refine aT [10] J J J J J J J J J (SV ds _ (b6 src c) (by rw[WY (by omega),hr,show p.1=src.length from wB,Bg]) hnl) J ?_))|(refine h2H ?_;refine bm (bq (dl:=[10]) J) (cr ?_))|refine wG ?_|(refine h2H ?_;first|refine aj J (fun h=>?_) (fun h=>?_)|refine cm 3 J [(2,_),(3,_),(8,_),(15,_),(16,_)] (q5Q J J J J J) (fun (p:Nat×List (List D))=>[(17,.one (.d (.int .i64 (p.1:Int))))]) (fun (p:Nat×List (List D))=>[(10,.row 1 8 p.2),(0,.box [.d (ar c.at'),.d (aY c.vals)])]) (fun (p:Nat×List (List D))=>p.1≤src.length∧p.2.length=src.length∧p.2=(ln src c p.1).map aA∧(∀ i,i<p.1→(ofS (at_ src i) c).kind=2)) (fun (p:Nat×List (List D))=>src.length-p.1) (0,List.replicate src.length [.int .i64 0]) (q1Q J) wK ?_ (fun p ⟨hk,hln,hr,ho⟩=>?_))|(show Exists _;refine Exists.intro ((p.1+1,p.2.set p.1 [.int .i64 (ofS (at_ src p.1) c).num])) ⟨?_,?_,wK,(q1Q J),(q5Q J J J J J)⟩))
 ·exact⟨Xk _,by simp,nmix_zero.symm,fun i hi=>absurd hi (Nat.not_lt_zero _)⟩
 ·have hlt:p.1<src.length:=by simpa using ‹decide ((p.1:Int)<((src.map ib).length:Int))=true›
  have hkd:¬ (src.all (fun s=>(ofS s c).kind==2))=true:=by
   intro hall
   rw[XY] at hall
   have h2:=hall _ (aU hlt)
   have h3:((ofS (at_ src p.1) c).kind != 2)=true:=h
   simp only[beq_iff_eq] at h2
   simp[h2] at h3
  unfold p7
  rw[if_neg hkd]
  rfl
 ·have hlt:p.1<src.length:=by simpa using ‹decide ((p.1:Int)<((src.map ib).length:Int))=true›
  have h3:((ofS (at_ src p.1) c).kind != 2)=false:=h
  refine⟨hlt,by simp[hln],?_,fun i hi=>?_⟩
  ·show p.2.set p.1 _=_
   rw[hr];exact HO hlt
  ·rcases XM i p.1 with h5|h5
   ·exact ho i h5
   ·have:i=p.1:=by have:i<p.1+1:=hi;omega
    rw[this];simpa using h3
 ·have hlt:p.1<src.length:=by simpa using ‹decide ((p.1:Int)<((src.map ib).length:Int))=true›
  show src.length-(p.1+1)<src.length-p.1
  omega
 ·have hpn:p.1=src.length:=by
   have:src.length≤p.1:=by simpa using h
   omega
  have hkd:(src.all (fun s=>(ofS s c).kind==2))=true:=by
   rw[XY]
   intro s hs'
   obtain⟨i,hi,rfl⟩:=cv hs'
   have:=ho i (by omega)
   simp[this]
  have e:p.2.take src.length=(b6 src c).map aA:=by rw[WY (by omega),hr,hpn,Bg]
  unfold p7
  rw[if_pos hkd]
  show AV.tup [(false,[.d (.sl 1 8 (p.2.take src.length))]),_]=_
  rw[e]
  rfl
end Go.Proofs.YtpejdgkaapnekaaGreat
namespace Go.Proofs.YtpejdgkaapnekaaGreat
open Go Go.Abs
attribute [local irreducible] aa OkC ak av aq aI
set_option maxRecDepth 10000
def bX(s:List UInt8):List D:=[.str s]
def dx(l:List (List UInt8)):D:=.sl 1 16 (l.map bX)
theorem jA{x:Int}(h:(!decide (0≤x))=false):0≤x:=by simpa using h
theorem Fg{a:Arr}{n:List UInt8}(h:(!decide (0≤(bO a.dims a.attrs n).1))=false)(h2:(!(bO a.dims a.attrs n).2)=true):(bO a.dims a.attrs n).1.toNat<a.attrs.length:=by
 have h0:=jA h
 rcases Ez (a:=a) (name:=n) (by omega) with⟨k,e,_,_⟩|⟨k,e,h3,_⟩
 ·rw[e] at h2;simp at h2
 ·rw[e];simpa using h3
theorem mH{a:Arr}{d:Dim}{r:List Dim}:eW a (d::r)=if (bO a.dims a.attrs d.name).1<0 then 11 else if !(bO a.dims a.attrs d.name).2&&(at_ a.attrs (bO a.dims a.attrs d.name).1.toNat).type != 2 then 12 else eW a r:=rfl
theorem ox{a:Arr}{n:List UInt8}{r:List (List UInt8)}:ef a (n::r)=if (bO a.dims a.attrs n).1<0 then 11 else ef a r:=rfl
theorem tR{a:Arr}{ds:List Dim}{names:List (List UInt8)}{rule e:Int}(hc:aF a=0)(h1:1≤rule)(h3:rule≤3)(he:eX a ds names=e)(h0:e≠0):kT a ds names rule=(none,e):=by
 unfold kT
 rw[if_neg (by unfold aF at hc;omega),if_pos (by rw[he];exact h0),he]
theorem zT{a:Arr}{d:Dim}{r:List Dim}(hf:0≤(bO a.dims a.attrs d.name).1)(ht:(!(bO a.dims a.attrs d.name).2&&(at_ a.attrs (bO a.dims a.attrs d.name).1.toNat).type != 2)=false):eW a (d::r)=eW a r:=by
 rw[mH,if_neg (by omega),if_neg (by rw[ht];simp)]
theorem xj{a:Arr}{ds:List Dim}{names:List (List UInt8)}{e:Int}(h:eW a ds=e)(h0:e≠0):eX a ds names=e:=by
 unfold eX;rw[if_pos (by rw[h];exact h0),h]
theorem DU{a:Arr}{ds:List Dim}{names:List (List UInt8)}{e:Int}(h0:eW a ds=0)(h:ef a names=e)(h1:e≠0):eX a ds names=e:=by
 unfold eX;rw[if_neg (by rw[h0];simp),if_pos (by rw[h];exact h1),h]
theorem xk{a:Arr}{ds:List Dim}{names:List (List UInt8)}(h0:eW a ds=0)(h:ef a names=0):eX a ds names=bo ds (ja a names):=by
 unfold eX;rw[if_neg (by rw[h0];simp),if_neg (by rw[h];simp)]
theorem fL{α:Type}[Inhabited α](f:α→List D)(l:List α){n:Nat}{r:List (List D)}(h:r=(l.take n).map f)(hlt:n<l.length):r.take n++[f (at_ l n)]=(l.take (n+1)).map f:=by
 rw[h];exact uH f l hlt
theorem Le{a:Arr}{names:List (List UInt8)}{n:Nat}{r:List (List D)}(h:r=(names.take n).map (fun x=>ib (bO a.dims a.attrs x)))(hn:names.length≤n):r.take n=(bL a names).map ib:=by
 rw[h,WY (by simp;omega),WY hn];simp[bL]
theorem Lf{a:Arr}{names:List (List UInt8)}{n:Nat}{r:List (List D)}(h:r=(names.take n).map (fun x=>aS ⟨x,ry a.attrs (bO a.dims a.attrs x)⟩))(hn:names.length≤n):r.take n=(ja a names).map aS:=by
 rw[h,WY (by simp;omega),WY hn];simp[ja]
theorem Fh{a:Arr}(hA:OkA a.dims a.attrs a.cells){n:List UInt8}(h:¬ (bO a.dims a.attrs n).1<0){c:Cell}(hc:c∈a.cells):okS (bO a.dims a.attrs n) c:=by
 obtain⟨e1,e2,e3,e4⟩:=cellF_ok.1 (hA.cel c hc)
 rcases Ez h with⟨k,h1,h2,h3⟩|⟨k,h1,h2,h3⟩
 ·rw[h1]
  exact⟨Yq _,fun _=>by show k<_;omega,fun h=>by cases h⟩
 ·rw[h1]
  exact⟨Yq _,(fun h=>by cases h),fun _=>by show k<_;omega⟩
theorem zU{a:Arr}:∀ {l:List Dim},eW a l=0→∀ d∈l,¬ (bO a.dims a.attrs d.name).1<0
 | [],_,_,h=>by simp at h
 | x::r,h,d,hd=>by
   rw[mH] at h
   split at h
   ·omega
   split at h
   ·omega
   rename_i h1 h2
   rcases Xo.1 hd with rfl|hd
   ·exact h1
   ·exact zU h d hd
section
variable {src kept:List (Int×Bool)} {ds:List Dim} {rule:Int} {c:Cell} {cs cs' l:List Cell} {x:List Int} {j:Nat}
theorem zV{j:Nat}:bC x (cs.map Cell.at') j=(if aK (fun c:Cell=>c.at'==x) cs j<0 then none else some (aK (fun c:Cell=>c.at'==x) cs j).toNat):=by
 induction cs generalizing j with
 | nil=>rfl
 | cons c r ih =>
   by_cases hb:(c.at'==x)=true
   ·simp[bC,aK,hb]
   ·have hb':(c.at'==x)=false:=by simpa using hb
    simp only[XK,bC,aK,hb',XD,if_false]
    exact ih
theorem zD(o:Option Nat):o=none∨∃ j,o=some j:=by cases o<;>simp
theorem Lg(h:bC x (cs.map Cell.at') 0=none):gy x cs<0:=by
 rw[zV] at h
 by_cases h1:gy x cs<0
 ·exact h1
 ·rw[if_neg (show ¬ aK (fun c:Cell=>c.at'==x) cs 0<0 from h1)] at h;cases h
theorem vI(h:bC x (cs.map Cell.at') 0=some j):gy x cs=(j:Int):=by
 rw[zV] at h
 by_cases h1:gy x cs<0
 ·rw[if_pos (show aK (fun c:Cell=>c.at'==x) cs 0<0 from h1)] at h;cases h
 ·rw[if_neg (show ¬ aK (fun c:Cell=>c.at'==x) cs 0<0 from h1)] at h
  cases h
  have:gy x cs=aK (fun c:Cell=>c.at'==x) cs 0:=rfl
  omega
theorem CY(hm:gx src ds c=none):dR src kept ds rule cs c=some cs:=by unfold dR;rw[hm]
theorem N6(hm:gx src ds c=some x)(h:gy x cs<0):dR src kept ds rule cs c=some (cs++[lB kept x c]):=by
 unfold dR;rw[hm];exact if_pos h
theorem Lh(hm:gx src ds c=some x)(h:gy x cs=(j:Int))(h1:rule=1):dR src kept ds rule cs c=none:=by
 unfold dR;rw[hm]
 show (if _ then _ else if _ then _ else _)=_
 rw[if_neg (by omega),if_pos h1]
theorem Li(hm:gx src ds c=some x)(h:gy x cs=(j:Int))(h3:rule=3):dR src kept ds rule cs c=some (cs.set j (lB kept x c)):=by
 unfold dR;rw[hm]
 show (if _ then _ else if _ then _ else if _ then _ else _)=_
 rw[if_neg (by omega),if_neg (by omega),if_pos h3,h,Xr]
theorem Ll(hm:gx src ds c=some x)(h:gy x cs=(j:Int))(h1:rule≠1)(h3:rule≠3):dR src kept ds rule cs c=some cs:=by
 unfold dR;rw[hm]
 show (if _ then _ else if _ then _ else if _ then _ else _)=_
 rw[if_neg (by omega),if_neg h1,if_neg h3]
theorem qA(h:dR src kept ds rule cs c=some cs'):gb src kept ds rule cs (c::l)=gb src kept ds rule cs' l:=by simp only[gb,h]
theorem N7(h:dR src kept ds rule cs c=none):gb src kept ds rule cs (c::l)=none:=by simp only[gb,h]
theorem Lm(hm:¬ src.all (fun s=>(ofS s c).kind==2)=true):gx src ds c=none:=by unfold gx;rw[if_neg hm]
theorem Jl(hm:src.all (fun s=>(ofS s c).kind==2)=true)(hw:(!bF ds (b6 src c))=true):gx src ds c=none:=by
 unfold gx;rw[if_pos hm,if_neg (by simpa using hw)]
theorem rM(hm:src.all (fun s=>(ofS s c).kind==2)=true)(hw:(!bF ds (b6 src c))=false):gx src ds c=some (b6 src c):=by
 unfold gx;rw[if_pos hm,if_pos (by simpa using hw)]
end
theorem Jm{a:Arr}{ds:List Dim}{names:List (List UInt8)}{rule:Int}{cs:List Cell}(hc:aF a=0)(h1:1≤rule)(h3:rule≤3)(hre:eX a ds names=0)(h:gb (bG a ds) (bL a names) ds rule [] a.cells=some cs)(hl:cs.length≤4096):kT a ds names rule=(some ⟨ds,ja a names,cg cs⟩,0):=by
 unfold kT
 rw[if_neg (by unfold aF at hc;omega),if_neg (by simp[hre]),h]
 simp only[cn]
 rw[if_neg (by omega)]
theorem Jn{a:Arr}{ds:List Dim}{names:List (List UInt8)}{rule:Int}(hc:aF a=0)(h1:1≤rule)(h3:rule≤3)(hre:eX a ds names=0)(h:gb (bG a ds) (bL a names) ds rule [] a.cells=none):kT a ds names rule=(none,19):=by
 unfold kT
 rw[if_neg (by unfold aF at hc;omega),if_neg (by simp[hre]),h]
theorem RV(c:Cell)(src:List (Int×Bool))(ds:List Dim)(hl:src.length=ds.length)(h4:src.length≤1000)(hs:∀ i,i<src.length→okS (at_ src i) c)(hm:src.all (fun s=>(ofS s c).kind==2)=true) :
  CallA Tryz.prog 109 [.agg [.d (ar c.at'),.d (aY c.vals)],.one (.d (nI src)),.one (.d (ai ds))] [] (.tup [(false,[.d (ar (b6 src c))]),(false,[.d (.bool (bF ds (b6 src c)))])]) []:=by
 have h:=OI c src ds hl h4 hs
 unfold p7 at h
 rw[if_pos hm] at h
 exact h
theorem RW(c:Cell)(src:List (Int×Bool))(ds:List Dim)(hl:src.length=ds.length)(h4:src.length≤1000)(hs:∀ i,i<src.length→okS (at_ src i) c)(hm:¬ src.all (fun s=>(ofS s c).kind==2)=true) :
  CallA Tryz.prog 109 [.agg [.d (ar c.at'),.d (aY c.vals)],.one (.d (nI src)),.one (.d (ai ds))] [] (.tup [(false,[.d .nil]),(false,[.d (.bool false)])]) []:=by
 have h:=OI c src ds hl h4 hs
 unfold p7 at h
 rw[if_neg hm] at h
 exact h
set_option maxHeartbeats 8000000 in
theorem c29(a:Arr)(ds:List Dim)(names:List (List UInt8))(rule:Int)(hdl:ds.length≤1048576)(hnames:names.length≤1048576):CallA Tryz.prog 29 [aO a,.one (.d (ai ds)),.one (.d (dx names)),.one (.d (.int .i64 rule))] [] (dE (kT a ds names rule)) []:=by
 unfold aO
 refine enter af Tryz.func29 rfl (by decide +kernel) rfl fun hok w0 σ0 φ0 M=>?_
 clear hok
 by_cases hg:aF a=0∧1≤rule∧rule≤3
 rotate_left
 ·have e:kT a ds names rule=(none,2):=by
   unfold kT
   rw[if_pos (by unfold aF at hg;omega)]
  rw[e]
  by_cases hc:aF a=0
  ·have hv:(!aG [a])=false:=by simp[aG,hc]
   by_cases h1:rule<1
   ·have hb1:decide (rule<1)=true:=by simp[h1]
    repeat' (first|(refine h1H ?_;(refine h0H ?_;refine aT [2] J J J J J J J J J (c96 [a]) J ?_))|refine wG ?_)
    all_goals rfl
   ·have hb1:decide (rule<1)=false:=by simp[h1]
    have hb2:decide (3<rule)=true:=by simp;omega
    repeat' (first|(refine h1H ?_;(refine h0H ?_;refine aT [2] J J J J J J J J J (c96 [a]) J ?_))|refine wG ?_)
    all_goals rfl
  ·have hv:(!aG [a])=true:=by simp[aG,hc]
   repeat' (first|(refine h1H ?_;(refine h0H ?_;refine aT [2] J J J J J J J J J (c96 [a]) J ?_))|refine wG ?_)
   all_goals rfl
 obtain⟨hc,h1,h3⟩:=hg
 have hv:(!aG [a])=false:=by simp[aG,hc]
 have hb1:decide (rule<1)=false:=by simp;omega
 have hb2:decide (3<rule)=false:=by simp;omega
 have hA:=okA hc
 repeat' (first|(refine h1H ?_;(refine h0H ?_;first|refine aT [2] J J J J J J J J J (c96 [a]) J ?_|refine ae J J J J J J J J (Pq a _) J ?_))|(refine h1H ?_;(refine nW ?_;refine s_e envOk J J J (dr J J J J J (jA (by assumption)) (dZ (Fg (by assumption) (by assumption)))) ?_))|refine wG ?_|(refine h1H ?_;(refine dv ?_;refine bx J J J J (fun h=>?_) (fun h=>?_)))|(refine h2H ?_;first|refine aj J (fun h=>?_) (fun h=>?_)|refine ep 6 J (dm (s:=10) (id:=10) (k:=2) (b:=16) J J J J) [(1,_),(2,_),(3,_),(4,_),(8,_),(11,_),(12,_),(47,_),(48,_)] (q9Q J J J J J J J J J) (fun (bN:Bool×Bool) (p:Nat×List (List D))=>[(10,.one (.own 10 p.1)),(49,.one (.d (.int .i64 (p.1:Int))))]) (fun (bN:Bool×Bool) (p:Nat×List (List D))=>[(10,.row 2 16 p.2),(0,.box [.d (ai a.dims),.d (ao a.attrs),.d (aC a.cells)]),(1,.box [.d .nil,.d .nil,.d .nil])]) (fun (p:Nat×List (List D))=>p.1≤ds.length∧p.2=(ds.take p.1).map (fun d=>ib (bO a.dims a.attrs d.name))∧eW a ds=eW a (ds.drop p.1)) (fun (p:Nat×List (List D))=>ds.length-p.1) (0,[]) (q2Q J J) wK (fun b y=>by obtain⟨b1,b2⟩:=b;cases b1<;>cases b2<;>first|exact Imp.refl _|exact eu qN (by kernel_rfl)) ?_ (fun p ⟨hp1,hp2,hp3⟩=>?_))|(show Exists _;refine Exists.intro ((p.1+1,p.2.take p.1++[[.int .i64 (bO a.dims a.attrs (at_ ds p.1).name).1,.bool (bO a.dims a.attrs (at_ ds p.1).name).2]])) (Exists.intro (false,false) ⟨?_,?_,wK,(q2Q J J),(q9Q J J J J J J J J J)⟩)))
 ·exact⟨Xk _,rfl,rfl⟩
 ·have hlt:p.1<ds.length:=by simpa using ‹decide ((p.1:Int)<((ds.map ax).length:Int))=true›
  have hs:=mH (a:=a) (d:=at_ ds p.1) (r:=ds.drop (p.1+1))
  rw[← au hlt,← hp3] at hs
  have h':(!decide (0≤(bO a.dims a.attrs (at_ ds p.1).name).1))=true:=h
  rw[if_pos (by simp at h';omega)] at hs
  rw[tR hc h1 h3 (xj hs (by decide)) (by decide)]
  rfl
 ·have hlt:p.1<ds.length:=by simpa using ‹decide ((p.1:Int)<((ds.map ax).length:Int))=true›
  have hs:=mH (a:=a) (d:=at_ ds p.1) (r:=ds.drop (p.1+1))
  rw[← au hlt,← hp3] at hs
  have h4:0≤(bO a.dims a.attrs (at_ ds p.1).name).1:=jA (by assumption)
  have h5:(!(bO a.dims a.attrs (at_ ds p.1).name).2)=true:=by assumption
  have h6:((at_ a.attrs (bO a.dims a.attrs (at_ ds p.1).name).1.toNat).type != 2)=true:=h
  rw[if_neg (by omega),if_pos (by rw[h5,h6];rfl)] at hs
  rw[tR hc h1 h3 (xj hs (by decide)) (by decide)]
  rfl
 ·have hlt:p.1<ds.length:=by simpa using ‹decide ((p.1:Int)<((ds.map ax).length:Int))=true›
  have h4:0≤(bO a.dims a.attrs (at_ ds p.1).name).1:=jA (by assumption)
  have h6:((at_ a.attrs (bO a.dims a.attrs (at_ ds p.1).name).1.toNat).type != 2)=false:=h
  refine⟨hlt,fL _ ds hp2 hlt,?_⟩
  rw[hp3,au hlt]
  exact zT h4 (by rw[h6,Bool.and_false])
 ·have hlt:p.1<ds.length:=by simpa using ‹decide ((p.1:Int)<((ds.map ax).length:Int))=true›
  show ds.length-(p.1+1)<ds.length-p.1
  omega
 ·have hlt:p.1<ds.length:=by simpa using ‹decide ((p.1:Int)<((ds.map ax).length:Int))=true›
  have h4:0≤(bO a.dims a.attrs (at_ ds p.1).name).1:=jA (by assumption)
  have h5:(!(bO a.dims a.attrs (at_ ds p.1).name).2)=false:=h
  refine⟨hlt,fL _ ds hp2 hlt,?_⟩
  rw[hp3,au hlt]
  exact zT h4 (by rw[h5,Bool.false_and])
 ·have hlt:p.1<ds.length:=by simpa using ‹decide ((p.1:Int)<((ds.map ax).length:Int))=true›
  show ds.length-(p.1+1)<ds.length-p.1
  omega
 have hpn:p.1=ds.length:=by
  have:ds.length≤p.1:=by simpa using h
  omega
 have hse:eW a ds=0:=by rw[hp3,hpn,List.drop_length];rfl
 have hfX:p.2.take p.1=(bG a ds).map ib:=by
  rw[WY (by rw[hp2];simp;omega),hp2,hpn,XT]
  simp[bG]
 refine bm (st':=⟨[(1,.one (.d (ai ds))),(3,.one (.d (.int .i64 rule))),(4,.one (.ref 0 0)),(8,.one (.ref 1 0)),(10,.one (.d (nI (bG a ds)))),(11,.one (.d .nil)),(12,.one (.d .nil)),(84,.one (.d (dx names))),(85,.one (.d (.int .i64 ((names.map bX).length:Int)))),(86,.one (.d (.int .i64 0)))],
  [(0,.box [.d (ai a.dims),.d (ao a.attrs),.d (aC a.cells)]),(1,.box [.d .nil,.d .nil,.d .nil])]⟩) (Imp.trans (bq (dl:=[10]) rfl) (lT (ab rfl (ab rfl (ab rfl (ab rfl (ab (congrArg (fun x=>some (AV.one (AC.d (D.sl 2 16 x)))) hfX) (q5Q rfl rfl rfl rfl rfl)))))) (q2Q rfl rfl))) ?_
 clear h hp1 hp2 hp3 hpn hfX
 repeat' (first|(refine h1H ?_;(refine h0H ?_;refine ae J J J J J J J J (Pq a _) J ?_))|(refine h1H ?_;(refine nW ?_;refine s_e envOk J J J (dr J J J J J (jA (by assumption)) (dZ (Fg (by assumption) (by assumption)))) ?_))|(refine h1H ?_;(refine P3 ?_;refine eG envOk 14 J J J J J J ?_))|(refine h1H ?_;(refine h0H ?_;refine ae J J J J J J J J (Kq _ _) J ?_))|(refine h2H ?_;(show OkC _ _ (Code.region 26 _ _) _ _;refine bm (st':=⟨[(1,.one (.d (ai ds))),(3,.one (.d (.int .i64 rule))),(4,.one (.ref 0 0)),(8,.one (.ref 1 0)),(10,.one (.d (nI (bG a ds)))),(11,.one (.d (nI (bL a names)))),(12,.one (.d (ao (ja a names))))],[(0,.box [.d (ai a.dims),.d (ao a.attrs),.d (aC a.cells)]),(1,.box [.d .nil,.d .nil,.d .nil])]⟩) (Imp.trans (bq (dl:=[11,12]) J) (lT (ab J (ab J (ab J (ab J (ab J (ab (congrArg (fun x=>some (AV.one (AC.d (D.sl 2 16 x)))) (Le hq2 wB)) (ab (congrArg (fun x=>some (AV.one (AC.d (D.sl 2 24 x)))) (Lf hq3 wB)) aW))))))) (q2Q J J))) ?_))|refine wG ?_|(refine h2H ?_;first|refine aj J (fun h=>?_) (fun h=>?_)|refine ep 16 J (Imp.trans (dm (s:=11) (id:=11) (k:=2) (b:=16) J J J J) (dm (s:=12) (id:=12) (k:=2) (b:=24) J J J J)) [(1,_),(3,_),(4,_),(8,_),(10,_),(84,_),(85,_)] (q7Q J J J J J J J) (fun (bN:Bool×Bool) (q:Nat×List (List D)×List (List D))=>[(11,.one (.own 11 q.1)),(12,.one (.own 12 q.1)),(86,.one (.d (.int .i64 (q.1:Int))))]) (fun (bN:Bool×Bool) (q:Nat×List (List D)×List (List D))=>[(11,.row 2 16 q.2.1),(12,.row 2 24 q.2.2),(0,.box [.d (ai a.dims),.d (ao a.attrs),.d (aC a.cells)]),(1,.box [.d .nil,.d .nil,.d .nil])]) (fun (q:Nat×List (List D)×List (List D))=>q.1≤names.length∧q.2.1=(names.take q.1).map (fun n=>ib (bO a.dims a.attrs n))∧q.2.2=(names.take q.1).map (fun n=>aS ⟨n,ry a.attrs (bO a.dims a.attrs n)⟩)∧ef a names=ef a (names.drop q.1)) (fun (q:Nat×List (List D)×List (List D))=>names.length-q.1) (0,[],[]) (q3Q J J J) wK (fun b y=>by obtain⟨b1,b2⟩:=b;cases b1<;>cases b2<;>first|exact Imp.refl _|exact eu qN (by kernel_rfl)) ?_ (fun q ⟨hq1,hq2,hq3,hq4⟩=>?_))|(show Exists _;first|refine Exists.intro ((q.1+1,q.2.1.take q.1++[[.int .i64 (bO a.dims a.attrs (at_ names q.1)).1,.bool (bO a.dims a.attrs (at_ names q.1)).2]],q.2.2.take q.1++[[.str (at_ names q.1),.int .i64 (at_ a.attrs (bO a.dims a.attrs (at_ names q.1)).1.toNat).type]])) (Exists.intro (false,false) ⟨?_,?_,wK,(q3Q J J J),(q7Q J J J J J J J)⟩)|refine Exists.intro ((q.1+1,q.2.1.take q.1++[[.int .i64 (bO a.dims a.attrs (at_ names q.1)).1,.bool (bO a.dims a.attrs (at_ names q.1)).2]],q.2.2.take q.1++[[.str (at_ names q.1),.int .i64 2]])) (Exists.intro (false,false) ⟨?_,?_,wK,(q3Q J J J),(q7Q J J J J J J J)⟩)))
 ·exact⟨Xk _,rfl,rfl,rfl⟩
 ·have hlt:q.1<names.length:=by simpa using ‹decide ((q.1:Int)<((names.map bX).length:Int))=true›
  have hs:=ox (a:=a) (n:=at_ names q.1) (r:=names.drop (q.1+1))
  rw[← au hlt,← hq4] at hs
  have h':(!decide (0≤(bO a.dims a.attrs (at_ names q.1)).1))=true:=h
  rw[if_pos (by simp at h';omega)] at hs
  rw[tR hc h1 h3 (DU hse hs (by decide)) (by decide)]
  rfl
 ·have hlt:q.1<names.length:=by simpa using ‹decide ((q.1:Int)<((names.map bX).length:Int))=true›
  have h4:0≤(bO a.dims a.attrs (at_ names q.1)).1:=jA (by assumption)
  have h5:(!(bO a.dims a.attrs (at_ names q.1)).2)=true:=h
  have e:ry a.attrs (bO a.dims a.attrs (at_ names q.1))=(at_ a.attrs (bO a.dims a.attrs (at_ names q.1)).1.toNat).type:=by
   unfold ry
   rw[show (bO a.dims a.attrs (at_ names q.1)).2=false by simpa using h5]
   rfl
  refine⟨hlt,fL _ names hq2 hlt,?_,?_⟩
  ·show q.2.2.take q.1++[[.str _,.int .i64 _]]=_
   rw[← e];exact fL (fun x=>aS ⟨x,ry a.attrs (bO a.dims a.attrs x)⟩) names hq3 hlt
  ·rw[hq4,au hlt,ox,if_neg (by omega)]
 ·have hlt:q.1<names.length:=by simpa using ‹decide ((q.1:Int)<((names.map bX).length:Int))=true›
  show names.length-(q.1+1)<names.length-q.1
  omega
 ·have hlt:q.1<names.length:=by simpa using ‹decide ((q.1:Int)<((names.map bX).length:Int))=true›
  have h4:0≤(bO a.dims a.attrs (at_ names q.1)).1:=jA (by assumption)
  have h5:(!(bO a.dims a.attrs (at_ names q.1)).2)=false:=h
  have e:ry a.attrs (bO a.dims a.attrs (at_ names q.1))=2:=by
   unfold ry
   rw[show (bO a.dims a.attrs (at_ names q.1)).2=true by simpa using h5]
   rfl
  refine⟨hlt,fL _ names hq2 hlt,?_,?_⟩
  ·show q.2.2.take q.1++[[.str _,.int .i64 _]]=_
   rw[← e];exact fL (fun x=>aS ⟨x,ry a.attrs (bO a.dims a.attrs x)⟩) names hq3 hlt
  ·rw[hq4,au hlt,ox,if_neg (by omega)]
 ·have hlt:q.1<names.length:=by simpa using ‹decide ((q.1:Int)<((names.map bX).length:Int))=true›
  show names.length-(q.1+1)<names.length-q.1
  omega
 ·have hqn:q.1=names.length:=by
   have:names.length≤q.1:=by simpa using ‹decide ((q.1:Int)<((names.map bX).length:Int))=false›
   omega
  have hke:ef a names=0:=by rw[hq4,hqn,List.drop_length];rfl
  have hsn:bo ds (ja a names)≠0:=by simpa using h
  rw[tR hc h1 h3 (xk hse hke) hsn]
  rfl
 have hqn:q.1=names.length:=by
  have:names.length≤q.1:=by simpa using ‹decide ((q.1:Int)<((names.map bX).length:Int))=false›
  omega
 have hke:ef a names=0:=by rw[hq4,hqn,List.drop_length];rfl
 have hsc:bo ds (ja a names)=0:=by simpa using h
 have hre:eX a ds names=0:=(xk hse hke).trans hsc
 have hd4:ds.length≤4:=(fp (bA hsc).1).2.1
 have hfl:(bG a ds).length=ds.length:=by simp[bG]
 have hnl:∀ c,(b6 (bG a ds) c).length=ds.length:=fun c=>by simp[b6,bG]
 have hn4:∀ c,(b6 (bG a ds) c).length≤4:=fun c=>by rw[hnl];exact hd4
 have hfs:∀ j,j<a.cells.length→∀ i,i<(bG a ds).length→okS (at_ (bG a ds) i) (at_ a.cells j):=fun j hj i hi=>by
  have hi':i<ds.length:=by rw[← hfl];exact hi
  rw[bG,bj hi']
  exact Fh hA (zU hse _ (aU hi')) (aU hj)
 have hks:∀ i j,i<(bL a names).length→j<a.cells.length→okS (at_ (bL a names) i) (at_ a.cells j):=fun i j hi hj=>by
  have hi':i<names.length:=by simpa[bL] using hi
  rw[bL,bj hi']
  exact Fh hA (wN hke _ (aU hi')) (aU hj)
 have hcn:a.cells.length≤4096:=hA.few
 have hkn:(bL a names).length≤6:=by have:=(bA hsc).2.2.1;simpa[bL,ja] using this
 clear hq1 hq2 hq3 hq4 hqn
 repeat' (first|(refine h1H ?_;(refine h0H ?_;first|refine aM 16 J J J J J J J J (RV (at_ a.cells (p.1:Int).toNat) (bG a ds) ds hfl (by omega) (hfs _ wB) (by assumption)) J J J ?_|refine aM 16 J J J J J J J J (RW (at_ a.cells (p.1:Int).toNat) (bG a ds) ds hfl (by omega) (hfs _ wB) (by assumption)) J J J ?_))|(refine h1H ?_;(refine WM ?_;(fail_if_success (have:=hmk));by_cases hmk:((bG a ds).all fun s=>(ofS s (at_ a.cells (p.1:Int).toNat)).kind==2)=true))|(refine h1H ?_;(refine KF ?_;first|refine s_e envOk J J J (CZ J J J J J J J J J (hn4 _) (fun k hk=>(hi6 k hk).trans (hnl _).symm) (by assumption)) ?_|refine s_e envOk J J J (C6 J J J J J J J J (hn4 _) (fun k hk=>(hi6 k hk).trans (hnl _).symm) (by assumption)) ?_|((fail_if_success (have:=hwk));(rcases zD (bC (b6 (bG a ds) (at_ a.cells (p.1:Int).toNat)) p.2.2.2.1 0) with hwk|⟨j,hwk⟩))))|(refine h1H ?_;(refine P4 ?_;refine jJ envOk J J (wS J J J J J J J J J J (hn4 _) (fun k hk=>(hi6 k hk).trans (hnl _).symm) (by assumption) (congrArg (fun n:Nat=>D.int .i64 (n:Int)) hi7)) ?_))|(refine h1H ?_;(refine nW ?_;refine s_e envOk J J J (ia J J J J J J (Yq _) (xl hwk hi7)) ?_))|(refine h1H ?_;(refine h7H ?_;refine jJ envOk J J (cx J J J J J J J J J (eO hi4 (by have:=xl hwk hi7;simp only[Xr];omega)) J) ?_))|(refine h1H ?_;(refine h0H ?_;first|refine eP 70 [15] J J J J J J J J J (po ds (ja a names) p.2.2.2.2 _ _ hi8 (by have:=congrArg List.length hi4;simp only[WZ] at this;omega) J (by rw[WY (by omega),hi4])) J J J ?_|refine ae J J J J J J J J (Bf _ (hn4 _)) J ?_))|(refine h2H ?_;(show OkC _ _ (Code.region 49 _ _) _ _;refine bm (bq (dl:=[10]) J) ?_))|(refine h4H ?_;(refine h3H ?_;refine d_l J J (bM J J J J J J (OJ (at_ (bL a names) (r.1:Int).toNat) (at_ a.cells (p.1:Int).toNat) (hks _ _ wB wB)) J) ?_))|refine wG ?_|(refine h2H ?_;first|refine aj J (fun h=>?_) (fun h=>?_)|refine ep 38 J (jE 3 1 10 (k:=4) (b:=40) J J (by kernel_rfl)) [(1,_),(3,_),(8,_),(10,_),(11,_),(12,_),(23,_),(24,_),(26,_),(27,_),(29,_),(129,_),(130,_),(131,_),(146,_),(147,_)] (Qe J J J J J J J J J J J J J J J J) (fun (bN:Bool×Bool) (r:Nat×List (List D))=>[(148,.one (.d (.int .i64 (r.1:Int))))]) (fun (bN:Bool×Bool) (r:Nat×List (List D))=>[(3,.box [.d (ar (b6 (bG a ds) (at_ a.cells p.1))),.own (nmA bN) r.1]),((nmA bN),.row 4 40 r.2),(2,.box [.d (ar (at_ a.cells p.1).at'),.d (aY (at_ a.cells p.1).vals)]),(15,.row 2 48 p.2.2.1),(14,.map true false (dH (fun i=>.int .i64 (i:Int)) p.2.2.2.1 0)),(0,.box [.d (ai a.dims),.d (ao a.attrs),.d (aC a.cells)]),(1,.box [.d .nil,.d .nil,.d .nil])]) (fun (r:Nat×List (List D))=>r.1≤(bL a names).length∧r.2=((bL a names).take r.1).map (fun s=>aB (ofS s (at_ a.cells p.1)))) (fun (r:Nat×List (List D))=>(bL a names).length-r.1) (0,[]) (q1Q J) wK (fun b y=>by obtain⟨b1,b2⟩:=b;cases b1<;>cases b2<;>first|exact Imp.refl _|exact eu qN (by kernel_rfl)) ?_ (fun r ⟨hr1,hr2⟩=>?_)|refine ep 32 J (dm (s:=24) (id:=15) (k:=2) (b:=48) J J J J) [(1,_),(3,_),(8,_),(10,_),(11,_),(12,_),(23,_),(129,_),(130,_)] (q9Q J J J J J J J J J) (fun (bN:Bool×Bool) (p:Nat×Nat×List (List D)×List (List Int)×List Cell)=>[(24,.one (.own 15 p.2.1)),(131,.one (.d (.int .i64 (p.1:Int))))]) (fun (bN:Bool×Bool) (p:Nat×Nat×List (List D)×List (List Int)×List Cell)=>[(15,.row 2 48 p.2.2.1),(14,.map true false (dH (fun i=>.int .i64 (i:Int)) p.2.2.2.1 0)),(0,.box [.d (ai a.dims),.d (ao a.attrs),.d (aC a.cells)]),(1,.box [.d .nil,.d .nil,.d .nil])]) (fun (p:Nat×Nat×List (List D)×List (List Int)×List Cell)=>p.1≤a.cells.length∧p.2.1=p.2.2.1.length∧p.2.1≤p.1∧p.2.2.1=p.2.2.2.2.map al∧p.2.2.2.1=p.2.2.2.2.map Cell.at'∧(∀ k∈p.2.2.2.1,k.length=ds.length)∧p.2.2.2.1.length=p.2.1∧p.2.2.2.2.Pairwise cE∧gb (bG a ds) (bL a names) ds rule [] a.cells=gb (bG a ds) (bL a names) ds rule p.2.2.2.2 (a.cells.drop p.1)) (fun (p:Nat×Nat×List (List D)×List (List Int)×List Cell)=>a.cells.length-p.1) (0,0,[],[],[]) (q2Q J J) wK (fun b y=>by obtain⟨b1,b2⟩:=b;cases b1<;>cases b2<;>first|exact Imp.refl _|exact eu qN (by kernel_rfl)) ?_ (fun p ⟨hi1,hi2,hi3,hi4,hi5,hi6,hi7,hi8,hi9⟩=>?_))|(show Exists _;first|refine Exists.intro ((p.1+1,p.2.1+1,p.2.2.1.take p.2.1++[[ar (b6 (bG a ds) (at_ a.cells p.1)),.sl 4 40 (List.take r.1 r.2)]],p.2.2.2.1++[b6 (bG a ds) (at_ a.cells p.1)],p.2.2.2.2++[lB (bL a names) (b6 (bG a ds) (at_ a.cells p.1)) (at_ a.cells p.1)])) (Exists.intro (false,false) ⟨?_,?_,wK,(q2Q J J),(q9Q J J J J J J J J J)⟩)|refine Exists.intro ((p.1+1,p.2.1,p.2.2.1.set j [ar (b6 (bG a ds) (at_ a.cells p.1)),.sl 4 40 (List.take r.1 r.2)],p.2.2.2.1,p.2.2.2.2.set j (lB (bL a names) (b6 (bG a ds) (at_ a.cells p.1)) (at_ a.cells p.1)))) (Exists.intro (false,false) ⟨?_,?_,wK,(q2Q J J),(q9Q J J J J J J J J J)⟩)|refine Exists.intro ((p.1+1,p.2)) (Exists.intro (false,false) ⟨?_,?_,wK,(q2Q J J),(q9Q J J J J J J J J J)⟩)|refine Exists.intro ((r.1+1,r.2.take r.1++[aB (ofS (at_ (bL a names) r.1) (at_ a.cells p.1))])) (Exists.intro (true,false) ⟨?_,?_,wK,(q1Q J),(Qe J J J J J J J J J J J J J J J J)⟩)))
 ·exact⟨Xk _,rfl,Xc _,rfl,rfl,(fun k hk=>by cases hk),rfl,.nil,rfl⟩
 ·have hlt:p.1<a.cells.length:=by simpa using ‹decide ((p.1:Int)<((a.cells.map al).length:Int))=true›
  have hmk':((bG a ds).all fun s=>(ofS s (at_ a.cells p.1)).kind==2)=true:=hmk
  refine⟨hlt,hi2,Yn hi3,hi4,hi5,hi6,hi7,hi8,?_⟩
  rw[hi9,au hlt]
  exact qA (CY (Jl hmk' h))
 ·have hlt:p.1<a.cells.length:=by simpa using ‹decide ((p.1:Int)<((a.cells.map al).length:Int))=true›
  show a.cells.length-(p.1+1)<a.cells.length-p.1
  omega
 ·exact⟨Xk _,rfl⟩
 ·have hlr:r.1<(bL a names).length:=by simpa using h
  exact⟨hlr,fL (fun s=>aB (ofS s (at_ a.cells p.1))) (bL a names) hr2 hlr⟩
 ·have hlr:r.1<(bL a names).length:=by simpa using h
  show (bL a names).length-(r.1+1)<(bL a names).length-r.1
  omega
 ·have hlt:p.1<a.cells.length:=by simpa using ‹decide ((p.1:Int)<((a.cells.map al).length:Int))=true›
  have hmk':((bG a ds).all fun s=>(ofS s (at_ a.cells p.1)).kind==2)=true:=hmk
  have hw:(!bF ds (b6 (bG a ds) (at_ a.cells p.1)))=false:=by assumption
  have hmv:=rM hmk' hw
  have hrn:r.1=(bL a names).length:=by
   have:(bL a names).length≤r.1:=by simpa using ‹decide ((r.1:Int)<(((bL a names).map ib).length:Int))=false›
   omega
  have hV:List.take r.1 r.2=((bL a names).map fun s=>ofS s (at_ a.cells p.1)).map aB:=by
   rw[WY (by rw[hr2];simp;omega),hr2,hrn,XT,XX];rfl
  have hE:[ar (b6 (bG a ds) (at_ a.cells p.1)),D.sl 4 40 (List.take r.1 r.2)]=al (lB (bL a names) (b6 (bG a ds) (at_ a.cells p.1)) (at_ a.cells p.1)):=by
   rw[hV];rfl
  have hwk':bC (b6 (bG a ds) (at_ a.cells p.1)) (p.2.2.2.2.map Cell.at') 0=none:=by rw[← hi5];exact hwk
  have hstep:=N6 (kept:=bL a names) (rule:=rule) hmv (Lg hwk')
  refine⟨hlt,?_,Nat.succ_le_succ hi3,?_,?_,fun k hk=>?_,?_,zx hstep hi8,?_⟩
  ·show p.2.1+1=(p.2.2.1.take p.2.1++[_]).length
   rw[W9,XU];simp[hi2]
  ·show p.2.2.1.take p.2.1++[_]=(p.2.2.2.2++[_]).map al
   rw[WY (by omega),hi4,XB,hE];rfl
  ·show p.2.2.2.1++[_]=(p.2.2.2.2++[_]).map Cell.at'
   rw[XB,← hi5];rfl
  ·rcases XF.1 hk with h5|h5
   ·exact hi6 k h5
   ·rw[X6.1 h5];exact hnl _
  ·show (p.2.2.2.1++[_]).length=p.2.1+1
   rw[W9,hi7];rfl
  ·rw[hi9,au hlt];exact qA hstep
 ·have hlt:p.1<a.cells.length:=by simpa using ‹decide ((p.1:Int)<((a.cells.map al).length:Int))=true›
  show a.cells.length-(p.1+1)<a.cells.length-p.1
  omega
 ·have hlt:p.1<a.cells.length:=by simpa using ‹decide ((p.1:Int)<((a.cells.map al).length:Int))=true›
  have hmk':((bG a ds).all fun s=>(ofS s (at_ a.cells p.1)).kind==2)=true:=hmk
  have hw:(!bF ds (b6 (bG a ds) (at_ a.cells p.1)))=false:=by assumption
  have hmv:=rM hmk' hw
  have hrn:r.1=(bL a names).length:=by
   have:(bL a names).length≤r.1:=by simpa using ‹decide ((r.1:Int)<(((bL a names).map ib).length:Int))=false›
   omega
  have hV:List.take r.1 r.2=((bL a names).map fun s=>ofS s (at_ a.cells p.1)).map aB:=by
   rw[WY (by rw[hr2];simp;omega),hr2,hrn,XT,XX];rfl
  have hE:[ar (b6 (bG a ds) (at_ a.cells p.1)),D.sl 4 40 (List.take r.1 r.2)]=al (lB (bL a names) (b6 (bG a ds) (at_ a.cells p.1)) (at_ a.cells p.1)):=by
   rw[hV];rfl
  have hwk':bC (b6 (bG a ds) (at_ a.cells p.1)) (p.2.2.2.2.map Cell.at') 0=some j:=by rw[← hi5];exact hwk
  have hj:=vI hwk'
  have hg:gb (bG a ds) (bL a names) ds rule [] a.cells=none:=by
   rw[hi9,au hlt];exact N7 (Lh hmv hj (by simpa using h))
  rw[Jn hc h1 h3 hre hg]
  rfl
 ·have hlt:p.1<a.cells.length:=by simpa using ‹decide ((p.1:Int)<((a.cells.map al).length:Int))=true›
  have hmk':((bG a ds).all fun s=>(ofS s (at_ a.cells p.1)).kind==2)=true:=hmk
  have hw:(!bF ds (b6 (bG a ds) (at_ a.cells p.1)))=false:=by assumption
  have hmv:=rM hmk' hw
  have hrn:r.1=(bL a names).length:=by
   have:(bL a names).length≤r.1:=by simpa using ‹decide ((r.1:Int)<(((bL a names).map ib).length:Int))=false›
   omega
  have hV:List.take r.1 r.2=((bL a names).map fun s=>ofS s (at_ a.cells p.1)).map aB:=by
   rw[WY (by rw[hr2];simp;omega),hr2,hrn,XT,XX];rfl
  have hE:[ar (b6 (bG a ds) (at_ a.cells p.1)),D.sl 4 40 (List.take r.1 r.2)]=al (lB (bL a names) (b6 (bG a ds) (at_ a.cells p.1)) (at_ a.cells p.1)):=by
   rw[hV];rfl
  have hwk':bC (b6 (bG a ds) (at_ a.cells p.1)) (p.2.2.2.2.map Cell.at') 0=some j:=by rw[← hi5];exact hwk
  have hj:=vI hwk'
  have hstep:=Li (kept:=bL a names) (rule:=rule) hmv hj (by simpa using h)
  obtain⟨k,hk1,hk2,hk3⟩:=wM (at':=b6 (bG a ds) (at_ a.cells p.1)) (cs:=p.2.2.2.2) (by omega)
  have hkj:k=j:=by omega
  subst hkj
  refine⟨hlt,?_,Yn hi3,?_,?_,hi6,hi7,zx hstep hi8,?_⟩
  ·show p.2.1=(p.2.2.1.set k _).length
   rw[List.length_set];exact hi2
  ·show p.2.2.1.set k _=(p.2.2.2.2.set k _).map al
   rw[XW,← hi4,hE]
  ·show p.2.2.2.1=(p.2.2.2.2.set k _).map Cell.at'
   rw[BY hk2 hk3,hi5]
  ·rw[hi9,au hlt];exact qA hstep
 ·have hlt:p.1<a.cells.length:=by simpa using ‹decide ((p.1:Int)<((a.cells.map al).length:Int))=true›
  show a.cells.length-(p.1+1)<a.cells.length-p.1
  omega
 ·have hlt:p.1<a.cells.length:=by simpa using ‹decide ((p.1:Int)<((a.cells.map al).length:Int))=true›
  have hmk':((bG a ds).all fun s=>(ofS s (at_ a.cells p.1)).kind==2)=true:=hmk
  have hw:(!bF ds (b6 (bG a ds) (at_ a.cells p.1)))=false:=by assumption
  have hmv:=rM hmk' hw
  have hrn:r.1=(bL a names).length:=by
   have:(bL a names).length≤r.1:=by simpa using ‹decide ((r.1:Int)<(((bL a names).map ib).length:Int))=false›
   omega
  have hV:List.take r.1 r.2=((bL a names).map fun s=>ofS s (at_ a.cells p.1)).map aB:=by
   rw[WY (by rw[hr2];simp;omega),hr2,hrn,XT,XX];rfl
  have hE:[ar (b6 (bG a ds) (at_ a.cells p.1)),D.sl 4 40 (List.take r.1 r.2)]=al (lB (bL a names) (b6 (bG a ds) (at_ a.cells p.1)) (at_ a.cells p.1)):=by
   rw[hV];rfl
  have hwk':bC (b6 (bG a ds) (at_ a.cells p.1)) (p.2.2.2.2.map Cell.at') 0=some j:=by rw[← hi5];exact hwk
  have hj:=vI hwk'
  refine⟨hlt,hi2,Yn hi3,hi4,hi5,hi6,hi7,hi8,?_⟩
  rw[hi9,au hlt]
  exact qA (Ll hmv hj (by simpa using ‹(rule==1)=false›) (by simpa using h))
 ·have hlt:p.1<a.cells.length:=by simpa using ‹decide ((p.1:Int)<((a.cells.map al).length:Int))=true›
  show a.cells.length-(p.1+1)<a.cells.length-p.1
  omega
 ·have hlt:p.1<a.cells.length:=by simpa using ‹decide ((p.1:Int)<((a.cells.map al).length:Int))=true›
  refine⟨hlt,hi2,Yn hi3,hi4,hi5,hi6,hi7,hi8,?_⟩
  rw[hi9,au hlt]
  exact qA (CY (Lm hmk))
 ·have hlt:p.1<a.cells.length:=by simpa using ‹decide ((p.1:Int)<((a.cells.map al).length:Int))=true›
  show a.cells.length-(p.1+1)<a.cells.length-p.1
  omega
 ·have hpn:p.1=a.cells.length:=by
   have:a.cells.length≤p.1:=by simpa using h
   omega
  have hg:gb (bG a ds) (bL a names) ds rule [] a.cells=some p.2.2.2.2:=by rw[hi9,hpn,List.drop_length];rfl
  have hln:p.2.2.2.2.length≤4096:=by have:=congrArg List.length hi4;simp only[WZ] at this;omega
  rw[Jm hc h1 h3 hre hg hln]
  rfl
end Go.Proofs.YtpejdgkaapnekaaGreat
namespace Go.Proofs.YtpejdgkaapnekaaGreat
open Go Go.Abs
attribute [local irreducible] aa OkC ak av aq aI
set_option maxRecDepth 10000
end Go.Proofs.YtpejdgkaapnekaaGreat
namespace Go.Proofs.YtpejdgkaapnekaaGreat
open Go Go.Abs
def eL(c:Cell):List Cell→List Cell
 | []=>[c]
 | x::r=>if bH x.at' c.at'<0 then x::eL c r else if bH x.at' c.at'=0 then c::r else c::x::r
end Go.Proofs.YtpejdgkaapnekaaGreat
namespace Go.Proofs.YtpejdgkaapnekaaGreat
open Go Go.Abs
attribute [local irreducible] aa OkC ak av aq aI
set_option maxRecDepth 10000
end Go.Proofs.YtpejdgkaapnekaaGreat
namespace Go.Proofs.YtpejdgkaapnekaaGreat
open Go Go.Abs
attribute [local irreducible] aa OkC ak av aq aI
set_option maxRecDepth 10000
section
variable {src kept:List (Int×Bool)} {ds:List Dim} {rule:Int} {l l' r:List Cell} {c:Cell}
end
end Go.Proofs.YtpejdgkaapnekaaGreat
namespace Go.Proofs.YtpejdgkaapnekaaGreat
open Go Go.Abs
attribute [local irreducible] aa OkC ak av aq aI
set_option maxRecDepth 10000
def okV(v:Val):Bool:=c9 [.int .i64 v.kind,.int .i64 v.num,.int .i64 v.den,.str v.str] [.int .i64 1,.int .i64 1,.int .i64 0,.str []]
def qG(a:Arr)(s:Scalar):Option Arr×Int :=
 if (b8 a.dims a.attrs a.cells s).2≠0 then (none,(b8 a.dims a.attrs a.cells s).2) else if (b8 a.dims a.attrs a.cells s).1≠1 then (none,12)
 else cn a.dims a.attrs (a.cells.filter fun c=>okV (iH a.dims a.attrs c.at' c.vals s))
abbrev vF(a:Arr)(s:Scalar)(l:List Cell):List Cell:=l.filter fun c=>okV (iH a.dims a.attrs c.at' c.vals s)
theorem CM{p:Cell→Bool}{l:List Cell}{k:Nat}(h:k<l.length):(l.take (k+1)).filter p=(l.take k).filter p++if p (at_ l k) then [at_ l k] else []:=by
 rw[ez h,List.filter_append]
 congr 1
 by_cases hp:p (at_ l k)=true
 ·simp[hp]
 ·simp[hp]
set_option maxHeartbeats 4000000 in
theorem c26(a:Arr)(s:Scalar):CallA Tryz.prog 26 [aO a,fc s] [] (dE (qG a s)) []:=by
 unfold aO qG
 refine enter af Tryz.func26 rfl (by decide +kernel) rfl fun hok w0 σ0 φ0 M=>?_
 clear hok
 by_cases ht:(b8 a.dims a.attrs a.cells s).2=0
 ·have hb1:((b8 a.dims a.attrs a.cells s).2 != 0)=false:=by simp[ht]
  obtain⟨hck,hp,hsz,hn⟩:=yg ht
  rw[if_neg (by simpa using ht)]
  by_cases h1:(b8 a.dims a.attrs a.cells s).1=1
  ·have hb2:((b8 a.dims a.attrs a.cells s).1 != 1)=false:=by simp[h1]
   rw[if_neg (by simpa using h1)]
   have hA:=okA hck
   have hcl:∀ i,i<a.cells.length→(at_ a.cells i).at'.length=a.dims.length∧(at_ a.cells i).vals.length=a.attrs.length:=fun i hi =>
    let h:=cellF_ok.1 (hA.cel _ (aU hi));⟨h.1,h.2.1⟩
   have hcn:a.cells.length≤4096:=hA.few
   have hdf:(vF a s a.cells).Pairwise cE:=(bW hA.srt).filter _
   have hff:(vF a s a.cells).length≤4096:=Xg (XO _ _) hcn
   have er:cn a.dims a.attrs (vF a s a.cells)=(some ⟨a.dims,a.attrs,cg (vF a s a.cells)⟩,0):=by unfold cn;rw[if_neg (by omega)]
   rw[er]
   repeat' (first|(refine h1H ?_;(refine h0H ?_;first|refine eP 40 [10] J J J J J J J J J (po a.dims a.attrs (vF a s a.cells) _ _ hdf hff J (by rw[WY (by omega),hq3,WY wB])) J J J ?_|refine ae J J J J J J J J (c20 _ _ _ _) J ?_|refine ae J J J J J J J J (Qv _ _ _ _ _ _ hp hsz hn (hcl _ wB).1 (hcl _ wB).2) J ?_))|refine wG ?_|(refine h2H ?_;first|refine aj J (fun h=>?_) (fun h=>?_)|refine ep 8 J (dm (s:=8) (id:=10) (k:=2) (b:=48) J J J J) [(2,_),(3,_),(4,_),(27,_),(28,_)] (q5Q J J J J J) (fun (bN:Bool×Bool) (q:Nat×Nat×List (List D))=>[(8,.one (.own (nmA bN) q.2.1)),(29,.one (.d (.int .i64 (q.1:Int))))]) (fun (bN:Bool×Bool) (q:Nat×Nat×List (List D))=>[((nmA bN),.row 2 48 q.2.2),(0,.box [.d (ai a.dims),.d (ao a.attrs),.d (aC a.cells)]),(1,.box [.d (.int .i64 s.op),.d (.str s.name),.d (.int .i64 s.val.kind),.d (.int .i64 s.val.num),.d (.int .i64 s.val.den),.d (.str s.val.str),.d (dD s.args)]),(2,.box [.d .nil,.d .nil,.d .nil])]) (fun (q:Nat×Nat×List (List D))=>q.1≤a.cells.length∧q.2.1=q.2.2.length∧q.2.1≤q.1∧q.2.2=(vF a s (a.cells.take q.1)).map al) (fun (q:Nat×Nat×List (List D))=>a.cells.length-q.1) (0,0,[]) (q2Q J J) wK (fun b y=>by obtain⟨b1,b2⟩:=b;cases b1<;>cases b2<;>first|exact Imp.refl _|exact eu qN (by kernel_rfl)) ?_ (fun q ⟨hq1,hq2,hq4,hq3⟩=>?_))|(show Exists _;first|refine Exists.intro ((q.1+1,q.2.1+1,q.2.2.take q.2.1++[al (at_ a.cells q.1)])) (Exists.intro (false,false) ⟨?_,?_,wK,(q2Q J J),(q5Q J J J J J)⟩)|refine Exists.intro ((q.1+1,q.2)) (Exists.intro (false,false) ⟨?_,?_,wK,(q2Q J J),(q5Q J J J J J)⟩)))
   ·exact⟨Xk _,rfl,Xc _,by simp[vF]⟩
   ·have hlt:q.1<a.cells.length:=by simpa using ‹decide ((q.1:Int)<((a.cells.map al).length:Int))=true›
    have hw:okV (iH a.dims a.attrs (at_ a.cells q.1).at' (at_ a.cells q.1).vals s)=true:=by simpa[okV] using h
    refine⟨hlt,?_,Nat.succ_le_succ hq4,?_⟩
    ·show q.2.1+1=(q.2.2.take q.2.1++[_]).length
     rw[W9,XU];simp[hq2]
    ·show q.2.2.take q.2.1++[_]=_
     rw[WY (by omega),hq3]
     show _=List.map al (List.filter _ (List.take (q.1+1) a.cells))
     rw[CM hlt,if_pos hw,XB];rfl
   ·have hlt:q.1<a.cells.length:=by simpa using ‹decide ((q.1:Int)<((a.cells.map al).length:Int))=true›
    show a.cells.length-(q.1+1)<a.cells.length-q.1
    omega
   ·have hlt:q.1<a.cells.length:=by simpa using ‹decide ((q.1:Int)<((a.cells.map al).length:Int))=true›
    have hw:okV (iH a.dims a.attrs (at_ a.cells q.1).at' (at_ a.cells q.1).vals s)=false:=by simpa[okV] using h
    refine⟨hlt,hq2,Yn hq4,?_⟩
    show q.2.2=List.map al (List.filter _ (List.take (q.1+1) a.cells))
    rw[CM hlt,if_neg (by simp[hw]),Yt,hq3]
   ·have hlt:q.1<a.cells.length:=by simpa using ‹decide ((q.1:Int)<((a.cells.map al).length:Int))=true›
    show a.cells.length-(q.1+1)<a.cells.length-q.1
    omega
   all_goals first|rfl|skip
  ·have hb2:((b8 a.dims a.attrs a.cells s).1 != 1)=true:=by simp[h1]
   rw[if_pos h1]
   repeat' (first|(refine h1H ?_;(refine h0H ?_;refine ae J J J J J J J J (c20 _ _ _ _) J ?_))|refine wG ?_)
   all_goals first|rfl|skip
 ·have hb1:((b8 a.dims a.attrs a.cells s).2 != 0)=true:=by simp[ht]
  rw[if_pos ht]
  repeat' (first|(refine h1H ?_;(refine h0H ?_;refine ae J J J J J J J J (c20 _ _ _ _) J ?_))|refine wG ?_)
  all_goals first|rfl|skip
end Go.Proofs.YtpejdgkaapnekaaGreat
