import Derived.Test.YtpejdgkaapnekaaGreatKP23
import Derived.Test.YtpejdgkaapnekaaGreatKP16
import Derived.Test.YtpejdgkaapnekaaGreatKP19
import Derived.Test.YtpejdgkaapnekaaGreatKP18
import Derived.Test.YtpejdgkaapnekaaGreatKP32
set_option linter.unusedVariables false
set_option linter.unusedSimpArgs false
set_option maxHeartbeats 1000000
namespace Go.Proofs.YtpejdgkaapnekaaGreat
open Go Go.Abs
attribute [local irreducible] aa OkC ak av aq aI
set_option maxRecDepth 10000
def iZ(ds:List Dim)(lo hi:List Int)(k:Nat):List Dim:=(List.range ds.length).map fun i=>if i<k then rC (at_ ds i) (at_ lo i,at_ hi i) else at_ ds i
section
variable {ds:List Dim} {lo hi:List Int} {k:Nat}
theorem mb:(iZ ds lo hi k).length=ds.length:=by simp[iZ]
theorem Cf{n i:Nat}(h:i<n):at_ (List.range n) i=i:=by simp[at_,Xi,h]
theorem qw{i:Nat}(h:i<ds.length):at_ (iZ ds lo hi k) i=if i<k then rC (at_ ds i) (at_ lo i,at_ hi i) else at_ ds i:=by
 unfold iZ;rw[bj (by simpa using h),Cf h]
theorem K4:iZ ds lo hi 0=ds:=c5 mb fun i hi=>by rw[mb] at hi;rw[qw hi,if_neg (by omega)]
theorem tg(hl:lo.length=ds.length)(hh:hi.length=ds.length){i:Nat}(h:i<ds.length):at_ (cQ ds lo hi) i=rC (at_ ds i) (at_ lo i,at_ hi i):=by
 unfold cQ
 rw[qo h (by simp;omega),List.zip,qo (by omega) (by omega)]
theorem ir(hl:lo.length=ds.length)(hh:hi.length=ds.length):(cQ ds lo hi).length=ds.length:=by simp[cQ];omega
theorem NY(hl:lo.length=ds.length)(hh:hi.length=ds.length):iZ ds lo hi ds.length=cQ ds lo hi:=c5 (by rw[mb,ir hl hh]) fun i hi=>by
 rw[mb] at hi
 rw[qw hi,if_pos hi,tg hl hh hi]
theorem K5(h:k<ds.length)(x:List D):(((iZ ds lo hi k).map ax).set k x).set k (ax (rC (at_ ds k) (at_ lo k,at_ hi k)))=(iZ ds lo hi (k+1)).map ax:=by
 rw[List.set_set,← XW]
 congr 1
 refine c5 (by simp[mb]) fun i hi=>?_
 have hi':i<ds.length:=by simpa[mb] using hi
 rw[fP (by rw[mb];exact hi'),qw hi',qw hi']
 by_cases e:i=k
 ·subst e;simp
 ·by_cases h1:i<k
  ·rw[if_neg e,if_pos h1,if_pos (by omega)]
  ·rw[if_neg e,if_neg h1,if_neg (by omega)]
end
theorem NZ{a:Arr}{lo hi:List Int}{k:Nat}(hc:aF a=0)(hl:lo.length=a.dims.length)(hh:hi.length=a.dims.length)(hk:k<a.dims.length)(hb:dW (min (at_ a.dims k).hi (at_ hi k))<max (at_ a.dims k).lo (at_ lo k)):gD a lo hi=(none,3):=by
 unfold gD
 rw[if_neg (by simpa[aF] using hc),if_neg (by omega),if_pos]
 simp only[Xe,List.all_eq_false]
 have hkc:k<(cQ a.dims lo hi).length:=by rw[ir hl hh];exact hk
 refine⟨_,aU hkc,?_⟩
 rw[tg hl hh hk]
 show ¬ (!decide (dW (min (at_ a.dims k).hi (at_ hi k))<max (at_ a.dims k).lo (at_ lo k)))=true
 simp only[hb,decide_true,Bool.not_true]
 simp
theorem K6{a:Arr}{lo hi:List Int}(hc:aF a=0)(hl:lo.length=a.dims.length)(hh:hi.length=a.dims.length)(ho:∀ i,i<a.dims.length→okD (rC (at_ a.dims i) (at_ lo i,at_ hi i))=true) :
  gD a lo hi=(some ⟨cQ a.dims lo hi,a.attrs,cg (a.cells.filter fun c=>bF (cQ a.dims lo hi) c.at')⟩,0):=by
 have hA:=okA hc
 unfold gD
 rw[if_neg (by simpa[aF] using hc),if_neg (by omega),if_neg]
 ·unfold cn
  rw[if_neg]
  have:=XO (fun c:Cell=>bF (cQ a.dims lo hi) c.at') a.cells
  have:=hA.few
  omega
 ·simp only[Xe,Bool.not_eq_false,XY]
  intro d hd
  obtain⟨i,hi',rfl⟩:=cv hd
  rw[ir hl hh] at hi'
  rw[tg hl hh hi']
  exact ho i hi'
theorem mA{p:Cell→Bool}{l:List Cell}{k:Nat}(h:k<l.length):(l.take (k+1)).filter p=(l.take k).filter p++if p (at_ l k) then [at_ l k] else []:=by
 rw[ez h,List.filter_append]
 congr 1
 by_cases hp:p (at_ l k)=true
 ·simp[hp]
 ·simp[hp]
theorem c23(a:Arr)(lo hi:List Int):CallA Tryz.prog 23 [aO a,.one (.d (ar lo)),.one (.d (ar hi))] [] (dE (gD a lo hi)) []:=by
 unfold aO
 refine enter af Tryz.func23 rfl (by decide +kernel) rfl fun hok w0 σ0 φ0 M=>?_
 have h1:=hok.2.1.sl;have h2:=hok.2.2.1.sl;clear hok;simp only[WZ] at h1 h2;replace h1:=h1.1;replace h2:=h2.1
 by_cases hc:aF a=0
 ·have hv:(!aG [a])=false:=by simp[aG,hc]
  have hA:=okA hc
  have hne:0<a.dims.length:=by have:=hA.dims.1;omega
  by_cases hl:lo.length=a.dims.length
  ·have hb1:(((lo.map aA).length:Int) != ((a.dims.map ax).length:Int))=false:=by simp[hl]
   by_cases hh:hi.length=a.dims.length
   ·have hb2:(((hi.map aA).length:Int) != ((a.dims.map ax).length:Int))=false:=by simp[hh]
    repeat' (first|(refine h1H ?_;(refine h0H ?_;first|refine aT [2] J J J J J J J J J (c96 [a]) J ?_|refine cS 10 [] (rav':=.one (.own 10 a.dims.length)) (kU a.dims hne) J J J J J J trivial b7 J J J J ?_))|refine wG ?_|(refine h2H ?_;first|refine aj J (fun h=>?_) (fun h=>?_)|refine cm 7 J [(1,_),(2,_),(3,_),(6,_),(8,_),(39,_)] (q6Q J J J J J J) (fun (p:Nat×List (List D))=>[(40,.one (.d (.int .i64 (p.1:Int))))]) (fun (p:Nat×List (List D))=>[(10,.row 3 32 p.2),(0,.box [.d (ai a.dims),.d (ao a.attrs),.d (aC a.cells)]),(1,.box [.d .nil,.d .nil,.d .nil])]) (fun (p:Nat×List (List D))=>p.1≤a.dims.length∧p.2.length=a.dims.length∧p.2=(iZ a.dims lo hi p.1).map ax∧(∀ i,i<p.1→okD (rC (at_ a.dims i) (at_ lo i,at_ hi i))=true)) (fun (p:Nat×List (List D))=>a.dims.length-p.1) (0,a.dims.map ax) (q1Q J) wK ?_ (fun p ⟨hk,hln,hr,ho⟩=>?_))|(show Exists _;refine Exists.intro ((p.1+1,(p.2.set p.1 [.str (at_ (iZ a.dims lo hi p.1) p.1).name,.int .i64 (max (at_ (iZ a.dims lo hi p.1) p.1).lo (at_ lo p.1)),.int .i64 (at_ (iZ a.dims lo hi p.1) p.1).hi]).set p.1 [.str (at_ (iZ a.dims lo hi p.1) p.1).name,.int .i64 (max (at_ (iZ a.dims lo hi p.1) p.1).lo (at_ lo p.1)),.int .i64 (min (at_ (iZ a.dims lo hi p.1) p.1).hi (at_ hi p.1))])) ⟨?_,?_,wK,(q1Q J),(q6Q J J J J J J)⟩))
    ·exact⟨Xk _,by simp,by show _=List.map ax (iZ a.dims lo hi 0);rw[K4],fun i hi=>absurd hi (Nat.not_lt_zero _)⟩
    ·have hlt:p.1<a.dims.length:=by simpa using ‹decide ((p.1:Int)<(a.dims.length:Int))=true›
     have em:at_ (iZ a.dims lo hi p.1) p.1=at_ a.dims p.1:=by rw[qw hlt,if_neg (Nat.lt_irrefl _)]
     have hb:dW (min (at_ a.dims p.1).hi (at_ hi p.1))<max (at_ a.dims p.1).lo (at_ lo p.1):=by
      simp only[Xr,em,Yi] at h
      exact h
     rw[NZ hc hl hh hlt hb]
     rfl
    ·have hlt:p.1<a.dims.length:=by simpa using ‹decide ((p.1:Int)<(a.dims.length:Int))=true›
     have em:at_ (iZ a.dims lo hi p.1) p.1=at_ a.dims p.1:=by rw[qw hlt,if_neg (Nat.lt_irrefl _)]
     have hb:okD (rC (at_ a.dims p.1) (at_ lo p.1,at_ hi p.1))=true:=by
      simp only[Xr,em,Yj] at h
      show (!decide (dW (min (at_ a.dims p.1).hi (at_ hi p.1))<max (at_ a.dims p.1).lo (at_ lo p.1)))=true
      have h':¬ dW (min (at_ a.dims p.1).hi (at_ hi p.1))<max (at_ a.dims p.1).lo (at_ lo p.1):=h
      simp only[h',decide_false,Bool.not_false]
     refine⟨hlt,by simp[hln],?_,fun i hi'=>?_⟩
     ·show ((p.2.set p.1 _).set p.1 _)=_
      rw[em,hr]
      exact K5 hlt _
     ·rcases XM i p.1 with h3|h3
      ·exact ho i h3
      ·have:i=p.1:=by have:i<p.1+1:=hi';omega
       rw[this];exact hb
    ·have hlt:p.1<a.dims.length:=by simpa using ‹decide ((p.1:Int)<(a.dims.length:Int))=true›
     show a.dims.length-(p.1+1)<a.dims.length-p.1
     omega
    have hpn:p.1=a.dims.length:=by
     have:a.dims.length≤p.1:=by simpa using h
     omega
    have hX:p.2.take a.dims.length=(cQ a.dims lo hi).map ax:=by rw[WY (by omega),hr,hpn,NY hl hh]
    have hcl:∀ i,i<a.cells.length→(at_ a.cells i).at'.length=(cQ a.dims lo hi).length:=fun i hi'=>by
     rw[ir hl hh];exact (cellF_ok.1 (hA.cel _ (aU hi'))).1
    have hcn:a.cells.length≤4096:=hA.few
    rw[K6 hc hl hh (hpn ▸ ho)]
    have hdf:(a.cells.filter fun c=>bF (cQ a.dims lo hi) c.at').Pairwise cE:=(bW hA.srt).filter _
    have hff:(a.cells.filter fun c=>bF (cQ a.dims lo hi) c.at').length≤4096:=Xg (XO _ _) hcn
    repeat' (first|(refine h1H ?_;(refine h0H ?_;first|refine aT [10] J J J J J J J J J (Sw (cQ a.dims lo hi) _ _ hX (hcl _ (by first|omega|(simp only[Yi,Yj,WZ] at *;omega)))) J ?_|refine eP 16 [10,12] J J J J J J J J J (po (cQ a.dims lo hi) a.attrs (a.cells.filter fun c=>bF (cQ a.dims lo hi) c.at') _ _ hdf hff hX (by rw[WY (by omega),hq3,WY wB])) J J J ?_))|refine wG ?_|(refine h2H ?_;first|refine aj J (fun h=>?_) (fun h=>?_)|refine ep 15 J (dm (s:=10) (id:=12) (k:=2) (b:=48) J J J J) [(3,_),(6,_),(8,_),(86,_),(87,_)] (q5Q J J J J J) (fun (bN:Bool×Bool) (q:Nat×Nat×List (List D))=>[(10,.one (.own (nmB bN) q.2.1)),(88,.one (.d (.int .i64 (q.1:Int))))]) (fun (bN:Bool×Bool) (q:Nat×Nat×List (List D))=>[(10,.row 3 32 p.2),((nmB bN),.row 2 48 q.2.2),(0,.box [.d (ai a.dims),.d (ao a.attrs),.d (aC a.cells)]),(1,.box [.d .nil,.d .nil,.d .nil])]) (fun (q:Nat×Nat×List (List D))=>q.1≤a.cells.length∧q.2.1=q.2.2.length∧q.2.1≤q.1∧q.2.2=((a.cells.take q.1).filter fun c=>bF (cQ a.dims lo hi) c.at').map al) (fun (q:Nat×Nat×List (List D))=>a.cells.length-q.1) (0,0,[]) (q2Q J J) wK (fun b y=>by obtain⟨b1,b2⟩:=b;cases b1<;>cases b2<;>first|exact Imp.refl _|exact eu qN (by kernel_rfl)) ?_ (fun q ⟨hq1,hq2,hq4,hq3⟩=>?_))|(show Exists _;first|refine Exists.intro ((q.1+1,q.2.1+1,q.2.2.take q.2.1++[al (at_ a.cells q.1)])) (Exists.intro (false,false) ⟨?_,?_,wK,(q2Q J J),(q5Q J J J J J)⟩)|refine Exists.intro ((q.1+1,q.2)) (Exists.intro (false,false) ⟨?_,?_,wK,(q2Q J J),(q5Q J J J J J)⟩)))
    ·exact⟨Xk _,rfl,Xc _,by simp⟩
    ·have hlt:q.1<a.cells.length:=by simpa using ‹decide ((q.1:Int)<((a.cells.map al).length:Int))=true›
     have hw:bF (cQ a.dims lo hi) (at_ a.cells q.1).at'=true:=h
     refine⟨hlt,?_,Nat.succ_le_succ hq4,?_⟩
     ·show q.2.1+1=(q.2.2.take q.2.1++[_]).length
      rw[W9,XU];simp[hq2]
     ·show q.2.2.take q.2.1++[_]=_
      rw[WY (by omega),hq3]
      show _=List.map al (List.filter _ (List.take (q.1+1) a.cells))
      rw[mA hlt,if_pos hw,XB];rfl
    ·have hlt:q.1<a.cells.length:=by simpa using ‹decide ((q.1:Int)<((a.cells.map al).length:Int))=true›
     show a.cells.length-(q.1+1)<a.cells.length-q.1
     omega
    ·have hlt:q.1<a.cells.length:=by simpa using ‹decide ((q.1:Int)<((a.cells.map al).length:Int))=true›
     have hw:bF (cQ a.dims lo hi) (at_ a.cells q.1).at'=false:=h
     refine⟨hlt,hq2,Yn hq4,?_⟩
     show q.2.2=List.map al (List.filter _ (List.take (q.1+1) a.cells))
     rw[mA hlt,if_neg (by simp[hw]),Yt,hq3]
    ·have hlt:q.1<a.cells.length:=by simpa using ‹decide ((q.1:Int)<((a.cells.map al).length:Int))=true›
     show a.cells.length-(q.1+1)<a.cells.length-q.1
     omega
    ·rfl
   ·have hb2:(((hi.map aA).length:Int) != ((a.dims.map ax).length:Int))=true:=by simp;omega
    have e:gD a lo hi=(none,13):=by
     unfold gD
     rw[if_neg (by simpa[aF] using hc),if_pos (by omega)]
    rw[e]
    repeat' (first|(refine h1H ?_;(refine h0H ?_;refine aT [2] J J J J J J J J J (c96 [a]) J ?_))|refine wG ?_)
    all_goals rfl
  ·have hb1:(((lo.map aA).length:Int) != ((a.dims.map ax).length:Int))=true:=by simp;omega
   have e:gD a lo hi=(none,13):=by
    unfold gD
    rw[if_neg (by simpa[aF] using hc),if_pos (by omega)]
   rw[e]
   repeat' (first|(refine h1H ?_;(refine h0H ?_;refine aT [2] J J J J J J J J J (c96 [a]) J ?_))|refine wG ?_)
   all_goals rfl
 ·have hv:(!aG [a])=true:=by simp[aG,hc]
  have e:gD a lo hi=(none,2):=by
   unfold gD
   rw[if_pos (by simpa[aF] using hc)]
  rw[e]
  repeat' (first|(refine h1H ?_;(refine h0H ?_;refine aT [2] J J J J J J J J J (c96 [a]) J ?_))|refine wG ?_)
  all_goals rfl
end Go.Proofs.YtpejdgkaapnekaaGreat
namespace Go.Proofs.YtpejdgkaapnekaaGreat
open Go Go.Abs
section
variable {ds:List Dim} {lo hi:List Int}
theorem zY(hl:lo.length=ds.length)(hh:hi.length=ds.length):(cQ ds lo hi).map Dim.name=ds.map Dim.name:=by
 refine c5 (by simp[ir hl hh]) fun i hi'=>?_
 have h:i<ds.length:=by simpa[ir hl hh] using hi'
 rw[bj (by rw[ir hl hh];exact h),bj h,tg hl hh h];rfl
theorem Mr{ats:List Attr}{cs:List Cell}(hc:bf ds ats cs=0)(hl:lo.length=ds.length)(hh:hi.length=ds.length)(ho:(cQ ds lo hi).all okD=true):bf (cQ ds lo hi) ats (cs.filter fun c=>bF (cQ ds lo hi) c.at')=0:=by
 have hA:=okA hc
 obtain⟨s1,s2,s3,s4⟩:=bA hA.sch
 obtain⟨d1,d2,d3,d4⟩:=fp s1
 refine jh ⟨fy (by rw[ir hl hh];exact d1) (by rw[ir hl hh];exact d2) (fun d hd=>?_) (by rw[zY hl hh];exact d4) s2 s3 (by rw[zY hl hh];exact s4),Xg (XO _ _) hA.few,hA.srt.filter _,fun c hc=>?_⟩
 ·obtain⟨i,hi',rfl⟩:=cv hd
  have hi2:i<ds.length:=by rw[ir hl hh] at hi';exact hi'
  have h1:=XY.1 ho _ hd
  obtain⟨h2,h3⟩:=d3 _ (aU hi2)
  rw[tg hl hh hi2] at h1 ⊢
  have h4:=boundsF_ok.1 h2
  simp only[okD,Xe,Yj] at h1
  have h5:¬ dW (min (at_ ds i).hi (at_ hi i))<max (at_ ds i).lo (at_ lo i):=h1
  unfold dW at h5
  refine⟨boundsF_ok.2 ?_,h3⟩
  show -1073741824≤max (at_ ds i).lo (at_ lo i)∧max (at_ ds i).lo (at_ lo i)≤1073741824∧max (at_ ds i).lo (at_ lo i)≤min (at_ ds i).hi (at_ hi i)∧min (at_ ds i).hi (at_ hi i)≤1073741825
  omega
 ·obtain⟨h1,h2⟩:=Yr.1 hc
  obtain⟨e1,e2,e3,e4⟩:=cellF_ok.1 (hA.cel c h1)
  exact cellF_ok.2 ⟨by rw[ir hl hh];exact e1,e2,h2,e4⟩
end
section
variable {ds es:List Dim} {ats:List Attr}
end
theorem Mu{ds:List Dim}{ats:List Attr}{cs:List Cell}{s:Scalar}(h1:bf ds ats cs=0)(h2:gz s=0):b8 ds ats cs s=dM dN ds ats s:=by simp[b8,h1,h2]
theorem Hl{ds:List Dim}{ats:List Attr}{cs:List Cell}{s:Scalar}(h:(b8 ds ats cs s).2=0):gz s=0:=by
 have hk:=(yg h).1
 unfold b8 at h
 rw[if_neg (by simpa using hk)] at h
 by_cases h2:gz s=0
 ·exact h2
 ·rw[if_pos h2] at h;exact h
end Go.Proofs.YtpejdgkaapnekaaGreat
namespace Go.Proofs.YtpejdgkaapnekaaGreat
open Go Go.Abs
def my(d e:Dim):Dim:=⟨d.name,min d.lo e.lo,max d.hi e.hi⟩
def ek(a b:List Dim):List Dim:=a.zipWith my b
def iA(l:List Cell)(c:Cell):Bool:=!(l.any fun x=>x.at'==c.at')
def ji(a b:Arr):Option Arr×Int :=
 if aF a≠0∨aF b≠0 then (none,2)
 else if !eh a.dims b.dims then (none,13)
 else if !bP ej a.attrs b.attrs then (none,12)
 else cn (ek a.dims b.dims) a.attrs (a.cells++b.cells.filter (iA a.cells))
def oh(a b:Arr):Arr:=⟨ek a.dims b.dims,a.attrs,cg (a.cells++b.cells.filter (iA a.cells))⟩
def KA(l:List Cell)(t:List Int):Prop:=∃ y∈l,y.at'=t
theorem newC_iff{l:List Cell}{c:Cell}:iA l c=true↔¬ KA l c.at':=by
 simp[iA,KA]
theorem alike_iff{a b:List Dim}:eh a b=true↔a.map Dim.name=b.map Dim.name:=by
 unfold eh
 rw[sameF_all]
 constructor
 ·rintro ⟨h1,h2⟩
  refine c5 (by simpa using h1) fun i hi=>?_
  have hi':i<a.length:=by simpa using hi
  rw[bj hi',bj (by omega)]
  simpa using h2 i hi'
 ·intro h
  have hl:a.length=b.length:=by simpa using congrArg List.length h
  refine⟨hl,fun i hi=>?_⟩
  have:=congrArg (fun l=>at_ l i) h
  simp only[bj hi,bj (l:=b) (i:=i) (by omega)] at this
  simpa using this
structure Mrg (a b:Arr):Prop where
 oka:OkA a.dims a.attrs a.cells
 okb:OkA b.dims b.attrs b.cells
 names:a.dims.map Dim.name=b.dims.map Dim.name
 attrs:a.attrs=b.attrs
section
variable {a b c:Arr}
theorem iF(h:Mrg a b):(ek a.dims b.dims).length=a.dims.length:=by
 have:a.dims.length=b.dims.length:=by simpa using congrArg List.length h.names
 simp[ek];omega
theorem Mrg.len(h:Mrg a b):a.dims.length=b.dims.length:=by simpa using congrArg List.length h.names
theorem xX(h:Mrg a b){i:Nat}(hi:i<a.dims.length):at_ (ek a.dims b.dims) i=my (at_ a.dims i) (at_ b.dims i):=qo hi (by rw[← h.len];exact hi)
theorem nv(h:Mrg a b):(ek a.dims b.dims).map Dim.name=a.dims.map Dim.name:=by
 refine c5 (by simp[iF h]) fun i hi=>?_
 have hi':i<a.dims.length:=by simpa[iF h] using hi
 rw[bj (by rw[iF h];exact hi'),bj hi',xX h hi']
 rfl
theorem mrg_mem{x:Cell}:x∈(oh a b).cells↔x∈a.cells∨(x∈b.cells∧¬ KA a.cells x.at'):=by
 show x∈cg _↔_
 rw[(fD _).mem_iff,XF,Yr,newC_iff]
theorem BS(h:Mrg a b):(a.cells++b.cells.filter (iA a.cells)).Pairwise cE:=by
 refine List.pairwise_append.2 ⟨bW h.oka.srt,(bW h.okb.srt).filter _,fun x hx y hy e=>?_⟩
 exact newC_iff.1 (Yr.1 hy).2 ⟨x,hx,e⟩
theorem F7(h:Mrg a b):(oh a b).cells.Pairwise ltC:=fT (BS h)
theorem xY:(oh a b).cells.length≤a.cells.length+b.cells.length:=by
 show (cg _).length≤_
 rw[eE,W9]
 have:=XO (iA a.cells) b.cells
 omega
theorem zq(h:Mrg a b){x:Cell}{ds:List Dim}(hl:ds.length=a.dims.length)(hx:eV ds a.attrs x.at' x.vals=0)
  (hd:∀ i,i<a.dims.length→(my (at_ a.dims i) (at_ b.dims i)).lo≤(at_ ds i).lo∧(at_ ds i).hi≤(my (at_ a.dims i) (at_ b.dims i)).hi):eV (ek a.dims b.dims) a.attrs x.at' x.vals=0:=by
 obtain⟨h1,h2,h3,h4⟩:=cellF_ok.1 hx
 refine cellF_ok.2 ⟨by rw[iF h];omega,h2,?_,h4⟩
 rw[cw h1] at h3
 rw[cw (by rw[iF h];omega)]
 intro i hi
 rw[iF h] at hi
 rw[xX h hi]
 have e1:=h3 i (by omega)
 have e2:=hd i hi
 unfold dW at *
 omega
theorem AN(h:Mrg a b)(hn:(oh a b).cells.length≤4096):OkA (oh a b).dims (oh a b).attrs (oh a b).cells:=by
 obtain⟨a1,a2,a3,a4⟩:=h.oka.dims
 obtain⟨b1,b2,b3,b4⟩:=h.okb.dims
 have hs:=bA h.oka.sch
 refine⟨?_,hn,F7 h,fun x hx=>?_⟩
 ·refine fy (by show _≤(ek _ _).length;rw[iF h];exact a1) (by show (ek _ _).length≤_;rw[iF h];exact a2) (fun d hd=>?_) (by show ((ek _ _).map _).Nodup;rw[nv h];exact a4) hs.2.1 hs.2.2.1 (by show fb ((ek _ _).map _) _=0;rw[nv h];exact hs.2.2.2)
  obtain⟨i,hi,rfl⟩:=cv hd
  have hi':i<a.dims.length:=by rw[← iF h];exact hi
  show ic (at_ (ek a.dims b.dims) i).lo (at_ (ek a.dims b.dims) i).hi=true∧cW (at_ (ek a.dims b.dims) i).name=true
  rw[xX h hi']
  obtain⟨e1,e2⟩:=a3 i hi'
  obtain⟨e3,_⟩:=b3 i (by rw[← h.len];exact hi')
  refine⟨boundsF_ok.2 ?_,e2⟩
  simp only[my]
  omega
 ·show eV (ek a.dims b.dims) a.attrs _ _=0
  rcases mrg_mem.1 hx with hx|⟨hx,_⟩
  ·exact zq h rfl (h.oka.cel x hx) fun i hi=>by simp only[my];omega
  ·refine zq h h.len.symm (by rw[h.attrs];exact h.okb.cel x hx) fun i hi=>by simp only[my];omega
theorem MZ(h:Mrg a b)(hn:a.cells.length+b.cells.length≤4096):ji a b=(some (oh a b),0):=by
 unfold ji
 rw[if_neg (by unfold aF;rw[jh h.oka,jh h.okb];simp),if_neg (by rw[alike_iff.2 h.names];simp),if_neg (by rw[(fq jC).2 h.attrs];simp)]
 unfold cn
 have h1:=xY (a:=a) (b:=b)
 refine (if_neg ?_).trans rfl
 have:(oh a b).cells.length=(a.cells++b.cells.filter (iA a.cells)).length:=eE _
 omega
theorem Mrg.symm(h:Mrg a b):Mrg b a:=⟨h.okb,h.oka,h.names.symm,h.attrs.symm⟩
theorem Mrg.left(h:Mrg a b)(h':Mrg b c)(hn:a.cells.length+b.cells.length≤4096):Mrg (oh a b) c :=
 ⟨AN h (Xg xY hn),h'.okb,(nv h).trans (h.names.trans h'.names),h.attrs.trans h'.attrs⟩
theorem Mrg.right(h:Mrg a b)(h':Mrg b c)(hn:b.cells.length+c.cells.length≤4096):Mrg a (oh b c) :=
 ⟨h.oka,AN h' (Xg xY hn),h.names.trans (nv h').symm,h.attrs⟩
theorem Arr.ext{x y:Arr}(h1:x.dims=y.dims)(h2:x.attrs=y.attrs)(h3:x.cells=y.cells):x=y:=by cases x;cases y;simp_all
end
end Go.Proofs.YtpejdgkaapnekaaGreat
namespace Go.Proofs.YtpejdgkaapnekaaGreat
open Go Go.Abs
def bT(d:Dim):Int:=d.hi-d.lo+1
def jf:Int→List Dim→Int×Int
 | n,[]=>(n,0)
 | n,d::r=>if (4611686018427387904:Int) / bT d<n then (0,14) else jf (n*bT d) r
def aQ(ds:List Dim):Int×Int:=if cY ds≠0 then (0,cY ds) else if ds.any (fun d=>d.hi==1073741825) then (0,3) else jf 1 ds
def dy:Int→List Dim→List Int→Int
 | n,d::ds,x::xs=>dy (n*bT d+x-d.lo) ds xs
 | n,_,_=>n
def lA(ds:List Dim)(x:List Int):Int×Int:=if (aQ ds).2≠0 then (0,(aQ ds).2) else if (x.length:Int)≠ds.length then (0,13) else if !ofF ds x then (0,3) else (dy 0 ds x,0)
def unG:List Dim→Int→List Int×Int
 | [],k=>([],k)
 | d::r,k=>((d.lo+(unG r k).2 % bT d)::(unG r k).1,(unG r k).2 / bT d)
def od(ds:List Dim)(k:Int):Option (List Int)×Int:=if (aQ ds).2≠0 then (none,(aQ ds).2) else if k<0∨(aQ ds).1≤k then (none,3) else (some (unG ds k).1,0)
def gO(ds es:List Dim)(c:Cell):Cell:=⟨(unG es (dy 0 ds c.at')).1,c.vals⟩
def dB(a:Arr)(es:List Dim):Option Arr×Int :=
 if aF a≠0 then (none,2)
 else if bo es a.attrs≠0 then (none,bo es a.attrs)
 else if (aQ a.dims).2≠0 then (none,(aQ a.dims).2)
 else if (aQ es).2≠0 then (none,(aQ es).2)
 else if (aQ a.dims).1≠(aQ es).1 then (none,13)
 else cn es a.attrs (a.cells.map (gO a.dims es))
theorem Ca:∀ {ds:List Dim} {k:Int},(unG ds k).1.length=ds.length
 | [],k=>rfl
 | d::r,k=>by simp[unG,Ca (ds:=r) (k:=k)]
def cZ:List Dim→Int
 | []=>1
 | d::r=>bT d*cZ r
theorem EV{d:Dim}(h:ic d.lo d.hi=true):0<bT d:=by
 have:=boundsF_ok.1 h
 unfold bT;omega
theorem rF:∀ {ds:List Dim},(∀ d∈ds,0<bT d)→0<cZ ds
 | [],_=>by simp[cZ]
 | d::r,h=>Int.mul_pos (h d Xd) (rF fun x hx=>h x (Xa _ hx))
theorem IF:∀ {ds:List Dim} {xs:List Int} {n:Int},xs.length=ds.length→(∀ i,i<ds.length→(at_ ds i).lo≤at_ xs i∧at_ xs i≤(at_ ds i).hi)→unG ds (dy n ds xs)=(xs,n)
 | [],[],n,_,_=>rfl
 | d::ds,x::xs,n,h,hb=>by
   have h0:=hb 0 (by simp)
   have h0':d.lo≤x∧x≤d.hi:=h0
   have ih:=IF (ds:=ds) (xs:=xs) (n:=n*bT d+x-d.lo) (by simpa using h) fun i hi=>hb (i+1) (by simpa using hi)
   show ((d.lo+(unG ds (dy (n*bT d+x-d.lo) ds xs)).2 % bT d)::(unG ds (dy (n*bT d+x-d.lo) ds xs)).1,(unG ds (dy (n*bT d+x-d.lo) ds xs)).2 / bT d)=_
   rw[ih]
   have e:n*bT d+x-d.lo=(x-d.lo)+bT d*n:=by rw[XI];omega
   have hx:0≤x-d.lo∧x-d.lo<bT d:=by unfold bT;omega
   have hp:bT d≠0:=by omega
   simp only[e]
   rw[Int.add_mul_emod_self_left,Int.add_mul_ediv_left _ _ hp,Int.emod_eq_of_lt hx.1 hx.2,Int.ediv_eq_zero_of_lt hx.1 hx.2]
   congr 1
   ·congr 1;omega
   ·omega
 | [],_::_,_,h,_=>by simp at h
 | _::_,[],_,h,_=>by simp at h
theorem IG:∀ {ds:List Dim} {k:Int},dy (unG ds k).2 ds (unG ds k).1=k
 | [],k=>rfl
 | d::r,k=>by
   show dy ((unG r k).2 / bT d*bT d+(d.lo+(unG r k).2 % bT d)-d.lo) r (unG r k).1=k
   have e:(unG r k).2 / bT d*bT d+(d.lo+(unG r k).2 % bT d)-d.lo=(unG r k).2:=by
    have:=Int.emod_add_mul_ediv (unG r k).2 (bT d)
    rw[XI] at this
    omega
   rw[e]
   exact IG
theorem yi:∀ {ds:List Dim} {k:Int},(∀ d∈ds,0<bT d)→(unG ds k).2=k / cZ ds
 | [],k,_=>by simp[unG,cZ]
 | d::r,k,h=>by
   have ih:=yi (ds:=r) (k:=k) fun x hx=>h x (Xa _ hx)
   show (unG r k).2 / bT d=k / (bT d*cZ r)
   rw[ih,XI,Int.ediv_ediv_of_nonneg (X7 (rF fun x hx=>h x (Xa _ hx)))]
theorem Cb:∀ {ds:List Dim} {n:Int},(jf n ds).2=0→(jf n ds).1=n*cZ ds
 | [],n,_=>by simp[jf,cZ]
 | d::r,n,h=>by
   simp only[jf] at h ⊢
   split at h
   ·simp at h
   ·rename_i h1
    rw[if_neg h1,Cb h]
    simp only[cZ,Xx]
theorem sV:∀ {ds:List Dim} {xs:List Int} {n:Int},xs.length=ds.length→(∀ i,i<ds.length→(at_ ds i).lo≤at_ xs i∧at_ xs i≤(at_ ds i).hi)→0≤n→n*cZ ds≤dy n ds xs∧dy n ds xs<(n+1)*cZ ds
 | [],[],n,_,_,_=>by simp only[dy,cZ];omega
 | d::ds,x::xs,n,h,hb,hn=>by
   have h0:d.lo≤x∧x≤d.hi:=hb 0 (by simp)
   have he:0<bT d:=by unfold bT;omega
   have hm:0≤n*bT d:=Int.mul_nonneg hn (by omega)
   have hp:∀ y∈ds,0<bT y:=fun y hy=>by
    obtain⟨i,hi,rfl⟩:=cv hy
    have:(at_ ds i).lo≤at_ xs i∧at_ xs i≤(at_ ds i).hi:=hb (i+1) (by simpa using hi)
    unfold bT;omega
   have hpp:=rF hp
   obtain⟨i1,i2⟩:=sV (ds:=ds) (xs:=xs) (n:=n*bT d+x-d.lo) (by simpa using h) (fun i hi=>hb (i+1) (by simpa using hi)) (by omega)
   show n*(bT d*cZ ds)≤dy (n*bT d+x-d.lo) ds xs∧dy (n*bT d+x-d.lo) ds xs<(n+1)*(bT d*cZ ds)
   constructor
   ·refine Int.le_trans ?_ i1
    rw[← Xx]
    exact Int.mul_le_mul_of_nonneg_right (by omega) (by omega)
   ·refine Int.lt_of_lt_of_le i2 ?_
    rw[← Xx]
    refine Int.mul_le_mul_of_nonneg_right ?_ (by omega)
    rw[Int.add_mul]
    unfold bT at *
    omega
 | [],_::_,_,h,_,_=>by simp at h
 | _::_,[],_,h,_,_=>by simp at h
structure Resh (a:Arr) (es:List Dim):Prop where
 oka:OkA a.dims a.attrs a.cells
 sch:bo es a.attrs=0
 fin:∀ i,i<a.dims.length→(at_ a.dims i).hi≤1073741824
 fin':∀ i,i<es.length→(at_ es i).hi≤1073741824
 same:cZ a.dims=cZ es
def GF(a:Arr)(es:List Dim):Arr:=⟨es,a.attrs,cg (a.cells.map (gO a.dims es))⟩
theorem BQ{ds:List Dim}(h:(aQ ds).2=0):cY ds=0∧(∀ i,i<ds.length→(at_ ds i).hi≤1073741824)∧(aQ ds).1=cZ ds:=by
 unfold aQ at h ⊢
 split at h
 ·rename_i h1;exact absurd h h1
 split at h
 ·simp at h
 rename_i h1 h2
 have hd:cY ds=0:=by simpa using h1
 rw[if_neg h1,if_neg h2]
 refine⟨hd,fun i hi=>?_,by rw[Cb h];omega⟩
 have hb:=boundsF_ok.1 ((fp hd).2.2.1 _ (aU hi)).1
 have:¬ (at_ ds i).hi=1073741825:=fun e=>h2 (List.any_eq_true.2 ⟨_,aU hi,by simp[e]⟩)
 omega
theorem DI(a:Arr)(es:List Dim)(hc:aF a=0):(∃ e,e≠0∧dB a es=(none,e))∨(Resh a es∧(aQ a.dims).2=0∧(aQ es).2=0∧(aQ a.dims).1=(aQ es).1∧dB a es=(some (GF a es),0)):=by
 have hA:=okA hc
 unfold dB
 rw[if_neg (by simp[hc])]
 by_cases h1:bo es a.attrs=0
 ·rw[if_neg (by simp[h1])]
  by_cases h2:(aQ a.dims).2=0
  ·rw[if_neg (by simp[h2])]
   by_cases h3:(aQ es).2=0
   ·rw[if_neg (by simp[h3])]
    by_cases h4:(aQ a.dims).1=(aQ es).1
    ·rw[if_neg (by simp[h4])]
     obtain⟨_,f1,f2⟩:=BQ h2
     obtain⟨_,g1,g2⟩:=BQ h3
     refine .inr ⟨⟨hA,h1,f1,g1,by rw[← f2,← g2,h4]⟩,h2,h3,h4,?_⟩
     unfold cn
     rw[if_neg (by rw[WZ];have:=hA.few;omega)]
     rfl
    ·rw[if_pos (by simp[h4])];exact .inl ⟨13,by decide,rfl⟩
   ·rw[if_pos (by simp[h3])];exact .inl ⟨_,h3,rfl⟩
  ·rw[if_pos (by simp[h2])];exact .inl ⟨_,h2,rfl⟩
 ·rw[if_pos (by simp[h1])];exact .inl ⟨_,h1,rfl⟩
section
variable {a:Arr} {es:List Dim}
theorem Resh.ext(h:Resh a es):(∀ d∈a.dims,0<bT d)∧∀ d∈es,0<bT d :=
 ⟨fun d hd=>EV ((fp (bA h.oka.sch).1).2.2.1 d hd).1,fun d hd=>EV ((fp (bA h.sch).1).2.2.1 d hd).1⟩
theorem Resh.cell(h:Resh a es){c:Cell}(hc:c∈a.cells):c.at'.length=a.dims.length∧∀ i,i<a.dims.length→(at_ a.dims i).lo≤at_ c.at' i∧at_ c.at' i≤(at_ a.dims i).hi:=by
 obtain⟨h1,h2,h3,h4⟩:=cellF_ok.1 (h.oka.cel c hc)
 rw[cw h1] at h3
 refine⟨h1,fun i hi=>?_⟩
 have:=h3 i hi
 unfold dW at this
 omega
theorem zC(h:Resh a es){c:Cell}(hc:c∈a.cells):gO es a.dims (gO a.dims es c)=c:=by
 obtain⟨h1,h2⟩:=h.cell hc
 obtain⟨b1,b2⟩:=sV (n:=0) h1 h2 (by omega)
 have hq:(unG es (dy 0 a.dims c.at')).2=0:=by
  rw[yi h.ext.2]
  exact Int.ediv_eq_zero_of_lt (by omega) (by rw[← h.same];omega)
 have e1:dy 0 es (unG es (dy 0 a.dims c.at')).1=dy 0 a.dims c.at':=by
  have:=IG (ds:=es) (k:=dy 0 a.dims c.at')
  rwa [hq] at this
 show Cell.mk (unG a.dims (dy 0 es (unG es (dy 0 a.dims c.at')).1)).1 c.vals=c
 rw[e1,IF h1 h2]
theorem IH(h:Resh a es):(a.cells.map (gO a.dims es)).Pairwise cE:=by
 rw[X4]
 refine List.Pairwise.imp_of_mem ?_ (bW h.oka.srt)
 intro x y hx hy hd e
 apply hd
 have e1:=zC h hx
 have e2:=zC h hy
 have:(gO es a.dims (gO a.dims es x)).at'=(gO es a.dims (gO a.dims es y)).at':=by
  show (unG a.dims (dy 0 es (gO a.dims es x).at')).1=(unG a.dims (dy 0 es (gO a.dims es y).at')).1
  rw[e]
 rwa [e1,e2] at this
end
end Go.Proofs.YtpejdgkaapnekaaGreat
namespace Go.Proofs.YtpejdgkaapnekaaGreat
open Go Go.Abs
def ay{α:Type}[Inhabited α](l:List α)(ks:List Int):List α:=ks.map fun k=>at_ l k.toNat
def eU(ds:List Dim):List Int→List (List UInt8)→Option (List Int)
 | acc,[]=>some acc
 | acc,n::r=>if aV ds n<0 then none else if acc.contains (aV ds n) then none else eU ds (acc++[aV ds n]) r
def mg(ks:List Int)(c:Cell):Cell:=⟨ay c.at' ks,c.vals⟩
def dY(a:Arr)(names:List (List UInt8)):Option Arr×Int :=
 if aF a≠0 then (none,2)
 else if (names.length:Int)≠a.dims.length then (none,13)
 else match eU a.dims [] names with
  | none=>(none,11)
  | some ks=>cn (ay a.dims ks) a.attrs (a.cells.map (mg ks))
theorem Ij{ds:List Dim}:∀ {names:List (List UInt8)} {acc ks:List Int},eU ds acc names=some ks→ks=acc++names.map (aV ds)∧(∀ n∈names,¬ aV ds n<0)∧(acc.Nodup→ks.Nodup)
 | [],acc,ks,h=>by
   simp only[eU,W5] at h
   subst h;simp
 | n::r,acc,ks,h=>by
   simp only[eU] at h
   split at h
   ·cases h
   split at h
   ·cases h
   rename_i h1 h2
   obtain⟨e1,e2,e3⟩:=Ij h
   refine⟨by rw[e1];simp,fun x hx=>?_,fun hn=>e3 ?_⟩
   ·rcases Xo.1 hx with rfl|hx
    ·exact h1
    ·exact e2 x hx
   ·have h3:aV ds n ∉ acc:=by simpa using h2
    rw[List.nodup_append]
    exact⟨hn,by simp,fun a ha b hb=>by rw[X6.1 hb];rintro rfl;exact h3 ha⟩
theorem Ik{ds:List Dim}:∀ {names:List (List UInt8)} {acc:List Int},(∀ n∈names,¬ aV ds n<0)→(acc++names.map (aV ds)).Nodup→eU ds acc names=some (acc++names.map (aV ds))
 | [],acc,_,_=>by simp[eU]
 | n::r,acc,h1,h2=>by
   have h3:aV ds n ∉ acc:=fun hm=>by
    rw[List.nodup_append] at h2
    exact h2.2.2 _ hm _ (by simp) rfl
   rw[eU,if_neg (h1 n Xd),if_neg (by simpa using h3),Ik (fun x hx=>h1 x (Xa _ hx)) (by simpa using h2)]
   simp
theorem wq:∀ {m:Nat} {l:List Nat},l.Nodup→(∀ x∈l,x<m)→l.length≤m
 | 0,l,_,h=>by
   cases l with
   | nil=>simp
   | cons x r=>exact absurd (h x Xd) (Nat.not_lt_zero _)
 | m+1,l,hn,h=>by
   by_cases hm:m∈l
   ·have h1:=wq (m:=m) (l:=l.erase m) (hn.erase m) fun x hx=>by
     have h2:=(hn.mem_erase_iff).1 hx
     have:=h x h2.2
     omega
    rw[List.length_erase_of_mem hm] at h1
    omega
   ·have h1:=wq (m:=m) (l:=l) hn fun x hx=>by
     have:=h x hx
     have:x≠m:=fun e=>hm (e ▸ hx)
     omega
    omega
theorem Pr{l:List Nat}{n:Nat}(hn:l.Nodup)(hl:l.length=n)(h:∀ x∈l,x<n){i:Nat}(hi:i<n):i∈l:=by
 by_cases hm:i∈l
 ·exact hm
 ·have h1:=wq (m:=n) (l:=i::l) (Ys.2 ⟨hm,hn⟩) fun x hx=>by
   rcases Xo.1 hx with rfl|hx
   ·exact hi
   ·exact h x hx
  simp only[Xq] at h1
  omega
structure Tran (a:Arr) (names:List (List UInt8)):Prop where
 oka:OkA a.dims a.attrs a.cells
 len:names.length=a.dims.length
 all:∀ n∈names,¬ aV a.dims n<0
 nd:(names.map (aV a.dims)).Nodup
def ixs(ds:List Dim)(names:List (List UInt8)):List Int:=names.map (aV ds)
def je(a:Arr)(names:List (List UInt8)):Arr:=⟨ay a.dims (ixs a.dims names),a.attrs,cg (a.cells.map (mg (ixs a.dims names)))⟩
theorem rY(a:Arr)(names:List (List UInt8))(hc:aF a=0):(∃ e,e≠0∧dY a names=(none,e))∨(Tran a names∧dY a names=(some (je a names),0)):=by
 unfold dY
 rw[if_neg (by simp[hc])]
 by_cases h1:names.length=a.dims.length
 ·rw[if_neg (by simp[h1])]
  cases hs:eU a.dims [] names with
  | none=>exact .inl ⟨11,by decide,rfl⟩
  | some ks =>
    obtain⟨e1,e2,e3⟩:=Ij hs
    simp only[X3] at e1
    refine .inr ⟨⟨okA hc,h1,e2,e1 ▸ e3 (by simp)⟩,?_⟩
    subst e1
    show cn _ _ _=_
    unfold cn
    rw[if_neg (by rw[WZ];have:=(okA hc).few;omega)]
    rfl
 ·rw[if_pos (by omega)]
  exact .inl ⟨13,by decide,rfl⟩
theorem gh{α:Type}[Inhabited α]{l:List α}{ks:List Int}{i:Nat}(h:i<ks.length):at_ (ay l ks) i=at_ l (at_ ks i).toNat:=by
 unfold ay;rw[bj h]
theorem bQ{α:Type}[Inhabited α]{l:List α}{ks:List Int}:(ay l ks).length=ks.length:=by simp[ay]
theorem jr{ds:List Dim}(hn:(ds.map Dim.name).Nodup){j:Nat}(hj:j<ds.length){n:List UInt8}(h:(at_ ds j).name=n):aV ds n=(j:Int):=by
 have h0:¬ aV ds n<0:=fun hx=>by
  have:=jQ hx _ (aU hj)
  simp[h] at this
 obtain⟨k,h1,h2,h3,_⟩:=kA h0
 have:=uU hn h2 hj (h3.trans h.symm)
 rw[h1,this]
section
variable {a:Arr} {names:List (List UInt8)}
theorem Tran.ix(h:Tran a names){i:Nat}(hi:i<names.length):∃ k:Nat,at_ (ixs a.dims names) i=(k:Int)∧k<a.dims.length∧(at_ a.dims k).name=at_ names i:=by
 obtain⟨k,h1,h2,h3,_⟩:=kA (h.all _ (aU hi))
 exact⟨k,by unfold ixs;rw[bj hi,h1],h2,h3⟩
theorem fU:(ixs a.dims names).length=names.length:=by simp[ixs]
theorem Tran.nms(h:Tran a names):(je a names).dims.map Dim.name=names:=by
 refine c5 (by simp[je,ay,ixs]) fun i hi=>?_
 have hi':i<names.length:=by simpa[je,ay,ixs] using hi
 obtain⟨k,h1,h2,h3⟩:=h.ix hi'
 rw[bj (by show i<(ay _ _).length;rw[bQ,fU];exact hi')]
 show (at_ (ay a.dims (ixs a.dims names)) i).name=_
 rw[gh (by rw[fU];exact hi'),h1]
 exact h3
theorem Tran.namesNd(h:Tran a names):names.Nodup:=by
 have:=h.nd
 rw[List.Nodup,X4] at this
 exact this.imp fun hne e=>hne (by rw[e])
theorem Tran.onto(h:Tran a names){i:Nat}(hi:i<a.dims.length):∃ j,j<names.length∧at_ (ixs a.dims names) j=(i:Int):=by
 have hlt:∀ x∈(ixs a.dims names).map Int.toNat,x<a.dims.length:=fun x hx=>by
  obtain⟨y,hy,rfl⟩:=Xj.1 hx
  obtain⟨j,hj,rfl⟩:=cv hy
  rw[fU] at hj
  obtain⟨k,h1,h2,_⟩:=h.ix hj
  rw[h1];simpa using h2
 have hnd:((ixs a.dims names).map Int.toNat).Nodup:=by
  rw[List.Nodup,X4]
  refine List.Pairwise.imp_of_mem ?_ h.nd
  intro x y hx hy hne e
  apply hne
  obtain⟨j,hj,rfl⟩:=cv (l:=ixs a.dims names) hx
  obtain⟨j',hj',rfl⟩:=cv (l:=ixs a.dims names) hy
  rw[fU] at hj hj'
  obtain⟨k,h1,_⟩:=h.ix hj
  obtain⟨k',h1',_⟩:=h.ix hj'
  rw[h1,h1'] at e ⊢
  have e':k=k':=by simpa using e
  rw[e']
 have:=Pr hnd (by rw[WZ,fU];exact h.len) hlt hi
 obtain⟨y,hy,e⟩:=Xj.1 this
 obtain⟨j,hj,rfl⟩:=cv hy
 rw[fU] at hj
 obtain⟨k,h1,_⟩:=h.ix hj
 exact⟨j,hj,by rw[h1] at e ⊢;simp at e;rw[e]⟩
theorem Tran.cell(h:Tran a names){c:Cell}(hc:c∈a.cells):c.at'.length=a.dims.length:=(cellF_ok.1 (h.oka.cel c hc)).1
theorem rU:∀ {ats:List Attr} {m m':List (List UInt8)},(∀ x,x∈m↔x∈m')→fb m ats=fb m' ats
 | [],_,_,_=>rfl
 | x::r,m,m',h=>by
   have e:m.contains x.name=m'.contains x.name:=by
    rw[XR];simp[h]
   simp only[fb,e]
   rw[rU (m:=m++[x.name]) (m':=m'++[x.name]) fun y=>by simp[h]]
theorem Tran.old(h:Tran a names){i:Nat}(hi:i<a.dims.length):∃ j:Nat,j<names.length∧aV (je a names).dims (at_ a.dims i).name=(j:Int)∧at_ (ixs a.dims names) j=(i:Int):=by
 obtain⟨j,hj,he⟩:=h.onto hi
 refine⟨j,hj,jr (by rw[h.nms];exact h.namesNd) (by show j<(ay _ _).length;rw[bQ,fU];exact hj) ?_,he⟩
 show (at_ (ay a.dims (ixs a.dims names)) j).name=_
 rw[gh (by rw[fU];exact hj),he]
 rfl
theorem Tran.ixold(h:Tran a names){i:Nat}(hi:i<a.dims.length):∃ j:Nat,j<names.length∧at_ (ixs (je a names).dims (a.dims.map Dim.name)) i=(j:Int)∧at_ (ixs a.dims names) j=(i:Int):=by
 obtain⟨j,h1,h2,h3⟩:=h.old hi
 refine⟨j,h1,?_,h3⟩
 unfold ixs
 rw[bj (by simpa using hi),bj hi]
 exact h2
theorem zj(h:Tran a names){α:Type}[Inhabited α]{l:List α}(hl:l.length=a.dims.length):ay (ay l (ixs a.dims names)) (ixs (je a names).dims (a.dims.map Dim.name))=l:=by
 refine c5 (by rw[bQ];simp[ixs,hl]) fun i hi=>?_
 have hi':i<a.dims.length:=by simpa[bQ,ixs] using hi
 obtain⟨j,h1,h2,h3⟩:=h.ixold hi'
 rw[gh (by simp[ixs];exact hi'),h2]
 show at_ (ay l (ixs a.dims names)) j=_
 rw[gh (by rw[fU];exact h1),h3]
 rfl
theorem zk(h:Tran a names):(a.cells.map (mg (ixs a.dims names))).Pairwise cE:=by
 rw[X4]
 refine List.Pairwise.imp_of_mem ?_ (bW h.oka.srt)
 intro x y hx hy hd e
 apply hd
 have e1:=zj h (h.cell hx)
 have e2:=zj h (h.cell hy)
 have e':ay x.at' (ixs a.dims names)=ay y.at' (ixs a.dims names):=e
 rw[e',e2] at e1
 exact e1.symm
theorem Mw(h:Tran a names):OkA (je a names).dims (je a names).attrs (je a names).cells:=by
 obtain⟨a1,a2,a3,a4⟩:=h.oka.dims
 have hs:=bA h.oka.sch
 have hl:(je a names).dims.length=a.dims.length:=by show (ay _ _).length=_;rw[bQ,fU,h.len]
 have hdim:∀ i,i<a.dims.length→∃ k:Nat,k<a.dims.length∧at_ (ixs a.dims names) i=(k:Int)∧at_ (je a names).dims i=at_ a.dims k:=fun i hi=>by
  obtain⟨k,h1,h2,_⟩:=h.ix (i:=i) (by rw[h.len];exact hi)
  refine⟨k,h2,h1,?_⟩
  show at_ (ay _ _) i=_
  rw[gh (by rw[fU,h.len];exact hi),h1];rfl
 refine⟨?_,by show (cg _).length≤_;rw[eE,WZ];exact h.oka.few,fT (zk h),fun x hx=>?_⟩
 ·refine fy (by rw[hl];exact a1) (by rw[hl];exact a2) (fun d hd=>?_) (by rw[h.nms];exact h.namesNd) hs.2.1 hs.2.2.1 ?_
  ·obtain⟨i,hi,rfl⟩:=cv hd
   rw[hl] at hi
   obtain⟨k,hk,_,e⟩:=hdim i hi
   rw[e]
   exact⟨boundsF_ok.2 (a3 k hk).1,(a3 k hk).2⟩
  ·rw[h.nms]
   refine (rU fun x=>?_).trans hs.2.2.2
   constructor
   ·intro hx
    obtain⟨i,hi,rfl⟩:=cv hx
    obtain⟨k,_,h2,h3⟩:=h.ix hi
    exact Xj.2 ⟨_,aU h2,h3⟩
   ·intro hx
    obtain⟨d,hd,rfl⟩:=Xj.1 hx
    obtain⟨i,hi,rfl⟩:=cv hd
    obtain⟨j,hj,he⟩:=h.onto hi
    obtain⟨k,h1,_,h3⟩:=h.ix hj
    rw[he] at h1
    have:i=k:=by omega
    subst this
    rw[h3];exact aU hj
 ·obtain⟨c,hc,rfl⟩:=Xj.1 ((fD _).mem_iff.1 hx)
  obtain⟨h1,h2,h3,h4⟩:=cellF_ok.1 (h.oka.cel c hc)
  have hcl:(mg (ixs a.dims names) c).at'.length=(je a names).dims.length:=by show (ay _ _).length=_;rw[bQ,fU,h.len,hl]
  refine cellF_ok.2 ⟨hcl,h2,?_,h4⟩
  rw[cw h1] at h3
  rw[cw hcl]
  intro i hi
  rw[hl] at hi
  obtain⟨k,hk,e1,e2⟩:=hdim i hi
  rw[e2]
  show _≤at_ (ay c.at' _) i∧at_ (ay c.at' _) i≤_
  rw[gh (by rw[fU,h.len];exact hi),e1]
  exact h3 k hk
end
end Go.Proofs.YtpejdgkaapnekaaGreat
namespace Go.Proofs.YtpejdgkaapnekaaGreat
open Go Go.Abs
def cC(a:Arr)(n:List UInt8):Bool:=decide (0≤aV a.dims n)||decide (0≤atX a.attrs n)
def kR(a:Arr)(n m:List UInt8):Arr :=
 if 0≤aV a.dims n then ⟨a.dims.set (aV a.dims n).toNat ⟨m,(at_ a.dims (aV a.dims n).toNat).lo,(at_ a.dims (aV a.dims n).toNat).hi⟩,a.attrs,a.cells⟩
 else ⟨a.dims,a.attrs.set (atX a.attrs n).toNat ⟨m,(at_ a.attrs (atX a.attrs n).toNat).type⟩,a.cells⟩
def iw(a:Arr)(n m:List UInt8):Option Arr×Int :=
 if aF a≠0 then (none,2)
 else if !cC a n||!cW m||(!(m==n)&&cC a m) then (none,11)
 else (some (kR a n m),0)
theorem nodup_at{α:Type}[Inhabited α]{l:List α}:l.Nodup↔∀ i j,i<l.length→j<l.length→at_ l i=at_ l j→i=j:=by
 constructor
 ·intro h i j hi hj he
  have e1:=ea hi
  rw[he,← ea hj] at e1
  exact (List.getElem?_inj hi h).1 e1
 ·intro h
  rw[List.Nodup,List.pairwise_iff_getElem]
  intro i j hi hj hij e
  have:=h i j hi hj (by
   have e1:=ea hi
   have e2:=ea hj
   rw[Xf hi] at e1
   rw[Xf hj] at e2
   rw[← Option.some.inj e1,← Option.some.inj e2,e])
  omega
theorem zb{α:Type}[Inhabited α]{l:List α}{k:Nat}{x:α}(h:l.Nodup)(hx:∀ j,j<l.length→j≠k→at_ l j≠x):(l.set k x).Nodup:=by
 rw[nodup_at] at h ⊢
 intro i j hi hj he
 simp only[List.length_set] at hi hj
 rw[fP hi,fP hj] at he
 by_cases h1:i=k<;>by_cases h2:j=k
 ·omega
 ·rw[if_pos h1,if_neg h2] at he;exact absurd he.symm (hx j hj h2)
 ·rw[if_neg h1,if_pos h2] at he;exact absurd he (hx i hi h1)
 ·rw[if_neg h1,if_neg h2] at he;exact h i j hi hj he
theorem attrsGo_iff:∀ {ats:List Attr} {met:List (List UInt8)},fb met ats=0↔(∀ x∈ats,cW x.name=true∧x.name ∉ met∧1≤x.type∧x.type≤4)∧(ats.map Attr.name).Nodup
 | [],met=>by simp[fb]
 | x::r,met=>by
   have ih:=attrsGo_iff (ats:=r) (met:=met++[x.name])
   simp only[fb]
   constructor
   ·intro h
    split at h
    ·omega
    split at h
    ·omega
    rename_i h1 h2
    obtain⟨i1,i2⟩:=ih.1 h
    simp only[Xs,Xe,not_or,Bool.not_eq_false,XZ,List.contains_eq_mem,Yi,Yj] at h1
    refine⟨fun y hy=>?_,?_⟩
    ·rcases Xo.1 hy with rfl|hy
     ·exact⟨h1.1,h1.2,by omega,by omega⟩
     ·obtain⟨j1,j2,j3,j4⟩:=i1 y hy
      exact⟨j1,fun hm=>j2 (XF.2 (.inl hm)),j3,j4⟩
    ·rw[XK,Ys]
     refine⟨fun hm=>?_,i2⟩
     obtain⟨y,hy,he⟩:=Xj.1 hm
     exact (i1 y hy).2.1 (by rw[he];simp)
   ·rintro ⟨h1,h2⟩
    rw[XK,Ys] at h2
    obtain⟨j1,j2,j3,j4⟩:=h1 x Xd
    rw[if_neg (by simp[j1,j2]),if_neg (by omega)]
    refine ih.2 ⟨fun y hy=>?_,h2.2⟩
    obtain⟨k1,k2,k3,k4⟩:=h1 y (Xa _ hy)
    refine⟨k1,fun hm=>?_,k3,k4⟩
    rcases XF.1 hm with hm|hm
    ·exact k2 hm
    ·exact h2.1 (Xj.2 ⟨y,hy,X6.1 hm⟩)
theorem vO{ats:List Attr}{n:List UInt8}(h:¬ atX ats n<0):∃ k:Nat,atX ats n=(k:Int)∧k<ats.length∧(at_ ats k).name=n:=by
 obtain⟨k,h1,h2,h3,_⟩:=ku h
 exact⟨k,by unfold atX;rw[h1];simp,h2,by simpa using h3⟩
theorem dimX_mem{ds:List Dim}{n:List UInt8}:0≤aV ds n↔n∈ds.map Dim.name:=by
 constructor
 ·intro h
  obtain⟨k,_,h2,h3,_⟩:=kA (ds:=ds) (name:=n) (by omega)
  exact Xj.2 ⟨_,aU h2,h3⟩
 ·intro h
  obtain⟨d,hd,rfl⟩:=Xj.1 h
  by_cases h0:aV ds d.name<0
  ·have:=jQ h0 d hd
   simp at this
  ·omega
theorem atX_mem{ats:List Attr}{n:List UInt8}:0≤atX ats n↔n∈ats.map Attr.name:=by
 constructor
 ·intro h
  obtain⟨k,_,h2,h3⟩:=vO (ats:=ats) (n:=n) (by omega)
  exact Xj.2 ⟨_,aU h2,h3⟩
 ·intro h
  obtain⟨d,hd,rfl⟩:=Xj.1 h
  by_cases h0:atX ats d.name<0
  ·have:=jQ h0 d hd
   simp at this
  ·omega
theorem hasN_iff{a:Arr}{n:List UInt8}:cC a n=true↔n∈a.dims.map Dim.name∨n∈a.attrs.map Attr.name:=by
 simp only[cC,Xs,Yi,dimX_mem,atX_mem]
structure Ren (a:Arr) (n m:List UInt8):Prop where
 oka:OkA a.dims a.attrs a.cells
 has:n∈a.dims.map Dim.name∨n∈a.attrs.map Attr.name
 nm:cW m=true
 new:m=n∨(m ∉ a.dims.map Dim.name∧m ∉ a.attrs.map Attr.name)
theorem vQ(a:Arr)(n m:List UInt8)(hc:aF a=0):(∃ e,e≠0∧iw a n m=(none,e))∨(Ren a n m∧iw a n m=(some (kR a n m),0)):=by
 unfold iw
 rw[if_neg (by simp[hc])]
 by_cases h:(!cC a n||!cW m||(!(m==n)&&cC a m))=true
 ·rw[if_pos h];exact .inl ⟨11,by decide,rfl⟩
 ·rw[if_neg h]
  simp only[Xs,Xe,WX,not_or,Bool.not_eq_false,Yk,ne_eq,not_and] at h
  refine .inr ⟨⟨okA hc,hasN_iff.1 h.1.1,h.1.2,?_⟩,rfl⟩
  by_cases e:m=n
  ·exact .inl e
  ·have:=h.2 e
   rw[hasN_iff] at this
   exact .inr ⟨fun h=>this (.inl h),fun h=>this (.inr h)⟩
section
variable {a:Arr} {n m:List UInt8}
theorem Ren.nd(h:Ren a n m):(a.dims.map Dim.name).Nodup∧(a.attrs.map Attr.name).Nodup∧∀ x,x∈a.attrs.map Attr.name→x ∉ a.dims.map Dim.name:=by
 have hs:=attrsGo_iff.1 (bA h.oka.sch).2.2.2
 refine⟨h.oka.dims.2.2.2,hs.2,fun x hx hd=>?_⟩
 obtain⟨t,ht,rfl⟩:=Xj.1 hx
 exact (hs.1 t ht).2.1 hd
theorem Ren.which(h:Ren a n m):(∃ k:Nat,aV a.dims n=(k:Int)∧k<a.dims.length∧(at_ a.dims k).name=n∧kR a n m=⟨a.dims.set k ⟨m,(at_ a.dims k).lo,(at_ a.dims k).hi⟩,a.attrs,a.cells⟩) ∨
  (n ∉ a.dims.map Dim.name∧∃ k:Nat,atX a.attrs n=(k:Int)∧k<a.attrs.length∧(at_ a.attrs k).name=n∧kR a n m=⟨a.dims,a.attrs.set k ⟨m,(at_ a.attrs k).type⟩,a.cells⟩):=by
 by_cases h0:0≤aV a.dims n
 ·obtain⟨k,h1,h2,h3,_⟩:=kA (ds:=a.dims) (name:=n) (by omega)
  refine .inl ⟨k,h1,h2,h3,?_⟩
  unfold kR
  rw[if_pos h0,h1]
  rfl
 ·have hd:n ∉ a.dims.map Dim.name:=fun hh=>h0 (dimX_mem.2 hh)
  have ha:=h.has.resolve_left hd
  have h4:=atX_mem.2 ha
  obtain⟨k,h1,h2,h3⟩:=vO (ats:=a.attrs) (n:=n) (by omega)
  refine .inr ⟨hd,k,h1,h2,h3,?_⟩
  unfold kR
  rw[if_neg h0,h1]
  rfl
theorem Bu{α:Type}[Inhabited α]{l:List α}(h:l.Nodup){k:Nat}(hk:k<l.length){j:Nat}(hj:j<l.length)(hn:j≠k){x:α}(hx:x=at_ l k∨x ∉ l):at_ l j≠x:=by
 rcases hx with rfl|hx
 ·exact fun e=>hn (nodup_at.1 h j k hj hk e)
 ·exact fun e=>hx (e ▸ aU hj)
theorem wv{ds:List Dim}{ats:List Attr}{es:List Dim}{bs:List Attr}(hd:es.length=ds.length)(hl:∀ i,i<ds.length→(at_ es i).lo=(at_ ds i).lo∧(at_ es i).hi=(at_ ds i).hi)(ha:bs.length=ats.length)(ht:∀ i,i<ats.length→(at_ bs i).type=(at_ ats i).type)
  {c:Cell} (hc:eV ds ats c.at' c.vals=0):eV es bs c.at' c.vals=0:=by
 obtain⟨h1,h2,h3,h4⟩:=cellF_ok.1 hc
 refine cellF_ok.2 ⟨by omega,by omega,?_,?_⟩
 ·rw[cw h1] at h3
  rw[cw (by omega)]
  intro i hi
  rw[(hl i (by omega)).1,(hl i (by omega)).2]
  exact h3 i (by omega)
 ·rw[q9 h2] at h4
  rw[q9 (by omega)]
  intro i hi
  rw[ht i (by omega)]
  exact h4 i (by omega)
theorem Oq(h:Ren a n m):OkA (kR a n m).dims (kR a n m).attrs (kR a n m).cells:=by
 obtain⟨a1,a2,a3,a4⟩:=h.oka.dims
 obtain⟨_,s2,s3,s4⟩:=bA h.oka.sch
 have hs:=attrsGo_iff.1 s4
 obtain⟨n1,n2,n3⟩:=h.nd
 rcases h.which with⟨k,_,hk,hn,e⟩|⟨hnd,k,_,hk,hn,e⟩
 ·rw[e]
  have hm:(a.dims.set k ⟨m,(at_ a.dims k).lo,(at_ a.dims k).hi⟩).map Dim.name=(a.dims.map Dim.name).set k m:=by rw[XW]
  have hnew:m=at_ (a.dims.map Dim.name) k∨m ∉ a.dims.map Dim.name:=by
   rw[bj hk,hn]
   exact h.new.imp id fun h=>h.1
  refine⟨fy (by simpa using a1) (by simpa using a2) (fun d hd=>?_) ?_ s2 s3 ?_,h.oka.few,h.oka.srt,fun c hc=>?_⟩
  ·obtain⟨i,hi,rfl⟩:=cv hd
   have hi':i<a.dims.length:=by simpa using hi
   rw[fP hi']
   by_cases e1:i=k
   ·subst e1
    rw[if_pos rfl]
    exact⟨boundsF_ok.2 (a3 i hi').1,h.nm⟩
   ·rw[if_neg e1]
    exact⟨boundsF_ok.2 (a3 i hi').1,(a3 i hi').2⟩
  ·show (List.map _ _).Nodup
   rw[hm]
   exact zb n1 fun j hj hne=>Bu n1 (by simpa using hk) hj hne hnew
  ·show fb (List.map _ _) _=0
   rw[hm,attrsGo_iff]
   refine⟨fun x hx=>⟨(hs.1 x hx).1,fun hx'=>?_,(hs.1 x hx).2.2⟩,hs.2⟩
   rcases List.mem_or_eq_of_mem_set hx' with hx'|e1
   ·exact (hs.1 x hx).2.1 hx'
   ·have hxm:m∈a.attrs.map Attr.name:=Xj.2 ⟨x,hx,e1⟩
    rcases h.new with e2|⟨_,h2⟩
    ·rw[e2] at hxm
     exact n3 _ hxm (by rw[← hn];exact Xj.2 ⟨_,aU hk,rfl⟩)
    ·exact h2 hxm
  ·refine wv (by simp) (fun i hi=>?_) rfl (fun i _=>rfl) (h.oka.cel c hc)
   show (at_ (a.dims.set k _) i).lo=_∧(at_ (a.dims.set k _) i).hi=_
   rw[fP hi]
   by_cases e1:i=k
   ·subst e1;rw[if_pos rfl];exact⟨rfl,rfl⟩
   ·rw[if_neg e1];exact⟨rfl,rfl⟩
 ·rw[e]
  have hm:(a.attrs.set k ⟨m,(at_ a.attrs k).type⟩).map Attr.name=(a.attrs.map Attr.name).set k m:=by rw[XW]
  have hnew:m=at_ (a.attrs.map Attr.name) k∨m ∉ a.attrs.map Attr.name:=by
   rw[bj hk,hn]
   exact h.new.imp id fun h=>h.2
  refine⟨fy a1 a2 (fun d hd=>?_) a4 (by simpa using s2) (by simpa using s3) ?_,h.oka.few,h.oka.srt,fun c hc=>?_⟩
  ·obtain⟨i,hi,rfl⟩:=cv hd
   exact⟨boundsF_ok.2 (a3 i hi).1,(a3 i hi).2⟩
  ·show fb _ (List.set _ _ _)=0
   rw[attrsGo_iff]
   refine⟨fun x hx=>?_,by rw[hm];exact zb n2 fun j hj hne=>Bu n2 (by simpa using hk) hj hne hnew⟩
   rcases List.mem_or_eq_of_mem_set hx with hx|e1
   ·exact hs.1 x hx
   ·subst e1
    refine⟨h.nm,?_,(hs.1 _ (aU hk)).2.2⟩
    rcases h.new with e2|⟨h2,_⟩
    ·show m ∉ _;rw[e2];exact hnd
    ·exact h2
  ·refine wv rfl (fun i _=>⟨rfl,rfl⟩) (by simp) (fun i hi=>?_) (h.oka.cel c hc)
   show (at_ (a.attrs.set k _) i).type=_
   rw[fP hi]
   by_cases e1:i=k
   ·subst e1;rw[if_pos rfl]
   ·rw[if_neg e1]
end
end Go.Proofs.YtpejdgkaapnekaaGreat
namespace Go.Proofs.YtpejdgkaapnekaaGreat
open Go Go.Abs
theorem vY{n i:Nat}(h:i<n):at_ (List.range n) i=i:=by simp[at_,Xi,h]
def inD(ds:List Dim)(n:List UInt8):Bool:=decide (0≤aV ds n)
def gY(ad bd:List Dim)(n:Nat):List Nat:=(List.range n).filter fun i=>inD ad (at_ bd i).name
def jY(ad bd:List Dim)(n:Nat):List Nat:=(List.range n).filter fun i=>!inD ad (at_ bd i).name
def nf(ad bd:List Dim)(n:Nat):List Int:=(gY ad bd n).map fun i=>aV ad (at_ bd i).name
def ng(ad bd:List Dim)(n:Nat):List Int:=(gY ad bd n).map fun i:Nat=>(i:Int)
def lk(ad bd:List Dim)(n:Nat):List Int:=(jY ad bd n).map fun i:Nat=>(i:Int)
def aZ(ad bd:List Dim):List Int:=nf ad bd bd.length
def cU(ad bd:List Dim):List Int:=ng ad bd bd.length
def bE(ad bd:List Dim):List Int:=lk ad bd bd.length
def ll(bd:List Dim)(d:Dim):Dim:=if aV bd d.name<0 then d else ⟨d.name,max d.lo (at_ bd (aV bd d.name).toNat).lo,min d.hi (at_ bd (aV bd d.name).toNat).hi⟩
def bR(ad bd:List Dim):List Dim:=ad.map (ll bd)++ay bd (bE ad bd)
def dc(ad bd:List Dim)(c d:Cell):Bool:=ay c.at' (aZ ad bd)==ay d.at' (cU ad bd)
def qP(ad bd:List Dim)(c d:Cell):Cell:=⟨c.at'++ay d.at' (bE ad bd),c.vals++d.vals⟩
def jZ(a b:Arr)(c:Cell):List Cell:=(b.cells.filter (dc a.dims b.dims c)).map (qP a.dims b.dims c)
def eD(a b:Arr):List Cell:=a.cells.flatMap (jZ a b)
def pn(d:Dim):Bool:=decide (d.hi<d.lo)
def fu(a b:Arr):Option Arr×Int :=
 if 4<((bR a.dims b.dims).length:Int)∨6<((a.attrs++b.attrs).length:Int) then (none,9)
 else if (bR a.dims b.dims).any pn then (none,3)
 else cn (bR a.dims b.dims) (a.attrs++b.attrs) (eD a b)
def cM(a b:Arr):Bool:=a.attrs.any fun x=>cC b x.name
def lL(a b:Arr):Bool:=a.dims.any fun d=>inD b.dims d.name
def jD(a b:Arr):Option Arr×Int :=
 if aF a≠0∨aF b≠0 then (none,2)
 else if !lL a b then (none,13)
 else if cM a b||cM b a then (none,11)
 else fu a b
def gS(a b:Arr):Option Arr×Int :=
 if aF a≠0∨aF b≠0 then (none,2)
 else if lL a b||(cM a b||cM b a) then (none,11)
 else fu a b
section
variable {ad bd:List Dim}
theorem inD_iff{ds:List Dim}{n:List UInt8}:inD ds n=true↔n∈ds.map Dim.name:=by
 unfold inD;rw[Yi];exact dimX_mem
theorem sc{ds:List Dim}{n:List UInt8}(h:inD ds n=true):∃ k:Nat,aV ds n=(k:Int)∧k<ds.length∧(at_ ds k).name=n:=by
 have h0:¬ aV ds n<0:=by have:=Yg h;omega
 obtain⟨k,h1,h2,h3,_⟩:=kA h0
 exact⟨k,h1,h2,h3⟩
theorem oN{n:Nat}:gY ad bd (n+1)=if inD ad (at_ bd n).name then gY ad bd n++[n] else gY ad bd n:=by
 unfold gY
 rw[List.range_succ,List.filter_append]
 cases h:inD ad (at_ bd n).name<;>simp[h]
theorem yX{n:Nat}:jY ad bd (n+1)=if inD ad (at_ bd n).name then jY ad bd n else jY ad bd n++[n]:=by
 unfold jY
 rw[List.range_succ,List.filter_append]
 cases h:inD ad (at_ bd n).name<;>simp[h]
theorem com_mem{n i:Nat}:i∈gY ad bd n↔i<n∧inD ad (at_ bd i).name=true:=by simp[gY]
theorem oth_mem{n i:Nat}:i∈jY ad bd n↔i<n∧inD ad (at_ bd i).name=false:=by simp[jY]
theorem Ea{n:Nat}:(gY ad bd n).length≤n:=by
 have:=XO (fun i=>inD ad (at_ bd i).name) (List.range n)
 simpa[gY] using this
theorem Eb{n:Nat}:(jY ad bd n).length≤n:=by
 have:=XO (fun i=>!inD ad (at_ bd i).name) (List.range n)
 simpa[jY] using this
theorem iQ:(aZ ad bd).length=(gY ad bd bd.length).length:=by simp[aZ,nf]
theorem pS:(cU ad bd).length=(gY ad bd bd.length).length:=by simp[cU,ng]
theorem tu:(bE ad bd).length=(jY ad bd bd.length).length:=by simp[bE,lk]
theorem pT{i:Nat}(h:i<(aZ ad bd).length):∃ k j:Nat,at_ (aZ ad bd) i=(k:Int)∧at_ (cU ad bd) i=(j:Int)∧k<ad.length∧j<bd.length∧(at_ ad k).name=(at_ bd j).name∧j=at_ (gY ad bd bd.length) i:=by
 have h1:i<(gY ad bd bd.length).length:=by rw[← iQ];exact h
 have hm:=com_mem.1 (aU h1)
 obtain⟨k,h2,h3,h4⟩:=sc hm.2
 refine⟨k,_,?_,?_,h3,hm.1,h4,rfl⟩
 ·show at_ ((gY ad bd bd.length).map _) i=_
  rw[bj h1,h2]
 ·show at_ ((gY ad bd bd.length).map _) i=_
  rw[bj h1]
theorem pU:∀ i,i<(aZ ad bd).length→0≤at_ (aZ ad bd) i∧(at_ (aZ ad bd) i).toNat<ad.length:=fun i hi=>by
 obtain⟨k,j,h1,_,h2,_⟩:=pT hi
 rw[h1];exact⟨by omega,by simpa using h2⟩
theorem Ec:∀ i,i<(cU ad bd).length→0≤at_ (cU ad bd) i∧(at_ (cU ad bd) i).toNat<bd.length:=fun i hi=>by
 obtain⟨k,j,_,h1,_,h2,_⟩:=pT (ad:=ad) (bd:=bd) (i:=i) (by rw[iQ,← pS];exact hi)
 rw[h1];exact⟨by omega,by simpa using h2⟩
theorem pV:∀ i,i<(bE ad bd).length→0≤at_ (bE ad bd) i∧(at_ (bE ad bd) i).toNat<bd.length:=fun i hi=>by
 have h1:i<(jY ad bd bd.length).length:=by rw[← tu];exact hi
 have hm:=oth_mem.1 (aU h1)
 have:at_ (bE ad bd) i=((at_ (jY ad bd bd.length) i:Nat):Int):=by
  show at_ ((jY ad bd bd.length).map _) i=_
  rw[bj h1]
 rw[this];exact⟨by omega,by simpa using hm.1⟩
theorem OE{n:Nat}:(gY ad bd n).Nodup:=List.Pairwise.filter _ List.nodup_range
def gg(ad bd:List Dim)(m:Nat):List Dim:=(List.range ad.length).map (fun j:Nat=>if ((aZ ad bd).take m).contains (j:Int) then ll bd (at_ ad j) else at_ ad j)++ay bd (bE ad bd)
theorem uR{m:Nat}:(gg ad bd m).length=ad.length+(bE ad bd).length:=by simp[gg,bQ]
theorem xA{m j:Nat}(h:j<ad.length):at_ (gg ad bd m) j=if ((aZ ad bd).take m).contains (j:Int) then ll bd (at_ ad j) else at_ ad j:=by
 unfold gg
 have:at_ ((List.range ad.length).map (fun j:Nat=>if ((aZ ad bd).take m).contains (j:Int) then ll bd (at_ ad j) else at_ ad j)++ay bd (bE ad bd)) j=at_ ((List.range ad.length).map (fun j:Nat=>if ((aZ ad bd).take m).contains (j:Int) then ll bd (at_ ad j) else at_ ad j)) j:=by
  simp only[at_,Xi]
  rw[Xw (by simpa using h)]
 rw[this,bj (by simpa using h),vY h]
theorem yY:gg ad bd 0=ad++ay bd (bE ad bd):=by
 unfold gg
 congr 1
 refine c5 (by simp) fun i hi=>?_
 have hi':i<ad.length:=by simpa using hi
 rw[bj (by simpa using hi'),vY hi']
 simp
theorem uS{d:Dim}(h:inD bd d.name=false):ll bd d=d:=by
 unfold ll
 have:aV bd d.name<0:=by have:=Yh h;omega
 rw[if_pos this]
theorem MC{j:Nat}(hn:(ad.map Dim.name).Nodup)(hj:j<ad.length):(j:Int)∈aZ ad bd↔inD bd (at_ ad j).name=true:=by
 constructor
 ·intro h
  obtain⟨i,hi,he⟩:=cv h
  obtain⟨k,l,h1,h2,h3,h4,h5,_⟩:=pT hi
  rw[he] at h1
  have:j=k:=by omega
  subst this
  rw[h5]
  exact inD_iff.2 (Xj.2 ⟨_,aU h4,rfl⟩)
 ·intro h
  obtain⟨l,h1,h2,h3⟩:=sc h
  have hin:inD ad (at_ bd l).name=true:=inD_iff.2 (Xj.2 ⟨_,aU hj,h3.symm⟩)
  refine Xj.2 ⟨l,com_mem.2 ⟨h2,hin⟩,?_⟩
  exact jr hn hj h3.symm
theorem uT(hn:(ad.map Dim.name).Nodup):gg ad bd (aZ ad bd).length=bR ad bd:=by
 unfold gg bR
 congr 1
 refine c5 (by simp) fun i hi=>?_
 have hi':i<ad.length:=by simpa using hi
 rw[bj (by simpa using hi'),vY hi',bj hi',XT]
 by_cases h:(aZ ad bd).contains (i:Int)=true
 ·rw[if_pos h]
 ·rw[if_neg h]
  have h2:¬ (i:Int)∈aZ ad bd:=by simpa using h
  rw[MC hn hi'] at h2
  exact (uS (by simpa using h2)).symm
theorem HI{m:Nat}(hn:(ad.map Dim.name).Nodup)(hnb:(bd.map Dim.name).Nodup)(h:m<(aZ ad bd).length):∃ k j:Nat,at_ (aZ ad bd) m=(k:Int)∧at_ (cU ad bd) m=(j:Int)∧k<ad.length∧j<bd.length∧at_ (gg ad bd m) k=at_ ad k ∧
  gg ad bd (m+1)=(gg ad bd m).set k ⟨(at_ ad k).name,max (at_ ad k).lo (at_ bd j).lo,min (at_ ad k).hi (at_ bd j).hi⟩:=by
 obtain⟨k,j,h1,h2,h3,h4,h5,h6⟩:=pT h
 have hnot:¬ (k:Int)∈(aZ ad bd).take m:=by
  intro hm
  obtain⟨i,hi,he⟩:=cv hm
  have hi2:i<m:=by simp at hi;omega
  rw[A8 hi2] at he
  obtain⟨k',j',g1,g2,g3,g4,g5,g6⟩:=pT (ad:=ad) (bd:=bd) (i:=i) (by omega)
  rw[g1] at he
  have hk:k'=k:=by omega
  subst hk
  have hjj:j'=j:=uU hnb g4 h4 (by rw[← g5,← h5])
  rw[h6,g6] at hjj
  have hl:=iQ (ad:=ad) (bd:=bd)
  have e1:=ea (l:=gY ad bd bd.length) (i:=i) (by omega)
  have e2:=ea (l:=gY ad bd bd.length) (i:=m) (by omega)
  rw[hjj,← e2] at e1
  have:=(List.getElem?_inj (by omega) OE).1 e1
  omega
 have hc:((aZ ad bd).take m).contains (k:Int)=false:=by
  cases hb:((aZ ad bd).take m).contains (k:Int) with
  | false=>rfl
  | true=>exact absurd (by simpa using hb) hnot
 have hnar:ll bd (at_ ad k)=⟨(at_ ad k).name,max (at_ ad k).lo (at_ bd j).lo,min (at_ ad k).hi (at_ bd j).hi⟩:=by
  have hd:aV bd (at_ ad k).name=(j:Int):=jr hnb h4 h5.symm
  unfold ll
  rw[if_neg (by rw[hd];omega),hd]
  rfl
 refine⟨k,j,h1,h2,h3,h4,by rw[xA h3,hc];rfl,?_⟩
 rw[← hnar]
 refine c5 (by simp[uR]) fun i hi=>?_
 have hlen:=uR (ad:=ad) (bd:=bd) (m:=m+1)
 rw[fP (by rw[uR];omega)]
 by_cases hik:i<ad.length
 ·rw[xA hik,xA hik,ez h,h1]
  by_cases e:i=k
  ·subst e
   simp
  ·rw[if_neg e]
   have:(List.take m (aZ ad bd)++[(k:Int)]).contains (i:Int)=(List.take m (aZ ad bd)).contains (i:Int):=by
    have e2:¬ (i:Int)=(k:Int):=by omega
    rw[XR]
    simp[List.contains_iff_mem,e2]
   rw[this]
 ·rw[if_neg (by omega)]
  unfold gg
  simp only[at_,Xi]
  rw[Xy (by simp;omega),Xy (by simp;omega)]
  simp
end
section
variable {ad bd:List Dim}
theorem Ed{α:Type}{f g:α→Int}:∀ {l:List α},(l.map f==l.map g)=l.all fun i=>f i==g i
 | []=>by simp
 | x::l=>by simp only[XK,List.all_cons,← Ed (l:=l)];rfl
theorem A9{c d:Cell}:dc ad bd c d=(gY ad bd bd.length).all fun i=>at_ c.at' (aV ad (at_ bd i).name).toNat==at_ d.at' i:=by
 unfold dc ay aZ cU nf ng
 rw[XX,XX,Ed]
 rfl
theorem yZ{a b:Arr}(ha:OkA a.dims a.attrs a.cells)(hb:OkA b.dims b.attrs b.cells){c c' d d':Cell}(hc:c∈a.cells)(hc':c'∈a.cells)(hd:d∈b.cells)(hd':d'∈b.cells)(hm:dc a.dims b.dims c d=true)(hm':dc a.dims b.dims c' d'=true)
  (he:(qP a.dims b.dims c d).at'=(qP a.dims b.dims c' d').at'):c.at'=c'.at'∧d.at'=d'.at':=by
 have l1:=(cellF_ok.1 (ha.cel _ hc)).1
 have l2:=(cellF_ok.1 (ha.cel _ hc')).1
 have l3:=(cellF_ok.1 (hb.cel _ hd)).1
 have l4:=(cellF_ok.1 (hb.cel _ hd')).1
 have he:c.at'++ay d.at' (bE a.dims b.dims)=c'.at'++ay d'.at' (bE a.dims b.dims):=he
 obtain⟨h1,h2⟩:=List.append_inj he (by rw[l1,l2])
 refine⟨h1,c5 (by rw[l3,l4]) fun i hi=>?_⟩
 rw[l3] at hi
 cases hin:inD a.dims (at_ b.dims i).name with
 | true =>
   rw[A9,XY] at hm hm'
   have e1:=hm i (com_mem.2 ⟨hi,hin⟩)
   have e2:=hm' i (com_mem.2 ⟨hi,hin⟩)
   simp only[beq_iff_eq] at e1 e2
   rw[← e1,← e2,h1]
 | false =>
   have hmem:i∈jY a.dims b.dims b.dims.length:=oth_mem.2 ⟨hi,hin⟩
   obtain⟨k,hk,hk2⟩:=cv hmem
   have e:=congrArg (fun l=>at_ l k) h2
   have hkr:k<(bE a.dims b.dims).length:=by rw[tu];exact hk
   have hx:at_ (bE a.dims b.dims) k=(i:Int):=by
    show at_ ((jY a.dims b.dims b.dims.length).map _) k=_
    rw[bj hk,hk2]
   simp only[gh hkr,hx] at e
   simpa using e
theorem vZ{a b:Arr}(ha:OkA a.dims a.attrs a.cells)(hb:OkA b.dims b.attrs b.cells):(eD a b).Pairwise cE:=by
 have hsa:=bW ha.srt
 have hsb:=bW hb.srt
 have key:∀ l:List Cell,(∀ c∈l,c∈a.cells)→l.Pairwise cE→(l.flatMap (jZ a b)).Pairwise cE:=by
  intro l
  induction l with
  | nil=>intro _ _;exact List.Pairwise.nil
  | cons c r ih =>
    intro hin hp
    rw[List.pairwise_cons] at hp
    rw[List.flatMap_cons,List.pairwise_append]
    refine⟨?_,ih (fun x hx=>hin x (Xa _ hx)) hp.2,fun x hx y hy=>?_⟩
    ·show ((b.cells.filter (dc a.dims b.dims c)).map (qP a.dims b.dims c)).Pairwise cE
     rw[X4]
     refine List.Pairwise.imp_of_mem ?_ (hsb.sublist List.filter_sublist)
     intro d d' hd hd' hne he
     rw[Yr] at hd hd'
     exact hne (yZ ha hb (hin c Xd) (hin c Xd) hd.1 hd'.1 hd.2 hd'.2 he).2
    ·obtain⟨d,hd,rfl⟩:=Xj.1 hx
     obtain⟨c',hc',hy⟩:=List.mem_flatMap.1 hy
     obtain⟨d',hd',rfl⟩:=Xj.1 hy
     rw[Yr] at hd hd'
     intro he
     exact hp.1 c' hc' (yZ ha hb (hin c Xd) (hin c' (Xa _ hc')) hd.1 hd'.1 hd.2 hd'.2 he).1
 exact key a.cells (fun c h=>h) hsa
def jN(a b:Arr)(i j:Nat):List Cell:=(a.cells.take i).flatMap (jZ a b)++(jZ a b (at_ a.cells i)).take j
theorem Ee{a b:Arr}:jN a b 0 0=[]:=by simp[jN]
theorem MD{a b:Arr}{i:Nat}(hi:i<a.cells.length){j:Nat}(hj:(jZ a b (at_ a.cells i)).length≤j):jN a b i j=jN a b (i+1) 0:=by
 unfold jN
 rw[ez hi,List.flatMap_append,WY hj]
 simp
theorem OF{a b:Arr}{i j:Nat}(hj:j<(jZ a b (at_ a.cells i)).length):jN a b i (j+1)=jN a b i j++[at_ (jZ a b (at_ a.cells i)) j]:=by
 unfold jN
 rw[ez hj,X5]
theorem HJ{a b:Arr}{i:Nat}(hi:a.cells.length≤i):jN a b i 0=eD a b:=by
 unfold jN eD
 rw[WY hi]
 simp
theorem QN{a b:Arr}{i:Nat}(hi:i<a.cells.length){j:Nat}:(jN a b i j).length+((jZ a b (at_ a.cells i)).length-j)≤(eD a b).length:=by
 have h1:eD a b=(a.cells.take (i+1)).flatMap (jZ a b)++(a.cells.drop (i+1)).flatMap (jZ a b):=by
  unfold eD
  rw[← List.flatMap_append,X8]
 rw[h1,ez hi,List.flatMap_append]
 unfold jN
 simp only[W9,XU,List.flatMap_cons,List.flatMap_nil,Yt]
 omega
end
end Go.Proofs.YtpejdgkaapnekaaGreat
