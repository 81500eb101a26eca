import Derived.Shelf.SlSortCmp.WholeK
import Derived.Shelf.SlSortCmp.NoneTotal
import Derived.Test.YtpejdgkaapnekaaGreatIP15
import Derived.Test.YtpejdgkaapnekaaGreatIP14
import Derived.Test.YtpejdgkaapnekaaGreatITab
import Derived.Test.YtpejdgkaapnekaaGreatIP13
set_option linter.unusedVariables false
set_option linter.unusedSimpArgs false
set_option maxHeartbeats 1000000
namespace Go.Proofs.YtpejdgkaapnekaaGreat
open Go Go.Abs
def hU(a:Arr)(n:List UInt8):Bool:=decide (0≤aY a.dims n)||decide (0≤atX a.attrs n)
def xb(a:Arr)(n m:List UInt8):Arr :=
 if 0≤aY a.dims n then ⟨a.dims.set (aY a.dims n).toNat ⟨m,(at_ a.dims (aY a.dims n).toNat).lo,(at_ a.dims (aY a.dims n).toNat).hi⟩,a.attrs,a.cells⟩
 else ⟨a.dims,a.attrs.set (atX a.attrs n).toNat ⟨m,(at_ a.attrs (atX a.attrs n).toNat).type⟩,a.cells⟩
theorem nodup_at{α:Type}[Inhabited α]{l:List α}:l.Nodup↔∀ i j,i<l.length→j<l.length→at_ l i=at_ l j→i=j:=by
 constructor
 ·intro h i j hi hj he
  have e1:=cv hi
  rw[he,← cv hj] at e1
  exact (List.getElem?_inj hi h).1 e1
 ·intro h
  rw[List.Nodup,List.pairwise_iff_getElem]
  intro i j hi hj hij e
  have:=h i j hi hj (by
   have e1:=cv hi
   have e2:=cv hj
   rw[He hi] at e1
   rw[He hj] at e2
   rw[← Option.some.inj e1,← Option.some.inj e2,e])
  omega
theorem attrsGo_iff:∀ {ats:List Attr} {met:List (List UInt8)},dv met ats=0↔(∀ x∈ats,eX x.name=true∧x.name ∉ met∧1≤x.type∧x.type≤4)∧(ats.map Attr.name).Nodup
 | [],met=>by simp[dv]
 | x::r,met=>by
   have ih:=attrsGo_iff (ats:=r) (met:=met++[x.name])
   simp only[dv]
   constructor
   ·intro h
    split at h
    ·omega
    split at h
    ·omega
    rename_i h1 h2
    obtain⟨i1,i2⟩:=ih.1 h
    simp only[Hq,Hd,not_or,Bool.not_eq_false,HO,List.contains_eq_mem,HX,HY] at h1
    refine⟨fun y hy=>?_,?_⟩
    ·rcases Hm.1 hy with rfl|hy
     ·exact⟨h1.1,h1.2,by omega,by omega⟩
     ·obtain⟨j1,j2,j3,j4⟩:=i1 y hy
      exact⟨j1,fun hm=>j2 (HB.2 (.inl hm)),j3,j4⟩
    ·rw[HE,H5]
     refine⟨fun hm=>?_,i2⟩
     obtain⟨y,hy,he⟩:=Hh.1 hm
     exact (i1 y hy).2.1 (by rw[he];simp)
   ·rintro ⟨h1,h2⟩
    rw[HE,H5] at h2
    obtain⟨j1,j2,j3,j4⟩:=h1 x Hc
    rw[if_neg (by simp[j1,j2]),if_neg (by omega)]
    refine ih.2 ⟨fun y hy=>?_,h2.2⟩
    obtain⟨k1,k2,k3,k4⟩:=h1 y (G9 _ hy)
    refine⟨k1,fun hm=>?_,k3,k4⟩
    rcases HB.1 hm with hm|hm
    ·exact k2 hm
    ·exact h2.1 (Hh.2 ⟨y,hy,List.mem_singleton.1 hm⟩)
theorem ln{ats:List Attr}{n:List UInt8}(h:¬ atX ats n<0):∃ k:Nat,atX ats n=(k:Int)∧k<ats.length∧(at_ ats k).name=n:=by
 obtain⟨k,h1,h2,h3,_⟩:=jO h
 exact⟨k,by unfold atX;rw[h1];simp,h2,by simpa using h3⟩
theorem dimX_mem{ds:List Dim}{n:List UInt8}:0≤aY ds n↔n∈ds.map Dim.name:=by
 constructor
 ·intro h
  obtain⟨k,_,h2,h3,_⟩:=fx (ds:=ds) (name:=n) (by omega)
  exact Hh.2 ⟨_,aW h2,h3⟩
 ·intro h
  obtain⟨d,hd,rfl⟩:=Hh.1 h
  by_cases h0:aY ds d.name<0
  ·have:=gJ h0 d hd
   simp at this
  ·omega
theorem atX_mem{ats:List Attr}{n:List UInt8}:0≤atX ats n↔n∈ats.map Attr.name:=by
 constructor
 ·intro h
  obtain⟨k,_,h2,h3⟩:=ln (ats:=ats) (n:=n) (by omega)
  exact Hh.2 ⟨_,aW h2,h3⟩
 ·intro h
  obtain⟨d,hd,rfl⟩:=Hh.1 h
  by_cases h0:atX ats d.name<0
  ·have:=gJ h0 d hd
   simp at this
  ·omega
theorem hasN_iff{a:Arr}{n:List UInt8}:hU a n=true↔n∈a.dims.map Dim.name∨n∈a.attrs.map Attr.name:=by
 simp only[hU,Hq,HX,dimX_mem,atX_mem]
structure Ren (a:Arr) (n m:List UInt8):Prop where
 oka:OkA a.dims a.attrs a.cells
 has:n∈a.dims.map Dim.name∨n∈a.attrs.map Attr.name
 nm:eX m=true
 new:m=n∨(m ∉ a.dims.map Dim.name∧m ∉ a.attrs.map Attr.name)
section
variable {a:Arr} {n m:List UInt8}
theorem Ren.nd(h:Ren a n m):(a.dims.map Dim.name).Nodup∧(a.attrs.map Attr.name).Nodup∧∀ x,x∈a.attrs.map Attr.name→x ∉ a.dims.map Dim.name:=by
 have hs:=attrsGo_iff.1 (aV h.oka.sch).2.2.2
 refine⟨h.oka.dims.2.2.2,hs.2,fun x hx hd=>?_⟩
 obtain⟨t,ht,rfl⟩:=Hh.1 hx
 exact (hs.1 t ht).2.1 hd
theorem Ren.which(h:Ren a n m):(∃ k:Nat,aY a.dims n=(k:Int)∧k<a.dims.length∧(at_ a.dims k).name=n∧xb a n m=⟨a.dims.set k ⟨m,(at_ a.dims k).lo,(at_ a.dims k).hi⟩,a.attrs,a.cells⟩) ∨
  (n ∉ a.dims.map Dim.name∧∃ k:Nat,atX a.attrs n=(k:Int)∧k<a.attrs.length∧(at_ a.attrs k).name=n∧xb a n m=⟨a.dims,a.attrs.set k ⟨m,(at_ a.attrs k).type⟩,a.cells⟩):=by
 by_cases h0:0≤aY a.dims n
 ·obtain⟨k,h1,h2,h3,_⟩:=fx (ds:=a.dims) (name:=n) (by omega)
  refine .inl ⟨k,h1,h2,h3,?_⟩
  unfold xb
  rw[if_pos h0,h1]
  rfl
 ·have hd:n ∉ a.dims.map Dim.name:=fun hh=>h0 (dimX_mem.2 hh)
  have ha:=h.has.resolve_left hd
  have h4:=atX_mem.2 ha
  obtain⟨k,h1,h2,h3⟩:=ln (ats:=a.attrs) (n:=n) (by omega)
  refine .inr ⟨hd,k,h1,h2,h3,?_⟩
  unfold xb
  rw[if_neg h0,h1]
  rfl
theorem qH{ats:List Attr}(hn:(ats.map Attr.name).Nodup){j:Nat}(hj:j<ats.length){n:List UInt8}(h:(at_ ats j).name=n):atX ats n=(j:Int):=by
 have h0:0≤atX ats n:=atX_mem.2 (Hh.2 ⟨_,aW hj,h⟩)
 obtain⟨k,h1,h2,h3⟩:=ln (ats:=ats) (n:=n) (by omega)
 have:=nodup_at.1 hn k j (by simpa using h2) (by simpa using hj) (by rw[aK h2,aK hj,h3,h])
 rw[h1,this]
end
end Go.Proofs.YtpejdgkaapnekaaGreat
namespace Go.Proofs.YtpejdgkaapnekaaGreat
open Go Go.Abs
theorem mJ{n i:Nat}(h:i<n):at_ (List.range n) i=i:=by simp[at_,Hg,h]
def inD(ds:List Dim)(n:List UInt8):Bool:=decide (0≤aY ds n)
def ek(ad bd:List Dim)(n:Nat):List Nat:=(List.range n).filter fun i=>inD ad (at_ bd i).name
def fE(ad bd:List Dim)(n:Nat):List Nat:=(List.range n).filter fun i=>!inD ad (at_ bd i).name
def iZ(ad bd:List Dim)(n:Nat):List Int:=(ek ad bd n).map fun i=>aY ad (at_ bd i).name
def ja(ad bd:List Dim)(n:Nat):List Int:=(ek ad bd n).map fun i:Nat=>(i:Int)
def fS(ad bd:List Dim)(n:Nat):List Int:=(fE ad bd n).map fun i:Nat=>(i:Int)
def az(ad bd:List Dim):List Int:=iZ ad bd bd.length
def bH(ad bd:List Dim):List Int:=ja ad bd bd.length
def aO(ad bd:List Dim):List Int:=fS ad bd bd.length
def fF(bd:List Dim)(d:Dim):Dim:=if aY bd d.name<0 then d else ⟨d.name,max d.lo (at_ bd (aY bd d.name).toNat).lo,min d.hi (at_ bd (aY bd d.name).toNat).hi⟩
def aI(ad bd:List Dim):List Dim:=ad.map (fF bd)++af bd (aO ad bd)
def br(ad bd:List Dim)(c d:Cell):Bool:=af c.at' (az ad bd)==af d.at' (bH ad bd)
def fb(ad bd:List Dim)(c d:Cell):Cell:=⟨c.at'++af d.at' (aO ad bd),c.vals++d.vals⟩
def fG(a b:Arr)(c:Cell):List Cell:=(b.cells.filter (br a.dims b.dims c)).map (fb a.dims b.dims c)
def cB(a b:Arr):List Cell:=a.cells.flatMap (fG a b)
def gZ(d:Dim):Bool:=decide (d.hi<d.lo)
def cu(a b:Arr):Option Arr×Int :=
 if 4<((aI a.dims b.dims).length:Int)∨6<((a.attrs++b.attrs).length:Int) then (none,9)
 else if (aI a.dims b.dims).any gZ then (none,3)
 else dH (aI a.dims b.dims) (a.attrs++b.attrs) (cB a b)
def bz(a b:Arr):Bool:=a.attrs.any fun x=>hU b x.name
def fH(a b:Arr):Bool:=a.dims.any fun d=>inD b.dims d.name
def eC(a b:Arr):Option Arr×Int :=
 if ba a≠0∨ba b≠0 then (none,2)
 else if !fH a b then (none,13)
 else if bz a b||bz b a then (none,11)
 else cu a b
def fc(a b:Arr):Option Arr×Int :=
 if ba a≠0∨ba b≠0 then (none,2)
 else if fH a b||(bz a b||bz b a) then (none,11)
 else cu a b
section
variable {ad bd:List Dim}
theorem inD_iff{ds:List Dim}{n:List UInt8}:inD ds n=true↔n∈ds.map Dim.name:=by
 unfold inD;rw[HX];exact dimX_mem
theorem mK{ds:List Dim}{n:List UInt8}(h:inD ds n=true):∃ k:Nat,aY ds n=(k:Int)∧k<ds.length∧(at_ ds k).name=n:=by
 have h0:¬ aY ds n<0:=by have:=of_decide_eq_true h;omega
 obtain⟨k,h1,h2,h3,_⟩:=fx h0
 exact⟨k,h1,h2,h3⟩
theorem ke{n:Nat}:ek ad bd (n+1)=if inD ad (at_ bd n).name then ek ad bd n++[n] else ek ad bd n:=by
 unfold ek
 rw[List.range_succ,List.filter_append]
 cases h:inD ad (at_ bd n).name<;>simp[h]
theorem rC{n:Nat}:fE ad bd (n+1)=if inD ad (at_ bd n).name then fE ad bd n else fE ad bd n++[n]:=by
 unfold fE
 rw[List.range_succ,List.filter_append]
 cases h:inD ad (at_ bd n).name<;>simp[h]
theorem com_mem{n i:Nat}:i∈ek ad bd n↔i<n∧inD ad (at_ bd i).name=true:=by simp[ek]
theorem oth_mem{n i:Nat}:i∈fE ad bd n↔i<n∧inD ad (at_ bd i).name=false:=by simp[fE]
theorem vz{n:Nat}:(ek ad bd n).length≤n:=by
 have:=List.length_filter_le (fun i=>inD ad (at_ bd i).name) (List.range n)
 simpa[ek] using this
theorem vA{n:Nat}:(fE ad bd n).length≤n:=by
 have:=List.length_filter_le (fun i=>!inD ad (at_ bd i).name) (List.range n)
 simpa[fE] using this
theorem eN:(az ad bd).length=(ek ad bd bd.length).length:=by simp[az,iZ]
theorem k7:(bH ad bd).length=(ek ad bd bd.length).length:=by simp[bH,ja]
theorem nL:(aO ad bd).length=(fE ad bd bd.length).length:=by simp[aO,fS]
theorem k8{i:Nat}(h:i<(az ad bd).length):∃ k j:Nat,at_ (az ad bd) i=(k:Int)∧at_ (bH ad bd) i=(j:Int)∧k<ad.length∧j<bd.length∧(at_ ad k).name=(at_ bd j).name∧j=at_ (ek ad bd bd.length) i:=by
 have h1:i<(ek ad bd bd.length).length:=by rw[← eN];exact h
 have hm:=com_mem.1 (aW h1)
 obtain⟨k,h2,h3,h4⟩:=mK hm.2
 refine⟨k,_,?_,?_,h3,hm.1,h4,rfl⟩
 ·show at_ ((ek ad bd bd.length).map _) i=_
  rw[aK h1,h2]
 ·show at_ ((ek ad bd bd.length).map _) i=_
  rw[aK h1]
theorem k9:∀ i,i<(az ad bd).length→0≤at_ (az ad bd) i∧(at_ (az ad bd) i).toNat<ad.length:=fun i hi=>by
 obtain⟨k,j,h1,_,h2,_⟩:=k8 hi
 rw[h1];exact⟨by omega,by simpa using h2⟩
theorem vB:∀ i,i<(bH ad bd).length→0≤at_ (bH ad bd) i∧(at_ (bH ad bd) i).toNat<bd.length:=fun i hi=>by
 obtain⟨k,j,_,h1,_,h2,_⟩:=k8 (ad:=ad) (bd:=bd) (i:=i) (by rw[eN,← k7];exact hi)
 rw[h1];exact⟨by omega,by simpa using h2⟩
theorem lf:∀ i,i<(aO ad bd).length→0≤at_ (aO ad bd) i∧(at_ (aO ad bd) i).toNat<bd.length:=fun i hi=>by
 have h1:i<(fE ad bd bd.length).length:=by rw[← nL];exact hi
 have hm:=oth_mem.1 (aW h1)
 have:at_ (aO ad bd) i=((at_ (fE ad bd bd.length) i:Nat):Int):=by
  show at_ ((fE ad bd bd.length).map _) i=_
  rw[aK h1]
 rw[this];exact⟨by omega,by simpa using hm.1⟩
theorem CG{n:Nat}:(ek ad bd n).Nodup:=List.Pairwise.filter _ List.nodup_range
def dJ(ad bd:List Dim)(m:Nat):List Dim:=(List.range ad.length).map (fun j:Nat=>if ((az ad bd).take m).contains (j:Int) then fF bd (at_ ad j) else at_ ad j)++af bd (aO ad bd)
theorem oV{m:Nat}:(dJ ad bd m).length=ad.length+(aO ad bd).length:=by simp[dJ,bc]
theorem qF{m j:Nat}(h:j<ad.length):at_ (dJ ad bd m) j=if ((az ad bd).take m).contains (j:Int) then fF bd (at_ ad j) else at_ ad j:=by
 unfold dJ
 have:at_ ((List.range ad.length).map (fun j:Nat=>if ((az ad bd).take m).contains (j:Int) then fF bd (at_ ad j) else at_ ad j)++af bd (aO ad bd)) j=at_ ((List.range ad.length).map (fun j:Nat=>if ((az ad bd).take m).contains (j:Int) then fF bd (at_ ad j) else at_ ad j)) j:=by
  simp only[at_,Hg]
  rw[Hu (by simpa using h)]
 rw[this,aK (by simpa using h),mJ h]
theorem rD:dJ ad bd 0=ad++af bd (aO ad bd):=by
 unfold dJ
 congr 1
 refine cF (by simp) fun i hi=>?_
 have hi':i<ad.length:=by simpa using hi
 rw[aK (by simpa using hi'),mJ hi']
 simp
theorem jF{d:Dim}(h:inD bd d.name=false):fF bd d=d:=by
 unfold fF
 have:aY bd d.name<0:=by have:=of_decide_eq_false h;omega
 rw[if_pos this]
theorem BD{j:Nat}(hn:(ad.map Dim.name).Nodup)(hj:j<ad.length):(j:Int)∈az ad bd↔inD bd (at_ ad j).name=true:=by
 constructor
 ·intro h
  obtain⟨i,hi,he⟩:=bt h
  obtain⟨k,l,h1,h2,h3,h4,h5,_⟩:=k8 hi
  rw[he] at h1
  have:j=k:=by omega
  subst this
  rw[h5]
  exact inD_iff.2 (Hh.2 ⟨_,aW h4,rfl⟩)
 ·intro h
  obtain⟨l,h1,h2,h3⟩:=mK h
  have hin:inD ad (at_ bd l).name=true:=inD_iff.2 (Hh.2 ⟨_,aW hj,h3.symm⟩)
  refine Hh.2 ⟨l,com_mem.2 ⟨h2,hin⟩,?_⟩
  exact eD hn hj h3.symm
theorem oW(hn:(ad.map Dim.name).Nodup):dJ ad bd (az ad bd).length=aI ad bd:=by
 unfold dJ aI
 congr 1
 refine cF (by simp) fun i hi=>?_
 have hi':i<ad.length:=by simpa using hi
 rw[aK (by simpa using hi'),mJ hi',aK hi',List.take_length]
 by_cases h:(az ad bd).contains (i:Int)=true
 ·rw[if_pos h]
 ·rw[if_neg h]
  have h2:¬ (i:Int)∈az ad bd:=by simpa using h
  rw[BD hn hi'] at h2
  exact (jF (by simpa using h2)).symm
theorem yD{m:Nat}(hn:(ad.map Dim.name).Nodup)(hnb:(bd.map Dim.name).Nodup)(h:m<(az ad bd).length):∃ k j:Nat,at_ (az ad bd) m=(k:Int)∧at_ (bH ad bd) m=(j:Int)∧k<ad.length∧j<bd.length∧at_ (dJ ad bd m) k=at_ ad k ∧
  dJ ad bd (m+1)=(dJ ad bd m).set k ⟨(at_ ad k).name,max (at_ ad k).lo (at_ bd j).lo,min (at_ ad k).hi (at_ bd j).hi⟩:=by
 obtain⟨k,j,h1,h2,h3,h4,h5,h6⟩:=k8 h
 have hnot:¬ (k:Int)∈(az ad bd).take m:=by
  intro hm
  obtain⟨i,hi,he⟩:=bt hm
  have hi2:i<m:=by simp at hi;omega
  rw[z1 hi2] at he
  obtain⟨k',j',g1,g2,g3,g4,g5,g6⟩:=k8 (ad:=ad) (bd:=bd) (i:=i) (by omega)
  rw[g1] at he
  have hk:k'=k:=by omega
  subst hk
  have hjj:j'=j:=lR hnb g4 h4 (by rw[← g5,← h5])
  rw[h6,g6] at hjj
  have hl:=eN (ad:=ad) (bd:=bd)
  have e1:=cv (l:=ek ad bd bd.length) (i:=i) (by omega)
  have e2:=cv (l:=ek ad bd bd.length) (i:=m) (by omega)
  rw[hjj,← e2] at e1
  have:=(List.getElem?_inj (by omega) CG).1 e1
  omega
 have hc:((az ad bd).take m).contains (k:Int)=false:=by
  cases hb:((az ad bd).take m).contains (k:Int) with
  | false=>rfl
  | true=>exact absurd (by simpa using hb) hnot
 have hnar:fF bd (at_ ad k)=⟨(at_ ad k).name,max (at_ ad k).lo (at_ bd j).lo,min (at_ ad k).hi (at_ bd j).hi⟩:=by
  have hd:aY bd (at_ ad k).name=(j:Int):=eD hnb h4 h5.symm
  unfold fF
  rw[if_neg (by rw[hd];omega),hd]
  rfl
 refine⟨k,j,h1,h2,h3,h4,by rw[qF h3,hc];rfl,?_⟩
 rw[← hnar]
 refine cF (by simp[oV]) fun i hi=>?_
 have hlen:=oV (ad:=ad) (bd:=bd) (m:=m+1)
 rw[pG (by rw[oV];omega)]
 by_cases hik:i<ad.length
 ·rw[qF hik,qF hik,fY h,h1]
  by_cases e:i=k
  ·subst e
   simp
  ·rw[if_neg e]
   have:(List.take m (az ad bd)++[(k:Int)]).contains (i:Int)=(List.take m (az ad bd)).contains (i:Int):=by
    have e2:¬ (i:Int)=(k:Int):=by omega
    rw[HK]
    simp[List.contains_iff_mem,e2]
   rw[this]
 ·rw[if_neg (by omega)]
  unfold dJ
  simp only[at_,Hg]
  rw[Hv (by simp;omega),Hv (by simp;omega)]
  simp
end
section
variable {ad bd:List Dim}
theorem vC{α:Type}{f g:α→Int}:∀ {l:List α},(l.map f==l.map g)=l.all fun i=>f i==g i
 | []=>by simp
 | x::l=>by simp only[HE,List.all_cons,← vC (l:=l)];rfl
theorem tb{c d:Cell}:br ad bd c d=(ek ad bd bd.length).all fun i=>at_ c.at' (aY ad (at_ bd i).name).toNat==at_ d.at' i:=by
 unfold br af az bH iZ ja
 rw[HM,HM,vC]
 rfl
theorem rE{a b:Arr}(ha:OkA a.dims a.attrs a.cells)(hb:OkA b.dims b.attrs b.cells){c c' d d':Cell}(hc:c∈a.cells)(hc':c'∈a.cells)(hd:d∈b.cells)(hd':d'∈b.cells)(hm:br a.dims b.dims c d=true)(hm':br a.dims b.dims c' d'=true)
  (he:(fb a.dims b.dims c d).at'=(fb a.dims b.dims c' d').at'):c.at'=c'.at'∧d.at'=d'.at':=by
 have l1:=(cellF_ok.1 (ha.cel _ hc)).1
 have l2:=(cellF_ok.1 (ha.cel _ hc')).1
 have l3:=(cellF_ok.1 (hb.cel _ hd)).1
 have l4:=(cellF_ok.1 (hb.cel _ hd')).1
 have he:c.at'++af d.at' (aO a.dims b.dims)=c'.at'++af d'.at' (aO a.dims b.dims):=he
 obtain⟨h1,h2⟩:=List.append_inj he (by rw[l1,l2])
 refine⟨h1,cF (by rw[l3,l4]) fun i hi=>?_⟩
 rw[l3] at hi
 cases hin:inD a.dims (at_ b.dims i).name with
 | true =>
   rw[tb,HN] at hm hm'
   have e1:=hm i (com_mem.2 ⟨hi,hin⟩)
   have e2:=hm' i (com_mem.2 ⟨hi,hin⟩)
   simp only[beq_iff_eq] at e1 e2
   rw[← e1,← e2,h1]
 | false =>
   have hmem:i∈fE a.dims b.dims b.dims.length:=oth_mem.2 ⟨hi,hin⟩
   obtain⟨k,hk,hk2⟩:=bt hmem
   have e:=congrArg (fun l=>at_ l k) h2
   have hkr:k<(aO a.dims b.dims).length:=by rw[nL];exact hk
   have hx:at_ (aO a.dims b.dims) k=(i:Int):=by
    show at_ ((fE a.dims b.dims b.dims.length).map _) k=_
    rw[aK hk,hk2]
   simp only[cQ hkr,hx] at e
   simpa using e
theorem lS{a b:Arr}(ha:OkA a.dims a.attrs a.cells)(hb:OkA b.dims b.attrs b.cells):(cB a b).Pairwise cx:=by
 have hsa:=bP ha.srt
 have hsb:=bP hb.srt
 have key:∀ l:List Cell,(∀ c∈l,c∈a.cells)→l.Pairwise cx→(l.flatMap (fG a b)).Pairwise cx:=by
  intro l
  induction l with
  | nil=>intro _ _;exact List.Pairwise.nil
  | cons c r ih =>
    intro hin hp
    rw[List.pairwise_cons] at hp
    rw[List.flatMap_cons,List.pairwise_append]
    refine⟨?_,ih (fun x hx=>hin x (G9 _ hx)) hp.2,fun x hx y hy=>?_⟩
    ·show ((b.cells.filter (br a.dims b.dims c)).map (fb a.dims b.dims c)).Pairwise cx
     rw[HR]
     refine List.Pairwise.imp_of_mem ?_ (hsb.sublist List.filter_sublist)
     intro d d' hd hd' hne he
     rw[H0] at hd hd'
     exact hne (rE ha hb (hin c Hc) (hin c Hc) hd.1 hd'.1 hd.2 hd'.2 he).2
    ·obtain⟨d,hd,rfl⟩:=Hh.1 hx
     obtain⟨c',hc',hy⟩:=List.mem_flatMap.1 hy
     obtain⟨d',hd',rfl⟩:=Hh.1 hy
     rw[H0] at hd hd'
     intro he
     exact hp.1 c' hc' (rE ha hb (hin c Hc) (hin c' (G9 _ hc')) hd.1 hd'.1 hd.2 hd'.2 he).1
 exact key a.cells (fun c h=>h) hsa
def jN(a b:Arr)(i j:Nat):List Cell:=(a.cells.take i).flatMap (fG a b)++(fG a b (at_ a.cells i)).take j
theorem vD{a b:Arr}:jN a b 0 0=[]:=by simp[jN]
theorem BE{a b:Arr}{i:Nat}(hi:i<a.cells.length){j:Nat}(hj:(fG a b (at_ a.cells i)).length≤j):jN a b i j=jN a b (i+1) 0:=by
 unfold jN
 rw[fY hi,List.flatMap_append,G1 hj]
 simp
theorem CH{a b:Arr}{i j:Nat}(hj:j<(fG a b (at_ a.cells i)).length):jN a b i (j+1)=jN a b i j++[at_ (fG a b (at_ a.cells i)) j]:=by
 unfold jN
 rw[fY hj,List.append_assoc]
theorem yE{a b:Arr}{i:Nat}(hi:a.cells.length≤i):jN a b i 0=cB a b:=by
 unfold jN cB
 rw[G1 hi]
 simp
theorem DK{a b:Arr}{i:Nat}(hi:i<a.cells.length){j:Nat}:(jN a b i j).length+((fG a b (at_ a.cells i)).length-j)≤(cB a b).length:=by
 have h1:cB a b=(a.cells.take (i+1)).flatMap (fG a b)++(a.cells.drop (i+1)).flatMap (fG a b):=by
  unfold cB
  rw[← List.flatMap_append,List.take_append_drop]
 rw[h1,fY hi,List.flatMap_append]
 unfold jN
 simp only[G8,List.length_take,List.flatMap_cons,List.flatMap_nil,H6]
 omega
end
end Go.Proofs.YtpejdgkaapnekaaGreat
namespace Go.Proofs.YtpejdgkaapnekaaGreat
open Go Go.Abs
theorem tY{α:Type}[DecidableEq α]:∀ {l m:List α},l.Nodup→(∀ x∈l,x∈m)→l.length≤m.length
 | [],m,_,_=>Hi _
 | x::l,m,hn,h=>by
   rw[H5] at hn
   have h1:=tY (l:=l) (m:=m.erase x) hn.2 fun y hy=>(List.mem_erase_of_ne (fun e:y=x=>hn.1 (e ▸ hy))).2 (h y (G9 _ hy))
   have h2:=h x Hc
   rw[List.length_erase_of_mem h2] at h1
   have h3:=List.length_pos_of_mem h2
   simp only[Ho]
   omega
theorem De{ds:List Dim}(hn:(ds.map Dim.name).Nodup){d e:Dim}(hd:d∈ds)(he:e∈ds)(h:d.name=e.name):d=e:=by
 obtain⟨i,hi,rfl⟩:=bt hd
 obtain⟨j,hj,rfl⟩:=bt he
 rw[lR hn hi hj h]
section
variable {ad bd:List Dim}
theorem mem_rest{d:Dim}:d∈af bd (aO ad bd)↔d∈bd∧inD ad d.name=false:=by
 unfold af aO fS
 rw[HM,Hh]
 constructor
 ·rintro ⟨i,hi,rfl⟩
  obtain⟨h1,h2⟩:=oth_mem.1 hi
  exact⟨by simpa using aW h1,by simpa using h2⟩
 ·rintro ⟨h1,h2⟩
  obtain⟨i,hi,rfl⟩:=bt h1
  exact⟨i,oth_mem.2 ⟨hi,h2⟩,by simp⟩
theorem lr(hnb:(bd.map Dim.name).Nodup){x y:Dim}(hy:y∈bd)(h:x.name=y.name):fF bd x=⟨x.name,max x.lo y.lo,min x.hi y.hi⟩:=by
 obtain⟨j,hj,rfl⟩:=bt hy
 have hd:aY bd x.name=(j:Int):=eD hnb hj h.symm
 unfold fF
 rw[if_neg (by omega),hd]
 rfl
theorem r8{d:Dim}:(fF bd d).name=d.name:=by unfold fF;split<;>rfl
theorem mem_joinDs{d:Dim}:d∈aI ad bd↔(∃ x∈ad,fF bd x=d)∨(d∈bd∧inD ad d.name=false):=by
 unfold aI;rw[HB,Hh,mem_rest]
theorem eE(hna:(ad.map Dim.name).Nodup)(hnb:(bd.map Dim.name).Nodup){d:Dim}(h:d∈aI ad bd):d∈aI bd ad:=by
 rcases mem_joinDs.1 h with⟨x,hx,rfl⟩|⟨h1,h2⟩
 ·cases hb:inD bd x.name with
  | true =>
    obtain⟨y,hy,he⟩:=Hh.1 (inD_iff.1 hb)
    refine mem_joinDs.2 (.inl ⟨y,hy,?_⟩)
    rw[lr hnb hy he.symm,lr hna hx he,he,Int.max_comm,Int.min_comm]
  | false =>
    rw[jF hb]
    exact mem_joinDs.2 (.inr ⟨hx,hb⟩)
 ·exact mem_joinDs.2 (.inl ⟨d,h1,jF h2⟩)
theorem jW:(aI ad bd).map Dim.name=ad.map Dim.name++(af bd (aO ad bd)).map Dim.name:=by
 unfold aI
 rw[Hy,HM]
 congr 1
 exact List.map_congr_left fun x _=>r8
theorem iN(hna:(ad.map Dim.name).Nodup)(hnb:(bd.map Dim.name).Nodup):((aI ad bd).map Dim.name).Nodup:=by
 rw[jW,List.nodup_append]
 refine⟨hna,?_,?_⟩
 ·unfold af aO fS
  rw[HM,HM,List.Nodup,HR]
  have hnd:(fE ad bd bd.length).Nodup:=List.Pairwise.filter _ List.nodup_range
  refine List.Pairwise.imp_of_mem ?_ hnd
  intro i j hi hj hne e
  exact hne (lR hnb (oth_mem.1 hi).1 (oth_mem.1 hj).1 (by simpa using e))
 ·intro x hx y hy e
  subst e
  obtain⟨d,hd,rfl⟩:=Hh.1 hy
  have h1:=(mem_rest.1 hd).2
  rw[inD_iff.2 hx] at h1
  cases h1
theorem pK(hna:(ad.map Dim.name).Nodup)(hnb:(bd.map Dim.name).Nodup):(aI ad bd).length=(aI bd ad).length:=by
 have h1:=tY (iN hna hnb) (m:=(aI bd ad).map Dim.name) fun x hx=>by
  obtain⟨d,hd,rfl⟩:=Hh.1 hx
  exact Hh.2 ⟨d,eE hna hnb hd,rfl⟩
 have h2:=tY (iN hnb hna) (m:=(aI ad bd).map Dim.name) fun x hx=>by
  obtain⟨d,hd,rfl⟩:=Hh.1 hx
  exact Hh.2 ⟨d,eE hnb hna hd,rfl⟩
 simp only[G2] at h1 h2
 omega
theorem vV{l m:List Dim}{p:Dim→Bool}(h:∀ x∈l,x∈m)(ha:l.any p=true):m.any p=true:=by
 rw[List.any_eq_true] at ha ⊢
 obtain⟨x,hx,hp⟩:=ha
 exact⟨x,h x hx,hp⟩
theorem wT(hna:(ad.map Dim.name).Nodup)(hnb:(bd.map Dim.name).Nodup):(aI ad bd).any gZ=(aI bd ad).any gZ:=by
 rw[HK]
 exact⟨vV fun x hx=>eE hna hnb hx,vV fun x hx=>eE hnb hna hx⟩
def vAt(ds:List Dim)(x:List Int)(n:List UInt8):Int:=at_ x (aY ds n).toNat
def gAt(ad bd:List Dim)(c d:Cell)(n:List UInt8):Int:=if inD ad n then vAt ad c.at' n else vAt bd d.at' n
theorem qI(hna:(ad.map Dim.name).Nodup)(hnb:(bd.map Dim.name).Nodup){c d:Cell}(hc:c.at'.length=ad.length):(fb ad bd c d).at'=((aI ad bd).map Dim.name).map (gAt ad bd c d):=by
 rw[jW,Hy]
 show c.at'++af d.at' (aO ad bd)=_
 congr 1
 ·refine cF (by simp[hc]) fun i hi=>?_
  rw[hc] at hi
  rw[aK (by simpa using hi),aK hi]
  have h1:inD ad (at_ ad i).name=true:=inD_iff.2 (Hh.2 ⟨_,aW hi,rfl⟩)
  unfold gAt vAt
  rw[if_pos h1,eD hna hi rfl]
  rfl
 ·unfold af aO fS
  rw[HM,HM,HM,HM]
  refine List.map_congr_left fun i hi=>?_
  obtain⟨h1,h2⟩:=oth_mem.1 hi
  have h3:aY bd (at_ bd i).name=(i:Int):=eD hnb h1 rfl
  simp only[Function.comp,Hp]
  unfold gAt vAt
  rw[if_neg (by simp[h2]),h3]
  rfl
theorem ig(hnb:(bd.map Dim.name).Nodup){c d:Cell}:br ad bd c d=true↔∀ n,inD ad n=true→inD bd n=true→vAt ad c.at' n=vAt bd d.at' n:=by
 rw[tb,HN]
 constructor
 ·intro h n h1 h2
  obtain⟨j,g1,g2,g3⟩:=mK h2
  have h4:=h j (com_mem.2 ⟨g2,by rw[g3];exact h1⟩)
  rw[g3] at h4
  unfold vAt
  rw[g1]
  simpa using h4
 ·intro h i hi
  obtain⟨h1,h2⟩:=com_mem.1 hi
  have h3:=h (at_ bd i).name h2 (inD_iff.2 (Hh.2 ⟨_,aW h1,rfl⟩))
  unfold vAt at h3
  rw[eD hnb h1 rfl] at h3
  simpa using h3
theorem rH(hna:(ad.map Dim.name).Nodup)(hnb:(bd.map Dim.name).Nodup){c d:Cell}:br ad bd c d=br bd ad d c:=by
 rw[HK,ig hnb,ig hna]
 exact⟨fun h n h1 h2=>(h n h2 h1).symm,fun h n h1 h2=>(h n h2 h1).symm⟩
theorem Ah(hnb:(bd.map Dim.name).Nodup){c d:Cell}(hm:br ad bd c d=true){n:List UInt8}(h:inD ad n=true∨inD bd n=true):gAt ad bd c d n=gAt bd ad d c n:=by
 unfold gAt
 cases h1:inD ad n<;>cases h2:inD bd n
 ·simp[h1,h2] at h
 ·rfl
 ·rfl
 ·simp only[if_true]
  exact (ig hnb).1 hm n h1 h2
theorem rG{n:List UInt8}(h:n∈(aI ad bd).map Dim.name):inD ad n=true∨inD bd n=true:=by
 rw[jW,HB] at h
 rcases h with h|h
 ·exact .inl (inD_iff.2 h)
 ·obtain⟨d,hd,rfl⟩:=Hh.1 h
  exact .inr (inD_iff.2 (Hh.2 ⟨d,(mem_rest.1 hd).1,rfl⟩))
theorem wS{β:Type}[Inhabited β]{ds:List Dim}{names:List (List UInt8)}(g:List UInt8→β)(h:∀ n∈names,n∈ds.map Dim.name):af ((ds.map Dim.name).map g) (ixs ds names)=names.map g:=by
 refine cF (by simp[af,ixs]) fun i hi=>?_
 have hi':i<names.length:=by simpa[af,ixs] using hi
 obtain⟨k,h1,h2,h3,_⟩:=fx (ds:=ds) (name:=at_ names i) (by have:=dimX_mem.2 (h _ (aW hi'));omega)
 rw[cQ (by simpa[ixs] using hi'),aK hi']
 unfold ixs
 rw[aK hi',h1,Hp,aK (by simpa using h2),aK h2,h3]
theorem yM{ds ds':List Dim}(hn:(ds'.map Dim.name).Nodup)(h:∀ x∈ds,x∈ds'):af ds' (ixs ds' (ds.map Dim.name))=ds:=by
 refine cF (by simp[af,ixs]) fun i hi=>?_
 have hi':i<ds.length:=by simpa[af,ixs] using hi
 have hm:=h _ (aW hi')
 obtain⟨k,h1,h2,h3,_⟩:=fx (ds:=ds') (name:=(at_ ds i).name) (by have:=dimX_mem.2 (Hh.2 ⟨_,hm,rfl⟩:(at_ ds i).name∈ds'.map Dim.name);omega)
 rw[cQ (by simpa[ixs] using hi')]
 unfold ixs
 rw[aK (by simpa using hi'),aK hi',h1,Hp]
 exact De hn (aW h2) hm h3
end
theorem qb:∀ {a1 a2:List Attr} {v1 v2:List Val},v1.length=a1.length→eK a1 v1=0→eK a2 v2=0→eK (a1++a2) (v1++v2)=0
 | [],a2,[],v2,_,_,h=>h
 | a::a1,a2,v::v1,v2,hl,h1,h2=>by
   simp only[eK] at h1
   simp only[HF,eK]
   split at h1
   ·cases h1
   ·rename_i hf
    rw[if_neg hf]
    exact qb (by simpa using hl) h1 h2
 | [],_,_::_,_,hl,_,_=>by simp at hl
 | _::_,_,[],_,hl,_,_=>by simp at hl
theorem zc{v p q:Int}(h1:v≤dU p)(h2:v≤dU q):v≤dU (min p q):=by
 by_cases h:p≤q
 ·rw[Int.min_eq_left h];exact h1
 ·rw[Int.min_eq_right (by omega)];exact h2
def da(a b:Arr):Arr:=⟨aI a.dims b.dims,a.attrs++b.attrs,bI (cB a b)⟩
structure Prd (a b:Arr):Prop where
 oka:OkA a.dims a.attrs a.cells
 okb:OkA b.dims b.attrs b.cells
 ca:bz a b=false
 cb:bz b a=false
 four:(aI a.dims b.dims).length≤4
 six:(a.attrs++b.attrs).length≤6
 good:(aI a.dims b.dims).any gZ=false
 few:(cB a b).length≤4096
section
variable {a b:Arr}
theorem Prd.na(h:Prd a b):(a.dims.map Dim.name).Nodup:=h.oka.dims.2.2.2
theorem Prd.nb(h:Prd a b):(b.dims.map Dim.name).Nodup:=h.okb.dims.2.2.2
theorem joinC_mem{w:Cell}:w∈cB a b↔∃ c∈a.cells,∃ d∈b.cells,br a.dims b.dims c d=true∧fb a.dims b.dims c d=w:=by
 unfold cB fG
 simp only[List.mem_flatMap,Hh,H0]
 exact⟨fun ⟨c,hc,d,⟨hd,hm⟩,e⟩=>⟨c,hc,d,hd,hm,e⟩,fun ⟨c,hc,d,hd,hm,e⟩=>⟨c,hc,d,⟨hd,hm⟩,e⟩⟩
theorem ph{n:List UInt8}{x:Attr}(h:bz a b=false)(hx:x∈a.attrs):x.name ∉ b.dims.map Dim.name∧x.name ∉ b.attrs.map Attr.name:=by
 have h1:=(List.any_eq_false.1 h) x hx
 rw[hasN_iff] at h1
 exact⟨fun e=>h1 (.inl e),fun e=>h1 (.inr e)⟩
theorem mn{ds:List Dim}(hn:(ds.map Dim.name).Nodup){xs:List Int}(hl:xs.length=ds.length)(hw:dL ds xs=true){x:Dim}(hx:x∈ds):x.lo≤vAt ds xs x.name∧vAt ds xs x.name≤dU x.hi:=by
 obtain⟨i,hi,rfl⟩:=bt hx
 have h1:=(bQ hl).1 hw i hi
 unfold vAt
 rw[eD hn hi rfl]
 exact h1
theorem lq(h:Prd a b):OkA (da a b).dims (da a b).attrs (da a b).cells:=by
 have hs:=aV h.oka.sch
 have hsb:=aV h.okb.sch
 have hta:=attrsGo_iff.1 hs.2.2.2
 have htb:=attrsGo_iff.1 hsb.2.2.2
 refine⟨?_,by show (bI _).length≤_;rw[dy];exact h.few,cH (lS h.oka h.okb),fun x hx=>?_⟩
 ·refine jo ?_ h.four (fun d hd=>?_) (iN h.na h.nb) ?_ h.six ?_
  ·have:=h.oka.dims.1
   show 1≤(aI a.dims b.dims).length
   unfold aI
   rw[G8,G2];omega
  ·have hg:¬ d.hi<d.lo:=by
    have:=(List.any_eq_false.1 h.good) d hd
    simpa[gZ] using this
   rcases mem_joinDs.1 hd with⟨x,hx,rfl⟩|⟨h1,h2⟩
   ·have hb1:=fU hs.1
    obtain⟨g1,g2⟩:=hb1.2.2.1 x hx
    cases hb:inD b.dims x.name with
    | false=>rw[jF hb];exact⟨g1,g2⟩
    | true =>
      obtain⟨y,hy,he⟩:=Hh.1 (inD_iff.1 hb)
      have hb2:=fU hsb.1
      obtain⟨k1,k2⟩:=hb2.2.2.1 y hy
      rw[lr h.nb hy he.symm] at hg ⊢
      refine⟨boundsF_ok.2 ?_,g2⟩
      have q1:=boundsF_ok.1 g1
      have q2:=boundsF_ok.1 k1
      dsimp only at hg ⊢
      omega
   ·exact (fU hsb.1).2.2.1 d h1
  ·have:=hs.2.1
   show 1≤(a.attrs++b.attrs).length
   rw[G8];omega
  ·refine attrsGo_iff.2 ⟨fun x hx=>?_,?_⟩
   ·have hno:∀ n,n ∉ a.dims.map Dim.name→n ∉ b.dims.map Dim.name→n ∉ (da a b).dims.map Dim.name:=fun n n1 n2 hm=>by
     rcases rG hm with e|e
     ·exact n1 (inD_iff.1 e)
     ·exact n2 (inD_iff.1 e)
    rcases HB.1 hx with hx|hx
    ·obtain⟨e1,e2,e3,e4⟩:=hta.1 x hx
     exact⟨e1,hno _ e2 (ph (n:=[]) h.ca hx).1,e3,e4⟩
    ·obtain⟨e1,e2,e3,e4⟩:=htb.1 x hx
     exact⟨e1,hno _ (ph (n:=[]) h.cb hx).1 e2,e3,e4⟩
   ·show ((a.attrs++b.attrs).map Attr.name).Nodup
    rw[Hy,List.nodup_append]
    refine⟨hta.2,htb.2,fun x hx y hy e=>?_⟩
    subst e
    obtain⟨t,ht,rfl⟩:=Hh.1 hx
    exact (ph (n:=[]) h.ca ht).2 hy
 ·obtain⟨c,hc,d,hd,hm,rfl⟩:=joinC_mem.1 ((bK _).mem_iff.1 hx)
  obtain⟨c1,c2,c3,c4⟩:=cellF_ok.1 (h.oka.cel c hc)
  obtain⟨d1,d2,d3,d4⟩:=cellF_ok.1 (h.okb.cel d hd)
  have hat:=qI h.na h.nb (d:=d) c1
  have hl:(fb a.dims b.dims c d).at'.length=(da a b).dims.length:=by rw[hat];simp[da]
  refine cellF_ok.2 ⟨hl,?_,?_,qb c2 c4 d4⟩
  ·show (c.vals++d.vals).length=(a.attrs++b.attrs).length
   rw[G8,G8,c2,d2]
  ·rw[bQ hl]
   intro i hi
   have hi':i<(aI a.dims b.dims).length:=hi
   rw[hat,aK (by simpa using hi'),aK hi']
   show (at_ (aI a.dims b.dims) i).lo≤_∧_≤dU (at_ (aI a.dims b.dims) i).hi
   have hmem:=aW hi'
   generalize at_ (aI a.dims b.dims) i=e at hmem ⊢
   rcases mem_joinDs.1 hmem with⟨x,hx,rfl⟩|⟨h1,h2⟩
   ·have hin:inD a.dims x.name=true:=inD_iff.2 (Hh.2 ⟨x,hx,rfl⟩)
    rw[r8]
    have hv:gAt a.dims b.dims c d x.name=vAt a.dims c.at' x.name:=by unfold gAt;rw[if_pos hin]
    have w1:=mn h.na c1 c3 hx
    rw[hv]
    cases hb:inD b.dims x.name with
    | false=>rw[jF hb];exact w1
    | true =>
      obtain⟨y,hy,he⟩:=Hh.1 (inD_iff.1 hb)
      have w2:=mn h.nb d1 d3 hy
      have e2:=(ig h.nb).1 hm x.name hin hb
      rw[he,← e2] at w2
      rw[lr h.nb hy he.symm]
      exact⟨Int.max_le.2 ⟨w1.1,w2.1⟩,zc w1.2 w2.2⟩
   ·have hv:gAt a.dims b.dims c d e.name=vAt b.dims d.at' e.name:=by unfold gAt;rw[if_neg (by simp[h2])]
    rw[hv]
    exact mn h.nb d1 d3 h1
theorem qJ(h:Prd a b):cu a b=(some (da a b),0):=by
 unfold cu dH
 have h4:=h.four
 have h6:=h.six
 have hf:=h.few
 rw[if_neg (by omega),if_neg (by simp[h.good]),if_neg (by omega)]
 rfl
end
end Go.Proofs.YtpejdgkaapnekaaGreat
namespace Go.Abs
open Go
variable {P:Program} {c:Ctx} {σ σ':Sig} {φ φ':Pl} {w w':World}
variable {V:Env} {T:Tab} {w0:World} {σ0:Sig} {φ0:Pl} {M:Nat→Prop} {n:Nat} {rd:Option Nat} {mk:List Deferred} {ops:Array Oper} {o:Oper} {rest:List Oper} {fr:List (Nat×AV)} {sto:Sto} {K:St→Prop} {st st0:St} {acc:List Tr}
theorem AG(hT:aD P T){d:Nat}{t t2 e e2 k b k2 b2 k' b' id m:Nat}{z z2:List D}{x y:Operand}{v:AV}{xs ys zs:List (List D)}
  (ho:o.op=.call { callee:=.builtin .append,args:=#[x,y],argTypes:=#[t,t2] }) (hg:o.guard=none) (hdst:o.dst=some d) (hd:Nat.blt d n=true) (ht:aM T t=some (e,k,b,z)) (ht2:aM T t2=some (e2,k2,b2,z2))
  (hlt:(Nat.blt id 1000000||Nat.ble 2000000 id)=true) (hx:ev ⟨fr,sto⟩ x=some (.one (.own id m))) (hl:look sto id=some (.row k' b' xs)) (hkb:(Nat.beq k k'&&Nat.beq b b')=true) (hy:ev ⟨fr,sto⟩ y=some v) (hs:dG ⟨fr,sto⟩ k v=some ys) (hzs:zs=xs.take m++ys)
  (hm:m≤100000000) (hys:ys.length≤100000) (hb:b≤100)
  (h:aa P ⟨w0,σ0,φ0,M,n,rd,mk⟩ ops rest ⟨(d,.one (.own id (m+ys.length)))::jj id fr,bR id (.row k b zs) (cz id sto)⟩ K):aa P ⟨w0,σ0,φ0,M,n,rd,mk⟩ ops (o::rest) ⟨fr,sto⟩ K:=by
 have h47:(m+ys.length)*b≤2^47:=Hf (Nat.mul_le_mul (show m+ys.length≤200000000 by omega) hb) (by omega)
 exact ct hT ho hg (by rw[hdst];exact hd) ht ht2 hlt hx hl hkb hy hs hzs (by omega) h47 (by rw[hdst];exact h)
theorem Ae{s':Sto}(h:SubL sto s'):Imp c ⟨fr,sto⟩ ⟨fr,s'⟩:=fun a w σ φ hr=>⟨σ,φ,hr.dropTo fun i e hi=>h.look hi⟩
theorem cm(dl:List Nat){d:Nat}{fop:Operand}{args:Array Operand}{ats:Array TypeId}{f:FuncId}{caps:List D}{avs avs':List AV}{rav:AV}{rsto:Sto}{os:List (Nat×AObj)}
  (ho:o.op=.call { callee:=.value fop,args:=args,argTypes:=ats }) (hg:o.guard=none) (hdst:o.dst=some d) (hd:Nat.blt d n=true) (hos:cW sto dl=some os) (hf:evS os ⟨fr,sto⟩ fop=some (.one (.d (.fn f caps))))
  (ha:iY os ⟨fr,sto⟩ args.toList=some avs) (hD:bS avs=true) (hap:(avs++caps.map fun x=>.one (.d x))=avs') (hC:CallA P f avs' [] rav rsto) (hfl:fq rav=true)
  (h:aa P ⟨w0,σ0,φ0,M,n,rd,mk⟩ ops rest ⟨(d,rav)::fr,sto⟩ K):aa P ⟨w0,σ0,φ0,M,n,rd,mk⟩ ops (o::rest) ⟨fr,sto⟩ K:=by
 subst hap
 obtain⟨ss,h1,h2⟩:=ft (st:=⟨fr,sto⟩) hos
 exact fJ ho hg (by rw[hdst];exact hd) (bA h1) (by rw[h2];exact hf) (by rw[jC h2];exact ha) hD hC hfl (by rw[hdst];exact h)
end Go.Abs
namespace Go.Abs
open Go
variable {P:Program} {c:Ctx} {T:Tab}
theorem cD(hT:aD P T){ops:Array Oper}{o:Oper}{rest:List Oper}{st:St}{K:St→Prop}{op:BinOp}{t ty:TypeId}{x y:Operand}{e:Bool}{k b:Nat}{xs:List (List D)}
  (ho:o.op=.binOp op t x y ty) (hop:gA op=some e) (hg:o.guard=none) (hd:aw c.n o.dst=true) (ht:(iy T t&&lE (ev st y))=true) (hx:ev st x=some (.one (.d (.sl k b xs))))
  (h:∀ r:Bool,(r=true→xs=[])→aa P c ops rest ⟨aU o.dst (.one (.d (.bool (r==e)))) st.fr,st.sto⟩ K):aa P c ops (o::rest) st K :=
 aJ hg fun a w σ φ hr=>by
  rw[GZ] at ht
  obtain⟨el,hu⟩:=oF hT ht.1
  have hr1:∃ A n cap,a.eval x=.slice A n cap∧(A.isNone=true→xs=[]):=by
   have h1:=RepC.d_inv (ak hr hx)
   generalize a.eval x=u at h1
   cases h1 with
   | sl vs hc h48 hb hk hA hh =>
     refine⟨_,_,_,rfl,fun hn=>?_⟩
     cases xs with
     | nil=>rfl
     | cons z zs =>
       obtain⟨B,o,cells,rfl,_⟩:=hA (by simp)
       simp at hn
  obtain⟨A,n,cap,hx,hA⟩:=hr1
  have hy:a.eval y=.slice none 0 0:=by
   have h2:=ht.2
   unfold lE at h2
   split at h2
   ·rename_i hy
    have h1:=RepC.d_inv (ak hr hy)
    generalize a.eval y=u at h1
    cases h1;rfl
   ·cases h2
  refine⟨.bool (A.isNone==e),w,_,σ,φ,?_,hr.put (v:=.one (.d (.bool (A.isNone==e)))) hd (RepC.d .bool),h _ hA⟩
  cases op<;>simp only[gA,G4,reduceCtorEq] at hop<;>subst hop
  ·simp[execOp,ho,hx,hy,bk,Lib.run_eql_slice_nil _ _ _ _ _ _ _ _ hu]
  ·simp[execOp,ho,hx,hy,bk,run_neq_slice_nil_any _ _ _ _ _ _ _ _ hu]
variable {w0:World} {σ0:Sig} {φ0:Pl} {fr:List (Nat×AV)} {sto:Sto}
theorem gm(i j0 id:Nat){k b:Nat}{cs:List AC}(hl:look sto i=some (.box cs))(hc:cs[j0]?=some (.d .nil))(hlt:(Nat.blt id 1000000&&(!aQ id fr&&!aF id sto&&!aZ sto id))=true):Imp c ⟨fr,sto⟩ ⟨fr,(id,.row k b [])::bR i (.box (cs.set j0 (.own id 0))) sto⟩:=by
 simp only[GZ,Hd,HT] at hlt
 obtain⟨h1,⟨h2,h3⟩,h4⟩:=hlt
 intro a w σ φ hr
 have hn:=hr.nilRow (id:=id) (k:=k) (b:=b) (by simpa using h1) h2 h3
 have hne:id≠i:=by rintro rfl;simp[aZ,hl] at h4
 have hE:Ext (fun _=>False) (bo φ id none) (bo φ id none) ((id,.row k b [])::sto) ((id,.row k b [])::bR i (.box (cs.set j0 (.own id 0))) sto):=by
  intro j _
  cases hj:look ((id,AObj.row k b [])::bR i (.box (cs.set j0 (.own id 0))) sto) j with
  | none=>exact .inl rfl
  | some e =>
    refine .inr ?_
    rcases ab hj with⟨rfl,rfl⟩|⟨hne2,hj2⟩
    ·exact⟨_,ao,rfl,_,rfl,compat.refl _⟩
    ·rw[cn] at hj2
     rcases ab hj2 with⟨rfl,rfl⟩|⟨_,hj3⟩
     ·exact⟨.box cs,by rw[ax hne2];exact hl,rfl,.box (cs.set j0 (.own id 0)),rfl,trivial⟩
     ·exact⟨_,by rw[ax hne2];exact hj3,rfl,_,rfl,compat.refl _⟩
 have hold:∀ {j e},look ((id,AObj.row k b [])::bR i (.box (cs.set j0 (.own id 0))) sto) j=some e→(j=i∧e=.box (cs.set j0 (.own id 0)))∨look ((id,AObj.row k b [])::sto) j=some e:=by
  intro j e hj
  rcases ab hj with⟨rfl,rfl⟩|⟨hne2,hj2⟩
  ·exact .inr ao
  ·rw[cn] at hj2
   rcases ab hj2 with⟨rfl,rfl⟩|⟨_,hj3⟩
   ·exact .inl ⟨rfl,rfl⟩
   ·exact .inr (by rw[ax hne2];exact hj3)
 have hi:look ((id,AObj.row k b [])::sto) i=some (.box cs):=by rw[ax (fun e=>hne e.symm)];exact hl
 refine⟨σ,_,hn.le,hn.fresh,⟨hn.inv.sig,fun j e hj=>?_,fun j j' e e' p p' hj hj' hne2 hp hp'=>?_⟩,fun j e p hj hp=>?_,fun s v hv=>?_,hn.defers,hn.size,hn.fra,hn.pin⟩
 ·rcases hold hj with⟨rfl,rfl⟩|hj2
  ·obtain⟨B,cc,vs,t,h5,h6,h7,h8⟩:=hn.inv.obj _ _ hi
   refine⟨B,cc,vs,t,h5,h6,All2.of_get (by rw[List.length_set];exact h7.length) fun m x u hx hu=>?_,h8⟩
   by_cases hm:j0=m
   ·subst hm
    have hlt:j0<cs.length:=(G7.1 hc).1
    rw[List.getElem?_set_self hlt] at hx
    cases hx
    obtain⟨u',hu',hr9⟩:=h7.get hc
    rw[hu] at hu';cases hu'
    replace hr9:=RepC.d_inv hr9
    cases hr9
    exact .ownNil ao ai
   ·rw[List.getElem?_set_ne hm] at hx
    obtain⟨u',hu',hr9⟩:=h7.get hx
    rw[hu] at hu';cases hu'
    exact hr9.ext (Sig.le_refl _) hE fun j hj=>hj.elim
  ·exact (hn.inv.obj _ _ hj2).ext (X:=fun _=>False) (Sig.le_refl _) hE (fun j hj=>hj.elim) rfl fun _ _ _=>⟨rfl,rfl⟩
 ·have h5:∀ {j e},look ((id,AObj.row k b [])::bR i (.box (cs.set j0 (.own id 0))) sto) j=some e→∃ e0,look ((id,AObj.row k b [])::sto) j=some e0:=by
   intro j e hj
   rcases hold hj with⟨rfl,rfl⟩|hj2
   ·exact⟨_,hi⟩
   ·exact⟨_,hj2⟩
  obtain⟨_,h6⟩:=h5 hj
  obtain⟨_,h7⟩:=h5 hj'
  exact hn.inv.inj _ _ _ _ _ _ h6 h7 hne2 hp hp'
 ·rcases hold hj with⟨rfl,rfl⟩|hj2
  ·exact hn.mine _ _ _ hi hp
  ·exact hn.mine _ _ _ hj2 hp
 ·obtain⟨u,hu,hru⟩:=hn.slot s v hv
  exact⟨u,hu,hru.ext (Sig.le_refl _) hE fun j hj=>hj.elim⟩
theorem tn{V:Env}{st:St}{o:Oper}{id i n k b k' b':Nat}{t t2:TypeId}{x y:Operand}{v:AV}{xs ys:List (List D)}{e:TypeId}{z:List D}{q:TypeId×Nat×Nat×List D}
  (ho:o.op=.call { callee:=.builtin .append,args:=⟨[x,y]⟩,argTypes:=⟨[t,t2]⟩ }) (ht:aM V.T t=some (e,k,b,z)) (ht2:aM V.T t2=some q) (hx:ev st x=some (.one (.own i n))) (hl:look st.sto i=some (.row k' b' xs))
  (hkb:(Nat.beq k k'&&Nat.beq b b')=true) (hy:ev st y=some v) (hs:dG st k v=some ys) (h1:n+ys.length≤1000000000) (h2:(n+ys.length)*b≤100000000000) :
  aR V st o id=some ⟨.one (.own id (n+ys.length)),[(id,some (.row k b (xs.take n++ys))),(i,none)],[id]⟩:=by
 obtain⟨q1,q2,q3,q4⟩:=q
 have e1:Nat.ble (n+ys.length) 1000000000=true:=by simpa using h1
 have e2:Nat.ble ((n+ys.length)*b) 100000000000=true:=by simpa using h2
 simp only[aR,dg,b5,ho,db,o5,hx,hy,ht,ht2,hl,hs,hkb,e1,e2,HW,HL,jB,HE,List.map_nil]
end Go.Abs
namespace Go.Proofs.YtpejdgkaapnekaaGreat
open Go Go.Abs
attribute [local irreducible] aa OkC ah av aq aP
set_option maxRecDepth 10000
theorem En(l:List Int):CallA Tryz.prog 129 [.one (.d (aC l))] [] (.one (.d (aC l))) []:=by
 refine enter ag Tryz.func129 rfl (by decide +kernel) rfl fun hok w0 σ0 φ0 M=>?_
 have h1:=hok.1.sl;clear hok;simp only[G2] at h1
 repeat' (first|(refine h1H ?_;(refine h5H ?_;refine cD ag J J J J J J (fun r hr=>?_)))|(refine h1H ?_;(refine h0H ?_;refine ct ag J J J J J (id:=0) J J J J J J J (by simp only[G2,Hn];omega) (by simp only[G2,Hn];omega) ?_))|(refine h2H ?_;first|refine bG (bA (dl:=[0]) J) (cr ?_)|refine bG (k6 (s:=2) (k:=1) (b:=8) J) (cr ?_))|refine wG ?_|(refine h2H ?_;refine aA J (fun h=>?_) (fun h=>?_)))
 ·have e:=hr (by simpa using h)
  simp only[aC,e]
 ·simp only[cI,aC,G2,Hn,List.take_nil,HQ]
  exact congrArg (fun x=>AV.one (AC.d (D.sl _ _ x))) (G1 (by simp))
theorem Eo(l:List Val):CallA Tryz.prog 144 [.one (.d (cR l))] [] (.one (.d (cR l))) []:=by
 refine enter ag Tryz.func144 rfl (by decide +kernel) rfl fun hok w0 σ0 φ0 M=>?_
 have h1:=hok.1.sl;clear hok;simp only[G2] at h1
 repeat' (first|(refine h1H ?_;(refine h5H ?_;refine cD ag J J J J J J (fun r hr=>?_)))|(refine h1H ?_;(refine h0H ?_;refine ct ag J J J J J (id:=0) J J J J J J J (by simp only[G2,Hn];omega) (by simp only[G2,Hn];omega) ?_))|(refine h2H ?_;first|refine bG (bA (dl:=[0]) J) (cr ?_)|refine bG (k6 (s:=2) (k:=4) (b:=40) J) (cr ?_))|refine wG ?_|(refine h2H ?_;refine aA J (fun h=>?_) (fun h=>?_)))
 ·have e:=hr (by simpa using h)
  simp only[cR,e]
 ·simp only[cI,cR,G2,Hn,List.take_nil,HQ]
  exact congrArg (fun x=>AV.one (AC.d (D.sl _ _ x))) (G1 (by simp))
theorem c97(l:List Dim):CallA Tryz.prog 97 [.one (.d (ar l))] [] (.one (.d (ar l))) []:=by
 refine enter ag Tryz.func97 rfl (by decide +kernel) rfl fun hok w0 σ0 φ0 M=>?_
 have h1:=hok.1.sl;clear hok;simp only[G2] at h1
 repeat' (first|(refine h1H ?_;(refine h5H ?_;refine cD ag J J J J J J (fun r hr=>?_)))|(refine h1H ?_;(refine h0H ?_;refine ct ag J J J J J (id:=0) J J J J J J J (by simp only[G2,Hn];omega) (by simp only[G2,Hn];omega) ?_))|(refine h2H ?_;first|refine bG (bA (dl:=[0]) J) (cr ?_)|refine bG (k6 (s:=2) (k:=3) (b:=32) J) (cr ?_))|refine wG ?_|(refine h2H ?_;refine aA J (fun h=>?_) (fun h=>?_)))
 ·have e:=hr (by simpa using h)
  simp only[ar,e]
 ·simp only[cI,ar,G2,Hn,List.take_nil,HQ]
  exact congrArg (fun x=>AV.one (AC.d (D.sl _ _ x))) (G1 (by simp))
theorem Em(l:List Attr):CallA Tryz.prog 145 [.one (.d (al l))] [] (.one (.d (al l))) []:=by
 refine enter ag Tryz.func145 rfl (by decide +kernel) rfl fun hok w0 σ0 φ0 M=>?_
 have h1:=hok.1.sl;clear hok;simp only[G2] at h1
 repeat' (first|(refine h1H ?_;(refine h5H ?_;refine cD ag J J J J J J (fun r hr=>?_)))|(refine h1H ?_;(refine h0H ?_;refine ct ag J J J J J (id:=0) J J J J J J J (by simp only[G2,Hn];omega) (by simp only[G2,Hn];omega) ?_))|(refine h2H ?_;first|refine bG (bA (dl:=[0]) J) (cr ?_)|refine bG (k6 (s:=2) (k:=2) (b:=24) J) (cr ?_))|refine wG ?_|(refine h2H ?_;refine aA J (fun h=>?_) (fun h=>?_)))
 ·have e:=hr (by simpa using h)
  simp only[al,e]
 ·simp only[cI,al,G2,Hn,List.take_nil,HQ]
  exact congrArg (fun x=>AV.one (AC.d (D.sl _ _ x))) (G1 (by simp))
end Go.Proofs.YtpejdgkaapnekaaGreat
namespace Go.Abs
open Go Go.Shelf Go.RowKit Go.Lib Go.Sort Go.Proofs
variable {P:Program} {σ:Sig} {φ:Pl} {w:World}
theorem jD{σ:Sig}{φ:Pl}{sto:Sto}:∀ {ds:List D} {vs:List Value},All2 (Rep σ) ds vs→All2 (RepC σ φ sto) (ds.map AC.d) vs
 | [],[],_=>trivial
 | _::_,_::_,h=>⟨.d h.1,jD h.2⟩
 | [],_::_,h=>h.elim
 | _::_,[],h=>h.elim
theorem mF:∀ {ds:List D} {vs:List Value},All2 (Rep σ) ds vs→∀ v∈vs,v.oneCell=true
 | [],[],_,v,hv=>by simp at hv
 | _::_,_::_,h,v,hv=>by
   rcases Hm.1 hv with rfl|hv
   ·exact h.1.oneCell
   ·exact mF h.2 v hv
 | [],_::_,h,_,_=>h.elim
 | _::_,[],h,_,_=>h.elim
theorem yz{M:Nat→Prop}{w w':World}(h:Kept M w w')(hM:∀ b,¬ M b):∃ q os,w'=grow (w.drewN q) os:=by
 refine⟨w'.drawn-w.drawn,w'.heap.extract w.heap.size w'.heap.size,?_⟩
 have hh:w'.heap=w.heap++w'.heap.extract w.heap.size w'.heap.size:=by
  refine Array.ext_getElem? fun i=>?_
  by_cases hi:i<w.heap.size
  ·rw[Array.getElem?_append_left hi];exact h.block i hi (hM i)
  ·rw[Array.getElem?_append_right (by omega),Array.getElem?_extract]
   have:=h.size
   by_cases hi2:i<w'.heap.size
   ·rw[if_pos (by omega)];congr 1;omega
   ·rw[if_neg (by omega)];exact Array.getElem?_eq_none (by omega)
 have h1:=h.os;have h2:=h.tape;have h3:=h.output;have h4:=h.drawn
 cases w;cases w'
 simp only[grow,World.drewN] at *
 subst h1 h2 h3
 congr 1
 omega
theorem oa{enc:Value→Value}{w:World}{B off b:Nat}{d:Array Value}(h:b≠B):(putRow enc w B off d).heap[b]?=w.heap[b]?:=by
 simp only[putRow,mapBlock,Array.getElem?_modify,if_neg (Ne.symm h)]
theorem gB{α:Type}[Inhabited α]{enc:α→List Value}{k:Nat}{w:World}{B off m b:Nat}{d:Array α}{os:Array Obj}(hb:b<w.heap.size)(h:b≠B) :
  (sortWorldK enc k w B off m d os).heap[b]?=w.heap[b]?:=by
 unfold sortWorldK grow putRowK
 show ((putRow id (Sort.ahead w m) B off (flatK enc k d)).heap++os)[b]?=_
 rw[Array.getElem?_append_left (by rw[Go.Sort.size_putRow];exact hb),oa h]
 rfl
theorem sy{α:Type}[Inhabited α]{enc:α→List Value}{k:Nat}{w:World}{B off m:Nat}{d:Array α}{os:Array Obj}{arr:Array Value}{t:TypeId}{fr:Nat×Nat}(h:w.heap[B]?=some (.cells arr t fr)) :
  (sortWorldK enc k w B off m d os).heap[B]?=some (.cells (putCells id off (flatK enc k d) arr) t fr):=by
 unfold sortWorldK grow putRowK
 show ((putRow id (Sort.ahead w m) B off (flatK enc k d)).heap++os)[B]?=_
 have hB:=(Hk.1 h).1
 rw[Array.getElem?_append_left (by rw[Go.Sort.size_putRow];exact hB)]
 simp only[putRow,mapBlock,Array.getElem?_modify,if_true]
 show (w.heap[B]?).map _=_
 rw[h];rfl
theorem yA{α:Type}[Inhabited α]{enc:α→List Value}{k:Nat}{w:World}{B off m:Nat}{d:Array α}{os:Array Obj} :
  w.heap.size≤(sortWorldK enc k w B off m d os).heap.size:=by
 unfold sortWorldK grow putRowK
 show w.heap.size≤((putRow id (Sort.ahead w m) B off (flatK enc k d)).heap++os).size
 rw[Array.size_append,Go.Sort.size_putRow]
 exact Nat.le_add_right _ _
section
variable {C:Type}
abbrev El(σ:Sig)(k:Nat)(encC:C→List D):={ p:C×List Value // p.2.length=k∧All2 (Rep σ) (encC p.1) p.2 }
set_option maxHeartbeats 1000000 in
theorem wH{ρ:Ren}(L:SlLaysF0.n6 P ρ)(k b:Nat)(hk0:0<k)(aE:∀ w,(isAgg (ρ.t 24)).run P w=.ok true w)(zE:∀ w,(Go.sizeOf (ρ.t 24)).run P w=.ok k w)
  (encC:C→List D) (hk:∀ x,(encC x).length=k) (cf:C→C→Int) (h1:∀ x,¬ cf x x<0) (h2:∀ x y z,cf x y<0→cf y z<0→cf x z<0) (h3:∀ x y z,¬ cf x y<0→¬ cf y z<0→¬ cf x z<0)
  (g:Nat) (hg:∀ x y,CallA P g [.agg ((encC x).map .d),.agg ((encC y).map .d)] [] (.one (.d (.int .i64 (cf x y)))) [])
  (eg:∀ args w,(callFunc g args).run P w=.ok (.enter g args) w)
  (hfn : ∃ fn, P.funcs[ρ.f 6]? = some fn ∧ (fn.name == "runtime.NumGoroutine") = false ∧ fn.body.isSome = true)
  (id:Nat) (cs ss:List C) (hu:∀ l:List C,l.Perm cs→l.Pairwise (fun x y=>¬ cf y x<0)→l=ss) :
  CallA P (ρ.f 6) [.one (.own id cs.length),.one (.d (.fn g []))] [(id,.row k b (cs.map encC))] (.tup []) [(id,.row k b (ss.map encC))]:=by
 refine⟨hfn,fun w σ φ vs hI hA=>?_⟩
 match vs,hA with
 | [v0,v1],hA =>
 obtain⟨hv0,hv1,_⟩:=hA
 have ev1:v1=.func (.func g) #[] #[]:=by
  have hv1:RepC σ φ _ (.d (.fn g [])) v1:=hv1
  cases hv1.d_inv with
  | fn ws hl _ =>
    have:ws=[]:=List.eq_nil_of_length_eq_zero (by simpa using hl)
    subst this;rfl
 subst ev1
 have hlook:look [(id,AObj.row k b (cs.map encC))] id=some (.row k b (cs.map encC)):=by simp[look]
 have hobj:=hI.obj id _ hlook
 by_cases hn:cs=[]
 ·subst hn
  have hss:ss=[]:=(hu [] (List.Perm.refl _) .nil).symm
  subst hss
  have ev0:∃ p c,v0=.slice p 0 c:=by
   have hv0:RepC σ φ _ (.own id 0) v0:=hv0
   cases hv0 with
   | ownNil=>exact⟨_,_,rfl⟩
   | own=>exact⟨_,_,rfl⟩
   | dead hx=>simp[bm,aZ,look] at hx
  obtain⟨p,c,rfl⟩:=ev0
  refine (AnyF.slices_SortFunc_none L p c _ w).mono ?_
  rintro e w' ⟨rfl,rfl⟩
  exact⟨_,σ,φ,rfl,Sig.le_refl _,fun b hb=>.inl hb,hI,⟨[],rfl,trivial⟩,fun i e p h1 h2=>.inr ⟨i,e,p,h1,h2,rfl⟩,fun _ _=>rfl,⟨rfl,rfl,rfl,Hb _,Hb _,fun _ _ _=>rfl⟩⟩
 ·have hn0:0<cs.length:=List.length_pos_iff.2 hn
  have hv0:RepC σ φ _ (.own id cs.length) v0:=hv0
  obtain⟨B,cap0,rfl,hφ⟩:∃ B cap,v0=.slice (some ⟨B,0,none⟩) cs.length cap∧φ id=some (B,cap):=by
   revert hv0;generalize cs.length=m at hn0 ⊢;intro hv0
   cases hv0 with
   | ownNil=>omega
   | own _ _ hp=>exact⟨_,_,rfl,hp⟩
   | dead hx=>simp[bm,aZ,look] at hx
  rcases hobj with⟨he,_⟩|⟨B',cap,arr,t,vf,hφ',hheap,hsz,hle,h48,hb47,hlen,hcell,hrep,hσ⟩
  ·simp at he;exact absurd he hn
  rw[hφ] at hφ';cases hφ'
  simp only[G2] at hle h48 hb47 hcell
  have hB:B<w.heap.size:=(Hk.1 hheap).1
  have hel:∀ i (hi:i<cs.length),((List.range k).map (vf i)).length=k∧All2 (Rep σ) (encC cs[i]) ((List.range k).map (vf i)):=by
   intro i hi
   refine⟨by simp,All2.of_get (by simp[hk]) fun j x v hx hv=>?_⟩
   have hj:j<k:=by have:=(G7.1 hx).1;rwa [hk] at this
   have hv':v=vf i j:=by
    rw[HP,List.getElem?_range hj] at hv;simpa using hv.symm
   subst hv'
   exact hrep i j _ _ (by rw[HP,He hi];rfl) hx
  let mk:(i:Nat)→i<cs.length→El σ k encC:=fun i hi=>⟨(cs[i],(List.range k).map (vf i)),hel i hi⟩
  haveI:Inhabited (El σ k encC):=⟨mk 0 hn0⟩
  let d:Array (El σ k encC):=Array.ofFn (n:=cs.length) fun i=>mk i.1 i.2
  have hds:d.size=cs.length:=by simp[d]
  have hdg:∀ i (hi:i<cs.length),d[i]! = mk i hi:=by
   intro i hi;rw[getElem!_pos d i (by omega)];simp[d]
  have hdl:d.toList.map (fun x=>x.1.1)=cs:=by
   refine List.ext_getElem (by simp[hds]) fun i h4 h5=>?_
   simp[d,mk]
  let enc:El σ k encC→List Value:=fun x=>x.1.2
  let cf':El σ k encC→El σ k encC→Int:=fun x y=>cf x.1.1 y.1.1
  have hO:SWO (ltOf cf') :=
   ⟨fun x=>by simpa[ltOf,cf'] using h1 x.1.1,fun x y z=>by simpa[ltOf,cf'] using h2 x.1.1 y.1.1 z.1.1,fun x y z=>by simpa[ltOf,cf'] using h3 x.1.1 y.1.1 z.1.1⟩
  have hHK:HoldsK enc k w B 0 d:=by
   intro j hj
   rw[size_flatK,hds] at hj
   have hj1:j / k<cs.length:=Nat.div_lt_of_lt_mul (by rwa [Nat.mul_comm] at hj)
   have hj2:j % k<k:=Nat.mod_lt _ hk0
   have hc:=hcell (j / k) (j % k) hj1 hj2
   rw[Nat.div_add_mod' j k] at hc
   rw[get_flatK enc k d j (by rw[hds];exact hj),hdg _ hj1]
   have e:(enc (mk (j / k) hj1))[j % k]! = vf (j / k) (j % k):=by
    rw[getElem!_pos _ _ (by simp[enc,mk];exact hj2)];simp[enc,mk]
   rw[e]
   refine⟨?_,?_⟩
   ·simp only[World.cell?,hheap,Hn]
    simpa using hc
   ·simp[World.frozen?,hheap]
  have hsig:∀ (m:Nat) (os:Array Obj) (dk:Array (El σ k encC)),HInv σ φ [] (sortWorldK enc k w B 0 m dk os):=by
   intro m os dk
   refine⟨fun b cs' hb=>?_,fun i e h=>by simp[look] at h,fun i i' e e' p p' h=>by simp[look] at h⟩
   obtain⟨t',f',hh⟩:=hI.sig b cs' hb
   refine⟨t',f',?_⟩
   rw[gB (Hk.1 hh).1 (by rintro rfl;rw[hσ] at hb;cases hb)]
   exact hh
  have hcmp:CmpLays P g #[] enc k cf' B 0 d.size w:=by
   intro m os dk _ x y
   have hr:=(hg x.1.1 y.1.1).run (sortWorldK enc k w B 0 m dk os) σ φ [.agg (enc x).toArray,.agg (enc y).toArray] (hsig m os dk) ⟨⟨_,rfl,jD x.2.2⟩,⟨_,rfl,jD y.2.2⟩,trivial⟩
   refine Calls.mono hr ?_
   rintro e w' ⟨v,σ',φ',rfl,hret⟩
   obtain⟨q,os',hq⟩:=yz hret.kept (fun b hb=>by obtain⟨i,e,p,h,_⟩:=hb;simp[look] at h)
   have hv:v=.int .i64 (cf x.1.1 y.1.1):=by
    have h:RepC σ' φ' [] (.d (.int .i64 (cf x.1.1 y.1.1))) v:=hret.rep
    cases h.d_inv;rfl
   exact⟨by rw[hv],q,os',hq⟩
  have hS:=AnyQ.slices_SortFunc L k aE zE enc (fun x=>x.2.1) (fun x v hv=>lP (mF x.2.2 v hv)) cf' hO g #[] B 0 cap0 d w eg hcmp hHK hB (by omega)
  rw[hds] at hS
  refine Calls.mono hS ?_
  rintro e w' ⟨rfl,d',n',os,hperm,hsorted,rfl⟩
  have hd's:d'.size=cs.length:=hperm.1.trans hds
  have hpl:d'.toList.Perm d.toList:=by
   have h:=hperm.2.2
   have e1:d'.extract 0 cs.length=d':=by rw[← hd's];simp
   have e2:d.extract 0 cs.length=d:=by rw[← hds];simp
   rwa [e1,e2] at h
  have hl:d'.toList.map (fun x=>x.1.1)=ss:=by
   refine hu _ (hdl ▸ hpl.map _) ?_
   rw[HR,List.pairwise_iff_getElem]
   intro i j hi hj hij
   have h:=hsorted i j (Hi _) hij (by simpa[hd's] using hj)
   simp only[Array.length_toList] at hi hj
   rw[getElem!_pos d' i hi,getElem!_pos d' j hj] at h
   simpa[ltOf,cf'] using h
  have hssl:ss.length=cs.length:=by rw[← hl];simp[hd's]
  have hget:∀ i (hi:i<cs.length) (x:C),ss[i]?=some x→d'[i]!.1.1=x:=by
   intro i hi x hx
   rw[← hl,HP,HI,Array.getElem?_eq_getElem (by omega)] at hx
   rw[getElem!_pos d' i (by omega)]
   simpa using hx
  have hmine:MOf φ [(id,AObj.row k b (cs.map encC))] B:=⟨id,_,_,hlook,hφ,rfl⟩
  refine⟨_,σ,φ,rfl,Sig.le_refl _,fun b hb=>.inl hb,⟨fun b cs' hb=>?_,fun i e hi=>?_,fun i i' e e' p p' hi hi' hne=>?_⟩,⟨[],rfl,trivial⟩,fun i e p hi hp=>.inr ?_,fun _ _=>rfl,⟨rfl,rfl,rfl,yA,Nat.le_add_right _ _,fun b hb hM=>gB hb (by rintro rfl;exact hM hmine)⟩⟩
  ·obtain⟨t',f',hh⟩:=hI.sig b cs' hb
   refine⟨t',f',?_⟩
   rw[gB (Hk.1 hh).1 (by rintro rfl;rw[hσ] at hb;cases hb)]
   exact hh
  ·rcases ab hi with⟨rfl,rfl⟩|⟨_,hi⟩
   ·refine .inr ⟨B,cap0,putCells _root_.id 0 (flatK enc k d') arr,t,fun i j=>(enc d'[i]!)[j]!,hφ,sy hheap,by simp[putCells,hsz],by simpa[hssl] using hle,by simpa[hssl] using h48,by simpa[hssl] using hb47,fun x hx=>?_,fun i j hi hj=>?_,fun i j x dd hx hdd=>?_,hσ⟩
    ·obtain⟨c,_,rfl⟩:=Hh.1 hx;exact hk c
    ·simp only[G2,hssl] at hi
     have hlt:i*k+j<cs.length*k:=by
      have:=Hl k (show i+1≤cs.length from hi);rw[Nat.add_mul,Nat.one_mul] at this;omega
     have hc:=hcell i j hi hj
     simp only[putCells,Array.getElem?_mapIdx,hc,Option.map_some,size_flatK,hd's,Hi,true_and,Hn,hlt,if_true,Nat.sub_zero]
     rw[get_flatK enc k d' _ (by rw[hd's];exact hlt)]
     have e1:(i*k+j) / k=i:=(blk_iff k i _ hk0).1 ⟨by omega,by omega⟩
     have e2:(i*k+j) % k=j:=by rw[Nat.mod_eq_sub_div_mul,e1];omega
     rw[e1,e2];rfl
    ·rw[HP] at hx
     cases hs:ss[i]? with
     | none=>rw[hs] at hx;simp at hx
     | some c =>
       rw[hs] at hx;simp at hx;subst hx
       have hi:i<cs.length:=by rw[← hssl];exact (G7.1 hs).1
       have e1:=hget i hi c hs
       have ha:=(d'[i]!).2.2
       rw[e1] at ha
       obtain⟨v,hv,hr⟩:=ha.get hdd
       have:(enc d'[i]!)[j]! = v:=by
        have hv2:=(G7.1 hv)
        exact (getElem!_pos (enc d'[i]!) j hv2.1).trans hv2.2
       show Rep σ dd ((enc d'[i]!)[j]!)
       rw[this];exact hr
   ·simp[look] at hi
  ·rcases ab hi with⟨rfl,_⟩|⟨_,hi⟩
   ·rcases ab hi' with⟨rfl,_⟩|⟨_,hi'⟩
    ·exact absurd rfl hne
    ·simp[look] at hi'
   ·simp[look] at hi
  ·rcases ab hi with⟨rfl,_⟩|⟨_,hi⟩
   ·rw[hφ] at hp;cases hp;exact hmine
   ·simp[look] at hi
end
end Go.Abs
namespace Go.Proofs.YtpejdgkaapnekaaGreat
open Go Go.Proofs Go.Shelf
def yX:Go.Shelf.Ren:=⟨fun|6=>181|15=>219|14=>231|28=>261|29=>262|20=>271|21=>272|22=>273|23=>274|24=>275|25=>276|26=>277|27=>278|46=>338|47=>295|48=>296|49=>339|50=>340|57=>368|n=>n,fun|22=>24|24=>56|25=>172|3=>3|39=>192|0=>0|53=>251|55=>253|4=>4|46=>244|45=>243|50=>119|5=>5|9=>9|66=>278|70=>282|76=>302|77=>303|n=>n,fun|n=>n⟩
theorem DJ:Go.Proofs.SlLaysF0.n6 Tryz.prog yX:={
 mixed:=by kernel_rfl
 f6:=⟨Tryz.f181.name,by decide,Tryz.func181.trans (congrArg some (by kernel_rfl))⟩
 f14:=⟨Tryz.f231.name,by decide,Tryz.func231.trans (congrArg some (by kernel_rfl))⟩
 f15:=Tryz.func219.trans (congrArg some (by kernel_rfl))
 f20:=⟨Tryz.f271.name,by decide,Tryz.func271.trans (congrArg some (by kernel_rfl))⟩
 f21:=⟨Tryz.f272.name,by decide,Tryz.func272.trans (congrArg some (by kernel_rfl))⟩
 f22:=⟨Tryz.f273.name,by decide,Tryz.func273.trans (congrArg some (by kernel_rfl))⟩
 f23:=⟨Tryz.f274.name,by decide,Tryz.func274.trans (congrArg some (by kernel_rfl))⟩
 f24:=⟨Tryz.f275.name,by decide,Tryz.func275.trans (congrArg some (by kernel_rfl))⟩
 f25:=⟨Tryz.f276.name,by decide,Tryz.func276.trans (congrArg some (by kernel_rfl))⟩
 f26:=⟨Tryz.f277.name,by decide,Tryz.func277.trans (congrArg some (by kernel_rfl))⟩
 f27:=⟨Tryz.f278.name,by decide,Tryz.func278.trans (congrArg some (by kernel_rfl))⟩
 f28:=Tryz.func261.trans (congrArg some (by kernel_rfl))
 f29:=Tryz.func262.trans (congrArg some (by kernel_rfl))
 f46:=⟨Tryz.f338.name,by decide,Tryz.func338.trans (congrArg some (by kernel_rfl))⟩
 f47:=Tryz.func295.trans (congrArg some (by kernel_rfl))
 f48:=Tryz.func296.trans (congrArg some (by kernel_rfl))
 f49:=⟨Tryz.f339.name,by decide,Tryz.func339.trans (congrArg some (by kernel_rfl))⟩
 f50:=⟨Tryz.f340.name,by decide,Tryz.func340.trans (congrArg some (by kernel_rfl))⟩
 f57:=⟨Tryz.f368.name,by decide,Tryz.func368.trans (congrArg some (by kernel_rfl))⟩
 t0:=Tryz.underlying0
 a0:=Tryz.isAgg0
 z0:=Tryz.sizeOf0
 v0:=Tryz.zeroValue0
 t3:=Tryz.underlying3
 a3:=Tryz.isAgg3
 z3:=Tryz.sizeOf3
 v3:=Tryz.zeroValue3
 t4:=Tryz.underlying4
 a4:=Tryz.isAgg4
 z4:=Tryz.sizeOf4
 v4:=Tryz.zeroValue4
 t5:=Tryz.underlying5
 a5:=Tryz.isAgg5
 z5:=Tryz.sizeOf5
 v5:=Tryz.zeroValue5
 t9:=Tryz.underlying9
 a9:=Tryz.isAgg9
 z9:=Tryz.sizeOf9
 v9:=Tryz.zeroValue9
 t22:=Tryz.underlying24
 a22:=Tryz.isAgg24
 z22:=Tryz.sizeOf24
 v22:=Tryz.zeroValue24
 t25:=Tryz.underlying172
 a25:=Tryz.isAgg172
 z25:=Tryz.sizeOf172
 v25:=Tryz.zeroValue172
 t39:=Tryz.underlying192
 a39:=Tryz.isAgg192
 z39:=Tryz.sizeOf192
 v39:=Tryz.zeroValue192
 t45:=Tryz.underlying243
 a45:=Tryz.isAgg243
 z45:=Tryz.sizeOf243
 v45:=Tryz.zeroValue243
 t46:=Tryz.underlying244
 a46:=Tryz.isAgg244
 z46:=Tryz.sizeOf244
 v46:=Tryz.zeroValue244
 t50:=Tryz.underlying119
 a50:=Tryz.isAgg119
 z50:=Tryz.sizeOf119
 v50:=Tryz.zeroValue119
 t53:=Tryz.underlying251
 a53:=Tryz.isAgg251
 z53:=Tryz.sizeOf251
 v53:=Tryz.zeroValue251
 t55:=Tryz.underlying253
 a55:=Tryz.isAgg253
 z55:=Tryz.sizeOf253
 v55:=Tryz.zeroValue253
 t66:=Tryz.underlying278
 a66:=Tryz.isAgg278
 z66:=Tryz.sizeOf278
 v66:=Tryz.zeroValue278
 t70:=Tryz.underlying282
 a70:=Tryz.isAgg282
 z70:=Tryz.sizeOf282
 v70:=Tryz.zeroValue282
 t76:=Tryz.underlying302
 a76:=Tryz.isAgg302
 z76:=Tryz.sizeOf302
 v76:=Tryz.zeroValue302
 t77:=Tryz.underlying303
 a77:=Tryz.isAgg303
 z77:=Tryz.sizeOf303
 v77:=Tryz.zeroValue303 }
end Go.Proofs.YtpejdgkaapnekaaGreat
namespace Go.Proofs.YtpejdgkaapnekaaGreat
open Go Go.Abs
attribute [local irreducible] aa OkC ah av aq aP
set_option maxRecDepth 10000
def wF(x:Cell):AV:=.agg ((ay x).map .d)
theorem Er(x y:Cell):CallA Tryz.prog 182 [wF x,wF y] [] (.one (.d (.int .i64 (aT x.at' y.at')))) []:=by
 unfold wF ay
 simp only[HE,List.map_nil]
 refine enter ag Tryz.func182 rfl (by decide +kernel) rfl fun hok w0 σ0 φ0 M=>?_
 clear hok
 repeat' (first|(refine h1H ?_;(refine h0H ?_;refine aj J J J J J J J J (c35 _ _) J ?_))|refine wG ?_)
 all_goals (try (((simp_all[aB,G6])<;>exact wL);done))
theorem Ek(id:Nat)(cs ss:List Cell)(hu:∀ l:List Cell,l.Perm cs→l.Pairwise (fun x y=>¬ aT y.at' x.at'<0)→l=ss) :
  CallA Tryz.prog 181 [.one (.own id cs.length),.one (.d (.fn 182 []))] [(id,.row 2 48 (cs.map ay))] (.tup []) [(id,.row 2 48 (ss.map ay))]:=by
 refine wH DJ 2 48 (by omega) Tryz.isAgg56 Tryz.sizeOf56 ay (fun _=>rfl) (fun x y=>aT x.at' y.at') (fun x=>by rw[j7];omega) (fun x y z h1 h2=>?_) (fun x y z h1 h2=>?_) 182 Er
  (enters_of Tryz.func182 (by kernel_rfl) rfl) ⟨Tryz.f181,Tryz.func181,by kernel_rfl,by kernel_rfl⟩ id cs ss hu
 ·have:=eH x.at' y.at' z.at' (by omega) (by omega)
  omega
 ·have h3:=e7 x.at' y.at'
  have h4:=e7 y.at' z.at'
  have h5:=e7 x.at' z.at'
  have:=eH z.at' y.at' x.at' (by omega) (by omega)
  omega
end Go.Proofs.YtpejdgkaapnekaaGreat
