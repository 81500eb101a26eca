import Derived.Test.YtpejdgkaapnekaaGreatIP16
import Derived.Test.YtpejdgkaapnekaaGreatIP17
import Derived.Test.YtpejdgkaapnekaaGreatIP14
set_option linter.unusedVariables false
set_option linter.unusedSimpArgs false
set_option maxHeartbeats 1000000
namespace Go.Proofs.YtpejdgkaapnekaaGreat
open Go Go.Abs
theorem vH{ds:List Attr}:∀ {names:List (List UInt8)} {acc:List Int},(∀ n∈names,¬ atX ds n<0)→(acc++names.map (atX ds)).Nodup→eo ds acc names=some (acc++names.map (atX ds))
 | [],acc,_,_=>by simp[eo]
 | n::r,acc,h1,h2=>by
   have h3:atX ds n ∉ acc:=fun hm=>by
    rw[List.nodup_append] at h2
    exact h2.2.2 _ hm _ (by simp) rfl
   rw[eo,if_neg (h1 n Hc),if_neg (by simpa using h3),vH (fun x hx=>h1 x (G9 _ hx)) (by simpa using h2)]
   simp
theorem CJ{ts:List Attr}{names:List (List UInt8)}(hn:names.Nodup)(h:∀ n∈names,n∈ts.map Attr.name):(names.map (atX ts)).Nodup:=by
 rw[List.Nodup,HR]
 refine List.Pairwise.imp_of_mem ?_ hn
 intro x y hx hy hne e
 obtain⟨k,h1,h2,h3⟩:=ln (ats:=ts) (n:=x) (by have:=atX_mem.2 (h x hx);omega)
 obtain⟨j,g1,g2,g3⟩:=ln (ats:=ts) (n:=y) (by have:=atX_mem.2 (h y hy);omega)
 rw[h1,g1] at e
 have e':k=j:=by omega
 subst e'
 exact hne (h3.symm.trans g3)
theorem BG{ts:List Dim}{names:List (List UInt8)}(hn:names.Nodup)(h:∀ n∈names,n∈ts.map Dim.name):(names.map (aY ts)).Nodup:=by
 rw[List.Nodup,HR]
 refine List.Pairwise.imp_of_mem ?_ hn
 intro x y hx hy hne e
 obtain⟨k,h1,h2,h3,_⟩:=fx (ds:=ts) (name:=x) (by have:=dimX_mem.2 (h x hx);omega)
 obtain⟨j,g1,g2,g3,_⟩:=fx (ds:=ts) (name:=y) (by have:=dimX_mem.2 (h y hy);omega)
 rw[h1,g1] at e
 have e':k=j:=by omega
 subst e'
 exact hne (h3.symm.trans g3)
theorem BH{a b:Arr}{c:Cell}:(fG a b c).length≤b.cells.length:=by
 unfold fG
 rw[G2]
 exact List.length_filter_le _ _
theorem Af(a b:Arr):(cB a b).length≤a.cells.length*b.cells.length:=by
 unfold cB
 generalize a.cells=l
 induction l with
 | nil=>simp
 | cons c r ih =>
   rw[List.flatMap_cons,G8,Ho,Nat.succ_mul]
   have:=BH (a:=a) (b:=b) (c:=c)
   omega
theorem tp{z:Arr}{names:List (List UInt8)}(hz:OkA z.dims z.attrs z.cells)(h0:names.length≠0)(hn:names.Nodup)(h:∀ n∈names,n∈z.attrs.map Attr.name) :
  ed z names=(some ⟨z.dims,af z.attrs (names.map (atX z.attrs)),bI (z.cells.map (pjC (names.map (atX z.attrs))))⟩,0):=by
 unfold ed
 have hc:ba z=0:=iM hz
 rw[if_neg (by rintro (e|e);exact e hc;exact h0 e),vH (acc:=[]) (fun n hm=>by have:=atX_mem.2 (h n hm);omega) (by simpa using CJ hn h)]
 simp only[HQ,dH]
 rw[if_neg (by rw[G2];have:=hz.few;omega)]
theorem BI{ts:List Attr}(hn:(ts.map Attr.name).Nodup){d e:Attr}(hd:d∈ts)(he:e∈ts)(h:d.name=e.name):d=e:=by
 obtain⟨i,hi,rfl⟩:=bt hd
 obtain⟨j,hj,rfl⟩:=bt he
 have:=nodup_at.1 hn i j (by simpa using hi) (by simpa using hj) (by rw[aK hi,aK hj,h])
 rw[this]
theorem pJ{ts ts':List Attr}(hn:(ts'.map Attr.name).Nodup)(h:∀ x∈ts,x∈ts'):af ts' ((ts.map Attr.name).map (atX ts'))=ts:=by
 refine cF (by simp[af]) fun i hi=>?_
 have hi':i<ts.length:=by simpa[af] using hi
 have hm:=h _ (aW hi')
 obtain⟨k,h1,h2,h3⟩:=ln (ats:=ts') (n:=(at_ ts i).name) (by have:=atX_mem.2 (Hh.2 ⟨_,hm,rfl⟩:(at_ ts i).name∈ts'.map Attr.name);omega)
 rw[cQ (by simpa using hi'),aK (by simpa using hi'),aK hi',h1,Hp]
 exact BI hn (aW h2) hm h3
theorem jy{α:Type}[Inhabited α]{l m:List α}{i:Nat}(h:i<l.length):at_ (l++m) i=at_ l i:=by
 simp only[at_,Hg]
 rw[Hu h]
theorem nM{α:Type}[Inhabited α]{l m:List α}{i:Nat}:at_ (l++m) (l.length+i)=at_ m i:=by
 simp only[at_,Hg]
 rw[Hv (by omega),HS]
theorem yK{α:Type}[Inhabited α]{at1 at2:List Attr}(hn:((at2++at1).map Attr.name).Nodup){u v:List α}(hu:u.length=at1.length)(hv:v.length=at2.length) :
  af (v++u) (((at1++at2).map Attr.name).map (atX (at2++at1)))=u++v:=by
 refine cF (by simp[af,hu,hv]) fun i hi=>?_
 have hi':i<(at1++at2).length:=by simpa[af] using hi
 rw[cQ (by simpa using hi'),aK (by simpa using hi'),aK hi']
 rw[G8] at hi'
 by_cases h1:i<at1.length
 ·have e:atX (at2++at1) (at_ (at1++at2) i).name=((at2.length+i:Nat):Int):=by
   refine qH hn (by rw[G8];omega) ?_
   rw[nM,jy h1]
  rw[e,Hp,← hv,nM,jy (by omega)]
 ·obtain⟨j,rfl⟩:∃ j,i=at1.length+j:=⟨i-at1.length,by omega⟩
  have hj:j<at2.length:=by omega
  have e:atX (at2++at1) (at_ (at1++at2) (at1.length+j)).name=(j:Int):=by
   refine qH hn (by rw[G8];omega) ?_
   rw[nM,jy hj]
  rw[e,Hp,jy (by omega),← hu,nM]
section
variable {a b:Arr}
def jJ(a:Arr):List (List UInt8):=a.dims.map Dim.name
def lX(a:Arr):List (List UInt8):=a.attrs.map Attr.name
theorem Ag(h:Prd a b)(h':Prd b a):Tran (da b a) (jJ (da a b)):=by
 have hin:∀ n∈jJ (da a b),n∈(da b a).dims.map Dim.name:=fun n hn=>by
  obtain⟨d,hd,rfl⟩:=Hh.1 hn
  exact Hh.2 ⟨d,eE h.na h.nb hd,rfl⟩
 refine⟨lq h',?_,fun n hn=>?_,BG (iN h.na h.nb) hin⟩
 ·unfold jJ
  rw[G2]
  exact pK h.na h.nb
 ·have:=dimX_mem.2 (hin n hn);omega
theorem tq(h:Prd a b)(h':Prd b a){c d:Cell}(hc:c∈a.cells)(hd:d∈b.cells)(hm:br a.dims b.dims c d=true) :
  pjC ((lX (da a b)).map (atX (b.attrs++a.attrs))) (jl (ixs (da b a).dims (jJ (da a b))) (fb b.dims a.dims d c))=fb a.dims b.dims c d:=by
 obtain⟨c1,c2,_⟩:=cellF_ok.1 (h.oka.cel c hc)
 obtain⟨d1,d2,_⟩:=cellF_ok.1 (h.okb.cel d hd)
 have hnd:((b.attrs++a.attrs).map Attr.name).Nodup:=(attrsGo_iff.1 (aV (lq h').sch).2.2.2).2
 have e1:af (fb b.dims a.dims d c).at' (ixs (da b a).dims (jJ (da a b)))=(fb a.dims b.dims c d).at':=by
  rw[qI h.nb h.na d1,qI h.na h.nb c1]
  show af (((aI b.dims a.dims).map Dim.name).map _) (ixs (aI b.dims a.dims) ((aI a.dims b.dims).map Dim.name))=_
  rw[wS _ fun n hn=>by
   obtain⟨x,hx,rfl⟩:=Hh.1 hn
   exact Hh.2 ⟨x,eE h.na h.nb hx,rfl⟩]
  exact List.map_congr_left fun n hn=>(Ah h.nb hm (rG hn)).symm
 have e2:af (d.vals++c.vals) ((lX (da a b)).map (atX (b.attrs++a.attrs)))=c.vals++d.vals:=yK hnd c2 d2
 show Cell.mk (af (fb b.dims a.dims d c).at' _) (af (d.vals++c.vals) _)=fb a.dims b.dims c d
 rw[e1,e2]
 rfl
theorem Ai(h:Prd a b)(h':Prd b a):∃ z,dp (da b a) (jJ (da a b))=(some z,0)∧ed z (lX (da a b))=(some (da a b),0):=by
 have ht:=Ag h h'
 have hok:=lq h
 refine⟨_,yL ht,?_⟩
 have hz:=BJ ht
 have hnd:((da a b).attrs.map Attr.name).Nodup:=(attrsGo_iff.1 (aV hok.sch).2.2.2).2
 have hnb:((b.attrs++a.attrs).map Attr.name).Nodup:=(attrsGo_iff.1 (aV (lq h').sch).2.2.2).2
 have hsub:∀ x∈a.attrs++b.attrs,x∈b.attrs++a.attrs:=fun x hx=>by
  rw[HB] at hx ⊢;exact hx.symm
 show ed _ ((da a b).attrs.map Attr.name)=_
 rw[tp hz ?_ hnd ?_]
 ·have hA:(ee (da b a) (jJ (da a b))).attrs=b.attrs++a.attrs:=rfl
  rw[hA]
  refine congrArg (fun x=>(some x,(0:Int))) (Arr.ext ?_ ?_ ?_)
  ·exact yM (iN h.nb h.na) fun x hx=>eE h.na h.nb hx
  ·exact pJ hnb hsub
  ·refine jb (cH (HR.2 ((bP hz.srt).imp fun h=>h))) hok.srt fun w=>?_
   show w∈bI ((bI ((bI (cB b a)).map _)).map _)↔w∈bI (cB a b)
   rw[(bK _).mem_iff,(bK _).mem_iff,Hh,joinC_mem]
   constructor
   ·rintro ⟨v,hv,rfl⟩
    obtain⟨u,hu,rfl⟩:=Hh.1 ((bK _).mem_iff.1 hv)
    obtain⟨d,hd,c,hc,hm,rfl⟩:=joinC_mem.1 ((bK _).mem_iff.1 hu)
    rw[rH h.nb h.na] at hm
    exact⟨c,hc,d,hd,hm,(tq h h' hc hd hm).symm⟩
   ·rintro ⟨c,hc,d,hd,hm,rfl⟩
    refine⟨_,(bK _).mem_iff.2 (Hh.2 ⟨fb b.dims a.dims d c,(bK _).mem_iff.2 (joinC_mem.2 ⟨d,hd,c,hc,by rw[rH h.nb h.na];exact hm,rfl⟩),rfl⟩),tq h h' hc hd hm⟩
 ·have:=h.oka.sch
  have:=(aV this).2.1
  show (List.map Attr.name (a.attrs++b.attrs)).length≠0
  rw[G2,G8];omega
 ·intro n hn
  obtain⟨x,hx,rfl⟩:=Hh.1 hn
  exact Hh.2 ⟨x,hsub x hx,rfl⟩
structure TwoR (r s:Option Arr×Int) (x y z:Arr):Prop where
 eqx:r=(some x,0)
 eqy:s=(some y,0)
 tr:dp y (jJ x)=(some z,0)
 pr:ed z (lX x)=(some x,0)
 ok:ba x=0
theorem BK(ha:OkA a.dims a.attrs a.cells)(hb:OkA b.dims b.attrs b.cells)(h1:bz a b=false)(h2:bz b a=false)(la:a.cells.length≤60)(lb:b.cells.length≤60) :
  (∃ e,e≠0∧cu a b=(none,e)∧cu b a=(none,e))∨∃ x y z,TwoR (cu a b) (cu b a) x y z:=by
 have hl:=pK ha.dims.2.2.2 hb.dims.2.2.2
 have hbad:=wT ha.dims.2.2.2 hb.dims.2.2.2
 have hf:∀ p q:Arr,p.cells.length≤60→q.cells.length≤60→(cB p q).length≤4096:=fun p q hp hq=>by
  have:=Af p q
  have h3:p.cells.length*q.cells.length≤60*60:=Nat.mul_le_mul hp hq
  omega
 by_cases c1:4<(aI a.dims b.dims).length∨6<(a.attrs++b.attrs).length
 ·refine .inl ⟨9,by decide,?_,?_⟩
  ·unfold cu;rw[if_pos (by omega)]
  ·unfold cu;rw[if_pos (by rw[← hl];simp only[G8] at c1 ⊢;omega)]
 have c1':¬ (4<((aI b.dims a.dims).length:Int)∨6<((b.attrs++a.attrs).length:Int)):=by rw[← hl];simp only[G8] at c1 ⊢;omega
 cases c2:(aI a.dims b.dims).any gZ with
 | true =>
   refine .inl ⟨3,by decide,?_,?_⟩
   ·unfold cu;rw[if_neg (by omega),if_pos c2]
   ·unfold cu;rw[if_neg c1',if_pos (by rw[← hbad];exact c2)]
 | false =>
   have p1:Prd a b:=⟨ha,hb,h1,h2,by omega,by omega,c2,hf a b la lb⟩
   have p2:Prd b a:=⟨hb,ha,h2,h1,by omega,by omega,by rw[← hbad];exact c2,hf b a lb la⟩
   obtain⟨z,hz1,hz2⟩:=Ai p1 p2
   exact .inr ⟨_,_,z,qJ p1,qJ p2,hz1,hz2,iM (lq p1)⟩
theorem rI:fH a b=fH b a:=by
 have key:∀ {a b:Arr},fH a b=true→fH b a=true:=fun {a b} h=>by
  unfold fH at h ⊢
  rw[List.any_eq_true] at h ⊢
  obtain⟨x,hx,hn⟩:=h
  obtain⟨y,hy,he⟩:=Hh.1 (inD_iff.1 hn)
  exact⟨y,hy,inD_iff.2 (Hh.2 ⟨x,hx,he.symm⟩)⟩
 rw[HK]
 exact⟨key,key⟩
def jcF(k:Nat)(a b:Arr):Option Arr×Int:=if k=0 then eC a b else fc a b
theorem CK(k:Nat)(ha:ba a=0)(hb:ba b=0)(la:a.cells.length≤60)(lb:b.cells.length≤60) :
  (∃ e,e≠0∧jcF k a b=(none,e)∧jcF k b a=(none,e))∨∃ x y z,TwoR (jcF k a b) (jcF k b a) x y z:=by
 have g1:¬ (ba a≠0∨ba b≠0):=by omega
 have g2:¬ (ba b≠0∨ba a≠0):=by omega
 have key:bz a b=false→bz b a=false→(∃ e,e≠0∧cu a b=(none,e)∧cu b a=(none,e))∨∃ x y z,TwoR (cu a b) (cu b a) x y z:=fun c1 c2=>BK (okA ha) (okA hb) c1 c2 la lb
 unfold jcF
 by_cases hk:k=0
 ·rw[if_pos hk,if_pos hk]
  unfold eC
  rw[if_neg g1,if_neg g2,rI (a:=b) (b:=a),Bool.or_comm (bz b a) (bz a b)]
  by_cases hc:(!fH a b)=true
  ·rw[if_pos hc,if_pos hc];exact .inl ⟨13,by decide,rfl,rfl⟩
  ·rw[if_neg hc,if_neg hc]
   by_cases hcl:(bz a b||bz b a)=true
   ·rw[if_pos hcl,if_pos hcl];exact .inl ⟨11,by decide,rfl,rfl⟩
   ·rw[if_neg hcl,if_neg hcl]
    rw[Hq,not_or,HO,HO] at hcl
    exact key hcl.1 hcl.2
 ·rw[if_neg hk,if_neg hk]
  unfold fc
  rw[if_neg g1,if_neg g2,rI (a:=b) (b:=a),Bool.or_comm (bz b a) (bz a b)]
  by_cases hcl:(fH a b||(bz a b||bz b a))=true
  ·rw[if_pos hcl,if_pos hcl];exact .inl ⟨11,by decide,rfl,rfl⟩
  ·rw[if_neg hcl,if_neg hcl]
   rw[Hq,Hq,not_or,not_or,HO,HO,HO] at hcl
   exact key hcl.2.1 hcl.2.2
end
section
variable {a:Arr}
def jc(c:Cell):Cell:=⟨c.at',c.vals++c.vals⟩
theorem Aj(ts:List Attr)(ha:ba a=0)(ht:ba ⟨a.dims,ts,a.cells⟩=0)(hl:ts.length=a.attrs.length)(h6:a.attrs.length*2≤6)(hno:∀ n,n∈a.attrs.map Attr.name→n ∉ ts.map Attr.name) :
  eC a ⟨a.dims,ts,a.cells⟩=(some ⟨a.dims,a.attrs++ts,a.cells.map jc⟩,0)∧ed ⟨a.dims,a.attrs++ts,a.cells.map jc⟩ (a.attrs.map Attr.name)=(some a,0):=by
 have hA:=okA ha
 have hB:=okA ht
 have hn:=hA.dims.2.2.2
 have hsA:=aV hA.sch
 have hsB:=aV hB.sch
 have hta:=attrsGo_iff.1 hsA.2.2.2
 have htb:=attrsGo_iff.1 hsB.2.2.2
 have hself:∀ x∈a.dims,fF a.dims x=x:=fun x hx=>by rw[lr hn hx rfl,Int.max_self,Int.min_self]
 have hrst:aO a.dims a.dims=[]:=by
  unfold aO fS
  rw[List.map_eq_nil_iff,List.eq_nil_iff_forall_not_mem]
  intro i hi
  obtain⟨h1,h2⟩:=oth_mem.1 hi
  rw[inD_iff.2 (Hh.2 ⟨_,aW h1,rfl⟩)] at h2
  cases h2
 have hds:aI a.dims a.dims=a.dims:=by
  unfold aI
  rw[hrst]
  show a.dims.map (fF a.dims)++[]=a.dims
  rw[H6,List.map_congr_left hself,List.map_id']
 have c1:bz a ⟨a.dims,ts,a.cells⟩=false:=by
  unfold bz
  rw[List.any_eq_false]
  intro x hx h
  rcases hasN_iff.1 h with h|h
  ·exact (hta.1 x hx).2.1 h
  ·exact hno _ (Hh.2 ⟨x,hx,rfl⟩) h
 have c2:bz ⟨a.dims,ts,a.cells⟩ a=false:=by
  unfold bz
  rw[List.any_eq_false]
  intro x hx h
  rcases hasN_iff.1 h with h|h
  ·exact (htb.1 x hx).2.1 h
  ·exact hno _ h (Hh.2 ⟨x,hx,rfl⟩)
 have hgood:(aI a.dims a.dims).any gZ=false:=by
  rw[hds,List.any_eq_false]
  intro d hd
  have:=boundsF_ok.1 ((fU hsA.1).2.2.1 d hd).1
  simp[gZ];omega
 have hcom:fH a ⟨a.dims,ts,a.cells⟩=true:=by
  unfold fH
  rw[List.any_eq_true]
  have h1:=hA.dims.1
  exact⟨at_ a.dims 0,aW (by omega),inD_iff.2 (Hh.2 ⟨_,aW (l:=a.dims) (i:=0) (by omega),rfl⟩)⟩
 have hat:∀ c∈a.cells,∀ d∈a.cells,br a.dims a.dims c d=true→c=d:=fun c hc d hd hm=>by
  have l1:=(cellF_ok.1 (hA.cel c hc)).1
  have l2:=(cellF_ok.1 (hA.cel d hd)).1
  have e:c.at'=d.at':=cF (by rw[l1,l2]) fun i hi=>by
   rw[l1] at hi
   have hin:inD a.dims (at_ a.dims i).name=true:=inD_iff.2 (Hh.2 ⟨_,aW hi,rfl⟩)
   have:=(ig hn).1 hm _ hin hin
   unfold vAt at this
   rw[eD hn hi rfl] at this
   exact this
  obtain⟨i,hi,rfl⟩:=bt hc
  obtain⟨j,hj,rfl⟩:=bt hd
  have hs:=List.pairwise_iff_getElem.1 (bP hA.srt)
  have gi:at_ a.cells i=a.cells[i]:=by simp[at_,hi]
  have gj:at_ a.cells j=a.cells[j]:=by simp[at_,hj]
  rcases Nat.lt_trichotomy i j with h|h|h
  ·exact absurd e (by rw[gi,gj];exact hs i j hi hj h)
  ·rw[h]
  ·exact absurd e.symm (by rw[gi,gj];exact hs j i hj hi h)
 have hrefl:∀ c,br a.dims a.dims c c=true:=fun c=>(ig hn).2 fun n _ _=>rfl
 have hglu:∀ c,fb a.dims a.dims c c=jc c:=fun c=>by
  show Cell.mk (c.at'++af c.at' (aO a.dims a.dims)) (c.vals++c.vals)=_
  rw[hrst]
  show Cell.mk (c.at'++[]) _=_
  rw[H6];rfl
 have hsrt:(a.cells.map jc).Pairwise ltC:=HR.2 (hA.srt.imp fun h=>h)
 have hcells:bI (cB a ⟨a.dims,ts,a.cells⟩)=a.cells.map jc:=by
  refine jb (cH (lS hA hB)) hsrt fun w=>?_
  rw[(bK _).mem_iff,joinC_mem,Hh]
  constructor
  ·rintro ⟨c,hc,d,hd,hm,rfl⟩
   have e:=hat c hc d hd hm
   subst e
   exact⟨c,hc,(hglu c).symm⟩
  ·rintro ⟨c,hc,rfl⟩
   exact⟨c,hc,c,hc,hrefl c,hglu c⟩
 have hfew:(cB a ⟨a.dims,ts,a.cells⟩).length≤4096:=by
  have:=congrArg List.length hcells
  rw[dy,G2] at this
  rw[this];exact hA.few
 have p:Prd a ⟨a.dims,ts,a.cells⟩:=⟨hA,hB,c1,c2,by rw[show aI a.dims (Arr.mk a.dims ts a.cells).dims=a.dims from hds];exact hA.dims.2.1,by show (a.attrs++ts).length≤6;rw[G8,hl];omega,hgood,hfew⟩
 have hX:da a ⟨a.dims,ts,a.cells⟩=⟨a.dims,a.attrs++ts,a.cells.map jc⟩:=Arr.ext hds rfl hcells
 have hj:eC a ⟨a.dims,ts,a.cells⟩=(some ⟨a.dims,a.attrs++ts,a.cells.map jc⟩,0):=by
  unfold eC
  rw[if_neg (fun e=>e.elim (fun e=>e ha) fun e=>e ht),if_neg (by simp[hcom]),if_neg (by simp[c1,c2]),qJ p,hX]
 refine⟨hj,?_⟩
 have hok:=lq p
 rw[hX] at hok
 have hnd:((a.attrs++ts).map Attr.name).Nodup:=(attrsGo_iff.1 (aV hok.sch).2.2.2).2
 rw[tp hok (names:=a.attrs.map Attr.name) (by have:=hsA.2.1;rw[G2];omega) hta.2 fun n hm=>by rw[Hy];exact HB.2 (.inl hm)]
 refine congrArg (fun x=>(some x,(0:Int))) (Arr.ext rfl (pJ hnd fun x hx=>HB.2 (.inl hx)) ?_)
 show bI ((a.cells.map jc).map (pjC ((a.attrs.map Attr.name).map (atX (a.attrs++ts)))))=a.cells
 rw[HM]
 have e:a.cells.map (pjC ((a.attrs.map Attr.name).map (atX (a.attrs++ts))) ∘ jc)=a.cells:=by
  have:∀ c∈a.cells,(pjC ((a.attrs.map Attr.name).map (atX (a.attrs++ts))) ∘ jc) c=c:=fun c hc=>by
   have c2:=(cellF_ok.1 (hA.cel c hc)).2.1
   show Cell.mk c.at' (af (c.vals++c.vals) _)=c
   have:af (c.vals++c.vals) ((a.attrs.map Attr.name).map (atX (a.attrs++ts)))=c.vals:=by
    refine cF (by simp[af,c2]) fun i hi=>?_
    have hi':i<a.attrs.length:=by simpa[af] using hi
    rw[cQ (by simpa using hi'),aK (by simpa using hi'),aK hi']
    have e:atX (a.attrs++ts) (at_ a.attrs i).name=(i:Int):=qH hnd (by rw[G8];omega) (by rw[jy hi'])
    rw[e,Hp,jy (by omega)]
   rw[this]
  rw[List.map_congr_left this,List.map_id']
 rw[e]
 exact tt hA.srt
end
end Go.Proofs.YtpejdgkaapnekaaGreat
namespace Go.Proofs.YtpejdgkaapnekaaGreat
open Go Go.Abs
attribute [local irreducible] aa OkC ah av aq aP
set_option maxRecDepth 10000
theorem BL(ad bd:List Dim)(n:Nat)(h:inD ad (at_ bd n).name=true):(iZ ad bd (n+1)).map aH=(iZ ad bd n).map aH++[[.int .i64 (aY ad (at_ bd n).name)]]:=by
 unfold iZ;rw[ke,if_pos h];simp[aH]
theorem BM(ad bd:List Dim)(n:Nat)(h:inD ad (at_ bd n).name=true):(ja ad bd (n+1)).map aH=(ja ad bd n).map aH++[[.int .i64 (n:Int)]]:=by
 unfold ja;rw[ke,if_pos h];simp[aH]
theorem BN(ad bd:List Dim)(n:Nat)(h:inD ad (at_ bd n).name=false):(fS ad bd (n+1)).map aH=(fS ad bd n).map aH++[[.int .i64 (n:Int)]]:=by
 unfold fS;rw[rC,if_neg (by simp[h])];simp[aH]
theorem Ao(ad bd:List Dim)(n:Nat)(h:inD ad (at_ bd n).name=false):iZ ad bd (n+1)=iZ ad bd n:=by
 unfold iZ;rw[ke,if_neg (by simp[h])]
theorem Ap(ad bd:List Dim)(n:Nat)(h:inD ad (at_ bd n).name=false):ja ad bd (n+1)=ja ad bd n:=by
 unfold ja;rw[ke,if_neg (by simp[h])]
theorem Aq(ad bd:List Dim)(n:Nat)(h:inD ad (at_ bd n).name=true):fS ad bd (n+1)=fS ad bd n:=by
 unfold fS;rw[rC,if_pos h]
def jH(ad bd:List Dim):AV:=.agg [.d (aC (az ad bd)),.d (aC (bH ad bd)),.d (aC (aO ad bd))]
set_option maxHeartbeats 4000000 in
theorem mP(a b:Arr)(hb:b.dims.length≤1000):CallA Tryz.prog 155 [bB a,bB b] [] (jH a.dims b.dims) []:=by
 unfold bB jH
 refine enter ag Tryz.func155 rfl (by decide +kernel) rfl fun hok w0 σ0 φ0 M=>?_
 clear hok
 repeat' (first|(refine h1H ?_;(refine h0H ?_;refine aj J J J J J J J J (CL _ _ _ _) J ?_))|(refine h2H ?_;refine bG (bA (dl:=[10,12,14]) J) (cr ?_))|refine wG ?_|(refine h2H ?_;first|refine aA J (fun h=>?_) (fun h=>?_)|refine eh 3 J (Imp.trans (gm 3 0 10 (k:=1) (b:=8) J J (by kernel_rfl)) (Imp.trans (gm 3 1 12 (k:=1) (b:=8) J J (by kernel_rfl)) (gm 3 2 14 (k:=1) (b:=8) J J (by kernel_rfl)))) [(2,_),(4,_),(5,_),(10,_),(11,_)] (q5Q J J J J J) (fun (bN:Bool×Bool) (p:Nat×Nat×Nat×List (List D)×List (List D)×List (List D))=>[(12,.one (.d (.int .i64 (p.1:Int))))]) (fun (bN:Bool×Bool) (p:Nat×Nat×Nat×List (List D)×List (List D)×List (List D))=>[(3,.box [.own (nmA bN) p.2.1,.own (nmB bN) p.2.1,.own 14 p.2.2.1]),((nmA bN),.row 1 8 p.2.2.2.1),((nmB bN),.row 1 8 p.2.2.2.2.1),(14,.row 1 8 p.2.2.2.2.2),(2,.box [.d .nil,.d .nil,.d .nil]),(0,.box [.d (ar a.dims),.d (al a.attrs),.d (aG a.cells)]),(1,.box [.d (ar b.dims),.d (al b.attrs),.d (aG b.cells)])]) (fun (p:Nat×Nat×Nat×List (List D)×List (List D)×List (List D))=>p.1≤b.dims.length∧p.2.1≤p.1∧p.2.2.1≤p.1∧p.2.2.2.1=(iZ a.dims b.dims p.1).map aH∧p.2.2.2.2.1=(ja a.dims b.dims p.1).map aH∧p.2.2.2.2.2=(fS a.dims b.dims p.1).map aH∧p.2.2.2.1.length=p.2.1∧p.2.2.2.2.1.length=p.2.1∧p.2.2.2.2.2.length=p.2.2.1) (fun (p:Nat×Nat×Nat×List (List D)×List (List D)×List (List D))=>b.dims.length-p.1) (0,0,0,[],[],[]) (q1Q J) wK (fun b y=>by obtain⟨b1,b2⟩:=b;cases b1<;>cases b2<;>first|exact Imp.refl _|exact ei qN (by kernel_rfl)) ?_ (fun p ⟨hk,hn1,hn2,hr1,hr2,hr3,hl1,hl2,hl3⟩=>?_))|(show Exists _;first|refine Exists.intro ((p.1+1,p.2.1+1,p.2.2.1,p.2.2.2.1.take p.2.1++[[.int .i64 (aS (fun d:Dim=>d.name==(at_ b.dims p.1).name) a.dims 0)]],p.2.2.2.2.1.take p.2.1++[[.int .i64 (p.1:Int)]],p.2.2.2.2.2)) (Exists.intro (true,true) ⟨?_,?_,wK,(q1Q J),(q5Q J J J J J)⟩)|refine Exists.intro ((p.1+1,p.2.1,p.2.2.1+1,p.2.2.2.1,p.2.2.2.2.1,p.2.2.2.2.2.take p.2.2.1++[[.int .i64 (p.1:Int)]])) (Exists.intro (false,false) ⟨?_,?_,wK,(q1Q J),(q5Q J J J J J)⟩)))
 all_goals first
  | exact⟨Hi _,Hb _,Hb _,rfl,rfl,rfl,rfl,rfl,rfl⟩
  | (have hlt:p.1<b.dims.length:=by simpa using ‹decide ((p.1:Int)<((b.dims.map aN).length:Int))=true›
     show b.dims.length-(p.1+1)<b.dims.length-p.1
     omega)
  | (have hlt:p.1<b.dims.length:=by simpa using ‹decide ((p.1:Int)<((b.dims.map aN).length:Int))=true›
     have hin:inD a.dims (at_ b.dims p.1).name=true:=h
     refine⟨hlt,by show p.2.1+1≤p.1+1;omega,by show p.2.2.1≤p.1+1;omega,?_,?_,?_,?_,?_,hl3⟩
     ·show List.take p.2.1 p.2.2.2.1++_=(iZ a.dims b.dims (p.1+1)).map aH
      rw[BL _ _ _ hin,← hr1,G1 (by omega)];rfl
     ·show List.take p.2.1 p.2.2.2.2.1++_=(ja a.dims b.dims (p.1+1)).map aH
      rw[BM _ _ _ hin,← hr2,G1 (by omega)]
     ·show p.2.2.2.2.2=(fS a.dims b.dims (p.1+1)).map aH
      rw[Aq _ _ _ hin];exact hr3
     ·show (List.take p.2.1 p.2.2.2.1++_).length=p.2.1+1
      rw[G1 (by omega),G8,hl1];rfl
     ·show (List.take p.2.1 p.2.2.2.2.1++_).length=p.2.1+1
      rw[G1 (by omega),G8,hl2];rfl)
  | (have hlt:p.1<b.dims.length:=by simpa using ‹decide ((p.1:Int)<((b.dims.map aN).length:Int))=true›
     have hin:inD a.dims (at_ b.dims p.1).name=false:=h
     refine⟨hlt,by show p.2.1≤p.1+1;omega,by show p.2.2.1+1≤p.1+1;omega,?_,?_,?_,hl1,hl2,?_⟩
     ·show p.2.2.2.1=(iZ a.dims b.dims (p.1+1)).map aH
      rw[Ao _ _ _ hin];exact hr1
     ·show p.2.2.2.2.1=(ja a.dims b.dims (p.1+1)).map aH
      rw[Ap _ _ _ hin];exact hr2
     ·show List.take p.2.2.1 p.2.2.2.2.2++_=(fS a.dims b.dims (p.1+1)).map aH
      rw[BN _ _ _ hin,← hr3,G1 (by omega)]
     ·show (List.take p.2.2.1 p.2.2.2.2.2++_).length=p.2.2.1+1
      rw[G1 (by omega),G8,hl3];rfl)
  | (have he:p.1=b.dims.length:=by
      have:¬ p.1<b.dims.length:=by simpa using h
      omega
     rw[he] at hr1 hr2 hr3
     show AV.agg [.d (.sl 1 8 (p.2.2.2.1.take p.2.1)),.d (.sl 1 8 (p.2.2.2.2.1.take p.2.1)),.d (.sl 1 8 (p.2.2.2.2.2.take p.2.2.1))]=_
     rw[G1 (by omega),G1 (by omega),G1 (by omega),hr1,hr2,hr3]
     rfl)
theorem GQ(nm:List UInt8)(lo hi:Int):CallA Tryz.prog 213 [.agg [.d (.str nm),.d (.int .i64 lo),.d (.int .i64 hi)]] [] (.one (.d (.bool (decide (hi<lo))))) []:=by
 refine enter ag Tryz.func213 rfl (by decide +kernel) rfl fun hok w0 σ0 φ0 M=>?_
 clear hok
 repeat' (first|refine wG ?_)
 all_goals rfl
theorem D4(ds:List Dim):CallA Tryz.prog 201 [.one (.d (ar ds)),.one (.d (.fn 213 []))] [] (.one (.d (.bool (ds.any gZ)))) []:=by
 refine enter ag Tryz.func201 rfl (by decide +kernel) rfl fun hok w0 σ0 φ0 M=>?_
 clear hok
 repeat' (first|(refine h1H ?_;(refine h0H ?_;refine aj J J J J J J J J (CW _ _ _ (fun d=>GQ _ _ _) _) J ?_))|refine wG ?_)
 all_goals (rw[pP];rfl)
theorem GR(b:Arr)(nm:List UInt8)(t:Int):CallA Tryz.prog 211 [.agg [.d (.str nm),.d (.int .i64 t)],.one (.d (.ptr [ar b.dims,al b.attrs,aG b.cells]))] [] (.one (.d (.bool (hU b nm)))) []:=by
 refine enter ag Tryz.func211 rfl (by decide +kernel) rfl fun hok w0 σ0 φ0 M=>?_
 clear hok
 repeat' (first|(refine h1H ?_;(refine h0H ?_;refine aj J J J J J J J J (Dy b _) J ?_))|refine wG ?_)
 all_goals rfl
theorem GS(b:Arr)(nm:List UInt8)(t:Int):CallA Tryz.prog 212 [.agg [.d (.str nm),.d (.int .i64 t)],.one (.d (.ptr [ar b.dims,al b.attrs,aG b.cells]))] [] (.one (.d (.bool (hU b nm)))) []:=by
 refine enter ag Tryz.func212 rfl (by decide +kernel) rfl fun hok w0 σ0 φ0 M=>?_
 clear hok
 repeat' (first|(refine h1H ?_;(refine h0H ?_;refine aj J J J J J J J J (Dy b _) J ?_))|refine wG ?_)
 all_goals rfl
theorem D5(b:Arr)(l:List Attr):CallA Tryz.prog 210 [.one (.d (al l)),.one (.d (.fn 211 [.ptr [ar b.dims,al b.attrs,aG b.cells]]))] [] (.one (.d (.bool (l.any fun x=>hU b x.name)))) []:=by
 refine enter ag Tryz.func210 rfl (by decide +kernel) rfl fun hok w0 σ0 φ0 M=>?_
 clear hok
 repeat' (first|(refine h1H ?_;(refine h0H ?_;refine aj J J J J J J J J (Aw _ _ _ (fun d=>GR b _ _) _) J ?_))|refine wG ?_)
 all_goals (rw[pP])
theorem D6(b:Arr)(l:List Attr):CallA Tryz.prog 210 [.one (.d (al l)),.one (.d (.fn 212 [.ptr [ar b.dims,al b.attrs,aG b.cells]]))] [] (.one (.d (.bool (l.any fun x=>hU b x.name)))) []:=by
 refine enter ag Tryz.func210 rfl (by decide +kernel) rfl fun hok w0 σ0 φ0 M=>?_
 clear hok
 repeat' (first|(refine h1H ?_;(refine h0H ?_;refine aj J J J J J J J J (Aw _ _ _ (fun d=>GS b _ _) _) J ?_))|refine wG ?_)
 all_goals (rw[pP])
theorem Bv(b:Arr)(l:List Attr)(e:Bool)(h:(l.any fun x=>hU b x.name)=e):CallA Tryz.prog 210 [.one (.d (al l)),.one (.d (.fn 211 [.ptr [ar b.dims,al b.attrs,aG b.cells]]))] [] (.one (.d (.bool e))) []:=by
 subst h;exact D5 b l
theorem E6(a b:Arr):CallA Tryz.prog 156 [bB a,bB b] [] (.one (.d (.bool (bz a b||bz b a)))) []:=by
 unfold bB
 cases h1:a.attrs.any fun x=>hU b x.name with
 | true =>
   have e:(bz a b||bz b a)=true:=by unfold bz;rw[h1];rfl
   rw[e]
   refine enter ag Tryz.func156 rfl (by decide +kernel) rfl fun hok w0 σ0 φ0 M=>?_
   clear hok
   repeat' (first|(refine h1H ?_;(refine Dz ?_;first|refine bX (bA (dl:=[1]) J) ?_|refine bX (bA (dl:=[0]) J) ?_))|(refine h1H ?_;(refine h0H ?_;refine aj J J J J J J J J (Bv b a.attrs _ h1) J ?_))|refine wG ?_)
   all_goals rfl
 | false =>
   have e:(bz a b||bz b a)=(b.attrs.any fun x=>hU a x.name):=by unfold bz;rw[h1];rfl
   rw[e]
   refine enter ag Tryz.func156 rfl (by decide +kernel) rfl fun hok w0 σ0 φ0 M=>?_
   clear hok
   repeat' (first|(refine h1H ?_;(refine Dz ?_;first|refine bX (bA (dl:=[1]) J) ?_|refine bX (bA (dl:=[0]) J) ?_))|(refine h1H ?_;(refine h0H ?_;first|refine aj J J J J J J J J (Bv b a.attrs _ h1) J ?_|refine aj J J J J J J J J (D6 a b.attrs) J ?_))|refine wG ?_)
   all_goals rfl
end Go.Proofs.YtpejdgkaapnekaaGreat
namespace Go.Abs
open Go
variable {P:Program} {V:Env} {T:Tab} {c:Ctx} {st:St} {σ σ':Sig} {φ φ':Pl} {w w':World}
def RowV(σ:Sig)(w:World)(k b:Nat)(xs:List (List D))(q:Nat×Nat):Prop:=ObjRep σ (fun _=>some q) [] w 0 (.row k b xs)
theorem RowV.of{k b id:Nat}{xs:List (List D)}{q:Nat×Nat}{sto:Sto}(h:ObjRep σ φ sto w id (.row k b xs))(hp:φ id=some q):RowV σ w k b xs q:=by
 rcases h with⟨_,h⟩|⟨B,cap,arr,t,vs,h1,h2⟩
 ·rw[hp] at h;cases h
 ·rw[hp] at h1;cases h1
  exact .inr ⟨B,cap,arr,t,vs,rfl,h2⟩
theorem RowV.to{k b id:Nat}{xs:List (List D)}{q:Nat×Nat}{sto:Sto}(h:RowV σ w k b xs q)(hp:φ id=some q):ObjRep σ φ sto w id (.row k b xs):=by
 rcases h with⟨_,h⟩|⟨B,cap,arr,t,vs,h1,h2⟩
 ·cases h
 ·cases h1
  exact .inr ⟨B,cap,arr,t,vs,hp,h2⟩
theorem RowV.sig{k b:Nat}{xs:List (List D)}{q:Nat×Nat}(h:RowV σ w k b xs q):σ q.1=none:=by
 rcases h with⟨_,h⟩|⟨B,cap,arr,t,vs,h1,h2,_,_,_,_,_,_,_,h3⟩
 ·cases h
 ·cases h1;exact h3
theorem RowV.cells{k b:Nat}{xs:List (List D)}{q:Nat×Nat}(h:RowV σ w k b xs q):∃ arr t,w.heap[q.1]?=some (.cells arr t (0,0)):=by
 rcases h with⟨_,h⟩|⟨B,cap,arr,t,vs,h1,h2,_⟩
 ·cases h
 ·cases h1;exact⟨arr,t,h2⟩
theorem RowV.len{k b:Nat}{xs:List (List D)}{q:Nat×Nat}(h:RowV σ w k b xs q):xs.length≤q.2:=by
 rcases h with⟨_,h⟩|⟨B,cap,arr,t,vs,h1,h2,_,h3,_⟩
 ·cases h
 ·cases h1;exact h3
theorem RowV.lt{k b:Nat}{xs:List (List D)}{q:Nat×Nat}(h:RowV σ w k b xs q):q.1<w.heap.size:=by
 obtain⟨_,_,h⟩:=h.cells
 exact (Hk.1 h).1
theorem RowV.keep{k b:Nat}{xs:List (List D)}{q:Nat×Nat}(h:RowV σ w k b xs q)(hl:σ.le σ')(hw:w'.heap[q.1]?=w.heap[q.1]?)(hs:σ' q.1=none):RowV σ' w' k b xs q:=by
 rcases h with⟨_,h⟩|⟨B,cap,arr,t,vs,h1,h2,h3,h4,h5,h6,h7,h8,h9,h10⟩
 ·cases h
 ·cases h1
  exact .inr ⟨B,cap,arr,t,vs,rfl,hw.trans h2,h3,h4,h5,h6,h7,h8,fun i j x d hx hd=>(h9 i j x d hx hd).mono hl,hs⟩
structure Al (Nw:Nat→Prop) (σ:Sig) (φ:Pl) (sto:Sto) (w:World) (k b B:Nat) (hole:Nat→Prop) (ks:List (List Int)) (R:List Int→List (List D)) (bs:Nat→Nat×Nat) (ents:List MapEntry):Prop where
 heap:w.heap[B]?=some (.map ents.toArray ents.length)
 len:ks.length=ents.length
 key:∀ (i:Nat) (x:List Int) (e:MapEntry),ks[i]?=some x→ents[i]?=some e→RepD σ true (dW x) e.key∧e.born=i
 row:∀ (i:Nat) (x:List Int) (e:MapEntry),¬ hole i→ks[i]?=some x→ents[i]?=some e →
  e.val=.slice (some ⟨(bs i).1,0,none⟩) (R x).length (bs i).2∧RowV σ w k b (R x) (bs i)∧Nw (bs i).1∧∀ id o p,look sto id=some o→φ id=some p→p.1≠(bs i).1
 dis:∀ i j,i<ks.length→j<ks.length→i≠j→¬ hole i→¬ hole j→(bs i).1≠(bs j).1
 own:∀ id o p,look sto id=some o→φ id=some p→p.1≠B
 nw:Nw B
variable {Nw hole:Nat→Prop} {k b B:Nat} {ks:List (List Int)} {R:List Int→List (List D)} {bs:Nat→Nat×Nat} {ents:List MapEntry} {sto sto':Sto}
theorem Al.lt(h:Al Nw σ φ sto w k b B hole ks R bs ents):B<w.heap.size:=(Hk.1 h.heap).1
theorem Al.sub(h:Al Nw σ φ sto w k b B hole ks R bs ents)(hs:∀ i e,look sto' i=some e→look sto i=some e):Al Nw σ φ sto' w k b B hole ks R bs ents :=
 ⟨h.heap,h.len,h.key,fun i x e h1 h2 h3=>let ⟨a,b,c,d⟩:=h.row i x e h1 h2 h3;⟨a,b,c,fun id o p ho hp=>d id o p (hs _ _ ho) hp⟩,h.dis,fun id o p ho hp=>h.own id o p (hs _ _ ho) hp,h.nw⟩
theorem Al.keep{n:Nat}{rd:Option Nat}{mk:List Deferred}{st':St}{a':Act}(h:Al Nw σ φ sto w k b B hole ks R bs ents)(h2:Rel ⟨w,σ,φ,MOf φ sto,n,rd,mk⟩ st' a' w' σ' φ') :
  Al Nw σ' φ' st'.sto w' k b B hole ks R bs ents:=by
 have hblk:∀ X,X<w.heap.size→(∀ id o p,look sto id=some o→φ id=some p→p.1≠X)→w'.heap[X]?=w.heap[X]?:=fun X hX hno =>
  h2.fra.block X hX fun ⟨id,e,p,h3,h4,h5⟩=>hno id e p h3 h4 h5
 have hsig:∀ X,X<w.heap.size→(∀ id o p,look sto id=some o→φ id=some p→p.1≠X)→σ X=none→σ' X=none:=fun X hX hno hn=>by
  cases hx:σ' X with
  | none=>rfl
  | some cs =>
    rcases h2.fresh X (by rw[hx];simp) with h3|h3|⟨id,e,p,h3,h4,h5⟩
    ·exact absurd hn h3
    ·simp only at h3;omega
    ·exact absurd h5 (hno id e p h3 h4)
 have hown:∀ X,X<w.heap.size→(∀ id o p,look sto id=some o→φ id=some p→p.1≠X)→∀ id o p,look st'.sto id=some o→φ' id=some p→p.1≠X:=fun X hX hno id o p ho hp=>by
  rcases h2.mine id o p ho hp with h3|⟨id',e,p',h3,h4,h5⟩
  ·simp only at h3;omega
  ·rw[← h5];exact hno id' e p' h3 h4
 refine⟨(hblk B h.lt h.own).trans h.heap,h.len,fun i x e h3 h4=>⟨(h.key i x e h3 h4).1.mono h2.le,(h.key i x e h3 h4).2⟩,fun i x e h3 h4 h5=>?_,h.dis,hown B h.lt h.own,h.nw⟩
 obtain⟨h6,h7,h8,h9⟩:=h.row i x e h3 h4 h5
 exact⟨h6,h7.keep h2.le (hblk _ h7.lt h9) (hsig _ h7.lt h9 h7.sig),h8,hown _ h7.lt h9⟩
theorem qT{vg:Bool}{f:Nat→D}:∀ {ks:List (List Int)} {ents:List MapEntry} {n:Nat},ks.length=ents.length→(∀ (i:Nat) (x:List Int) (e:MapEntry),ks[i]?=some x→ents[i]?=some e→RepD σ true (dW x) e.key∧e.born=n+i) →
  (∀ (i:Nat) (e:MapEntry),ents[i]?=some e→RepD σ vg [f (n+i)] e.val)→RepE σ true vg n (dC f ks n) ents
 | [],[],_,_,_,_=>trivial
 | x::ks,e::ents,n,hl,h1,h2=>by
   have h3:=h1 0 x e rfl rfl
   refine⟨h3.1,h2 0 e rfl,h3.2,qT (by simpa using hl) (fun i x e hx he=>?_) fun i e he=>?_⟩
   ·have:=h1 (i+1) x e (by simpa using hx) (by simpa using he)
    exact⟨this.1,by omega⟩
   ·have:=h2 (i+1) e (by simpa using he)
    rwa [show n+1+i=n+(i+1) by omega]
 | [],_::_,_,hl,_,_=>by simp at hl
 | _::_,[],_,hl,_,_=>by simp at hl
theorem tS{f:Nat→D}{x:List Int}(h4:x.length≤4):∀ {ks:List (List Int)} {n i:Nat},(∀ k∈ks,k.length=x.length)→∀ j,cA x ks n=some j→∃ m,j=n+m∧bC (dW x) (dC f ks n) i=some (i+m,[f j])
 | [],n,i,_,j,h=>by cases h
 | k::r,n,i,h,j,hj=>by
   have e:=pe (h k Hc).symm h4
   have e2:(k==x)=(x==k):=by rw[HK];simp only[beq_iff_eq];exact eq_comm
   simp only[cA,e2] at hj
   simp only[dC,bC,e]
   cases hb:(x==k) with
   | true =>
     rw[hb] at hj
     simp at hj
     subst hj
     exact⟨0,rfl,rfl⟩
   | false =>
     rw[hb] at hj
     obtain⟨m,h5,h6⟩:=tS (f:=f) h4 (ks:=r) (n:=n+1) (i:=i+1) (fun y hy=>h y (G9 _ hy)) j (by simpa using hj)
     exact⟨m+1,by omega,by simp only[HV];rw[h6];congr 2;omega⟩
theorem BX{x:List Int}:All2 a8 pk (dW x):=fA (ks:=pk) (es:=[(dW x,[])]) rfl _ (List.mem_singleton.2 rfl)
def ni(kv:Value)(n:Nat):MapEntry:={ key:=kv,val:=.slice none 0 0,born:=n }
theorem nj{α:Type}{f:α→α}:∀ {l:List α} {j:Nat} {e:α},l[j]?=some e→l.modify j f=l.set j (f e)
 | [],_,_,h=>by simp at h
 | a::l,0,e,h=>by simp at h;subst h;rfl
 | a::l,j+1,e,h=>by
   have:=nj (f:=f) (l:=l) (j:=j) (e:=e) (by simpa using h)
   simp[List.modify_succ_cons,this]
theorem y6{α:Type}:∀ {l:List α} {j:Nat} {e:α},l[j]?=some e→l.set j e=l
 | [],_,_,h=>by simp at h
 | a::l,0,e,h=>by simp at h;subst h;rfl
 | a::l,j+1,e,h=>by simp[y6 (l:=l) (j:=j) (e:=e) (by simpa using h)]
theorem iS{x:List Int}:∀ {ks:List (List Int)} {n j:Nat},cA x ks n=some j→n≤j∧ks[j-n]?=some x
 | [],_,_,h=>by cases h
 | y::r,n,j,h=>by
   simp only[cA] at h
   split at h
   ·rename_i hb
    cases h
    exact⟨Hb _,by simp[eq_of_beq hb]⟩
   ·obtain⟨h1,h2⟩:=iS h
    refine⟨by omega,?_⟩
    rw[show j-n=(j-(n+1))+1 by omega]
    simpa using h2
theorem sD{m:MTy}{t:TypeId}(hM:MOk P t m)(hms:m.ks=pk)(hkg:m.kg=true)(hvg:m.vg=false)(hz:m.z=[.nil])(h:Al Nw σ φ sto w k b B (fun _=>False) ks R bs ents){x:List Int}{kv:Value}(hk:RepD σ true (dW x) kv)(h4:x.length≤4)(hks:∀ y∈ks,y.length=x.length) :
  (∀ j,cA x ks 0=some j→∃ e,ents[j]?=some e∧(Instr.mapEntry t (.map (some B)) kv).run P w=.ok (.tuple #[e.val,goInt j]) { w with heap:=w.heap.setIfInBounds B (.map ents.toArray ents.length) }) ∧
  (cA x ks 0=none→(Instr.mapEntry t (.map (some B)) kv).run P w=.ok (.tuple #[.slice none 0 0,goInt ents.length]) { w with heap:=w.heap.setIfInBounds B (.map (ents++[ni kv ents.length]).toArray (ents++[ni kv ents.length]).length) }):=by
 have hE:RepE σ true false 0 (dC (fun i=>.raw ((ents[i]?.map (·.val)).getD default)) ks 0) ents:=by
  refine qT h.len (fun i x e h1 h2=>?_) fun i e h2=>?_
  ·have:=h.key i x e h1 h2
   exact⟨this.1,by omega⟩
  ·have hi:i<ks.length:=by rw[h.len];exact (G7.1 h2).1
   have h5:=(h.row i _ e (fun h=>h) (He hi) h2).1
   rw[Hn,h2]
   exact⟨.raw (by show e.val.oneCell=true;rw[h5];rfl),trivial⟩
 have hf:All2 a8 m.ks (dW x):=by rw[hms];exact BX
 have hall:∀ p∈dC (fun i=>D.raw ((ents[i]?.map (·.val)).getD default)) ks 0,All2 a8 m.ks p.1:=by rw[hms];exact fA nk
 have hkey:KeyOk P m.kt true m.ks:=by have:=hM.key;rw[hkg] at this;exact this
 have hchk:=fun em=>jT hkey hk hf em w
 have hget:=MapKept.run_getObj_map (P:=P) h.heap
 have hset:=fun o=>MapKept.run_setObj_map (P:=P) o h.heap
 obtain⟨iz,zv,hi,hzz,hzr⟩:=hM.zero
 have hzv:zv=.slice none 0 0:=by
  have:=hzr σ
  rw[hvg,hz] at this
  have h6:=this.1
  cases h6;rfl
 have hrun:=kO hkey hk hf w hE hall
 have hW:=qU (f:=fun i=>D.raw ((ents[i]?.map (·.val)).getD default)) h4 (ks:=ks) (n:=0) (i:=0) hks
 constructor
 ·intro j hj
  obtain⟨mm,hm1,hm2⟩:=tS (f:=fun i=>D.raw ((ents[i]?.map (·.val)).getD default)) h4 (n:=0) (i:=0) hks j hj
  rcases hrun with⟨h1,_⟩|⟨j',e,vd,h1,h2,h3,h5⟩
  ·rw[hm2] at h1;cases h1
  rw[hm2] at h1
  simp only[G4,HD] at h1
  have hjj:j'=j:=by omega
  subst hjj
  refine⟨e,h3,?_⟩
  have hx:ks[j']?=some x:=(iS hj).2
  have hkk:=h.key j' x e hx h3
  have hsame:e.key=kv:=vQ hf hf hkk.1 hk (by rw[pe rfl h4];simp)
  have hstay:(Instr.keyThatStays kv kv).run P w=.ok kv w:=by
   unfold Instr.keyThatStays
   simp[mC hf hk]
  have hmod:ents.toArray.modify j' (fun e=>{ e with key:=kv })=ents.toArray:=by
   apply Array.ext'
   rw[Array.toList_modify,List.toList_toArray,nj h3]
   have:({ e with key:=kv }:MapEntry)=e:=by rw[← hsame]
   show ents.set j' { e with key:=kv }=ents
   rw[this]
   exact y6 h3
  have hold:((ents[j']?.map (·.key)).getD kv)=kv:=by rw[h3];simp[hsame]
  simp only[Instr.mapEntry,Hj,HZ hM.und,Ha,hget,Hr,hchk,h2,List.getElem?_toArray,hold,hstay,hset,hmod]
  have hborn2:((ents[j']?.map fun e=>((e.born:Nat):Int)).getD 0)=(j':Int):=by rw[h3];simp[hkk.2]
  rw[hborn2]
 ·intro hn
  have h0:=hW.1 hn
  rcases hrun with⟨_,h2⟩|⟨j',e,vd,h1,_⟩
  ·simp only[Instr.mapEntry,Hj,HZ hM.und,Ha,hget,Hr,hchk,h2,cS hi hzz,hset,hzv,List.push_toArray,G8,List.length_singleton,ni]
  ·rw[h0] at h1;cases h1
theorem nn:∀ {ents:List MapEntry} {n j:Nat},(∀ (i:Nat) (e:MapEntry),ents[i]?=some e→e.born=n+i)→j<ents.length→ents.findIdx? (fun e=>((e.born:Nat):Int)==((n+j:Nat):Int))=some j
 | [],n,j,_,h=>by simp at h
 | e::r,n,0,h,_=>by
   have:=h 0 e rfl
   simp[List.findIdx?_cons,this]
 | e::r,n,j+1,h,hl=>by
   have h0:=h 0 e rfl
   have hb:(((e.born:Nat):Int)==((n+(j+1):Nat):Int))=false:=by
    simp only[beq_eq_false_iff_ne,ne_eq,Int.natCast_inj];omega
   have ih:=nn (ents:=r) (n:=n+1) (j:=j) (fun i e he=>by have:=h (i+1) e (by simpa using he);omega) (by simpa using hl)
   rw[List.findIdx?_cons,hb,show n+(j+1)=n+1+j by omega,ih]
   rfl
theorem p5{t:TypeId}{v:Value}{j:Nat}{e:MapEntry}(hh:w.heap[B]?=some (.map ents.toArray ents.length))(hb:∀ (i:Nat) (e:MapEntry),ents[i]?=some e→e.born=i)(he:ents[j]?=some e) :
  (Instr.entryStore t (.map (some B)) (goInt j) v).run P w=.ok () { w with heap:=w.heap.setIfInBounds B (.map (ents.set j { e with val:=v }).toArray (ents.set j { e with val:=v }).length) }:=by
 have hi:ents.toArray.findIdx? (fun e=>((e.born:Nat):Int)==((j:Nat):Int))=some j:=by
  have:=nn (ents:=ents) (n:=0) (j:=j) (fun i e he=>by rw[Hn];exact hb i e he) (G7.1 he).1
  rw[Hn] at this
  simpa using this
 have hm:ents.toArray.modify j (fun e=>{ e with val:=v })=(ents.set j { e with val:=v }).toArray:=by
  apply Array.ext'
  rw[Array.toList_modify,List.toList_toArray,nj he]
 simp[Instr.entryStore,MapKept.run_getObj_map hh,asInt,asIntOf,goInt,hi,hm,MapKept.run_setObj_map _ hh,Result.andThen]
theorem Rel.setMap{st:St}{a:Act}(hr:Rel c st a w σ φ){ob o2:Obj}(hh:w.heap[B]?=some ob)(hnc:∀ cs t f,ob≠.cells cs t f)(hown:∀ id o p,look st.sto id=some o→φ id=some p→p.1≠B)(hn:c.w0.heap.size≤B∨c.M B) :
  Rel c st a { w with heap:=w.heap.setIfInBounds B o2 } σ φ:=by
 refine⟨hr.le,hr.fresh,⟨fun b cs hb=>?_,fun i e hi=>?_,hr.inv.inj⟩,hr.mine,hr.slot,hr.defers,hr.size,⟨hr.fra.os,hr.fra.tape,hr.fra.output,?_,hr.fra.drawn,fun b hb hm=>?_⟩,hr.pin⟩
 ·obtain⟨t,f,h1⟩:=hr.inv.sig b cs hb
  refine⟨t,f,?_⟩
  have hne:B≠b:=by rintro rfl;rw[hh] at h1;cases h1;exact hnc _ _ _ rfl
  simp only[Hs hne];exact h1
 ·exact (hr.inv.obj i e hi).ext (X:=fun _=>False) (Sig.le_refl _) (Ext.refl _ _) (fun j hj=>hj.elim) rfl fun B' cc hB'=>⟨by
   have hne:B≠B':=fun e=>hown i _ _ hi hB' e.symm
   simp only[Hs hne],rfl⟩
 ·simp only[Array.size_setIfInBounds];exact hr.fra.size
 ·have hne:B≠b:=by
   rintro rfl
   rcases hn with h|h
   ·omega
   ·exact hm h
  simp only[Hs hne];exact hr.fra.block b hb hm
theorem Al.setMap{ents2:List MapEntry}{ks2:List (List Int)}{hole2:Nat→Prop}(h:Al Nw σ φ sto w k b B hole ks R bs ents)(hl:ks2.length=ents2.length)
  (hk:∀ (i:Nat) (x:List Int) (e:MapEntry),ks2[i]?=some x→ents2[i]?=some e→RepD σ true (dW x) e.key∧e.born=i)
  (hrow:∀ (i:Nat) (x:List Int) (e:MapEntry),¬ hole2 i→ks2[i]?=some x→ents2[i]?=some e→¬ hole i∧ks[i]?=some x∧ents[i]?=some e) (hdis:∀ i,i<ks2.length→¬ hole2 i→i<ks.length∧¬ hole i) :
  Al Nw σ φ sto { w with heap:=w.heap.setIfInBounds B (.map ents2.toArray ents2.length) } k b B hole2 ks2 R bs ents2:=by
 refine⟨by simp[h.lt],hl,hk,fun i x e h1 h2 h3=>?_,fun i j hi hj hne h1 h2=>h.dis i j (hdis i hi h1).1 (hdis j hj h2).1 hne (hdis i hi h1).2 (hdis j hj h2).2,h.own,h.nw⟩
 obtain⟨h4,h5,h6⟩:=hrow i x e h1 h2 h3
 obtain⟨h7,h8,h9,h10⟩:=h.row i x e h4 h5 h6
 refine⟨h7,h8.keep (Sig.le_refl _) ?_ h8.sig,h9,h10⟩
 have hne:B≠(bs i).1:=by
  intro e
  obtain⟨arr,t,h11⟩:=h8.cells
  rw[← e,h.heap] at h11
  cases h11
 simp only[Hs hne]
theorem Rel.adoptRow{st:St}{a:Act}{id:Nat}{xs:List (List D)}{q:Nat×Nat}(hr:Rel c st a w σ φ)(hv:RowV σ w k b xs q)(hlt:Nat.blt id 1000000=true)(hm1:aQ id st.fr=false)(hm2:aF id st.sto=false)
  (hown:∀ id o p,look st.sto id=some o→φ id=some p→p.1≠q.1) (hn:c.w0.heap.size≤q.1∨c.M q.1):Rel c ⟨st.fr,(id,.row k b xs)::st.sto⟩ a w σ (bo φ id (some q)):=by
 have hE:Ext (·=id) φ (bo φ id (some q)) st.sto ((id,.row k b xs)::st.sto):=Ext.add
 refine⟨hr.le,hr.fresh,⟨hr.inv.sig,fun i e hi=>?_,fun i i' e e' p p' hi hi' hne hp hp'=>?_⟩,fun i e p hi hp=>?_,fun t v hv=>?_,hr.defers,hr.size,hr.fra,fun i hi=>by
  have:i≠id:=by have:=G5 hlt;omega
  rw[au this];exact hr.pin i hi⟩
 ·rcases ab hi with⟨rfl,rfl⟩|⟨hne,hi⟩
  ·exact hv.to ai
  ·exact (hr.inv.obj _ _ hi).ext (Sig.le_refl _) hE (fun j hj=>by cases hj;exact dr hm2 hi) (au hne) fun _ _ _=>⟨rfl,rfl⟩
 ·rcases ab hi with⟨rfl,rfl⟩|⟨_,_⟩
  ·rw[ai] at hp;cases hp
   rcases ab hi' with⟨rfl,rfl⟩|⟨hn',hi'⟩
   ·exact absurd rfl hne
   ·rw[au hn'] at hp'
    exact fun e=>hown _ _ _ hi' hp' e.symm
  ·rename_i hn1 hi1
   rcases ab hi' with⟨h3,h4⟩|⟨hn',hi'⟩
   ·subst h3;subst h4
    rw[ai] at hp';cases hp'
    rw[au hn1] at hp
    exact hown _ _ _ hi1 hp
   ·rw[au hn1] at hp;rw[au hn'] at hp'
    exact hr.inv.inj _ _ _ _ _ _ hi1 hi' hne hp hp'
 ·rcases ab hi with⟨rfl,rfl⟩|⟨hn',hi⟩
  ·rw[ai] at hp;cases hp
   exact hn
  ·rw[au hn'] at hp
   exact hr.mine _ _ _ hi hp
 ·obtain⟨u,hu,hru⟩:=hr.slot t v hv
  exact⟨u,hu,hru.ext (Sig.le_refl _) hE fun j hj=>by cases hj;exact ch hm1 hv⟩
theorem Rel.sealBlock{st:St}{a:Act}{X:Nat}{arr:Array Value}{t:TypeId}(hr:Rel c st a w σ φ)(hh:w.heap[X]?=some (.cells arr t (0,0)))(hs:σ X=none)(hown:∀ id o p,look st.sto id=some o→φ id=some p→p.1≠X)(hn:c.w0.heap.size≤X∨c.M X) :
  Rel c st a w (cU σ X arr) φ:=by
 have hle:σ.le (cU σ X arr):=fZ (.inl hs)
 have hval:∀ b,b≠X→cU σ X arr b=σ b:=fun b hb=>by simp[cU,hb]
 refine⟨Sig.le_trans hr.le hle,fun b hb=>?_,⟨fun b cs hb=>?_,fun i e hi=>?_,hr.inv.inj⟩,hr.mine,fun s v hv=>?_,hr.defers,hr.size,hr.fra,hr.pin⟩
 ·by_cases he:b=X
  ·subst he;exact .inr hn
  ·rw[hval b he] at hb;exact hr.fresh b hb
 ·by_cases he:b=X
  ·subst he
   simp[cU] at hb
   subst hb
   exact⟨t,_,hh⟩
  ·rw[hval b he] at hb;exact hr.inv.sig b cs hb
 ·exact (hr.inv.obj i e hi).ext (X:=fun _=>False) hle (Ext.refl _ _) (fun j hj=>hj.elim) rfl fun B' cc hB'=>⟨rfl,by rw[hval _ (hown i e _ hi hB')]⟩
 ·obtain⟨u,hu,hru⟩:=hr.slot s v hv
  exact⟨u,hu,hru.ext hle (Ext.refl _ _) fun j hj=>hj.elim⟩
theorem gL{F:Fence}{n:Nat}{ops:Array Oper}{Q:Exit→Act→World→Prop}:∀ {l1 l2:List Oper} {a:Act} {w:World},wpListIn F n P ops (Exit.then (fun a w=>wpListIn F n P ops Q l2 a w) (fun _ _ _=>False)) l1 a w→wpListIn F n P ops Q (l1++l2) a w
 | [],l2,a,w,h=>h
 | o::l1,l2,a,w,h=>by
   simp only[wpListIn,HF] at h ⊢
   split
   ·rename_i hw
    rw[if_pos hw] at h
    unfold Oper.wpIn at *
    refine⟨h.1,?_⟩
    have hh:=h.2
    have ih:=fun a w=>gL (l1:=l1) (l2:=l2) (a:=a) (w:=w) (F:=F) (n:=n) (ops:=ops) (Q:=Q)
    generalize (o.semAt F.round a.eval).run P w=r at *
    cases r with
    | ok x w' =>
      cases x<;>simp only[Oper.uponIn] at hh ⊢ <;>
       first
        | exact ih _ _ hh
        | exact⟨hh.1,CallsIn.mono hh.2 (fun e w'' he=>by cases e<;>first|exact ih _ _ he|exact he.elim|exact (he.elim fun _ h=>h.elim fun _ h=>h.elim))⟩
        | exact⟨hh.1,RowsIn.mono hh.2 (fun _ _ he=>ih _ _ he)⟩
        | exact⟨hh.1,RoundIn.mono hh.2 (fun e w'' he=>by cases e<;>first|exact ih _ _ he|exact he.elim|exact (he.elim fun _ h=>h.elim fun _ h=>h.elim))⟩
    | halt x w'=>cases x<;>simp only[Oper.uponIn] at hh ⊢<;>exact hh.elim
   ·rename_i hw
    rw[if_neg hw] at h
    exact⟨h.1,gL h.2⟩
theorem xg{F:Fence}{kk:Nat}{body:Code}{Q:Exit→Act→World→Prop}{a:Act}(J:Nat→Act→World→Prop)(n0:Nat)(h0:J n0 a w)
  (hround:∀ n a w,J n a w→body.wpIn F kk P (Exit.then (fun a' w'=>∃ m,m<n∧J m a' w') Q) a w):(Code.loop body).wpIn F kk P Q a w:=by
 have hμ:∀ (a:Act) (w:World),∃ m:Nat,∀ n,J n a w→m≤n∧J m a w:=by
  intro a w
  by_cases hex:∃ n,J n a w
  ·obtain⟨n,hn⟩:=hex
   induction n using Nat.strongRecOn with
   | _ n ih =>
     by_cases hs:∃ m,m<n∧J m a w
     ·obtain⟨m,hm,h⟩:=hs
      exact ih m hm h
     ·refine⟨n,fun k hk=>⟨?_,hn⟩⟩
      rcases HG k n with h|h
      ·exact absurd ⟨k,h,hk⟩ hs
      ·exact h
  ·exact⟨0,fun n hn=>absurd ⟨n,hn⟩ hex⟩
 have hμ':=fun a=>Classical.axiomOfChoice (hμ a)
 obtain⟨μ,hμ''⟩:=Classical.axiomOfChoice hμ'
 refine wpIn_loop (fun a w=>∃ n,J n a w) μ ⟨n0,h0⟩ ?_
 rintro a w ⟨n,hn⟩
 obtain⟨hle,hJ⟩:=hμ'' a w n hn
 refine wpIn_mono (hround _ a w hJ) fun e a' w' h=>?_
 cases e with
 | normal =>
   obtain⟨m,hm,hJ'⟩:=h
   have:=hμ'' a' w' m hJ'
   exact⟨⟨m,hJ'⟩,by omega⟩
 | _=>exact h
theorem Al.sealB{st:St}{a:Act}(hr:Rel c st a w σ φ)(h:Al (fun X=>c.w0.heap.size≤X∨c.M X) σ φ st.sto w k b B (fun _=>False) ks R bs ents):∀ m,m≤ks.length →
  ∃ σ',Rel c st a w σ' φ∧σ.le σ'∧(∀ i,m≤i→i<ks.length→σ' (bs i).1=none)∧∀ (i:Nat) (x:List Int) (e:MapEntry),i<m→ks[i]?=some x→ents[i]?=some e→Rep σ' (.sl k b (R x)) e.val
 | 0,_=>⟨σ,hr,Sig.le_refl _,fun i _ hi=>by
   have he:i<ents.length:=by rw[← h.len];exact hi
   exact (h.row i _ _ (fun h=>h) (He hi) (He he)).2.1.sig,fun i x e hi=>by omega⟩
 | m+1,hm=>by
   obtain⟨σ1,h1,h2,h3,h4⟩:=Al.sealB hr h m (by omega)
   have he:m<ents.length:=by rw[← h.len];omega
   have hx:=He (l:=ks) (i:=m) (by omega)
   have hy:=He (l:=ents) (i:=m) he
   obtain⟨h5,h6,h7,h8⟩:=h.row m _ _ (fun h=>h) hx hy
   have hs:=h3 m (Hb _) (by omega)
   have h6':=h6
   rcases h6' with⟨_,h6'⟩|⟨X,cap,arr,t,vs,h9,h10,h11,h12,h13,h14,h15,h16,h17,h18⟩
   ·cases h6'
   have hX:bs m=(X,cap):=Option.some.inj h9
   simp only[hX] at h5 h7 h8 hs
   refine⟨cU σ1 X arr,h1.sealBlock h10 hs h8 h7,Sig.le_trans h2 (fZ (.inl hs)),fun i hi hi2=>?_,fun i x e hi hxi hei=>?_⟩
   ·have hne:(bs i).1≠X:=by
     have:=h.dis i m hi2 (by omega) (by omega) (fun h=>h) (fun h=>h)
     rw[hX] at this;exact this
    simp only[cU,hne,if_false]
    exact h3 i (by omega) hi2
   ·by_cases him:i=m
    ·subst him
     rw[hx] at hxi;cases hxi
     rw[hy] at hei;cases hei
     rw[h5]
     refine .sl vs h12 h13 h14 h15 (fun _=>⟨X,0,arr,rfl,by simp[cU],fun i j hi hj=>by rw[Hn];exact h16 i j hi hj⟩) fun i j x d hx hd=>(h17 i j x d hx hd).mono (Sig.le_trans h2 (fZ (.inl hs)))
    ·exact (h4 i x e (by omega) hxi hei).mono (fZ (.inl hs))
theorem Al.close{fr:List (Nat×AV)}{a:Act}{sm mid:Nat}{ks:List (List Int)}(hr:Rel c ⟨(sm,.one (.d (.raw (.map (some B)))))::fr,sto⟩ a w σ φ)(h:Al (fun X=>c.w0.heap.size≤X∨c.M X) σ φ sto w k b B (fun _=>False) ks R bs ents)
  (hlt:Nat.blt mid 1000000=true) (hm1:aQ mid fr=false) (hm2:aF mid sto=false) :
  ∃ σ' φ',Rel c ⟨(sm,.one (.mapr mid))::fr,(mid,.map true false (dC (fun j=>.sl k b (R (at_ ks j))) ks 0))::sto⟩ a w σ' φ':=by
 obtain⟨σ',h1,h2,_,h4⟩:=h.sealB hr ks.length (Hb _)
 have hE:Ext (·=mid) φ (bo φ mid (some (B,0))) sto ((mid,.map true false (dC (fun j=>.sl k b (R (at_ ks j))) ks 0))::sto):=Ext.add
 have hsB:σ' B=none:=by
  cases hx:σ' B with
  | none=>rfl
  | some cs =>
    obtain⟨t,f,h5⟩:=h1.inv.sig B cs hx
    rw[h.heap] at h5;cases h5
 have hlen:(dC (fun j=>D.sl k b (R (at_ ks j))) ks 0).length=ents.length:=by
  rw[← h.len]
  have:∀ (f:Nat→D) (l:List (List Int)) (n:Nat),(dC f l n).length=l.length:=by
   intro f l
   induction l with
   | nil=>intro n;rfl
   | cons x r ih=>intro n;simp only[dC,Ho,ih]
  exact this _ _ _
 have hobj:ObjRep σ' (bo φ mid (some (B,0))) ((mid,.map true false (dC (fun j=>.sl k b (R (at_ ks j))) ks 0))::sto) w mid (.map true false (dC (fun j=>.sl k b (R (at_ ks j))) ks 0)):=by
  refine⟨B,0,ents,ai,by rw[hlen];exact h.heap,qT h.len (fun i x e hx he=>⟨(h.key i x e hx he).1.mono h2,by have:=(h.key i x e hx he).2;omega⟩) fun i e he=>?_,hsB⟩
  have hi:i<ks.length:=by rw[h.len];exact (G7.1 he).1
  rw[Hn]
  exact⟨h4 i _ e hi (cv hi) he,trivial⟩
 refine⟨σ',bo φ mid (some (B,0)),h1.le,h1.fresh,⟨h1.inv.sig,fun i e hi=>?_,fun i i' e e' p p' hi hi' hne hp hp'=>?_⟩,fun i e p hi hp=>?_,fun t v hv=>?_,h1.defers,h1.size,h1.fra,fun i hi=>by
  have:i≠mid:=by have:=G5 hlt;omega
  rw[au this];exact h1.pin i hi⟩
 ·rcases ab hi with⟨rfl,rfl⟩|⟨hne,hi⟩
  ·exact hobj
  ·exact (h1.inv.obj _ _ hi).ext (Sig.le_refl _) hE (fun j hj=>by cases hj;exact dr hm2 hi) (au hne) fun _ _ _=>⟨rfl,rfl⟩
 ·rcases ab hi with⟨rfl,rfl⟩|⟨hn1,hi1⟩
  ·rw[ai] at hp;cases hp
   rcases ab hi' with⟨rfl,rfl⟩|⟨hn',hi'⟩
   ·exact absurd rfl hne
   ·rw[au hn'] at hp'
    exact fun e=>h.own _ _ _ hi' hp' e.symm
  ·rcases ab hi' with⟨h3,h5⟩|⟨hn',hi'⟩
   ·subst h3;subst h5
    rw[ai] at hp';cases hp'
    rw[au hn1] at hp
    exact h.own _ _ _ hi1 hp
   ·rw[au hn1] at hp;rw[au hn'] at hp'
    exact h1.inv.inj _ _ _ _ _ _ hi1 hi' hne hp hp'
 ·rcases ab hi with⟨rfl,rfl⟩|⟨hn',hi⟩
  ·rw[ai] at hp;cases hp
   exact h.nw
  ·rw[au hn'] at hp
   exact h1.mine _ _ _ hi hp
 ·rcases ab hv with⟨rfl,rfl⟩|⟨hne,hv⟩
  ·obtain⟨u,hu,hru⟩:=h1.slot t (.one (.d (.raw (.map (some B))))) ao
   refine⟨u,hu,?_⟩
   have hru:=RepC.d_inv hru
   cases hru
   exact RepC.mapr ao ai
  ·obtain⟨u,hu,hru⟩:=h1.slot t v (by rw[ax hne];exact hv)
   exact⟨u,hu,hru.ext (Sig.le_refl _) hE fun j hj=>by cases hj;exact ch hm1 hv⟩
def kS(pl:Nat→List Int):Nat→List (List Int)
 | 0=>[]
 | k+1=>match cA (pl k) (kS pl k) 0 with
   | some _=>kS pl k
   | none=>kS pl k++[pl k]
def rS(pl:Nat→List Int)(cell:Nat→List D):Nat→List Int→List (List D)
 | 0,_=>[]
 | k+1,x=>if pl k==x then rS pl cell k x++[cell k] else rS pl cell k x
theorem p6{pl:Nat→List Int}:∀ {k:Nat} {x:List Int},x∈kS pl k→∃ i,i<k∧pl i=x
 | 0,x,h=>by simp[kS] at h
 | k+1,x,h=>by
   simp only[kS] at h
   split at h
   ·obtain⟨i,h1,h2⟩:=p6 h
    exact⟨i,by omega,h2⟩
   ·rcases HB.1 h with h|h
    ·obtain⟨i,h1,h2⟩:=p6 h
     exact⟨i,by omega,h2⟩
    ·simp at h
     exact⟨k,by omega,h.symm⟩
theorem whereK_none{x:List Int}:∀ {ks:List (List Int)} {n:Nat},cA x ks n=none→x ∉ ks
 | [],_,_=>by simp
 | y::r,n,h=>by
   simp only[cA] at h
   split at h
   ·cases h
   ·rename_i hb
    intro hm
    rcases Hm.1 hm with rfl|hm
    ·simp at hb
    ·exact whereK_none h hm
theorem pf{pl:Nat→List Int}:∀ {k:Nat},(kS pl k).Nodup
 | 0=>by simp[kS]
 | k+1=>by
   simp only[kS]
   split
   ·exact pf
   ·rename_i h
    refine List.nodup_append.2 ⟨pf,by simp,fun a ha b hb=>?_⟩
    simp at hb
    subst hb
    rintro rfl
    exact whereK_none h ha
theorem tT{pl:Nat→List Int}:∀ {k:Nat},(kS pl k).length≤k
 | 0=>by simp[kS]
 | k+1=>by
   have:=tT (pl:=pl) (k:=k)
   simp only[kS]
   split
   ·omega
   ·simp;omega
theorem y7{pl:Nat→List Int}{cell:Nat→List D}{x:List Int}:∀ {k:Nat},(rS pl cell k x).length≤k
 | 0=>by simp[rS]
 | k+1=>by
   have:=y7 (pl:=pl) (cell:=cell) (x:=x) (k:=k)
   simp only[rS]
   split
   ·simp;omega
   ·omega
theorem tU{pl:Nat→List Int}{cell:Nat→List D}{x:List Int}:∀ {k:Nat},x ∉ kS pl k→rS pl cell k x=[]
 | 0,_=>rfl
 | k+1,h=>by
   have hx:(pl k==x)=false:=by
    cases hb:(pl k==x) with
    | false=>rfl
    | true =>
      have:=eq_of_beq hb
      subst this
      exfalso
      apply h
      simp only[kS]
      split
      ·rename_i j hj
       exact List.mem_of_getElem? (iS hj).2
      ·simp
   simp only[rS,hx]
   refine tU fun hm=>h ?_
   simp only[kS]
   split
   ·exact hm
   ·exact HB.2 (.inl hm)
theorem OkC.use{code:Code}{Q:Exit→St→Prop}{a:Act}{Z:Exit→Act→World→Prop}(h:OkC P c code st Q)(hr:Rel c st a w σ φ)(hz:∀ e a' w' st' σ' φ',Q e st'→RelE c e st' a' w' σ' φ'→Z e a' w'):code.wpIn (fnc c) 0 P Z a w :=
 wpIn_mono (h a w σ φ hr) fun e a' w' ⟨st',σ',φ',h1,h2⟩=>hz e a' w' st' σ' φ' h1 h2
def Bot(_:Exit)(_:St):Prop:=False
end Go.Abs
