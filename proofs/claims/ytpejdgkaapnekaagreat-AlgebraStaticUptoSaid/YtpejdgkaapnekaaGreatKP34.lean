import Derived.Test.YtpejdgkaapnekaaGreatKP33
import Derived.Test.YtpejdgkaapnekaaGreatKP18
import Derived.Test.YtpejdgkaapnekaaGreatKP15
import Derived.Test.YtpejdgkaapnekaaGreatKP14
import Derived.Test.YtpejdgkaapnekaaGreatKP19
import Derived.Test.YtpejdgkaapnekaaGreatKP23
import Derived.Test.YtpejdgkaapnekaaGreatKP32
set_option linter.unusedVariables false
set_option linter.unusedSimpArgs false
set_option maxHeartbeats 1000000
namespace Go.Proofs.YtpejdgkaapnekaaGreat
open Go Go.Abs
section
variable {ad bd:List Dim}
theorem mem_rest{d:Dim}:d∈ay bd (bE ad bd)↔d∈bd∧inD ad d.name=false:=by
 unfold ay bE lk
 rw[XX,Xj]
 constructor
 ·rintro ⟨i,hi,rfl⟩
  obtain⟨h1,h2⟩:=oth_mem.1 hi
  exact⟨by simpa using aU h1,by simpa using h2⟩
 ·rintro ⟨h1,h2⟩
  obtain⟨i,hi,rfl⟩:=cv h1
  exact⟨i,oth_mem.2 ⟨hi,h2⟩,by simp⟩
theorem EX(hnb:(bd.map Dim.name).Nodup){x y:Dim}(hy:y∈bd)(h:x.name=y.name):ll bd x=⟨x.name,max x.lo y.lo,min x.hi y.hi⟩:=by
 obtain⟨j,hj,rfl⟩:=cv hy
 have hd:aV bd x.name=(j:Int):=jr hnb hj h.symm
 unfold ll
 rw[if_neg (by omega),hd]
 rfl
theorem zG{d:Dim}:(ll bd d).name=d.name:=by unfold ll;split<;>rfl
theorem mem_joinDs{d:Dim}:d∈bR ad bd↔(∃ x∈ad,ll bd x=d)∨(d∈bd∧inD ad d.name=false):=by
 unfold bR;rw[XF,Xj,mem_rest]
theorem oq:(bR ad bd).map Dim.name=ad.map Dim.name++(ay bd (bE ad bd)).map Dim.name:=by
 unfold bR
 rw[XB,XX]
 congr 1
 exact List.map_congr_left fun x _=>zG
theorem IN(hna:(ad.map Dim.name).Nodup)(hnb:(bd.map Dim.name).Nodup):((bR ad bd).map Dim.name).Nodup:=by
 rw[oq,List.nodup_append]
 refine⟨hna,?_,?_⟩
 ·unfold ay bE lk
  rw[XX,XX,List.Nodup,X4]
  have hnd:(jY ad bd bd.length).Nodup:=List.Pairwise.filter _ List.nodup_range
  refine List.Pairwise.imp_of_mem ?_ hnd
  intro i j hi hj hne e
  exact hne (uU hnb (oth_mem.1 hi).1 (oth_mem.1 hj).1 (by simpa using e))
 ·intro x hx y hy e
  subst e
  obtain⟨d,hd,rfl⟩:=Xj.1 hy
  have h1:=(mem_rest.1 hd).2
  rw[inD_iff.2 hx] at h1
  cases h1
def vAt(ds:List Dim)(x:List Int)(n:List UInt8):Int:=at_ x (aV ds n).toNat
def gAt(ad bd:List Dim)(c d:Cell)(n:List UInt8):Int:=if inD ad n then vAt ad c.at' n else vAt bd d.at' n
theorem M5(hna:(ad.map Dim.name).Nodup)(hnb:(bd.map Dim.name).Nodup){c d:Cell}(hc:c.at'.length=ad.length):(qP ad bd c d).at'=((bR ad bd).map Dim.name).map (gAt ad bd c d):=by
 rw[oq,XB]
 show c.at'++ay d.at' (bE ad bd)=_
 congr 1
 ·refine c5 (by simp[hc]) fun i hi=>?_
  rw[hc] at hi
  rw[bj (by simpa using hi),bj hi]
  have h1:inD ad (at_ ad i).name=true:=inD_iff.2 (Xj.2 ⟨_,aU hi,rfl⟩)
  unfold gAt vAt
  rw[if_pos h1,jr hna hi rfl]
  rfl
 ·unfold ay bE lk
  rw[XX,XX,XX,XX]
  refine List.map_congr_left fun i hi=>?_
  obtain⟨h1,h2⟩:=oth_mem.1 hi
  have h3:aV bd (at_ bd i).name=(i:Int):=jr hnb h1 rfl
  simp only[Function.comp,Xr]
  unfold gAt vAt
  rw[if_neg (by simp[h2]),h3]
  rfl
theorem KG(hnb:(bd.map Dim.name).Nodup){c d:Cell}:dc ad bd c d=true↔∀ n,inD ad n=true→inD bd n=true→vAt ad c.at' n=vAt bd d.at' n:=by
 rw[A9,XY]
 constructor
 ·intro h n h1 h2
  obtain⟨j,g1,g2,g3⟩:=sc h2
  have h4:=h j (com_mem.2 ⟨g2,by rw[g3];exact h1⟩)
  rw[g3] at h4
  unfold vAt
  rw[g1]
  simpa using h4
 ·intro h i hi
  obtain⟨h1,h2⟩:=com_mem.1 hi
  have h3:=h (at_ bd i).name h2 (inD_iff.2 (Xj.2 ⟨_,aU h1,rfl⟩))
  unfold vAt at h3
  rw[jr hnb h1 rfl] at h3
  simpa using h3
theorem IP{n:List UInt8}(h:n∈(bR ad bd).map Dim.name):inD ad n=true∨inD bd n=true:=by
 rw[oq,XF] at h
 rcases h with h|h
 ·exact .inl (inD_iff.2 h)
 ·obtain⟨d,hd,rfl⟩:=Xj.1 h
  exact .inr (inD_iff.2 (Xj.2 ⟨d,(mem_rest.1 hd).1,rfl⟩))
end
theorem wT:∀ {a1 a2:List Attr} {v1 v2:List Val},v1.length=a1.length→fR a1 v1=0→fR a2 v2=0→fR (a1++a2) (v1++v2)=0
 | [],a2,[],v2,_,_,h=>h
 | a::a1,a2,v::v1,v2,hl,h1,h2=>by
   simp only[fR] at h1
   simp only[XL,fR]
   split at h1
   ·cases h1
   ·rename_i hf
    rw[if_neg hf]
    exact wT (by simpa using hl) h1 h2
 | [],_,_::_,_,hl,_,_=>by simp at hl
 | _::_,_,[],_,hl,_,_=>by simp at hl
theorem IQ{v p q:Int}(h1:v≤dW p)(h2:v≤dW q):v≤dW (min p q):=by
 by_cases h:p≤q
 ·rw[Int.min_eq_left h];exact h1
 ·rw[Int.min_eq_right (by omega)];exact h2
def yj(a b:Arr):Arr:=⟨bR a.dims b.dims,a.attrs++b.attrs,cg (eD a b)⟩
structure Prd (a b:Arr):Prop where
 oka:OkA a.dims a.attrs a.cells
 okb:OkA b.dims b.attrs b.cells
 ca:cM a b=false
 cb:cM b a=false
 four:(bR a.dims b.dims).length≤4
 six:(a.attrs++b.attrs).length≤6
 good:(bR a.dims b.dims).any pn=false
 few:(eD a b).length≤4096
section
variable {a b:Arr}
theorem Prd.na(h:Prd a b):(a.dims.map Dim.name).Nodup:=h.oka.dims.2.2.2
theorem Prd.nb(h:Prd a b):(b.dims.map Dim.name).Nodup:=h.okb.dims.2.2.2
theorem joinC_mem{w:Cell}:w∈eD a b↔∃ c∈a.cells,∃ d∈b.cells,dc a.dims b.dims c d=true∧qP a.dims b.dims c d=w:=by
 unfold eD jZ
 simp only[List.mem_flatMap,Xj,Yr]
 exact⟨fun ⟨c,hc,d,⟨hd,hm⟩,e⟩=>⟨c,hc,d,hd,hm,e⟩,fun ⟨c,hc,d,hd,hm,e⟩=>⟨c,hc,d,⟨hd,hm⟩,e⟩⟩
theorem vu{n:List UInt8}{x:Attr}(h:cM a b=false)(hx:x∈a.attrs):x.name ∉ b.dims.map Dim.name∧x.name ∉ b.attrs.map Attr.name:=by
 have h1:=(List.any_eq_false.1 h) x hx
 rw[hasN_iff] at h1
 exact⟨fun e=>h1 (.inl e),fun e=>h1 (.inr e)⟩
theorem rG{ds:List Dim}(hn:(ds.map Dim.name).Nodup){xs:List Int}(hl:xs.length=ds.length)(hw:bF ds xs=true){x:Dim}(hx:x∈ds):x.lo≤vAt ds xs x.name∧vAt ds xs x.name≤dW x.hi:=by
 obtain⟨i,hi,rfl⟩:=cv hx
 have h1:=(cw hl).1 hw i hi
 unfold vAt
 rw[jr hn hi rfl]
 exact h1
theorem Ou(h:Prd a b):OkA (yj a b).dims (yj a b).attrs (yj a b).cells:=by
 have hs:=bA h.oka.sch
 have hsb:=bA h.okb.sch
 have hta:=attrsGo_iff.1 hs.2.2.2
 have htb:=attrsGo_iff.1 hsb.2.2.2
 refine⟨?_,by show (cg _).length≤_;rw[eE];exact h.few,fT (vZ h.oka h.okb),fun x hx=>?_⟩
 ·refine fy ?_ h.four (fun d hd=>?_) (IN h.na h.nb) ?_ h.six ?_
  ·have:=h.oka.dims.1
   show 1≤(bR a.dims b.dims).length
   unfold bR
   rw[W9,WZ];omega
  ·have hg:¬ d.hi<d.lo:=by
    have:=(List.any_eq_false.1 h.good) d hd
    simpa[pn] using this
   rcases mem_joinDs.1 hd with⟨x,hx,rfl⟩|⟨h1,h2⟩
   ·have hb1:=fp hs.1
    obtain⟨g1,g2⟩:=hb1.2.2.1 x hx
    cases hb:inD b.dims x.name with
    | false=>rw[uS hb];exact⟨g1,g2⟩
    | true =>
      obtain⟨y,hy,he⟩:=Xj.1 (inD_iff.1 hb)
      have hb2:=fp hsb.1
      obtain⟨k1,k2⟩:=hb2.2.2.1 y hy
      rw[EX h.nb hy he.symm] at hg ⊢
      refine⟨boundsF_ok.2 ?_,g2⟩
      have q1:=boundsF_ok.1 g1
      have q2:=boundsF_ok.1 k1
      dsimp only at hg ⊢
      omega
   ·exact (fp hsb.1).2.2.1 d h1
  ·have:=hs.2.1
   show 1≤(a.attrs++b.attrs).length
   rw[W9];omega
  ·refine attrsGo_iff.2 ⟨fun x hx=>?_,?_⟩
   ·have hno:∀ n,n ∉ a.dims.map Dim.name→n ∉ b.dims.map Dim.name→n ∉ (yj a b).dims.map Dim.name:=fun n n1 n2 hm=>by
     rcases IP hm with e|e
     ·exact n1 (inD_iff.1 e)
     ·exact n2 (inD_iff.1 e)
    rcases XF.1 hx with hx|hx
    ·obtain⟨e1,e2,e3,e4⟩:=hta.1 x hx
     exact⟨e1,hno _ e2 (vu (n:=[]) h.ca hx).1,e3,e4⟩
    ·obtain⟨e1,e2,e3,e4⟩:=htb.1 x hx
     exact⟨e1,hno _ (vu (n:=[]) h.cb hx).1 e2,e3,e4⟩
   ·show ((a.attrs++b.attrs).map Attr.name).Nodup
    rw[XB,List.nodup_append]
    refine⟨hta.2,htb.2,fun x hx y hy e=>?_⟩
    subst e
    obtain⟨t,ht,rfl⟩:=Xj.1 hx
    exact (vu (n:=[]) h.ca ht).2 hy
 ·obtain⟨c,hc,d,hd,hm,rfl⟩:=joinC_mem.1 ((fD _).mem_iff.1 hx)
  obtain⟨c1,c2,c3,c4⟩:=cellF_ok.1 (h.oka.cel c hc)
  obtain⟨d1,d2,d3,d4⟩:=cellF_ok.1 (h.okb.cel d hd)
  have hat:=M5 h.na h.nb (d:=d) c1
  have hl:(qP a.dims b.dims c d).at'.length=(yj a b).dims.length:=by rw[hat];simp[yj]
  refine cellF_ok.2 ⟨hl,?_,?_,wT c2 c4 d4⟩
  ·show (c.vals++d.vals).length=(a.attrs++b.attrs).length
   rw[W9,W9,c2,d2]
  ·rw[cw hl]
   intro i hi
   have hi':i<(bR a.dims b.dims).length:=hi
   rw[hat,bj (by simpa using hi'),bj hi']
   show (at_ (bR a.dims b.dims) i).lo≤_∧_≤dW (at_ (bR a.dims b.dims) i).hi
   have hmem:=aU hi'
   generalize at_ (bR a.dims b.dims) i=e at hmem ⊢
   rcases mem_joinDs.1 hmem with⟨x,hx,rfl⟩|⟨h1,h2⟩
   ·have hin:inD a.dims x.name=true:=inD_iff.2 (Xj.2 ⟨x,hx,rfl⟩)
    rw[zG]
    have hv:gAt a.dims b.dims c d x.name=vAt a.dims c.at' x.name:=by unfold gAt;rw[if_pos hin]
    have w1:=rG h.na c1 c3 hx
    rw[hv]
    cases hb:inD b.dims x.name with
    | false=>rw[uS hb];exact w1
    | true =>
      obtain⟨y,hy,he⟩:=Xj.1 (inD_iff.1 hb)
      have w2:=rG h.nb d1 d3 hy
      have e2:=(KG h.nb).1 hm x.name hin hb
      rw[he,← e2] at w2
      rw[EX h.nb hy he.symm]
      exact⟨Int.max_le.2 ⟨w1.1,w2.1⟩,IQ w1.2 w2.2⟩
   ·have hv:gAt a.dims b.dims c d e.name=vAt b.dims d.at' e.name:=by unfold gAt;rw[if_neg (by simp[h2])]
    rw[hv]
    exact rG h.nb d1 d3 h1
end
end Go.Proofs.YtpejdgkaapnekaaGreat
namespace Go.Proofs.YtpejdgkaapnekaaGreat
open Go Go.Abs
attribute [local irreducible] aa OkC ak av aq aI
set_option maxRecDepth 10000
theorem Rp{e:Int}(h:1≤e):IntKind.i64.wrap (4611686018427387904 / e)=4611686018427387904 / e:=by
 have h1:(0:Int)≤4611686018427387904 / e:=Int.ediv_nonneg (by omega) (by omega)
 have h2:(4611686018427387904:Int) / e≤4611686018427387904:=Int.ediv_le_self _ (by omega)
 exact fx (by omega) (by omega)
theorem F0{n e:Int}(h1:1≤n)(he:1≤e)(h:decide (4611686018427387904 / e<n)=false):IntKind.i64.wrap (n*e)=n*e∧1≤n*e∧n*e≤4611686018427387904:=by
 have h':n≤4611686018427387904 / e:=by simpa using h
 have h2:n*e≤4611686018427387904:=Int.mul_le_of_le_ediv (by omega) h'
 have h3:1*1≤n*e:=Int.mul_le_mul h1 he (by omega) (by omega)
 exact⟨fx (by omega) (by omega),by omega,h2⟩
theorem Au{n e P:Int}(h0:0≤n)(h1:n<P)(he:1≤e)(hp:P*e≤4611686018427387904):0≤n*e∧n*e+e≤P*e∧n*e≤4611686018427387904:=by
 have h2:0≤n*e:=Int.mul_nonneg h0 (by omega)
 have h3:(n+1)*e≤P*e:=Int.mul_le_mul_of_nonneg_right (by omega) (by omega)
 rw[Int.add_mul,Int.one_mul] at h3
 exact⟨h2,h3,by omega⟩
theorem Pu{n e P:Int}(h0:0≤n)(h1:n<P)(he:1≤e)(hp:P*e≤4611686018427387904):IntKind.i64.wrap (n*e)=n*e:=by
 have:=Au h0 h1 he hp
 exact fx (by omega) (by omega)
theorem Pv{n e P a:Int}(h0:0≤n)(h1:n<P)(he:1≤e)(hp:P*e≤4611686018427387904)(ha:-1073741824≤a)(hb:a≤1073741825):IntKind.i64.wrap (n*e+a)=n*e+a:=by
 have:=Au h0 h1 he hp
 exact fx (by omega) (by omega)
theorem Pw{n e P a b:Int}(h0:0≤n)(h1:n<P)(he:1≤e)(hp:P*e≤4611686018427387904)(ha:-1073741824≤a)(hb:a≤1073741825)(ha':-1073741824≤b)(hb':b≤1073741825):IntKind.i64.wrap (n*e+a-b)=n*e+a-b:=by
 have:=Au h0 h1 he hp
 exact fx (by omega) (by omega)
structure Dok (ds:List Dim):Prop where
 len:1≤ds.length∧ds.length≤4
 bnd:∀ i,i<ds.length→-1073741824≤(at_ ds i).lo∧(at_ ds i).lo≤1073741824∧(at_ ds i).lo≤(at_ ds i).hi∧(at_ ds i).hi≤1073741825
 ext:∀ i,i<ds.length→1≤(at_ ds i).hi-(at_ ds i).lo+1
theorem Il{ds:List Dim}(h:cY ds=0):Dok ds:=by
 obtain⟨h1,h2,h3,_⟩:=fp h
 refine⟨⟨h1,h2⟩,fun i hi=>boundsF_ok.1 (h3 _ (aU hi)).1,fun i hi=>?_⟩
 have:=boundsF_ok.1 (h3 _ (aU hi)).1
 omega
theorem si{α:Type}[Inhabited α]{p:α→Bool}{l:List α}:decide (0≤aK p l 0)=l.any p:=by
 rw[XR,Yi,List.any_eq_true]
 constructor
 ·intro h
  obtain⟨k,_,h2,h3,_⟩:=ku (p:=p) (l:=l) (j:=0) (by omega)
  exact⟨_,aU h2,h3⟩
 ·rintro ⟨x,hx,hp⟩
  by_cases h0:aK p l 0<0
  ·have:=jQ h0 x hx
   rw[hp] at this;cases this
  ·omega
theorem Kx(nm:List UInt8)(lo hi:Int)(hb:-1073741824≤lo∧lo≤1073741824∧lo≤hi∧hi≤1073741825):CallA Tryz.prog 203 [.agg [.d (.str nm),.d (.int .i64 lo),.d (.int .i64 hi)]] [] (.one (.d (.int .i64 (hi-lo+1)))) []:=by
 refine enter af Tryz.func203 rfl (by decide +kernel) rfl fun hok w0 σ0 φ0 M=>?_
 clear hok
 repeat' (first|refine wG ?_)
 all_goals rfl
theorem Ub(nm:List UInt8)(lo hi:Int):CallA Tryz.prog 202 [.agg [.d (.str nm),.d (.int .i64 lo),.d (.int .i64 hi)]] [] (.one (.d (.bool (hi==1073741825)))) []:=by
 refine enter af Tryz.func202 rfl (by decide +kernel) rfl fun hok w0 σ0 φ0 M=>?_
 clear hok
 repeat' (first|refine wG ?_)
 all_goals rfl
theorem Uc(ds:List Dim):CallA Tryz.prog 201 [.one (.d (ai ds)),.one (.d (.fn 202 []))] [] (.one (.d (.bool (ds.any fun d=>d.hi==1073741825)))) []:=by
 refine enter af Tryz.func201 rfl (by decide +kernel) rfl fun hok w0 σ0 φ0 M=>?_
 clear hok
 repeat' (first|(refine h1H ?_;(refine h0H ?_;refine ae J J J J J J J J (Kj _ _ _ (fun d=>Ub _ _ _) _) J ?_))|refine wG ?_)
 all_goals (rw[si])
theorem Px(ds:List Dim):CallA Tryz.prog 200 [.one (.d (ai ds))] [] (.one (.d (.int .i64 (cY ds)))) []:=by
 by_cases hne:cY ds=0
 ·refine enter af Tryz.func200 rfl (by decide +kernel) rfl fun hok w0 σ0 φ0 M=>?_
  clear hok
  repeat' (first|refine wG ?_)
  refine cS 16 [(1000000,0)] (rav':=.one (.d (.int .i64 0))) (LK ds hne) rfl rfl rfl rfl rfl rfl ⟨⟨0,rfl,rfl⟩,trivial⟩ ⟨fun i e h1 h2=>?_,trivial⟩ rfl rfl rfl rfl ?_
  ·have h1':some 0=some i:=h1
   cases h1'
   have h2':some (AObj.map false false (dT []))=some e:=h2
   cases h2'
   exact⟨rfl,rfl⟩
  repeat' (first|refine wG ?_)
  all_goals rw[hne]
 ·refine enter af Tryz.func200 rfl (by decide +kernel) rfl fun hok w0 σ0 φ0 M=>?_
  clear hok
  repeat' (first|refine wG ?_)
  refine cS 16 [(1000000,0)] (rav':=.one (.d (.int .i64 (cY ds)))) (LJ ds hne) rfl rfl rfl rfl rfl rfl ⟨⟨0,rfl,rfl⟩,trivial⟩ trivial rfl rfl rfl rfl ?_
  repeat' (first|refine wG ?_)
  all_goals rfl
theorem MW{ds:List Dim}(h:cY ds≠0):aQ ds=(0,cY ds):=by unfold aQ;rw[if_pos h]
theorem zm{ds:List Dim}(h:cY ds=0)(h2:(ds.any fun d=>d.hi==1073741825)=true):aQ ds=(0,3):=by unfold aQ;rw[if_neg (by simp[h]),if_pos h2]
theorem xW{ds:List Dim}(h:cY ds=0)(h2:(ds.any fun d=>d.hi==1073741825)=false):aQ ds=jf 1 ds:=by unfold aQ;rw[if_neg (by simp[h]),if_neg (by simp[h2])]
def LW(r:Int×Int):AV:=.tup [(false,[.d (.int .i64 r.1)]),(false,[.d (.int .i64 r.2)])]
theorem ru(ds:List Dim):CallA Tryz.prog 132 [.one (.d (ai ds))] [] (LW (aQ ds)) []:=by
 refine enter af Tryz.func132 rfl (by decide +kernel) rfl fun hok w0 σ0 φ0 M=>?_
 have h1:=hok.1.sl;clear hok;simp only[WZ] at h1;replace h1:=h1.1
 by_cases hd:cY ds=0
 ·have hD:=Il hd
  have hb0:(cY ds != 0)=false:=by simp[hd]
  have h4:=hD.len
  repeat' (first|(refine h1H ?_;(refine Py ?_;refine s_e envOk J J J (nu J J J J (by omega) (Int.lt_of_lt_of_le Int.zero_lt_one (hD.ext _ wB)) (Rp (hD.ext _ wB))) ?_))|(refine h1H ?_;(refine Ud ?_;refine s_e envOk J J J (oY J J J J (F0 hn1 (hD.ext _ wB) (by assumption)).1) ?_))|(refine h1H ?_;(refine h0H ?_;first|refine ae J J J J J J J J (Px _) J ?_|refine ae J J J J J J J J (Uc _) J ?_|refine ae J J J J J J J J (Kx _ _ _ (hD.bnd _ wB)) J ?_))|refine wG ?_|(refine h2H ?_;first|refine aj J (fun h=>?_) (fun h=>?_)|refine cu 8 J [(15,_),(16,_)] (q2Q J J) (fun (p:Nat×Int)=>[(5,.one (.d (.int .i64 p.2))),(17,.one (.d (.int .i64 (p.1:Int))))]) (fun (p:Nat×Int)=>p.1≤ds.length∧jf 1 ds=jf p.2 (ds.drop p.1)∧1≤p.2) (fun (p:Nat×Int)=>ds.length-p.1) (0,1) (q2Q J J) ?_ (fun p ⟨hk,hs,hn1⟩=>?_))|(show Exists _;refine Exists.intro ((p.1+1,p.2*((at_ ds p.1).hi-(at_ ds p.1).lo+1))) ⟨?_,?_,wK,(q2Q J J),(q2Q J J)⟩))
  ·have ha:(ds.any fun d=>d.hi==1073741825)=true:=h
   rw[zm hd ha];rfl
  ·exact⟨Xk _,rfl,by decide⟩
  all_goals (try rw[Xr] at *)
  ·have hlt:p.1<ds.length:=by simpa using ‹decide ((p.1:Int)<((ds.map ax).length:Int))=true›
   have hx:4611686018427387904 / bT (at_ ds p.1)<p.2:=by unfold bT;simpa using h
   rw[xW hd ‹_›,hs,au hlt,jf,if_pos hx];rfl
  ·have hlt:p.1<ds.length:=by simpa using ‹decide ((p.1:Int)<((ds.map ax).length:Int))=true›
   have hx:¬ 4611686018427387904 / bT (at_ ds p.1)<p.2:=by unfold bT;simpa using h
   refine⟨hlt,?_,(F0 hn1 (hD.ext _ hlt) h).2.1⟩
   rw[hs,au hlt,jf,if_neg hx];rfl
  ·have hlt:p.1<ds.length:=by simpa using ‹decide ((p.1:Int)<((ds.map ax).length:Int))=true›
   show ds.length-(p.1+1)<ds.length-p.1
   omega
  ·have hge:ds.length≤p.1:=by simpa using ‹decide ((p.1:Int)<((ds.map ax).length:Int))=false›
   rw[xW hd ‹_›,hs,W7 hge];rfl
 ·have hb0:(cY ds != 0)=true:=by simp[hd]
  repeat' (first|(refine h1H ?_;(refine h0H ?_;refine ae J J J J J J J J (Px _) J ?_))|refine wG ?_)
  all_goals (rw[MW hd];rfl)
theorem BN:∀ {ds:List Dim} {n:Int},1≤n→(∀ d∈ds,1≤bT d)→(jf n ds).2=0→∀ k,k<ds.length→n*(cZ (ds.take k)*bT (at_ ds k))≤4611686018427387904
 | d::r,n,hn,he,h,k,hk=>by
   simp only[jf] at h
   split at h
   ·simp at h
   rename_i h1
   have he1:=he d Xd
   have hw:=F0 hn he1 (by simpa using h1)
   cases k with
   | zero =>
     show n*(1*bT d)≤_
     rw[Int.one_mul];exact hw.2.2
   | succ k =>
     have ih:=BN (ds:=r) (n:=n*bT d) hw.2.1 (fun x hx=>he x (Xa _ hx)) h k (by simpa using hk)
     show n*(bT d*cZ (r.take k)*bT (at_ r k))≤_
     rw[Xx,← Xx]
     exact ih
theorem Ev{ds:List Dim}(hd:Dok ds):∀ d∈ds,1≤bT d:=fun d h=>by
 obtain⟨i,hi,rfl⟩:=cv h
 exact hd.ext i hi
structure Vok (ds:List Dim):Prop where
 dok:Dok ds
 fin:∀ i,i<ds.length→(at_ ds i).hi≤1073741824
 vol:(aQ ds).1=cZ ds
 part:∀ i,i<ds.length→cZ (ds.take i)*((at_ ds i).hi-(at_ ds i).lo+1)≤4611686018427387904
 all:cZ ds≤4611686018427387904
theorem BO:∀ {a b:List Dim},cZ (a++b)=cZ a*cZ b
 | [],b=>by simp[cZ]
 | d::a,b=>by simp only[XL,cZ,BO (a:=a) (b:=b),Xx]
theorem zn{ds:List Dim}{k:Nat}(h:k<ds.length):cZ (ds.take (k+1))=cZ (ds.take k)*bT (at_ ds k):=by
 rw[ez h,BO];simp[cZ]
theorem BP{ds:List Dim}(h:(aQ ds).2=0):Vok ds:=by
 obtain⟨h1,h2,h3⟩:=BQ h
 have hd:=Il h1
 have ha:(ds.any fun d=>d.hi==1073741825)=false:=by
  rw[Bool.eq_false_iff]
  intro hx
  rw[zm h1 hx] at h;simp at h
 have hv:(jf 1 ds).2=0:=by rw[xW h1 ha] at h;exact h
 have hp:=BN (ds:=ds) (n:=1) (by decide) (Ev hd) hv
 refine⟨hd,h2,h3,fun i hi=>by have:=hp i hi;rw[Int.one_mul] at this;exact this,?_⟩
 have hl:=hd.len
 have:=hp (ds.length-1) (by omega)
 rw[Int.one_mul,← zn (by omega),show ds.length-1+1=ds.length from by omega,XT] at this
 exact this
theorem Ky{ds:List Dim}{xs:List Int}{n:Int}{k:Nat}(hk:k<ds.length)(hx:k<xs.length):dy n (ds.drop k) (xs.drop k)=dy (n*bT (at_ ds k)+at_ xs k-(at_ ds k).lo) (ds.drop (k+1)) (xs.drop (k+1)):=by
 rw[au hk,au hx];rfl
theorem Kz{n P a lo hi:Int}(h0:0≤n)(h1:n<P)(he:1≤hi-lo+1)(hp:P*(hi-lo+1)≤4611686018427387904)(ha:lo≤a)(hb:a≤hi):0≤n*(hi-lo+1)+a-lo∧n*(hi-lo+1)+a-lo<P*(hi-lo+1):=by
 have:=Au h0 h1 he hp
 omega
theorem Rq{ds:List Dim}{xs:List Int}(h:ofF ds xs=true)(hd:Vok ds):xs.length=ds.length∧∀ i,i<ds.length→(at_ ds i).lo≤at_ xs i∧at_ xs i≤(at_ ds i).hi:=by
 unfold ofF at h
 simp only[WX,Yi] at h
 refine⟨h.1,fun i hi=>?_⟩
 have h1:=(cw h.1).1 h.2 i hi
 unfold dW at h1
 omega
theorem F4{ds:List Dim}{xs:List Int}(h:(aQ ds).2≠0):lA ds xs=(0,(aQ ds).2):=by unfold lA;rw[if_pos h]
theorem F5{ds:List Dim}{xs:List Int}(h:(aQ ds).2=0)(h2:(xs.length:Int)≠ds.length):lA ds xs=(0,13):=by unfold lA;rw[if_neg (by simp[h]),if_pos h2]
theorem F6{ds:List Dim}{xs:List Int}(h:(aQ ds).2=0)(h2:(xs.length:Int)=ds.length)(h3:ofF ds xs=false):lA ds xs=(0,3):=by unfold lA;rw[if_neg (by simp[h]),if_neg (by simp[h2]),if_pos (by simp[h3])]
theorem zo{ds:List Dim}{xs:List Int}(h:(aQ ds).2=0)(h2:(xs.length:Int)=ds.length)(h3:ofF ds xs=true):lA ds xs=(dy 0 ds xs,0):=by unfold lA;rw[if_neg (by simp[h]),if_neg (by simp[h2]),if_neg (by simp[h3])]
theorem Ue(ds:List Dim)(xs:List Int):CallA Tryz.prog 133 [.one (.d (ai ds)),.one (.d (ar xs))] [] (LW (lA ds xs)) []:=by
 refine enter af Tryz.func133 rfl (by decide +kernel) rfl fun hok w0 σ0 φ0 M=>?_
 have h1:=hok.1.sl;have h2:=hok.2.1.sl;clear hok;simp only[WZ] at h1 h2;replace h1:=h1.1;replace h2:=h2.1
 by_cases hv:(aQ ds).2=0
 ·have hV:=BP hv
  have hD:=hV.dok
  have hb0:((aQ ds).2 != 0)=false:=by simp[hv]
  have h4:=hD.len
  by_cases hl:(xs.length:Int)=ds.length
  ·have hb1:(((xs.map aA).length:Int) != ((ds.map ax).length:Int))=false:=by simp;omega
   by_cases hof:ofF ds xs=true
   ·have hb2:(!ofF ds xs)=false:=by simp[hof]
    obtain⟨hxl,hxb⟩:=Rq hof hV
    have hL:∀ i,i<ds.length→-1073741824≤(at_ ds i).lo∧(at_ ds i).lo≤1073741825:=fun i hi=>by have:=hD.bnd i hi;omega
    have hX:∀ i,i<ds.length→-1073741824≤at_ xs i∧at_ xs i≤1073741825:=fun i hi=>by have:=hD.bnd i hi;have:=hxb i hi;omega
    repeat' (first|(refine h1H ?_;(refine h0H ?_;first|refine ae J J J J J J J J (ru _) J ?_|refine ae J J J J J J J J (JZ _ _) J ?_))|(refine h4H ?_;(refine TL ?_;refine d_e envOk J J J (oY J J J J (Pu hn0 hnP (hD.ext _ wB) (hV.part _ wB))) ?_))|(refine h4H ?_;(refine Ph ?_;refine d_e envOk J J J (kP J J J J (Pv hn0 hnP (hD.ext _ wB) (hV.part _ wB) (hX _ wB).1 (hX _ wB).2)) ?_))|(refine h4H ?_;(refine TM ?_;refine d_e envOk J J J (oZ J J J J (Pw hn0 hnP (hD.ext _ wB) (hV.part _ wB) (hX _ wB).1 (hX _ wB).2 (hL _ wB).1 (hL _ wB).2)) ?_))|(refine h4H ?_;(refine h3H ?_;refine d_l J J (bM J J J J J J (Kx _ _ _ (hD.bnd _ wB)) J) ?_))|refine wG ?_|(refine h2H ?_;first|refine aj J (fun h=>?_) (fun h=>?_)|refine cu 10 J [(1,_),(28,_),(29,_)] (q3Q J J J) (fun (p:Nat×Int)=>[(8,.one (.d (.int .i64 p.2))),(30,.one (.d (.int .i64 (p.1:Int))))]) (fun (p:Nat×Int)=>p.1≤ds.length∧dy 0 ds xs=dy p.2 (ds.drop p.1) (xs.drop p.1)∧0≤p.2∧p.2<cZ (ds.take p.1)) (fun (p:Nat×Int)=>ds.length-p.1) (0,0) (q2Q J J) ?_ (fun p ⟨hk,hs,hn0,hnP⟩=>?_))|(show Exists _;refine Exists.intro ((p.1+1,p.2*((at_ ds p.1).hi-(at_ ds p.1).lo+1)+at_ xs p.1-(at_ ds p.1).lo)) ⟨?_,?_,wK,(q2Q J J),(q3Q J J J)⟩))
    ·exact⟨Xk _,rfl,by decide,by show (0:Int)<1;decide⟩
    ·have hlt:p.1<ds.length:=by simpa using ‹decide ((p.1:Int)<((ds.map ax).length:Int))=true›
     have hr:=Kz hn0 hnP (hD.ext _ hlt) (hV.part _ hlt) (hxb _ hlt).1 (hxb _ hlt).2
     refine⟨hlt,?_,hr.1,?_⟩
     ·rw[hs,Ky hlt (by omega)];rfl
     ·show _<cZ (ds.take (p.1+1))
      rw[zn hlt];exact hr.2
    ·have hlt:p.1<ds.length:=by simpa using ‹decide ((p.1:Int)<((ds.map ax).length:Int))=true›
     show ds.length-(p.1+1)<ds.length-p.1
     omega
    ·have hge:ds.length≤p.1:=by simpa using ‹decide ((p.1:Int)<((ds.map ax).length:Int))=false›
     rw[zo hv hl hof,hs,W7 hge];rfl
   ·have hb2:(!ofF ds xs)=true:=by simp[hof]
    repeat' (first|(refine h1H ?_;(refine h0H ?_;first|refine ae J J J J J J J J (ru _) J ?_|refine ae J J J J J J J J (JZ _ _) J ?_))|refine wG ?_)
    all_goals (rw[F6 hv hl (by simpa using hof)];rfl)
  ·have hb1:(((xs.map aA).length:Int) != ((ds.map ax).length:Int))=true:=by simp;omega
   repeat' (first|(refine h1H ?_;(refine h0H ?_;refine ae J J J J J J J J (ru _) J ?_))|refine wG ?_)
   all_goals (rw[F5 hv hl];rfl)
 ·have hb0:((aQ ds).2 != 0)=true:=by simp[hv]
  repeat' (first|(refine h1H ?_;(refine h0H ?_;refine ae J J J J J J J J (ru _) J ?_))|refine wG ?_)
  all_goals (rw[F4 hv];rfl)
theorem Im{ds:List Dim}{k:Int}(h:(aQ ds).2≠0):od ds k=(none,(aQ ds).2):=by unfold od;rw[if_pos h]
theorem zp{ds:List Dim}{k:Int}(h:(aQ ds).2=0)(h2:k<0∨(aQ ds).1≤k):od ds k=(none,3):=by unfold od;rw[if_neg (by simp[h]),if_pos h2]
theorem BR{ds:List Dim}{k:Int}(h:(aQ ds).2=0)(h2:¬ (k<0∨(aQ ds).1≤k)):od ds k=(some (unG ds k).1,0):=by unfold od;rw[if_neg (by simp[h]),if_neg h2]
def MX:Option (List Int)×Int→AV
 | (some x,e)=>.tup [(false,[.d (ar x)]),(false,[.d (.int .i64 e)])]
 | (none,e)=>.tup [(false,[.d .nil]),(false,[.d (.int .i64 e)])]
theorem Pz{j:Nat}{X:List Int}{y:Int}:(List.replicate (j+1) 0++X).set j y=List.replicate j 0++y::X:=by
 induction j with
 | zero=>rfl
 | succ j ih=>show 0::(List.replicate (j+1) 0++X).set j y=_;rw[ih];rfl
theorem MY{ds:List Dim}{k:Int}{j:Nat}(h:j<ds.length):unG (ds.drop j) k=(((at_ ds j).lo+(unG (ds.drop (j+1)) k).2 % bT (at_ ds j))::(unG (ds.drop (j+1)) k).1,(unG (ds.drop (j+1)) k).2 / bT (at_ ds j)):=by
 rw[au h];rfl
theorem PA{a e:Int}(h0:0≤a)(h1:a≤4611686018427387904)(he:1≤e):IntKind.i64.wrap (a / e)=a / e∧0≤a / e∧a / e≤4611686018427387904:=by
 have h2:0≤a / e:=Int.ediv_nonneg h0 (by omega)
 have h3:a / e≤a:=Int.ediv_le_self _ h0
 exact⟨fx (by omega) (by omega),h2,by omega⟩
theorem Rr{a e lo hi:Int}(he:e=hi-lo+1)(h:-1073741824≤lo∧lo≤1073741824∧lo≤hi∧hi≤1073741825):IntKind.i64.wrap (lo+a % e)=lo+a % e:=by
 have h1:=Int.emod_nonneg a (b:=e) (by omega)
 have h2:=Int.emod_lt_of_pos a (b:=e) (by omega)
 exact fx (by omega) (by omega)
theorem Te(l:List Int)(v:Int):CallA Tryz.prog 249 [.one (.d (ar l)),.one (.d (.int .i64 v))] [] (.one (.d (.int .i64 (aK (fun x=>v==x) l 0)))) []:=by
 refine enter af Tryz.func249 rfl (by decide +kernel) rfl fun hok w0 σ0 φ0 M=>?_
 have h1:=hok.1.sl;clear hok;simp only[WZ] at h1;replace h1:=h1.1
 repeat' (first|refine wG ?_|(refine h2H ?_;first|refine aj J (fun h=>?_) (fun h=>?_)|refine cu 2 J [(0,_),(1,_),(7,_)] (q3Q J J J) (fun (k:Nat)=>[(8,.one (.d (.int .i64 (k:Int))))]) (fun (k:Nat)=>k≤l.length∧aK (fun x=>v==x) l 0=aK (fun x=>v==x) (l.drop k) k) (fun (k:Nat)=>l.length-k) 0 (q1Q J) ?_ (fun k ⟨hk,hs⟩=>?_))|(show Exists _;refine Exists.intro (k+1) ⟨?_,?_,wK,(q1Q J),(q3Q J J J)⟩))
 all_goals (try (((simp_all[aK,au,W7])<;>exact wL);done))
theorem Tf(l:List Int)(v:Int):CallA Tryz.prog 206 [.one (.d (ar l)),.one (.d (.int .i64 v))] [] (.one (.d (.bool (l.contains v)))) []:=by
 refine enter af Tryz.func206 rfl (by decide +kernel) rfl fun hok w0 σ0 φ0 M=>?_
 clear hok
 repeat' (first|(refine h1H ?_;(refine h0H ?_;refine ae J J J J J J J J (Te _ _) J ?_))|refine wG ?_)
 all_goals
  rw[si]
  have e:(l.any fun x=>v==x)=l.contains v:=by
   rw[XR];simp
  rw[e]
theorem LH(ys:List (List D))(l:List Int)(v:Int)(h:ys=l.map aA):CallA Tryz.prog 206 [.one (.d (.sl 1 8 ys)),.one (.d (.int .i64 v))] [] (.one (.d (.bool (l.contains v)))) []:=by
 subst h;exact Tf l v
def QS:Option (List Int)→AV
 | some ks=>.tup [(false,[.d (ar ks)]),(false,[.d (.bool true)])]
 | none=>.tup [(false,[.d .nil]),(false,[.d (.bool false)])]
theorem u9{ds:List Dim}{n:List UInt8}{r:List (List UInt8)}{acc:List Int}:eU ds acc (n::r)=if aV ds n<0 then none else if acc.contains (aV ds n) then none else eU ds (acc++[aV ds n]) r:=rfl
theorem OP(ds:List Dim)(names:List (List UInt8))(hn:names.length≤1048576):CallA Tryz.prog 138 [.one (.d (ai ds)),.one (.d (dx names)),.one (.d (.fn 139 []))] [] (QS (eU ds [] names)) []:=by
 refine enter af Tryz.func138 rfl (by decide +kernel) rfl fun hok w0 σ0 φ0 M=>?_
 clear hok
 repeat' (first|(refine h1H ?_;(refine h0H ?_;first|refine aT [10] J J J J J J J J J (LH _ ((names.take p.1).map (aV ds)) _ (by rw[WY (by rw[hr];simp;omega),hr];simp[XX,Function.comp_def])) J ?_|refine ae J J J J J J J J (OQ _ _) J ?_))|(refine h2H ?_;refine bm (bq (dl:=[10]) J) (cr ?_))|refine wG ?_|(refine h1H ?_;(refine dv ?_;refine bx J J J J (fun h=>?_) (fun h=>?_)))|(refine h2H ?_;first|refine aj J (fun h=>?_) (fun h=>?_)|refine ep 3 J (dm (s:=8) (id:=10) (k:=1) (b:=8) J J J J) [(0,_),(2,_),(12,_),(13,_)] (q4Q J J J J) (fun (bN:Bool×Bool) (p:Nat×List (List D))=>[(8,.one (.own 10 p.1)),(14,.one (.d (.int .i64 (p.1:Int))))]) (fun (bN:Bool×Bool) (p:Nat×List (List D))=>[(10,.row 1 8 p.2)]) (fun (p:Nat×List (List D))=>p.1≤names.length∧p.2=(names.take p.1).map (fun n=>aA (aV ds n))∧eU ds [] names=eU ds ((names.take p.1).map (aV ds)) (names.drop p.1)) (fun (p:Nat×List (List D))=>names.length-p.1) (0,[]) (q2Q J J) wK (fun b y=>by obtain⟨b1,b2⟩:=b;cases b1<;>cases b2<;>first|exact Imp.refl _|exact eu qN (by kernel_rfl)) ?_ (fun p ⟨hk,hr,hs⟩=>?_))|(show Exists _;refine Exists.intro ((p.1+1,p.2.take p.1++[[.int .i64 (aV ds (at_ names p.1))]])) (Exists.intro (false,false) ⟨?_,?_,wK,(q2Q J J),(q4Q J J J J)⟩)))
 ·exact⟨Xk _,rfl,rfl⟩
 ·have hlt:p.1<names.length:=by simpa using ‹decide ((p.1:Int)<((names.map bX).length:Int))=true›
  have hd:¬ aV ds (at_ names p.1)<0:=Yh ‹decide (aK (fun a:Dim=>a.name==at_ names (p.1:Int).toNat) ds 0<0)=false›
  have hc:((names.take p.1).map (aV ds)).contains (aV ds (at_ names p.1))=true:=h
  rw[hs,au hlt,u9,if_neg hd,if_pos hc];rfl
 ·have hlt:p.1<names.length:=by simpa using ‹decide ((p.1:Int)<((names.map bX).length:Int))=true›
  have hd:¬ aV ds (at_ names p.1)<0:=Yh ‹decide (aK (fun a:Dim=>a.name==at_ names (p.1:Int).toNat) ds 0<0)=false›
  have hc:¬ ((names.take p.1).map (aV ds)).contains (aV ds (at_ names p.1))=true:=by rw[XZ];exact h
  refine⟨hlt,fL (fun n=>aA (aV ds n)) names hr hlt,?_⟩
  rw[hs,au hlt,u9,if_neg hd,if_neg hc]
  show _=eU ds ((names.take (p.1+1)).map (aV ds)) (names.drop (p.1+1))
  rw[ez hlt,XB];rfl
 ·have hlt:p.1<names.length:=by simpa using ‹decide ((p.1:Int)<((names.map bX).length:Int))=true›
  show names.length-(p.1+1)<names.length-p.1
  omega
 ·have hlt:p.1<names.length:=by simpa using ‹decide ((p.1:Int)<((names.map bX).length:Int))=true›
  have hd:aV ds (at_ names p.1)<0:=Yg h
  rw[hs,au hlt,u9,if_pos hd];rfl
 ·have hge:names.length≤p.1:=by simpa using h
  have e:p.2.take p.1=((names.take p.1).map (aV ds)).map aA:=by rw[WY (by rw[hr];simp;omega),hr,XX];rfl
  rw[hs,W7 hge]
  show AV.tup [(false,[.d (.sl 1 8 (p.2.take p.1))]),_]=_
  rw[e];rfl
def kr{α:Type}(Y:List α)(z:α)(k:Nat):List α:=Y.take k++List.replicate (Y.length-k) z
theorem oO{α:Type}[Inhabited α]{Y:List α}{z:α}{k:Nat}(h:k<Y.length):(kr Y z k).set k (at_ Y k)=kr Y z (k+1):=by
 unfold kr
 have hl:(Y.take k).length=k:=by simp;omega
 obtain⟨m,hm⟩:∃ m,Y.length-k=m+1:=⟨Y.length-k-1,by omega⟩
 rw[List.set_append,if_neg (by omega),hl,Nat.sub_self,hm,List.replicate_succ,List.set_cons_zero,ez h,X5,show Y.length-(k+1)=m by omega]
 rfl
theorem qW{α:Type}{Y:List α}{z:α}:kr Y z Y.length=Y:=by simp[kr]
theorem oP{α:Type}{Y:List α}{z:α}:kr Y z 0=List.replicate Y.length z:=by simp[kr]
theorem FH(l ks:List Int)(hn:ks.length≤1000)(hks:∀ i,i<ks.length→0≤at_ ks i∧(at_ ks i).toNat<l.length):CallA Tryz.prog 140 [.one (.d (ar l)),.one (.d (ar ks))] [] (.one (.d (ar (ay l ks)))) []:=by
 refine enter af Tryz.func140 rfl (by decide +kernel) rfl fun hok w0 σ0 φ0 M=>?_
 clear hok
 repeat' (first|(refine h1H ?_;(refine h6H ?_;refine eG envOk 10 J J J (bZ (n:=ks.length) J J J J J (by simp) (by simp) (by omega) (W6 J)) J J ?_))|(refine h1H ?_;(refine nW ?_;refine s_e envOk J J J (dr J J J J J (hks _ wB).1 (dZ (hks _ wB).2)) ?_))|(refine h2H ?_;refine bm (bq (dl:=[10]) J) (cr ?_))|refine wG ?_|(refine h2H ?_;first|refine aj J (fun h=>?_) (fun h=>?_)|refine cm 3 J [(0,_),(5,_),(11,_),(12,_)] (q4Q J J J J) (fun (p:Nat×List Int×List (List D))=>[(13,.one (.d (.int .i64 (p.1:Int))))]) (fun (p:Nat×List Int×List (List D))=>[(10,.row 1 8 p.2.2)]) (fun (p:Nat×List Int×List (List D))=>p.1≤ks.length∧p.2.2=p.2.1.map aA∧p.2.2.length=ks.length∧p.2.1=kr (ay l ks) 0 p.1) (fun (p:Nat×List Int×List (List D))=>ks.length-p.1) (0,List.replicate ks.length 0,List.replicate ks.length [.int .i64 0]) (q1Q J) wK ?_ (fun p ⟨hk,hr,hrl,hx⟩=>?_))|(show Exists _;refine Exists.intro ((p.1+1,p.2.1.set p.1 (at_ l (at_ ks p.1).toNat),p.2.2.set p.1 [.int .i64 (at_ l (at_ ks p.1).toNat)])) ⟨?_,?_,wK,(q1Q J),(q4Q J J J J)⟩))
 ·exact⟨Xk _,by simp[aA],by simp,by rw[oP];simp[ay]⟩
 ·have hlt:p.1<ks.length:=by simpa using h
  refine⟨hlt,?_,by simp[hrl],?_⟩
  ·show p.2.2.set p.1 _=List.map aA (p.2.1.set p.1 _)
   rw[hr,XW];rfl
  ·show p.2.1.set p.1 _=kr (ay l ks) 0 (p.1+1)
   rw[hx,← oO (by rw[bQ];exact hlt),gh hlt]
 ·have hlt:p.1<ks.length:=by simpa using h
  show ks.length-(p.1+1)<ks.length-p.1
  omega
 ·have hge:ks.length≤p.1:=by simpa using h
  have e:p.2.2.take ks.length=(ay l ks).map aA:=by
   rw[WY (by omega),hr,hx,show p.1=(ay l ks).length by rw[bQ];omega,qW]
  show AV.one (AC.d (.sl 1 8 (p.2.2.take ks.length)))=_
  rw[e];rfl
theorem Be(l:List Dim)(ks:List Int)(hn:ks.length≤1000)(hks:∀ i,i<ks.length→0≤at_ ks i∧(at_ ks i).toNat<l.length):CallA Tryz.prog 141 [.one (.d (ai l)),.one (.d (ar ks))] [] (.one (.d (ai (ay l ks)))) []:=by
 refine enter af Tryz.func141 rfl (by decide +kernel) rfl fun hok w0 σ0 φ0 M=>?_
 clear hok
 repeat' (first|(refine h1H ?_;(refine h6H ?_;refine eG envOk 10 J J J (bZ (n:=ks.length) J J J J J (by simp) (by simp) (by omega) (W6 J)) J J ?_))|(refine h1H ?_;(refine nW ?_;refine s_e envOk J J J (dr J J J J J (hks _ wB).1 (dZ (hks _ wB).2)) ?_))|(refine h2H ?_;refine bm (bq (dl:=[10]) J) (cr ?_))|refine wG ?_|(refine h2H ?_;first|refine aj J (fun h=>?_) (fun h=>?_)|refine cm 3 J [(0,_),(5,_),(11,_),(12,_)] (q4Q J J J J) (fun (p:Nat×List Dim×List (List D))=>[(13,.one (.d (.int .i64 (p.1:Int))))]) (fun (p:Nat×List Dim×List (List D))=>[(10,.row 3 32 p.2.2)]) (fun (p:Nat×List Dim×List (List D))=>p.1≤ks.length∧p.2.2=p.2.1.map ax∧p.2.2.length=ks.length∧p.2.1=kr (ay l ks) ⟨[],0,0⟩ p.1) (fun (p:Nat×List Dim×List (List D))=>ks.length-p.1) (0,List.replicate ks.length ⟨[],0,0⟩,List.replicate ks.length [.str [],.int .i64 0,.int .i64 0]) (q1Q J) wK ?_ (fun p ⟨hk,hr,hrl,hx⟩=>?_))|(show Exists _;refine Exists.intro ((p.1+1,p.2.1.set p.1 (at_ l (at_ ks p.1).toNat),p.2.2.set p.1 [.str (at_ l (at_ ks p.1).toNat).name,.int .i64 (at_ l (at_ ks p.1).toNat).lo,.int .i64 (at_ l (at_ ks p.1).toNat).hi])) ⟨?_,?_,wK,(q1Q J),(q4Q J J J J)⟩))
 ·exact⟨Xk _,by simp[ax],by simp,by rw[oP];simp[ay]⟩
 ·have hlt:p.1<ks.length:=by simpa using h
  refine⟨hlt,?_,by simp[hrl],?_⟩
  ·show p.2.2.set p.1 _=List.map ax (p.2.1.set p.1 _)
   rw[hr,XW];rfl
  ·show p.2.1.set p.1 _=kr (ay l ks) ⟨[],0,0⟩ (p.1+1)
   rw[hx,← oO (by rw[bQ];exact hlt),gh hlt]
 ·have hlt:p.1<ks.length:=by simpa using h
  show ks.length-(p.1+1)<ks.length-p.1
  omega
 ·have hge:ks.length≤p.1:=by simpa using h
  have e:p.2.2.take ks.length=(ay l ks).map ax:=by
   rw[WY (by omega),hr,hx,show p.1=(ay l ks).length by rw[bQ];omega,qW]
  show AV.one (AC.d (.sl 3 32 (p.2.2.take ks.length)))=_
  rw[e];rfl
theorem tv(l:List Attr)(hne:0<l.length):CallA Tryz.prog 145 [.one (.d (ao l))] [] (.one (.own 0 l.length)) [(0,.row 2 24 (l.map aS))]:=by
 refine enter af Tryz.func145 rfl (by decide +kernel) rfl fun hok w0 σ0 φ0 M=>?_
 have h1:=hok.1.sl;clear hok;simp only[WZ] at h1
 repeat' (first|(refine h1H ?_;(refine h5H ?_;refine dz af J J J J J J (fun r hr=>?_)))|(refine h1H ?_;(refine h0H ?_;refine c6 af J J J J J (id:=0) J J J J J J J (by simp only[WZ,Xp];omega) (by simp only[WZ,Xp];omega) ?_))|refine wG ?_|(refine h2H ?_;refine aj J (fun h=>?_) (fun h=>?_)))
 ·have e:=hr (by simpa using h)
  simp only[List.map_eq_nil_iff] at e
  subst e;simp at hne
 ·simp
theorem QA(ds:List Dim)(ats:List Attr)(cs:List Cell)(hd:cs.Pairwise cE)(hne:0<ds.length)(hna:0<ats.length)(h4:cs.length≤4096):CallA Tryz.prog 99 [.one (.d (ai ds)),.one (.d (ao ats)),.one (.d (aC cs))] [] (.tup [(true,[.own 2 ds.length,.own 4 ats.length,.d (aC (cg cs))]),(false,[.d (.int .i64 0)])]) [(2,.row 3 32 (ds.map ax)),(4,.row 2 24 (ats.map aS))]:=by
 refine enter af Tryz.func99 rfl (by decide +kernel) rfl fun hok w0 σ0 φ0 M=>?_
 have h1:=hok.2.2.1.sl;clear hok;simp only[WZ] at h1;replace h1:=h1.1
 have hb:decide (4096<((cs.map al).length:Int))=false:=by simp;omega
 repeat' (first|(refine h1H ?_;(refine h0H ?_;first|refine cS 2 [] (rav':=.one (.own 2 ds.length)) (kU ds hne) J J J J J J trivial b7 J J J J ?_|refine cS 4 [] (rav':=.one (.own 4 ats.length)) (tv ats hna) J J J J J J trivial b7 J J J J ?_|refine Hv 10 cs J J J J J J J J (hr.trans (AO _ (by first|omega|(simp only[Yi,Yj,WZ] at *;omega)))) (by first|omega|(simp only[Yi,Yj,WZ] at *;omega)) hd J ?_))|(refine h2H ?_;refine bm (bq (dl:=[10]) J) (cr ?_))|(refine h4H ?_;(refine h3H ?_;first|refine bz 16 J J J J J J J J (Ox _) J J ?_|refine bz 16 J J J J J J J J (Oy _) J J ?_))|refine wG ?_|(refine h2H ?_;first|refine aj J (fun h=>?_) (fun h=>?_)|refine ep 5 J (jE 1 2 10 (k:=2) (b:=48) J J (by kernel_rfl)) [(6,_),(8,_),(20,_),(21,_)] (q4Q J J J J) (fun (bN:Bool×Bool) (p:Nat×List (List D))=>[(22,.one (.d (.int .i64 (p.1:Int))))]) (fun (bN:Bool×Bool) (p:Nat×List (List D))=>[(1,.box [.own 2 ds.length,.own 4 ats.length,.own (nmA bN) p.1]),((nmA bN),.row 2 48 p.2),(2,.row 3 32 (ds.map ax)),(4,.row 2 24 (ats.map aS)),(0,.box [.d .nil,.d .nil,.d .nil])]) (fun (p:Nat×List (List D))=>p.1≤cs.length∧p.2=(cs.take p.1).map al) (fun (p:Nat×List (List D))=>cs.length-p.1) (0,[]) (q1Q J) wK (fun b y=>by obtain⟨b1,b2⟩:=b;cases b1<;>cases b2<;>first|exact Imp.refl _|exact eu qN (by kernel_rfl)) ?_ (fun p ⟨hk,hr⟩=>?_))|(show Exists _;refine Exists.intro ((p.1+1,p.2.take p.1++[al (at_ cs p.1)])) (Exists.intro (true,false) ⟨?_,?_,wK,(q1Q J),(q4Q J J J J)⟩)))
 all_goals first
  | exact⟨Xk _,rfl⟩
  | (have hlt:p.1<cs.length:=by simpa using h
     exact⟨hlt,uH al cs hlt ▸ hr ▸ rfl⟩)
  | (have hlt:p.1<cs.length:=by simpa using h
     show cs.length-(p.1+1)<cs.length-p.1
     omega)
  | (have hge:cs.length≤p.1:=by simpa using h
     show AV.tup [(true,[.own 2 ds.length,.own 4 ats.length,.d (.sl 2 48 (((cg cs).map al).take p.1))]),_]=_
     rw[WY (by simp only[WZ,eE];exact hge)]
     rfl)
  | skip
theorem vE(a:Arr)(name:List UInt8):CallA Tryz.prog 143 [.agg [.d (ai a.dims),.d (ao a.attrs),.d (aC a.cells)],.one (.d (.str name))] [] (.one (.d (.bool (cC a name)))) []:=by
 refine enter af Tryz.func143 rfl (by decide +kernel) rfl fun hok w0 σ0 φ0 M=>?_
 clear hok
 repeat' (first|(refine h1H ?_;(refine h0H ?_;first|refine ae J J J J J J J J (nU _ _ _ _) J ?_|refine ae J J J J J J J J (xO _ _ _ _) J ?_))|refine wG ?_|(refine h1H ?_;(refine dv ?_;refine bx J J J J (fun h=>?_) (fun h=>?_))))
 ·have e:cC a name=decide (0≤aK (fun x:Attr=>x.name==name) a.attrs 0):=by
   show (decide (0≤aK (fun x:Dim=>x.name==name) a.dims 0)||_)=_
   rw[h];rfl
  rw[e]
 ·have e:cC a name=true:=by
   show (decide (0≤aK (fun x:Dim=>x.name==name) a.dims 0)||_)=_
   rw[h];rfl
  rw[e]
theorem Jy(a:Arr)(n m:List UInt8) :
  ((!aG [a])=true∧iw a n m=(none,2)) ∨
  ((!aG [a])=false∧(!cC a n)=true∧iw a n m=(none,11)) ∨
  ((!aG [a])=false∧(!cC a n)=false∧(!cW m)=true∧iw a n m=(none,11)) ∨
  ((!aG [a])=false∧(!cC a n)=false∧(!cW m)=false∧(!(m==n))=true∧cC a m=true∧iw a n m=(none,11)) ∨
  ((!aG [a])=false∧(!cC a n)=false∧(!cW m)=false∧((!(m==n))=false∨((!(m==n))=true∧cC a m=false))∧Ren a n m∧iw a n m=(some (kR a n m),0)):=by
 by_cases hc:aF a=0
 rotate_left
 ·exact .inl ⟨by simp[aG,hc],by unfold iw;rw[if_pos hc]⟩
 have hv:(!aG [a])=false:=by simp[aG,hc]
 have key:iw a n m=if !cC a n||!cW m||(!(m==n)&&cC a m) then (none,11) else (some (kR a n m),0):=by unfold iw;rw[if_neg (by simp[hc])]
 cases h1:cC a n
 ·exact .inr (.inl ⟨hv,rfl,by rw[key];simp[h1]⟩)
 cases h2:cW m
 ·exact .inr (.inr (.inl ⟨hv,rfl,rfl,by rw[key];simp[h1,h2]⟩))
 have hR:¬ (!(m==n)&&cC a m)=true→Ren a n m∧iw a n m=(some (kR a n m),0):=fun h3=>by
  rcases vQ a n m hc with⟨e,he,h4⟩|h4
  ·rw[key,if_neg (by simpa[h1,h2] using h3)] at h4
   simp at h4
  ·exact h4
 cases h3:(m==n)
 ·cases h4:cC a m
  ·obtain⟨r1,r2⟩:=hR (by simp[h3,h4])
   exact .inr (.inr (.inr (.inr ⟨hv,rfl,rfl,.inr ⟨rfl,rfl⟩,r1,r2⟩)))
  ·exact .inr (.inr (.inr (.inl ⟨hv,rfl,rfl,rfl,rfl,by rw[key];simp[h1,h2,h3,h4]⟩)))
 ·obtain⟨r1,r2⟩:=hR (by simp[h3])
  exact .inr (.inr (.inr (.inr ⟨hv,rfl,rfl,.inl rfl,r1,r2⟩)))
theorem Sa(ds:List Dim)(ats:List Attr)(cs:D)(name:List UInt8)(k:Nat)(h:atX ats name=(k:Int)):CallA Tryz.prog 148 [.agg [.d (ai ds),.d (ao ats),.d cs],.one (.d (.str name))] [] (.one (.d (.int .i64 (k:Int)))) []:=by
 have h1:=xO ds ats cs name
 unfold atX at h
 rw[h] at h1;exact h1
theorem Se(ds:List Dim)(ats:List Attr)(cs:D)(name:List UInt8)(k:Nat)(h:aV ds name=(k:Int)):CallA Tryz.prog 126 [.agg [.d (ai ds),.d (ao ats),.d cs],.one (.d (.str name))] [] (.one (.d (.int .i64 (k:Int)))) []:=by
 have h1:=nU ds ats cs name
 unfold aV at h
 rw[h] at h1;exact h1
theorem Oa{ds:List Dim}{k:Nat}{d:Dim}:(ds.map ax).set k (ax d)=(ds.set k d).map ax:=by rw[XW]
theorem Lv{ds:List Attr}{k:Nat}{d:Attr}:(ds.map aS).set k (aS d)=(ds.set k d).map aS:=by rw[XW]
set_option maxHeartbeats 8000000 in
theorem c48(a:Arr)(n m:List UInt8):CallA Tryz.prog 48 [aO a,.one (.d (.str n)),.one (.d (.str m))] [] (dE (iw a n m)) []:=by
 unfold aO
 refine enter af Tryz.func48 rfl (by decide +kernel) rfl fun hok w0 σ0 φ0 M=>?_
 clear hok
 rcases Jy a n m with⟨hv,e⟩|⟨hv,hb1,e⟩|⟨hv,hb1,hb2,e⟩|⟨hv,hb1,hb2,hb3,hb4,e⟩|⟨hv,hb1,hb2,hb34,hR,e⟩
 all_goals rw[e]
 rotate_right
 have hcn:=hR.oka.few
 have hd1:=hR.oka.dims.1
 have ha1:=(bA hR.oka.sch).2.1
 have hso:=BA hR.oka.srt
 rcases hR.which with⟨k,hX,hk,hn,e2⟩|⟨hnd,k,hX,hk,hn,e2⟩
 all_goals (try rw[e2])
 ·have hp:decide (0≤(k:Int))=true:=by simp
  rcases hb34 with hb3|⟨hb3,hb4⟩
  repeat' (first|(refine h1H ?_;(refine h0H ?_;first|refine aT [2] J J J J J J J J J (c96 [a]) J ?_|refine cS 16 [] (rav':=.tup [(true,[.own 18 a.dims.length,.own 20 a.attrs.length,.d (aC (cg a.cells))]),(false,[.d (.int .i64 0)])]) (QA a.dims a.attrs a.cells (bW hR.oka.srt) (by omega) (by omega) hcn) J J J J J J trivial b7 J J J J ?_|refine ae J J J J J J J J (sq _) J ?_|refine ae J J J J J J J J (vE a _) J ?_|refine ae J J J J J J J J (Se a.dims a.attrs _ n k hX) J ?_))|(refine h2H ?_;refine bm (bq (dl:=[18,20]) J) (cr ?_))|refine wG ?_)
  all_goals
   show AV.tup [(true,[.d (.sl 3 32 (((a.dims.map ax).set k (ax ⟨m,(at_ a.dims k).lo,(at_ a.dims k).hi⟩)).take a.dims.length)),.d (.sl 2 24 ((a.attrs.map aS).take a.attrs.length)),.d (aC (cg a.cells))]),(false,[.d (.int .i64 0)])]=_
   rw[Oa,WY (by simp),WY (by simp),hso]
   rfl
 ·have hp:decide (0≤aK (fun x:Dim=>x.name==n) a.dims 0)=false:=by
   have:¬ 0≤aV a.dims n:=fun hh=>hnd (dimX_mem.1 hh)
   exact decide_eq_false this
  rcases hb34 with hb3|⟨hb3,hb4⟩
  repeat' (first|(refine h1H ?_;(refine h0H ?_;first|refine aT [2] J J J J J J J J J (c96 [a]) J ?_|refine cS 16 [] (rav':=.tup [(true,[.own 18 a.dims.length,.own 20 a.attrs.length,.d (aC (cg a.cells))]),(false,[.d (.int .i64 0)])]) (QA a.dims a.attrs a.cells (bW hR.oka.srt) (by omega) (by omega) hcn) J J J J J J trivial b7 J J J J ?_|refine ae J J J J J J J J (sq _) J ?_|refine ae J J J J J J J J (vE a _) J ?_|refine ae J J J J J J J J (nU _ _ _ _) J ?_))|(refine h2H ?_;refine bm (bq (dl:=[18,20]) J) (cr ?_))|(refine h4H ?_;(refine h3H ?_;refine d_l J J (bM J J J J J J (Sa a.dims a.attrs _ n k hX) J) ?_))|refine wG ?_)
  all_goals
   show AV.tup [(true,[.d (.sl 3 32 ((a.dims.map ax).take a.dims.length)),.d (.sl 2 24 (((a.attrs.map aS).set k (aS ⟨m,(at_ a.attrs k).type⟩)).take a.attrs.length)),.d (aC (cg a.cells))]),(false,[.d (.int .i64 0)])]=_
   rw[Lv,WY (by simp),WY (by simp),hso]
   rfl
 repeat' (first|(refine h1H ?_;(refine h0H ?_;first|refine aT [2] J J J J J J J J J (c96 [a]) J ?_|refine ae J J J J J J J J (sq _) J ?_|refine ae J J J J J J J J (vE a _) J ?_))|refine wG ?_)
 all_goals rfl
def iv(ats:List Attr):List Int→List (List UInt8)→Option (List Int)
 | acc,[]=>some acc
 | acc,n::r=>if atX ats n<0 then none else if acc.contains (atX ats n) then none else iv ats (acc++[atX ats n]) r
theorem sn{ats:List Attr}{n:List UInt8}{r:List (List UInt8)}{acc:List Int}:iv ats acc (n::r)=if atX ats n<0 then none else if acc.contains (atX ats n) then none else iv ats (acc++[atX ats n]) r:=rfl
theorem xu{ats:List Attr}:∀ {names:List (List UInt8)} {acc ks:List Int},iv ats acc names=some ks→ks=acc++names.map (atX ats)∧(∀ n∈names,¬ atX ats n<0)∧(acc.Nodup→ks.Nodup)
 | [],acc,ks,h=>by
   simp only[iv,W5] at h
   subst h;simp
 | n::r,acc,ks,h=>by
   simp only[iv] at h
   split at h
   ·cases h
   split at h
   ·cases h
   rename_i h1 h2
   obtain⟨e1,e2,e3⟩:=xu h
   refine⟨by rw[e1];simp,fun x hx=>?_,fun hn=>e3 ?_⟩
   ·rcases Xo.1 hx with rfl|hx
    ·exact h1
    ·exact e2 x hx
   ·have h3:atX ats n ∉ acc:=by simpa using h2
    rw[List.nodup_append]
    exact⟨hn,by simp,fun a ha b hb=>by rw[X6.1 hb];rintro rfl;exact h3 ha⟩
def pjC(ks:List Int)(c:Cell):Cell:=⟨c.at',ay c.vals ks⟩
def fz(a:Arr)(names:List (List UInt8)):Option Arr×Int :=
 if aF a≠0∨names.length=0 then (none,2)
 else match iv a.attrs [] names with
  | none=>(none,11)
  | some ks=>cn a.dims (ay a.attrs ks) (a.cells.map (pjC ks))
def OU:Option (List Int)→AV
 | some ks=>.tup [(false,[.d (ar ks)]),(false,[.d (.bool true)])]
 | none=>.tup [(false,[.d .nil]),(false,[.d (.bool false)])]
theorem OV(ds:List Attr)(names:List (List UInt8))(hn:names.length≤1048576):CallA Tryz.prog 150 [.one (.d (ao ds)),.one (.d (dx names)),.one (.d (.fn 151 []))] [] (OU (iv ds [] names)) []:=by
 refine enter af Tryz.func150 rfl (by decide +kernel) rfl fun hok w0 σ0 φ0 M=>?_
 clear hok
 repeat' (first|(refine h1H ?_;(refine h0H ?_;first|refine aT [10] J J J J J J J J J (LH _ ((names.take p.1).map (atX ds)) _ (by rw[WY (by rw[hr];simp;omega),hr];simp[XX,Function.comp_def])) J ?_|refine ae J J J J J J J J (OW _ _) J ?_))|(refine h2H ?_;refine bm (bq (dl:=[10]) J) (cr ?_))|refine wG ?_|(refine h1H ?_;(refine dv ?_;refine bx J J J J (fun h=>?_) (fun h=>?_)))|(refine h2H ?_;first|refine aj J (fun h=>?_) (fun h=>?_)|refine ep 3 J (dm (s:=8) (id:=10) (k:=1) (b:=8) J J J J) [(0,_),(2,_),(12,_),(13,_)] (q4Q J J J J) (fun (bN:Bool×Bool) (p:Nat×List (List D))=>[(8,.one (.own 10 p.1)),(14,.one (.d (.int .i64 (p.1:Int))))]) (fun (bN:Bool×Bool) (p:Nat×List (List D))=>[(10,.row 1 8 p.2)]) (fun (p:Nat×List (List D))=>p.1≤names.length∧p.2=(names.take p.1).map (fun n=>aA (atX ds n))∧iv ds [] names=iv ds ((names.take p.1).map (atX ds)) (names.drop p.1)) (fun (p:Nat×List (List D))=>names.length-p.1) (0,[]) (q2Q J J) wK (fun b y=>by obtain⟨b1,b2⟩:=b;cases b1<;>cases b2<;>first|exact Imp.refl _|exact eu qN (by kernel_rfl)) ?_ (fun p ⟨hk,hr,hs⟩=>?_))|(show Exists _;refine Exists.intro ((p.1+1,p.2.take p.1++[[.int .i64 (atX ds (at_ names p.1))]])) (Exists.intro (false,false) ⟨?_,?_,wK,(q2Q J J),(q4Q J J J J)⟩)))
 ·exact⟨Xk _,rfl,rfl⟩
 ·have hlt:p.1<names.length:=by simpa using ‹decide ((p.1:Int)<((names.map bX).length:Int))=true›
  have hd:¬ atX ds (at_ names p.1)<0:=Yh ‹decide (aK (fun a:Attr=>a.name==at_ names (p.1:Int).toNat) ds 0<0)=false›
  have hc:((names.take p.1).map (atX ds)).contains (atX ds (at_ names p.1))=true:=h
  rw[hs,au hlt,sn,if_neg hd,if_pos hc];rfl
 ·have hlt:p.1<names.length:=by simpa using ‹decide ((p.1:Int)<((names.map bX).length:Int))=true›
  have hd:¬ atX ds (at_ names p.1)<0:=Yh ‹decide (aK (fun a:Attr=>a.name==at_ names (p.1:Int).toNat) ds 0<0)=false›
  have hc:¬ ((names.take p.1).map (atX ds)).contains (atX ds (at_ names p.1))=true:=by rw[XZ];exact h
  refine⟨hlt,fL (fun n=>aA (atX ds n)) names hr hlt,?_⟩
  rw[hs,au hlt,sn,if_neg hd,if_neg hc]
  show _=iv ds ((names.take (p.1+1)).map (atX ds)) (names.drop (p.1+1))
  rw[ez hlt,XB];rfl
 ·have hlt:p.1<names.length:=by simpa using ‹decide ((p.1:Int)<((names.map bX).length:Int))=true›
  show names.length-(p.1+1)<names.length-p.1
  omega
 ·have hlt:p.1<names.length:=by simpa using ‹decide ((p.1:Int)<((names.map bX).length:Int))=true›
  have hd:atX ds (at_ names p.1)<0:=Yg h
  rw[hs,au hlt,sn,if_pos hd];rfl
 ·have hge:names.length≤p.1:=by simpa using h
  have e:p.2.take p.1=((names.take p.1).map (atX ds)).map aA:=by rw[WY (by rw[hr];simp;omega),hr,XX];rfl
  rw[hs,W7 hge]
  show AV.tup [(false,[.d (.sl 1 8 (p.2.take p.1))]),_]=_
  rw[e];rfl
theorem Tg(l:List Val)(ks:List Int)(hn:ks.length≤1000)(hks:∀ i,i<ks.length→0≤at_ ks i∧(at_ ks i).toNat<l.length):CallA Tryz.prog 152 [.one (.d (aY l)),.one (.d (ar ks))] [] (.one (.d (aY (ay l ks)))) []:=by
 refine enter af Tryz.func152 rfl (by decide +kernel) rfl fun hok w0 σ0 φ0 M=>?_
 clear hok
 repeat' (first|(refine h1H ?_;(refine h6H ?_;refine eG envOk 10 J J J (bZ (n:=ks.length) J J J J J (by simp) (by simp) (by omega) (W6 J)) J J ?_))|(refine h1H ?_;(refine nW ?_;refine s_e envOk J J J (dr J J J J J (hks _ wB).1 (dZ (hks _ wB).2)) ?_))|(refine h2H ?_;refine bm (bq (dl:=[10]) J) (cr ?_))|refine wG ?_|(refine h2H ?_;first|refine aj J (fun h=>?_) (fun h=>?_)|refine cm 3 J [(0,_),(5,_),(11,_),(12,_)] (q4Q J J J J) (fun (p:Nat×List Val×List (List D))=>[(13,.one (.d (.int .i64 (p.1:Int))))]) (fun (p:Nat×List Val×List (List D))=>[(10,.row 4 40 p.2.2)]) (fun (p:Nat×List Val×List (List D))=>p.1≤ks.length∧p.2.2=p.2.1.map aB∧p.2.2.length=ks.length∧p.2.1=kr (ay l ks) ⟨0,0,0,[]⟩ p.1) (fun (p:Nat×List Val×List (List D))=>ks.length-p.1) (0,List.replicate ks.length ⟨0,0,0,[]⟩,List.replicate ks.length [.int .i64 0,.int .i64 0,.int .i64 0,.str []]) (q1Q J) wK ?_ (fun p ⟨hk,hr,hrl,hx⟩=>?_))|(show Exists _;refine Exists.intro ((p.1+1,p.2.1.set p.1 (at_ l (at_ ks p.1).toNat),p.2.2.set p.1 [.int .i64 (at_ l (at_ ks p.1).toNat).kind,.int .i64 (at_ l (at_ ks p.1).toNat).num,.int .i64 (at_ l (at_ ks p.1).toNat).den,.str (at_ l (at_ ks p.1).toNat).str])) ⟨?_,?_,wK,(q1Q J),(q4Q J J J J)⟩))
 ·exact⟨Xk _,by simp[aB],by simp,by rw[oP];simp[ay]⟩
 ·have hlt:p.1<ks.length:=by simpa using h
  refine⟨hlt,?_,by simp[hrl],?_⟩
  ·show p.2.2.set p.1 _=List.map aB (p.2.1.set p.1 _)
   rw[hr,XW];rfl
  ·show p.2.1.set p.1 _=kr (ay l ks) ⟨0,0,0,[]⟩ (p.1+1)
   rw[hx,← oO (by rw[bQ];exact hlt),gh hlt]
 ·have hlt:p.1<ks.length:=by simpa using h
  show ks.length-(p.1+1)<ks.length-p.1
  omega
 ·have hge:ks.length≤p.1:=by simpa using h
  have e:p.2.2.take ks.length=(ay l ks).map aB:=by
   rw[WY (by omega),hr,hx,show p.1=(ay l ks).length by rw[bQ];omega,qW]
  show AV.one (AC.d (.sl 4 40 (p.2.2.take ks.length)))=_
  rw[e];rfl
theorem Ti(l:List Attr)(ks:List Int)(hn:ks.length≤1000)(hks:∀ i,i<ks.length→0≤at_ ks i∧(at_ ks i).toNat<l.length):CallA Tryz.prog 153 [.one (.d (ao l)),.one (.d (ar ks))] [] (.one (.d (ao (ay l ks)))) []:=by
 refine enter af Tryz.func153 rfl (by decide +kernel) rfl fun hok w0 σ0 φ0 M=>?_
 clear hok
 repeat' (first|(refine h1H ?_;(refine h6H ?_;refine eG envOk 10 J J J (bZ (n:=ks.length) J J J J J (by simp) (by simp) (by omega) (W6 J)) J J ?_))|(refine h1H ?_;(refine nW ?_;refine s_e envOk J J J (dr J J J J J (hks _ wB).1 (dZ (hks _ wB).2)) ?_))|(refine h2H ?_;refine bm (bq (dl:=[10]) J) (cr ?_))|refine wG ?_|(refine h2H ?_;first|refine aj J (fun h=>?_) (fun h=>?_)|refine cm 3 J [(0,_),(5,_),(11,_),(12,_)] (q4Q J J J J) (fun (p:Nat×List Attr×List (List D))=>[(13,.one (.d (.int .i64 (p.1:Int))))]) (fun (p:Nat×List Attr×List (List D))=>[(10,.row 2 24 p.2.2)]) (fun (p:Nat×List Attr×List (List D))=>p.1≤ks.length∧p.2.2=p.2.1.map aS∧p.2.2.length=ks.length∧p.2.1=kr (ay l ks) ⟨[],0⟩ p.1) (fun (p:Nat×List Attr×List (List D))=>ks.length-p.1) (0,List.replicate ks.length ⟨[],0⟩,List.replicate ks.length [.str [],.int .i64 0]) (q1Q J) wK ?_ (fun p ⟨hk,hr,hrl,hx⟩=>?_))|(show Exists _;refine Exists.intro ((p.1+1,p.2.1.set p.1 (at_ l (at_ ks p.1).toNat),p.2.2.set p.1 [.str (at_ l (at_ ks p.1).toNat).name,.int .i64 (at_ l (at_ ks p.1).toNat).type])) ⟨?_,?_,wK,(q1Q J),(q4Q J J J J)⟩))
 ·exact⟨Xk _,by simp[aS],by simp,by rw[oP];simp[ay]⟩
 ·have hlt:p.1<ks.length:=by simpa using h
  refine⟨hlt,?_,by simp[hrl],?_⟩
  ·show p.2.2.set p.1 _=List.map aS (p.2.1.set p.1 _)
   rw[hr,XW];rfl
  ·show p.2.1.set p.1 _=kr (ay l ks) ⟨[],0⟩ (p.1+1)
   rw[hx,← oO (by rw[bQ];exact hlt),gh hlt]
 ·have hlt:p.1<ks.length:=by simpa using h
  show ks.length-(p.1+1)<ks.length-p.1
  omega
 ·have hge:ks.length≤p.1:=by simpa using h
  have e:p.2.2.take ks.length=(ay l ks).map aS:=by
   rw[WY (by omega),hr,hx,show p.1=(ay l ks).length by rw[bQ];omega,qW]
  show AV.one (AC.d (.sl 2 24 (p.2.2.take ks.length)))=_
  rw[e];rfl
theorem QT(ds:List Attr)(names:List (List UInt8))(hn:names.length≤1048576)(h:iv ds [] names=none):CallA Tryz.prog 150 [.one (.d (ao ds)),.one (.d (dx names)),.one (.d (.fn 151 []))] [] (.tup [(false,[.d .nil]),(false,[.d (.bool false)])]) []:=by
 have h1:=OV ds names hn
 rw[h] at h1;exact h1
theorem QU(ds:List Attr)(names:List (List UInt8))(hn:names.length≤1048576)(ks:List Int)(h:iv ds [] names=some ks):CallA Tryz.prog 150 [.one (.d (ao ds)),.one (.d (dx names)),.one (.d (.fn 151 []))] [] (.tup [(false,[.d (ar ks)]),(false,[.d (.bool true)])]) []:=by
 have h1:=OV ds names hn
 rw[h] at h1;exact h1
theorem MO{ats:List Attr}{n:List UInt8}(h:¬ atX ats n<0):0≤atX ats n∧(atX ats n).toNat<ats.length:=by
 obtain⟨k,h1,h2,_⟩:=ku h
 unfold atX;omega
structure SelK (ats:List Attr) (names:List (List UInt8)) (ks:List Int):Prop where
 eq:ks=names.map (atX ats)
 rng:∀ i,i<ks.length→0≤at_ ks i∧(at_ ks i).toNat<ats.length
 few:ks.length≤ats.length
theorem D1{ats:List Attr}{names:List (List UInt8)}{ks:List Int}(h:iv ats [] names=some ks):SelK ats names ks:=by
 obtain⟨e1,e2,e3⟩:=xu h
 simp only[X3] at e1
 have hr:∀ k∈ks,0≤k∧k.toNat<ats.length:=fun k hk=>by
  rw[e1] at hk
  obtain⟨n,hn,rfl⟩:=Xj.1 hk
  exact MO (e2 n hn)
 refine⟨e1,fun i hi=>hr _ (aU hi),?_⟩
 have hn:(ks.map Int.toNat).Nodup:=by
  have h4:=e3 (by simp)
  clear e1 e3 h
  induction ks with
  | nil=>simp
  | cons x r ih =>
    rw[Ys] at h4
    rw[XK,Ys]
    refine⟨fun hm=>?_,ih (fun k hk=>hr k (Xa _ hk)) h4.2⟩
    obtain⟨y,hy,he⟩:=Xj.1 hm
    have h5:=(hr x Xd).1
    have h6:=(hr y (Xa _ hy)).1
    exact h4.1 (by rw[show x=y by omega];exact hy)
 have h7:=wq hn (m:=ats.length) fun x hx=>by
  obtain⟨k,hk,rfl⟩:=Xj.1 hx
  exact (hr k hk).2
 simpa using h7
theorem FO(a:Arr)(names:List (List UInt8)) :
  ((!aG [a])=true∧fz a names=(none,2)) ∨
  ((!aG [a])=false∧(((names.map bX).length:Int)==0)=true∧fz a names=(none,2)) ∨
  ((!aG [a])=false∧(((names.map bX).length:Int)==0)=false∧iv a.attrs [] names=none∧fz a names=(none,11)) ∨
  ((!aG [a])=false∧(((names.map bX).length:Int)==0)=false∧∃ ks,iv a.attrs [] names=some ks∧SelK a.attrs names ks∧OkA a.dims a.attrs a.cells∧fz a names=(some ⟨a.dims,ay a.attrs ks,cg (a.cells.map (pjC ks))⟩,0)):=by
 by_cases hc:aF a=0
 rotate_left
 ·exact .inl ⟨by simp[aG,hc],by unfold fz;rw[if_pos (.inl hc)]⟩
 have hv:(!aG [a])=false:=by simp[aG,hc]
 refine .inr ?_
 by_cases h2:names.length=0
 ·exact .inl ⟨hv,by simp[h2],by unfold fz;rw[if_pos (.inr h2)]⟩
 have hb:(((names.map bX).length:Int)==0)=false:=by simpa using h2
 refine .inr ?_
 have hg:¬ (aF a≠0∨names.length=0):=by rintro (h|h);exact h hc;exact h2 h
 cases hs:iv a.attrs [] names with
 | none=>exact .inl ⟨hv,hb,rfl,by unfold fz;rw[if_neg hg,hs]⟩
 | some ks =>
   refine .inr ⟨hv,hb,ks,rfl,D1 hs,okA hc,?_⟩
   unfold fz
   rw[if_neg hg,hs]
   simp only[cn]
   rw[if_neg (by rw[WZ];have:=(okA hc).few;omega)]
theorem Tj(ds:List Dim)(ats:List Attr)(cs:List Cell)(ys:List (List D))(hd:cs.Pairwise cE)(hf:cs.length≤4096)(hy:ys=cs.map al):CallA Tryz.prog 99 [.one (.d (ai ds)),.one (.d (ao ats)),.one (.d (.sl 2 48 ys))] [] (.tup [(true,[.d (ai ds),.d (ao ats),.d (aC (cg cs))]),(false,[.d (.int .i64 0)])]) [] :=
 po ds ats cs _ ys hd hf rfl hy
set_option maxHeartbeats 4000000 in
theorem c50(a:Arr)(names:List (List UInt8))(hnn:names.length≤1048576):CallA Tryz.prog 50 [aO a,.one (.d (dx names))] [] (dE (fz a names)) []:=by
 unfold aO
 refine enter af Tryz.func50 rfl (by decide +kernel) rfl fun hok w0 σ0 φ0 M=>?_
 clear hok
 rcases FO a names with⟨hv,e⟩|⟨hv,hb1,e⟩|⟨hv,hb1,hs,e⟩|⟨hv,hb1,ks,hs,hK,hA,e⟩
 all_goals rw[e]
 rotate_right
 have hcn:=hA.few
 have ha6:=(bA hA.sch).2.2.1
 have hkn:ks.length≤1000:=by have:=hK.few;omega
 have hkc:∀ j,j<a.cells.length→∀ i,i<ks.length→0≤at_ ks i∧(at_ ks i).toNat<(at_ a.cells j).vals.length:=fun j hj i hi=>by
  rw[(cellF_ok.1 (hA.cel _ (aU hj))).2.1];exact hK.rng i hi
 have hdf:(a.cells.map (pjC ks)).Pairwise cE:=X4.2 ((bW hA.srt).imp fun h=>h)
 repeat' (first|(refine h1H ?_;(refine h0H ?_;first|refine aT [2] J J J J J J J J J (c96 [a]) J ?_|refine ae J J J J J J J J (QT a.attrs names hnn (by assumption)) J ?_|refine aM 16 J J J J J J J J (QU a.attrs names hnn _ hs) J J J ?_))|(refine h4H ?_;(refine h3H ?_;first|refine bz 16 J J J J J J J J (Tg (at_ a.cells (p.1:Int).toNat).vals ks hkn (hkc _ wB)) J J ?_|refine bz 16 J J J J J J J J (Ti a.attrs ks hkn hK.rng) J J ?_|refine p8 16 [10] J J J J J J J J J (Tj a.dims (ay a.attrs ks) (a.cells.map (pjC ks)) _ hdf (by rw[WZ];omega) (by rw[hr,WY (by simp;omega),WY wB,XX];rfl)) J J ?_))|refine wG ?_|(refine h2H ?_;first|refine aj J (fun h=>?_) (fun h=>?_)|refine ep 8 J (dm (s:=8) (id:=10) (k:=2) (b:=48) J J J J) [(2,_),(4,_),(6,_),(32,_),(33,_)] (q5Q J J J J J) (fun (bN:Bool×Bool) (p:Nat×List (List D))=>[(8,.one (.own (nmA bN) p.1)),(34,.one (.d (.int .i64 (p.1:Int))))]) (fun (bN:Bool×Bool) (p:Nat×List (List D))=>[((nmA bN),.row 2 48 p.2),(0,.box [.d (ai a.dims),.d (ao a.attrs),.d (aC a.cells)]),(1,.box [.d .nil,.d .nil,.d .nil])]) (fun (p:Nat×List (List D))=>p.1≤a.cells.length∧p.2=(a.cells.take p.1).map (fun c=>al (pjC ks c))) (fun (p:Nat×List (List D))=>a.cells.length-p.1) (0,[]) (q2Q J J) wK (fun b y=>by obtain⟨b1,b2⟩:=b;cases b1<;>cases b2<;>first|exact Imp.refl _|exact eu qN (by kernel_rfl)) ?_ (fun p ⟨hk,hr⟩=>?_))|(show Exists _;refine Exists.intro ((p.1+1,p.2.take p.1++[al (pjC ks (at_ a.cells p.1))])) (Exists.intro (true,false) ⟨?_,?_,wK,(q2Q J J),(q5Q J J J J J)⟩)))
 all_goals first
  | rfl
  | exact⟨Xk _,rfl⟩
  | (have hlt:p.1<a.cells.length:=by simpa using h
     exact⟨hlt,fL (fun c=>al (pjC ks c)) a.cells hr hlt⟩)
  | (have hlt:p.1<a.cells.length:=by simpa using h
     show a.cells.length-(p.1+1)<a.cells.length-p.1
     omega)
  | skip
end Go.Proofs.YtpejdgkaapnekaaGreat
namespace Go.Proofs.YtpejdgkaapnekaaGreat
open Go Go.Abs
theorem MF{a b:Arr}{c:Cell}:(jZ a b c).length≤b.cells.length:=by
 unfold jZ
 rw[WZ]
 exact XO _ _
theorem J1(a b:Arr):(eD a b).length≤a.cells.length*b.cells.length:=by
 unfold eD
 generalize a.cells=l
 induction l with
 | nil=>simp
 | cons c r ih =>
   rw[List.flatMap_cons,W9,Xq,Nat.succ_mul]
   have:=MF (a:=a) (b:=b) (c:=c)
   omega
section
variable {a b:Arr}
def S6(a:Arr):List (List UInt8):=a.dims.map Dim.name
def S7(a:Arr):List (List UInt8):=a.attrs.map Attr.name
structure TwoR (r s:Option Arr×Int) (x y z:Arr):Prop where
 eqx:r=(some x,0)
 eqy:s=(some y,0)
 tr:dY y (S6 x)=(some z,0)
 pr:fz z (S7 x)=(some x,0)
 ok:aF x=0
def jcF(k:Nat)(a b:Arr):Option Arr×Int:=if k=0 then jD a b else gS a b
end
section
variable {a:Arr}
end
end Go.Proofs.YtpejdgkaapnekaaGreat
