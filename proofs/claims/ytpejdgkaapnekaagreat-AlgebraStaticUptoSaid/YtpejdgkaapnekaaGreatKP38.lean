import Derived.Laws.BytesArg
import Derived.Laws.Concat
import Derived.Test.YtpejdgkaapnekaaGreatKP33
import Derived.Test.YtpejdgkaapnekaaGreatKP34
import Derived.Test.YtpejdgkaapnekaaGreatKP35
import Derived.Test.YtpejdgkaapnekaaGreatKP37
import Derived.Test.YtpejdgkaapnekaaGreatKP16
import Derived.Test.YtpejdgkaapnekaaGreatKP18
import Derived.Test.YtpejdgkaapnekaaGreatKP23
import Derived.Test.YtpejdgkaapnekaaGreatKP32
import Derived.Test.YtpejdgkaapnekaaGreatKP14
set_option linter.unusedVariables false
set_option linter.unusedSimpArgs false
set_option maxHeartbeats 1000000
namespace Go.Proofs.YtpejdgkaapnekaaGreat
open Go Go.Abs
def aJ(a:Arr):Arr:=⟨a.dims,a.attrs,[]⟩
def Sta(r s:Option Arr×Int):Prop:=(∃ e:Int,e≠0∧r=(none,e)∧s=(none,e))∨∃ x,r=(some x,0)∧s=(some (aJ x),0)∧bo x.dims x.attrs=0
theorem DZ{a:Arr}(h:OkA a.dims a.attrs a.cells):OkA (aJ a).dims (aJ a).attrs (aJ a).cells:=⟨h.sch,by simp[aJ],List.Pairwise.nil,fun x hx=>by cases hx⟩
theorem ec{a:Arr}(h:bf a.dims a.attrs a.cells=0):bf a.dims a.attrs []=0:=jh (DZ (okA h))
theorem b9{e:Int}(h:e≠0):Sta (none,e) (none,e):=.inl ⟨e,h,rfl,rfl⟩
theorem iN{ds:List Dim}{ats:List Attr}{l:List Cell}(h:l.length≤4096)(hs:bo ds ats=0):Sta (cn ds ats l) (cn ds ats []):=by
 unfold cn
 rw[if_neg (by omega),if_neg (by simp)]
 exact .inr ⟨_,rfl,by simp[aJ,cg],hs⟩
section
variable {a b:Arr}
theorem Hi{ds:List Dim}{ats:List Attr}{cs:List Cell}{lo hi:List Int}(ha:bf ds ats cs=0):gD ⟨ds,ats,cs⟩ lo hi=if (lo.length:Int)≠ds.length∨(hi.length:Int)≠ds.length then (none,13) else if !(cQ ds lo hi).all okD then (none,3)
  else cn (cQ ds lo hi) ats (cs.filter fun c=>bF (cQ ds lo hi) c.at'):=by
 unfold gD
 exact if_neg (fun h=>h ha)
theorem Mq{lo hi:List Int}(ha:aF a=0):Sta (gD a lo hi) (gD (aJ a) lo hi):=by
 have ha':bf a.dims a.attrs a.cells=0:=ha
 rw[show gD a lo hi=_ from Hi ha',show gD (aJ a) lo hi=_ from Hi (ec (a:=a) ha')]
 by_cases h1:(lo.length:Int)≠a.dims.length∨(hi.length:Int)≠a.dims.length
 ·rw[if_pos h1,if_pos h1];exact b9 (by decide)
 rw[if_neg h1,if_neg h1]
 by_cases h2:(!(cQ a.dims lo hi).all okD)=true
 ·rw[if_pos h2,if_pos h2];exact b9 (by decide)
 rw[if_neg h2,if_neg h2]
 refine iN ?_ (okA (Mr ha' (by omega) (by omega) (by simpa using h2))).sch
 exact Xg (XO _ _) (okA ha').few
theorem uG{ds:List Dim}{ats:List Attr}{cs:List Cell}{s:Scalar}(h:bf ds ats cs=0):b8 ds ats [] s=b8 ds ats cs s:=by
 have h0:bf ds ats []=0:=jh (DZ (a:=⟨ds,ats,cs⟩) (okA h))
 simp only[b8,h,h0]
theorem JH{s:Scalar}(ha:aF a=0):Sta (qG a s) (qG (aJ a) s):=by
 have ha':bf a.dims a.attrs a.cells=0:=ha
 unfold qG
 dsimp only[aJ]
 simp only[uG ha']
 by_cases h1:(b8 a.dims a.attrs a.cells s).2≠0
 ·rw[if_pos h1,if_pos h1];exact b9 h1
 rw[if_neg h1,if_neg h1]
 by_cases h2:(b8 a.dims a.attrs a.cells s).1≠1
 ·rw[if_pos h2,if_pos h2];exact b9 (by decide)
 rw[if_neg h2,if_neg h2]
 exact iN (Xg (XO _ _) (okA ha').few) (okA ha').sch
theorem vN{a b:Int}(h1:0≤a∧a≤4)(h2:0≤b∧b≤4):0≤cR a b∧cR a b≤4:=by
 unfold cR
 repeat' split
 all_goals omega
theorem Hj{o a b c:Int}(h1:0≤a∧a≤4)(h2:0≤b∧b≤4)(h3:0≤c∧c≤4):0≤cI o a b c∧cI o a b c≤4:=by
 have g1:=vN h1 h2
 have g2:=vN h2 h3
 unfold cI
 repeat' split
 all_goals omega
theorem AH{cst:Val→Int}{ds:List Dim}{ats:List Attr}:∀ {a:List Scalar} {e:Int},eT cst ds ats a=.inl e→e≠0
 | [],e,h=>by simp[eT] at h
 | x::r,e,h=>by
   simp only[eT] at h
   split at h
   ·rename_i h1;cases h;exact h1
   ·split at h
    ·rename_i h2;cases h;exact AH h2
    ·cases h
theorem Ms{ds:List Dim}{ats:List Attr}(hat:∀ x∈ats,1≤x.type∧x.type≤4){s:Scalar}(h:(dM dN ds ats s).2=0):1≤(dM dN ds ats s).1∧(dM dN ds ats s).1≤4:=by
 rw[pN] at h ⊢
 by_cases h1:s.op=1
 ·rw[if_pos h1]
  show 1≤dN _∧dN _≤4
  unfold dN tp
  repeat' split
  all_goals omega
 rw[if_neg h1] at h ⊢
 by_cases h2:s.op=2
 ·rw[if_pos h2] at h ⊢
  unfold mI at h ⊢
  by_cases h3:atI ats s.name<0
  ·rw[if_pos h3] at h;simp at h
  ·rw[if_neg h3]
   obtain⟨k,e1,e2,_⟩:=vO (ats:=ats) (n:=s.name) h3
   have e1':atI ats s.name=(k:Int):=e1
   rw[e1']
   exact hat _ (aU e2)
 rw[if_neg h2] at h ⊢
 by_cases h3:s.op=3
 ·rw[if_pos h3] at h ⊢
  unfold oy at h ⊢
  by_cases h4:ph ds s.name<0
  ·rw[if_pos h4] at h;simp at h
  ·rw[if_neg h4];exact⟨by show (1:Int)≤2;omega,by show (2:Int)≤4;omega⟩
 rw[if_neg h3] at h ⊢
 cases hl:eT dN ds ats s.args with
 | inl e=>rw[hl] at h;exact absurd h (AH hl)
 | inr l =>
   rw[hl] at h
   show 1≤(ch s.op l).1∧(ch s.op l).1≤4
   have h:(ch s.op l).2=0:=h
   unfold ch at h ⊢
   by_cases h5:l.all nM=true
   ·rw[if_pos h5] at h ⊢
    have ht:∀ i,0≤at_ l i∧at_ l i≤4:=fun i=>by
     by_cases hi:i<l.length
     ·have:=(XY.1 h5) _ (aU hi)
      simp only[nM,WX,Yi] at this
      omega
     ·have:at_ l i=0:=by simp[at_,Xi,List.getElem?_eq_none (by omega:l.length≤i)]
      omega
    have g:=Hj (o:=s.op) (ht 0) (ht 1) (ht 2)
    by_cases h6:cI s.op (at_ l 0) (at_ l 1) (at_ l 2)=0
    ·rw[if_pos h6] at h;simp at h
    ·rw[if_neg h6]
     show 1≤cI _ _ _ _∧cI _ _ _ _≤4
     omega
   ·rw[if_neg h5] at h;simp at h
theorem Hk{ds:List Dim}{ats:List Attr}{cs:List Cell}{name:List UInt8}{s:Scalar}(ha:bf ds ats cs=0):gE ⟨ds,ats,cs⟩ name s=if !cW name||cC ⟨ds,ats,[]⟩ name then (none,11) else if ats.length=6 then (none,9)
  else if (b8 ds ats [] s).2≠0 then (none,(b8 ds ats [] s).2) else cn ds (nN ⟨ds,ats,[]⟩ name (b8 ds ats [] s).1) (cs.map (pj ⟨ds,ats,[]⟩ s)):=by
 simp only[uG ha]
 unfold gE
 exact if_neg (fun h=>h ha)
theorem Mt{name:List UInt8}{s:Scalar}(ha:aF a=0):Sta (gE a name s) (gE (aJ a) name s):=by
 have ha':bf a.dims a.attrs a.cells=0:=ha
 have hb:aF (aJ a)=0:=ec (a:=a) ha'
 have hA:=okA ha'
 rw[show gE a name s=_ from Hk ha',show gE (aJ a) name s=_ from Hk hb,show cC ⟨a.dims,a.attrs,[]⟩ name=cC a name from rfl]
 simp only[uG ha']
 rw[show ∀ t,nN ⟨a.dims,a.attrs,[]⟩ name t=nN a name t from fun t=>rfl]
 by_cases h1:(!cW name||cC a name)=true
 ·rw[if_pos h1,if_pos h1];exact b9 (by decide)
 rw[if_neg h1,if_neg h1]
 by_cases h2:a.attrs.length=6
 ·rw[if_pos h2,if_pos h2];exact b9 (by decide)
 rw[if_neg h2,if_neg h2]
 by_cases h3:(b8 a.dims a.attrs a.cells s).2≠0
 ·rw[if_pos h3,if_pos h3];exact b9 h3
 rw[if_neg h3,if_neg h3]
 have h3:(b8 a.dims a.attrs a.cells s).2=0:=by simpa using h3
 obtain⟨s1,s2,s3,s4⟩:=bA hA.sch
 obtain⟨d1,d2,d3,d4⟩:=fp s1
 obtain⟨a1,a2⟩:=attrsGo_iff.1 s4
 simp only[Xs,Xe,not_or,Bool.not_eq_false] at h1
 have hno:name ∉ a.dims.map Dim.name∧name ∉ a.attrs.map Attr.name:=⟨fun hm=>h1.2 (hasN_iff.2 (.inl hm)),fun hm=>h1.2 (hasN_iff.2 (.inr hm))⟩
 have e:=Mu ha' (Hl h3)
 have ty:=Ms (ds:=a.dims) (s:=s) (fun x hx=>(a1 x hx).2.2) (by rw[← e];exact h3)
 rw[← e] at ty
 refine iN (by rw[WZ];exact hA.few) (fy d1 d2 d3 d4 (by simp[nN]) (by simp[nN];omega) (attrsGo_iff.2 ⟨fun x hx=>?_,?_⟩))
 ·rcases XF.1 hx with hx|hx
  ·exact a1 x hx
  ·rw[X6.1 hx]
   exact⟨h1.1,hno.1,ty⟩
 ·unfold nN
  rw[XB,List.nodup_append]
  refine⟨a2,by simp,fun x hx y hy e=>?_⟩
  simp only[XK,List.map_nil,X6] at hy
  subst hy;subst e
  exact hno.2 hx
theorem D0{ds:List Dim}{ats:List Attr}{cs:List Cell}{names:List (List UInt8)}(ha:bf ds ats cs=0)(h:names.length≠0):fz ⟨ds,ats,cs⟩ names=match iv ats [] names with
  | none=>(none,11)
  | some ks=>cn ds (ay ats ks) (cs.map (pjC ks)):=by
 unfold fz
 exact if_neg (by rintro (e|e);exact e ha;exact h e)
theorem JI{names:List (List UInt8)}(ha:aF a=0):Sta (fz a names) (fz (aJ a) names):=by
 have ha':bf a.dims a.attrs a.cells=0:=ha
 have hb:aF (aJ a)=0:=ec (a:=a) ha'
 have hA:=okA ha'
 by_cases h1:names.length=0
 ·unfold fz
  rw[if_pos (.inr h1),if_pos (.inr h1)];exact b9 (by decide)
 rw[show fz a names=_ from D0 ha h1,show fz (aJ a) names=_ from D0 hb h1]
 cases hs:iv a.attrs [] names with
 | none=>exact b9 (by decide)
 | some ks =>
   obtain⟨s1,s2,s3,s4⟩:=bA hA.sch
   obtain⟨d1,d2,d3,d4⟩:=fp s1
   obtain⟨a1,a2⟩:=attrsGo_iff.1 s4
   have hK:=D1 hs
   obtain⟨e1,e2,e3⟩:=xu hs
   simp only[X3] at e1
   have hl:ks.length=names.length:=by rw[e1];simp
   refine iN (by rw[WZ];exact hA.few) (fy d1 d2 d3 d4 (by rw[bQ];omega) (by rw[bQ];have:=hK.few;omega) (attrsGo_iff.2 ⟨fun x hx=>?_,?_⟩))
   ·obtain⟨k,hk,rfl⟩:=Xj.1 hx
    obtain⟨i,hi,rfl⟩:=cv hk
    exact a1 _ (aU (hK.rng i hi).2)
   ·have hnm:(ay a.attrs ks).map Attr.name=names:=by
     refine c5 (by simp[ay,hl]) fun i hi=>?_
     have hi':i<ks.length:=by simpa[ay] using hi
     rw[bj (by rw[bQ];exact hi'),gh hi',e1,bj (by omega)]
     obtain⟨k,g1,g2,g3⟩:=vO (e2 _ (aU (show i<names.length by omega)))
     rw[g1];exact g3
    rw[hnm]
    have:=e3 (by simp)
    rw[e1,List.Nodup,X4] at this
    exact this.imp fun h e=>h (by rw[e])
theorem AI{n m:List UInt8}(ha:aF a=0):iw a n m=if !cC a n||!cW m||(!(m==n)&&cC a m) then (none,11) else (some (kR a n m),0):=by
 unfold iw
 rw[if_neg (fun h=>h ha)]
theorem Mv{n m:List UInt8}(ha:aF a=0):Sta (iw a n m) (iw (aJ a) n m):=by
 have hb:aF (aJ a)=0:=ec (a:=a) ha
 rcases vQ a n m ha with⟨e,he,h⟩|⟨hR,h⟩
 all_goals
  rw[AI ha] at h
  rw[AI ha,AI hb,show cC (aJ a) n=cC a n from rfl,show cC (aJ a) m=cC a m from rfl]
  by_cases hc:(!cC a n||!cW m||(!(m==n)&&cC a m))=true
 ·rw[if_pos hc,if_pos hc];exact b9 (by decide)
 ·rw[if_neg hc] at h;simp at h
 ·rw[if_pos hc] at h;simp at h
 ·rw[if_neg hc,if_neg hc]
  refine .inr ⟨_,rfl,?_,(Oq hR).sch⟩
  unfold kR aJ
  dsimp only
  split<;>rfl
theorem D2{ds:List Dim}{ats:List Attr}{cs:List Cell}{es:List Dim}(ha:bf ds ats cs=0):dB ⟨ds,ats,cs⟩ es=if bo es ats≠0 then (none,bo es ats) else if (aQ ds).2≠0 then (none,(aQ ds).2) else if (aQ es).2≠0 then (none,(aQ es).2)
  else if (aQ ds).1≠(aQ es).1 then (none,13) else cn es ats (cs.map (gO ds es)):=by
 unfold dB
 exact if_neg (fun h=>h ha)
theorem JJ{es:List Dim}(ha:aF a=0):Sta (dB a es) (dB (aJ a) es):=by
 have hb:aF (aJ a)=0:=ec (a:=a) ha
 rw[show dB a es=_ from D2 ha,show dB (aJ a) es=_ from D2 hb]
 by_cases h1:bo es a.attrs≠0
 ·rw[if_pos h1,if_pos h1];exact b9 h1
 rw[if_neg h1,if_neg h1]
 by_cases h2:(aQ a.dims).2≠0
 ·rw[if_pos h2,if_pos h2];exact b9 h2
 rw[if_neg h2,if_neg h2]
 by_cases h3:(aQ es).2≠0
 ·rw[if_pos h3,if_pos h3];exact b9 h3
 rw[if_neg h3,if_neg h3]
 by_cases h4:(aQ a.dims).1≠(aQ es).1
 ·rw[if_pos h4,if_pos h4];exact b9 (by decide)
 rw[if_neg h4,if_neg h4]
 exact iN (by rw[WZ];exact (okA ha).few) (by simpa using h1)
theorem AJ{ds:List Dim}{ats:List Attr}{cs:List Cell}{names:List (List UInt8)}(ha:bf ds ats cs=0):dY ⟨ds,ats,cs⟩ names=if (names.length:Int)≠ds.length then (none,13) else match eU ds [] names with
  | none=>(none,11)
  | some ks=>cn (ay ds ks) ats (cs.map (mg ks)):=by
 unfold dY
 exact if_neg (fun h=>h ha)
theorem Hm{names:List (List UInt8)}(ha:aF a=0):Sta (dY a names) (dY (aJ a) names):=by
 have hb:aF (aJ a)=0:=ec (a:=a) ha
 have hT:=rY a names ha
 rw[show dY a names=_ from AJ ha] at hT ⊢
 rw[show dY (aJ a) names=_ from AJ hb]
 by_cases h1:(names.length:Int)≠a.dims.length
 ·rw[if_pos h1,if_pos h1];exact b9 (by decide)
 rw[if_neg h1] at hT
 rw[if_neg h1,if_neg h1]
 cases hs:eU a.dims [] names with
 | none=>exact b9 (by decide)
 | some ks =>
   have hf:(a.cells.map (mg ks)).length≤4096:=by rw[WZ];exact (okA ha).few
   refine iN hf ?_
   rw[hs] at hT
   simp only[cn] at hT
   rw[if_neg (by omega)] at hT
   rcases hT with⟨e,_,h⟩|⟨hR,h⟩
   ·simp at h
   ·simp only[XJ,W5,and_true] at h
    have:=(Mw hR).sch
    rw[← h] at this
    exact this
theorem AK:∀ ds:List Dim,eW (aJ a) ds=eW a ds
 | []=>rfl
 | d::r=>by simp only[eW,AK r];rfl
theorem yP:∀ ns:List (List UInt8),ef (aJ a) ns=ef a ns
 | []=>rfl
 | d::r=>by simp only[ef,yP r];rfl
theorem Mx{ds:List Dim}{names:List (List UInt8)}(ha:aF a=0):Sta (kT a ds names 2) (kT (aJ a) ds names 2):=by
 have ha':bf a.dims a.attrs a.cells=0:=ha
 have he:eX (aJ a) ds names=eX a ds names:=by unfold eX;rw[AK,yP];rfl
 have q1:¬ (bf a.dims a.attrs a.cells≠0∨(2:Int)<1∨(3:Int)<2):=by omega
 have q2:¬ (bf (aJ a).dims (aJ a).attrs (aJ a).cells≠0∨(2:Int)<1∨(3:Int)<2):=by
  have:bf (aJ a).dims (aJ a).attrs (aJ a).cells=0:=ec (a:=a) ha'
  omega
 unfold kT
 rw[if_neg q1,if_neg q2,he]
 by_cases h1:eX a ds names≠0
 ·rw[if_pos h1,if_pos h1];exact b9 h1
 rw[if_neg h1,if_neg h1]
 obtain⟨cs,h2⟩:=AL (src:=bG a ds) (kept:=bL a names) (ds:=ds) (rule:=2) (by omega) a.cells []
 rw[h2]
 show Sta (cn ds (ja a names) cs) (cn ds (ja a names) [])
 exact iN (by have:=Ot h2;have:=(okA ha').few;omega) (Hn (by simpa using h1)).2.2
theorem Ho{ds es:List Dim}{ats bts:List Attr}{cs ct:List Cell}{name:List UInt8}(ha:bf ds ats cs=0)(hb:bf es bts ct=0):iy ⟨ds,ats,cs⟩ ⟨es,bts,ct⟩ name=if aV ds name<0 then (none,11) else if !eh ds es then (none,13)
  else if !bP fY (ds.set (aV ds name).toNat (at_ es (aV ds name).toNat)) es∨(at_ ds (aV ds name).toNat).hi=1073741825∨(at_ es (aV ds name).toNat).hi=1073741825 then (none,13)
  else if !bP ej ats bts then (none,12)
  else if 1073741824<(dj ⟨ds,[],[]⟩ ⟨es,[],[]⟩ (aV ds name).toNat).hi then (none,3)
  else cn (ds.set (aV ds name).toNat (dj ⟨ds,[],[]⟩ ⟨es,[],[]⟩ (aV ds name).toNat)) ats (cs++ct.map (eY (aV ds name).toNat (byF ⟨ds,[],[]⟩ ⟨es,[],[]⟩ (aV ds name).toNat))):=by
 unfold iy
 exact if_neg (by rintro (e|e);exact e ha;exact e hb)
theorem My{name:List UInt8}(ha:aF a=0)(hb:aF b=0)(hl:a.cells.length+b.cells.length≤4096):Sta (iy a b name) (iy (aJ a) (aJ b) name):=by
 have ha':bf a.dims a.attrs a.cells=0:=ha
 have hb':bf b.dims b.attrs b.cells=0:=hb
 have hA:=okA ha'
 have hB:=okA hb'
 rw[show iy a b name=_ from Ho ha' hb',show iy (aJ a) (aJ b) name=_ from Ho (ec (a:=a) ha') (ec (a:=b) hb')]
 rw[show ∀ k,dj ⟨a.dims,[],[]⟩ ⟨b.dims,[],[]⟩ k=dj a b k from fun k=>rfl,show ∀ k,byF ⟨a.dims,[],[]⟩ ⟨b.dims,[],[]⟩ k=byF a b k from fun k=>rfl]
 by_cases h1:aV a.dims name<0
 ·rw[if_pos h1,if_pos h1];exact b9 (by decide)
 rw[if_neg h1,if_neg h1]
 by_cases h2:(!eh a.dims b.dims)=true
 ·rw[if_pos h2,if_pos h2];exact b9 (by decide)
 rw[if_neg h2,if_neg h2]
 obtain⟨k,hk,hk2,hk3,hk4⟩:=kA h1
 rw[hk,Xr]
 by_cases h3:(!bP fY (a.dims.set k (at_ b.dims k)) b.dims)=true∨(at_ a.dims k).hi=1073741825∨(at_ b.dims k).hi=1073741825
 ·rw[if_pos h3,if_pos h3];exact b9 (by decide)
 rw[if_neg h3,if_neg h3]
 by_cases h4:(!bP ej a.attrs b.attrs)=true
 ·rw[if_pos h4,if_pos h4];exact b9 (by decide)
 rw[if_neg h4,if_neg h4]
 by_cases h5:1073741824<(dj a b k).hi
 ·rw[if_pos h5,if_pos h5];exact b9 (by decide)
 rw[if_neg h5,if_neg h5]
 simp only[not_or,Xe,Bool.not_eq_false] at h3
 have hal:eh a.dims b.dims=true:=by simpa using h2
 have hlen:=(sameF_all.1 hal).1
 have hda:=(hA.dims.2.2.1 k hk2).1
 have hdb:=(hB.dims.2.2.1 k (by omega)).1
 have hset:=(fq rZ).1 h3.1
 have hC:Cat a b name k:=⟨hA,hB,hk2,hk3,hk4,hlen,fun i hi=>by simpa using (sameF_all.1 hal).2 i hi,fun i hi hne=>by
  have:=congrArg (fun l=>at_ l i) hset
  rw[fP hi,if_neg hne] at this
  exact this,by omega,by omega,(fq jC).1 (by simpa using h4),by have:=h5;unfold dj byF at this ⊢;dsimp only at this ⊢;omega⟩
 show Sta (cn (a.dims.set k (dj a b k)) a.attrs _) (cn (a.dims.set k (dj a b k)) a.attrs [])
 exact iN (by rw[W9,WZ];exact hl) (hC.okc hl).sch
theorem Hp{ds es:List Dim}{ats bts:List Attr}{cs ct:List Cell}:fu ⟨ds,ats,cs⟩ ⟨es,bts,ct⟩=if 4<((bR ds es).length:Int)∨6<((ats++bts).length:Int) then (none,9)
 else if (bR ds es).any pn then (none,3)
 else cn (bR ds es) (ats++bts) (eD ⟨ds,ats,cs⟩ ⟨es,bts,ct⟩):=rfl
theorem Mz(ha:OkA a.dims a.attrs a.cells)(hb:OkA b.dims b.attrs b.cells)(c1:cM a b=false)(c2:cM b a=false)(hf:(eD a b).length≤4096):Sta (fu a b) (fu (aJ a) (aJ b)):=by
 rw[show fu a b=_ from Hp,show fu (aJ a) (aJ b)=_ from Hp]
 by_cases h1:4<((bR a.dims b.dims).length:Int)∨6<((a.attrs++b.attrs).length:Int)
 ·rw[if_pos h1,if_pos h1];exact b9 (by decide)
 rw[if_neg h1,if_neg h1]
 by_cases h2:(bR a.dims b.dims).any pn=true
 ·rw[if_pos h2,if_pos h2];exact b9 (by decide)
 rw[if_neg h2,if_neg h2]
 exact iN hf (Ou ⟨ha,hb,c1,c2,by omega,by omega,by simpa using h2,hf⟩).sch
theorem AM(k:Nat)(ha:aF a=0)(hb:aF b=0)(hf:(eD a b).length≤4096):Sta (jcF k a b) (jcF k (aJ a) (aJ b)):=by
 have g1:¬ (aF a≠0∨aF b≠0):=by omega
 have g2:¬ (aF (aJ a)≠0∨aF (aJ b)≠0):=by
  have h1:aF (aJ a)=0:=ec (a:=a) ha
  have h2:aF (aJ b)=0:=ec (a:=b) hb
  omega
 have key:cM a b=false→cM b a=false→Sta (fu a b) (fu (aJ a) (aJ b)):=fun c1 c2=>Mz (okA ha) (okA hb) c1 c2 hf
 unfold jcF
 by_cases hk:k=0
 ·rw[if_pos hk,if_pos hk]
  unfold jD
  rw[if_neg g1,if_neg g2,show lL (aJ a) (aJ b)=lL a b from rfl,show cM (aJ a) (aJ b)=cM a b from rfl,show cM (aJ b) (aJ a)=cM b a from rfl]
  by_cases hc:(!lL a b)=true
  ·rw[if_pos hc,if_pos hc];exact b9 (by decide)
  ·rw[if_neg hc,if_neg hc]
   by_cases hcl:(cM a b||cM b a)=true
   ·rw[if_pos hcl,if_pos hcl];exact b9 (by decide)
   ·rw[if_neg hcl,if_neg hcl]
    rw[Xs,not_or,XZ,XZ] at hcl
    exact key hcl.1 hcl.2
 ·rw[if_neg hk,if_neg hk]
  unfold gS
  rw[if_neg g1,if_neg g2,show lL (aJ a) (aJ b)=lL a b from rfl,show cM (aJ a) (aJ b)=cM a b from rfl,show cM (aJ b) (aJ a)=cM b a from rfl]
  by_cases hcl:(lL a b||(cM a b||cM b a))=true
  ·rw[if_pos hcl,if_pos hcl];exact b9 (by decide)
  ·rw[if_neg hcl,if_neg hcl]
   rw[Xs,Xs,not_or,not_or,XZ,XZ,XZ] at hcl
   exact key hcl.2.1 hcl.2.2
theorem Hq{ds es:List Dim}{ats bts:List Attr}{cs ct:List Cell}(ha:bf ds ats cs=0)(hb:bf es bts ct=0):ji ⟨ds,ats,cs⟩ ⟨es,bts,ct⟩=if !eh ds es then (none,13) else if !bP ej ats bts then (none,12)
  else cn (ek ds es) ats (cs++ct.filter (iA cs)):=by
 unfold ji
 exact if_neg (by rintro (e|e);exact e ha;exact e hb)
theorem MA(ha:aF a=0)(hb:aF b=0)(hl:a.cells.length+b.cells.length≤4096):Sta (ji a b) (ji (aJ a) (aJ b)):=by
 have g1:¬ (aF a≠0∨aF b≠0):=by omega
 have g2:¬ (aF (aJ a)≠0∨aF (aJ b)≠0):=by
  have h1:aF (aJ a)=0:=ec (a:=a) ha
  have h2:aF (aJ b)=0:=ec (a:=b) hb
  omega
 have hf:(a.cells++b.cells.filter (iA a.cells)).length≤4096:=by
  have:=XO (iA a.cells) b.cells
  rw[W9];omega
 rw[show ji a b=_ from Hq ha hb,show ji (aJ a) (aJ b)=_ from Hq (ec (a:=a) ha) (ec (a:=b) hb)]
 by_cases h1:(!eh a.dims b.dims)=true
 ·rw[if_pos h1,if_pos h1];exact b9 (by decide)
 rw[if_neg h1,if_neg h1]
 by_cases h2:(!bP ej a.attrs b.attrs)=true
 ·rw[if_pos h2,if_pos h2];exact b9 (by decide)
 rw[if_neg h2,if_neg h2]
 have hM:Mrg a b:=⟨okA ha,okA hb,alike_iff.1 (by simpa using h1),(fq jC).1 (by simpa using h2)⟩
 exact iN hf (AN hM (by show (cg _).length≤4096;rw[eE];exact hf)).sch
end
end Go.Proofs.YtpejdgkaapnekaaGreat
namespace Go.Proofs.YtpejdgkaapnekaaGreat
open Go Go.Abs
attribute [local irreducible] aa OkC ak av aq aI OkR tt dp jM xy
set_option maxRecDepth 10000
theorem Wr(ds:List Dim):CallA Tryz.prog 205 [.one (.d (ai ds))] [] (.one (.d (.fn 248 [.ptr [ai ds]]))) []:=by
 refine enter af Tryz.func205 rfl (by decide +kernel) rfl fun hok w0 σ0 φ0 M=>?_
 clear hok
 repeat' (first|refine wG ?_)
 all_goals rfl
def KP(d:Dim):AV:=.agg [.d (.str d.name),.d (.int .i64 d.lo),.d (.int .i64 d.hi)]
theorem Ws(E:Nat→Sto)(hE:FamW E)(ds:List Dim)(hn:ds.length≤1000)
  (hY:∀ i:Int,0≤i→i<(ds.length:Int)→YieldA Tryz.prog 1000000 [.one (.d (.int .i64 i)),KP (at_ ds i.toNat)] (E (i+1).toNat) (.one (.d (.bool true))) (E i.toNat)) :
  CallA Tryz.prog 248 [.one (.yl 1000000),.one (.d (.ptr [ai ds]))] (E ds.length) (.tup []) (E 0):=by
 refine enter af Tryz.func248 rfl (by decide +kernel) rfl fun hok w0 σ0 φ0 M=>?_
 clear hok
 repeat' (first|refine wG ?_)
 refine D9 hE (fun (p:Int)=>(p+1).toNat) [] [(0,_),(1,_)] (q2Q rfl rfl) (fun (p:Int)=>[(3,.one (.d (.int .i64 p)))]) (fun p=>-1≤p∧p<(ds.length:Int)) (fun p=>(p+1).toNat) (((ds.map ax).length:Int)-1)
  (by show E _=E _;congr 1;simp) rfl (q1Q rfl) ?_ (fun p ⟨hp1,hp2⟩=>?_)
 ·refine⟨?_,?_⟩<;>simp only[WZ]<;>omega
 ·repeat' (first|refine wG ?_|(refine h2H ?_;refine aj J (fun h=>?_) (fun h=>?_)))
  ·have h0:0≤p:=by simpa using h
   refine BT [] (hY p h0 hp2) (hE.big _) (hE.big _) (hE.ins _) (hE.ins _) (hE.lp _) (hE.lp _) rfl rfl rfl rfl rfl rfl rfl rfl (by simp[dU,dG,KP,fi,bY]) rfl rfl ?_
   repeat' (first|refine wG ?_)
   refine⟨p-1,[],⟨by omega,by omega⟩,by show (p-1+1).toNat<(p+1).toNat;omega,?_,rfl,aW,ab rfl aW,ab rfl (q1Q rfl)⟩
   show E p.toNat=E (p-1+1).toNat
   congr 1;omega
  ·have h0:p<0:=by simpa using h
   have e:(p+1).toNat=0:=by omega
   refine oL [] (.inr rfl) rfl rfl rfl ⟨rfl,by rw[e]⟩ rfl (hE.big _) (hE.nd _)
def te(li:LI)(fr:List (Nat×AV))(n:Nat)(q:Int)(X:List (List D)):Sto :=
 [(1000000,.loop li fr .ready none),(1000001,.box [.d (.int .i64 q)]),(1000002,.box [.own 2000000 n]),(2000000,.row 1 8 X)]
def stJ(li:LI)(fr:List (Nat×AV))(ds:List Dim)(k:Int)(j:Nat):Sto:=te li fr ds.length (unG (ds.drop j) k).2 ((List.replicate j 0++(unG (ds.drop j) k).1).map aA)
theorem Wt(li:LI)(fr:List (Nat×AV))(ds:List Dim)(k:Int)(hf:∀ q X,iC (te li fr ds.length q X) fr=true):FamW (stJ li fr ds k):=by
 refine⟨fun a i e h=>?_,fun a=>?_,fun a=>⟨li,fr,.ready,none,rfl⟩,fun a=>rfl⟩
 ·unfold stJ te at h
  rcases ah h with⟨rfl,_⟩|⟨_,h⟩
  ·omega
  rcases ah h with⟨rfl,_⟩|⟨_,h⟩
  ·omega
  rcases ah h with⟨rfl,_⟩|⟨_,h⟩
  ·omega
  rcases ah h with⟨rfl,_⟩|⟨_,h⟩
  ·omega
  ·exact nomatch h
 ·show (iC (te li fr ds.length _ _) fr&&_)=true
  rw[hf];rfl
theorem RM(li:LI)(fr:List (Nat×AV))(ds:List Dim)(k:Int)(hn:ds.length≤1000)(hf:∀ q X,iC (te li fr ds.length q X) fr=true)
  (hY:∀ i:Int,0≤i→i<(ds.length:Int)→YieldA Tryz.prog 1000000 [.one (.d (.int .i64 i)),KP (at_ ds i.toNat)] (stJ li fr ds k (i+1).toNat) (.one (.d (.bool true))) (stJ li fr ds k i.toNat)) :
  CallA Tryz.prog 248 [.one (.yl 1000000),.one (.d (.ptr [ai ds]))] (te li fr ds.length k (List.replicate ds.length [.int .i64 0])) (.tup []) (te li fr ds.length (unG ds k).2 ((unG ds k).1.map aA)):=by
 have h:=Ws (stJ li fr ds k) (Wt li fr ds k hf) ds hn hY
 have e1:stJ li fr ds k ds.length=te li fr ds.length k (List.replicate ds.length [.int .i64 0]):=by
  unfold stJ
  rw[List.drop_length]
  simp[unG,aA]
 rw[e1] at h
 exact h
def Wu(i:Nat):Nat:=bif Nat.beq i 1000003 then 2000000 else i
def Wv(i:Nat):Nat:=bif Nat.beq i 2000000 then 5 else i
set_option maxHeartbeats 4000000 in
theorem Ww(ds:List Dim)(k:Int):CallA Tryz.prog 134 [.one (.d (ai ds)),.one (.d (.int .i64 k))] [] (MX (od ds k)) []:=by
 refine enter af Tryz.func134 rfl (by decide +kernel) rfl fun hok w0 σ0 φ0 M=>?_
 have h1:=hok.1.sl;clear hok;simp only[WZ] at h1;replace h1:=h1.1
 by_cases hv:(aQ ds).2=0
 ·have hV:=BP hv
  have hD:=hV.dok
  have hb0:((aQ ds).2 != 0)=false:=by simp[hv]
  have h4:=hD.len
  have h5:=hV.all
  by_cases hk:k<0∨(aQ ds).1≤k
  ·rcases Int.lt_or_le k 0 with hk1|hk1
   ·have hb1:decide (k<0)=true:=by simp[hk1]
    repeat' (first|(refine h1H ?_;(refine h0H ?_;refine ae J J J J J J J J (ru _) J ?_))|refine wG ?_)
    all_goals (rw[zp hv hk];rfl)
   ·have hb1:decide (k<0)=false:=by simp;omega
    have hb2:decide ((aQ ds).1≤k)=true:=by simp;omega
    repeat' (first|(refine h1H ?_;(refine h0H ?_;refine ae J J J J J J J J (ru _) J ?_))|refine wG ?_)
    all_goals (rw[zp hv hk];rfl)
  ·have hb1:decide (k<0)=false:=by simp;omega
   have hb2:decide ((aQ ds).1≤k)=false:=by simp;omega
   have hkk:k≤4611686018427387904:=by rw[hV.vol] at hk;omega
   have hbnd:∀ j,j≤ds.length→0≤(unG (ds.drop j) k).2∧(unG (ds.drop j) k).2≤4611686018427387904:=fun j hj=>by
    have he:∀ d∈ds.drop j,0<bT d:=fun d hd=>by have:=Ev hD d (List.mem_of_mem_drop hd);omega
    rw[yi he]
    have hp:=rF he
    have:=Int.ediv_le_self (cZ (ds.drop j)) (show 0≤k by omega)
    exact⟨Int.ediv_nonneg (by omega) (by omega),by omega⟩
   repeat' (first|(refine h1H ?_;(refine h6H ?_;refine eG envOk 10 J J J (bZ (n:=ds.length) J J J J J (by simp) (by simp) (by omega) (W6 J)) J J ?_))|(refine h1H ?_;(refine h0H ?_;first|refine ae J J J J J J J J (ru _) J ?_|refine aM 16 J J J J J J J J (Wr _) J J J ?_))|refine wG ?_)
   refine oH (f:=248) (caps:=[.ptr [ai ds]]) (rav:=.tup []) [0,1,10] 20 rfl rfl rfl rfl (sF Wu Wv (RM _ _ ds k (by omega) (fun q X=>?_) (fun i h0 h1=>?_)) rfl rfl rfl rfl rfl rfl rfl) rfl (fun h=>?_) (fun h=>?_)
   ·rfl
   ·obtain⟨j,rfl⟩:∃ j:Nat,i=(j:Int):=⟨i.toNat,by omega⟩
    have hjl:j<ds.length:=by omega
    have e1:((j:Int)+1).toNat=j+1:=by omega
    have e2:(j:Int).toNat=j:=rfl
    obtain⟨h0i,h1i⟩:=hbnd (j+1) (by omega)
    have hst:=MY (k:=k) hjl
    have hun:(List.replicate (j+1) 0++(unG (ds.drop (j+1)) k).1).length=ds.length:=by
     rw[W9,List.length_replicate,Ca,List.length_drop];omega
    have hset:=Pz (j:=j) (X:=(unG (ds.drop (j+1)) k).1) (y:=(at_ ds j).lo+(unG (ds.drop (j+1)) k).2 % bT (at_ ds j))
    unfold stJ
    rw[e1,e2,hst]
    dsimp only
    rw[← hset]
    generalize (unG (ds.drop (j+1)) k).2=q at h0i h1i
    generalize List.replicate (j+1) 0++(unG (ds.drop (j+1)) k).1=X at hun
    rw[XW]
    clear hst hset
    refine oM ⟨by omega,by omega⟩ rfl rfl fun w0 σ0 φ0 M B=>?_
    repeat' (first|(refine h4H ?_;(refine Ks ?_;refine d_e envOk J J J (rA J J J J h0i (Int.lt_of_lt_of_le Int.zero_lt_one (hD.ext _ (by omega)))) ?_))|(refine h4H ?_;(refine Ph ?_;refine d_e envOk J J J (kP J J J J (Rr J (hD.bnd _ (by omega)))) ?_))|(refine h4H ?_;(refine Pk ?_;refine d_e envOk J J J (nu J J J J h0i (Int.lt_of_lt_of_le Int.zero_lt_one (hD.ext _ (by omega))) (PA h0i h1i (hD.ext _ (by omega))).1) ?_))|(refine h4H ?_;(refine h3H ?_;refine d_l J J (bM J J J J J J (Kx _ _ _ (hD.bnd _ (by omega))) J) ?_))|refine wG ?_|(show dp _ _ _ _ _;refine gj J ?_ ?_))
    ·rfl
    ·exact ab (by kernel_rfl) (ab (by kernel_rfl) (ab (by kernel_rfl) (ab (by kernel_rfl) aW)))
   ·rintro ⟨w1,σ1,φ1,M1,n1,rd1,mk1⟩ ⟨hn,hrd,_⟩
    dsimp only at hn hrd
    subst hn hrd
    refine bm (uX (s':=[(0,.box [.d (.int .i64 (unG ds k).2)]),(1,.box [.own 26 ds.length]),(26,.row 1 8 ((unG ds k).1.map aA))]) (ab (by kernel_rfl) (ab (by kernel_rfl) (ab (by kernel_rfl) aW)))) ?_
    repeat' (first|(refine h2H ?_;refine bm (bq (dl:=[26]) J) (cr ?_))|refine wG ?_)
    rw[BR hv hk]
    show AV.tup [(false,[.d (.sl 1 8 (((unG ds k).1.map aA).take ds.length))]),_]=_
    rw[WY (by rw[WZ,Ca];omega)]
    rfl
   ·exact nomatch h
 ·have hb0:((aQ ds).2 != 0)=true:=by simp[hv]
  repeat' (first|(refine h1H ?_;(refine h0H ?_;refine ae J J J J J J J J (ru _) J ?_))|refine wG ?_)
  all_goals (rw[Im hv];rfl)
end Go.Proofs.YtpejdgkaapnekaaGreat
namespace Go.Proofs.YtpejdgkaapnekaaGreat
open Go Go.Abs
attribute [local irreducible] aa OkC ak av aq aI
set_option maxRecDepth 10000
theorem R8(ds:List Dim)(xs:List Int)(hv:(aQ ds).2=0)(hl:xs.length=ds.length)(h:ofF ds xs=true):CallA Tryz.prog 133 [.one (.d (ai ds)),.one (.d (ar xs))] [] (.tup [(false,[.d (.int .i64 (dy 0 ds xs))]),(false,[.d (.int .i64 0)])]) []:=by
 have h1:=Ue ds xs
 rw[zo hv (by omega) h] at h1
 exact h1
theorem R9(ds:List Dim)(k:Int)(hv:(aQ ds).2=0)(h:¬ (k<0∨(aQ ds).1≤k)):CallA Tryz.prog 134 [.one (.d (ai ds)),.one (.d (.int .i64 k))] [] (.tup [(false,[.d (ar (unG ds k).1)]),(false,[.d (.int .i64 0)])]) []:=by
 have h1:=Ww ds k
 rw[BR hv h] at h1
 exact h1
theorem Fi{a:Arr}(hA:OkA a.dims a.attrs a.cells){i:Nat}(hi:i<a.cells.length):(at_ a.cells i).at'.length=a.dims.length∧ofF a.dims (at_ a.cells i).at'=true:=by
 obtain⟨h1,h2,h3,h4⟩:=cellF_ok.1 (hA.cel _ (aU hi))
 exact⟨h1,by simp[ofF,h1,h3]⟩
theorem Qy{a:Arr}{es:List Dim}(hR:Resh a es)(hv:(aQ a.dims).2=0)(he:(aQ es).2=0){i:Nat}(hi:i<a.cells.length):¬ (dy 0 a.dims (at_ a.cells i).at'<0∨(aQ es).1≤dy 0 a.dims (at_ a.cells i).at'):=by
 obtain⟨h1,h2⟩:=hR.cell (aU hi)
 obtain⟨b1,b2⟩:=sV (n:=0) h1 h2 (by omega)
 have:=(BP he).vol
 have:=hR.same
 omega
theorem Jt{a:Arr}{es:List Dim}(h:aF a≠0):dB a es=(none,2):=by unfold dB;rw[if_pos h]
theorem Ju{a:Arr}{es:List Dim}(h:aF a=0)(h2:bo es a.attrs≠0):dB a es=(none,bo es a.attrs):=by unfold dB;rw[if_neg (by simp[h]),if_pos h2]
theorem Lq{a:Arr}{es:List Dim}(h:aF a=0)(h2:bo es a.attrs=0)(h3:(aQ a.dims).2≠0):dB a es=(none,(aQ a.dims).2):=by unfold dB;rw[if_neg (by simp[h]),if_neg (by simp[h2]),if_pos h3]
theorem Lr{a:Arr}{es:List Dim}(h:aF a=0)(h2:bo es a.attrs=0)(h3:(aQ a.dims).2=0)(h4:(aQ es).2≠0):dB a es=(none,(aQ es).2):=by unfold dB;rw[if_neg (by simp[h]),if_neg (by simp[h2]),if_neg (by simp[h3]),if_pos h4]
theorem Lt{a:Arr}{es:List Dim}(h:aF a=0)(h2:bo es a.attrs=0)(h3:(aQ a.dims).2=0)(h4:(aQ es).2=0)(h5:(aQ a.dims).1≠(aQ es).1):dB a es=(none,13):=by unfold dB;rw[if_neg (by simp[h]),if_neg (by simp[h2]),if_neg (by simp[h3]),if_neg (by simp[h4]),if_pos h5]
theorem Jv{a:Arr}{es:List Dim}(h:aF a=0)(h2:bo es a.attrs=0)(h3:(aQ a.dims).2=0)(h4:(aQ es).2=0)(h5:(aQ a.dims).1=(aQ es).1):Resh a es∧dB a es=(some (GF a es),0):=by
 rcases DI a es h with⟨e,he,h6⟩|⟨hR,_,_,_,h6⟩
 ·unfold dB at h6
  rw[if_neg (by simp[h]),if_neg (by simp[h2]),if_neg (by simp[h3]),if_neg (by simp[h4]),if_neg (by simp[h5])] at h6
  unfold cn at h6
  rw[if_neg (by rw[WZ];have:=(okA h).few;omega)] at h6
  simp at h6
 ·exact⟨hR,h6⟩
theorem G3(a:Arr)(es:List Dim) :
  ((!aG [a])=true∧(bf a.dims a.attrs a.cells != 0)=true∧dB a es=(none,2)) ∨
  ((!aG [a])=false∧(bf a.dims a.attrs a.cells != 0)=false∧(bo es a.attrs != 0)=true∧dB a es=(none,bo es a.attrs)) ∨
  ((!aG [a])=false∧(bf a.dims a.attrs a.cells != 0)=false∧(bo es a.attrs != 0)=false∧((aQ a.dims).2 != 0)=true∧dB a es=(none,(aQ a.dims).2)) ∨
  ((!aG [a])=false∧(bf a.dims a.attrs a.cells != 0)=false∧(bo es a.attrs != 0)=false∧((aQ a.dims).2 != 0)=false∧((aQ es).2 != 0)=true∧dB a es=(none,(aQ es).2)) ∨
  ((!aG [a])=false∧(bf a.dims a.attrs a.cells != 0)=false∧(bo es a.attrs != 0)=false∧((aQ a.dims).2 != 0)=false∧((aQ es).2 != 0)=false∧((aQ a.dims).1 != (aQ es).1)=true∧dB a es=(none,13)) ∨
  ((!aG [a])=false∧(bf a.dims a.attrs a.cells != 0)=false∧(bo es a.attrs != 0)=false∧((aQ a.dims).2 != 0)=false∧((aQ es).2 != 0)=false∧((aQ a.dims).1 != (aQ es).1)=false∧(aQ a.dims).2=0∧(aQ es).2=0∧Resh a es∧dB a es=(some (GF a es),0)):=by
 by_cases hc:aF a=0
 rotate_left
 ·exact .inl ⟨by simp[aG,hc],by unfold aF at hc;simp[hc],Jt hc⟩
 have hv:(!aG [a])=false:=by simp[aG,hc]
 have hw:(bf a.dims a.attrs a.cells != 0)=false:=by unfold aF at hc;simp[hc]
 by_cases h2:bo es a.attrs=0
 rotate_left
 ·exact .inr (.inl ⟨hv,hw,by simp[h2],Ju hc h2⟩)
 by_cases h3:(aQ a.dims).2=0
 rotate_left
 ·exact .inr (.inr (.inl ⟨hv,hw,by simp[h2],by simp[h3],Lq hc h2 h3⟩))
 by_cases h4:(aQ es).2=0
 rotate_left
 ·exact .inr (.inr (.inr (.inl ⟨hv,hw,by simp[h2],by simp[h3],by simp[h4],Lr hc h2 h3 h4⟩)))
 by_cases h5:(aQ a.dims).1=(aQ es).1
 rotate_left
 ·exact .inr (.inr (.inr (.inr (.inl ⟨hv,hw,by simp[h2],by simp[h3],by simp[h4],by simp[h5],Lt hc h2 h3 h4 h5⟩))))
 obtain⟨hR,e⟩:=Jv hc h2 h3 h4 h5
 exact .inr (.inr (.inr (.inr (.inr ⟨hv,hw,by simp[h2],by simp[h3],by simp[h4],by simp[h5],h3,h4,hR,e⟩))))
theorem c40(a:Arr)(es:List Dim):CallA Tryz.prog 40 [aO a,.one (.d (ai es))] [] (dE (dB a es)) []:=by
 unfold aO
 refine enter af Tryz.func40 rfl (by decide +kernel) rfl fun hok w0 σ0 φ0 M=>?_
 clear hok
 rcases G3 a es with⟨hv,hw,e⟩|⟨hv,hw,hb2,e⟩|⟨hv,hw,hb2,hb3,e⟩|⟨hv,hw,hb2,hb3,hb4,e⟩|⟨hv,hw,hb2,hb3,hb4,hb5,e⟩|⟨hv,hw,hb2,hb3,hb4,hb5,h3,h4,hR,e⟩
 all_goals rw[e]
 rotate_right
 have hcn:=hR.oka.few
 repeat' (first|(refine h1H ?_;(refine h0H ?_;first|refine aT [2] J J J J J J J J J (c96 [a]) J ?_|refine eP 16 [10] J J J J J J J J J (po es a.attrs (a.cells.map (gO a.dims es)) _ _ (IH hR) (by rw[WZ];omega) J (by rw[hr,WY (by simp;omega),WY wB,XX];rfl)) J J J ?_|refine ae J J J J J J J J (Kq _ _) J ?_|refine ae J J J J J J J J (ru _) J ?_|refine ae J J J J J J J J (R8 a.dims _ h3 (Fi hR.oka wB).1 (Fi hR.oka wB).2) J ?_|refine aM 16 J J J J J J J J (R9 es _ h4 (Qy hR h3 h4 wB)) J J J ?_))|refine wG ?_|(refine h2H ?_;first|refine aj J (fun h=>?_) (fun h=>?_)|refine ep 16 J (dm (s:=10) (id:=10) (k:=2) (b:=48) J J J J) [(1,_),(2,_),(4,_),(56,_),(57,_)] (q5Q J J J J J) (fun (bN:Bool×Bool) (p:Nat×List (List D))=>[(10,.one (.own 10 p.1)),(58,.one (.d (.int .i64 (p.1:Int))))]) (fun (bN:Bool×Bool) (p:Nat×List (List D))=>[(10,.row 2 48 p.2),(0,.box [.d (ai a.dims),.d (ao a.attrs),.d (aC a.cells)]),(1,.box [.d .nil,.d .nil,.d .nil])]) (fun (p:Nat×List (List D))=>p.1≤a.cells.length∧p.2=(a.cells.take p.1).map (fun c=>al (gO a.dims es c))) (fun (p:Nat×List (List D))=>a.cells.length-p.1) (0,[]) (q2Q J J) wK (fun b y=>by obtain⟨b1,b2⟩:=b;cases b1<;>cases b2<;>first|exact Imp.refl _|exact eu qN (by kernel_rfl)) ?_ (fun p ⟨hk,hr⟩=>?_))|(show Exists _;refine Exists.intro ((p.1+1,p.2.take p.1++[al (gO a.dims es (at_ a.cells p.1))])) (Exists.intro (false,false) ⟨?_,?_,wK,(q2Q J J),(q5Q J J J J J)⟩)))
 all_goals first
  | rfl
  | exact⟨Xk _,rfl⟩
  | (have hlt:p.1<a.cells.length:=by simpa using h
     exact⟨hlt,fL (fun c=>al (gO a.dims es c)) a.cells hr hlt⟩)
  | (have hlt:p.1<a.cells.length:=by simpa using h
     show a.cells.length-(p.1+1)<a.cells.length-p.1
     omega)
  | trace_state
end Go.Proofs.YtpejdgkaapnekaaGreat
namespace Go.Proofs.YtpejdgkaapnekaaGreat
open Go Go.Abs
attribute [local irreducible] aa OkC ak av aq aI
set_option maxRecDepth 10000
theorem Rz(ds:List Dim)(names:List (List UInt8))(hn:names.length≤1048576)(h:eU ds [] names=none):CallA Tryz.prog 138 [.one (.d (ai ds)),.one (.d (dx names)),.one (.d (.fn 139 []))] [] (.tup [(false,[.d .nil]),(false,[.d (.bool false)])]) []:=by
 have h1:=OP ds names hn
 rw[h] at h1;exact h1
theorem RB(ds:List Dim)(names:List (List UInt8))(hn:names.length≤1048576)(ks:List Int)(h:eU ds [] names=some ks):CallA Tryz.prog 138 [.one (.d (ai ds)),.one (.d (dx names)),.one (.d (.fn 139 []))] [] (.tup [(false,[.d (ar ks)]),(false,[.d (.bool true)])]) []:=by
 have h1:=OP ds names hn
 rw[h] at h1;exact h1
theorem DL(a:Arr)(names:List (List UInt8)) :
  ((!aG [a])=true∧(bf a.dims a.attrs a.cells != 0)=true∧dY a names=(none,2)) ∨
  ((!aG [a])=false∧(bf a.dims a.attrs a.cells != 0)=false∧(((names.map bX).length:Int) != ((a.dims.map ax).length:Int))=true∧dY a names=(none,13)) ∨
  ((!aG [a])=false∧(bf a.dims a.attrs a.cells != 0)=false∧(((names.map bX).length:Int) != ((a.dims.map ax).length:Int))=false∧eU a.dims [] names=none∧names.length=a.dims.length∧dY a names=(none,11)) ∨
  ((!aG [a])=false∧(bf a.dims a.attrs a.cells != 0)=false∧(((names.map bX).length:Int) != ((a.dims.map ax).length:Int))=false∧eU a.dims [] names=some (ixs a.dims names)∧Tran a names∧dY a names=(some (je a names),0)):=by
 by_cases hc:aF a=0
 rotate_left
 ·exact .inl ⟨by simp[aG,hc],by unfold aF at hc;simp[hc],by unfold dY;rw[if_pos hc]⟩
 have hv:(!aG [a])=false:=by simp[aG,hc]
 have hw:(bf a.dims a.attrs a.cells != 0)=false:=by unfold aF at hc;simp[hc]
 by_cases h2:names.length=a.dims.length
 rotate_left
 ·exact .inr (.inl ⟨hv,hw,by simp;omega,by unfold dY;rw[if_neg (by simp[hc]),if_pos (by omega)]⟩)
 have hb:(((names.map bX).length:Int) != ((a.dims.map ax).length:Int))=false:=by simp;omega
 rcases rY a names hc with⟨e,he,h3⟩|⟨hT,h3⟩
 ·cases hs:eU a.dims [] names with
  | none=>exact .inr (.inr (.inl ⟨hv,hw,hb,rfl,h2,by unfold dY;rw[if_neg (by simp[hc]),if_neg (by omega),hs]⟩))
  | some ks =>
    unfold dY at h3
    rw[if_neg (by simp[hc]),if_neg (by omega),hs] at h3
    simp only[cn] at h3
    rw[if_neg (by rw[WZ];have:=(okA hc).few;omega)] at h3
    simp at h3
 ·exact .inr (.inr (.inr ⟨hv,hw,hb,by have:=Ik (acc:=[]) hT.all (by simpa using hT.nd);simpa[ixs] using this,hT,h3⟩))
section
variable {a:Arr} {names:List (List UInt8)}
theorem Tran.rng(h:Tran a names):∀ i,i<(ixs a.dims names).length→0≤at_ (ixs a.dims names) i∧(at_ (ixs a.dims names) i).toNat<a.dims.length:=fun i hi=>by
 rw[fU] at hi
 obtain⟨k,h1,h2,_⟩:=h.ix hi
 rw[h1];exact⟨by omega,by simpa using h2⟩
theorem Tran.rngc(h:Tran a names){j:Nat}(hj:j<a.cells.length):∀ i,i<(ixs a.dims names).length→0≤at_ (ixs a.dims names) i∧(at_ (ixs a.dims names) i).toNat<(at_ a.cells j).at'.length:=fun i hi=>by
 rw[h.cell (aU hj)];exact h.rng i hi
end
set_option maxHeartbeats 4000000 in
theorem c42(a:Arr)(names:List (List UInt8))(hnn:names.length≤1048576):CallA Tryz.prog 42 [aO a,.one (.d (dx names))] [] (dE (dY a names)) []:=by
 unfold aO
 refine enter af Tryz.func42 rfl (by decide +kernel) rfl fun hok w0 σ0 φ0 M=>?_
 clear hok
 rcases DL a names with⟨hv,hw,e⟩|⟨hv,hw,hb,e⟩|⟨hv,hw,hb,hs,hl,e⟩|⟨hv,hw,hb,hs,hT,e⟩
 all_goals rw[e]
 rotate_right
 have hcn:=hT.oka.few
 have hkn:(ixs a.dims names).length≤1000:=by rw[fU,hT.len];have:=hT.oka.dims.2.1;omega
 repeat' (first|(refine h1H ?_;(refine h0H ?_;first|refine aT [2] J J J J J J J J J (c96 [a]) J ?_|refine ae J J J J J J J J (Rz a.dims names hnn (by assumption)) J ?_|refine aM 16 J J J J J J J J (RB a.dims names hnn _ (by assumption)) J J J ?_))|(refine h4H ?_;(refine h3H ?_;first|refine bz 16 J J J J J J J J (FH (at_ a.cells (p.1:Int).toNat).at' (ixs a.dims names) hkn (hT.rngc wB)) J J ?_|refine bz 16 J J J J J J J J (Be a.dims (ixs a.dims names) hkn hT.rng) J J ?_|refine p8 16 [10] J J J J J J J J J (po (ay a.dims (ixs a.dims names)) a.attrs (a.cells.map (mg (ixs a.dims names))) _ _ (zk hT) (by rw[WZ];omega) J (by rw[hr,WY (by simp;omega),WY wB,XX];rfl)) J J ?_))|refine wG ?_|(refine h2H ?_;first|refine aj J (fun h=>?_) (fun h=>?_)|refine ep 10 J (dm (s:=8) (id:=10) (k:=2) (b:=48) J J J J) [(2,_),(4,_),(6,_),(36,_),(37,_)] (q5Q J J J J J) (fun (bN:Bool×Bool) (p:Nat×List (List D))=>[(8,.one (.own (nmA bN) p.1)),(38,.one (.d (.int .i64 (p.1:Int))))]) (fun (bN:Bool×Bool) (p:Nat×List (List D))=>[((nmA bN),.row 2 48 p.2),(0,.box [.d (ai a.dims),.d (ao a.attrs),.d (aC a.cells)]),(1,.box [.d .nil,.d .nil,.d .nil])]) (fun (p:Nat×List (List D))=>p.1≤a.cells.length∧p.2=(a.cells.take p.1).map (fun c=>al (mg (ixs a.dims names) c))) (fun (p:Nat×List (List D))=>a.cells.length-p.1) (0,[]) (q2Q J J) wK (fun b y=>by obtain⟨b1,b2⟩:=b;cases b1<;>cases b2<;>first|exact Imp.refl _|exact eu qN (by kernel_rfl)) ?_ (fun p ⟨hk,hr⟩=>?_))|(show Exists _;refine Exists.intro ((p.1+1,p.2.take p.1++[al (mg (ixs a.dims names) (at_ a.cells p.1))])) (Exists.intro (true,false) ⟨?_,?_,wK,(q2Q J J),(q5Q J J J J J)⟩)))
 all_goals first
  | rfl
  | exact⟨Xk _,rfl⟩
  | (have hlt:p.1<a.cells.length:=by simpa using h
     exact⟨hlt,fL (fun c=>al (mg (ixs a.dims names) c)) a.cells hr hlt⟩)
  | (have hlt:p.1<a.cells.length:=by simpa using h
     show a.cells.length-(p.1+1)<a.cells.length-p.1
     omega)
  | trace_state
end Go.Proofs.YtpejdgkaapnekaaGreat
namespace Go.Abs
open Go
variable {P:Program} {c:Ctx} {T:Tab} {σ:Sig} {φ:Pl} {w:World}
end Go.Abs
namespace Go.Proofs.YtpejdgkaapnekaaGreat
open Go Go.Abs
attribute [local irreducible] aa OkC ak av aq aI
set_option maxRecDepth 10000
theorem o9{P:Program}{f:FuncId}{args:List AV}{r:Option Arr×Int}{y:Arr}(h:CallA P f args [] (dE r) [])(e:r=(some y,0)):CallA P f args [] (.tup [(true,[.d (ai y.dims),.d (ao y.attrs),.d (aC y.cells)]),(false,[.d (.int .i64 0)])]) []:=by
 rw[e] at h;exact h
theorem o8{P:Program}{f:FuncId}{args:List AV}{r:Option Arr×Int}{e:Int}(h:CallA P f args [] (dE r) [])(he:r=(none,e)):CallA P f args [] (.tup [(true,[.d .nil,.d .nil,.d .nil]),(false,[.d (.int .i64 e)])]) []:=by
 rw[he] at h;exact h
structure Err2 (r s:Option Arr×Int) (e:Int):Prop where
 eqx:r=(none,e)
 eqy:s=(none,e)
theorem wH{P:Program}{f:FuncId}{args args':List AV}{sto:Sto}{rav:AV}{rsto:Sto}(h:CallA P f args sto rav rsto)(hw:∀ σ φ vs,All2 (RepV σ φ sto) args' vs→All2 (RepV σ φ sto) args vs):CallA P f args' sto rav rsto :=
 ⟨h.fn,fun w σ φ vs hi ha=>h.run w σ φ vs hi (hw σ φ vs ha)⟩
theorem Ku{σ:Sig}{φ:Pl}{sto:Sto}{k b:Nat}{v:Value}(h:RepC σ φ sto (.d .nil) v):RepC σ φ sto (.d (.sl k b [])) v:=by
 have h1:=RepC.d_inv h
 cases h1
 exact .d (.sl (fun _ _=>undef) (by simp) (by simp) (by simp) (by simp) (by simp) (by simp))
end Go.Proofs.YtpejdgkaapnekaaGreat
namespace Go.Proofs.YtpejdgkaapnekaaGreat
open Go Go.Abs
attribute [local irreducible] aa OkC ak av aq aI
set_option maxRecDepth 10000
def Ru:Option Arr→D
 | none=>.nil
 | some a=>ai a.dims
def PE:Option Arr→D
 | none=>.nil
 | some a=>ao a.attrs
def PF:Option Arr→D
 | none=>.nil
 | some a=>aC a.cells
abbrev PG(r:Option Arr×Int):AV:=.tup [(true,[.d (Ru r.1),.d (PE r.1),.d (PF r.1)]),(false,[.d (.int .i64 r.2)])]
theorem fN(r:Option Arr×Int):PG r=dE r:=by rcases r with⟨_|a,e⟩<;>rfl
theorem uni{P:Program}{f:FuncId}{args:List AV}{r:Option Arr×Int}(h:CallA P f args [] (dE r) []):CallA P f args [] (PG r) []:=by rw[fN];exact h
theorem c60(x y:Arr)(lo hi:List Int) :CallA Tryz.prog 60 ([aO x,aO y]++([.ptr [ar lo],.ptr [ar hi]]:List D).map fun d=>.one (.d d)) [] (dE (gD x lo hi)) []:=by
 unfold aO
 refine enter af Tryz.func60 rfl (by decide +kernel) rfl fun hok w0 σ0 φ0 M=>?_
 clear hok
 repeat' (first|(refine h1H ?_;(refine h0H ?_;refine aM 16 J J J J J J J J (uni (c23 x lo hi)) J J J ?_))|refine wG ?_)
 all_goals exact fN _
theorem c61(x y:Arr)(s:Scalar) :CallA Tryz.prog 61 ([aO x,aO y]++([.ptr [.int .i64 s.op,.str s.name,.int .i64 s.val.kind,.int .i64 s.val.num,.int .i64 s.val.den,.str s.val.str,dD s.args]]:List D).map fun d=>.one (.d d)) [] (dE (qG x s)) []:=by
 unfold aO
 refine enter af Tryz.func61 rfl (by decide +kernel) rfl fun hok w0 σ0 φ0 M=>?_
 clear hok
 repeat' (first|(refine h1H ?_;(refine h0H ?_;refine aM 16 J J J J J J J J (uni (c26 x s)) J J J ?_))|refine wG ?_)
 all_goals exact fN _
theorem c62(x y:Arr)(n:List UInt8)(s:Scalar) :CallA Tryz.prog 62 ([aO x,aO y]++([.ptr [.str n],.ptr [.int .i64 s.op,.str s.name,.int .i64 s.val.kind,.int .i64 s.val.num,.int .i64 s.val.den,.str s.val.str,dD s.args]]:List D).map fun d=>.one (.d d)) [] (dE (gE x n s)) []:=by
 unfold aO
 refine enter af Tryz.func62 rfl (by decide +kernel) rfl fun hok w0 σ0 φ0 M=>?_
 clear hok
 repeat' (first|(refine h1H ?_;(refine h0H ?_;refine aM 16 J J J J J J J J (uni (c44 x n s)) J J J ?_))|refine wG ?_)
 all_goals exact fN _
theorem c63(x y:Arr)(names:List (List UInt8))(hn:names.length≤1048576):CallA Tryz.prog 63 ([aO x,aO y]++([.ptr [dx names]]:List D).map fun d=>.one (.d d)) [] (dE (fz x names)) []:=by
 unfold aO
 refine enter af Tryz.func63 rfl (by decide +kernel) rfl fun hok w0 σ0 φ0 M=>?_
 clear hok
 repeat' (first|(refine h1H ?_;(refine h0H ?_;refine aM 16 J J J J J J J J (uni (c50 x names hn)) J J J ?_))|refine wG ?_)
 all_goals exact fN _
theorem c64(x y:Arr)(n:List UInt8) :CallA Tryz.prog 64 ([aO x,aO y]++([.ptr [.str n]]:List D).map fun d=>.one (.d d)) [] (dE (iw x n [122,122,57])) []:=by
 unfold aO
 refine enter af Tryz.func64 rfl (by decide +kernel) rfl fun hok w0 σ0 φ0 M=>?_
 clear hok
 repeat' (first|(refine h1H ?_;(refine h0H ?_;refine aM 16 J J J J J J J J (uni (c48 x n [122,122,57])) J J J ?_))|refine wG ?_)
 all_goals exact fN _
theorem c65(x y:Arr)(dims:List Dim) :CallA Tryz.prog 65 ([aO x,aO y]++([.ptr [ai dims]]:List D).map fun d=>.one (.d d)) [] (dE (dB x dims)) []:=by
 unfold aO
 refine enter af Tryz.func65 rfl (by decide +kernel) rfl fun hok w0 σ0 φ0 M=>?_
 clear hok
 repeat' (first|(refine h1H ?_;(refine h0H ?_;refine aM 16 J J J J J J J J (uni (c40 x dims)) J J J ?_))|refine wG ?_)
 all_goals exact fN _
theorem c66(x y:Arr)(names:List (List UInt8))(hn:names.length≤1048576):CallA Tryz.prog 66 ([aO x,aO y]++([.ptr [dx names]]:List D).map fun d=>.one (.d d)) [] (dE (dY x names)) []:=by
 unfold aO
 refine enter af Tryz.func66 rfl (by decide +kernel) rfl fun hok w0 σ0 φ0 M=>?_
 clear hok
 repeat' (first|(refine h1H ?_;(refine h0H ?_;refine aM 16 J J J J J J J J (uni (c42 x names hn)) J J J ?_))|refine wG ?_)
 all_goals exact fN _
theorem c67(x y:Arr)(dims:List Dim)(names:List (List UInt8))(hd:dims.length≤1048576)(hn:names.length≤1048576):CallA Tryz.prog 67 ([aO x,aO y]++([.ptr [ai dims],.ptr [dx names]]:List D).map fun d=>.one (.d d)) [] (dE (kT x dims names 2)) []:=by
 unfold aO
 refine enter af Tryz.func67 rfl (by decide +kernel) rfl fun hok w0 σ0 φ0 M=>?_
 clear hok
 repeat' (first|(refine h1H ?_;(refine h0H ?_;refine aM 16 J J J J J J J J (uni (c29 x dims names 2 hd hn)) J J J ?_))|refine wG ?_)
 all_goals exact fN _
theorem c68(x y:Arr)(n:List UInt8)(hf:x.cells.length+y.cells.length≤4096):CallA Tryz.prog 68 ([aO x,aO y]++([.ptr [.str n]]:List D).map fun d=>.one (.d d)) [] (dE (iy x y n)) []:=by
 unfold aO
 refine enter af Tryz.func68 rfl (by decide +kernel) rfl fun hok w0 σ0 φ0 M=>?_
 clear hok
 repeat' (first|(refine h1H ?_;(refine h0H ?_;refine aM 16 J J J J J J J J (uni (c34 x y n hf)) J J J ?_))|refine wG ?_)
 all_goals exact fN _
theorem c69(x y:Arr)  :CallA Tryz.prog 69 ([aO x,aO y]++([]:List D).map fun d=>.one (.d d)) [] (dE (jD x y)) []:=by
 unfold aO
 refine enter af Tryz.func69 rfl (by decide +kernel) rfl fun hok w0 σ0 φ0 M=>?_
 clear hok
 repeat' (first|(refine h1H ?_;(refine h0H ?_;refine aM 16 J J J J J J J J (uni (c54 x y)) J J J ?_))|refine wG ?_)
 all_goals exact fN _
theorem c70(x y:Arr)  :CallA Tryz.prog 70 ([aO x,aO y]++([]:List D).map fun d=>.one (.d d)) [] (dE (gS x y)) []:=by
 unfold aO
 refine enter af Tryz.func70 rfl (by decide +kernel) rfl fun hok w0 σ0 φ0 M=>?_
 clear hok
 repeat' (first|(refine h1H ?_;(refine h0H ?_;refine aM 16 J J J J J J J J (uni (c56 x y)) J J J ?_))|refine wG ?_)
 all_goals exact fN _
theorem c71(x y:Arr)(hf:x.cells.length+y.cells.length≤4096):CallA Tryz.prog 71 ([aO x,aO y]++([]:List D).map fun d=>.one (.d d)) [] (dE (ji x y)) []:=by
 unfold aO
 refine enter af Tryz.func71 rfl (by decide +kernel) rfl fun hok w0 σ0 φ0 M=>?_
 clear hok
 repeat' (first|(refine h1H ?_;(refine h0H ?_;refine aM 16 J J J J J J J J (uni (c47 x y hf)) J J J ?_))|refine wG ?_)
 all_goals exact fN _
theorem c72(x:Arr):CallA Tryz.prog 72 [aO x] [] (.agg [.d (ai x.dims),.d (ao x.attrs),.d .nil]) []:=by
 unfold aO
 refine enter af Tryz.func72 rfl (by decide +kernel) rfl fun hok w0 σ0 φ0 M=>?_
 clear hok
 repeat' (first|refine wG ?_)
 all_goals first
  | rfl
  | trace_state
def stL(lo hi:List Int)(s:Scalar)(names:List (List UInt8))(dims:List Dim)(n:List UInt8):List (Nat×List D) :=
 [(60,[.ptr [ar lo],.ptr [ar hi]]),(61,[.ptr [.int .i64 s.op,.str s.name,.int .i64 s.val.kind,.int .i64 s.val.num,.int .i64 s.val.den,.str s.val.str,dD s.args]]),(62,[.ptr [.str n],.ptr [.int .i64 s.op,.str s.name,.int .i64 s.val.kind,.int .i64 s.val.num,.int .i64 s.val.den,.str s.val.str,dD s.args]]),(63,[.ptr [dx names]]),(64,[.ptr [.str n]]),(65,[.ptr [ai dims]]),(66,[.ptr [dx names]]),(67,[.ptr [ai dims],.ptr [dx names]]),(68,[.ptr [.str n]]),(69,[]),(70,[]),(71,[])]
def stF(lo hi:List Int)(s:Scalar)(names:List (List UInt8))(dims:List Dim)(n:List UInt8)(a b:Arr):Nat→Option Arr×Int
 | 0=>gD a lo hi
 | 1=>qG a s
 | 2=>gE a n s
 | 3=>fz a names
 | 4=>iw a n [122,122,57]
 | 5=>dB a dims
 | 6=>dY a names
 | 7=>kT a dims names 2
 | 8=>iy a b n
 | 9=>jD a b
 | 10=>gS a b
 | _=>ji a b
section
variable (lo hi:List Int) (s:Scalar) (names:List (List UInt8)) (dims:List Dim) (n:List UInt8)
theorem sT{i:Nat}(hi12:i<12)(x y:Arr)(hn:names.length≤1048576)(hd:dims.length≤1048576)(hf:x.cells.length+y.cells.length≤4096) :
  CallA Tryz.prog (at_ (stL lo hi s names dims n) i).1 ([aO x,aO y]++(at_ (stL lo hi s names dims n) i).2.map fun d=>.one (.d d)) [] (dE (stF lo hi s names dims n x y i)) []:=by
 match i,hi12 with
 | 0,_=>exact c60 x y lo hi
 | 1,_=>exact c61 x y s
 | 2,_=>exact c62 x y n s
 | 3,_=>exact c63 x y names hn
 | 4,_=>exact c64 x y n
 | 5,_=>exact c65 x y dims
 | 6,_=>exact c66 x y names hn
 | 7,_=>exact c67 x y dims names hd hn
 | 8,_=>exact c68 x y n hf
 | 9,_=>exact c69 x y
 | 10,_=>exact c70 x y
 | 11,_=>exact c71 x y hf
theorem LY{i:Nat}(h:i<12):((stL lo hi s names dims n).map fun p=>[D.fn p.1 p.2])[((i:Nat):Int).toNat]?=some [.fn (at_ (stL lo hi s names dims n) i).1 (at_ (stL lo hi s names dims n) i).2]:=dZ (f:=fun p:Nat×List D=>[D.fn p.1 p.2]) (l:=stL lo hi s names dims n) (i:=i) h
theorem Ix(i:Nat){a b:Arr}(ha:aF a=0)(hb:aF b=0)(la:a.cells.length≤60)(lb:b.cells.length≤60):Sta (stF lo hi s names dims n a b i) (stF lo hi s names dims n (aJ a) (aJ b) i):=by
 have hl:a.cells.length+b.cells.length≤4096:=by omega
 have hj:(eD a b).length≤4096:=by
  have:=J1 a b
  have h3:a.cells.length*b.cells.length≤60*60:=Nat.mul_le_mul la lb
  omega
 match i with
 | 0=>exact Mq ha
 | 1=>exact JH ha
 | 2=>exact Mt ha
 | 3=>exact JI ha
 | 4=>exact Mv ha
 | 5=>exact JJ ha
 | 6=>exact Hm ha
 | 7=>exact Mx ha
 | 8=>exact My ha hb hl
 | 9=>exact AM 0 ha hb hj
 | 10=>exact AM 1 ha hb hj
 | _+11=>exact MA ha hb hl
end
theorem ye{σ:Sig}{φ:Pl}{sto:Sto}{a:Arr}{v:Value}(h:RepV σ φ sto (.agg [.d (ai a.dims),.d (ao a.attrs),.d .nil]) v):RepV σ φ sto (aO (aJ a)) v:=by
 obtain⟨vs,rfl,h2⟩:=h
 match vs,h2 with
 | [x,y,z],h2=>exact⟨_,rfl,h2.1,h2.2.1,Ku h2.2.2.1,trivial⟩
 | [],h2=>exact h2.elim
 | [_],h2=>exact h2.2.elim
 | [_,_],h2=>exact h2.2.2.elim
 | _::_::_::_::_,h2=>exact h2.2.2.2.elim
theorem tH{P:Program}{f:FuncId}{a b:Arr}{r:List AV}{rav:AV}(h:CallA P f ([aO (aJ a),aO (aJ b)]++r) [] rav []):CallA P f ([.agg [.d (ai a.dims),.d (ao a.attrs),.d .nil],.agg [.d (ai b.dims),.d (ao b.attrs),.d .nil]]++r) [] rav []:=by
 refine wH h fun σ φ vs hv=>?_
 match vs,hv with
 | x::y::z,hv=>exact⟨ye hv.1,ye hv.2.1,hv.2.2⟩
 | [],hv=>exact hv.elim
 | [_],hv=>exact hv.2.elim
theorem PH(x:Arr)(h:bo x.dims x.attrs=0):CallA Tryz.prog 32 [.agg [.d (ai x.dims),.d (ao x.attrs),.d .nil],aO (aJ x)] [] (.one (.d (.bool true))) []:=by
 have hc:aF (aJ x)=0:=jh ⟨h,by simp[aJ],List.Pairwise.nil,fun x hx=>by cases hx⟩
 refine wH (Uo (aJ x) hc) fun σ φ vs hv=>?_
 match vs,hv with
 | x::z,hv=>exact⟨ye hv.1,hv.2⟩
 | [],hv=>exact hv.elim
structure ErrS (r s:Option Arr×Int) (e:Int):Prop where
 eqx:r=(none,e)
 eqy:s=(none,e)
structure OkSt (r s:Option Arr×Int) (x:Arr):Prop where
 eqx:r=(some x,0)
 eqy:s=(some (aJ x),0)
 sch:bo x.dims x.attrs=0
theorem zA{r s:Option Arr×Int}(h:Sta r s):(∃ e:Int,(e != e)=false∧(e==0)=false∧ErrS r s e)∨∃ x,OkSt r s x:=by
 rcases h with⟨e,h1,h2,h3⟩|⟨x,h1,h2,h3⟩
 ·exact .inl ⟨e,by simp,by simpa using h1,h2,h3⟩
 ·exact .inr ⟨x,h1,h2,h3⟩
theorem PI{i:Nat}(h:decide ((i:Int)<((12:Nat):Int))=true):i<12:=by simp at h;omega
set_option maxHeartbeats 8000000 in
theorem c17(a b:Arr)(lo hi:List Int)(s:Scalar)(names:List (List UInt8))(dims:List Dim):CallA Tryz.prog 17 [aO a,aO b,.one (.d (ar lo)),.one (.d (ar hi)),fc s,.one (.d (dx names)),.one (.d (ai dims))] [] (.one (.d (.bool true))) []:=by
 unfold aO fc
 refine enter af Tryz.func17 rfl (by decide +kernel) rfl fun hok w0 σ0 φ0 M=>?_
 clear hok
 by_cases hv1':(decide ((60:Int)<(a.cells.length:Int))||aF a != 0)=true
 ·have hv1:(decide ((60:Int)<(a.cells.length:Int))||aF a != 0)=true:=hv1'
  repeat' (first|(refine h1H ?_;(refine h0H ?_;first|refine ae J J J J J J J J (c31 _ _) J ?_|refine ae J J J J J J J J (c19) J ?_))|refine wG ?_)
  all_goals first
   | rfl
   | trace_state
 have hv1:(decide ((60:Int)<(a.cells.length:Int))||aF a != 0)=false:=by simpa only[XZ] using hv1'
 clear hv1'
 by_cases hv2':(decide ((60:Int)<(b.cells.length:Int))||aF b != 0)=true
 ·have hv2:(decide ((60:Int)<(b.cells.length:Int))||aF b != 0)=true:=hv2'
  repeat' (first|(refine h1H ?_;(refine h0H ?_;first|refine ae J J J J J J J J (c31 _ _) J ?_|refine ae J J J J J J J J (c19) J ?_))|refine wG ?_)
  all_goals first
   | rfl
   | trace_state
 have hv2:(decide ((60:Int)<(b.cells.length:Int))||aF b != 0)=false:=by simpa only[XZ] using hv2'
 clear hv2'
 by_cases hv3':decide ((20:Int)<((names.map bX).length:Int))=true
 ·have hv3:decide ((20:Int)<((names.map bX).length:Int))=true:=hv3'
  repeat' (first|(refine h1H ?_;(refine h0H ?_;first|refine ae J J J J J J J J (c31 _ _) J ?_|refine ae J J J J J J J J (c19) J ?_))|refine wG ?_)
  all_goals first
   | rfl
   | trace_state
 have hv3:decide ((20:Int)<((names.map bX).length:Int))=false:=by simpa only[XZ] using hv3'
 clear hv3'
 by_cases hv4':decide ((20:Int)<((dims.map ax).length:Int))=true
 ·have hv4:decide ((20:Int)<((dims.map ax).length:Int))=true:=hv4'
  repeat' (first|(refine h1H ?_;(refine h0H ?_;first|refine ae J J J J J J J J (c31 _ _) J ?_|refine ae J J J J J J J J (c19) J ?_))|refine wG ?_)
  all_goals first
   | rfl
   | trace_state
 have hv4:decide ((20:Int)<((dims.map ax).length:Int))=false:=by simpa only[XZ] using hv4'
 clear hv4'
 have ha:aF a=0∧a.cells.length≤60:=by
  simp only[XA,bne_eq_false_iff_eq,Yj] at hv1
  omega
 have hb:aF b=0∧b.cells.length≤60:=by
  simp only[XA,bne_eq_false_iff_eq,Yj] at hv2
  omega
 have hnn:names.length≤1048576:=by simp at hv3;omega
 have hdd:dims.length≤1048576:=by simp at hv4;omega
 have hf:a.cells.length+b.cells.length≤4096:=by omega
 have hf0:(aJ a).cells.length+(aJ b).cells.length≤4096:=by simp[aJ]
 by_cases hg':decide ((0:Int)<((names.map bX).length:Int))=true
 ·have hg:decide ((0:Int)<((names.map bX).length:Int))=true:=hg'
  have hg0:0<names.length:=by simpa using hg
  clear hg'
  repeat' (first|(refine h1H ?_;(refine h9H ?_;refine s_e envOk J J J (cz J J J J (LY lo hi s names dims (at_ names (0:Int).toNat) wB) J) ?_))|(refine h1H ?_;(refine PJ ?_;(fail_if_success (have:=hx));(rcases zA (Ix lo hi s names dims (at_ names (0:Int).toNat) i ha.1 hb.1 ha.2 hb.2) with⟨e,hee,he0,hx⟩|⟨x,hx⟩)))|(refine h1H ?_;(refine h0H ?_;first|refine ae J J J J J J J J (c31 _ _) J ?_|refine ae J J J J J J J J (c19) J ?_|refine ae J J J J J J J J (o8 (sT lo hi s names dims (at_ names (0:Int).toNat) wB a b hnn hdd hf) hx.eqx) J ?_|refine aM 16 J J J J J J J J (o9 (sT lo hi s names dims (at_ names (0:Int).toNat) wB a b hnn hdd hf) hx.eqx) J J J ?_))|(refine h2H ?_;(show OkC _ _ (Code.region 6 _ _) (St.mk _ (_::_)) _;refine bm (st':=⟨[(7,.one (.d (.ptr [ai a.dims,ao a.attrs,aC a.cells]))),(8,.one (.d (.ptr [ai b.dims,ao b.attrs,aC b.cells]))),(9,.one (.d (.ptr [ar lo]))),(10,.one (.d (.ptr [ar hi]))),(11,.one (.d (.ptr [.int .i64 s.op,.str s.name,.int .i64 s.val.kind,.int .i64 s.val.num,.int .i64 s.val.den,.str s.val.str,dD s.args]))),(12,.one (.d (.ptr [dx names]))),(13,.one (.d (.ptr [ai dims]))),(15,.one (.d (.ptr [.str (at_ names (0:Int).toNat)])))],[]⟩) (Imp.trans (bq (dl:=[0,1,2,3,4,5,6,7]) J) (lT (q8Q J J J J J J J J) aW)) ?_))|(refine h4H ?_;(refine h3H ?_;first|refine d_l J J (bM J J J J J J (o8 (tH (sT lo hi s names dims (at_ names (0:Int).toNat) wB (aJ a) (aJ b) hnn hdd hf0)) hx.eqy) J) ?_|refine d_l J J (bM J J J J J J (PH x hx.sch) J) ?_|refine bz 16 J J J J J J J J (c72 a) J J ?_|refine bz 16 J J J J J J J J (c72 b) J J ?_|refine bz 16 J J J J J J J J (c72 x) J J ?_|refine bz 16 J J J J J J J J (o9 (tH (sT lo hi s names dims (at_ names (0:Int).toNat) wB (aJ a) (aJ b) hnn hdd hf0)) hx.eqy) J J ?_))|refine wG ?_|(refine h2H ?_;first|refine aj J (fun h=>?_) (fun h=>?_)|refine cu 7 J [(7,_),(8,_),(54,_),(55,_)] (q4Q J J J J) (fun (i:Nat)=>[(56,.one (.d (.int .i64 (i:Int))))]) (fun (i:Nat)=>i≤12) (fun (i:Nat)=>12-i) 0 (q1Q J) ?_ (fun i hi0=>?_))|(show Exists _;refine Exists.intro (i+1) ⟨?_,?_,wK,(q1Q J),(q4Q J J J J)⟩))
  all_goals first
   | rfl
   | exact Xk _
   | (have hlt:i<12:=PI (by assumption)
      first|exact hlt|(show 12-(i+1)<12-i;omega))
   | skip
 have hg:decide ((0:Int)<((names.map bX).length:Int))=false:=by simpa only[XZ] using hg'
 clear hg'
 repeat' (first|(refine h1H ?_;(refine h9H ?_;refine s_e envOk J J J (cz J J J J (LY lo hi s names dims [118] wB) J) ?_))|(refine h1H ?_;(refine PJ ?_;(fail_if_success (have:=hx));(rcases zA (Ix lo hi s names dims [118] i ha.1 hb.1 ha.2 hb.2) with⟨e,hee,he0,hx⟩|⟨x,hx⟩)))|(refine h1H ?_;(refine h0H ?_;first|refine ae J J J J J J J J (c31 _ _) J ?_|refine ae J J J J J J J J (c19) J ?_|refine ae J J J J J J J J (o8 (sT lo hi s names dims [118] wB a b hnn hdd hf) hx.eqx) J ?_|refine aM 16 J J J J J J J J (o9 (sT lo hi s names dims [118] wB a b hnn hdd hf) hx.eqx) J J J ?_))|(refine h2H ?_;(show OkC _ _ (Code.region 6 _ _) (St.mk _ (_::_)) _;refine bm (st':=⟨[(7,.one (.d (.ptr [ai a.dims,ao a.attrs,aC a.cells]))),(8,.one (.d (.ptr [ai b.dims,ao b.attrs,aC b.cells]))),(9,.one (.d (.ptr [ar lo]))),(10,.one (.d (.ptr [ar hi]))),(11,.one (.d (.ptr [.int .i64 s.op,.str s.name,.int .i64 s.val.kind,.int .i64 s.val.num,.int .i64 s.val.den,.str s.val.str,dD s.args]))),(12,.one (.d (.ptr [dx names]))),(13,.one (.d (.ptr [ai dims]))),(15,.one (.d (.ptr [.str [118]])))],[]⟩) (Imp.trans (bq (dl:=[0,1,2,3,4,5,6,7]) J) (lT (q8Q J J J J J J J J) aW)) ?_))|(refine h4H ?_;(refine h3H ?_;first|refine d_l J J (bM J J J J J J (o8 (tH (sT lo hi s names dims [118] wB (aJ a) (aJ b) hnn hdd hf0)) hx.eqy) J) ?_|refine d_l J J (bM J J J J J J (PH x hx.sch) J) ?_|refine bz 16 J J J J J J J J (c72 a) J J ?_|refine bz 16 J J J J J J J J (c72 b) J J ?_|refine bz 16 J J J J J J J J (c72 x) J J ?_|refine bz 16 J J J J J J J J (o9 (tH (sT lo hi s names dims [118] wB (aJ a) (aJ b) hnn hdd hf0)) hx.eqy) J J ?_))|refine wG ?_|(refine h2H ?_;first|refine aj J (fun h=>?_) (fun h=>?_)|refine cu 7 J [(7,_),(8,_),(54,_),(55,_)] (q4Q J J J J) (fun (i:Nat)=>[(56,.one (.d (.int .i64 (i:Int))))]) (fun (i:Nat)=>i≤12) (fun (i:Nat)=>12-i) 0 (q1Q J) ?_ (fun i hi0=>?_))|(show Exists _;refine Exists.intro (i+1) ⟨?_,?_,wK,(q1Q J),(q4Q J J J J)⟩))
 all_goals first
  | rfl
  | exact Xk _
  | (have hlt:i<12:=PI (by assumption)
     first|exact hlt|(show 12-(i+1)<12-i;omega))
  | skip
end Go.Proofs.YtpejdgkaapnekaaGreat
