import Derived.Test.YtpejdgkaapnekaaGreatWP36
import Derived.Test.YtpejdgkaapnekaaGreatWP35
import Derived.Test.YtpejdgkaapnekaaGreatWP20
import Derived.Test.YtpejdgkaapnekaaGreatWP25
import Derived.Test.YtpejdgkaapnekaaGreatWP15
import Derived.Test.YtpejdgkaapnekaaGreatWP17
set_option linter.unusedVariables false
set_option linter.unusedSimpArgs false
set_option linter.unnecessarySimpa false
set_option maxHeartbeats 1000000
namespace Go.Proofs.YtpejdgkaapnekaaGreat
open Go Go.Abs
def wiF : List Int→List Int→List Int→Bool
 | x::xs,l::ls,h::hs=>if decide (x < l) || (decide (h < 1073741825) && decide (h < x)) then false else wiF xs ls hs
 | _,_,_=>true
theorem As : ∀ {xs ls hs : List Int},ls.length = xs.length→hs.length = xs.length→(wiF xs ls hs = true↔∀ i,i < xs.length→at_ ls i≤at_ xs i∧(at_ hs i < 1073741825→at_ xs i≤at_ hs i))
 | [],[],[],_,_=>by simp [wiF]
 | x::xs,l::ls,h::hs,h1,h2=>by
   have ih:=As (xs:=xs) (ls:=ls) (hs:=hs) (by simpa using h1) (by simpa using h2)
   simp only [wiF]
   constructor
   ·intro hw i hi
    split at hw
    ·cases hw
    ·rename_i hn
     simp only [Bool.or_eq_true,Bool.and_eq_true,decide_eq_true_eq] at hn
     cases i with
     | zero =>
       show l≤x∧(h < 1073741825→x≤h)
       omega
     | succ i=>exact ih.1 hw i (by simpa using hi)
   ·intro hw
    have h0 : l≤x∧(h < 1073741825→x≤h):=hw 0 (by simp)
    rw [if_neg (by simp only [Bool.or_eq_true,Bool.and_eq_true,decide_eq_true_eq]; omega)]
    exact ih.2 fun i hi=>hw (i + 1) (by simpa using hi)
 | _::_,[],_,h1,_=>by simp at h1
 | _::_,_,[],_,h2=>by simp at h2
 | [],_::_,_,h1,_=>by simp at h1
 | [],_,_::_,_,h2=>by simp at h2
def cAt(l : List Cell)(p : List Int) : Cell:=at_ l (bF p l)
theorem j5{l : List Cell}{p : List Int}(h : ba l p = true) : cAt l p∈l∧(cAt l p).at' = p:=by
 unfold ba at h
 simp only [Bool.and_eq_true,decide_eq_true_eq,beq_iff_eq] at h
 exact ⟨b9 h.1,qA _ _ h.2⟩
theorem vI{l : List Cell}(hs : l.Pairwise ltC){c d : Cell}(hc : c∈l)(hd : d∈l)(h : c.at' = d.at') : c = d:=by
 induction l with
 | nil=>simp at hc
 | cons x r ih =>
   rw [List.pairwise_cons] at hs
   rcases List.mem_cons.1 hc with e1 | hc1 <;> rcases List.mem_cons.1 hd with e2 | hd1
   ·rw [e1,e2]
   ·rw [e1] at h
    exact absurd h (rY (hs.1 d hd1))
   ·rw [e2] at h
    exact absurd h.symm (rY (hs.1 c hc1))
   ·exact ih hs.2 hc1 hd1
theorem DQ{l : List Cell}(hs : l.Pairwise ltC){c : Cell}{p : List Int}(hc : c∈l)(h : c.at' = p) : ba l p = true∧cAt l p = c:=by
 have hf:=(mn (x:=p) hs).2 ⟨c,hc,h⟩
 obtain ⟨h1,h2⟩:=j5 hf
 exact ⟨hf,vI hs h1 hc (h2.trans h.symm)⟩
theorem sd{l : List Cell}(hs : l.Pairwise ltC){p : List Int}(h : ∀ c∈l,c.at'≠p) : ba l p = false:=by
 cases hf : ba l p with
 | false=>rfl
 | true =>
   obtain ⟨c,hc,h2⟩:=(mn hs).1 hf
   exact absurd h2 (h c hc)
theorem vJ{l : List Cell}(hs : l.Pairwise ltC){p : List Int}(h : ba l p = false) : ∀ c∈l,c.at'≠p:=fun c hc h2=>by
 rw [(mn hs).2 ⟨c,hc,h2⟩] at h; cases h
theorem qE{l : List Cell}(hs : l.Pairwise ltC)(q : Cell→Bool)(p : List Int) : (ba l p = false→ba (l.filter q) p = false)∧(ba l p = true→ba (l.filter q) p = q (cAt l p)∧(q (cAt l p) = true→cAt (l.filter q) p = cAt l p)):=by
 refine ⟨fun h=>sd (hs.filter q) fun c hc=>vJ hs h c (List.mem_filter.1 hc).1,fun h=>?_⟩
 obtain ⟨h1,h2⟩:=j5 h
 cases hq : q (cAt l p) with
 | true =>
   obtain ⟨h3,h4⟩:=DQ (hs.filter q) (List.mem_filter.2 ⟨h1,hq⟩) h2
   exact ⟨h3,fun _=>h4⟩
 | false =>
   refine ⟨sd (hs.filter q) fun c hc h3=>?_,fun h=>by cases h⟩
   obtain ⟨h4,h5⟩:=List.mem_filter.1 hc
   rw [vI hs h4 h1 (h3.trans h2.symm),hq] at h5
   cases h5
theorem I2{a x : Arr}{lo hi : List Int}(h : fP a lo hi = (some x,0)) :
  OkA x.dims x.attrs x.cells∧(∀ p,ba a.cells p = false→ba x.cells p = false) ∧
  (∀ p,ba a.cells p = true→(p.length = lo.length∧hi.length = lo.length)∧((ba x.cells p = true∧wiF p lo hi = true∧(cAt x.cells p).vals = (cAt a.cells p).vals)∨(ba x.cells p = false∧wiF p lo hi = false))) ∧
  decide (((x.cells.map aJ).length : Int)≤((a.cells.map aJ).length : Int)) = true:=by
 obtain ⟨hc,hl,hh,ho,rfl⟩:=Hi h
 have hA:=okA hc
 refine ⟨okA (Hj hc hl hh ho),fun p=>(qE hA.srt _ p).1,fun p hf=>?_,?_⟩
 ·obtain ⟨h1,h2⟩:=j5 hf
  obtain ⟨c1,c2,c3,c4⟩:=cellF_ok.1 (hA.cel _ h1)
  rw [h2] at c1 c3
  refine ⟨by omega,?_⟩
  obtain ⟨h3,h4⟩:=(qE hA.srt (fun c : Cell=>bt (bM a.dims lo hi) c.at') p).2 hf
  have e : bt (bM a.dims lo hi) (cAt a.cells p).at' = wiF p lo hi:=by
   rw [h2,Bool.eq_iff_iff,cA (by rw [eu hl hh]; exact c1),As (by omega) (by omega),eu hl hh,c1]
   rw [cA c1] at c3
   refine forall_congr' fun i=>forall_congr' fun hi'=>?_
   rw [nD hl hh hi']
   have h5:=c3 i hi'
   show (max (at_ a.dims i).lo (at_ lo i)≤at_ p i∧at_ p i≤da (min (at_ a.dims i).hi (at_ hi i)))↔_
   unfold da at *
   omega
  simp only [e] at h3 h4
  cases hw : wiF p lo hi with
  | true =>
    rw [hw] at h3
    exact .inl ⟨h3,rfl,by rw [h4 hw]⟩
  | false =>
    rw [hw] at h3
    exact .inr ⟨h3,rfl⟩
 ·have:=List.length_filter_le (fun c : Cell=>bt (bM a.dims lo hi) c.at') a.cells
  simp; omega
theorem I3{a : Arr}{s : Scalar}(h : (aM a.dims a.attrs a.cells s).2 = 0)(p : List Int)(hf : ba a.cells p = true) : nE a.dims a.attrs a.cells s p (cAt a.cells p).vals = (bS a.dims a.attrs p (cAt a.cells p).vals s,0):=by
 have hA:=okA (j6 h).1
 obtain ⟨h1,h2⟩:=j5 hf
 have hc:=hA.cel _ h1
 rw [h2] at hc
 unfold nE
 rw [if_neg (by simpa using h),if_neg (by simpa using hc)]
theorem Hk{a y : Arr}{s : Scalar}(h : la a s = (some y,0)) :
  OkA y.dims y.attrs y.cells∧(∀ p,ba a.cells p = false→ba y.cells p = false) ∧
  (∀ p,ba a.cells p = true→(ba y.cells p = true∧okV (bS a.dims a.attrs p (cAt a.cells p).vals s) = true∧(cAt y.cells p).vals = (cAt a.cells p).vals)∨(ba y.cells p = false∧okV (bS a.dims a.attrs p (cAt a.cells p).vals s) = false)) ∧
  (aM a.dims a.attrs a.cells s).2 = 0:=by
 obtain ⟨t1,_,hc,rfl⟩:=FD h
 have hA:=okA hc
 refine ⟨okA (FE _ hc),fun p=>(qE hA.srt _ p).1,fun p hf=>?_,t1⟩
 obtain ⟨h1,h2⟩:=j5 hf
 obtain ⟨h3,h4⟩:=(qE hA.srt (fun c : Cell=>okV (bS a.dims a.attrs c.at' c.vals s)) p).2 hf
 simp only [h2] at h3 h4
 cases hw : okV (bS a.dims a.attrs p (cAt a.cells p).vals s) with
 | true =>
   rw [hw] at h3
   exact .inl ⟨h3,rfl,by rw [h4 hw]⟩
 | false =>
   rw [hw] at h3
   exact .inr ⟨h3,rfl⟩
theorem Au{a z : Arr}{name : List UInt8}{s : Scalar}(h : fQ a name s = (some z,0)) : dB a = 0∧cJ name = true∧jC a name = false∧a.attrs.length≠6∧(aM a.dims a.attrs a.cells s).2 = 0∧z = ⟨a.dims,gq a name (aM a.dims a.attrs a.cells s).1,a.cells.map (kV a s)⟩:=by
 unfold fQ at h
 split at h
 ·cases h
 rename_i h1
 split at h
 ·cases h
 rename_i h2
 split at h
 ·cases h
 rename_i h3
 split at h
 ·cases h
 rename_i h4
 have h1 : dB a = 0:=by simpa using h1
 have h2 : cJ name = true∧jC a name = false:=by simpa using h2
 refine ⟨h1,h2.1,h2.2,h3,by simpa using h4,?_⟩
 unfold gk at h
 split at h
 ·cases h
 have hs : (a.cells.map (kV a s)).Pairwise ltC:=List.pairwise_map.2 ((okA h1).srt.imp fun h=>h)
 rw [oA hs] at h
 simp only [Prod.mk.injEq,Option.some.injEq,and_true] at h
 exact h.symm
theorem Hl{a : Arr}{n : List UInt8}(h : jC a n = false) : n ∉ a.dims.map Dim.name∧n ∉ a.attrs.map Attr.name:=by
 unfold jC at h
 simp only [Bool.or_eq_false_iff,decide_eq_false_iff_not] at h
 refine ⟨fun hm=>h.1 (dimX_mem.2 hm),fun hm=>h.2 (atX_mem.2 hm)⟩
theorem I4{a z : Arr}{name : List UInt8}{s : Scalar}(h : fQ a name s = (some z,0)) : OkA z.dims z.attrs z.cells:=by
 obtain ⟨hc,hn,hno,h6,ht,rfl⟩:=Au h
 have hA:=okA hc
 obtain ⟨s1,s2,s3,s4⟩:=c9 hA.sch
 obtain ⟨d1,d2,d3,d4⟩:=lU s1
 obtain ⟨n1,n2⟩:=Hl hno
 rw [attrsGo_iff] at s4
 obtain ⟨a1,a2⟩:=s4
 obtain ⟨hck,hp,hsz,hnm⟩:=j6 ht
 have e:=Hm hck (DR ht)
 have fit : ∀ c∈a.cells,bK (bS a.dims a.attrs c.at' c.vals s) (aM a.dims a.attrs a.cells s).1:=fun c hcc=>by
  obtain ⟨e1,e2,e3,e4⟩:=cellF_ok.1 (hA.cel c hcc)
  rw [e] at ht ⊢
  refine Av (fun i hi=>fit_iff.1 ((lb e2).1 e4 i hi)) (fun i hi=>?_) s hp ht
  have h1:=(cA e1).1 e3 i hi
  have h2:=hA.dims.2.2.1 i hi
  unfold da at h1
  omega
 have ty : 1≤(aM a.dims a.attrs a.cells s).1∧(aM a.dims a.attrs a.cells s).1≤4:=by
  have : bK (bS a.dims a.attrs ((a.dims.map Dim.lo)) ((a.attrs.map fun x=>(⟨0,1,0,[]⟩ : Val))) s) (aM a.dims a.attrs a.cells s).1:=by
   rw [e] at ht ⊢
   refine Av (fun i hi=>?_) (fun i hi=>?_) s hp ht
   ·rw [cZ hi]
    exact ⟨rfl,(a1 _ (b9 hi)).2.2,.inl rfl⟩
   ·rw [cZ hi]
    have h2:=hA.dims.2.2.1 i hi
    omega
  exact this.2.1
 refine ⟨lg d1 d2 d3 d4 (by simp [gq]) (by simp [gq]; omega) (attrsGo_iff.2 ⟨fun x hx=>?_,?_⟩),by rw [List.length_map]; exact hA.few,List.pairwise_map.2 (hA.srt.imp fun h=>h),fun c hcc=>?_⟩
 ·rcases List.mem_append.1 hx with hx | hx
  ·exact a1 x hx
  ·simp only [List.mem_singleton] at hx
   subst hx
   exact ⟨hn,n1,ty⟩
 ·simp only [gq,List.map_append,List.map_cons,List.map_nil]
  rw [List.nodup_append]
  refine ⟨a2,by simp,fun x hx y hy=>?_⟩
  simp only [List.mem_singleton] at hy
  subst hy
  exact fun e=>n2 (e ▸ hx)
 ·obtain ⟨d,hd,rfl⟩:=List.mem_map.1 hcc
  obtain ⟨e1,e2,e3,e4⟩:=cellF_ok.1 (hA.cel d hd)
  have hl : (d.vals ++ [bS a.dims a.attrs d.at' d.vals s]).length = (gq a name (aM a.dims a.attrs a.cells s).1).length:=by simp [gq,e2]
  refine cellF_ok.2 ⟨e1,hl,e3,(lb hl).2 fun i hi=>?_⟩
  have hi2 : i < a.attrs.length + 1:=by simpa [gq] using hi
  by_cases hi3 : i < a.attrs.length
  ·have g1 : at_ (d.vals ++ [bS a.dims a.attrs d.at' d.vals s]) i = at_ d.vals i:=by simp [at_,List.getD_eq_getElem?_getD,List.getElem?_append,e2,hi3]
   have g2 : at_ (gq a name (aM a.dims a.attrs a.cells s).1) i = at_ a.attrs i:=by simp [gq,at_,List.getD_eq_getElem?_getD,List.getElem?_append,hi3]
   show dP (at_ (d.vals ++ [bS a.dims a.attrs d.at' d.vals s]) i).kind (at_ (d.vals ++ [bS a.dims a.attrs d.at' d.vals s]) i).num (at_ (d.vals ++ [bS a.dims a.attrs d.at' d.vals s]) i).den (at_ (d.vals ++ [bS a.dims a.attrs d.at' d.vals s]) i).str (at_ (gq a name (aM a.dims a.attrs a.cells s).1) i).type = true
   rw [g1,g2]
   exact (lb e2).1 e4 i hi3
  ·have hie : i = a.attrs.length:=by omega
   subst hie
   have g1 : at_ (d.vals ++ [bS a.dims a.attrs d.at' d.vals s]) a.attrs.length = bS a.dims a.attrs d.at' d.vals s:=by simp [at_,List.getD_eq_getElem?_getD,List.getElem?_append,e2]
   have g2 : at_ (gq a name (aM a.dims a.attrs a.cells s).1) a.attrs.length = ⟨name,(aM a.dims a.attrs a.cells s).1⟩:=by simp [gq,at_,List.getD_eq_getElem?_getD,List.getElem?_append]
   show dP (at_ (d.vals ++ [bS a.dims a.attrs d.at' d.vals s]) a.attrs.length).kind (at_ (d.vals ++ [bS a.dims a.attrs d.at' d.vals s]) a.attrs.length).num (at_ (d.vals ++ [bS a.dims a.attrs d.at' d.vals s]) a.attrs.length).den (at_ (d.vals ++ [bS a.dims a.attrs d.at' d.vals s]) a.attrs.length).str (at_ (gq a name (aM a.dims a.attrs a.cells s).1) a.attrs.length).type = true
   rw [g1,g2]
   exact fit_iff.2 (fit d hd)
theorem I5{a z : Arr}{name : List UInt8}{s : Scalar}(h : fQ a name s = (some z,0)) :
  OkA z.dims z.attrs z.cells∧(∀ p,ba a.cells p = false→ba z.cells p = false) ∧
  (∀ p,ba a.cells p = true→ba z.cells p = true∧(cAt z.cells p).vals = (cAt a.cells p).vals ++ [bS a.dims a.attrs p (cAt a.cells p).vals s]) ∧
  (aM a.dims a.attrs a.cells s).2 = 0∧(((z.cells.map aJ).length : Int) == ((a.cells.map aJ).length : Int)) = true:=by
 have hz:=I4 h
 obtain ⟨hc,hn,hno,h6,ht,rfl⟩:=Au h
 have hA:=okA hc
 refine ⟨hz,fun p hf=>sd hz.srt fun c hcc=>?_,fun p hf=>?_,ht,by simp⟩
 ·obtain ⟨d,hd,rfl⟩:=List.mem_map.1 hcc
  exact vJ hA.srt hf d hd
 ·obtain ⟨h1,h2⟩:=j5 hf
  obtain ⟨h3,h4⟩:=DQ hz.srt (List.mem_map_of_mem h1) (show (kV a s (cAt a.cells p)).at' = p from h2)
  refine ⟨h3,?_⟩
  rw [h4]
  show _ ++ [bS a.dims a.attrs (cAt a.cells p).at' _ s] = _
  rw [h2]
end Go.Proofs.YtpejdgkaapnekaaGreat
namespace Go.Proofs.YtpejdgkaapnekaaGreat
open Go Go.Abs
attribute [local irreducible] aa OkC aj av al aB
set_option maxRecDepth 10000
theorem PT(c : Cell)(x : List Int) : CallA Tryz.prog 147 [.agg [.d (aq c.at'),.d (aP c.vals)],.one (.d (aq x))] [] (.one (.d (.int .i64 (aT c.at' x)))) []:=by
 refine enter af Tryz.func147 rfl (by decide +kernel) rfl fun hok w0 σ0 φ0 M=>?_
 clear hok
 repeat' (first|(refine h1H ?_; (refine h0H ?_; refine ab J J J J J J J J (c35 _ _) J ?_))|refine wG ?_)
 all_goals rfl
theorem J6{i j : Int}(h0 : 0≤i)(h : decide (i < j) = true)(hn : j≤4096) : IntKind.i64.wrap ((i + j).fdiv (2 ^ (min (1 : Int).toNat IntKind.u64.bits))) = (i + j) / 2:=by
 have hij : i < j:=by simpa using h
 have e : (2 : Int) ^ (min (1 : Int).toNat IntKind.u64.bits) = 2:=rfl
 rw [e,Int.fdiv_eq_ediv_of_nonneg _ (by omega)]
 exact ga (by omega) (by omega)
set_option maxHeartbeats 4000000 in
theorem PU(l : List Cell)(x : List Int)(hs : l.Pairwise ltC)(hl : l.length≤4096) : CallA Tryz.prog 146 [.one (.d (aK l)),.one (.d (aq x)),.one (.d (.fn 147 []))] [] (.tup [(false,[.d (.int .i64 (bF x l : Int))]),(false,[.d (.bool (ba l x))])]) []:=by
 refine enter af Tryz.func146 rfl (by decide +kernel) rfl fun hok w0 σ0 φ0 M=>?_
 clear hok
 repeat' (first|(refine h1H ?_; (refine PN ?_; refine s_e ao J J J (ll J J J J (J6 h0 (by assumption) (by omega))) ?_))|(refine h1H ?_; (refine h0H ?_; refine ab J J J J J J J J (PT _ _) J ?_))|refine wG ?_|(refine h1H ?_; (refine h4H ?_; refine aG J J J J (fun h=>?_) (fun h=>?_)))|(refine h5H ?_; first|refine ai J (fun h=>?_) (fun h=>?_)|refine bg 3 J [(0,_),(1,_),(2,_),(8,_)] (q4Q J J J J) (fun (p : Int×Int)=>[(9,.one (.d (.int .i64 p.1))),(10,.one (.d (.int .i64 p.2)))]) (fun (p : Int×Int)=>0≤p.1∧p.1≤(bF x l : Int)∧(bF x l : Int)≤p.2∧p.2≤(l.length : Int)) (fun (p : Int×Int)=>(p.2 - p.1).toNat) (0,((l.map aJ).length : Int)) (q2Q J J) ?_ (fun p ⟨h0,hi,hj,hn⟩=>?_))|(show Exists _; first|refine Exists.intro (((p.1 + p.2) / 2 + 1,p.2)) ⟨?_,?_,wK,(q2Q J J),(q4Q J J J J)⟩|refine Exists.intro ((p.1,(p.1 + p.2) / 2)) ⟨?_,?_,wK,(q2Q J J),(q4Q J J J J)⟩))
 ·have hp:=xP (x:=x) (l:=l)
  refine ⟨Int.le_refl _,?_,?_,?_⟩
  ·show (0 : Int)≤(bF x l : Int); omega
  ·show (bF x l : Int)≤((l.map aJ).length : Int); rw [List.length_map]; omega
  ·show ((l.map aJ).length : Int)≤_; rw [List.length_map]; exact Int.le_refl _
 ·have hij : p.1 < p.2:=by simpa using ‹decide (p.1 < p.2) = true›
  have hc : aT (at_ l ((p.1 + p.2) / 2).toNat).at' x < 0:=by simpa using h
  have : ((p.1 + p.2) / 2).toNat < bF x l:=by
   rcases Nat.lt_or_ge ((p.1 + p.2) / 2).toNat (bF x l) with h1 | h1
   ·exact h1
   ·exact absurd hc (xR hs h1 (by omega))
  refine ⟨?_,?_,hj,hn⟩
  ·show 0≤(p.1 + p.2) / 2 + 1; omega
  ·show (p.1 + p.2) / 2 + 1≤(bF x l : Int); omega
 ·have hij : p.1 < p.2:=by simpa using ‹decide (p.1 < p.2) = true›
  show (p.2 - ((p.1 + p.2) / 2 + 1)).toNat < (p.2 - p.1).toNat
  omega
 ·have hij : p.1 < p.2:=by simpa using ‹decide (p.1 < p.2) = true›
  have hc : ¬ aT (at_ l ((p.1 + p.2) / 2).toNat).at' x < 0:=by simpa using h
  have : bF x l≤((p.1 + p.2) / 2).toNat:=by
   rcases Nat.lt_or_ge ((p.1 + p.2) / 2).toNat (bF x l) with h1 | h1
   ·exact absurd (xQ h1) hc
   ·exact h1
  refine ⟨h0,hi,?_,?_⟩
  ·show (bF x l : Int)≤(p.1 + p.2) / 2; omega
  ·show (p.1 + p.2) / 2≤(l.length : Int); omega
 ·have hij : p.1 < p.2:=by simpa using ‹decide (p.1 < p.2) = true›
  show ((p.1 + p.2) / 2 - p.1).toNat < (p.2 - p.1).toNat
  omega
 ·have hij : ¬ p.1 < p.2:=by simpa using ‹decide (p.1 < p.2) = false›
  have e : p.1 = (bF x l : Int):=by omega
  have e2 : p.1.toNat = bF x l:=by omega
  have hlt : bF x l < l.length:=by
   have : p.1 < (l.length : Int):=by simpa using h
   omega
  have ef : ba l x = (aT (at_ l (bF x l)).at' x == 0):=by unfold ba; simp [hlt]
  rw [ef,e2,e]
 ·have hij : ¬ p.1 < p.2:=by simpa using ‹decide (p.1 < p.2) = false›
  have e : p.1 = (bF x l : Int):=by omega
  have hge : ¬ bF x l < l.length:=by
   have : (l.length : Int)≤p.1:=by simpa using h
   omega
  have ef : ba l x = false:=by unfold ba; simp [hge]
  rw [ef,e]
theorem Gr{l : List Cell}{x : List Int}(h : ba l x = true) : bF x l < l.length:=by
 unfold ba at h
 simp only [Bool.and_eq_true,decide_eq_true_eq] at h
 exact h.1
theorem GZ(l : List Cell)(x : List Int)(hs : l.Pairwise ltC)(hl : l.length≤4096)(b : Bool)(h : ba l x = b) : CallA Tryz.prog 146 [.one (.d (aK l)),.one (.d (aq x)),.one (.d (.fn 147 []))] [] (.tup [(false,[.d (.int .i64 (bF x l : Int))]),(false,[.d (.bool b)])]) []:=by
 subst h; exact PU l x hs hl
theorem PV(a : Arr)(x : List Int)(hA : OkA a.dims a.attrs a.cells)(hf : ba a.cells x = true) : CallA Tryz.prog 45 [fO a,.one (.d (aq x))] [] (.tup [(false,[.d (aP (at_ a.cells (bF x a.cells)).vals)]),(false,[.d (.bool true)])]) []:=by
 unfold fO
 refine enter af Tryz.func45 rfl (by decide +kernel) rfl fun hok w0 σ0 φ0 M=>?_
 clear hok
 have hb : (bE a.dims a.attrs a.cells != 0) = false:=by rw [kH hA]; rfl
 repeat' (first|(refine h1H ?_; (refine Cy ?_; refine s_e ao J J J (eh J J J J J (Int.natCast_nonneg _) (gG (Gr hf))) ?_))|(refine h1H ?_; (refine h0H ?_; first|refine ab J J J J J J J J (c59 _ _ _) J ?_|refine ab J J J J J J J J (GZ a.cells x hA.srt hA.few _ hf) J ?_|refine aZ 16 J J J J J J J J (Io _) J J J ?_))|refine wG ?_)
 all_goals rfl
theorem CS(a : Arr)(x : List Int)(hA : OkA a.dims a.attrs a.cells)(hf : ba a.cells x = false) : CallA Tryz.prog 45 [fO a,.one (.d (aq x))] [] (.tup [(false,[.d .nil]),(false,[.d (.bool false)])]) []:=by
 unfold fO
 refine enter af Tryz.func45 rfl (by decide +kernel) rfl fun hok w0 σ0 φ0 M=>?_
 clear hok
 have hb : (bE a.dims a.attrs a.cells != 0) = false:=by rw [kH hA]; rfl
 repeat' (first|(refine h1H ?_; (refine h0H ?_; first|refine ab J J J J J J J J (c59 _ _ _) J ?_|refine ab J J J J J J J J (GZ a.cells x hA.srt hA.few _ hf) J ?_))|refine wG ?_)
 all_goals rfl
theorem BP{P : Program}{f : FuncId}{args args' : List AV}{sto : Sto}{rav : AV}{rsto : Sto}(h : CallA P f args sto rav rsto)(hw : ∀ σ φ vs,All2 (RepV σ φ sto) args' vs→All2 (RepV σ φ sto) args vs) : CallA P f args' sto rav rsto :=
 ⟨h.fn,fun w σ φ vs hi ha=>h.run w σ φ vs hi (hw σ φ vs ha)⟩
theorem FA{σ : Sig}{φ : Pl}{sto : Sto}{k b : Nat}{v : Value}(h : RepC σ φ sto (.d .nil) v) : RepC σ φ sto (.d (.sl k b [])) v:=by
 have h1:=RepC.d_inv h
 cases h1
 exact .d (.sl (fun _ _=>undef) (by simp) (by simp) (by simp) (by simp) (by simp) (by simp))
theorem sb{P : Program}{f : FuncId}{args : List AV}{r : Option Arr×Int}{y : Arr}(h : CallA P f args [] (nX r) [])(e : r = (some y,0)) : CallA P f args [] (.tup [(true,[.d (aw y.dims),.d (au y.attrs),.d (aK y.cells)]),(false,[.d (.int .i64 0)])]) []:=by
 rw [e] at h; exact h
theorem sc{P : Program}{f : FuncId}{args : List AV}{r : Option Arr×Int}{e : Int}(h : CallA P f args [] (nX r) [])(he : r = (none,e)) : CallA P f args [] (.tup [(true,[.d .nil,.d .nil,.d .nil]),(false,[.d (.int .i64 e)])]) []:=by
 rw [he] at h; exact h
theorem c46(x lo hi : List Int)(hl : lo.length = x.length)(hh : hi.length = x.length) : CallA Tryz.prog 46 [.one (.d (aq x)),.one (.d (aq lo)),.one (.d (aq hi))] [] (.one (.d (.bool (wiF x lo hi)))) []:=by
 refine enter af Tryz.func46 rfl (by decide +kernel) rfl fun hok w0 σ0 φ0 M=>?_
 have h1:=hok.1.sl; clear hok; simp only [List.length_map] at h1; replace h1:=h1.1
 repeat' (first|refine wG ?_|(refine h5H ?_; first|refine ai J (fun h=>?_) (fun h=>?_)|refine bg 2 J [(0,_),(1,_),(2,_)] (q3Q J J J) (fun (k : Nat)=>[(7,.one (.d (.int .i64 k)))]) (fun (k : Nat)=>k≤x.length∧wiF x lo hi = wiF (x.drop k) (lo.drop k) (hi.drop k)) (fun (k : Nat)=>x.length - k) 0 (q1Q J) ?_ (fun k ⟨hk,hs⟩=>?_))|(refine h3H ?_; (refine xB ?_; refine nk J J (fun h=>?_) (fun h=>?_)))|(show Exists _; refine Exists.intro (k + 1) ⟨?_,?_,wK,(q1Q J),(q3Q J J J)⟩))
 all_goals (try (((simp_all [wiF,ak,List.drop_eq_nil_of_le]) <;> exact wL); done))
theorem PW(x lo hi : List Int)(b : Bool)(hl : x.length = lo.length∧hi.length = lo.length)(h : wiF x lo hi = b) : CallA Tryz.prog 46 [.one (.d (aq x)),.one (.d (aq lo)),.one (.d (aq hi))] [] (.one (.d (.bool b))) []:=by
 subst h; exact c46 x lo hi hl.1.symm (hl.2.trans hl.1.symm)
theorem J7(a : Arr)(s : Scalar)(x : List Int)(vs : List Val)(r : Val×Int)(h : nE a.dims a.attrs a.cells s x vs = r) : CallA Tryz.prog 38 [fO a,cF s,.agg [.d (aq x),.d (aP vs)]] [] (pR r) []:=by
 subst h; exact c38 _ _ _ _ _ _
theorem PX(a : Arr)(s : Scalar)(x : List Int) : CallA Tryz.prog 38 [fO a,cF s,.agg [.d (aq x),.d .nil]] [] (pR (nE a.dims a.attrs a.cells s x [])) [] :=
 BP (c38 a.dims a.attrs a.cells s x []) fun σ φ vs hv=>by
  match vs,hv with
  | [u,v,w],hv =>
    refine ⟨hv.1,hv.2.1,?_,trivial⟩
    obtain ⟨ws,rfl,h2⟩:=hv.2.2.1
    match ws,h2 with
    | [p,q],h2=>exact ⟨_,rfl,h2.1,FA h2.2.1,trivial⟩
    | [],h2=>exact h2.elim
    | [_],h2=>exact h2.2.elim
    | _::_::_::_,h2=>exact h2.2.2.elim
  | [],hv=>exact hv.elim
  | [_],hv=>exact hv.2.elim
  | [_,_],hv=>exact hv.2.2.elim
  | _::_::_::_::_,hv=>exact hv.2.2.2.elim
theorem Gv(x y : List Val)(h : x = y) : CallA Tryz.prog 36 [.one (.d (aP x)),.one (.d (aP y))] [] (.one (.d (.bool true))) []:=by
 subst h
 have h1:=c36 x x
 rw [(F9 Er).2 rfl] at h1
 exact h1
theorem PY(x y : List Val)(rows : List (List D))(hr : rows = y.map az)(h : x = y) : CallA Tryz.prog 36 [.one (.d (aP x)),.one (.d (.sl 4 40 rows))] [] (.one (.d (.bool true))) []:=by
 subst hr; exact Gv x y h
theorem CV(a : Arr)(x : List Int)(hA : OkA a.dims a.attrs a.cells)(hf : ba a.cells x = true) : CallA Tryz.prog 45 [fO a,.one (.d (aq x))] [] (.tup [(false,[.d (aP (cAt a.cells x).vals)]),(false,[.d (.bool true)])]) []:=PV a x hA hf
def plF(a : Arr)(other : List Int) : List (List Int):=other::a.cells.map Cell.at'
theorem K7(b : Bool) : b = true∨b = false:=by cases b <;> simp
theorem Ih(a : Arr)(n : List UInt8)(s : Scalar) : (∃ e,(e == 0) = false∧(e != 0) = true∧fQ a n s = (none,e))∨∃ z,fQ a n s = (some z,0):=by
 rcases we a n s with ⟨_,e⟩ | ⟨_,_,e⟩ | ⟨_,_,_,e⟩ | ⟨_,_,_,_,e⟩ | ⟨_,_,_,_,hb,e⟩ | ⟨_,_,_,_,_,_,e⟩
 ·exact .inl ⟨_,rfl,rfl,e⟩
 ·exact .inl ⟨_,rfl,rfl,e⟩
 ·exact .inl ⟨_,rfl,rfl,e⟩
 ·exact .inl ⟨_,rfl,rfl,e⟩
 ·exact .inl ⟨_,by simpa using hb,hb,e⟩
 ·exact .inr ⟨_,e⟩
theorem Gw(a : Arr)(lo hi : List Int) : (∃ e,(e == 0) = false∧(e != 0) = true∧fP a lo hi = (none,e))∨∃ y,fP a lo hi = (some y,0):=by
 unfold fP
 split
 ·exact .inl ⟨_,rfl,rfl,rfl⟩
 split
 ·exact .inl ⟨_,rfl,rfl,rfl⟩
 split
 ·exact .inl ⟨_,rfl,rfl,rfl⟩
 unfold gk
 split
 ·exact .inl ⟨_,rfl,rfl,rfl⟩
 ·exact .inr ⟨_,rfl⟩
theorem EL(a : Arr)(s : Scalar) : (∃ e,(e == 0) = false∧la a s = (none,e))∨∃ y,la a s = (some y,0):=by
 unfold la
 split
 ·rename_i h; exact .inl ⟨_,by simpa using h,rfl⟩
 split
 ·exact .inl ⟨_,rfl,rfl⟩
 unfold gk
 split
 ·exact .inl ⟨_,rfl,rfl⟩
 ·exact .inr ⟨_,rfl⟩
theorem J8{l : List (List Int)}{n : Nat}{r : List (List D)}(hr : r = (l.take n).map (fun x=>[aq x]))(h : n < l.length) : r.take n ++ [[aq (at_ l n)]] = (l.take (n + 1)).map (fun x=>[aq x]):=Ba (fun x=>[aq x]) l hr h
theorem K8{l : List Val}(h : l.length≤10000000) : 0 + (l.map az).length≤100000000:=by rw [List.length_map]; omega
theorem Gx{a y : Arr}{s : Scalar}(h : la a s = (some y,0)) :
  OkA y.dims y.attrs y.cells∧(∀ p,ba a.cells p = false→ba y.cells p = false) ∧
  (∀ p,ba a.cells p = true→(ba y.cells p = true∧(!true == (okV (bS a.dims a.attrs p (cAt a.cells p).vals s) == true)) = false∧(cAt y.cells p).vals = (cAt a.cells p).vals)∨(ba y.cells p = false∧(!false == (okV (bS a.dims a.attrs p (cAt a.cells p).vals s) == true)) = false)) ∧
  (aM a.dims a.attrs a.cells s).2 = 0:=by
 obtain ⟨h1,h2,h3,h4⟩:=Hk h
 refine ⟨h1,h2,fun p hf=>?_,h4⟩
 rcases h3 p hf with ⟨h5,h6,h7⟩ | ⟨h5,h6⟩
 ·exact .inl ⟨h5,by rw [h6]; rfl,h7⟩
 ·exact .inr ⟨h5,by rw [h6]; rfl⟩
theorem Gy{l : List Val}{v : Val} : List.take (l.length + 1) (List.take l.length (l.map az) ++ [az v]) = l.map az ++ [az v]:=by
 rw [List.take_of_length_le (by simp),List.take_of_length_le (by simp)]
theorem Ii{l : List (List Int)}{n : Nat}{r : List (List D)}(hr : r = (l.take n).map (fun x=>[aq x]))(h : l.length≤n) : r = l.map (fun x=>[aq x]):=by
 rw [hr,List.take_of_length_le h]
theorem K9{a : Arr}{other : List Int}{k : Nat}(h : k < a.cells.length) : at_ (plF a other) (k + 1) = (at_ a.cells k).at':=by
 show at_ (a.cells.map Cell.at') k = _
 rw [cZ h]
set_option maxHeartbeats 8000000 in
theorem c11(a : Arr)(lo hi : List Int)(s : Scalar)(other : List Int) : CallA Tryz.prog 11 [fO a,.one (.d (aq lo)),.one (.d (aq hi)),cF s,.one (.d (aq other))] [] (.one (.d (.bool true))) []:=by
 unfold fO
 refine enter af Tryz.func11 rfl (by decide +kernel) rfl fun hok w0 σ0 φ0 M=>?_
 clear hok
 by_cases h0 : (decide ((100 : Int) < (a.cells.length : Int)) || dB a != 0) = true
 ·repeat' (first|(refine h1H ?_; (refine h0H ?_; first|refine ab J J J J J J J J (c31 _ _) J ?_|refine ab J J J J J J J J (c19) J ?_))|refine wG ?_)
  all_goals rfl
 have hb0 : (decide ((100 : Int) < (a.cells.length : Int)) || dB a != 0) = false:=by simpa using h0
 have hca : dB a = 0:=by simp at hb0; exact hb0.2
 have hcn : a.cells.length≤100:=by simp at hb0; omega
 have hA:=okA hca
 have hpl : (plF a other).length = a.cells.length + 1:=by simp [plF]
 have hvs : ∀ p,ba a.cells p = true→(cAt a.cells p).vals.length≤10000000:=fun p hf=>by
  have h1:=(cellF_ok.1 (hA.cel _ (j5 hf).1)).2.1
  have h2:=(c9 hA.sch).2.2.1
  omega
 have hz0 : ((0 : Int) != 0) = false:=rfl
 have hz1 : ((0 : Int) == 0) = true:=rfl
 rcases Gw a lo hi with ⟨e1,he1,he1',h1⟩ | ⟨x,h1⟩ <;> rcases EL a s with ⟨e2,he2,h2⟩ | ⟨y,h2⟩ <;> rcases Ih a [122,122,57] s with ⟨e3,he3,he3',h3⟩ | ⟨z,h3⟩
 all_goals (try (
  obtain ⟨hAx,hxF,hx2,hxn⟩:=I2 h1
  have hxl:=fun p h=>(hx2 p h).1
  have hxT:=fun p h=>(hx2 p h).2
  clear hx2))
 all_goals (try (obtain ⟨hAy,hyF,hyT,ht⟩:=Gx h2))
 all_goals (try (obtain ⟨hAz,hzF,hzT,ht,hzn⟩:=I5 h3))
 repeat' (first|(refine h1H ?_; (refine PO ?_; first|(fail_if_success (have:=hf)); (rcases K7 (ba a.cells (at_ (plF a other) q)) with hf|hf)|(fail_if_success (have:=hfx)); (rcases hxT _ hf with ⟨hfx,hwx,hqx⟩|⟨hfx,hwx⟩)|(fail_if_success (have:=hfy)); (rcases hyT _ hf with ⟨hfy,hwy,hqy⟩|⟨hfy,hwy⟩)|(fail_if_success (have:=hfz)); (obtain ⟨hfz,hqz⟩:=hzT _ hf)|(fail_if_success (have:=hfx)); (have hfx:=hxF _ hf)|(fail_if_success (have:=hfy)); (have hfy:=hyF _ hf)|(fail_if_success (have:=hfz)); (have hfz:=hzF _ hf)))|(refine h1H ?_; (refine h0H ?_; first|refine ab J J J J J J J J (c31 _ _) J ?_|refine ab J J J J J J J J (c19) J ?_|refine ab J J J J J J J J (sc (c23 a lo hi) h1) J ?_|refine ab J J J J J J J J (sc (c26 a s) h2) J ?_|refine ab J J J J J J J J (sc (c44 a _ s) h3) J ?_|refine ab J J J J J J J J (CS _ _ hA hf) J ?_|refine ab J J J J J J J J (CS _ _ hAx hfx) J ?_|refine ab J J J J J J J J (CS _ _ hAy hfy) J ?_|refine ab J J J J J J J J (CS _ _ hAz hfz) J ?_|refine ab J J J J J J J J (PW _ _ _ _ (hxl _ hf) hwx) J ?_|refine ab J J J J J J J J (J7 a s _ _ _ (I3 ht _ hf)) J ?_|refine ab J J J J J J J J (J7 a s _ _ _ J) J ?_|refine ab J J J J J J J J (PX a s _) J ?_|refine ab J J J J J J J J (Gv _ _ hqx) J ?_|refine ab J J J J J J J J (Gv _ _ hqy) J ?_|refine aZ 16 J J J J J J J J (sb (c23 a lo hi) h1) J J J ?_|refine aZ 16 J J J J J J J J (sb (c26 a s) h2) J J J ?_|refine aZ 16 J J J J J J J J (sb (c44 a _ s) h3) J J J ?_|refine aZ 16 J J J J J J J J (CV _ _ hA hf) J J J ?_|refine aZ 16 J J J J J J J J (CV _ _ hAx hfx) J J J ?_|refine aZ 16 J J J J J J J J (CV _ _ hAy hfy) J J J ?_|refine aZ 16 J J J J J J J J (CV _ _ hAz hfz) J J J ?_))|(refine h5H ?_; rw [Ii hp3 wB,show p.1 = (plF a other).length from wB])|(refine h3H ?_; (refine MG ?_; refine eR ao 10 J J J J J J ?_))|(refine h3H ?_; (refine h2H ?_; first|refine eR ao 11 J J J (dU (i:=10) J J J J J J J J (Nat.zero_le _) (by rw [List.length_map]; exact hvs _ hf) (Nat.le_of_ble_eq_true J)) J J ?_|refine eR ao 14 J J J (dU (i:=11) J J J J J J J J (K8 (hvs _ hf)) (Nat.le_of_ble_eq_true J) (Nat.le_of_ble_eq_true J)) J J ?_|refine nC [14] J J J J J J J J J (PY _ _ _ (by simp [az]; exact Gy (v:=bS a.dims a.attrs _ _ s)) hqz) J ?_))|refine wG ?_|(refine h5H ?_; first|refine ai J (fun h=>?_) (fun h=>?_)|refine bG 5 J [(1,_),(2,_),(5,_),(8,_)] (q4Q J J J J) (fun (p : Nat×Nat×List (List D))=>[(11,.one (.own 2 p.1)),(12,.one (.d (.int .i64 (p.2.1 : Int))))]) (fun (p : Nat×Nat×List (List D))=>[(2,.row 1 24 p.2.2),(0,.box [.d (aw a.dims),.d (au a.attrs),.d (aK a.cells)]),(1,.box [.d (.int .i64 s.op),.d (.str s.name),.d (.int .i64 s.val.kind),.d (.int .i64 s.val.num),.d (.int .i64 s.val.den),.d (.str s.val.str),.d (bA s.args)])]) (fun (p : Nat×Nat×List (List D))=>p.1 = p.2.1 + 1∧p.2.1≤a.cells.length∧p.2.2 = ((plF a other).take p.1).map (fun x=>[aq x])) (fun (p : Nat×Nat×List (List D))=>a.cells.length - p.2.1) (1,0,[[aq other]]) (q2Q J J) wK ?_ (fun p ⟨hp1,hp2,hp3⟩=>?_)|refine bG 12 J [(1,_),(2,_),(5,_),(8,_),(13,_),(14,_),(15,_),(16,_),(17,_),(18,_),(71,_),(72,_)] (oS J J J J J J J J J J J J) (fun (q : Nat)=>[(73,.one (.d (.int .i64 (q : Int))))]) (fun (q : Nat)=>[(2,.row 1 24 ((plF a other).map fun x=>[aq x])),(0,.box [.d (aw a.dims),.d (au a.attrs),.d (aK a.cells)]),(1,.box [.d (.int .i64 s.op),.d (.str s.name),.d (.int .i64 s.val.kind),.d (.int .i64 s.val.num),.d (.int .i64 s.val.den),.d (.str s.val.str),.d (bA s.args)]),(3,.box [.d .nil,.d .nil,.d .nil]),(4,.box [.d .nil,.d .nil,.d .nil]),(5,.box [.d .nil,.d .nil,.d .nil])]) (fun (q : Nat)=>q≤(plF a other).length) (fun (q : Nat)=>(plF a other).length - q) 0 (q1Q J) wK ?_ (fun q hq=>?_)|refine bG 12 J [(1,_),(2,_),(5,_),(8,_),(13,_),(14,_),(15,_),(16,_),(17,_),(18,_),(71,_),(72,_)] (oS J J J J J J J J J J J J) (fun (q : Nat)=>[(73,.one (.d (.int .i64 (q : Int))))]) (fun (q : Nat)=>[(2,.row 1 24 ((plF a other).map fun x=>[aq x])),(0,.box [.d (aw a.dims),.d (au a.attrs),.d (aK a.cells)]),(1,.box [.d (.int .i64 s.op),.d (.str s.name),.d (.int .i64 s.val.kind),.d (.int .i64 s.val.num),.d (.int .i64 s.val.den),.d (.str s.val.str),.d (bA s.args)]),(3,.box [.d (aw x.dims),.d (au x.attrs),.d (aK x.cells)]),(4,.box [.d .nil,.d .nil,.d .nil]),(5,.box [.d .nil,.d .nil,.d .nil])]) (fun (q : Nat)=>q≤(plF a other).length) (fun (q : Nat)=>(plF a other).length - q) 0 (q1Q J) wK ?_ (fun q hq=>?_)|refine bG 12 J [(1,_),(2,_),(5,_),(8,_),(13,_),(14,_),(15,_),(16,_),(17,_),(18,_),(71,_),(72,_)] (oS J J J J J J J J J J J J) (fun (q : Nat)=>[(73,.one (.d (.int .i64 (q : Int))))]) (fun (q : Nat)=>[(2,.row 1 24 ((plF a other).map fun x=>[aq x])),(0,.box [.d (aw a.dims),.d (au a.attrs),.d (aK a.cells)]),(1,.box [.d (.int .i64 s.op),.d (.str s.name),.d (.int .i64 s.val.kind),.d (.int .i64 s.val.num),.d (.int .i64 s.val.den),.d (.str s.val.str),.d (bA s.args)]),(3,.box [.d .nil,.d .nil,.d .nil]),(4,.box [.d (aw y.dims),.d (au y.attrs),.d (aK y.cells)]),(5,.box [.d .nil,.d .nil,.d .nil])]) (fun (q : Nat)=>q≤(plF a other).length) (fun (q : Nat)=>(plF a other).length - q) 0 (q1Q J) wK ?_ (fun q hq=>?_)|refine bG 12 J [(1,_),(2,_),(5,_),(8,_),(13,_),(14,_),(15,_),(16,_),(17,_),(18,_),(71,_),(72,_)] (oS J J J J J J J J J J J J) (fun (q : Nat)=>[(73,.one (.d (.int .i64 (q : Int))))]) (fun (q : Nat)=>[(2,.row 1 24 ((plF a other).map fun x=>[aq x])),(0,.box [.d (aw a.dims),.d (au a.attrs),.d (aK a.cells)]),(1,.box [.d (.int .i64 s.op),.d (.str s.name),.d (.int .i64 s.val.kind),.d (.int .i64 s.val.num),.d (.int .i64 s.val.den),.d (.str s.val.str),.d (bA s.args)]),(3,.box [.d (aw x.dims),.d (au x.attrs),.d (aK x.cells)]),(4,.box [.d (aw y.dims),.d (au y.attrs),.d (aK y.cells)]),(5,.box [.d .nil,.d .nil,.d .nil])]) (fun (q : Nat)=>q≤(plF a other).length) (fun (q : Nat)=>(plF a other).length - q) 0 (q1Q J) wK ?_ (fun q hq=>?_)|refine bG 12 J [(1,_),(2,_),(5,_),(8,_),(13,_),(14,_),(15,_),(16,_),(17,_),(18,_),(71,_),(72,_)] (oS J J J J J J J J J J J J) (fun (q : Nat)=>[(73,.one (.d (.int .i64 (q : Int))))]) (fun (q : Nat)=>[(2,.row 1 24 ((plF a other).map fun x=>[aq x])),(0,.box [.d (aw a.dims),.d (au a.attrs),.d (aK a.cells)]),(1,.box [.d (.int .i64 s.op),.d (.str s.name),.d (.int .i64 s.val.kind),.d (.int .i64 s.val.num),.d (.int .i64 s.val.den),.d (.str s.val.str),.d (bA s.args)]),(3,.box [.d .nil,.d .nil,.d .nil]),(4,.box [.d .nil,.d .nil,.d .nil]),(5,.box [.d (aw z.dims),.d (au z.attrs),.d (aK z.cells)])]) (fun (q : Nat)=>q≤(plF a other).length) (fun (q : Nat)=>(plF a other).length - q) 0 (q1Q J) wK ?_ (fun q hq=>?_)|refine bG 12 J [(1,_),(2,_),(5,_),(8,_),(13,_),(14,_),(15,_),(16,_),(17,_),(18,_),(71,_),(72,_)] (oS J J J J J J J J J J J J) (fun (q : Nat)=>[(73,.one (.d (.int .i64 (q : Int))))]) (fun (q : Nat)=>[(2,.row 1 24 ((plF a other).map fun x=>[aq x])),(0,.box [.d (aw a.dims),.d (au a.attrs),.d (aK a.cells)]),(1,.box [.d (.int .i64 s.op),.d (.str s.name),.d (.int .i64 s.val.kind),.d (.int .i64 s.val.num),.d (.int .i64 s.val.den),.d (.str s.val.str),.d (bA s.args)]),(3,.box [.d (aw x.dims),.d (au x.attrs),.d (aK x.cells)]),(4,.box [.d .nil,.d .nil,.d .nil]),(5,.box [.d (aw z.dims),.d (au z.attrs),.d (aK z.cells)])]) (fun (q : Nat)=>q≤(plF a other).length) (fun (q : Nat)=>(plF a other).length - q) 0 (q1Q J) wK ?_ (fun q hq=>?_)|refine bG 12 J [(1,_),(2,_),(5,_),(8,_),(13,_),(14,_),(15,_),(16,_),(17,_),(18,_),(71,_),(72,_)] (oS J J J J J J J J J J J J) (fun (q : Nat)=>[(73,.one (.d (.int .i64 (q : Int))))]) (fun (q : Nat)=>[(2,.row 1 24 ((plF a other).map fun x=>[aq x])),(0,.box [.d (aw a.dims),.d (au a.attrs),.d (aK a.cells)]),(1,.box [.d (.int .i64 s.op),.d (.str s.name),.d (.int .i64 s.val.kind),.d (.int .i64 s.val.num),.d (.int .i64 s.val.den),.d (.str s.val.str),.d (bA s.args)]),(3,.box [.d .nil,.d .nil,.d .nil]),(4,.box [.d (aw y.dims),.d (au y.attrs),.d (aK y.cells)]),(5,.box [.d (aw z.dims),.d (au z.attrs),.d (aK z.cells)])]) (fun (q : Nat)=>q≤(plF a other).length) (fun (q : Nat)=>(plF a other).length - q) 0 (q1Q J) wK ?_ (fun q hq=>?_)|refine bG 12 J [(1,_),(2,_),(5,_),(8,_),(13,_),(14,_),(15,_),(16,_),(17,_),(18,_),(71,_),(72,_)] (oS J J J J J J J J J J J J) (fun (q : Nat)=>[(73,.one (.d (.int .i64 (q : Int))))]) (fun (q : Nat)=>[(2,.row 1 24 ((plF a other).map fun x=>[aq x])),(0,.box [.d (aw a.dims),.d (au a.attrs),.d (aK a.cells)]),(1,.box [.d (.int .i64 s.op),.d (.str s.name),.d (.int .i64 s.val.kind),.d (.int .i64 s.val.num),.d (.int .i64 s.val.den),.d (.str s.val.str),.d (bA s.args)]),(3,.box [.d (aw x.dims),.d (au x.attrs),.d (aK x.cells)]),(4,.box [.d (aw y.dims),.d (au y.attrs),.d (aK y.cells)]),(5,.box [.d (aw z.dims),.d (au z.attrs),.d (aK z.cells)])]) (fun (q : Nat)=>q≤(plF a other).length) (fun (q : Nat)=>(plF a other).length - q) 0 (q1Q J) wK ?_ (fun q hq=>?_))|(show Exists _; first|refine Exists.intro (q + 1) ⟨?_,?_,wK,(q1Q J),(oS J J J J J J J J J J J J)⟩|refine Exists.intro ((p.1 + 1,p.2.1 + 1,p.2.2.take p.1 ++ [[aq (at_ a.cells p.2.1).at']])) ⟨?_,?_,wK,(q2Q J J),(q4Q J J J J)⟩))
 all_goals first
  | rfl
  | exact ⟨rfl,Nat.zero_le _,rfl⟩
  | (have hlt : p.2.1 < a.cells.length:=by simpa using h
     refine ⟨by show p.1 + 1 = p.2.1 + 1 + 1; omega,hlt,?_⟩
     have e:=J8 hp3 (by rw [hpl]; omega)
     rw [hp1,K9 hlt,← hp1] at e
     exact e)
  | (have hlt : p.2.1 < a.cells.length:=by simpa using h
     show a.cells.length - (p.2.1 + 1) < a.cells.length - p.2.1
     omega)
  | exact Nat.zero_le _
  | (have hlt : q < (plF a other).length:=by simpa using ‹decide ((q : Int) < ((plF a other).length : Int)) = true›
     omega)
  | trace_state
end Go.Proofs.YtpejdgkaapnekaaGreat
namespace Go.Proofs.YtpejdgkaapnekaaGreat
open Go Go.Abs
open Go.ChangeShapes Go.WideShapes Go.ChangeAt Go.RowKit
set_option maxRecDepth 100000 in
theorem pD(H : Type)(en : TypeId×Value→H)(W : World)(base : Nat)(args : Array Value)(ds gs : List (DataW H))(before : List MemPlace)
  (hval : ∀ (j : Nat) t v,Tryz.f11.params[j]? = some t→args[j]? = some v→Value.okWide Tryz.prog W .any base t v)
  (hW : DataW.Whole en Tryz.prog Tryz.f11.params.toList Rows.algebraPointwiseSpec.vars false W args.toList ds gs before) (hk : Rows.uptoSmall H (ds ++ gs) = true) :
  Calls Tryz.prog 11 args W fun e W'=>∃ v,e = .returned v∧Rows.algebraPointwiseSpec.post en Tryz.prog Tryz.f11 false true false false W args v W':=by
 have hW':=hW
 obtain ⟨p,q,hA0,hV,rfl,hfz,hnd⟩:=hW
 have hA : DataW.TrodAll en Tryz.prog W 0 (fun _=>true) true Tryz.f11.params.toList args.toList ds p:=hA0
 rw [Tryz.params11] at hA hval
 obtain ⟨v0,vs0,d0,ds0,p0,q0,hargs,rfl,rfl,h0,r0⟩:=trodAll_cons hA
 obtain ⟨v1,vs1,d1,ds1,p1,q1,rfl,rfl,rfl,h1,r1⟩:=trodAll_cons r0
 obtain ⟨v2,vs2,d2,ds2,p2,q2,rfl,rfl,rfl,h2,r2⟩:=trodAll_cons r1
 obtain ⟨v3,vs3,d3,ds3,p3,q3,rfl,rfl,rfl,h3,r3⟩:=trodAll_cons r2
 obtain ⟨v4,vs4,d4,ds4,p4,q4,rfl,rfl,rfl,h4,r4⟩:=trodAll_cons r3
 obtain ⟨rfl,rfl,rfl⟩:=trodAll_nil r4
 obtain rfl : args = #[v0,v1,v2,v3,v4]:=by cases args; simp_all
 obtain ⟨rfl,rfl⟩:=trodVars_none hV
 obtain ⟨cs0,rfl⟩:=tg Tryz.underlying26 (hval 0 26 v0 rfl rfl)
 obtain ⟨s1,l1,c1,rfl⟩:=okWide_slice Tryz.underlying37 (hval 1 37 v1 rfl rfl)
 obtain ⟨s2,l2,c2,rfl⟩:=okWide_slice Tryz.underlying37 (hval 2 37 v2 rfl rfl)
 obtain ⟨cs3,rfl⟩:=tg Tryz.underlying31 (hval 3 31 v3 rfl rfl)
 obtain ⟨s4,l4,c4,rfl⟩:=okWide_slice Tryz.underlying37 (hval 4 37 v4 rfl rfl)
 have hbk : (Rows.uptoBulk d0 + (Rows.uptoBulk d1 + (Rows.uptoBulk d2 + (Rows.uptoBulk d3 + (Rows.uptoBulk d4)))))≤1048576:=by
  simpa [Rows.uptoSmall,Rows.uptoBulkAll] using hk
 obtain ⟨f0,h0⟩:=h0
 obtain ⟨f1,h1⟩:=h1
 obtain ⟨f2,h2⟩:=h2
 obtain ⟨f3,h3⟩:=h3
 obtain ⟨f4,h4⟩:=h4
 obtain ⟨a0,hl0,ha0⟩:=Jp (N:=1048571) (by omega) f0 _ _ h0 (by show Rows.uptoBulk d0≤_; omega)
 obtain ⟨a1,hl1,ha1⟩:=fT (f:=b0) (N:=1048575) (k:=1) (b:=8) (by omega) (by omega) (by omega) Tryz.underlying37 jG (gX Tryz.underlying3) f1 _ _ h1 (by show Rows.uptoBulk d1≤_; omega)
 obtain ⟨a2,hl2,ha2⟩:=fT (f:=b0) (N:=1048575) (k:=1) (b:=8) (by omega) (by omega) (by omega) Tryz.underlying37 jG (gX Tryz.underlying3) f2 _ _ h2 (by show Rows.uptoBulk d2≤_; omega)
 obtain ⟨a3,hl3,ha3⟩:=D7 1048576 (by omega) f3 _ _ h3 (by show Rows.uptoBulk d3≤_; omega)
 rw [uE] at ha3
 obtain ⟨a4,hl4,ha4⟩:=fT (f:=b0) (N:=1048575) (k:=1) (b:=8) (by omega) (by omega) (by omega) Tryz.underlying37 jG (gX Tryz.underlying3) f4 _ _ h4 (by show Rows.uptoBulk d4≤_; omega)
 refine ((c11 a0 a1 a2 a3 a4).run W (sg W) (fun _=>none) [.agg cs0.toArray,.slice s1 l1 c1,.slice s2 l2 c2,.agg cs3.toArray,.slice s4 l4 c4] (Jq _) ⟨⟨cs0,rfl,lI ha0⟩,RepC.d ha1.1,RepC.d ha2.1,⟨cs3,rfl,lI ha3⟩,RepC.d ha4.1,trivial⟩).mono fun e W' ⟨v,σ',φ',he,hret⟩=>?_
 subst he
 have hv : v = .bool true:=by
  have h2:=RepC.d_inv hret.rep
  cases h2; rfl
 subst hv
 have hsame : ∀ p∈p0 ++ (p1 ++ (p2 ++ (p3 ++ (p4 ++ [])))),W.sameAt W' p:=fun p hp=>FM hret.kept (hW'.lt p (by simpa using hp))
 have hAk:=yC hA0 hsame
 exact ⟨_,rfl,_,_,_,[],_,[],hW',trodAll_mk1 (FN true),DataW.TrodAll.respare OC OD (by
   rw [Tryz.params11]
   intro t ht
   have ht' : t = 26∨t = 37∨t = 37∨t = 31∨t = 37:=by simpa using ht
   rcases ht' with rfl | rfl | rfl | rfl | rfl <;> exact few (by omega)) hAk (fun p hp=>by
    have:=hW'.lt p (by simpa using hp)
    simpa using this),rfl,Hp hret.kept _,fun h=>by cases h⟩
end Go.Proofs.YtpejdgkaapnekaaGreat
