import Derived.Test.YtpejdgkaapnekaaGreatJP16
import Derived.Test.YtpejdgkaapnekaaGreatJP17
set_option linter.unusedVariables false
set_option linter.unusedSimpArgs false
set_option maxHeartbeats 1000000
namespace Go.Proofs.YtpejdgkaapnekaaGreat
open Go Go.Abs
def ln(k : Nat)(d : Int)(x : List Int) : List Int:=x.set k (at_ x k + d)
def bR(k : Nat)(d : Int)(c : Cell) : Cell:=⟨ln k d c.at',c.vals⟩
theorem uO : ∀ {k : Nat} {d : Int} {x y : List Int},k < x.length→x.length = y.length→aJ (ln k d x) (ln k d y) = aJ x y
 | _,d,[],_,h,_=>by simp at h
 | _,d,_::_,[],_,h=>by simp at h
 | 0,d,a::x,b::y,_,_=>by
   show aJ ((a + d)::x) ((b + d)::y) = _
   simp only [aJ]
   by_cases h1 : a < b
   ·rw [if_pos h1,if_pos (by omega)]
   ·rw [if_neg h1,if_neg (by omega)]
    by_cases h2 : b < a
    ·rw [if_pos h2,if_pos (by omega)]
    ·rw [if_neg h2,if_neg (by omega)]
 | k + 1,d,a::x,b::y,h,h'=>by
   have ih:=uO (k:=k) (d:=d) (x:=x) (y:=y) (by simpa using h) (by simpa using h')
   show aJ (a::ln k d x) (b::ln k d y) = _
   simp only [aJ,ih]
theorem rz{k : Nat}{d : Int}{x : List Int} : (ln k d x).length = x.length:=by simp [ln]
theorem Eb{k : Nat}{d : Int}{x : List Int}{i : Nat}(h : i < x.length) : at_ (ln k d x) i = if i = k then at_ x k + d else at_ x i:=jh h
def Ec(d : Dim)(b : Int×Int) : Dim:=⟨d.name,max d.lo b.1,min d.hi b.2⟩
def mF(ds : List Dim)(lo hi : List Int) : List Dim:=ds.zipWith Ec (lo.zip hi)
def okD(d : Dim) : Bool:=!decide (fj d.hi < d.lo)
def Ed(a : Arr)(lo hi : List Int) : Option Arr×Int :=
 if bz a.dims a.attrs a.cells≠0 then (none,2)
 else if (lo.length : Int)≠a.dims.length∨(hi.length : Int)≠a.dims.length then (none,13)
 else if !(mF a.dims lo hi).all okD then (none,3)
 else dx (mF a.dims lo hi) a.attrs (a.cells.filter fun c=>dK (mF a.dims lo hi) c.at')
def byF(a b : Arr)(k : Nat) : Int:=(at_ a.dims k).hi - (at_ b.dims k).lo + 1
def bW(a b : Arr)(k : Nat) : Dim:=⟨(at_ b.dims k).name,(at_ a.dims k).lo,(at_ b.dims k).hi + byF a b k⟩
def dR(a b : Arr)(name : List UInt8) : Option Arr×Int :=
 if bz a.dims a.attrs a.cells≠0∨bz b.dims b.attrs b.cells≠0 then (none,2)
 else if bk a.dims name < 0 then (none,11)
 else if !cq a.dims b.dims then (none,13)
 else if !aP cL (a.dims.set (bk a.dims name).toNat (at_ b.dims (bk a.dims name).toNat)) b.dims∨(at_ a.dims (bk a.dims name).toNat).hi = 1073741825∨(at_ b.dims (bk a.dims name).toNat).hi = 1073741825 then (none,13)
 else if !aP b8 a.attrs b.attrs then (none,12)
 else if 1073741824 < (bW a b (bk a.dims name).toNat).hi then (none,3)
 else dx (a.dims.set (bk a.dims name).toNat (bW a b (bk a.dims name).toNat)) a.attrs (a.cells ++ b.cells.map (bR (bk a.dims name).toNat (byF a b (bk a.dims name).toNat)))
structure Cat (a b : Arr) (name : List UInt8) (k : Nat) : Prop where
 oka : OkA a.dims a.attrs a.cells
 okb : OkA b.dims b.attrs b.cells
 hk : k < a.dims.length
 nm : (at_ a.dims k).name = name
 bef : ∀ i,i < k→(at_ a.dims i).name≠name
 len : a.dims.length = b.dims.length
 nms : ∀ i,i < a.dims.length→(at_ a.dims i).name = (at_ b.dims i).name
 oth : ∀ i,i < a.dims.length→i≠k→at_ a.dims i = at_ b.dims i
 ha : (at_ a.dims k).hi≤1073741824
 hb : (at_ b.dims k).hi≤1073741824
 att : a.attrs = b.attrs
 hc : (bW a b k).hi≤1073741824
section
variable {a b : Arr} {name : List UInt8} {k : Nat}
def eM(a b : Arr)(k : Nat) : Arr:=⟨a.dims.set k (bW a b k),a.attrs,bp (a.cells ++ b.cells.map (bR k (byF a b k)))⟩
theorem fH{h : Int}(hh : h≤1073741824) : fj h = h:=by unfold fj; omega
theorem Cat.bounds(h : Cat a b name k) : (at_ a.dims k).lo≤(at_ a.dims k).hi∧(at_ b.dims k).lo≤(at_ b.dims k).hi∧-1073741824≤(at_ a.dims k).lo∧-1073741824≤(at_ b.dims k).lo:=by
 have h1:=(h.oka.dims.2.2.1 k h.hk).1
 have h2:=(h.okb.dims.2.2.1 k (by rw [← h.len]; exact h.hk)).1
 omega
theorem Cat.acell(h : Cat a b name k){c : Cell}(hc : c∈a.cells) : c.at'.length = a.dims.length∧c.vals.length = a.attrs.length∧gK a.attrs c.vals = 0∧∀ i,i < a.dims.length→(at_ a.dims i).lo≤at_ c.at' i∧at_ c.at' i≤fj (at_ a.dims i).hi:=by
 obtain ⟨h1,h2,h3,h4⟩:=cellF_ok.1 (h.oka.cel c hc)
 exact ⟨h1,h2,h4,(c7 h1).1 h3⟩
theorem Cat.bcell(h : Cat a b name k){c : Cell}(hc : c∈b.cells) : c.at'.length = a.dims.length∧c.vals.length = a.attrs.length∧gK a.attrs c.vals = 0∧∀ i,i < a.dims.length→(at_ b.dims i).lo≤at_ c.at' i∧at_ c.at' i≤fj (at_ b.dims i).hi:=by
 obtain ⟨h1,h2,h3,h4⟩:=cellF_ok.1 (h.okb.cel c hc)
 rw [h.att,h.len]
 exact ⟨h1,h2,h4,(c7 h1).1 h3⟩
theorem Cat.moved(h : Cat a b name k){c : Cell}(hc : c∈b.cells){i : Nat}(hi : i < a.dims.length) : at_ (bR k (byF a b k) c).at' i = if i = k then at_ c.at' k + byF a b k else at_ c.at' i :=
 Eb (by rw [(h.bcell hc).1]; exact hi)
theorem Cat.far(h : Cat a b name k){c : Cell}(hc : c∈b.cells) : (at_ a.dims k).hi + 1≤at_ (bR k (byF a b k) c).at' k∧at_ (bR k (byF a b k) c).at' k≤(bW a b k).hi:=by
 rw [h.moved hc h.hk,if_pos rfl]
 have h1:=(h.bcell hc).2.2.2 k h.hk
 rw [fH h.hb] at h1
 unfold byF bW byF at *
 dsimp only
 omega
theorem Cat.near(h : Cat a b name k){c : Cell}(hc : c∈a.cells) : at_ c.at' k≤(at_ a.dims k).hi:=by
 have h1:=(h.acell hc).2.2.2 k h.hk
 rw [fH h.ha] at h1
 exact h1.2
theorem Cat.bsrt(h : Cat a b name k) : (b.cells.map (bR k (byF a b k))).Pairwise ltC:=by
 rw [List.pairwise_map]
 refine List.Pairwise.imp_of_mem (fun {x y} hx hy hxy=>?_) h.okb.srt
 have h1:=(h.bcell hx).1
 have h2:=(h.bcell hy).1
 unfold ltC at hxy ⊢
 show aJ (ln k _ x.at') (ln k _ y.at') < 0
 rw [uO (by rw [h1]; exact h.hk) (by rw [h1,h2])]
 exact hxy
theorem Cat.diff(h : Cat a b name k) : (a.cells ++ b.cells.map (bR k (byF a b k))).Pairwise bG:=by
 refine List.pairwise_append.2 ⟨c3 h.oka.srt,c3 h.bsrt,fun x hx y hy e=>?_⟩
 obtain ⟨c,hc,rfl⟩:=List.mem_map.1 hy
 have h1:=h.near hx
 have h2:=(h.far hc).1
 rw [e] at h1
 omega
theorem Cat.cdim(h : Cat a b name k){i : Nat}(hi : i < a.dims.length) : at_ (eM a b k).dims i = if i = k then bW a b k else at_ a.dims i:=jh hi
theorem sC : ∀ {ds : List Dim} {met : List (List UInt8)},(∀ d∈ds,dV d.lo d.hi = true∧ea d.name = true∧d.name ∉ met)→(ds.map Dim.name).Nodup→eJ met ds = 0
 | [],met,_,_=>rfl
 | d::r,met,h,hn=>by
   obtain ⟨h1,h2,h3⟩:=h d List.mem_cons_self
   rw [List.map_cons,List.nodup_cons] at hn
   simp only [eJ,h1,h2]
   rw [if_neg (by simp [h3]),if_neg (by simp)]
   refine sC (fun x hx=>?_) hn.2
   obtain ⟨j1,j2,j3⟩:=h x (List.mem_cons_of_mem _ hx)
   refine ⟨j1,j2,fun hm=>?_⟩
   rcases List.mem_append.1 hm with hm | hm
   ·exact j3 hm
   ·have e : x.name = d.name:=by simpa using hm
    exact hn.1 (List.mem_map.2 ⟨x,hx,e⟩)
theorem qs{ds : List Dim}{ats : List Attr}(h1 : 1≤ds.length)(h2 : ds.length≤4)(h3 : ∀ d∈ds,dV d.lo d.hi = true∧ea d.name = true)(h4 : (ds.map Dim.name).Nodup)(h5 : 1≤ats.length)(h6 : ats.length≤6)(h7 : ee (ds.map Dim.name) ats = 0) : cG ds ats = 0:=by
 have hd : c5 ds = 0:=by
  unfold c5
  rw [if_neg (by omega)]
  exact sC (fun d hd=>⟨(h3 d hd).1,(h3 d hd).2,by simp⟩) h4
 unfold cG
 rw [if_neg (by simp [hd]),if_neg (by omega)]
 exact h7
theorem Cat.cnames(h : Cat a b name k) : (eM a b k).dims.map Dim.name = a.dims.map Dim.name:=by
 refine dN (by simp [eM]) fun i hi=>?_
 have hi' : i < a.dims.length:=by simpa [eM] using hi
 rw [bI (by simpa [eM] using hi),bI hi',h.cdim hi']
 split
 ·rename_i e; subst e; exact (h.nms i hi').symm
 ·rfl
theorem Cat.okc(h : Cat a b name k)(hl : a.cells.length + b.cells.length≤4096) : OkA (eM a b k).dims (eM a b k).attrs (eM a b k).cells:=by
 obtain ⟨d1,d2,d3,d4⟩:=h.oka.dims
 obtain ⟨s1,s2,s3,s4⟩:=bg h.oka.sch
 have hcl : (eM a b k).dims.length = a.dims.length:=by simp [eM]
 have hbn:=h.bounds
 refine ⟨qs (by omega) (by omega) (fun d hd=>?_) (by rw [h.cnames]; exact d4) s2 s3 (by rw [h.cnames]; exact s4),?_,dH h.diff,fun c hc=>?_⟩
 ·obtain ⟨i,hi,rfl⟩:=ez hd
  rw [hcl] at hi
  have hh:=h.hc
  obtain ⟨e1,e2⟩:=d3 i hi
  rw [h.cdim hi]
  split
  ·rename_i e; subst e
   refine ⟨boundsF_ok.2 ?_,?_⟩
   ·unfold bW byF at *; dsimp only at *; omega
   ·show ea (at_ b.dims i).name = true
    rw [← h.nms i hi]; exact e2
  ·exact ⟨boundsF_ok.2 e1,e2⟩
 ·show (bp _).length≤4096
  rw [fo,List.length_append,List.length_map]; exact hl
 ·have hc':=(cw _).mem_iff.1 hc
  rcases List.mem_append.1 hc' with hc' | hc'
  ·obtain ⟨e1,e2,e3,e4⟩:=h.acell hc'
   refine cellF_ok.2 ⟨by rw [hcl]; exact e1,e2,(c7 (by rw [hcl]; exact e1)).2 fun i hi=>?_,e3⟩
   rw [hcl] at hi
   rw [h.cdim hi]
   have e5:=e4 i hi
   split
   ·rename_i e; subst e
    rw [fH h.ha] at e5
    rw [fH h.hc]
    unfold bW byF; dsimp only; omega
   ·exact e5
  ·obtain ⟨c0,hc0,rfl⟩:=List.mem_map.1 hc'
   obtain ⟨e1,e2,e3,e4⟩:=h.bcell hc0
   have hlen : (bR k (byF a b k) c0).at'.length = a.dims.length:=by rw [← e1]; exact rz
   refine cellF_ok.2 ⟨by rw [hcl]; exact hlen,e2,(c7 (by rw [hcl]; exact hlen)).2 fun i hi=>?_,e3⟩
   rw [hcl] at hi
   rw [h.cdim hi]
   split
   ·rename_i e; subst e
    have hf:=h.far hc0
    rw [fH h.hc]
    refine ⟨?_,hf.2⟩
    show (at_ a.dims i).lo≤_
    omega
   ·rename_i e
    rw [h.moved hc0 hi,if_neg e,h.oth i hi e]
    exact e4 i hi
theorem Cat.first(h : Cat a b name k)(hl : a.cells.length + b.cells.length≤4096)(h2 : a.cells.length≤4096) :
  Ed (eM a b k) ((eM a b k).dims.map Dim.lo) (((eM a b k).dims.map Dim.hi).set k (at_ a.dims k).hi) = (some a,0):=by
 have hcl : (eM a b k).dims.length = a.dims.length:=by simp [eM]
 obtain ⟨d1,d2,d3,d4⟩:=h.oka.dims
 have hbn:=h.bounds
 have hcut : mF (eM a b k).dims ((eM a b k).dims.map Dim.lo) (((eM a b k).dims.map Dim.hi).set k (at_ a.dims k).hi) = a.dims:=by
  refine dN (by simp [mF,hcl]) fun i hi=>?_
  have hi' : i < a.dims.length:=by simp [mF,hcl] at hi; exact hi
  have hi2 : i < (eM a b k).dims.length:=by rw [hcl]; exact hi'
  unfold mF
  rw [qq hi2 (by simp [hcl,hi']),List.zip,qq (by simp [hcl,hi']) (by simp [hcl,hi']),bI hi2,jh (by simp [hcl,hi']),bI hi2,h.cdim hi']
  unfold Ec
  by_cases e : i = k
  ·subst e
   rw [if_pos rfl,if_pos rfl]
   refine Dim.ext ?_ ?_ ?_
   ·exact (h.nms i hi').symm
   ·show max (at_ a.dims i).lo (at_ a.dims i).lo = _; omega
   ·show min ((at_ b.dims i).hi + byF a b i) (at_ a.dims i).hi = _; unfold byF; omega
  ·rw [if_neg e,if_neg e]
   refine Dim.ext rfl ?_ ?_
   ·show max _ _ = _; omega
   ·show min _ _ = _; omega
 unfold Ed
 rw [if_neg (by rw [nt (h.okc hl)]; simp),if_neg (by simp),hcut,if_neg ?_]
 ·have hf : (eM a b k).cells.filter (fun c=>dK a.dims c.at') = a.cells:=by
   refine uu _ h.diff h.oka.srt ?_
   rw [List.filter_append,List.filter_eq_self.2 fun c hc=>(c7 (h.acell hc).1).2 (h.acell hc).2.2.2,List.filter_eq_nil_iff.2,List.append_nil]
   ·intro c hc hw
    obtain ⟨c0,hc0,rfl⟩:=List.mem_map.1 hc
    have hlen : (bR k (byF a b k) c0).at'.length = a.dims.length:=by rw [← (h.bcell hc0).1]; exact rz
    have h3:=(c7 hlen).1 hw k h.hk
    have h4:=(h.far hc0).1
    rw [fH h.ha] at h3
    omega
  rw [hf]
  unfold dx
  rw [if_neg (by omega),pg h.oka.srt]
  rfl
 ·simp only [Bool.not_eq_true',Bool.not_eq_false,List.all_eq_true,okD,decide_eq_false_iff_not]
  intro d hd
  obtain ⟨i,hi,rfl⟩:=ez hd
  have:=(d3 i hi).1
  unfold fj; omega
end
end Go.Proofs.YtpejdgkaapnekaaGreat
namespace Go.Proofs.YtpejdgkaapnekaaGreat
open Go Go.Abs
def iY(d e : Dim) : Dim:=⟨d.name,min d.lo e.lo,max d.hi e.hi⟩
def cP(a b : List Dim) : List Dim:=a.zipWith iY b
def dG(l : List Cell)(c : Cell) : Bool:=!(l.any fun x=>x.at' == c.at')
def eU(a b : Arr) : Option Arr×Int :=
 if bZ a≠0∨bZ b≠0 then (none,2)
 else if !cq a.dims b.dims then (none,13)
 else if !aP b8 a.attrs b.attrs then (none,12)
 else dx (cP a.dims b.dims) a.attrs (a.cells ++ b.cells.filter (dG a.cells))
def lh(a b : Arr) : Arr:=⟨cP a.dims b.dims,a.attrs,bp (a.cells ++ b.cells.filter (dG a.cells))⟩
def BA(l : List Cell)(t : List Int) : Prop:=∃ y∈l,y.at' = t
theorem newC_iff{l : List Cell}{c : Cell} : dG l c = true↔¬ BA l c.at':=by
 simp [dG,BA]
theorem alike_iff{a b : List Dim} : cq a b = true↔a.map Dim.name = b.map Dim.name:=by
 unfold cq
 rw [sameF_all]
 constructor
 ·rintro ⟨h1,h2⟩
  refine dN (by simpa using h1) fun i hi=>?_
  have hi' : i < a.length:=by simpa using hi
  rw [bI hi',bI (by omega)]
  simpa using h2 i hi'
 ·intro h
  have hl : a.length = b.length:=by simpa using congrArg List.length h
  refine ⟨hl,fun i hi=>?_⟩
  have:=congrArg (fun l=>at_ l i) h
  simp only [bI hi,bI (l:=b) (i:=i) (by omega)] at this
  simpa using this
structure Mrg (a b : Arr) : Prop where
 oka : OkA a.dims a.attrs a.cells
 okb : OkA b.dims b.attrs b.cells
 names : a.dims.map Dim.name = b.dims.map Dim.name
 attrs : a.attrs = b.attrs
section
variable {a b c : Arr}
theorem eA(h : Mrg a b) : (cP a.dims b.dims).length = a.dims.length:=by
 have : a.dims.length = b.dims.length:=by simpa using congrArg List.length h.names
 simp [cP]; omega
theorem Mrg.len(h : Mrg a b) : a.dims.length = b.dims.length:=by simpa using congrArg List.length h.names
theorem rr(h : Mrg a b){i : Nat}(hi : i < a.dims.length) : at_ (cP a.dims b.dims) i = iY (at_ a.dims i) (at_ b.dims i):=qq hi (by rw [← h.len]; exact hi)
theorem mA(h : Mrg a b) : (cP a.dims b.dims).map Dim.name = a.dims.map Dim.name:=by
 refine dN (by simp [eA h]) fun i hi=>?_
 have hi' : i < a.dims.length:=by simpa [eA h] using hi
 rw [bI (by rw [eA h]; exact hi'),bI hi',rr h hi']
 rfl
theorem mrg_mem{x : Cell} : x∈(lh a b).cells↔x∈a.cells∨(x∈b.cells∧¬ BA a.cells x.at'):=by
 show x∈bp _↔_
 rw [(cw _).mem_iff,List.mem_append,List.mem_filter,newC_iff]
theorem pd(h : Mrg a b) : (a.cells ++ b.cells.filter (dG a.cells)).Pairwise bG:=by
 refine List.pairwise_append.2 ⟨c3 h.oka.srt,(c3 h.okb.srt).filter _,fun x hx y hy e=>?_⟩
 exact newC_iff.1 (List.mem_filter.1 hy).2 ⟨x,hx,e⟩
theorem xX(h : Mrg a b) : (lh a b).cells.Pairwise ltC:=dH (pd h)
theorem wJ : (lh a b).cells.length≤a.cells.length + b.cells.length:=by
 show (bp _).length≤_
 rw [fo,List.length_append]
 have:=List.length_filter_le (dG a.cells) b.cells
 omega
theorem sA(h : Mrg a b){x : Cell}{ds : List Dim}(hl : ds.length = a.dims.length)(hx : cU ds a.attrs x.at' x.vals = 0)
  (hd : ∀ i,i < a.dims.length→(iY (at_ a.dims i) (at_ b.dims i)).lo≤(at_ ds i).lo∧(at_ ds i).hi≤(iY (at_ a.dims i) (at_ b.dims i)).hi) : cU (cP a.dims b.dims) a.attrs x.at' x.vals = 0:=by
 obtain ⟨h1,h2,h3,h4⟩:=cellF_ok.1 hx
 refine cellF_ok.2 ⟨by rw [eA h]; omega,h2,?_,h4⟩
 rw [c7 h1] at h3
 rw [c7 (by rw [eA h]; omega)]
 intro i hi
 rw [eA h] at hi
 rw [rr h hi]
 have e1:=h3 i (by omega)
 have e2:=hd i hi
 unfold fj at *
 omega
theorem D6(h : Mrg a b)(hn : (lh a b).cells.length≤4096) : OkA (lh a b).dims (lh a b).attrs (lh a b).cells:=by
 obtain ⟨a1,a2,a3,a4⟩:=h.oka.dims
 obtain ⟨b1,b2,b3,b4⟩:=h.okb.dims
 have hs:=bg h.oka.sch
 refine ⟨?_,hn,xX h,fun x hx=>?_⟩
 ·refine qs (by show _≤(cP _ _).length; rw [eA h]; exact a1) (by show (cP _ _).length≤_; rw [eA h]; exact a2) (fun d hd=>?_) (by show ((cP _ _).map _).Nodup; rw [mA h]; exact a4) hs.2.1 hs.2.2.1 (by show ee ((cP _ _).map _) _ = 0; rw [mA h]; exact hs.2.2.2)
  obtain ⟨i,hi,rfl⟩:=ez hd
  have hi' : i < a.dims.length:=by rw [← eA h]; exact hi
  show dV (at_ (cP a.dims b.dims) i).lo (at_ (cP a.dims b.dims) i).hi = true∧ea (at_ (cP a.dims b.dims) i).name = true
  rw [rr h hi']
  obtain ⟨e1,e2⟩:=a3 i hi'
  obtain ⟨e3,_⟩:=b3 i (by rw [← h.len]; exact hi')
  refine ⟨boundsF_ok.2 ?_,e2⟩
  simp only [iY]
  omega
 ·show cU (cP a.dims b.dims) a.attrs _ _ = 0
  rcases mrg_mem.1 hx with hx | ⟨hx,_⟩
  ·exact sA h rfl (h.oka.cel x hx) fun i hi=>by simp only [iY]; omega
  ·refine sA h h.len.symm (by rw [h.attrs]; exact h.okb.cel x hx) fun i hi=>by simp only [iY]; omega
theorem wo(h : Mrg a b)(hn : a.cells.length + b.cells.length≤4096) : eU a b = (some (lh a b),0):=by
 unfold eU
 rw [if_neg (by unfold bZ; rw [nt h.oka,nt h.okb]; simp),if_neg (by rw [alike_iff.2 h.names]; simp),if_neg (by rw [(c9 fS).2 h.attrs]; simp)]
 unfold dx
 have h1:=wJ (a:=a) (b:=b)
 refine (if_neg ?_).trans rfl
 have : (lh a b).cells.length = (a.cells ++ b.cells.filter (dG a.cells)).length:=fo _
 omega
theorem Mrg.symm(h : Mrg a b) : Mrg b a:=⟨h.okb,h.oka,h.names.symm,h.attrs.symm⟩
theorem Mrg.left(h : Mrg a b)(h' : Mrg b c)(hn : a.cells.length + b.cells.length≤4096) : Mrg (lh a b) c :=
 ⟨D6 h (Nat.le_trans wJ hn),h'.okb,(mA h).trans (h.names.trans h'.names),h.attrs.trans h'.attrs⟩
theorem Arr.ext{x y : Arr}(h1 : x.dims = y.dims)(h2 : x.attrs = y.attrs)(h3 : x.cells = y.cells) : x = y:=by cases x; cases y; simp_all
end
end Go.Proofs.YtpejdgkaapnekaaGreat
namespace Go.Proofs.YtpejdgkaapnekaaGreat
open Go Go.Abs
def pI(d : Dim) : Int:=d.hi - d.lo + 1
def Cp : Int→List Dim→Int×Int
 | n,[]=>(n,0)
 | n,d::r=>if (4611686018427387904 : Int) / pI d < n then (0,14) else Cp (n * pI d) r
def Gp(ds : List Dim) : Int×Int:=if c5 ds≠0 then (0,c5 ds) else if ds.any (fun d=>d.hi == 1073741825) then (0,3) else Cp 1 ds
def od : List Dim→Int
 | []=>1
 | d::r=>pI d * od r
theorem wQ{d : Dim}(h : dV d.lo d.hi = true) : 0 < pI d:=by
 have:=boundsF_ok.1 h
 unfold pI; omega
structure Resh (a : Arr) (es : List Dim) : Prop where
 oka : OkA a.dims a.attrs a.cells
 sch : cG es a.attrs = 0
 fin : ∀ i,i < a.dims.length→(at_ a.dims i).hi≤1073741824
 fin' : ∀ i,i < es.length→(at_ es i).hi≤1073741824
 same : od a.dims = od es
section
variable {a : Arr} {es : List Dim}
theorem Resh.ext(h : Resh a es) : (∀ d∈a.dims,0 < pI d)∧∀ d∈es,0 < pI d :=
 ⟨fun d hd=>wQ ((pr (bg h.oka.sch).1).2.2.1 d hd).1,fun d hd=>wQ ((pr (bg h.sch).1).2.2.1 d hd).1⟩
theorem Resh.cell(h : Resh a es){c : Cell}(hc : c∈a.cells) : c.at'.length = a.dims.length∧∀ i,i < a.dims.length→(at_ a.dims i).lo≤at_ c.at' i∧at_ c.at' i≤(at_ a.dims i).hi:=by
 obtain ⟨h1,h2,h3,h4⟩:=cellF_ok.1 (h.oka.cel c hc)
 rw [c7 h1] at h3
 refine ⟨h1,fun i hi=>?_⟩
 have:=h3 i hi
 unfold fj at this
 omega
end
end Go.Proofs.YtpejdgkaapnekaaGreat
namespace Go.Proofs.YtpejdgkaapnekaaGreat
open Go Go.Abs
def atX(ats : List Attr)(name : List UInt8) : Int:=aD (fun a : Attr=>a.name == name) ats 0
end Go.Proofs.YtpejdgkaapnekaaGreat
namespace Go.Proofs.YtpejdgkaapnekaaGreat
open Go Go.Abs
theorem ib{α : Type}{p : α→Bool} : ∀ {l : List α} {j : Nat},aD p l j < 0→∀ x∈l,p x = false
 | [],_,_,_,h=>by simp at h
 | x::l,j,h,y,hy=>by
   simp only [aD] at h
   split at h
   ·omega
   ·rename_i h1
    rcases List.mem_cons.1 hy with rfl | hy
    ·simpa using h1
    ·exact ib h y hy
section
variable {src kept : List (Int×Bool)} {ds : List Dim} {rule : Int}
end
theorem Attr.ext{a b : Attr}(h1 : a.name = b.name)(h2 : a.type = b.type) : a = b:=by cases a; cases b; simp_all
end Go.Proofs.YtpejdgkaapnekaaGreat
namespace Go.Proofs.YtpejdgkaapnekaaGreat
open Go Go.Abs
def ar{α : Type}[Inhabited α](l : List α)(ks : List Int) : List α:=ks.map fun k=>at_ l k.toNat
def EU(ks : List Int)(c : Cell) : Cell:=⟨ar c.at' ks,c.vals⟩
theorem uD : ∀ {m : Nat} {l : List Nat},l.Nodup→(∀ x∈l,x < m)→l.length≤m
 | 0,l,_,h=>by
   cases l with
   | nil=>simp
   | cons x r=>exact absurd (h x List.mem_cons_self) (Nat.not_lt_zero _)
 | m + 1,l,hn,h=>by
   by_cases hm : m∈l
   ·have h1:=uD (m:=m) (l:=l.erase m) (hn.erase m) fun x hx=>by
     have h2:=(hn.mem_erase_iff).1 hx
     have:=h x h2.2
     omega
    rw [List.length_erase_of_mem hm] at h1
    omega
   ·have h1:=uD (m:=m) (l:=l) hn fun x hx=>by
     have:=h x hx
     have : x≠m:=fun e=>hm (e ▸ hx)
     omega
    omega
theorem D4{l : List Nat}{n : Nat}(hn : l.Nodup)(hl : l.length = n)(h : ∀ x∈l,x < n){i : Nat}(hi : i < n) : i∈l:=by
 by_cases hm : i∈l
 ·exact hm
 ·have h1:=uD (m:=n) (l:=i::l) (List.nodup_cons.2 ⟨hm,hn⟩) fun x hx=>by
   rcases List.mem_cons.1 hx with rfl | hx
   ·exact hi
   ·exact h x hx
  simp only [List.length_cons] at h1
  omega
structure Tran (a : Arr) (names : List (List UInt8)) : Prop where
 oka : OkA a.dims a.attrs a.cells
 len : names.length = a.dims.length
 all : ∀ n∈names,¬ bk a.dims n < 0
 nd : (names.map (bk a.dims)).Nodup
def ixs(ds : List Dim)(names : List (List UInt8)) : List Int:=names.map (bk ds)
def tp(a : Arr)(names : List (List UInt8)) : Arr:=⟨ar a.dims (ixs a.dims names),a.attrs,bp (a.cells.map (EU (ixs a.dims names)))⟩
theorem lG{α : Type}[Inhabited α]{l : List α}{ks : List Int}{i : Nat}(h : i < ks.length) : at_ (ar l ks) i = at_ l (at_ ks i).toNat:=by
 unfold ar; rw [bI h]
theorem bT{α : Type}[Inhabited α]{l : List α}{ks : List Int} : (ar l ks).length = ks.length:=by simp [ar]
theorem pb{ds : List Dim}(hn : (ds.map Dim.name).Nodup){j : Nat}(hj : j < ds.length){n : List UInt8}(h : (at_ ds j).name = n) : bk ds n = (j : Int):=by
 have h0 : ¬ bk ds n < 0:=fun hx=>by
  have:=ib hx _ (aX hj)
  simp [h] at this
 obtain ⟨k,h1,h2,h3,_⟩:=iF h0
 have:=tM hn h2 hj (h3.trans h.symm)
 rw [h1,this]
section
variable {a : Arr} {names : List (List UInt8)}
theorem Tran.ix(h : Tran a names){i : Nat}(hi : i < names.length) : ∃ k : Nat,at_ (ixs a.dims names) i = (k : Int)∧k < a.dims.length∧(at_ a.dims k).name = at_ names i:=by
 obtain ⟨k,h1,h2,h3,_⟩:=iF (h.all _ (aX hi))
 exact ⟨k,by unfold ixs; rw [bI hi,h1],h2,h3⟩
theorem ig : (ixs a.dims names).length = names.length:=by simp [ixs]
theorem Tran.nms(h : Tran a names) : (tp a names).dims.map Dim.name = names:=by
 refine dN (by simp [tp,ar,ixs]) fun i hi=>?_
 have hi' : i < names.length:=by simpa [tp,ar,ixs] using hi
 obtain ⟨k,h1,h2,h3⟩:=h.ix hi'
 rw [bI (by show i < (ar _ _).length; rw [bT,ig]; exact hi')]
 show (at_ (ar a.dims (ixs a.dims names)) i).name = _
 rw [lG (by rw [ig]; exact hi'),h1]
 exact h3
theorem Tran.namesNd(h : Tran a names) : names.Nodup:=by
 have:=h.nd
 rw [List.Nodup,List.pairwise_map] at this
 exact this.imp fun hne e=>hne (by rw [e])
theorem Tran.onto(h : Tran a names){i : Nat}(hi : i < a.dims.length) : ∃ j,j < names.length∧at_ (ixs a.dims names) j = (i : Int):=by
 have hlt : ∀ x∈(ixs a.dims names).map Int.toNat,x < a.dims.length:=fun x hx=>by
  obtain ⟨y,hy,rfl⟩:=List.mem_map.1 hx
  obtain ⟨j,hj,rfl⟩:=ez hy
  rw [ig] at hj
  obtain ⟨k,h1,h2,_⟩:=h.ix hj
  rw [h1]; simpa using h2
 have hnd : ((ixs a.dims names).map Int.toNat).Nodup:=by
  rw [List.Nodup,List.pairwise_map]
  refine List.Pairwise.imp_of_mem ?_ h.nd
  intro x y hx hy hne e
  apply hne
  obtain ⟨j,hj,rfl⟩:=ez (l:=ixs a.dims names) hx
  obtain ⟨j',hj',rfl⟩:=ez (l:=ixs a.dims names) hy
  rw [ig] at hj hj'
  obtain ⟨k,h1,_⟩:=h.ix hj
  obtain ⟨k',h1',_⟩:=h.ix hj'
  rw [h1,h1'] at e ⊢
  have e' : k = k':=by simpa using e
  rw [e']
 have:=D4 hnd (by rw [List.length_map,ig]; exact h.len) hlt hi
 obtain ⟨y,hy,e⟩:=List.mem_map.1 this
 obtain ⟨j,hj,rfl⟩:=ez hy
 rw [ig] at hj
 obtain ⟨k,h1,_⟩:=h.ix hj
 exact ⟨j,hj,by rw [h1] at e ⊢; simp at e; rw [e]⟩
theorem Tran.cell(h : Tran a names){c : Cell}(hc : c∈a.cells) : c.at'.length = a.dims.length:=(cellF_ok.1 (h.oka.cel c hc)).1
theorem Tran.old(h : Tran a names){i : Nat}(hi : i < a.dims.length) : ∃ j : Nat,j < names.length∧bk (tp a names).dims (at_ a.dims i).name = (j : Int)∧at_ (ixs a.dims names) j = (i : Int):=by
 obtain ⟨j,hj,he⟩:=h.onto hi
 refine ⟨j,hj,pb (by rw [h.nms]; exact h.namesNd) (by show j < (ar _ _).length; rw [bT,ig]; exact hj) ?_,he⟩
 show (at_ (ar a.dims (ixs a.dims names)) j).name = _
 rw [lG (by rw [ig]; exact hj),he]
 rfl
end
end Go.Proofs.YtpejdgkaapnekaaGreat
namespace Go.Proofs.YtpejdgkaapnekaaGreat
open Go Go.Abs
def iD(a : Arr)(n : List UInt8) : Bool:=decide (0≤bk a.dims n) || decide (0≤atX a.attrs n)
def xN(a : Arr)(n m : List UInt8) : Arr :=
 if 0≤bk a.dims n then ⟨a.dims.set (bk a.dims n).toNat ⟨m,(at_ a.dims (bk a.dims n).toNat).lo,(at_ a.dims (bk a.dims n).toNat).hi⟩,a.attrs,a.cells⟩
 else ⟨a.dims,a.attrs.set (atX a.attrs n).toNat ⟨m,(at_ a.attrs (atX a.attrs n).toNat).type⟩,a.cells⟩
theorem attrsGo_iff : ∀ {ats : List Attr} {met : List (List UInt8)},ee met ats = 0↔(∀ x∈ats,ea x.name = true∧x.name ∉ met∧1≤x.type∧x.type≤4)∧(ats.map Attr.name).Nodup
 | [],met=>by simp [ee]
 | x::r,met=>by
   have ih:=attrsGo_iff (ats:=r) (met:=met ++ [x.name])
   simp only [ee]
   constructor
   ·intro h
    split at h
    ·omega
    split at h
    ·omega
    rename_i h1 h2
    obtain ⟨i1,i2⟩:=ih.1 h
    simp only [Bool.or_eq_true,Bool.not_eq_true',not_or,Bool.not_eq_false,Bool.not_eq_true,List.contains_eq_mem,decide_eq_true_eq,decide_eq_false_iff_not] at h1
    refine ⟨fun y hy=>?_,?_⟩
    ·rcases List.mem_cons.1 hy with rfl | hy
     ·exact ⟨h1.1,h1.2,by omega,by omega⟩
     ·obtain ⟨j1,j2,j3,j4⟩:=i1 y hy
      exact ⟨j1,fun hm=>j2 (List.mem_append.2 (.inl hm)),j3,j4⟩
    ·rw [List.map_cons,List.nodup_cons]
     refine ⟨fun hm=>?_,i2⟩
     obtain ⟨y,hy,he⟩:=List.mem_map.1 hm
     exact (i1 y hy).2.1 (by rw [he]; simp)
   ·rintro ⟨h1,h2⟩
    rw [List.map_cons,List.nodup_cons] at h2
    obtain ⟨j1,j2,j3,j4⟩:=h1 x List.mem_cons_self
    rw [if_neg (by simp [j1,j2]),if_neg (by omega)]
    refine ih.2 ⟨fun y hy=>?_,h2.2⟩
    obtain ⟨k1,k2,k3,k4⟩:=h1 y (List.mem_cons_of_mem _ hy)
    refine ⟨k1,fun hm=>?_,k3,k4⟩
    rcases List.mem_append.1 hm with hm | hm
    ·exact k2 hm
    ·exact h2.1 (List.mem_map.2 ⟨y,hy,List.mem_singleton.1 hm⟩)
theorem zH{ats : List Attr}{n : List UInt8}(h : ¬ atX ats n < 0) : ∃ k : Nat,atX ats n = (k : Int)∧k < ats.length∧(at_ ats k).name = n:=by
 obtain ⟨k,h1,h2,h3,_⟩:=iO h
 exact ⟨k,by unfold atX; rw [h1]; simp,h2,by simpa using h3⟩
theorem dimX_mem{ds : List Dim}{n : List UInt8} : 0≤bk ds n↔n∈ds.map Dim.name:=by
 constructor
 ·intro h
  obtain ⟨k,_,h2,h3,_⟩:=iF (ds:=ds) (name:=n) (by omega)
  exact List.mem_map.2 ⟨_,aX h2,h3⟩
 ·intro h
  obtain ⟨d,hd,rfl⟩:=List.mem_map.1 h
  by_cases h0 : bk ds d.name < 0
  ·have:=ib h0 d hd
   simp at this
  ·omega
theorem atX_mem{ats : List Attr}{n : List UInt8} : 0≤atX ats n↔n∈ats.map Attr.name:=by
 constructor
 ·intro h
  obtain ⟨k,_,h2,h3⟩:=zH (ats:=ats) (n:=n) (by omega)
  exact List.mem_map.2 ⟨_,aX h2,h3⟩
 ·intro h
  obtain ⟨d,hd,rfl⟩:=List.mem_map.1 h
  by_cases h0 : atX ats d.name < 0
  ·have:=ib h0 d hd
   simp at this
  ·omega
structure Ren (a : Arr) (n m : List UInt8) : Prop where
 oka : OkA a.dims a.attrs a.cells
 has : n∈a.dims.map Dim.name∨n∈a.attrs.map Attr.name
 nm : ea m = true
 new : m = n∨(m ∉ a.dims.map Dim.name∧m ∉ a.attrs.map Attr.name)
section
variable {a : Arr} {n m : List UInt8}
theorem Ren.nd(h : Ren a n m) : (a.dims.map Dim.name).Nodup∧(a.attrs.map Attr.name).Nodup∧∀ x,x∈a.attrs.map Attr.name→x ∉ a.dims.map Dim.name:=by
 have hs:=attrsGo_iff.1 (bg h.oka.sch).2.2.2
 refine ⟨h.oka.dims.2.2.2,hs.2,fun x hx hd=>?_⟩
 obtain ⟨t,ht,rfl⟩:=List.mem_map.1 hx
 exact (hs.1 t ht).2.1 hd
theorem Ren.which(h : Ren a n m) : (∃ k : Nat,bk a.dims n = (k : Int)∧k < a.dims.length∧(at_ a.dims k).name = n∧xN a n m = ⟨a.dims.set k ⟨m,(at_ a.dims k).lo,(at_ a.dims k).hi⟩,a.attrs,a.cells⟩) ∨
  (n ∉ a.dims.map Dim.name∧∃ k : Nat,atX a.attrs n = (k : Int)∧k < a.attrs.length∧(at_ a.attrs k).name = n∧xN a n m = ⟨a.dims,a.attrs.set k ⟨m,(at_ a.attrs k).type⟩,a.cells⟩):=by
 by_cases h0 : 0≤bk a.dims n
 ·obtain ⟨k,h1,h2,h3,_⟩:=iF (ds:=a.dims) (name:=n) (by omega)
  refine .inl ⟨k,h1,h2,h3,?_⟩
  unfold xN
  rw [if_pos h0,h1]
  rfl
 ·have hd : n ∉ a.dims.map Dim.name:=fun hh=>h0 (dimX_mem.2 hh)
  have ha:=h.has.resolve_left hd
  have h4:=atX_mem.2 ha
  obtain ⟨k,h1,h2,h3⟩:=zH (ats:=a.attrs) (n:=n) (by omega)
  refine .inr ⟨hd,k,h1,h2,h3,?_⟩
  unfold xN
  rw [if_neg h0,h1]
  rfl
end
end Go.Proofs.YtpejdgkaapnekaaGreat
namespace Go.Proofs.YtpejdgkaapnekaaGreat
open Go Go.Abs
theorem pZ{n i : Nat}(h : i < n) : at_ (List.range n) i = i:=by simp [at_,List.getD_eq_getElem?_getD,h]
def inD(ds : List Dim)(n : List UInt8) : Bool:=decide (0≤bk ds n)
def ey(ad bd : List Dim)(n : Nat) : List Nat:=(List.range n).filter fun i=>inD ad (at_ bd i).name
def fb(ad bd : List Dim)(n : Nat) : List Nat:=(List.range n).filter fun i=>!inD ad (at_ bd i).name
def ju(ad bd : List Dim)(n : Nat) : List Int:=(ey ad bd n).map fun i=>bk ad (at_ bd i).name
def jv(ad bd : List Dim)(n : Nat) : List Int:=(ey ad bd n).map fun i : Nat=>(i : Int)
def bA(ad bd : List Dim)(n : Nat) : List Int:=(fb ad bd n).map fun i : Nat=>(i : Int)
def aI(ad bd : List Dim) : List Int:=ju ad bd bd.length
def bY(ad bd : List Dim) : List Int:=jv ad bd bd.length
def aV(ad bd : List Dim) : List Int:=bA ad bd bd.length
def dq(bd : List Dim)(d : Dim) : Dim:=if bk bd d.name < 0 then d else ⟨d.name,max d.lo (at_ bd (bk bd d.name).toNat).lo,min d.hi (at_ bd (bk bd d.name).toNat).hi⟩
def aW(ad bd : List Dim) : List Dim:=ad.map (dq bd) ++ ar bd (aV ad bd)
def bB(ad bd : List Dim)(c d : Cell) : Bool:=ar c.at' (aI ad bd) == ar d.at' (bY ad bd)
def kZ(ad bd : List Dim)(c d : Cell) : Cell:=⟨c.at' ++ ar d.at' (aV ad bd),c.vals ++ d.vals⟩
def fc(a b : Arr)(c : Cell) : List Cell:=(b.cells.filter (bB a.dims b.dims c)).map (kZ a.dims b.dims c)
def cI(a b : Arr) : List Cell:=a.cells.flatMap (fc a b)
def fZ(d : Dim) : Bool:=decide (d.hi < d.lo)
def cJ(a b : Arr) : Option Arr×Int :=
 if 4 < ((aW a.dims b.dims).length : Int)∨6 < ((a.attrs ++ b.attrs).length : Int) then (none,9)
 else if (aW a.dims b.dims).any fZ then (none,3)
 else dx (aW a.dims b.dims) (a.attrs ++ b.attrs) (cI a b)
def cK(a b : Arr) : Bool:=a.attrs.any fun x=>iD b x.name
def iE(a b : Arr) : Bool:=a.dims.any fun d=>inD b.dims d.name
def c8(a b : Arr) : Option Arr×Int :=
 if bZ a≠0∨bZ b≠0 then (none,2)
 else if !iE a b then (none,13)
 else if cK a b || cK b a then (none,11)
 else cJ a b
def cB(a b : Arr) : Option Arr×Int :=
 if bZ a≠0∨bZ b≠0 then (none,2)
 else if iE a b || (cK a b || cK b a) then (none,11)
 else cJ a b
section
variable {ad bd : List Dim}
theorem inD_iff{ds : List Dim}{n : List UInt8} : inD ds n = true↔n∈ds.map Dim.name:=by
 unfold inD; rw [decide_eq_true_eq]; exact dimX_mem
theorem p3{ds : List Dim}{n : List UInt8}(h : inD ds n = true) : ∃ k : Nat,bk ds n = (k : Int)∧k < ds.length∧(at_ ds k).name = n:=by
 have h0 : ¬ bk ds n < 0:=by have:=of_decide_eq_true h; omega
 obtain ⟨k,h1,h2,h3,_⟩:=iF h0
 exact ⟨k,h1,h2,h3⟩
theorem gz{n : Nat} : ey ad bd (n + 1) = if inD ad (at_ bd n).name then ey ad bd n ++ [n] else ey ad bd n:=by
 unfold ey
 rw [List.range_succ,List.filter_append]
 cases h : inD ad (at_ bd n).name <;> simp [h]
theorem eR{n : Nat} : fb ad bd (n + 1) = if inD ad (at_ bd n).name then fb ad bd n else fb ad bd n ++ [n]:=by
 unfold fb
 rw [List.range_succ,List.filter_append]
 cases h : inD ad (at_ bd n).name <;> simp [h]
theorem com_mem{n i : Nat} : i∈ey ad bd n↔i < n∧inD ad (at_ bd i).name = true:=by simp [ey]
theorem oth_mem{n i : Nat} : i∈fb ad bd n↔i < n∧inD ad (at_ bd i).name = false:=by simp [fb]
theorem wi{n : Nat} : (ey ad bd n).length≤n:=by
 have:=List.length_filter_le (fun i=>inD ad (at_ bd i).name) (List.range n)
 simpa [ey] using this
theorem n4{n : Nat} : (fb ad bd n).length≤n:=by
 have:=List.length_filter_le (fun i=>!inD ad (at_ bd i).name) (List.range n)
 simpa [fb] using this
theorem e7 : (aI ad bd).length = (ey ad bd bd.length).length:=by simp [aI,ju]
theorem lC : (bY ad bd).length = (ey ad bd bd.length).length:=by simp [bY,jv]
theorem jO : (aV ad bd).length = (fb ad bd bd.length).length:=by simp [aV,bA]
theorem lD{i : Nat}(h : i < (aI ad bd).length) : ∃ k j : Nat,at_ (aI ad bd) i = (k : Int)∧at_ (bY ad bd) i = (j : Int)∧k < ad.length∧j < bd.length∧(at_ ad k).name = (at_ bd j).name∧j = at_ (ey ad bd bd.length) i:=by
 have h1 : i < (ey ad bd bd.length).length:=by rw [← e7]; exact h
 have hm:=com_mem.1 (aX h1)
 obtain ⟨k,h2,h3,h4⟩:=p3 hm.2
 refine ⟨k,_,?_,?_,h3,hm.1,h4,rfl⟩
 ·show at_ ((ey ad bd bd.length).map _) i = _
  rw [bI h1,h2]
 ·show at_ ((ey ad bd bd.length).map _) i = _
  rw [bI h1]
theorem lE : ∀ i,i < (aI ad bd).length→0≤at_ (aI ad bd) i∧(at_ (aI ad bd) i).toNat < ad.length:=fun i hi=>by
 obtain ⟨k,j,h1,_,h2,_⟩:=lD hi
 rw [h1]; exact ⟨by omega,by simpa using h2⟩
theorem wj : ∀ i,i < (bY ad bd).length→0≤at_ (bY ad bd) i∧(at_ (bY ad bd) i).toNat < bd.length:=fun i hi=>by
 obtain ⟨k,j,_,h1,_,h2,_⟩:=lD (ad:=ad) (bd:=bd) (i:=i) (by rw [e7,← lC]; exact hi)
 rw [h1]; exact ⟨by omega,by simpa using h2⟩
theorem lF : ∀ i,i < (aV ad bd).length→0≤at_ (aV ad bd) i∧(at_ (aV ad bd) i).toNat < bd.length:=fun i hi=>by
 have h1 : i < (fb ad bd bd.length).length:=by rw [← jO]; exact hi
 have hm:=oth_mem.1 (aX h1)
 have : at_ (aV ad bd) i = ((at_ (fb ad bd bd.length) i : Nat) : Int):=by
  show at_ ((fb ad bd bd.length).map _) i = _
  rw [bI h1]
 rw [this]; exact ⟨by omega,by simpa using hm.1⟩
theorem DN{n : Nat} : (ey ad bd n).Nodup:=List.Pairwise.filter _ List.nodup_range
def ec(ad bd : List Dim)(m : Nat) : List Dim:=(List.range ad.length).map (fun j : Nat=>if ((aI ad bd).take m).contains (j : Int) then dq bd (at_ ad j) else at_ ad j) ++ ar bd (aV ad bd)
theorem pa{m : Nat} : (ec ad bd m).length = ad.length + (aV ad bd).length:=by simp [ec,bT]
theorem q6{m j : Nat}(h : j < ad.length) : at_ (ec ad bd m) j = if ((aI ad bd).take m).contains (j : Int) then dq bd (at_ ad j) else at_ ad j:=by
 unfold ec
 have : at_ ((List.range ad.length).map (fun j : Nat=>if ((aI ad bd).take m).contains (j : Int) then dq bd (at_ ad j) else at_ ad j) ++ ar bd (aV ad bd)) j = at_ ((List.range ad.length).map (fun j : Nat=>if ((aI ad bd).take m).contains (j : Int) then dq bd (at_ ad j) else at_ ad j)) j:=by
  simp only [at_,List.getD_eq_getElem?_getD]
  rw [List.getElem?_append_left (by simpa using h)]
 rw [this,bI (by simpa using h),pZ h]
theorem rV : ec ad bd 0 = ad ++ ar bd (aV ad bd):=by
 unfold ec
 congr 1
 refine dN (by simp) fun i hi=>?_
 have hi' : i < ad.length:=by simpa using hi
 rw [bI (by simpa using hi'),pZ hi']
 simp
theorem tK{d : Dim}(h : inD bd d.name = false) : dq bd d = d:=by
 unfold dq
 have : bk bd d.name < 0:=by have:=of_decide_eq_false h; omega
 rw [if_pos this]
theorem CG{j : Nat}(hn : (ad.map Dim.name).Nodup)(hj : j < ad.length) : (j : Int)∈aI ad bd↔inD bd (at_ ad j).name = true:=by
 constructor
 ·intro h
  obtain ⟨i,hi,he⟩:=ez h
  obtain ⟨k,l,h1,h2,h3,h4,h5,_⟩:=lD hi
  rw [he] at h1
  have : j = k:=by omega
  subst this
  rw [h5]
  exact inD_iff.2 (List.mem_map.2 ⟨_,aX h4,rfl⟩)
 ·intro h
  obtain ⟨l,h1,h2,h3⟩:=p3 h
  have hin : inD ad (at_ bd l).name = true:=inD_iff.2 (List.mem_map.2 ⟨_,aX hj,h3.symm⟩)
  refine List.mem_map.2 ⟨l,com_mem.2 ⟨h2,hin⟩,?_⟩
  exact pb hn hj h3.symm
theorem pc(hn : (ad.map Dim.name).Nodup) : ec ad bd (aI ad bd).length = aW ad bd:=by
 unfold ec aW
 congr 1
 refine dN (by simp) fun i hi=>?_
 have hi' : i < ad.length:=by simpa using hi
 rw [bI (by simpa using hi'),pZ hi',bI hi',List.take_length]
 by_cases h : (aI ad bd).contains (i : Int) = true
 ·rw [if_pos h]
 ·rw [if_neg h]
  have h2 : ¬ (i : Int)∈aI ad bd:=by simpa using h
  rw [CG hn hi'] at h2
  exact (tK (by simpa using h2)).symm
theorem zk{m : Nat}(hn : (ad.map Dim.name).Nodup)(hnb : (bd.map Dim.name).Nodup)(h : m < (aI ad bd).length) : ∃ k j : Nat,at_ (aI ad bd) m = (k : Int)∧at_ (bY ad bd) m = (j : Int)∧k < ad.length∧j < bd.length∧at_ (ec ad bd m) k = at_ ad k ∧
  ec ad bd (m + 1) = (ec ad bd m).set k ⟨(at_ ad k).name,max (at_ ad k).lo (at_ bd j).lo,min (at_ ad k).hi (at_ bd j).hi⟩:=by
 obtain ⟨k,j,h1,h2,h3,h4,h5,h6⟩:=lD h
 have hnot : ¬ (k : Int)∈(aI ad bd).take m:=by
  intro hm
  obtain ⟨i,hi,he⟩:=ez hm
  have hi2 : i < m:=by simp at hi; omega
  rw [tL hi2] at he
  obtain ⟨k',j',g1,g2,g3,g4,g5,g6⟩:=lD (ad:=ad) (bd:=bd) (i:=i) (by omega)
  rw [g1] at he
  have hk : k' = k:=by omega
  subst hk
  have hjj : j' = j:=tM hnb g4 h4 (by rw [← g5,← h5])
  rw [h6,g6] at hjj
  have hl:=e7 (ad:=ad) (bd:=bd)
  have e1:=cZ (l:=ey ad bd bd.length) (i:=i) (by omega)
  have e2:=cZ (l:=ey ad bd bd.length) (i:=m) (by omega)
  rw [hjj,← e2] at e1
  have:=(List.getElem?_inj (by omega) DN).1 e1
  omega
 have hc : ((aI ad bd).take m).contains (k : Int) = false:=by
  cases hb : ((aI ad bd).take m).contains (k : Int) with
  | false=>rfl
  | true=>exact absurd (by simpa using hb) hnot
 have hnar : dq bd (at_ ad k) = ⟨(at_ ad k).name,max (at_ ad k).lo (at_ bd j).lo,min (at_ ad k).hi (at_ bd j).hi⟩:=by
  have hd : bk bd (at_ ad k).name = (j : Int):=pb hnb h4 h5.symm
  unfold dq
  rw [if_neg (by rw [hd]; omega),hd]
  rfl
 refine ⟨k,j,h1,h2,h3,h4,by rw [q6 h3,hc]; rfl,?_⟩
 rw [← hnar]
 refine dN (by simp [pa]) fun i hi=>?_
 have hlen:=pa (ad:=ad) (bd:=bd) (m:=m + 1)
 rw [jh (by rw [pa]; omega)]
 by_cases hik : i < ad.length
 ·rw [q6 hik,q6 hik,ch h,h1]
  by_cases e : i = k
  ·subst e
   simp
  ·rw [if_neg e]
   have : (List.take m (aI ad bd) ++ [(k : Int)]).contains (i : Int) = (List.take m (aI ad bd)).contains (i : Int):=by
    have e2 : ¬ (i : Int) = (k : Int):=by omega
    rw [Bool.eq_iff_iff]
    simp [List.contains_iff_mem,e2]
   rw [this]
 ·rw [if_neg (by omega)]
  unfold ec
  simp only [at_,List.getD_eq_getElem?_getD]
  rw [List.getElem?_append_right (by simp; omega),List.getElem?_append_right (by simp; omega)]
  simp
end
section
variable {ad bd : List Dim}
theorem wk{α : Type}{f g : α→Int} : ∀ {l : List α},(l.map f == l.map g) = l.all fun i=>f i == g i
 | []=>by simp
 | x::l=>by simp only [List.map_cons,List.all_cons,← wk (l:=l)]; rfl
theorem matC_all{c d : Cell} : bB ad bd c d = (ey ad bd bd.length).all fun i=>at_ c.at' (bk ad (at_ bd i).name).toNat == at_ d.at' i:=by
 unfold bB ar aI bY ju jv
 rw [List.map_map,List.map_map,wk]
 rfl
theorem rW{a b : Arr}(ha : OkA a.dims a.attrs a.cells)(hb : OkA b.dims b.attrs b.cells){c c' d d' : Cell}(hc : c∈a.cells)(hc' : c'∈a.cells)(hd : d∈b.cells)(hd' : d'∈b.cells)(hm : bB a.dims b.dims c d = true)(hm' : bB a.dims b.dims c' d' = true)
  (he : (kZ a.dims b.dims c d).at' = (kZ a.dims b.dims c' d').at') : c.at' = c'.at'∧d.at' = d'.at':=by
 have l1:=(cellF_ok.1 (ha.cel _ hc)).1
 have l2:=(cellF_ok.1 (ha.cel _ hc')).1
 have l3:=(cellF_ok.1 (hb.cel _ hd)).1
 have l4:=(cellF_ok.1 (hb.cel _ hd')).1
 have he : c.at' ++ ar d.at' (aV a.dims b.dims) = c'.at' ++ ar d'.at' (aV a.dims b.dims):=he
 obtain ⟨h1,h2⟩:=List.append_inj he (by rw [l1,l2])
 refine ⟨h1,dN (by rw [l3,l4]) fun i hi=>?_⟩
 rw [l3] at hi
 cases hin : inD a.dims (at_ b.dims i).name with
 | true =>
   rw [matC_all,List.all_eq_true] at hm hm'
   have e1:=hm i (com_mem.2 ⟨hi,hin⟩)
   have e2:=hm' i (com_mem.2 ⟨hi,hin⟩)
   simp only [beq_iff_eq] at e1 e2
   rw [← e1,← e2,h1]
 | false =>
   have hmem : i∈fb a.dims b.dims b.dims.length:=oth_mem.2 ⟨hi,hin⟩
   obtain ⟨k,hk,hk2⟩:=ez hmem
   have e:=congrArg (fun l=>at_ l k) h2
   have hkr : k < (aV a.dims b.dims).length:=by rw [jO]; exact hk
   have hx : at_ (aV a.dims b.dims) k = (i : Int):=by
    show at_ ((fb a.dims b.dims b.dims.length).map _) k = _
    rw [bI hk,hk2]
   simp only [lG hkr,hx] at e
   simpa using e
theorem p4{a b : Arr}(ha : OkA a.dims a.attrs a.cells)(hb : OkA b.dims b.attrs b.cells) : (cI a b).Pairwise bG:=by
 have hsa:=c3 ha.srt
 have hsb:=c3 hb.srt
 have key : ∀ l : List Cell,(∀ c∈l,c∈a.cells)→l.Pairwise bG→(l.flatMap (fc a b)).Pairwise bG:=by
  intro l
  induction l with
  | nil=>intro _ _; exact List.Pairwise.nil
  | cons c r ih =>
    intro hin hp
    rw [List.pairwise_cons] at hp
    rw [List.flatMap_cons,List.pairwise_append]
    refine ⟨?_,ih (fun x hx=>hin x (List.mem_cons_of_mem _ hx)) hp.2,fun x hx y hy=>?_⟩
    ·show ((b.cells.filter (bB a.dims b.dims c)).map (kZ a.dims b.dims c)).Pairwise bG
     rw [List.pairwise_map]
     refine List.Pairwise.imp_of_mem ?_ (hsb.sublist List.filter_sublist)
     intro d d' hd hd' hne he
     rw [List.mem_filter] at hd hd'
     exact hne (rW ha hb (hin c List.mem_cons_self) (hin c List.mem_cons_self) hd.1 hd'.1 hd.2 hd'.2 he).2
    ·obtain ⟨d,hd,rfl⟩:=List.mem_map.1 hx
     obtain ⟨c',hc',hy⟩:=List.mem_flatMap.1 hy
     obtain ⟨d',hd',rfl⟩:=List.mem_map.1 hy
     rw [List.mem_filter] at hd hd'
     intro he
     exact hp.1 c' hc' (rW ha hb (hin c List.mem_cons_self) (hin c' (List.mem_cons_of_mem _ hc')) hd.1 hd'.1 hd.2 hd'.2 he).1
 exact key a.cells (fun c h=>h) hsa
def jN(a b : Arr)(i j : Nat) : List Cell:=(a.cells.take i).flatMap (fc a b) ++ (fc a b (at_ a.cells i)).take j
theorem wm{a b : Arr} : jN a b 0 0 = []:=by simp [jN]
theorem CH{a b : Arr}{i : Nat}(hi : i < a.cells.length){j : Nat}(hj : (fc a b (at_ a.cells i)).length≤j) : jN a b i j = jN a b (i + 1) 0:=by
 unfold jN
 rw [ch hi,List.flatMap_append,List.take_of_length_le hj]
 simp
theorem DO{a b : Arr}{i j : Nat}(hj : j < (fc a b (at_ a.cells i)).length) : jN a b i (j + 1) = jN a b i j ++ [at_ (fc a b (at_ a.cells i)) j]:=by
 unfold jN
 rw [ch hj,List.append_assoc]
theorem zl{a b : Arr}{i : Nat}(hi : a.cells.length≤i) : jN a b i 0 = cI a b:=by
 unfold jN cI
 rw [List.take_of_length_le hi]
 simp
theorem EJ{a b : Arr}{i : Nat}(hi : i < a.cells.length){j : Nat} : (jN a b i j).length + ((fc a b (at_ a.cells i)).length - j)≤(cI a b).length:=by
 have h1 : cI a b = (a.cells.take (i + 1)).flatMap (fc a b) ++ (a.cells.drop (i + 1)).flatMap (fc a b):=by
  unfold cI
  rw [← List.flatMap_append,List.take_append_drop]
 rw [h1,ch hi,List.flatMap_append]
 unfold jN
 simp only [List.length_append,List.length_take,List.flatMap_cons,List.flatMap_nil,List.append_nil]
 omega
end
end Go.Proofs.YtpejdgkaapnekaaGreat
namespace Go.Abs
open Go
variable {P : Program} {V : Env} {st : St} {o : Oper}
theorem eH{t e : TypeId}{x y : Operand}{id m k k' b b' : Nat}{ik : IntKind}{i : Int}{xs : List (List D)}{z : List D}(ho : o.op = .indexAddr t x y)(ht : aN V.T t = some (e,k',b',z))(hx : ev st x = some (.one (.own id m)))
  (hl : look st.sto id = some (.row k b xs)) (hk : Nat.beq k k' = true) (hy : ev st y = some (.one (.d (.int ik i)))) (h0 : 0≤i) (hm : i < (m : Int)) : aM V st o 0 = some ⟨.one (.rref id i.toNat 0),[],[]⟩:=by
 simp only [aM,cV,cj,ho,cQ,nj,hx,hy,ht,hl,hk,h0,hm,decide_true,Bool.and_self,cond_true]
theorem cW{t : TypeId}{x : Operand}{id j off k b s : Nat}{g : Bool}{xs : List (List D)}{el : List D}{v : AV}(ho : o.op = .load t x)(hx : ev st x = some (.one (.rref id j off)))(hT : ga V.T t = some (g,s))
  (hl : look st.sto id = some (.row k b xs)) (hj : xs[j]? = some el) (hv : eo g s ((el.drop off).map .d) = some v) : aM V st o 0 = some ⟨v,[],[]⟩:=by
 simp only [aM,cV,cj,ho,cQ,hx,hT,hl,jb,ka,eO,hj,hv]
theorem b9{t : TypeId}{x y : Operand}{id j off k b s : Nat}{g : Bool}{xs : List (List D)}{el el' ds : List D}{cs : List AC}{v : AV}(ho : o.op = .store t x y)(hd : o.dst = none)(hx : ev st x = some (.one (.rref id j off)))(hy : ev st y = some v)(hT : ga V.T t = some (g,s))
  (hl : look st.sto id = some (.row k b xs)) (hc : cellsOf v = some cs) (hs : Nat.beq cs.length s = true) (ha : eb cs = some ds) (hj : xs[j]? = some el) (hsp : cD off ds el = some el') : aM V st o 0 = some ⟨.any,[(id,some (.row k b (xs.set j el')))],[]⟩:=by
 simp only [aM,cV,cj,ho,cQ,hx,hy,hT,hl,hc,hs,ha,kb,eO,hj,hsp,cond_true]
 simp [hd,fe]
theorem iH{xs : List (List D)}{j : Nat}{el : List D}(h : j < xs.length) : (xs.set j el)[j]? = some el:=by simp [h]
theorem eI{α : Type}[Inhabited α]{f : α→List D}{l : List α}{xs : List (List D)}{i : Nat}(h : xs = l.map f)(hi : i < xs.length) : xs[i]? = some (f (at_ l i)):=by
 subst h; exact db (by simpa using hi)
theorem kA{t e : TypeId}{x y : Operand}{id n k b d : Nat}{i j : Int}{z : List D}(ho : o.op = .makeSlice t x y)(hd : o.dst = some d)(ht : aN V.T t = some (e,k,b,z))(hx : ev st x = some (.one (.d (.int .i64 i))))(hy : ev st y = some (.one (.d (.int .i64 j))))(hi : i = (n : Int))(hj : j = (n : Int))(hn : n≤1000)(hb : b≤100) :
  aM V st o id = some ⟨.one (.own id n),[(id,some (.row k b (List.replicate n z)))],[id]⟩:=by
 subst hi; subst hj
 have h1 : Nat.ble (n * b) 1000000 = true:=Nat.ble_eq.mpr (Nat.le_trans (Nat.mul_le_mul hn hb) (by omega))
 have h2 : Nat.ble n 1000000 = true:=Nat.ble_eq.mpr (by omega)
 have h3 : (0 : Int)≤(n : Int):=Int.natCast_nonneg n
 simp only [aM,cV,cj,ho,cQ,iM,hx,hy,ht,hd,fe,h3,decide_true,Int.toNat_natCast,h1,h2,Bool.and_self,cond_true]
end Go.Abs
namespace Go.Abs
open Go
def dQ(a : List Int) : List D:=[.int .i64 (at_ a 0),.int .i64 (at_ a 1),.int .i64 (at_ a 2),.int .i64 (at_ a 3)]
theorem mD{a b : List Int}(h : a.length = b.length)(h4 : a.length≤4) : bX (dQ a) (dQ b) = (a == b):=by
 have key : a = b↔at_ a 0 = at_ b 0∧at_ a 1 = at_ b 1∧at_ a 2 = at_ b 2∧at_ a 3 = at_ b 3:=by
  constructor
  ·rintro rfl; exact ⟨rfl,rfl,rfl,rfl⟩
  ·rintro ⟨h0,h1,h2,h3⟩
   refine List.ext_getElem? fun i=>?_
   rcases Nat.lt_or_ge i a.length with hi | hi
   ·rw [cZ hi,cZ (by omega)]
    have : i = 0∨i = 1∨i = 2∨i = 3:=by omega
    rcases this with rfl | rfl | rfl | rfl
    ·rw [h0]
    ·rw [h1]
    ·rw [h2]
    ·rw [h3]
   ·rw [List.getElem?_eq_none hi,List.getElem?_eq_none (by omega)]
 rw [Bool.eq_iff_iff]
 simp only [dQ,bX,eqD,Bool.and_true,Bool.and_eq_true,beq_iff_eq,key]
def cS(f : Nat→D) : List (List Int)→Nat→List (List D×List D)
 | [],_=>[]
 | k::r,i=>(dQ k,[f i])::cS f r (i + 1)
def bQ(x : List Int) : List (List Int)→Nat→Option Nat
 | [],_=>none
 | k::r,i=>if k == x then some i else bQ x r (i + 1)
theorem ry{f : Nat→D}{x : List Int}(h4 : x.length≤4) : ∀ {ks : List (List Int)} {n i : Nat},(∀ k∈ks,k.length = x.length) →
  (bQ x ks n = none→bP (dQ x) (cS f ks n) i = none)∧∀ j,bQ x ks n = some j→∃ m,bP (dQ x) (cS f ks n) i = some (m,[f j])
 | [],n,i,_=>⟨fun _=>rfl,fun j h=>by cases h⟩
 | k::r,n,i,h=>by
   have hk:=h k List.mem_cons_self
   have ih:=ry (f:=f) h4 (ks:=r) (n:=n + 1) (i:=i + 1) fun y hy=>h y (List.mem_cons_of_mem _ hy)
   have e:=mD hk.symm h4
   have e2 : (k == x) = (x == k):=by rw [Bool.eq_iff_iff]; simp only [beq_iff_eq]; exact eq_comm
   simp only [bQ,cS,bP,e,e2]
   cases hb : (x == k) with
   | true=>exact ⟨fun h=>(by simp at h),fun j hj=>⟨i,by simp at hj; subst hj; rfl⟩⟩
   | false=>simpa using ih
theorem AM{f : Nat→D}{x : List Int}(h4 : x.length≤4) : ∀ {ks : List (List Int)} {n : Nat},(∀ k∈ks,k.length = x.length)→bQ x ks n = none→eL (dQ x) [f (n + ks.length)] (cS f ks n) = cS f (ks ++ [x]) n
 | [],n,_,_=>rfl
 | k::r,n,h,hw=>by
   have hk:=h k List.mem_cons_self
   have e:=mD hk.symm h4
   have e2 : (k == x) = (x == k):=by rw [Bool.eq_iff_iff]; simp only [beq_iff_eq]; exact eq_comm
   simp only [bQ] at hw
   cases hb : (x == k) with
   | true=>rw [e2,hb] at hw; simp at hw
   | false =>
     rw [e2,hb] at hw
     have ih:=AM (f:=f) h4 (ks:=r) (n:=n + 1) (fun y hy=>h y (List.mem_cons_of_mem _ hy)) (by simpa using hw)
     have e3 : n + 1 + r.length = n + (k::r).length:=by simp only [List.length_cons]; omega
     rw [e3] at ih
     simp only [List.cons_append,cS,eL,e,hb,cond_false,ih]
def pk : List KK:=[.int .i64,.int .i64,.int .i64,.int .i64]
theorem kI{f : Nat→D} : ∀ {ks : List (List Int)} {n : Nat},dW pk (cS f ks n) = true
 | [],_=>rfl
 | k::r,n=>by
   simp only [cS,dW,kI (ks:=r)]
   rfl
variable {V : Env} {st : St} {o : Oper}
def j6(x : List Int) : AV:=.agg [.d (.int .i64 (at_ x 0)),.d (.int .i64 (at_ x 1)),.d (.int .i64 (at_ x 2)),.d (.int .i64 (at_ x 3))]
theorem iZ{t id : Nat}{m : MTy}{x y : Operand}{ok : Bool}{a : List Int}{f : Nat→D}{ks : List (List Int)}{v : AV}(ho : o.op = .lookup t x y ok)(hm : look V.M t = some m)(hms : m.ks = pk)(hk : m.kg = true)(hv : m.vg = false)
  (hx : ev st x = some (.one (.mapr id))) (hl : look st.sto id = some (.map true false (cS f ks 0))) (hy : ev st y = some (j6 a)) (h4 : a.length≤4) (hks : ∀ k∈ks,k.length = a.length)
  (hr : (match bQ a ks 0 with | some j=>nG false [f j] true ok | none=>nG false m.z false ok) = some v) : aM V st o 0 = some ⟨v,[],[]⟩:=by
 have hd : fJ true (j6 a) = some (dQ a):=rfl
 have hF:=ry (f:=f) h4 (ks:=ks) (n:=0) (i:=0) hks
 have hlk : kJ m (cS f ks 0) (dQ a) ok = some v:=by
  unfold kJ
  rw [hv]
  cases hw : bQ a ks 0 with
  | none=>rw [hF.1 hw]; rw [hw] at hr; exact hr
  | some j =>
    obtain ⟨q,hq⟩:=hF.2 j hw
    rw [hq]; rw [hw] at hr; exact hr
 have e1 : cV V.T st o 0 = none:=by
  simp only [cV,cj,ho,cQ,iM]
  cases o.dst <;> simp [fe]
 simp only [aM,e1]
 rw [ho]
 simp only [hm,hx,hy,hl,hk,hd,hv,bEq,hms,kI,hlk,cond_true]
 rfl
theorem yB{t id : Nat}{m : MTy}{x y z : Operand}{a : List Int}{f : Nat→D}{ks : List (List Int)}{d : D}(ho : o.op = .mapUpdate t x y z)(hdst : o.dst = none)(hm : look V.M t = some m)(hms : m.ks = pk)(hk : m.kg = true)(hv : m.vg = false)
  (hx : ev st x = some (.one (.mapr id))) (hl : look st.sto id = some (.map true false (cS f ks 0))) (hy : ev st y = some (j6 a)) (hz : ev st z = some (.one (.d d))) (h4 : a.length≤4) (hks : ∀ k∈ks,k.length = a.length)
  (hn : bQ a ks 0 = none) (hf : f ks.length = d) : aM V st o 0 = some ⟨.any,[(id,some (.map true false (cS f (ks ++ [a]) 0)))],[]⟩:=by
 have hd : fJ true (j6 a) = some (dQ a):=rfl
 have hd2 : fJ false (.one (.d d)) = some [d]:=rfl
 have hU:=AM (f:=f) h4 (n:=0) hks hn
 rw [Nat.zero_add,hf] at hU
 have e1 : cV V.T st o 0 = none:=by
  simp only [cV,cj,ho,cQ,iM,hdst]
  rfl
 simp only [aM,e1]
 rw [ho]
 simp only [hm,hx,hy,hz,hl,hk,hd,hd2,hv,bEq,hms,kI,hU,hdst,cond_true]
 rfl
end Go.Abs
namespace Go.Proofs.YtpejdgkaapnekaaGreat
open Go Go.Abs
attribute [local irreducible] aa OkC aq aC ax aS
set_option maxRecDepth 10000
theorem xB(x : List Int)(h : x.length≤4) : CallA Tryz.prog 111 [.one (.d (aF x))] [] (j6 x) []:=by
 refine enter ag Tryz.func111 rfl (by decide +kernel) rfl fun hok w0 σ0 φ0 M=>?_
 clear hok
 match x,h with
 | [],_ =>
   repeat' (first|refine wG ?_)
   all_goals rfl
 | [a],_ =>
   repeat' (first|refine wG ?_)
   all_goals rfl
 | [a,b],_ =>
   repeat' (first|refine wG ?_)
   all_goals rfl
 | [a,b,c],_ =>
   repeat' (first|refine wG ?_)
   all_goals rfl
 | [a,b,c,d],_ =>
   repeat' (first|refine wG ?_)
   all_goals rfl
end Go.Proofs.YtpejdgkaapnekaaGreat
namespace Go.Proofs.YtpejdgkaapnekaaGreat
open Go Go.Abs
attribute [local irreducible] aa OkC aq aC ax aS
set_option maxRecDepth 10000
section
variable {src : List (Int×Bool)} {c : Cell} {k : Nat}
end
end Go.Proofs.YtpejdgkaapnekaaGreat
namespace Go.Proofs.YtpejdgkaapnekaaGreat
open Go Go.Abs
attribute [local irreducible] aa OkC aq aC ax aS
set_option maxRecDepth 10000
section
variable {src kept : List (Int×Bool)} {ds : List Dim} {rule : Int} {c : Cell} {cs cs' l : List Cell} {x : List Int} {j : Nat}
theorem zX(o : Option Nat) : o = none∨∃ j,o = some j:=by cases o <;> simp
end
end Go.Proofs.YtpejdgkaapnekaaGreat
namespace Go.Proofs.YtpejdgkaapnekaaGreat
open Go Go.Abs
def dI(x : List Int) : List Cell→Nat
 | []=>0
 | c::r=>if aJ c.at' x < 0 then dI x r + 1 else 0
def fx(l : List Cell)(x : List Int) : Bool:=decide (dI x l < l.length) && (aJ (at_ l (dI x l)).at' x == 0)
def dg(c : Cell) : List Cell→List Cell
 | []=>[c]
 | x::r=>if aJ x.at' c.at' < 0 then x::dg c r else if aJ x.at' c.at' = 0 then c::r else c::x::r
theorem uk{x : List Int} : ∀ {l : List Cell},dI x l≤l.length
 | []=>by simp [dI]
 | c::r=>by
   have:=uk (x:=x) (l:=r)
   simp only [dI]
   split <;> simp only [List.length_cons] <;> omega
theorem um{x : List Int} : ∀ {l : List Cell} {j : Nat},j < dI x l→aJ (at_ l j).at' x < 0
 | [],j,h=>by simp [dI] at h
 | c::r,j,h=>by
   simp only [dI] at h
   split at h
   ·rename_i h1
    cases j with
    | zero=>exact h1
    | succ j=>exact um (l:=r) (by omega)
   ·omega
theorem uo{x : List Int} : ∀ {l : List Cell} {j : Nat},l.Pairwise ltC→dI x l≤j→j < l.length→¬ aJ (at_ l j).at' x < 0
 | [],j,_,_,h=>by simp at h
 | c::r,j,hs,hp,hj=>by
   rw [List.pairwise_cons] at hs
   simp only [dI] at hp
   split at hp
   ·rename_i h1
    cases j with
    | zero=>omega
    | succ j=>exact uo (l:=r) hs.2 (by omega) (by simpa using hj)
   ·rename_i h1
    cases j with
    | zero=>exact h1
    | succ j =>
      intro h2
      have h3 : ltC c (at_ r j):=hs.1 _ (aX (by simpa using hj))
      exact h1 (gB (x:=c) (y:=at_ r j) (z:=⟨x,[]⟩) h3 h2)
theorem Bt{x : List Int}{l : List Cell}{k : Nat}(hs : l.Pairwise ltC)(hk : k≤l.length)(h1 : ∀ j,j < k→aJ (at_ l j).at' x < 0)(h2 : ∀ j,k≤j→j < l.length→¬ aJ (at_ l j).at' x < 0) : dI x l = k:=by
 rcases Nat.lt_trichotomy (dI x l) k with h | h | h
 ·exact absurd (h1 _ h) (uo hs (Nat.le_refl _) (by omega))
 ·exact h
 ·exact absurd (um h) (h2 _ (Nat.le_refl _) (by have:=uk (x:=x) (l:=l); omega))
theorem xP{x : List Int}{c : Cell}{r : List Cell} : fx (c::r) x = if aJ c.at' x < 0 then fx r x else aJ c.at' x == 0:=by
 unfold fx
 simp only [dI]
 split
 ·simp only [List.length_cons,Nat.add_lt_add_iff_right]; rfl
 ·simp only [List.length_cons,Nat.zero_lt_succ,decide_true,Bool.true_and]; rfl
theorem rY{x : List Int} : ∀ {l : List Cell},l.Pairwise ltC→(fx l x = true↔∃ y∈l,y.at' = x)
 | [],_=>by simp [fx]
 | c::r,hs=>by
   rw [List.pairwise_cons] at hs
   rw [xP]
   split
   ·rename_i h1
    rw [rY hs.2]
    constructor
    ·rintro ⟨y,hy,he⟩; exact ⟨y,List.mem_cons_of_mem _ hy,he⟩
    ·rintro ⟨y,hy,he⟩
     rcases List.mem_cons.1 hy with rfl | hy
     ·rw [he,gx] at h1; omega
     ·exact ⟨y,hy,he⟩
   ·rename_i h1
    constructor
    ·intro h; exact ⟨c,List.mem_cons_self,rj _ _ (by simpa using h)⟩
    ·rintro ⟨y,hy,he⟩
     rcases List.mem_cons.1 hy with rfl | hy
     ·rw [he,gx]; rfl
     ·have:=hs.1 y hy
      unfold ltC at this
      rw [he] at this
      exact absurd this h1
end Go.Proofs.YtpejdgkaapnekaaGreat
namespace Go.Abs
open Go
variable {V : Env} {st : St} {o : Oper}
theorem q8{t e : TypeId}{x y : Operand}{k k' b b' : Nat}{ik : IntKind}{h : Int}{xs : List (List D)}{z : List D}(ho : o.op = .slice t x none (some y) none)(ht : aN V.T t = some (e,k',b',z))(hx : ev st x = some (.one (.d (.sl k b xs))))(hy : ev st y = some (.one (.d (.int ik h))))
  (hk : Nat.beq k k' = true) (h0 : 0≤h) (hm : h.toNat≤xs.length) : aM V st o 0 = some ⟨.one (.d (.sl k b (xs.take h.toNat))),[],[]⟩:=by
 have e1 : Nat.ble h.toNat xs.length = true:=Nat.ble_eq.mpr hm
 have e0 : Nat.ble 0 h.toNat = true:=Nat.ble_eq.mpr (Nat.zero_le _)
 simp only [aM,cV,cj,ho,cQ,gq,hx,hy,h0,decide_true,cond_true,ji,ht,hk,e0,e1,Bool.and_self,List.drop_zero]
theorem lJ{t e : TypeId}{x y : Operand}{k k' b b' : Nat}{ik : IntKind}{h : Int}{xs : List (List D)}{z : List D}(ho : o.op = .slice t x (some y) none none)(ht : aN V.T t = some (e,k',b',z))(hx : ev st x = some (.one (.d (.sl k b xs))))(hy : ev st y = some (.one (.d (.int ik h))))
  (hk : Nat.beq k k' = true) (h0 : 0≤h) (hm : h.toNat≤xs.length) : aM V st o 0 = some ⟨.one (.d (.sl k b (xs.drop h.toNat))),[],[]⟩:=by
 have e1 : Nat.ble h.toNat xs.length = true:=Nat.ble_eq.mpr hm
 have e2 : Nat.ble xs.length xs.length = true:=Nat.ble_eq.mpr (Nat.le_refl _)
 simp only [aM,cV,cj,ho,cQ,gq,hx,hy,h0,decide_true,cond_true,ji,ht,hk,e1,e2,Bool.and_self,List.take_length]
end Go.Abs
