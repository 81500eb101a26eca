import Derived.Test.YtpejdgkaapnekaaGreatWP35
import Derived.Test.YtpejdgkaapnekaaGreatWP25
import Derived.Test.YtpejdgkaapnekaaGreatWP20
import Derived.Test.YtpejdgkaapnekaaGreatWP26
import Derived.Test.YtpejdgkaapnekaaGreatWP21
import Derived.Test.YtpejdgkaapnekaaGreatWP17
import Derived.Test.YtpejdgkaapnekaaGreatWP16
set_option linter.unusedVariables false
set_option linter.unusedSimpArgs false
set_option linter.unnecessarySimpa false
set_option maxHeartbeats 1000000
namespace Go.Proofs.YtpejdgkaapnekaaGreat
open Go Go.Abs
theorem Hi{a c : Arr}{lo hi : List Int}(h : fP a lo hi = (some c,0)) : dB a = 0∧lo.length = a.dims.length∧hi.length = a.dims.length∧(bM a.dims lo hi).all okD = true∧c = ⟨bM a.dims lo hi,a.attrs,a.cells.filter fun c=>bt (bM a.dims lo hi) c.at'⟩:=by
 unfold fP at h
 split at h
 ·cases h
 rename_i h1
 split at h
 ·cases h
 rename_i h2
 split at h
 ·cases h
 rename_i h3
 have h1' : bE a.dims a.attrs a.cells = 0:=by omega
 refine ⟨h1',by omega,by omega,by simpa using h3,?_⟩
 unfold gk at h
 split at h
 ·cases h
 have e:=(okA h1').srt.filter (fun c : Cell=>bt (bM a.dims lo hi) c.at')
 rw [oA e] at h
 simp only [Prod.mk.injEq,Option.some.injEq,and_true] at h
 exact h.symm
theorem FD{a c : Arr}{s : Scalar}(h : la a s = (some c,0)) : (aM a.dims a.attrs a.cells s).2 = 0∧(aM a.dims a.attrs a.cells s).1 = 1∧dB a = 0∧c = ⟨a.dims,a.attrs,qe a s a.cells⟩:=by
 unfold la at h
 split at h
 ·cases h
 rename_i h1
 split at h
 ·cases h
 rename_i h2
 have h1 : (aM a.dims a.attrs a.cells s).2 = 0:=by omega
 have hk:=(j6 h1).1
 refine ⟨h1,by omega,hk,?_⟩
 unfold gk at h
 split at h
 ·cases h
 rw [oA ((okA hk).srt.filter _)] at h
 simp only [Prod.mk.injEq,Option.some.injEq,and_true] at h
 exact h.symm
theorem FE{ds : List Dim}{ats : List Attr}{cs : List Cell}(p : Cell→Bool)(h : bE ds ats cs = 0) : bE ds ats (cs.filter p) = 0:=by
 have hA:=okA h
 exact kH ⟨hA.sch,Nat.le_trans (List.length_filter_le _ _) hA.few,hA.srt.filter _,fun c hc=>hA.cel c (List.mem_filter.1 hc).1⟩
section
variable {ds : List Dim} {lo hi : List Int}
theorem wj(hl : lo.length = ds.length)(hh : hi.length = ds.length) : (bM ds lo hi).map Dim.name = ds.map Dim.name:=by
 refine gU (by simp [eu hl hh]) fun i hi'=>?_
 have h : i < ds.length:=by simpa [eu hl hh] using hi'
 rw [cZ (by rw [eu hl hh]; exact h),cZ h,nD hl hh h]; rfl
theorem Hj{ats : List Attr}{cs : List Cell}(hc : bE ds ats cs = 0)(hl : lo.length = ds.length)(hh : hi.length = ds.length)(ho : (bM ds lo hi).all okD = true) : bE (bM ds lo hi) ats (cs.filter fun c=>bt (bM ds lo hi) c.at') = 0:=by
 have hA:=okA hc
 obtain ⟨s1,s2,s3,s4⟩:=c9 hA.sch
 obtain ⟨d1,d2,d3,d4⟩:=lU s1
 refine kH ⟨lg (by rw [eu hl hh]; exact d1) (by rw [eu hl hh]; exact d2) (fun d hd=>?_) (by rw [wj hl hh]; exact d4) s2 s3 (by rw [wj hl hh]; exact s4),Nat.le_trans (List.length_filter_le _ _) hA.few,hA.srt.filter _,fun c hc=>?_⟩
 ·obtain ⟨i,hi',rfl⟩:=fg hd
  have hi2 : i < ds.length:=by rw [eu hl hh] at hi'; exact hi'
  have h1:=List.all_eq_true.1 ho _ hd
  obtain ⟨h2,h3⟩:=d3 _ (b9 hi2)
  rw [nD hl hh hi2] at h1 ⊢
  have h4:=boundsF_ok.1 h2
  simp only [okD,Bool.not_eq_true',decide_eq_false_iff_not] at h1
  have h5 : ¬ da (min (at_ ds i).hi (at_ hi i)) < max (at_ ds i).lo (at_ lo i):=h1
  unfold da at h5
  refine ⟨boundsF_ok.2 ?_,h3⟩
  show -1073741824≤max (at_ ds i).lo (at_ lo i)∧max (at_ ds i).lo (at_ lo i)≤1073741824∧max (at_ ds i).lo (at_ lo i)≤min (at_ ds i).hi (at_ hi i)∧min (at_ ds i).hi (at_ hi i)≤1073741825
  omega
 ·obtain ⟨h1,h2⟩:=List.mem_filter.1 hc
  obtain ⟨e1,e2,e3,e4⟩:=cellF_ok.1 (hA.cel c h1)
  exact cellF_ok.2 ⟨by rw [eu hl hh]; exact e1,e2,h2,e4⟩
end
section
variable {ds es : List Dim} {ats : List Attr}
end
theorem Hm{ds : List Dim}{ats : List Attr}{cs : List Cell}{s : Scalar}(h1 : bE ds ats cs = 0)(h2 : ec s = 0) : aM ds ats cs s = bU cv ds ats s:=by simp [aM,h1,h2]
theorem DR{ds : List Dim}{ats : List Attr}{cs : List Cell}{s : Scalar}(h : (aM ds ats cs s).2 = 0) : ec s = 0:=by
 have hk:=(j6 h).1
 unfold aM at h
 rw [if_neg (by simpa using hk)] at h
 by_cases h2 : ec s = 0
 ·exact h2
 ·rw [if_pos h2] at h; exact h
end Go.Proofs.YtpejdgkaapnekaaGreat
namespace Go.Proofs.YtpejdgkaapnekaaGreat
open Go Go.Abs
def bK(v : Val)(t : Int) : Prop:=bn v = true∧(1≤t∧t≤4)∧(v.kind = 0∨(v.kind = 1∧t = 1)∨(v.kind = 2∧(t = 3∨(t = 2∧v.den = 1)))∨(v.kind = 3∧t = 4))
theorem tM{v : Val}(h : bn v = true) : v.kind = 0∨v.kind = 1∨v.kind = 2∨v.kind = 3:=by
 unfold bn cy at h
 by_cases h0 : v.kind = 0
 ·exact .inl h0
 by_cases h1 : v.kind = 1
 ·exact .inr (.inl h1)
 by_cases h2 : v.kind = 2
 ·exact .inr (.inr (.inl h2))
 by_cases h3 : v.kind = 3
 ·exact .inr (.inr (.inr h3))
 ·simp [h0,h1,h2,h3] at h
theorem fit_iff{v : Val}{t : Int} : dP v.kind v.num v.den v.str t = true↔bK v t:=by
 have hf : dP v.kind v.num v.den v.str t = (bn v && (decide (1≤t) && (decide (t≤4) && (if v.kind = 0 then true else if v.kind = 1 then t == 1 else if v.kind = 2 then t == 3 || t == 2 && v.den == 1 else t == 4)))):=by unfold dP bn; rfl
 rw [hf]
 unfold bK
 cases hr : bn v
 ·simp
 ·rcases tM hr with h | h | h | h <;> simp [h] <;> omega
theorem l7{v : Val}{t : Int}(h : bK v t) : v.kind = 0∨(v.kind = 1∧t = 1)∨(v.kind = 2∧bu t = true)∨(v.kind = 3∧t = 4):=by
 rcases h.2.2 with h | h | ⟨h,h2⟩ | h
 ·exact .inl h
 ·exact .inr (.inl h)
 ·exact .inr (.inr (.inl ⟨h,by unfold bu; rcases h2 with h2 | h2 <;> simp [h2]⟩))
 ·exact .inr (.inr (.inr h))
theorem lE{t : Int} : bu t = true↔t = 2∨t = 3:=by simp [bu]
theorem nP{v : Val}(h : bK v 1) : isV v 1 = true:=by
 unfold isV
 rcases l7 h with h | h | ⟨_,h⟩ | h
 ·simp [h]
 ·simp [h.1]
 ·simp [bu] at h
 ·omega
theorem nQ{v : Val}{t : Int}(h : bK v t)(ht : bu t = true) : isV v 2 = true:=by
 rw [lE] at ht
 unfold isV
 rcases l7 h with h | h | h | h
 ·simp [h]
 ·omega
 ·simp [h.1]
 ·omega
theorem tN{a b : Int}(h : bd a b≠0) : (a = b∧bd a b = a)∨(bu a = true∧bu b = true∧bd a b = 3):=by
 unfold bd at h ⊢
 by_cases e : a = b
 ·rw [if_pos e]; exact .inl ⟨e,rfl⟩
 ·rw [if_neg e] at h ⊢
  by_cases h2 : (bu a && bu b) = true
  ·rw [if_pos h2]
   simp only [Bool.and_eq_true] at h2
   exact .inr ⟨h2.1,h2.2,rfl⟩
  ·rw [if_neg h2] at h; exact absurd rfl h
theorem sx{x y : Val}{a b : Int}(hx : bK x a)(hy : bK y b)(h : bd a b≠0) : fu x y = true:=by
 have h:=tN h
 simp only [lE] at h
 have hx:=l7 hx
 have hy:=l7 hy
 simp only [lE] at hx hy
 unfold fu isV
 by_cases h0 : x.kind = 0
 ·simp [h0]
 ·by_cases h1 : y.kind = 0
  ·simp [h1]
  ·have : y.kind = x.kind:=by omega
   simp [this]
theorem EH{x : Val}{a t : Int}(hx : bK x a)(h : t = a∨(bu a = true∧t = 3)) : bK x t:=by
 rcases h with rfl | ⟨h,rfl⟩
 ·exact hx
 ·rw [lE] at h
  exact ⟨hx.1,by omega,by have:=hx.2.2; omega⟩
theorem zp{x y : Val}{a b : Int}(hx : bK x a)(hy : bK y b)(h : bd a b≠0) : bK x (bd a b)∧bK y (bd a b):=by
 rcases tN h with ⟨h1,h2⟩ | ⟨h1,h2,h3⟩
 ·rw [h2]; exact ⟨hx,by rw [h1]; exact hy⟩
 ·rw [h3]; exact ⟨EH hx (.inr ⟨h1,rfl⟩),EH hy (.inr ⟨h2,rfl⟩)⟩
theorem kR(b : Bool) : bK (cj b) 1:=⟨by cases b <;> rfl,by omega,.inr (.inl ⟨rfl,rfl⟩)⟩
theorem zq{v : Val}{a t : Int}(h : bK v a)(h0 : v.kind = 0)(ht : 1≤t∧t≤4) : bK v t:=⟨h.1,ht,.inl h0⟩
theorem EI(s : Bool){m n : Nat}(h : Nat.gcd m n = 1)(hn : n≠0){t : Int}(ht : t = 3∨(t = 2∧n = 1)) : bK (vP s m n) t:=by
 unfold vP
 split
 ·rename_i hc
  refine ⟨?_,by omega,.inr (.inr (.inl ⟨rfl,?_⟩))⟩
  ·unfold bn cy
   have e : (if s = true then -(m : Int) else (m : Int)).natAbs = m:=by cases s <;> simp
   have hb : -1099511627776≤(if s = true then -(m : Int) else (m : Int))∧(if s = true then -(m : Int) else (m : Int))≤1099511627776:=by cases s <;> simp <;> omega
   simp [e,h,hb.1,hb.2]
   omega
  ·rcases ht with h | ⟨h,h2⟩
   ·exact .inl h
   ·exact .inr ⟨h,by show (n : Int) = 1; omega⟩
 ·exact ⟨rfl,by omega,.inl rfl⟩
theorem nR(s : Bool)(m : Nat){n : Nat}(hn : n≠0){t : Int}(ht : t = 3∨(t = 2∧n = 1)) : bK (vP3 (sj s m n)) t:=by
 have hg : 0 < Nat.gcd m n:=Nat.gcd_pos_of_pos_right _ (Nat.pos_of_ne_zero hn)
 refine EI _ (Nat.coprime_div_gcd_div_gcd hg) ?_ ?_
 ·have:=Nat.div_pos (Nat.le_of_dvd (Nat.pos_of_ne_zero hn) (Nat.gcd_dvd_right m n)) hg
  show n / Nat.gcd m n≠0
  omega
 ·rcases ht with h | ⟨h,h2⟩
  ·exact .inl h
  ·subst h2; exact .inr ⟨h,by show 1 / Nat.gcd m 1 = 1; simp⟩
theorem Bd(s1 s2 : Bool)(a1 a2 : Nat){b1 b2 : Nat}(minus : Bool)(h1 : b1≠0)(h2 : b2≠0){t : Int}(ht : t = 3∨(t = 2∧b1 = 1∧b2 = 1)) : bK (vP3 (iz s1 a1 b1 s2 a2 b2 minus)) t:=by
 have h3 : b1 * b2≠0:=Nat.mul_ne_zero h1 h2
 have h4 : t = 3∨(t = 2∧b1 * b2 = 1):=by
  rcases ht with h | ⟨h,e1,e2⟩
  ·exact .inl h
  ·subst e1; subst e2; exact .inr ⟨h,rfl⟩
 unfold iz
 split
 ·exact nR _ _ h3 h4
 split
 ·exact nR _ _ h3 h4
 ·exact nR _ _ h3 h4
theorem nS{v : Val}{t : Int}(h : bK v t)(hk : v.kind = 2) : dnV v≠0∧(t = 2→dnV v = 1):=by
 obtain ⟨h1,h2,h3,h4⟩:=kL h.1 hk
 refine ⟨by omega,fun e=>?_⟩
 have:=h.2.2
 omega
theorem JY{x y : Val}{a b : Int}(hx : bK x a)(hy : bK y b)(kx : x.kind = 2)(ky : y.kind = 2)(na : bu a = true)(nb : bu b = true) : bd a b = 3∨(bd a b = 2∧dnV x = 1∧dnV y = 1):=by
 rw [lE] at na nb
 unfold bd bu
 rcases na with rfl | rfl <;> rcases nb with rfl | rfl
 ·exact .inr ⟨rfl,(nS hx kx).2 rfl,(nS hy ky).2 rfl⟩
 ·exact .inl rfl
 ·exact .inl rfl
 ·exact .inl rfl
theorem o3{x : Val}{a : Int}(hx : bK x a)(na : bu a = true)(h0 : ¬ x.kind = 0) : x.kind = 2:=by
 rw [lE] at na
 rcases l7 hx with h | h | h | h <;> omega
theorem GX{x y : Val}(h : bZ [x,y] = none) : ¬ x.kind = 0∧¬ y.kind = 0:=⟨ji h (i:=0) (by simp),ji h (i:=1) (by simp)⟩
theorem K4{x : Val}(h : bZ [x] = none) : ¬ x.kind = 0:=ji h (i:=0) (by simp)
def CO(op : Int)(l : List Val)(t : Int) : Prop:=kdF op l = true∧(frF op = true∨bZ l = none→bK (rvF op l) t)∧(1≤t∧t≤4)
theorem JZ{op : Int}{x : Val}{a : Int}(hop : 4≤op∧op≤8)(hx : bK x a)(ht : aQ op a 0 0≠0) : CO op [x] (aQ op a 0 0):=by
 have hc : op = 4∨op = 5∨op = 6∨op = 7∨op = 8:=by omega
 rcases hc with rfl | rfl | rfl | rfl | rfl
 ·have e : aQ 4 a 0 0 = if a = 1 then 1 else 0:=by simp [aQ]
  rw [e] at ht ⊢
  by_cases h : a = 1
  ·rw [if_pos h]; subst h
   exact ⟨by simp [kdF,nP hx],fun _=>kR _,by omega⟩
  ·rw [if_neg h] at ht; exact absurd rfl ht
 ·have e : aQ 5 a 0 0 = if bu a = true then a else 0:=by simp [aQ]
  rw [e] at ht ⊢
  by_cases h : bu a = true
  ·rw [if_pos h]
   refine ⟨by simp [kdF,nQ hx h],fun hf=>?_,hx.2.1⟩
   have hk:=o3 hx h (K4 (hf.resolve_left (by decide)))
   obtain ⟨h1,h2,h3,h4⟩:=kL hx.1 hk
   have hw : IntKind.i64.wrap (0 - x.num) = -x.num:=by
    unfold naV at h1
    rw [ga (by omega) (by omega)]; omega
   refine ⟨?_,hx.2.1,?_⟩
   ·have hr:=hx.1
    show cy x.kind (IntKind.i64.wrap (0 - x.num)) x.den x.str = true
    rw [hw]
    unfold bn cy at hr
    unfold cy
    rw [hk] at hr ⊢
    simp at hr ⊢
    obtain ⟨r1,r2,r3,r4,r5,r6⟩:=hr
    exact ⟨r1,r2,r3,by omega,by omega,r6⟩
   ·exact hx.2.2
  ·rw [if_neg h] at ht; exact absurd rfl ht
 ·have e : aQ 6 a 0 0 = if bu a = true then 2 else 0:=by simp [aQ]
  rw [e] at ht ⊢
  by_cases h : bu a = true
  ·rw [if_pos h]
   exact ⟨by simp [kdF,nQ hx h],fun hf=>EI _ (Nat.gcd_one_right _) (by omega) (.inr ⟨rfl,rfl⟩),by omega⟩
  ·rw [if_neg h] at ht; exact absurd rfl ht
 ·have e : aQ 7 a 0 0 = 1:=by simp [aQ]
  rw [e]
  exact ⟨by simp [kdF],fun _=>kR _,by omega⟩
 ·have e : aQ 8 a 0 0 = 2:=by simp [aQ]
  rw [e]
  refine ⟨by simp [kdF],fun _=>?_,by omega⟩
  show bK ⟨2,if x.kind == 0 then x.num else 0,1,[]⟩ 2
  have hn : 0≤(if x.kind == 0 then x.num else 0)∧(if x.kind == 0 then x.num else 0)≤255:=by
   by_cases h0 : x.kind = 0
   ·have hr:=hx.1
    unfold bn cy at hr
    rw [if_pos h0] at hr
    simp at hr
    simp [h0]; omega
   ·simp [h0]
  refine ⟨?_,by omega,.inr (.inr (.inl ⟨rfl,.inr ⟨rfl,rfl⟩⟩))⟩
  unfold bn cy
  generalize (if x.kind == 0 then x.num else 0) = n at hn
  simp
  omega
theorem J0{op : Int}{x y : Val}{a b : Int}(hop : 9≤op∧op≤21)(hx : bK x a)(hy : bK y b)(ht : aQ op a b 0≠0) : CO op [x,y] (aQ op a b 0):=by
 by_cases h1 : op≤11
 ·have e : aQ op a b 0 = if bu a = true∧bu b = true then bd a b else 0:=by
   have hc : op = 9∨op = 10∨op = 11:=by omega
   rcases hc with rfl | rfl | rfl <;> simp [aQ]
  rw [e] at ht ⊢
  by_cases h : bu a = true∧bu b = true
  ·rw [if_pos h] at ht ⊢
   have hsh:=(zp hx hy ht).1.2.1
   refine ⟨?_,fun hf=>?_,hsh⟩
   ·have hc : op = 9∨op = 10∨op = 11:=by omega
    rcases hc with rfl | rfl | rfl <;> simp [kdF,nQ hx h.1,nQ hy h.2]
   ·have hff : ¬ frF op = true:=by unfold frF; simp; omega
    obtain ⟨k1,k2⟩:=GX (hf.resolve_left hff)
    have kx:=o3 hx h.1 k1
    have ky:=o3 hy h.2 k2
    have d:=JY hx hy kx ky h.1 h.2
    have d1:=(nS hx kx).1
    have d2:=(nS hy ky).1
    have hc : op = 9∨op = 10∨op = 11:=by omega
    rcases hc with rfl | rfl | rfl
    ·exact Bd _ _ _ _ _ d1 d2 d
    ·exact Bd _ _ _ _ _ d1 d2 d
    ·refine nR _ _ (Nat.mul_ne_zero d1 d2) ?_
     rcases d with d | ⟨d,e1,e2⟩
     ·exact .inl d
     ·exact .inr ⟨d,by rw [e1,e2]⟩
  ·rw [if_neg h] at ht; exact absurd rfl ht
 by_cases h2 : op = 12
 ·subst h2
  have e : aQ 12 a b 0 = if bu a = true∧bu b = true then 3 else 0:=by simp [aQ]
  rw [e] at ht ⊢
  by_cases h : bu a = true∧bu b = true
  ·rw [if_pos h]
   refine ⟨by simp [kdF,nQ hx h.1,nQ hy h.2],fun hf=>?_,by omega⟩
   obtain ⟨k1,k2⟩:=GX (hf.resolve_left (by decide))
   have d1:=(nS hx (o3 hx h.1 k1)).1
   show bK (yM x y) 3
   unfold yM
   split
   ·exact ⟨rfl,by omega,.inl rfl⟩
   ·rename_i h0
    exact nR _ _ (Nat.mul_ne_zero d1 h0) (.inl rfl)
  ·rw [if_neg h] at ht; exact absurd rfl ht
 by_cases h3 : op≤18
 ·have e : aQ op a b 0 = if bd a b≠0 then 1 else 0:=by
   have hc : op = 13∨op = 14∨op = 15∨op = 16∨op = 17∨op = 18:=by omega
   rcases hc with rfl | rfl | rfl | rfl | rfl | rfl <;> simp [aQ]
  rw [e] at ht ⊢
  by_cases h : bd a b≠0
  ·rw [if_pos h]
   have hc : op = 13∨op = 14∨op = 15∨op = 16∨op = 17∨op = 18:=by omega
   have hal : fu (at_ [x,y] 0) (at_ [x,y] 1) = true:=sx hx hy h
   refine ⟨?_,fun hf=>?_,by omega⟩
   ·rcases hc with rfl | rfl | rfl | rfl | rfl | rfl <;> simp [kdF,hal]
   ·rcases hc with rfl | rfl | rfl | rfl | rfl | rfl <;> exact kR _
  ·rw [if_neg h] at ht; exact absurd rfl ht
 by_cases h4 : op≤20
 ·have e : aQ op a b 0 = if a = 1∧b = 1 then 1 else 0:=by
   have hc : op = 19∨op = 20:=by omega
   rcases hc with rfl | rfl <;> simp [aQ]
  rw [e] at ht ⊢
  by_cases h : a = 1∧b = 1
  ·rw [if_pos h]
   obtain ⟨rfl,rfl⟩:=h
   have hl : ∀ q : Bool,bK (lO q [x,y]) 1:=fun q=>by
    unfold lO
    split
    ·exact kR _
    ·cases hf : bZ [x,y] with
     | none=>exact kR _
     | some z =>
       have hz : z.kind = 0:=by simpa using List.find?_some hf
       have hm : z∈[x,y]:=List.mem_of_find?_eq_some hf
       show bK z 1
       simp at hm
       rcases hm with rfl | rfl
       ·exact hx
       ·exact hy
   have hc : op = 19∨op = 20:=by omega
   rcases hc with rfl | rfl
   ·exact ⟨by simp [kdF,nP hx,nP hy],fun _=>hl false,by omega⟩
   ·exact ⟨by simp [kdF,nP hx,nP hy],fun _=>hl true,by omega⟩
  ·rw [if_neg h] at ht; exact absurd rfl ht
 have h5 : op = 21:=by omega
 subst h5
 have e : aQ 21 a b 0 = bd a b:=by simp [aQ]
 rw [e] at ht ⊢
 obtain ⟨f1,f2⟩:=zp hx hy ht
 have hal : fu (at_ [x,y] 0) (at_ [x,y] 1) = true:=sx hx hy ht
 refine ⟨by simp [kdF,hal],fun _=>?_,f1.2.1⟩
 show bK (if x.kind == 0 then y else x) _
 split
 ·exact f2
 ·exact f1
theorem J1{x y z : Val}{a b c : Int}(hx : bK x a)(hy : bK y b)(hz : bK z c)(ht : aQ 22 a b c≠0) : CO 22 [x,y,z] (aQ 22 a b c):=by
 have e : aQ 22 a b c = if a = 1 then bd b c else 0:=by simp [aQ]
 rw [e] at ht ⊢
 by_cases h : a = 1
 ·rw [if_pos h] at ht ⊢
  subst h
  obtain ⟨f1,f2⟩:=zp hy hz ht
  have hal : fu (at_ [x,y,z] 1) (at_ [x,y,z] 2) = true:=sx hy hz ht
  have h0 : isV (at_ [x,y,z] 0) 1 = true:=nP hx
  refine ⟨by simp [kdF,hal,h0],fun _=>?_,f1.2.1⟩
  show bK (if x.kind == 0 then x else if x.num == 1 then y else z) _
  split
  ·rename_i h0
   exact zq hx (by simpa using h0) f1.2.1
  split
  ·exact f1
  ·exact f2
 ·rw [if_neg h] at ht; exact absurd rfl ht
theorem J2{op : Int}{l : List Val}{t : Int}(hl : ∀ v∈l,∃ a,bK v a)(h : CO op l t) : bK (doF op l).1 t:=by
 obtain ⟨h1,h2,h3⟩:=h
 have hr : l.all bn = true:=List.all_eq_true.2 fun v hv=>by obtain ⟨a,ha⟩:=hl v hv; exact ha.1
 unfold doF doG
 rw [if_pos hr,if_pos h1]
 by_cases hf : frF op = true
 ·rw [if_pos hf]; exact h2 (.inl hf)
 ·rw [if_neg hf]
  cases hn : bZ l with
  | none=>exact h2 (.inr hn)
  | some z =>
    have hz : z.kind = 0:=by simpa using List.find?_some hn
    obtain ⟨a,ha⟩:=hl z (List.mem_of_find?_eq_some hn)
    exact zq ha hz h3
theorem H8{v : Val}(h : cy v.kind v.num v.den v.str = true)(h0 : v.kind≠0) : bK v (cv v):=by
 rw [DK h h0]
 have hk:=tM h
 refine ⟨h,?_,?_⟩ <;> unfold fL
 ·split
  ·omega
  split
  ·omega
  split <;> omega
 ·rcases hk with hk | hk | hk | hk
  ·exact absurd hk h0
  ·simp [hk]
  ·by_cases hd : v.den = 1
   ·simp [hk,hd]
   ·simp [hk,hd]
  ·simp [hk]
theorem H9{x : Int}(h : -1073741824≤x∧x≤1073741824) : bK ⟨2,x,1,[]⟩ 2:=by
 refine ⟨?_,by omega,.inr (.inr (.inl ⟨rfl,.inr ⟨rfl,rfl⟩⟩))⟩
 unfold bn cy
 simp
 omega
section
variable {ds : List Dim} {ats : List Attr} {at' : List Int} {vs : List Val}
theorem zt : ∀ {l : List Scalar} {ts : List Int},(∀ x∈l,(bU cv ds ats x).2 = 0→bK (bS ds ats at' vs x) (bU cv ds ats x).1)→bD cv ds ats l = .inr ts→(fU ds ats at' vs l).length = ts.length∧∀ i,i < ts.length→bK (at_ (fU ds ats at' vs l) i) (at_ ts i)
 | [],ts,_,h=>by
   simp only [bD] at h
   cases h
   exact ⟨rfl,fun i hi=>by simp at hi⟩
 | x::r,ts,hx,h=>by
   simp only [bD] at h
   split at h
   ·cases h
   rename_i h1
   split at h
   ·cases h
   rename_i l2 h2
   cases h
   obtain ⟨e,hr⟩:=zt (l:=r) (fun y hy=>hx y (List.mem_cons_of_mem _ hy)) h2
   refine ⟨by simp [fU,e],fun i hi=>?_⟩
   cases i with
   | zero=>exact hx x List.mem_cons_self (Decidable.not_not.1 h1)
   | succ i=>exact hr i (by simpa using hi)
theorem Av(hv : ∀ i,i < ats.length→bK (at_ vs i) (at_ ats i).type)(hd : ∀ i,i < ds.length→-1073741824≤at_ at' i∧at_ at' i≤1073741824)(s : Scalar) : cS s = true→(bU cv ds ats s).2 = 0→bK (bS ds ats at' vs s) (bU cv ds ats s).1:=by
 induction s using Scalar.ind with
 | h s ih =>
   intro hp ht
   rw [fI,Bool.and_eq_true] at hp
   rw [jf] at ht ⊢
   rw [uJ]
   by_cases h1 : s.op = 1
   ·simp only [if_pos h1]
    obtain ⟨h2,h3⟩:=sU hp.1 h1
    exact H8 h2 h3
   simp only [if_neg h1] at ht ⊢
   by_cases h2 : s.op = 2
   ·simp only [if_pos h2] at ht ⊢
    unfold gQ at ht ⊢
    split
    ·rename_i hc; rw [if_pos hc] at ht; simp at ht
    ·rename_i hc
     have:=ff (p:=fun a : Attr=>a.name == s.name) (l:=ats) (k:=0) (Int.not_lt.1 hc)
     exact hv _ (by unfold atI; omega)
   simp only [if_neg h2] at ht ⊢
   by_cases h3 : s.op = 3
   ·simp only [if_pos h3] at ht ⊢
    unfold jD at ht ⊢
    split
    ·rename_i hc; rw [if_pos hc] at ht; simp at ht
    ·rename_i hc
     have:=ff (p:=fun a : Dim=>a.name == s.name) (l:=ds) (k:=0) (Int.not_lt.1 hc)
     exact H9 (hd _ (by unfold jY; omega))
   simp only [if_neg h3] at ht ⊢
   obtain ⟨hop,hlen⟩:=jg hp.1 h1 h2 h3
   cases hts : bD cv ds ats s.args with
   | inl e =>
     rw [hts] at ht
     have he : e = 0:=ht
     exfalso
     have : ∀ {l : List Scalar} {e : Int},bD cv ds ats l = .inl e→e≠0:=by
      intro l
      induction l with
      | nil=>intro e h; simp [bD] at h
      | cons y r ihl =>
        intro e h
        simp only [bD] at h
        split at h
        ·rename_i h1; cases h; exact h1
        ·split at h
         ·rename_i e2 h2; cases h; exact ihl h2
         ·cases h
     exact this hts he
   | inr ts =>
     rw [hts] at ht
     simp only at ht ⊢
     obtain ⟨e,hf⟩:=zt (at':=at') (vs:=vs) (fun x hx=>ih x hx (fM hp.2 x hx)) hts
     have hl2:=px hts
     have hty : aQ s.op (at_ ts 0) (at_ ts 1) (at_ ts 2)≠0∧(bx s.op ts).1 = aQ s.op (at_ ts 0) (at_ ts 1) (at_ ts 2):=by
      unfold bx at ht ⊢
      split at ht
      ·rename_i ha
       rw [if_pos ha]
       split at ht
       ·simp at ht
       ·rename_i hz; rw [if_neg hz]; exact ⟨hz,rfl⟩
      ·simp at ht
     rw [hty.2]
     have hall : ∀ v∈fU ds ats at' vs s.args,∃ a,bK v a:=fun v hv=>by
      obtain ⟨i,hi,rfl⟩:=fg hv
      exact ⟨_,hf i (by omega)⟩
     refine J2 hall ?_
     have hty1:=hty.1
     generalize fU ds ats at' vs s.args = l at e hf
     unfold dQ at hlen
     by_cases c1 : s.op≤8
     ·rw [if_pos (by omega)] at hlen
      match l,ts,e,hf,hty1 with
      | [x],[a],_,hf,ht=>exact JZ ⟨hop.1,c1⟩ (hf 0 (by simp)) ht
      | [],ts,e,_,_=>simp at e; omega
      | _::_::_,ts,e,_,_=>simp at e; omega
      | [_],[],e,_,_=>simp at e
      | [_],_::_::_,e,_,_=>simp at e
     by_cases c2 : s.op≤21
     ·rw [if_neg (by omega),if_pos (by omega)] at hlen
      match l,ts,e,hf,hty1 with
      | [x,y],[a,b],_,hf,ht=>exact J0 ⟨by omega,c2⟩ (hf 0 (by simp)) (hf 1 (by simp)) ht
      | [],ts,e,_,_=>simp at e; omega
      | [_],ts,e,_,_=>simp at e; omega
      | _::_::_::_,ts,e,_,_=>simp at e; omega
      | [_,_],[],e,_,_=>simp at e
      | [_,_],[_],e,_,_=>simp at e
      | [_,_],_::_::_::_,e,_,_=>simp at e
     ·have c3 : s.op = 22:=by omega
      rw [if_neg (by omega),if_neg (by omega),if_pos c3] at hlen
      rw [c3] at hty1 ⊢
      match l,ts,e,hf,hty1 with
      | [x,y,z],[a,b,c],_,hf,ht=>exact J1 (hf 0 (by simp)) (hf 1 (by simp)) (hf 2 (by simp)) ht
      | [],ts,e,_,_=>simp at e; omega
      | [_],ts,e,_,_=>simp at e; omega
      | [_,_],ts,e,_,_=>simp at e; omega
      | _::_::_::_::_,ts,e,_,_=>simp at e; omega
      | [_,_,_],[],e,_,_=>simp at e
      | [_,_,_],[_],e,_,_=>simp at e
      | [_,_,_],[_,_],e,_,_=>simp at e
      | [_,_,_],_::_::_::_::_,e,_,_=>simp at e
end
end Go.Proofs.YtpejdgkaapnekaaGreat
namespace Go.Proofs.YtpejdgkaapnekaaGreat
open Go Go.Abs
def oH(d e : Dim) : Dim:=⟨d.name,min d.lo e.lo,max d.hi e.hi⟩
def eU(a b : List Dim) : List Dim:=a.zipWith oH b
def ym(l : List Cell)(c : Cell) : Bool:=!(l.any fun x=>x.at' == c.at')
def oI(a b : Arr) : Arr:=⟨eU a.dims b.dims,a.attrs,dn (a.cells ++ b.cells.filter (ym a.cells))⟩
def FF(l : List Cell)(t : List Int) : Prop:=∃ y∈l,y.at' = t
theorem newC_iff{l : List Cell}{c : Cell} : ym l c = true↔¬ FF l c.at':=by
 simp [ym,FF]
structure Mrg (a b : Arr) : Prop where
 oka : OkA a.dims a.attrs a.cells
 okb : OkA b.dims b.attrs b.cells
 names : a.dims.map Dim.name = b.dims.map Dim.name
 attrs : a.attrs = b.attrs
section
variable {a b c : Arr}
theorem fR(h : Mrg a b) : (eU a.dims b.dims).length = a.dims.length:=by
 have : a.dims.length = b.dims.length:=by simpa using congrArg List.length h.names
 simp [eU]; omega
theorem Mrg.len(h : Mrg a b) : a.dims.length = b.dims.length:=by simpa using congrArg List.length h.names
theorem uv(h : Mrg a b){i : Nat}(hi : i < a.dims.length) : at_ (eU a.dims b.dims) i = oH (at_ a.dims i) (at_ b.dims i):=pH hi (by rw [← h.len]; exact hi)
theorem lh(h : Mrg a b) : (eU a.dims b.dims).map Dim.name = a.dims.map Dim.name:=by
 refine gU (by simp [fR h]) fun i hi=>?_
 have hi' : i < a.dims.length:=by simpa [fR h] using hi
 rw [cZ (by rw [fR h]; exact hi'),cZ hi',uv h hi']
 rfl
theorem mrg_mem{x : Cell} : x∈(oI a b).cells↔x∈a.cells∨(x∈b.cells∧¬ FF a.cells x.at'):=by
 show x∈dn _↔_
 rw [(fN _).mem_iff,List.mem_append,List.mem_filter,newC_iff]
theorem FG(h : Mrg a b) : (a.cells ++ b.cells.filter (ym a.cells)).Pairwise dJ:=by
 refine List.pairwise_append.2 ⟨dj h.oka.srt,(dj h.okb.srt).filter _,fun x hx y hy e=>?_⟩
 exact newC_iff.1 (List.mem_filter.1 hy).2 ⟨x,hx,e⟩
theorem BT(h : Mrg a b) : (oI a b).cells.Pairwise ltC:=gS (FG h)
theorem Ax : (oI a b).cells.length≤a.cells.length + b.cells.length:=by
 show (dn _).length≤_
 rw [jk,List.length_append]
 have:=List.length_filter_le (ym a.cells) b.cells
 omega
theorem vL(h : Mrg a b){x : Cell}{ds : List Dim}(hl : ds.length = a.dims.length)(hx : ca ds a.attrs x.at' x.vals = 0)
  (hd : ∀ i,i < a.dims.length→(oH (at_ a.dims i) (at_ b.dims i)).lo≤(at_ ds i).lo∧(at_ ds i).hi≤(oH (at_ a.dims i) (at_ b.dims i)).hi) : ca (eU a.dims b.dims) a.attrs x.at' x.vals = 0:=by
 obtain ⟨h1,h2,h3,h4⟩:=cellF_ok.1 hx
 refine cellF_ok.2 ⟨by rw [fR h]; omega,h2,?_,h4⟩
 rw [cA h1] at h3
 rw [cA (by rw [fR h]; omega)]
 intro i hi
 rw [fR h] at hi
 rw [uv h hi]
 have e1:=h3 i (by omega)
 have e2:=hd i hi
 unfold da at *
 omega
theorem DT(h : Mrg a b)(hn : (oI a b).cells.length≤4096) : OkA (oI a b).dims (oI a b).attrs (oI a b).cells:=by
 obtain ⟨a1,a2,a3,a4⟩:=h.oka.dims
 obtain ⟨b1,b2,b3,b4⟩:=h.okb.dims
 have hs:=c9 h.oka.sch
 refine ⟨?_,hn,BT h,fun x hx=>?_⟩
 ·refine lg (by show _≤(eU _ _).length; rw [fR h]; exact a1) (by show (eU _ _).length≤_; rw [fR h]; exact a2) (fun d hd=>?_) (by show ((eU _ _).map _).Nodup; rw [lh h]; exact a4) hs.2.1 hs.2.2.1 (by show eM ((eU _ _).map _) _ = 0; rw [lh h]; exact hs.2.2.2)
  obtain ⟨i,hi,rfl⟩:=fg hd
  have hi' : i < a.dims.length:=by rw [← fR h]; exact hi
  show ep (at_ (eU a.dims b.dims) i).lo (at_ (eU a.dims b.dims) i).hi = true∧cJ (at_ (eU a.dims b.dims) i).name = true
  rw [uv h hi']
  obtain ⟨e1,e2⟩:=a3 i hi'
  obtain ⟨e3,_⟩:=b3 i (by rw [← h.len]; exact hi')
  refine ⟨boundsF_ok.2 ?_,e2⟩
  simp only [oH]
  omega
 ·show ca (eU a.dims b.dims) a.attrs _ _ = 0
  rcases mrg_mem.1 hx with hx | ⟨hx,_⟩
  ·exact vL h rfl (h.oka.cel x hx) fun i hi=>by simp only [oH]; omega
  ·refine vL h h.len.symm (by rw [h.attrs]; exact h.okb.cel x hx) fun i hi=>by simp only [oH]; omega
theorem Mrg.symm(h : Mrg a b) : Mrg b a:=⟨h.okb,h.oka,h.names.symm,h.attrs.symm⟩
theorem Mrg.left(h : Mrg a b)(h' : Mrg b c)(hn : a.cells.length + b.cells.length≤4096) : Mrg (oI a b) c :=
 ⟨DT h (Nat.le_trans Ax hn),h'.okb,(lh h).trans (h.names.trans h'.names),h.attrs.trans h'.attrs⟩
theorem Mrg.right(h : Mrg a b)(h' : Mrg b c)(hn : b.cells.length + c.cells.length≤4096) : Mrg a (oI b c) :=
 ⟨h.oka,DT h' (Nat.le_trans Ax hn),h.names.trans (lh h').symm,h.attrs⟩
theorem Arr.ext{x y : Arr}(h1 : x.dims = y.dims)(h2 : x.attrs = y.attrs)(h3 : x.cells = y.cells) : x = y:=by cases x; cases y; simp_all
end
end Go.Proofs.YtpejdgkaapnekaaGreat
namespace Go.Proofs.YtpejdgkaapnekaaGreat
open Go Go.Abs
def yD(d : Dim) : Int:=d.hi - d.lo + 1
def Ck : List Dim→Int
 | []=>1
 | d::r=>yD d * Ck r
theorem AR{d : Dim}(h : ep d.lo d.hi = true) : 0 < yD d:=by
 have:=boundsF_ok.1 h
 unfold yD; omega
structure Resh (a : Arr) (es : List Dim) : Prop where
 oka : OkA a.dims a.attrs a.cells
 sch : cP es a.attrs = 0
 fin : ∀ i,i < a.dims.length→(at_ a.dims i).hi≤1073741824
 fin' : ∀ i,i < es.length→(at_ es i).hi≤1073741824
 same : Ck a.dims = Ck es
section
variable {a : Arr} {es : List Dim}
theorem Resh.ext(h : Resh a es) : (∀ d∈a.dims,0 < yD d)∧∀ d∈es,0 < yD d :=
 ⟨fun d hd=>AR ((lU (c9 h.oka.sch).1).2.2.1 d hd).1,fun d hd=>AR ((lU (c9 h.sch).1).2.2.1 d hd).1⟩
theorem Resh.cell(h : Resh a es){c : Cell}(hc : c∈a.cells) : c.at'.length = a.dims.length∧∀ i,i < a.dims.length→(at_ a.dims i).lo≤at_ c.at' i∧at_ c.at' i≤(at_ a.dims i).hi:=by
 obtain ⟨h1,h2,h3,h4⟩:=cellF_ok.1 (h.oka.cel c hc)
 rw [cA h1] at h3
 refine ⟨h1,fun i hi=>?_⟩
 have:=h3 i hi
 unfold da at this
 omega
end
end Go.Proofs.YtpejdgkaapnekaaGreat
namespace Go.Proofs.YtpejdgkaapnekaaGreat
open Go Go.Abs
def iL{α : Type}[Inhabited α](l : List α)(ks : List Int) : List α:=ks.map fun k=>at_ l k.toNat
def Kz(ks : List Int)(c : Cell) : Cell:=⟨iL c.at' ks,c.vals⟩
theorem yc : ∀ {m : Nat} {l : List Nat},l.Nodup→(∀ x∈l,x < m)→l.length≤m
 | 0,l,_,h=>by
   cases l with
   | nil=>simp
   | cons x r=>exact absurd (h x List.mem_cons_self) (Nat.not_lt_zero _)
 | m + 1,l,hn,h=>by
   by_cases hm : m∈l
   ·have h1:=yc (m:=m) (l:=l.erase m) (hn.erase m) fun x hx=>by
     have h2:=(hn.mem_erase_iff).1 hx
     have:=h x h2.2
     omega
    rw [List.length_erase_of_mem hm] at h1
    omega
   ·have h1:=yc (m:=m) (l:=l) hn fun x hx=>by
     have:=h x hx
     have : x≠m:=fun e=>hm (e ▸ hx)
     omega
    omega
theorem I0{l : List Nat}{n : Nat}(hn : l.Nodup)(hl : l.length = n)(h : ∀ x∈l,x < n){i : Nat}(hi : i < n) : i∈l:=by
 by_cases hm : i∈l
 ·exact hm
 ·have h1:=yc (m:=n) (l:=i::l) (List.nodup_cons.2 ⟨hm,hn⟩) fun x hx=>by
   rcases List.mem_cons.1 hx with rfl | hx
   ·exact hi
   ·exact h x hx
  simp only [List.length_cons] at h1
  omega
structure Tran (a : Arr) (names : List (List UInt8)) : Prop where
 oka : OkA a.dims a.attrs a.cells
 len : names.length = a.dims.length
 all : ∀ n∈names,¬ gn a.dims n < 0
 nd : (names.map (gn a.dims)).Nodup
def ixs(ds : List Dim)(names : List (List UInt8)) : List Int:=names.map (gn ds)
def wR(a : Arr)(names : List (List UInt8)) : Arr:=⟨iL a.dims (ixs a.dims names),a.attrs,dn (a.cells.map (Kz (ixs a.dims names)))⟩
theorem Ao{α : Type}[Inhabited α]{l : List α}{ks : List Int}{i : Nat}(h : i < ks.length) : at_ (iL l ks) i = at_ l (at_ ks i).toNat:=by
 unfold iL; rw [cZ h]
theorem yd{α : Type}[Inhabited α]{l : List α}{ks : List Int} : (iL l ks).length = ks.length:=by simp [iL]
theorem Fy{ds : List Dim}(hn : (ds.map Dim.name).Nodup){j : Nat}(hj : j < ds.length){n : List UInt8}(h : (at_ ds j).name = n) : gn ds n = (j : Int):=by
 have h0 : ¬ gn ds n < 0:=fun hx=>by
  have:=k7 hx _ (b9 hj)
  simp [h] at this
 obtain ⟨k,h1,h2,h3,_⟩:=qu h0
 have:=Fz hn h2 hj (h3.trans h.symm)
 rw [h1,this]
section
variable {a : Arr} {names : List (List UInt8)}
theorem Tran.ix(h : Tran a names){i : Nat}(hi : i < names.length) : ∃ k : Nat,at_ (ixs a.dims names) i = (k : Int)∧k < a.dims.length∧(at_ a.dims k).name = at_ names i:=by
 obtain ⟨k,h1,h2,h3,_⟩:=qu (h.all _ (b9 hi))
 exact ⟨k,by unfold ixs; rw [cZ hi,h1],h2,h3⟩
theorem kI : (ixs a.dims names).length = names.length:=by simp [ixs]
theorem Tran.nms(h : Tran a names) : (wR a names).dims.map Dim.name = names:=by
 refine gU (by simp [wR,iL,ixs]) fun i hi=>?_
 have hi' : i < names.length:=by simpa [wR,iL,ixs] using hi
 obtain ⟨k,h1,h2,h3⟩:=h.ix hi'
 rw [cZ (by show i < (iL _ _).length; rw [yd,kI]; exact hi')]
 show (at_ (iL a.dims (ixs a.dims names)) i).name = _
 rw [Ao (by rw [kI]; exact hi'),h1]
 exact h3
theorem Tran.namesNd(h : Tran a names) : names.Nodup:=by
 have:=h.nd
 rw [List.Nodup,List.pairwise_map] at this
 exact this.imp fun hne e=>hne (by rw [e])
theorem Tran.onto(h : Tran a names){i : Nat}(hi : i < a.dims.length) : ∃ j,j < names.length∧at_ (ixs a.dims names) j = (i : Int):=by
 have hlt : ∀ x∈(ixs a.dims names).map Int.toNat,x < a.dims.length:=fun x hx=>by
  obtain ⟨y,hy,rfl⟩:=List.mem_map.1 hx
  obtain ⟨j,hj,rfl⟩:=fg hy
  rw [kI] at hj
  obtain ⟨k,h1,h2,_⟩:=h.ix hj
  rw [h1]; simpa using h2
 have hnd : ((ixs a.dims names).map Int.toNat).Nodup:=by
  rw [List.Nodup,List.pairwise_map]
  refine List.Pairwise.imp_of_mem ?_ h.nd
  intro x y hx hy hne e
  apply hne
  obtain ⟨j,hj,rfl⟩:=fg (l:=ixs a.dims names) hx
  obtain ⟨j',hj',rfl⟩:=fg (l:=ixs a.dims names) hy
  rw [kI] at hj hj'
  obtain ⟨k,h1,_⟩:=h.ix hj
  obtain ⟨k',h1',_⟩:=h.ix hj'
  rw [h1,h1'] at e ⊢
  have e' : k = k':=by simpa using e
  rw [e']
 have:=I0 hnd (by rw [List.length_map,kI]; exact h.len) hlt hi
 obtain ⟨y,hy,e⟩:=List.mem_map.1 this
 obtain ⟨j,hj,rfl⟩:=fg hy
 rw [kI] at hj
 obtain ⟨k,h1,_⟩:=h.ix hj
 exact ⟨j,hj,by rw [h1] at e ⊢; simp at e; rw [e]⟩
theorem Tran.cell(h : Tran a names){c : Cell}(hc : c∈a.cells) : c.at'.length = a.dims.length:=(cellF_ok.1 (h.oka.cel c hc)).1
theorem Tran.old(h : Tran a names){i : Nat}(hi : i < a.dims.length) : ∃ j : Nat,j < names.length∧gn (wR a names).dims (at_ a.dims i).name = (j : Int)∧at_ (ixs a.dims names) j = (i : Int):=by
 obtain ⟨j,hj,he⟩:=h.onto hi
 refine ⟨j,hj,Fy (by rw [h.nms]; exact h.namesNd) (by show j < (iL _ _).length; rw [yd,kI]; exact hj) ?_,he⟩
 show (at_ (iL a.dims (ixs a.dims names)) j).name = _
 rw [Ao (by rw [kI]; exact hj),he]
 rfl
end
end Go.Proofs.YtpejdgkaapnekaaGreat
namespace Go.Proofs.YtpejdgkaapnekaaGreat
open Go Go.Abs
def jC(a : Arr)(n : List UInt8) : Bool:=decide (0≤gn a.dims n) || decide (0≤atX a.attrs n)
def BG(a : Arr)(n m : List UInt8) : Arr :=
 if 0≤gn a.dims n then ⟨a.dims.set (gn a.dims n).toNat ⟨m,(at_ a.dims (gn a.dims n).toNat).lo,(at_ a.dims (gn a.dims n).toNat).hi⟩,a.attrs,a.cells⟩
 else ⟨a.dims,a.attrs.set (atX a.attrs n).toNat ⟨m,(at_ a.attrs (atX a.attrs n).toNat).type⟩,a.cells⟩
theorem attrsGo_iff : ∀ {ats : List Attr} {met : List (List UInt8)},eM met ats = 0↔(∀ x∈ats,cJ x.name = true∧x.name ∉ met∧1≤x.type∧x.type≤4)∧(ats.map Attr.name).Nodup
 | [],met=>by simp [eM]
 | x::r,met=>by
   have ih:=attrsGo_iff (ats:=r) (met:=met ++ [x.name])
   simp only [eM]
   constructor
   ·intro h
    split at h
    ·omega
    split at h
    ·omega
    rename_i h1 h2
    obtain ⟨i1,i2⟩:=ih.1 h
    simp only [Bool.or_eq_true,Bool.not_eq_true',not_or,Bool.not_eq_false,Bool.not_eq_true,List.contains_eq_mem,decide_eq_true_eq,decide_eq_false_iff_not] at h1
    refine ⟨fun y hy=>?_,?_⟩
    ·rcases List.mem_cons.1 hy with rfl | hy
     ·exact ⟨h1.1,h1.2,by omega,by omega⟩
     ·obtain ⟨j1,j2,j3,j4⟩:=i1 y hy
      exact ⟨j1,fun hm=>j2 (List.mem_append.2 (.inl hm)),j3,j4⟩
    ·rw [List.map_cons,List.nodup_cons]
     refine ⟨fun hm=>?_,i2⟩
     obtain ⟨y,hy,he⟩:=List.mem_map.1 hm
     exact (i1 y hy).2.1 (by rw [he]; simp)
   ·rintro ⟨h1,h2⟩
    rw [List.map_cons,List.nodup_cons] at h2
    obtain ⟨j1,j2,j3,j4⟩:=h1 x List.mem_cons_self
    rw [if_neg (by simp [j1,j2]),if_neg (by omega)]
    refine ih.2 ⟨fun y hy=>?_,h2.2⟩
    obtain ⟨k1,k2,k3,k4⟩:=h1 y (List.mem_cons_of_mem _ hy)
    refine ⟨k1,fun hm=>?_,k3,k4⟩
    rcases List.mem_append.1 hm with hm | hm
    ·exact k2 hm
    ·exact h2.1 (List.mem_map.2 ⟨y,hy,List.mem_singleton.1 hm⟩)
theorem DF{ats : List Attr}{n : List UInt8}(h : ¬ atX ats n < 0) : ∃ k : Nat,atX ats n = (k : Int)∧k < ats.length∧(at_ ats k).name = n:=by
 obtain ⟨k,h1,h2,h3,_⟩:=rV h
 exact ⟨k,by unfold atX; rw [h1]; simp,h2,by simpa using h3⟩
theorem dimX_mem{ds : List Dim}{n : List UInt8} : 0≤gn ds n↔n∈ds.map Dim.name:=by
 constructor
 ·intro h
  obtain ⟨k,_,h2,h3,_⟩:=qu (ds:=ds) (name:=n) (by omega)
  exact List.mem_map.2 ⟨_,b9 h2,h3⟩
 ·intro h
  obtain ⟨d,hd,rfl⟩:=List.mem_map.1 h
  by_cases h0 : gn ds d.name < 0
  ·have:=k7 h0 d hd
   simp at this
  ·omega
theorem atX_mem{ats : List Attr}{n : List UInt8} : 0≤atX ats n↔n∈ats.map Attr.name:=by
 constructor
 ·intro h
  obtain ⟨k,_,h2,h3⟩:=DF (ats:=ats) (n:=n) (by omega)
  exact List.mem_map.2 ⟨_,b9 h2,h3⟩
 ·intro h
  obtain ⟨d,hd,rfl⟩:=List.mem_map.1 h
  by_cases h0 : atX ats d.name < 0
  ·have:=k7 h0 d hd
   simp at this
  ·omega
structure Ren (a : Arr) (n m : List UInt8) : Prop where
 oka : OkA a.dims a.attrs a.cells
 has : n∈a.dims.map Dim.name∨n∈a.attrs.map Attr.name
 nm : cJ m = true
 new : m = n∨(m ∉ a.dims.map Dim.name∧m ∉ a.attrs.map Attr.name)
section
variable {a : Arr} {n m : List UInt8}
theorem Ren.nd(h : Ren a n m) : (a.dims.map Dim.name).Nodup∧(a.attrs.map Attr.name).Nodup∧∀ x,x∈a.attrs.map Attr.name→x ∉ a.dims.map Dim.name:=by
 have hs:=attrsGo_iff.1 (c9 h.oka.sch).2.2.2
 refine ⟨h.oka.dims.2.2.2,hs.2,fun x hx hd=>?_⟩
 obtain ⟨t,ht,rfl⟩:=List.mem_map.1 hx
 exact (hs.1 t ht).2.1 hd
theorem Ren.which(h : Ren a n m) : (∃ k : Nat,gn a.dims n = (k : Int)∧k < a.dims.length∧(at_ a.dims k).name = n∧BG a n m = ⟨a.dims.set k ⟨m,(at_ a.dims k).lo,(at_ a.dims k).hi⟩,a.attrs,a.cells⟩) ∨
  (n ∉ a.dims.map Dim.name∧∃ k : Nat,atX a.attrs n = (k : Int)∧k < a.attrs.length∧(at_ a.attrs k).name = n∧BG a n m = ⟨a.dims,a.attrs.set k ⟨m,(at_ a.attrs k).type⟩,a.cells⟩):=by
 by_cases h0 : 0≤gn a.dims n
 ·obtain ⟨k,h1,h2,h3,_⟩:=qu (ds:=a.dims) (name:=n) (by omega)
  refine .inl ⟨k,h1,h2,h3,?_⟩
  unfold BG
  rw [if_pos h0,h1]
  rfl
 ·have hd : n ∉ a.dims.map Dim.name:=fun hh=>h0 (dimX_mem.2 hh)
  have ha:=h.has.resolve_left hd
  have h4:=atX_mem.2 ha
  obtain ⟨k,h1,h2,h3⟩:=DF (ats:=a.attrs) (n:=n) (by omega)
  refine .inr ⟨hd,k,h1,h2,h3,?_⟩
  unfold BG
  rw [if_neg h0,h1]
  rfl
end
end Go.Proofs.YtpejdgkaapnekaaGreat
namespace Go.Proofs.YtpejdgkaapnekaaGreat
open Go Go.Abs
attribute [local irreducible] aa OkC aj av al aB
set_option maxRecDepth 10000
theorem KS(l : List Attr)(hne : 0 < l.length) : CallA Tryz.prog 145 [.one (.d (au l))] [] (.one (.own 0 l.length)) [(0,.row 2 24 (l.map eO))]:=by
 refine enter af Tryz.func145 rfl (by decide +kernel) rfl fun hok w0 σ0 φ0 M=>?_
 have h1:=hok.1.sl; clear hok; simp only [List.length_map] at h1
 repeat' (first|(refine h1H ?_; (refine h6H ?_; refine eA af J J J J J J (fun r hr=>?_)))|(refine h1H ?_; (refine h0H ?_; refine dN af J J J J J (id:=0) J J J J J J J (by simp only [List.length_map,Nat.zero_add]; omega) (by simp only [List.length_map,Nat.zero_add]; omega) ?_))|refine wG ?_|(refine h5H ?_; refine ai J (fun h=>?_) (fun h=>?_)))
 ·have e:=hr (by simpa using h)
  simp only [List.map_eq_nil_iff] at e
  subst e; simp at hne
 ·simp
theorem JU(a : Arr)(name : List UInt8) : CallA Tryz.prog 143 [.agg [.d (aw a.dims),.d (au a.attrs),.d (aK a.cells)],.one (.d (.str name))] [] (.one (.d (.bool (jC a name)))) []:=by
 refine enter af Tryz.func143 rfl (by decide +kernel) rfl fun hok w0 σ0 φ0 M=>?_
 clear hok
 repeat' (first|(refine h1H ?_; (refine h0H ?_; first|refine ab J J J J J J J J (BH _ _ _ _) J ?_|refine ab J J J J J J J J (BI _ _ _ _) J ?_))|refine wG ?_|(refine h1H ?_; (refine h4H ?_; refine aG J J J J (fun h=>?_) (fun h=>?_))))
 ·have e : jC a name = decide (0≤aI (fun x : Attr=>x.name == name) a.attrs 0):=by
   show (decide (0≤aI (fun x : Dim=>x.name == name) a.dims 0) || _) = _
   rw [h]; rfl
  rw [e]
 ·have e : jC a name = true:=by
   show (decide (0≤aI (fun x : Dim=>x.name == name) a.dims 0) || _) = _
   rw [h]; rfl
  rw [e]
end Go.Proofs.YtpejdgkaapnekaaGreat
namespace Go.Proofs.YtpejdgkaapnekaaGreat
open Go Go.Abs
attribute [local irreducible] aa OkC aj av al aB
set_option maxRecDepth 10000
section
variable {P : Program} {c : Ctx} {fr : List (Nat×AV)} {sto : Sto} {ops : Array Oper} {o : Oper} {rest : List Oper} {K : St→Prop} {st0 : St} {acc : List Tr}
theorem A9(k : Nat){d : Nat}{fop : Operand}{args : Array Operand}{ats : Array TypeId}{f : FuncId}{caps : List D}{avs avs' : List AV}{rav rav' : AV}{rsto sto' : Sto}{tr : Tr}
  (ho : o.op = .call { callee:=.value fop,args:=args,argTypes:=ats }) (hg : o.guard = none) (hdst : o.dst = some d) (hd : Nat.blt d c.n = true) (hf : ev ⟨fr,sto⟩ fop = some (.one (.d (.fn f caps))))
  (ha : evL ⟨fr,sto⟩ args.toList = some avs) (hD : cb avs = true) (hap : (avs ++ caps.map fun x=>.one (.d x)) = avs') (hC : CallA P f avs' [] rav rsto)
  (hk : (ch [] rsto && Nat.ble (k + 16) 1000000 && cO rsto rav && aY rsto rsto) = true) (ht : kB k [] [] rav rsto = tr) (hr : tr.v = rav') (hw : cw tr.wr sto = sto')
  (h : aj P c ops st0 rest ⟨(d,rav')::fr,sto'⟩ (tr::acc) K) : aj P c ops st0 (o::rest) ⟨fr,sto⟩ acc K:=by
 subst hap; subst hr; subst hw; subst ht
 refine k5 hg (vG k ho (by rw [hdst]; exact hd) hf ha hD hC hk) ?_
 rw [hdst]; exact h
end
theorem KR(l : List Val)(hne : 0 < l.length) : CallA Tryz.prog 144 [.one (.d (aP l))] [] (.one (.own 0 l.length)) [(0,.row 4 40 (l.map az))]:=by
 refine enter af Tryz.func144 rfl (by decide +kernel) rfl fun hok w0 σ0 φ0 M=>?_
 have h1:=hok.1.sl; clear hok; simp only [List.length_map] at h1
 repeat' (first|(refine h1H ?_; (refine h6H ?_; refine eA af J J J J J J (fun r hr=>?_)))|(refine h1H ?_; (refine h0H ?_; refine dN af J J J J J (id:=0) J J J J J J J (by simp only [List.length_map,Nat.zero_add]; omega) (by simp only [List.length_map,Nat.zero_add]; omega) ?_))|refine wG ?_|(refine h5H ?_; refine ai J (fun h=>?_) (fun h=>?_)))
 ·have e:=hr (by simpa using h)
  simp only [List.map_eq_nil_iff] at e
  subst e; simp at hne
 ·simp
def kV(a : Arr)(s : Scalar)(c : Cell) : Cell:=⟨c.at',c.vals ++ [bS a.dims a.attrs c.at' c.vals s]⟩
def gq(a : Arr)(name : List UInt8)(t : Int) : List Attr:=a.attrs ++ [⟨name,t⟩]
def fQ(a : Arr)(name : List UInt8)(s : Scalar) : Option Arr×Int :=
 if dB a≠0 then (none,2) else if !cJ name || jC a name then (none,11) else if a.attrs.length = 6 then (none,9)
 else if (aM a.dims a.attrs a.cells s).2≠0 then (none,(aM a.dims a.attrs a.cells s).2)
 else gk a.dims (gq a name (aM a.dims a.attrs a.cells s).1) (a.cells.map (kV a s))
theorem we(a : Arr)(name : List UInt8)(s : Scalar) :
  ((!dy [a]) = true∧fQ a name s = (none,2)) ∨
  ((!dy [a]) = false∧(!cJ name) = true∧fQ a name s = (none,11)) ∨
  ((!dy [a]) = false∧(!cJ name) = false∧jC a name = true∧fQ a name s = (none,11)) ∨
  ((!dy [a]) = false∧(!cJ name) = false∧jC a name = false∧(((a.attrs.map eO).length : Int) == 6) = true∧fQ a name s = (none,9)) ∨
  ((!dy [a]) = false∧(!cJ name) = false∧jC a name = false∧(((a.attrs.map eO).length : Int) == 6) = false∧((aM a.dims a.attrs a.cells s).2 != 0) = true∧fQ a name s = (none,(aM a.dims a.attrs a.cells s).2)) ∨
  ((!dy [a]) = false∧(!cJ name) = false∧jC a name = false∧(((a.attrs.map eO).length : Int) == 6) = false∧((aM a.dims a.attrs a.cells s).2 != 0) = false∧(aM a.dims a.attrs a.cells s).2 = 0∧fQ a name s = (some ⟨a.dims,gq a name (aM a.dims a.attrs a.cells s).1,dn (a.cells.map (kV a s))⟩,0)):=by
 by_cases hc : dB a = 0
 rotate_left
 ·exact .inl ⟨by simp [dy,hc],by unfold fQ; rw [if_pos hc]⟩
 have hv : (!dy [a]) = false:=by simp [dy,hc]
 refine .inr ?_
 cases h1 : cJ name
 ·exact .inl ⟨hv,rfl,by unfold fQ; rw [if_neg (by simpa using hc),if_pos (by simp [h1])]⟩
 refine .inr ?_
 cases h2 : jC a name
 rotate_left
 ·exact .inl ⟨hv,rfl,rfl,by unfold fQ; rw [if_neg (by simpa using hc),if_pos (by simp [h2])]⟩
 refine .inr ?_
 have h12 : ¬ (!cJ name || jC a name) = true:=by simp [h1,h2]
 by_cases h3 : a.attrs.length = 6
 ·exact .inl ⟨hv,rfl,rfl,by simp [h3],by unfold fQ; rw [if_neg (by simpa using hc),if_neg h12,if_pos h3]⟩
 refine .inr ?_
 have h3' : (((a.attrs.map eO).length : Int) == 6) = false:=by simp; omega
 by_cases h4 : (aM a.dims a.attrs a.cells s).2 = 0
 rotate_left
 ·exact .inl ⟨hv,rfl,rfl,h3',by simp [h4],by unfold fQ; rw [if_neg (by simpa using hc),if_neg h12,if_neg h3,if_pos h4]⟩
 refine .inr ⟨hv,rfl,rfl,h3',by simp [h4],h4,?_⟩
 unfold fQ
 rw [if_neg (by simpa using hc),if_neg h12,if_neg h3,if_neg (by simpa using h4)]
 unfold gk
 rw [if_neg (by have:=(okA hc).few; rw [List.length_map]; omega)]
theorem PA(ds : List Dim)(ats : List Attr)(cs : List Cell)(zs ys : List (List D))(hd : cs.Pairwise dJ)(hf : cs.length≤4096)(hz : zs = ats.map eO)(hy : ys = cs.map aJ) : CallA Tryz.prog 99 [.one (.d (aw ds)),.one (.d (.sl 2 24 zs)),.one (.d (.sl 2 48 ys))] [] (.tup [(true,[.d (aw ds),.d (au ats),.d (aK (dn cs))]),(false,[.d (.int .i64 0)])]) []:=by
 subst hz; exact EU ds ats cs _ ys hd hf rfl hy
theorem Gf(l : List Val)(v : Val) : List.take l.length (l.map az) ++ [az v] = (l ++ [v]).map az:=by
 rw [List.take_of_length_le (by simp),List.map_append]; rfl
theorem Gg(a : Arr)(name : List UInt8)(t : Int){n : Nat}(hn : a.attrs.length + 1≤n) : List.take n (List.take a.attrs.length (a.attrs.map eO) ++ [[.str name,.int .i64 t]]) = (gq a name t).map eO:=by
 rw [List.take_of_length_le (by simp; omega),List.take_of_length_le (by simp)]
 simp [gq,eO]
theorem HZ{l : List Cell}{n : Nat}{r : List (List D)}(hr : r = (l.take n).map aJ)(h : l.length≤n) : r.take n = l.map aJ:=by
 rw [hr,List.take_of_length_le h,List.take_of_length_le (by simpa using h)]
theorem H0{a : Arr}{s : Scalar}{n : Nat}{r : List (List D)}(hr : r = ((a.cells.map (kV a s)).take n).map aJ)(h : n < a.cells.length) : r.take n ++ [[aq (at_ a.cells n).at',.sl 4 40 (List.take ((at_ a.cells n).vals.length + 1) (List.take (at_ a.cells n).vals.length ((at_ a.cells n).vals.map az) ++ [az (bS a.dims a.attrs (at_ a.cells n).at' (at_ a.cells n).vals s)]))]] = ((a.cells.map (kV a s)).take (n + 1)).map aJ:=by
 have e:=Ba aJ (a.cells.map (kV a s)) hr (by simpa using h)
 rw [cZ h] at e
 have e2 : List.take ((at_ a.cells n).vals.length + 1) (((at_ a.cells n).vals ++ [bS a.dims a.attrs (at_ a.cells n).at' (at_ a.cells n).vals s]).map az) = ((at_ a.cells n).vals ++ [bS a.dims a.attrs (at_ a.cells n).at' (at_ a.cells n).vals s]).map az:=List.take_of_length_le (by simp)
 rw [← e,Gf,e2]
 rfl
set_option maxHeartbeats 8000000 in
theorem c44(a : Arr)(name : List UInt8)(s : Scalar) : CallA Tryz.prog 44 [fO a,.one (.d (.str name)),cF s] [] (nX (fQ a name s)) []:=by
 unfold fO
 refine enter af Tryz.func44 rfl (by decide +kernel) rfl fun hok w0 σ0 φ0 M=>?_
 clear hok
 rcases we a name s with ⟨hv,e⟩ | ⟨hv,hb1,e⟩ | ⟨hv,hb1,hb2,e⟩ | ⟨hv,hb1,hb2,hb3,e⟩ | ⟨hv,hb1,hb2,hb3,hb4,e⟩ | ⟨hv,hb1,hb2,hb3,hb4,ht,e⟩
 all_goals rw [e]
 rotate_right
 ·obtain ⟨hck,hp,hsz,hn⟩:=j6 ht
  have hA:=okA hck
  have hcl : ∀ i,i < a.cells.length→(at_ a.cells i).at'.length = a.dims.length∧(at_ a.cells i).vals.length = a.attrs.length:=fun i hi =>
   let h:=cellF_ok.1 (hA.cel _ (b9 hi)); ⟨h.1,h.2.1⟩
  have hna : 0 < a.attrs.length:=(c9 hA.sch).2.1
  have hvl : ∀ i,i < a.cells.length→0 < (at_ a.cells i).vals.length:=fun i hi=>by rw [(hcl i hi).2]; exact hna
  have hvs : ∀ i,i < a.cells.length→(at_ a.cells i).vals.length≤100000000:=fun i hi=>by have:=(c9 hA.sch).2.2.1; rw [(hcl i hi).2]; omega
  have ha6:=(c9 hA.sch).2.2.1
  have hdf : (a.cells.map (kV a s)).Pairwise dJ:=List.pairwise_map.2 ((dj hA.srt).imp fun h=>h)
  have hff : (a.cells.map (kV a s)).length≤4096:=by rw [List.length_map]; exact hA.few
  have hcn : a.cells.length≤4096:=hA.few
  repeat' (first|(refine h1H ?_; (refine h0H ?_; first|refine gW [3] J J J J J J J J J (c96 [a]) J ?_|refine ab J J J J J J J J (xH _) J ?_|refine ab J J J J J J J J (JU a _) J ?_|refine ab J J J J J J J J (c20 _ _ _ _) J ?_))|(refine h5H ?_; (show OkC _ _ (Code.region 15 _ _) _ _; refine bO (cU (dl:=[11]) J) ?_))|(refine h3H ?_; (refine h2H ?_; first|refine eR ao 11 J J J (dU (i:=40) J J J J J J J J (show a.attrs.length≤100000000 from (by omega)) (Nat.le_of_ble_eq_true J) (Nat.le_of_ble_eq_true J)) J J ?_|refine eR ao 11 J J J (dU (i:=40) J J J J J J J J (hvs _ wB) (Nat.le_of_ble_eq_true J) (Nat.le_of_ble_eq_true J)) J J ?_|refine A9 40 J J J J J J J J (KR _ (hvl _ wB)) J J J J ?_|refine A9 40 J J J J J J J J (KS a.attrs hna) J J J J ?_|refine tY 60 [11,20] J J J J J J J J J (PA a.dims (gq a name (aM a.dims a.attrs a.cells s).1) (a.cells.map (kV a s)) _ _ hdf hff (Gg a name _ (by simp)) (HZ hq3 wB)) J J ?_|refine d_l J J (bo J J J J J J (FL _ _ _ _ _ _ hp hsz hn (hcl _ wB).1 (hcl _ wB).2) J) ?_))|refine wG ?_|(refine h5H ?_; first|refine ai J (fun h=>?_) (fun h=>?_)|refine ql 12 J (mg (s:=10) (id:=20) (k:=2) (b:=48) J J J J) [(1,_),(3,_),(5,_),(6,_),(8,_),(47,_),(48,_)] (q7Q J J J J J J J) (fun (bN : Bool×Bool) (q : Nat×List (List D))=>[(10,.one (.own 20 q.1)),(49,.one (.d (.int .i64 (q.1 : Int))))]) (fun (bN : Bool×Bool) (q : Nat×List (List D))=>[(20,.row 2 48 q.2),(0,.box [.d (aw a.dims),.d (au a.attrs),.d (aK a.cells)]),(1,.box [.d (.int .i64 s.op),.d (.str s.name),.d (.int .i64 s.val.kind),.d (.int .i64 s.val.num),.d (.int .i64 s.val.den),.d (.str s.val.str),.d (bA s.args)]),(2,.box [.d .nil,.d .nil,.d .nil])]) (fun (q : Nat×List (List D))=>q.1≤a.cells.length∧q.2 = ((a.cells.map (kV a s)).take q.1).map aJ) (fun (q : Nat×List (List D))=>a.cells.length - q.1) (0,[]) (q2Q J J) wK (fun b y=>by obtain ⟨b1,b2⟩:=b; cases b1 <;> cases b2 <;> first|exact Imp.refl _|exact qm qN (by kernel_rfl)) ?_ (fun q ⟨hq1,hq3⟩=>?_))|(show Exists _; refine Exists.intro ((q.1 + 1,q.2.take q.1 ++ [[aq (at_ a.cells q.1).at',.sl 4 40 (List.take ((at_ a.cells q.1).vals.length + 1) (List.take (at_ a.cells q.1).vals.length ((at_ a.cells q.1).vals.map az) ++ [az (bS a.dims a.attrs (at_ a.cells q.1).at' (at_ a.cells q.1).vals s)]))]])) (Exists.intro (false,false) ⟨?_,?_,wK,(q2Q J J),(q7Q J J J J J J J)⟩)))
  all_goals first
   | rfl
   | exact ⟨Nat.zero_le _,rfl⟩
   | (have hlt : q.1 < a.cells.length:=by simpa using h
      exact ⟨hlt,H0 hq3 hlt⟩)
   | (have hlt : q.1 < a.cells.length:=by simpa using h
      show a.cells.length - (q.1 + 1) < a.cells.length - q.1
      omega)
   | skip
 repeat' (first|(refine h1H ?_; (refine h0H ?_; first|refine gW [3] J J J J J J J J J (c96 [a]) J ?_|refine ab J J J J J J J J (xH _) J ?_|refine ab J J J J J J J J (JU a _) J ?_|refine ab J J J J J J J J (c20 _ _ _ _) J ?_))|refine wG ?_)
 all_goals rfl
end Go.Proofs.YtpejdgkaapnekaaGreat
