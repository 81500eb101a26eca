import Derived.Test.YtpejdgkaapnekaaGreatVP35
import Derived.Test.YtpejdgkaapnekaaGreatVP17
set_option linter.unusedVariables false
set_option linter.unusedSimpArgs false
set_option linter.unnecessarySimpa false
set_option maxHeartbeats 1000000
namespace Go.Proofs.YtpejdgkaapnekaaGreat
open Go Go.Abs
theorem pL{a c : Arr}{lo hi : List Int}(h : cj a lo hi = (some c,0)) : ca a = 0∧lo.length = a.dims.length∧hi.length = a.dims.length∧(ba a.dims lo hi).all okD = true∧c = ⟨ba a.dims lo hi,a.attrs,a.cells.filter fun c=>bk (ba a.dims lo hi) c.at'⟩:=by
 unfold cj at h
 split at h
 ·cases h
 rename_i h1
 split at h
 ·cases h
 rename_i h2
 split at h
 ·cases h
 rename_i h3
 have h1' : bU a.dims a.attrs a.cells = 0:=by omega
 refine ⟨h1',by omega,by omega,by simpa using h3,?_⟩
 unfold gf at h
 split at h
 ·cases h
 have e:=(okA h1').srt.filter (fun c : Cell=>bk (ba a.dims lo hi) c.at')
 rw [lF e] at h
 simp only [Prod.mk.injEq,Option.some.injEq,and_true] at h
 exact h.symm
theorem yM{a : Arr}{lo hi : List Int}(hc : ca a = 0)(hl : lo.length = a.dims.length)(hh : hi.length = a.dims.length)(ho : (ba a.dims lo hi).all okD = true) : cj a lo hi = (some ⟨ba a.dims lo hi,a.attrs,a.cells.filter fun c=>bk (ba a.dims lo hi) c.at'⟩,0):=by
 unfold cj
 rw [if_neg (by simpa [ca] using hc),if_neg (by omega),if_neg (by simp [ho])]
 unfold gf
 have hA:=okA hc
 rw [if_neg (by have:=List.length_filter_le (fun c : Cell=>bk (ba a.dims lo hi) c.at') a.cells; have:=hA.few; omega),lF (hA.srt.filter _)]
theorem nC{a c : Arr}{s : Scalar}(h : dt a s = (some c,0)) : (bx a.dims a.attrs a.cells s).2 = 0∧(bx a.dims a.attrs a.cells s).1 = 1∧ca a = 0∧c = ⟨a.dims,a.attrs,jz a s a.cells⟩:=by
 unfold dt at h
 split at h
 ·cases h
 rename_i h1
 split at h
 ·cases h
 rename_i h2
 have h1 : (bx a.dims a.attrs a.cells s).2 = 0:=by omega
 have hk:=(p9 h1).1
 refine ⟨h1,by omega,hk,?_⟩
 unfold gf at h
 split at h
 ·cases h
 rw [lF ((okA hk).srt.filter _)] at h
 simp only [Prod.mk.injEq,Option.some.injEq,and_true] at h
 exact h.symm
theorem Al{a : Arr}{s : Scalar}(h1 : (bx a.dims a.attrs a.cells s).2 = 0)(h2 : (bx a.dims a.attrs a.cells s).1 = 1) : dt a s = (some ⟨a.dims,a.attrs,jz a s a.cells⟩,0):=by
 have hA:=okA (p9 h1).1
 unfold dt
 rw [if_neg (by omega),if_neg (by omega)]
 unfold gf
 rw [if_neg (by have:=List.length_filter_le (fun c : Cell=>okV (dB a.dims a.attrs c.at' c.vals s)) a.cells; have:=hA.few; omega),lF (hA.srt.filter _)]
theorem ll{ds : List Dim}{ats : List Attr}{cs : List Cell}(p : Cell→Bool)(h : bU ds ats cs = 0) : bU ds ats (cs.filter p) = 0:=by
 have hA:=okA h
 exact o3 ⟨hA.sch,Nat.le_trans (List.length_filter_le _ _) hA.few,hA.srt.filter _,fun c hc=>hA.cel c (List.mem_filter.1 hc).1⟩
section
variable {ds : List Dim} {lo hi : List Int}
theorem pG(hl : lo.length = ds.length)(hh : hi.length = ds.length) : (ba ds lo hi).map Dim.name = ds.map Dim.name:=by
 refine iq (by simp [c9 hl hh]) fun i hi'=>?_
 have h : i < ds.length:=by simpa [c9 hl hh] using hi'
 rw [jW (by rw [c9 hl hh]; exact h),jW h,jA hl hh h]; rfl
theorem IF(hl : lo.length = ds.length)(hh : hi.length = ds.length){xs : List Int}(hx : xs.length = ds.length)(h : bk (ba ds lo hi) xs = true) : bk ds xs = true:=by
 rw [dF hx]
 rw [dF (by rw [c9 hl hh]; exact hx)] at h
 intro i hi'
 have h1:=h i (by rw [c9 hl hh]; exact hi')
 rw [jA hl hh hi'] at h1
 have h2 : max (at_ ds i).lo (at_ lo i)≤at_ xs i:=h1.1
 have h3 : at_ xs i≤dv (min (at_ ds i).hi (at_ hi i)):=h1.2
 unfold dv at *
 omega
theorem uq{ats : List Attr}{cs : List Cell}(hc : bU ds ats cs = 0)(hl : lo.length = ds.length)(hh : hi.length = ds.length)(ho : (ba ds lo hi).all okD = true) : bU (ba ds lo hi) ats (cs.filter fun c=>bk (ba ds lo hi) c.at') = 0:=by
 have hA:=okA hc
 obtain ⟨s1,s2,s3,s4⟩:=nW hA.sch
 obtain ⟨d1,d2,d3,d4⟩:=xn s1
 refine o3 ⟨sH (by rw [c9 hl hh]; exact d1) (by rw [c9 hl hh]; exact d2) (fun d hd=>?_) (by rw [pG hl hh]; exact d4) s2 s3 (by rw [pG hl hh]; exact s4),Nat.le_trans (List.length_filter_le _ _) hA.few,hA.srt.filter _,fun c hc=>?_⟩
 ·obtain ⟨i,hi',rfl⟩:=oh hd
  have hi2 : i < ds.length:=by rw [c9 hl hh] at hi'; exact hi'
  have h1:=List.all_eq_true.1 ho _ hd
  obtain ⟨h2,h3⟩:=d3 _ (dh hi2)
  rw [jA hl hh hi2] at h1 ⊢
  have h4:=boundsF_ok.1 h2
  simp only [okD,Bool.not_eq_true',decide_eq_false_iff_not] at h1
  have h5 : ¬ dv (min (at_ ds i).hi (at_ hi i)) < max (at_ ds i).lo (at_ lo i):=h1
  unfold dv at h5
  refine ⟨boundsF_ok.2 ?_,h3⟩
  show -1073741824≤max (at_ ds i).lo (at_ lo i)∧max (at_ ds i).lo (at_ lo i)≤1073741824∧max (at_ ds i).lo (at_ lo i)≤min (at_ ds i).hi (at_ hi i)∧min (at_ ds i).hi (at_ hi i)≤1073741825
  omega
 ·obtain ⟨h1,h2⟩:=List.mem_filter.1 hc
  obtain ⟨e1,e2,e3,e4⟩:=cellF_ok.1 (hA.cel c h1)
  exact cellF_ok.2 ⟨by rw [c9 hl hh]; exact e1,e2,h2,e4⟩
end
theorem vD : ∀ {l m : List Dim} {n : List UInt8} {k : Nat},l.map Dim.name = m.map Dim.name→aM (fun a : Dim=>a.name == n) l k = aM (fun a : Dim=>a.name == n) m k
 | [],[],_,_,_=>rfl
 | x::l,y::m,n,k,h=>by
   simp only [List.map_cons,List.cons.injEq] at h
   simp only [aM,h.1,vD (l:=l) (m:=m) (n:=n) (k:=k + 1) h.2]
 | [],_::_,_,_,h=>by simp at h
 | _::_,[],_,_,h=>by simp at h
section
variable {ds es : List Dim} {ats : List Attr}
theorem tg(h : ds.map Dim.name = es.map Dim.name)(n : List UInt8) : jr ds n = jr es n:=vD h
theorem DL(h : ds.map Dim.name = es.map Dim.name){cst : Val→Int}(s : Scalar) : bo cst ds ats s = bo cst es ats s:=by
 induction s using Scalar.ind with
 | h s ih =>
   have hL : ∀ {l : List Scalar},(∀ x∈l,bo cst ds ats x = bo cst es ats x)→bB cst ds ats l = bB cst es ats l:=by
    intro l
    induction l with
    | nil=>intro _; rfl
    | cons x r ihl=>intro hx; simp only [bB,hx x (by simp),ihl fun y hy=>hx y (List.mem_cons_of_mem _ hy)]
   rw [gN,gN,hL ih]
   unfold js
   rw [tg h]
theorem DM(h : ds.map Dim.name = es.map Dim.name){at' : List Int}{vs : List Val}(s : Scalar) : dB ds ats at' vs s = dB es ats at' vs s:=by
 induction s using Scalar.ind with
 | h s ih =>
   have hL : ∀ {l : List Scalar},(∀ x∈l,dB ds ats at' vs x = dB es ats at' vs x)→gQ ds ats at' vs l = gQ es ats at' vs l:=by
    intro l
    induction l with
    | nil=>intro _; rfl
    | cons x r ihl=>intro hx; simp only [gQ,hx x (by simp),ihl fun y hy=>hx y (List.mem_cons_of_mem _ hy)]
   rw [qg,qg,hL ih,tg h]
end
theorem qp{ds : List Dim}{ats : List Attr}{cs : List Cell}{s : Scalar}(h1 : bU ds ats cs = 0)(h2 : dn s = 0) : bx ds ats cs s = bo bK ds ats s:=by simp [bx,h1,h2]
theorem vE{ds : List Dim}{ats : List Attr}{cs : List Cell}{s : Scalar}(h : (bx ds ats cs s).2 = 0) : dn s = 0:=by
 have hk:=(p9 h).1
 unfold bx at h
 rw [if_neg (by simpa using hk)] at h
 by_cases h2 : dn s = 0
 ·exact h2
 ·rw [if_pos h2] at h; exact h
theorem DY{a x y : Arr}{lo hi : List Int}{p : Scalar}(h1 : cj a lo hi = (some x,0))(h2 : dt a p = (some y,0)) : ∃ r,dt x p = (some r,0)∧cj y lo hi = (some r,0)∧ca r = 0:=by
 obtain ⟨hc,hl,hh,ho,rfl⟩:=pL h1
 obtain ⟨t1,t2,_,rfl⟩:=nC h2
 have hn:=pG hl hh
 have hcx:=uq hc hl hh ho
 have hf:=vE t1
 have e:=qp hc hf
 have ex:=qp hcx hf
 rw [DL hn,← e] at ex
 have hcy : ca ⟨a.dims,a.attrs,jz a p a.cells⟩ = 0:=ll _ hc
 refine ⟨_,Al (a:=⟨ba a.dims lo hi,a.attrs,_⟩) (by rw [ex]; exact t1) (by rw [ex]; exact t2),?_,ll _ hcx⟩
 rw [yM hcy hl hh ho]
 simp only [jz,List.filter_filter]
 congr 3
 congr 1
 funext c
 rw [DM hn,Bool.and_comm]
def iB(l m : List Int) : List Int:=l.zipWith max m
def iC(l m : List Int) : List Int:=l.zipWith min m
theorem FV{a x : Arr}{lo hi lo2 hi2 : List Int}(h1 : cj a lo hi = (some x,0))(hl2 : lo2.length = lo.length)(hh2 : hi2.length = lo.length) : (∃ e,e≠0∧cj x lo2 hi2 = (none,e)∧cj a (iB lo lo2) (iC hi hi2) = (none,e))∨∃ r,cj x lo2 hi2 = (some r,0)∧cj a (iB lo lo2) (iC hi hi2) = (some r,0)∧ca r = 0:=by
 obtain ⟨hc,hl,hh,ho,rfl⟩:=pL h1
 have hcx:=uq hc hl hh ho
 have ecl:=c9 hl hh
 have a1 : lo2.length = (ba a.dims lo hi).length:=by omega
 have a2 : hi2.length = (ba a.dims lo hi).length:=by omega
 have b1 : (iB lo lo2).length = a.dims.length:=by simp [iB]; omega
 have b2 : (iC hi hi2).length = a.dims.length:=by simp [iC]; omega
 have ec : ba (ba a.dims lo hi) lo2 hi2 = ba a.dims (iB lo lo2) (iC hi hi2):=by
  refine iq (by rw [c9 a1 a2,c9 b1 b2,ecl]) fun i hi'=>?_
  have hi2' : i < a.dims.length:=by rw [c9 a1 a2,ecl] at hi'; exact hi'
  rw [jA a1 a2 (by omega),jA b1 b2 hi2',jA hl hh hi2']
  unfold iB iC
  rw [lk (by omega) (by omega),lk (by omega) (by omega)]
  refine Dim.ext rfl ?_ ?_
  ·show max (max _ _) _ = max _ (max _ _); omega
  ·show min (min _ _) _ = min _ (min _ _); omega
 by_cases hok : (ba a.dims (iB lo lo2) (iC hi hi2)).all okD = true
 ·refine .inr ⟨_,yM (a:=⟨ba a.dims lo hi,a.attrs,_⟩) hcx a1 a2 (by rw [ec]; exact hok),?_,uq hcx a1 a2 (by rw [ec]; exact hok)⟩
  rw [yM hc b1 b2 hok]
  simp only [ec,List.filter_filter]
  congr 3
  refine List.filter_congr fun c hc'=>?_
  cases hw : bk (ba a.dims (iB lo lo2) (iC hi hi2)) c.at' with
  | false=>rfl
  | true =>
    rw [← ec] at hw
    have hcl:=(cellF_ok.1 ((okA hc).cel c hc')).1
    rw [IF a1 a2 (by omega) hw]; rfl
 ·refine .inl ⟨3,by omega,?_,?_⟩
  ·unfold cj
   rw [if_neg (by simpa [ca] using hcx),if_neg (by show ¬ ((lo2.length : Int)≠(ba a.dims lo hi).length∨(hi2.length : Int)≠(ba a.dims lo hi).length); omega),if_pos]
   show (!(ba (ba a.dims lo hi) lo2 hi2).all okD) = true
   rw [ec]; simpa using hok
  ·unfold cj
   rw [if_neg (by simpa [ca] using hc),if_neg (by omega),if_pos (by simpa using hok)]
def gi(p q : Scalar) : Scalar:=.mk 19 [] ⟨0,0,0,[]⟩ [p,q]
theorem q7{v : Val}(h : bA v = true)(hk : v.kind = 1)(h0 : ¬ eV v (bq false) = true) : v = bq true:=by
 obtain ⟨k,n,d,s⟩:=v
 simp only at hk; subst hk
 rw [vz] at h0
 simp [bA,dH,mS] at h
 obtain ⟨⟨h1,h2⟩,h3⟩:=h
 subst h1; subst h2
 rcases h3 with h3 | h3
 ·subst h3; exact absurd rfl h0
 ·subst h3; rfl
theorem rW{v : Val} : okV v = true↔v = bq true:=by
 obtain ⟨k,n,d,s⟩:=v
 simp [okV,b0,eqD,bq]
theorem GU{ds : List Dim}{ats : List Attr}{at' : List Int}{vs : List Val}{p q : Scalar} : okV (dB ds ats at' vs (gi p q)) = (okV (dB ds ats at' vs p) && okV (dB ds ats at' vs q)):=by
 have e : dB ds ats at' vs (gi p q) = (doF 19 [dB ds ats at' vs p,dB ds ats at' vs q]).1:=rfl
 rw [e]
 generalize dB ds ats at' vs p = u
 generalize dB ds ats at' vs q = v
 rw [Bool.eq_iff_iff,Bool.and_eq_true,rW,rW,rW]
 constructor
 ·intro h
  unfold doF doG at h
  split at h
  ·rename_i hr
   split at h
   ·rename_i hk
    have hr : bA u = true∧bA v = true:=by simpa using hr
    have hk : isV u 1 = true∧isV v 1 = true:=by simpa [kdF] using hk
    have h : lz false [u,v] = bq true:=h
    unfold lz at h
    split at h
    ·simp [bq] at h
    ·rename_i hn
     have hn0 : ¬ eV u (bq false) = true:=fun h=>hn (.inl h)
     have hn1 : ¬ eV v (bq false) = true:=fun h=>hn (.inr h)
     cases hf : cu [u,v] with
     | none =>
       have k0 : ¬ u.kind = 0:=kC hf (i:=0) (by simp)
       have k1 : ¬ v.kind = 0:=kC hf (i:=1) (by simp)
       exact ⟨q7 hr.1 (qf hk.1 k0) hn0,q7 hr.2 (qf hk.2 k1) hn1⟩
     | some z =>
       have hz : z.kind = 0:=by simpa using List.find?_some hf
       rw [hf] at h
       have : z = bq true:=h
       rw [this] at hz; simp [bq] at hz
   ·simp [bq,k9] at h
  ·simp [bq,k9] at h
 ·rintro ⟨rfl,rfl⟩
  rfl
theorem vF : ∀ (m : Nat) (s : Scalar),dJ (m + 1) s = true→dJ m s = true
 | 0,s,_=>rfl
 | m + 1,s,h=>by
   simp only [dJ,List.any_eq_true] at h ⊢
   obtain ⟨x,hx,h⟩:=h
   exact ⟨x,hx,vF m x (by simpa only [dJ,List.any_eq_true] using h)⟩
theorem Fo{p q : Scalar}(h : dn (gi p q) = 0) : dn q = 0:=by
 obtain ⟨h1,h2⟩:=qb h
 have hd : ¬ dJ 12 (gi p q) = true:=fun hd=>by unfold dn at h; rw [if_pos hd] at h; omega
 have hq : ¬ dJ 12 q = true:=fun hq=>hd (by
  show (gi p q).args.any (dJ 11) = true
  exact List.any_eq_true.2 ⟨q,by simp [gi,Scalar.args],vF 11 q hq⟩)
 have hp : cI q = true:=by
  rw [fy,Bool.and_eq_true] at h1
  exact fD h1.2 q (by simp [gi,Scalar.args])
 have hl : (aK q).length≤64:=by
  rw [dA] at h2
  simp only [gi,Scalar.args,aD,List.length_append,List.length_cons,List.length_nil] at h2
  omega
 unfold dn
 rw [if_neg hq,(mg (aK q) 0 true (by omega)).2 (by omega),Bool.true_and,← pC,hp]; rfl
theorem GV{ds : List Dim}{ats : List Attr}{p q : Scalar}(h : (bo bK ds ats (gi p q)).2 = 0) : bo bK ds ats q = (1,0):=by
 have e : bo bK ds ats (gi p q) = match bB bK ds ats [p,q] with | .inl e=>(0,e) | .inr l=>bt 19 l:=rfl
 rw [e] at h
 simp only [bB] at h
 by_cases hp : (bo bK ds ats p).2 = 0
 ·by_cases hq : (bo bK ds ats q).2 = 0
  ·simp only [hp,hq,ne_eq,not_true_eq_false,if_false] at h
   unfold bt at h
   split at h
   ·split at h
    ·simp at h
    ·rename_i h1 h2
     have e2 : bP 19 (bo bK ds ats p).1 (bo bK ds ats q).1 0 = if (bo bK ds ats p).1 = 1∧(bo bK ds ats q).1 = 1 then 1 else 0:=by
      unfold bP
      simp
     have h3 : ¬ bP 19 (bo bK ds ats p).1 (bo bK ds ats q).1 0 = 0:=h2
     rw [e2] at h3
     by_cases hb : (bo bK ds ats p).1 = 1∧(bo bK ds ats q).1 = 1
     ·exact Prod.ext hb.2 hq
     ·rw [if_neg hb] at h3; exact absurd rfl h3
   ·simp at h
  ·simp only [hp,hq,ne_eq,not_true_eq_false,if_false,not_false_eq_true,if_true] at h
 ·simp only [hp,ne_eq,not_false_eq_true,if_true] at h
theorem Cd{a y z : Arr}{p q : Scalar}(h1 : dt a p = (some y,0))(h2 : dt a (gi p q) = (some z,0)) : dt y q = (some z,0)∧ca z = 0:=by
 obtain ⟨_,_,hc,rfl⟩:=nC h1
 obtain ⟨t1,t2,_,rfl⟩:=nC h2
 have hf:=vE t1
 have hfq:=Fo hf
 rw [qp hc hf] at t1
 have tq:=GV t1
 have hcy : bU a.dims a.attrs (jz a p a.cells) = 0:=ll _ hc
 have e:=qp hcy hfq
 rw [tq] at e
 refine ⟨?_,ll _ hc⟩
 rw [Al (a:=⟨a.dims,a.attrs,jz a p a.cells⟩) (s:=q) (by rw [e]) (by rw [e])]
 simp only [jz,List.filter_filter]
 congr 3
 congr 1
 funext c
 rw [GU,Bool.and_comm]
end Go.Proofs.YtpejdgkaapnekaaGreat
namespace Go.Proofs.YtpejdgkaapnekaaGreat
open Go Go.Abs
attribute [local irreducible] aa OkC ak ar al ax
set_option maxRecDepth 10000
theorem ed{P : Program}{f : FuncId}{args : List AV}{r : Option Arr×Int}{y : Arr}(h : CallA P f args [] (mm r) [])(e : r = (some y,0)) : CallA P f args [] (.tup [(true,[.d (aJ y.dims),.d (aF y.attrs),.d (bR y.cells)]),(false,[.d (.int .i64 0)])]) []:=by
 rw [e] at h; exact h
theorem iD{P : Program}{f : FuncId}{args : List AV}{r : Option Arr×Int}{e : Int}(h : CallA P f args [] (mm r) [])(he : r = (none,e)) : CallA P f args [] (.tup [(true,[.d .nil,.d .nil,.d .nil]),(false,[.d (.int .i64 e)])]) []:=by
 rw [he] at h; exact h
theorem c33(n : Int)(l : List (List D)) : CallA Tryz.prog 33 [.one (.d (.int .i64 n)),.one (.d (.sl 7 88 l))] [] (.agg [.d (.int .i64 n),.d (.str []),.d (.int .i64 0),.d (.int .i64 0),.d (.int .i64 0),.d (.str []),.d (.sl 7 88 l)]) []:=by
 refine enter af Tryz.func33 rfl (by decide +kernel) rfl fun hok w0 σ0 φ0 M=>?_
 clear hok
 repeat' (first|refine wG ?_)
 all_goals first
  | rfl
  | trace_state
theorem AE(a : Arr)(p q : Scalar) : CallA Tryz.prog 26 [gh a,.agg [.d (.int .i64 19),.d (.str []),.d (.int .i64 0),.d (.int .i64 0),.d (.int .i64 0),.d (.str []),.d (.sl 7 88 [gS p,gS q])]] [] (mm (dt a (gi p q))) []:=by
 have h:=c26 a (gi p q)
 have e : cB (gi p q) = .agg [.d (.int .i64 19),.d (.str []),.d (.int .i64 0),.d (.int .i64 0),.d (.int .i64 0),.d (.str []),.d (.sl 7 88 [gS p,gS q])]:=by
  show AV.agg [_,_,_,_,_,_,.d (.sl 7 88 [lh p,lh q])] = _
  rw [k5,k5]; rfl
 rw [e] at h
 exact h
theorem Ha(a : Arr)(lo hi : List Int)(xs ys : List (List D))(hx : xs = lo.map aO)(hy : ys = hi.map aO) : CallA Tryz.prog 23 [gh a,.one (.d (.sl 1 8 xs)),.one (.d (.sl 1 8 ys))] [] (mm (cj a lo hi)) []:=by
 subst hx; subst hy; exact c23 a lo hi
theorem AF(a : Arr)(h : ca a = 0) : CallA Tryz.prog 32 [gh a,gh a] [] (.one (.d (.bool true))) []:=by
 have h1:=c32 a a
 have e : r8 a a = true:=by
  unfold r8
  rw [(lj Cb).2 rfl,(lj AG).2 rfl,(lj AH).2 rfl,h]
  rfl
 rw [e] at h1
 exact h1
theorem Cc(a : Arr)(lo hi : List Int) : (∃ e,(e == 0) = false∧cj a lo hi = (none,e))∨∃ y,cj a lo hi = (some y,0):=by
 unfold cj
 split
 ·exact .inl ⟨_,rfl,rfl⟩
 split
 ·exact .inl ⟨_,rfl,rfl⟩
 split
 ·exact .inl ⟨_,rfl,rfl⟩
 unfold gf
 split
 ·exact .inl ⟨_,rfl,rfl⟩
 ·exact .inr ⟨_,rfl⟩
theorem nA(a : Arr)(s : Scalar) : (∃ e,(e == 0) = false∧dt a s = (none,e))∨∃ y,dt a s = (some y,0):=by
 unfold dt
 split
 ·rename_i h; exact .inl ⟨_,by simpa using h,rfl⟩
 split
 ·exact .inl ⟨_,rfl,rfl⟩
 unfold gf
 split
 ·exact .inl ⟨_,rfl,rfl⟩
 ·exact .inr ⟨_,rfl⟩
theorem nB{l : List Int}{n : Nat}{r : List (List D)}(hr : r = (l.take n).map aO)(h : l.length≤n) : r.take n = l.map aO:=by
 rw [hr,List.take_of_length_le h,List.take_of_length_le (by simpa using h)]
theorem Hb{l m : List Int}{f : Int→Int→Int}{n : Nat}{r : List (List D)}(h : r = ((l.zipWith f m).take n).map aO)(h1 : n < l.length)(h2 : n < m.length) : r.take n ++ [[.int .i64 (f (at_ l n) (at_ m n))]] = ((l.zipWith f m).take (n + 1)).map aO:=by
 have e:=FU aO (l.zipWith f m) h (by simp; omega)
 rw [lk h1 h2] at e
 exact e
theorem zo(a : Arr)(p q : Scalar) : (∃ e,(e == 0) = false∧dt a (gi p q) = (none,e))∨∃ z,dt a (gi p q) = (some z,0)∧ca z = 0∧∀ y,dt a p = (some y,0)→dt y q = (some z,0):=by
 rcases nA a (gi p q) with h | ⟨z,h⟩
 ·exact .inl h
 ·refine .inr ⟨z,h,?_,fun y h2=>(Cd h2 h).1⟩
  obtain ⟨_,_,hc,rfl⟩:=nC h
  exact ll _ hc
theorem Ce{a x : Arr}{lo hi : List Int}(p : Scalar)(h1 : cj a lo hi = (some x,0)) : (∃ e,(e == 0) = false∧dt a p = (none,e))∨∃ y r,dt a p = (some y,0)∧dt x p = (some r,0)∧cj y lo hi = (some r,0)∧ca r = 0:=by
 rcases nA a p with h | ⟨y,h⟩
 ·exact .inl h
 ·obtain ⟨r,h2,h3,h4⟩:=DY h1 h
  exact .inr ⟨y,r,h,h2,h3,h4⟩
theorem AI{a x : Arr}{lo hi : List Int}(lo2 hi2 : List Int)(h1 : cj a lo hi = (some x,0)) :
  ((((lo2.map aO).length : Nat) : Int) == (((lo.map aO).length : Nat) : Int)) = false ∨
  (((((lo2.map aO).length : Nat) : Int) == (((lo.map aO).length : Nat) : Int)) = true∧((((hi2.map aO).length : Nat) : Int) == (((lo.map aO).length : Nat) : Int)) = false) ∨
  (((((lo2.map aO).length : Nat) : Int) == (((lo.map aO).length : Nat) : Int)) = true∧((((hi2.map aO).length : Nat) : Int) == (((lo.map aO).length : Nat) : Int)) = true∧lo2.length = lo.length∧hi2.length = lo.length∧hi.length = lo.length∧∃ e4 : Int,(e4 == 0) = false∧(e4 != e4) = false∧cj x lo2 hi2 = (none,e4)∧cj a (iB lo lo2) (iC hi hi2) = (none,e4)) ∨
  (((((lo2.map aO).length : Nat) : Int) == (((lo.map aO).length : Nat) : Int)) = true∧((((hi2.map aO).length : Nat) : Int) == (((lo.map aO).length : Nat) : Int)) = true∧lo2.length = lo.length∧hi2.length = lo.length∧hi.length = lo.length∧∃ s,cj x lo2 hi2 = (some s,0)∧cj a (iB lo lo2) (iC hi hi2) = (some s,0)∧ca s = 0):=by
 by_cases hl3 : lo2.length = lo.length
 ·by_cases hl4 : hi2.length = lo.length
  ·refine .inr (.inr ?_)
   obtain ⟨_,hl1,hl2,_,_⟩:=pL h1
   rcases FV h1 hl3 hl4 with ⟨e4,he4,hs1,hs2⟩ | h
   ·exact .inl ⟨by simp [hl3],by simp [hl4],hl3,hl4,by omega,e4,by simpa using he4,by simp,hs1,hs2⟩
   ·exact .inr ⟨by simp [hl3],by simp [hl4],hl3,hl4,by omega,h⟩
  ·exact .inr (.inl ⟨by simp [hl3],by simp; omega⟩)
 ·exact .inl (by simp; omega)
set_option maxHeartbeats 8000000 in
theorem c6(a : Arr)(lo hi lo2 hi2 : List Int)(p q : Scalar) : CallA Tryz.prog 6 [gh a,.one (.d (az lo)),.one (.d (az hi)),.one (.d (az lo2)),.one (.d (az hi2)),cB p,cB q] [] (.one (.d (.bool true))) []:=by
 unfold gh
 refine enter af Tryz.func6 rfl (by decide +kernel) rfl fun hok w0 σ0 φ0 M=>?_
 clear hok
 by_cases h0 : (decide ((100 : Int) < (a.cells.length : Int)) || ca a != 0) = true
 ·repeat' (first|(refine h1H ?_; (refine h0H ?_; first|refine ae J J J J J J J J (c31 _ _) J ?_|refine ae J J J J J J J J (c19) J ?_))|refine wG ?_)
  all_goals rfl
 have hb0 : (decide ((100 : Int) < (a.cells.length : Int)) || ca a != 0) = false:=by simpa using h0
 have hz0 : ((0 : Int) != 0) = false:=rfl
 rcases Cc a lo hi with ⟨e1,he1,h1⟩ | ⟨x,h1⟩
 ·rcases nA a p with ⟨e2,he2,h2⟩ | ⟨y,h2⟩ <;> rcases zo a p q with ⟨e3,he3,h3⟩ | ⟨z,h3,hcz,hzq⟩
  repeat' (first|(refine h1H ?_; (refine h0H ?_; first|refine ae J J J J J J J J (c31 _ _) J ?_|refine ae J J J J J J J J (c19) J ?_|refine ae J J J J J J J J (AF _ hcz) J ?_|refine ae J J J J J J J J (iD (c23 a lo hi) h1) J ?_|refine ae J J J J J J J J (iD (c26 a p) h2) J ?_|refine aU 16 J J J J J J J J (ed (c26 a p) h2) J J J ?_|refine aU 16 J J J J J J J J (ed (c26 _ q) (hzq _ h2)) J J J ?_))|(refine h3H ?_; (refine h7H ?_; refine fz aq 14 J J J J J J ?_))|(refine h3H ?_; (refine h2H ?_; first|refine pM 60 [14] J J J J J J J J J (c33 19 [gS p,gS q]) J J ?_|refine d_l J J (bg J J J J J J (iD (AE a p q) h3) J) ?_|refine bT 16 J J J J J J J J (ed (AE a p q) h3) J J ?_))|refine wG ?_)
  all_goals first
   | rfl
   | trace_state
 have hlo : lo.length≤4:=by
  obtain ⟨hcc,hl1,_,_,_⟩:=pL h1
  have:=(okA hcc).dims.2.1
  omega
 have hL : lo2.length = lo.length→(iB lo lo2).length = lo.length:=fun h=>by simp [iB,h]
 have hH : hi2.length = lo.length→hi.length = lo.length→(iC hi hi2).length = lo.length:=fun h h2=>by simp [iC,h,h2]
 rcases Ce p h1 with ⟨e2,he2,h2⟩ | ⟨y,r,h2,hr1,hr2,hcr⟩ <;> rcases zo a p q with ⟨e3,he3,h3⟩ | ⟨z,h3,hcz,hzq⟩ <;> rcases AI lo2 hi2 h1 with hb1 | ⟨hb1,hb2⟩ | ⟨hb1,hb2,hl3,hl4,hl5,e4,he5,he6,hs1,hs2⟩ | ⟨hb1,hb2,hl3,hl4,hl5,s,hs1,hs2,hcs⟩
 repeat' (first|(refine h1H ?_; (refine h0H ?_; first|refine dW 60 [10,12] J J J J J J J J J (ed (Ha a (iB lo lo2) (iC hi hi2) _ _ (nB hp2 (by rw [hL hl3]; simpa using h)) (nB hp3 (by rw [hH hl4 hl5]; simpa using h))) hs2) J J J ?_|refine dW 60 [10,12] J J J J J J J J J (iD (Ha a (iB lo lo2) (iC hi hi2) _ _ (nB hp2 (by rw [hL hl3]; simpa using h)) (nB hp3 (by rw [hH hl4 hl5]; simpa using h))) hs2) J J J ?_|refine ae J J J J J J J J (c31 _ _) J ?_|refine ae J J J J J J J J (c19) J ?_|refine ae J J J J J J J J (AF _ hcr) J ?_|refine ae J J J J J J J J (AF _ hcz) J ?_|refine ae J J J J J J J J (AF _ hcs) J ?_|refine ae J J J J J J J J (iD (c26 a p) h2) J ?_|refine ae J J J J J J J J (iD (c23 _ lo2 hi2) hs1) J ?_|refine aU 16 J J J J J J J J (ed (c23 a lo hi) h1) J J J ?_|refine aU 16 J J J J J J J J (ed (c26 a p) h2) J J J ?_|refine aU 16 J J J J J J J J (ed (c26 _ p) hr1) J J J ?_|refine aU 16 J J J J J J J J (ed (c23 _ lo hi) hr2) J J J ?_|refine aU 16 J J J J J J J J (ed (c26 _ q) (hzq _ h2)) J J J ?_|refine aU 16 J J J J J J J J (ed (c23 _ lo2 hi2) hs1) J J J ?_))|(refine h3H ?_; (refine h7H ?_; refine fz aq 14 J J J J J J ?_))|(refine h3H ?_; (refine h2H ?_; first|refine pM 60 [14] J J J J J J J J J (c33 19 [gS p,gS q]) J J ?_|refine d_l J J (bg J J J J J J (iD (AE a p q) h3) J) ?_|refine bT 16 J J J J J J J J (ed (AE a p q) h3) J J ?_))|refine wG ?_|(refine h5H ?_; first|refine ai J (fun h=>?_) (fun h=>?_)|refine pJ 18 J (Imp.trans (kj (s:=27) (id:=10) (k:=1) (b:=8) J J J J) (kj (s:=28) (id:=12) (k:=1) (b:=8) J J J J)) [(1,_),(2,_),(3,_),(4,_),(7,_),(15,_)] (q6Q J J J J J J) (fun (bN : Bool×Bool) (u : Nat×List (List D)×List (List D))=>[(27,.one (.own (nmA bN) u.1)),(28,.one (.own (nmB bN) u.1)),(29,.one (.d (.int .i64 (u.1 : Int))))]) (fun (bN : Bool×Bool) (u : Nat×List (List D)×List (List D))=>[((nmA bN),.row 1 8 u.2.1),((nmB bN),.row 1 8 u.2.2),(0,.box [.d (aJ a.dims),.d (aF a.attrs),.d (bR a.cells)]),(3,.box [.d (aJ x.dims),.d (aF x.attrs),.d (bR x.cells)])]) (fun (u : Nat×List (List D)×List (List D))=>u.1≤lo.length∧u.2.1 = ((iB lo lo2).take u.1).map aO∧u.2.2 = ((iC hi hi2).take u.1).map aO) (fun (u : Nat×List (List D)×List (List D))=>lo.length - u.1) (0,[],[]) (q3Q J J J) wK (fun b y=>by obtain ⟨b1,b2⟩:=b; cases b1 <;> cases b2 <;> first|exact Imp.refl _|exact pK qN (by kernel_rfl)) ?_ (fun u ⟨hp1,hp2,hp3⟩=>?_))|(show Exists _; refine Exists.intro ((u.1 + 1,u.2.1.take u.1 ++ [[.int .i64 (max (at_ lo u.1) (at_ lo2 u.1))]],u.2.2.take u.1 ++ [[.int .i64 (min (at_ hi u.1) (at_ hi2 u.1))]])) (Exists.intro (true,true) ⟨?_,?_,wK,(q3Q J J J),(q6Q J J J J J J)⟩)))
 all_goals first
  | rfl
  | exact ⟨Nat.zero_le _,rfl,rfl⟩
  | (have hlt : u.1 < lo.length:=by simpa using h
     exact ⟨hlt,Hb hp2 hlt (by omega),Hb hp3 (by omega) (by omega)⟩)
  | (have hlt : u.1 < lo.length:=by simpa using h
     show lo.length - (u.1 + 1) < lo.length - u.1
     omega)
  | trace_state
end Go.Proofs.YtpejdgkaapnekaaGreat
namespace Go.Proofs.YtpejdgkaapnekaaGreat
open Go Go.Abs
open Go.ChangeShapes Go.WideShapes Go.ChangeAt Go.RowKit
set_option maxRecDepth 100000 in
theorem sh(H : Type)(en : TypeId×Value→H)(W : World)(base : Nat)(args : Array Value)(ds gs : List (DataW H))(before : List MemPlace)
  (hval : ∀ (j : Nat) t v,Tryz.f6.params[j]? = some t→args[j]? = some v→Value.okWide Tryz.prog W .any base t v)
  (hW : DataW.Whole en Tryz.prog Tryz.f6.params.toList Rows.algebraChoiceSpec.vars false W args.toList ds gs before) (hk : Rows.uptoSmall H (ds ++ gs) = true) :
  Calls Tryz.prog 6 args W fun e W'=>∃ v,e = .returned v∧Rows.algebraChoiceSpec.post en Tryz.prog Tryz.f6 false true false false W args v W':=by
 have hW':=hW
 obtain ⟨p,q,hA0,hV,rfl,hfz,hnd⟩:=hW
 have hA : DataW.TrodAll en Tryz.prog W 0 (fun _=>true) true Tryz.f6.params.toList args.toList ds p:=hA0
 rw [Tryz.params6] at hA hval
 obtain ⟨v0,vs0,d0,ds0,p0,q0,hargs,rfl,rfl,h0,r0⟩:=trodAll_cons hA
 obtain ⟨v1,vs1,d1,ds1,p1,q1,rfl,rfl,rfl,h1,r1⟩:=trodAll_cons r0
 obtain ⟨v2,vs2,d2,ds2,p2,q2,rfl,rfl,rfl,h2,r2⟩:=trodAll_cons r1
 obtain ⟨v3,vs3,d3,ds3,p3,q3,rfl,rfl,rfl,h3,r3⟩:=trodAll_cons r2
 obtain ⟨v4,vs4,d4,ds4,p4,q4,rfl,rfl,rfl,h4,r4⟩:=trodAll_cons r3
 obtain ⟨v5,vs5,d5,ds5,p5,q5,rfl,rfl,rfl,h5,r5⟩:=trodAll_cons r4
 obtain ⟨v6,vs6,d6,ds6,p6,q6,rfl,rfl,rfl,h6,r6⟩:=trodAll_cons r5
 obtain ⟨rfl,rfl,rfl⟩:=trodAll_nil r6
 obtain rfl : args = #[v0,v1,v2,v3,v4,v5,v6]:=by cases args; simp_all
 obtain ⟨rfl,rfl⟩:=trodVars_none hV
 obtain ⟨cs0,rfl⟩:=ou Tryz.underlying26 (hval 0 26 v0 rfl rfl)
 obtain ⟨s1,l1,c1,rfl⟩:=okWide_slice Tryz.underlying37 (hval 1 37 v1 rfl rfl)
 obtain ⟨s2,l2,c2,rfl⟩:=okWide_slice Tryz.underlying37 (hval 2 37 v2 rfl rfl)
 obtain ⟨s3,l3,c3,rfl⟩:=okWide_slice Tryz.underlying37 (hval 3 37 v3 rfl rfl)
 obtain ⟨s4,l4,c4,rfl⟩:=okWide_slice Tryz.underlying37 (hval 4 37 v4 rfl rfl)
 obtain ⟨cs5,rfl⟩:=ou Tryz.underlying31 (hval 5 31 v5 rfl rfl)
 obtain ⟨cs6,rfl⟩:=ou Tryz.underlying31 (hval 6 31 v6 rfl rfl)
 have hbk : (Rows.uptoBulk d0 + (Rows.uptoBulk d1 + (Rows.uptoBulk d2 + (Rows.uptoBulk d3 + (Rows.uptoBulk d4 + (Rows.uptoBulk d5 + (Rows.uptoBulk d6)))))))≤1048576:=by
  simpa [Rows.uptoSmall,Rows.uptoBulkAll] using hk
 obtain ⟨f0,h0⟩:=h0
 obtain ⟨f1,h1⟩:=h1
 obtain ⟨f2,h2⟩:=h2
 obtain ⟨f3,h3⟩:=h3
 obtain ⟨f4,h4⟩:=h4
 obtain ⟨f5,h5⟩:=h5
 obtain ⟨f6,h6⟩:=h6
 obtain ⟨a0,hl0,ha0⟩:=Ia (N:=1048571) (by omega) f0 _ _ h0 (by show Rows.uptoBulk d0≤_; omega)
 obtain ⟨a1,hl1,ha1⟩:=eS (f:=aO) (N:=1048575) (k:=1) (b:=8) (by omega) (by omega) (by omega) Tryz.underlying37 ir (fJ Tryz.underlying3) f1 _ _ h1 (by show Rows.uptoBulk d1≤_; omega)
 obtain ⟨a2,hl2,ha2⟩:=eS (f:=aO) (N:=1048575) (k:=1) (b:=8) (by omega) (by omega) (by omega) Tryz.underlying37 ir (fJ Tryz.underlying3) f2 _ _ h2 (by show Rows.uptoBulk d2≤_; omega)
 obtain ⟨a3,hl3,ha3⟩:=eS (f:=aO) (N:=1048575) (k:=1) (b:=8) (by omega) (by omega) (by omega) Tryz.underlying37 ir (fJ Tryz.underlying3) f3 _ _ h3 (by show Rows.uptoBulk d3≤_; omega)
 obtain ⟨a4,hl4,ha4⟩:=eS (f:=aO) (N:=1048575) (k:=1) (b:=8) (by omega) (by omega) (by omega) Tryz.underlying37 ir (fJ Tryz.underlying3) f4 _ _ h4 (by show Rows.uptoBulk d4≤_; omega)
 obtain ⟨a5,hl5,ha5⟩:=vj 1048576 (by omega) f5 _ _ h5 (by show Rows.uptoBulk d5≤_; omega)
 rw [k5] at ha5
 obtain ⟨a6,hl6,ha6⟩:=vj 1048576 (by omega) f6 _ _ h6 (by show Rows.uptoBulk d6≤_; omega)
 rw [k5] at ha6
 refine ((c6 a0 a1 a2 a3 a4 a5 a6).run W (sg W) (fun _=>none) [.agg cs0.toArray,.slice s1 l1 c1,.slice s2 l2 c2,.slice s3 l3 c3,.slice s4 l4 c4,.agg cs5.toArray,.agg cs6.toArray] (H8 _) ⟨⟨cs0,rfl,km ha0⟩,RepC.d ha1.1,RepC.d ha2.1,RepC.d ha3.1,RepC.d ha4.1,⟨cs5,rfl,km ha5⟩,⟨cs6,rfl,km ha6⟩,trivial⟩).mono fun e W' ⟨v,σ',φ',he,hret⟩=>?_
 subst he
 have hv : v = .bool true:=by
  have h2:=RepC.d_inv hret.rep
  cases h2; rfl
 subst hv
 have hsame : ∀ p∈p0 ++ (p1 ++ (p2 ++ (p3 ++ (p4 ++ (p5 ++ (p6 ++ [])))))),W.sameAt W' p:=fun p hp=>EK hret.kept (hW'.lt p (by simpa using hp))
 have hAk:=xP hA0 hsame
 exact ⟨_,rfl,_,_,_,[],_,[],hW',trodAll_mk1 (EL true),DataW.TrodAll.respare MN MO (by
   rw [Tryz.params6]
   intro t ht
   have ht' : t = 26∨t = 37∨t = 37∨t = 37∨t = 37∨t = 31∨t = 31:=by simpa using ht
   rcases ht' with rfl | rfl | rfl | rfl | rfl | rfl | rfl <;> exact few (by omega)) hAk (fun p hp=>by
    have:=hW'.lt p (by simpa using hp)
    simpa using this),rfl,Gl hret.kept _,fun h=>by cases h⟩
end Go.Proofs.YtpejdgkaapnekaaGreat
