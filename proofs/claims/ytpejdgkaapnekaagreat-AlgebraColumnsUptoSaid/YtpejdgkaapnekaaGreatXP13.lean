import Derived.Test.YtpejdgkaapnekaaGreatRows
import Derived.Deep.Slices
import Derived.Deep.DeepHandedRow
import Derived.ReadAgain
import Derived.MapPlaces
import Derived.WalkKit
import Derived.ProofKit
import Derived.OpenShut
import Derived.JoinedCond
import Derived.Test.YtpejdgkaapnekaaGreatXP11
import Derived.Test.YtpejdgkaapnekaaGreatXP12
set_option linter.unusedVariables false
set_option linter.unusedSimpArgs false
set_option maxHeartbeats 1000000
namespace Go.Proofs.YtpejdgkaapnekaaGreat
open Go Go.Abs
def ltC(x y : Cell) : Prop:=bn x.at' y.at' < 0
def leC(x y : Cell) : Bool:=decide (bn x.at' y.at'≤0)
def bZ(x y : Cell) : Prop:=x.at'≠y.at'
def bz(cs : List Cell) : List Cell:=cs.mergeSort leC
theorem cU(cs : List Cell) : (bz cs).Perm cs:=List.mergeSort_perm cs leC
theorem ny{x y z : Cell}(h1 : ltC x y)(h2 : ltC y z) : ltC x z:=by
 unfold ltC at *
 have h:=gE x.at' y.at' z.at' (by omega) (by omega)
 have:=h.2
 by_cases h0 : bn x.at' z.at' = 0
 ·have:=this h0; omega
 ·omega
theorem DC{x : Cell}(h : ltC x x) : False:=by
 unfold ltC at h; rw [ni] at h; omega
theorem HB{x y : Cell}(h : ltC x y) : bZ x y:=fun e=>by
 unfold ltC at h; rw [e,ni] at h; omega
theorem lX{x y : Cell}(h : ¬ bn y.at' x.at' < 0)(hd : bZ x y) : ltC x y:=by
 have h1:=il x.at' y.at'
 unfold ltC
 by_cases h0 : bn x.at' y.at' = 0
 ·exact absurd (BZ _ _ h0) hd
 ·omega
theorem DD : ∀ {x y : Cell},bZ x y→bZ y x:=fun h e=>h e.symm
theorem jl : ∀ {l m : List Cell},l.Perm m→l.Pairwise ltC→m.Pairwise ltC→l = m
 | [],m,hp,_,_=>(List.nil_perm.1 hp).symm ▸ rfl
 | x::l,[],hp,_,_=>by have:=hp.length_eq; simp at this
 | x::l,y::m,hp,h1,h2=>by
   rw [List.pairwise_cons] at h1 h2
   have hxy : x = y:=by
    have hx : x∈y::m:=hp.mem_iff.1 List.mem_cons_self
    have hy : y∈x::l:=hp.mem_iff.2 List.mem_cons_self
    rcases List.mem_cons.1 hx with e | hx
    ·exact e
    ·rcases List.mem_cons.1 hy with e | hy
     ·exact e.symm
     ·exact (DC (ny (h1.1 y hy) (h2.1 x hx))).elim
   subst hxy
   rw [jl (hp.cons_inv) h1.2 h2.2]
theorem cu{l : List Cell}(h : l.Pairwise ltC) : l.Pairwise bZ:=h.imp HB
theorem xm{l m : List Cell}(hp : l.Perm m)(h : m.Pairwise bZ) : l.Pairwise bZ:=(hp.pairwise_iff (fun h=>DD h)).2 h
theorem ek{cs : List Cell}(h : cs.Pairwise bZ) : (bz cs).Pairwise ltC:=by
 have h1 : (bz cs).Pairwise fun a b=>leC a b = true:=List.pairwise_mergeSort (le:=leC) (fun a b c h1 h2=>by
  simp only [leC,decide_eq_true_eq] at *
  exact (gE _ _ _ h1 h2).1) (fun a b=>by
  have:=il a.at' b.at'
  simp only [leC,Bool.or_eq_true,decide_eq_true_eq]; omega) cs
 have h2:=xm (cU cs) h
 refine (h1.and h2).imp fun {a b} h=>?_
 have hl : bn a.at' b.at'≤0:=by simpa [leC] using h.1
 refine lX ?_ h.2
 have:=il a.at' b.at'
 omega
theorem E6{cs : List Cell}(h : cs.Pairwise bZ) : ∀ l : List Cell,l.Perm cs→l.Pairwise (fun x y=>¬ bn y.at' x.at' < 0)→l = bz cs:=fun l hp hs =>
 jl (hp.trans (cU cs).symm) ((hs.and (xm hp h)).imp fun {a b} h=>lX h.1 h.2) (ek h)
theorem pr{cs : List Cell}(h : cs.Pairwise ltC) : bz cs = cs:=jl (cU cs) (ek (cu h)) h
theorem ij(cs : List Cell) : (bz cs).length = cs.length:=(cU cs).length_eq
theorem zB{cs ds : List Cell}(p : Cell→Bool)(h : cs.Pairwise bZ)(hd : ds.Pairwise ltC)(he : (cs.filter p).Perm ds) : (bz cs).filter p = ds :=
 jl (((cU cs).filter p).trans he) ((ek h).filter p) hd
theorem qO{ds : List Dim}{ats : List Attr} : ∀ {cs : List Cell} {p : List Int},c8 ds ats (some p) cs = 0→(∀ c∈cs,bn p c.at' < 0)∧cs.Pairwise ltC∧∀ c∈cs,dn ds ats c.at' c.vals = 0
 | [],p,_=>⟨by simp,.nil,by simp⟩
 | c::r,p,h=>by
   simp only [c8] at h
   split at h
   ·rename_i h1; exact absurd h h1
   split at h
   ·omega
   split at h
   ·omega
   rename_i h1 h2 h3
   have hlt : bn p c.at' < 0:=by omega
   obtain ⟨i1,i2,i3⟩:=qO h
   refine ⟨fun x hx=>?_,List.pairwise_cons.2 ⟨i1,i2⟩,fun x hx=>?_⟩
   ·rcases List.mem_cons.1 hx with rfl | hx
    ·exact hlt
    ·exact ny (x:=⟨p,[]⟩) (y:=c) hlt (i1 x hx)
   ·rcases List.mem_cons.1 hx with rfl | hx
    ·simpa using h1
    ·exact i3 x hx
theorem zC{ds : List Dim}{ats : List Attr}{cs : List Cell}(h : c8 ds ats none cs = 0) : cs.Pairwise ltC∧∀ c∈cs,dn ds ats c.at' c.vals = 0:=by
 cases cs with
 | nil=>exact ⟨.nil,by simp⟩
 | cons c r =>
   simp only [c8] at h
   split at h
   ·rename_i h1; exact absurd h h1
   rename_i h1
   obtain ⟨i1,i2,i3⟩:=qO h
   refine ⟨List.pairwise_cons.2 ⟨i1,i2⟩,fun x hx=>?_⟩
   rcases List.mem_cons.1 hx with rfl | hx
   ·simpa using h1
   ·exact i3 x hx
structure OkA (ds : List Dim) (ats : List Attr) (cs : List Cell) : Prop where
 sch : c9 ds ats = 0
 few : cs.length≤4096
 srt : cs.Pairwise ltC
 cel : ∀ c∈cs,dn ds ats c.at' c.vals = 0
theorem okA{ds : List Dim}{ats : List Attr}{cs : List Cell}(h : bI ds ats cs = 0) : OkA ds ats cs:=by
 unfold bI at h
 split at h
 ·rename_i h1; exact absurd h h1
 split at h
 ·omega
 rename_i h1 h2
 obtain ⟨h3,h4⟩:=zC h
 exact ⟨by simpa using h1,by omega,h3,h4⟩
theorem uC{ds : List Dim}{ats : List Attr} : ∀ {cs : List Cell} {p : Option (List Int)},(∀ q,p = some q→∀ c∈cs,bn q c.at' < 0)→cs.Pairwise ltC→(∀ c∈cs,dn ds ats c.at' c.vals = 0)→c8 ds ats p cs = 0
 | [],p,_,_,_=>by cases p <;> rfl
 | c::r,p,h1,h2,h3=>by
   rw [List.pairwise_cons] at h2
   have h4:=h3 c List.mem_cons_self
   have ih : c8 ds ats (some c.at') r = 0:=uC (fun q e x hx=>by cases e; exact h2.1 x hx) h2.2 (fun x hx=>h3 x (List.mem_cons_of_mem _ hx))
   cases p with
   | none=>simp only [c8,h4,ne_eq,not_true_eq_false,if_false,ih]
   | some q =>
     have h5:=h1 q rfl c List.mem_cons_self
     simp only [c8,h4,ne_eq,not_true_eq_false,if_false,ih]
     rw [if_neg (by omega),if_neg (by omega)]
theorem FG{ds : List Dim}{ats : List Attr}{cs : List Cell}(h : OkA ds ats cs) : bI ds ats cs = 0:=by
 unfold bI
 rw [if_neg (by simp [h.sch]),if_neg (by have:=h.few; omega)]
 exact uC (fun q e=>by cases e) h.srt h.cel
theorem cH{ds : List Dim}{ats : List Attr}(h : c9 ds ats = 0) : dB ds = 0∧1≤ats.length∧ats.length≤6∧fu (ds.map Dim.name) ats = 0:=by
 unfold c9 at h
 split at h
 ·rename_i h1; exact absurd h h1
 split at h
 ·omega
 rename_i h1 h2
 exact ⟨by simpa using h1,by omega,by omega,h⟩
theorem xn : ∀ {ds : List Dim} {met : List (List UInt8)},gg met ds = 0→(∀ d∈ds,eT d.lo d.hi = true∧bP d.name = true∧d.name ∉ met)∧(ds.map Dim.name).Nodup
 | [],met,_=>⟨by simp,by simp⟩
 | d::r,met,h=>by
   simp only [gg] at h
   split at h
   ·omega
   split at h
   ·omega
   rename_i h1 h2
   obtain ⟨i1,i2⟩:=xn h
   simp only [Bool.or_eq_true,Bool.not_eq_true',not_or,Bool.not_eq_false,Bool.not_eq_true,List.contains_eq_mem,decide_eq_true_eq,decide_eq_false_iff_not] at h1
   refine ⟨fun x hx=>?_,?_⟩
   ·rcases List.mem_cons.1 hx with rfl | hx
    ·exact ⟨by simpa using h2,h1.1,h1.2⟩
    ·obtain ⟨j1,j2,j3⟩:=i1 x hx
     exact ⟨j1,j2,fun hm=>j3 (List.mem_append.2 (.inl hm))⟩
   ·rw [List.map_cons,List.nodup_cons]
    refine ⟨fun hm=>?_,i2⟩
    obtain ⟨x,hx,he⟩:=List.mem_map.1 hm
    exact (i1 x hx).2.2 (by rw [he]; simp)
theorem tD{ds : List Dim}(h : dB ds = 0) : 1≤ds.length∧ds.length≤4∧(∀ d∈ds,eT d.lo d.hi = true∧bP d.name = true)∧(ds.map Dim.name).Nodup:=by
 unfold dB at h
 split at h
 ·omega
 rename_i h1
 obtain ⟨h2,h3⟩:=xn h
 exact ⟨by omega,by omega,fun d hd=>⟨(h2 d hd).1,(h2 d hd).2.1⟩,h3⟩
theorem boundsF_ok{lo hi : Int} : eT lo hi = true↔-1073741824≤lo∧lo≤1073741824∧lo≤hi∧hi≤1073741825:=by
 simp only [eT,Bool.and_eq_true,decide_eq_true_eq]; omega
theorem cellF_ok{ds : List Dim}{ats : List Attr}{at' : List Int}{vs : List Val} : dn ds ats at' vs = 0↔at'.length = ds.length∧vs.length = ats.length∧eA ds at' = true∧jY ats vs = 0:=by
 unfold dn
 constructor
 ·intro h
  split at h
  ·omega
  rename_i h1
  have e1 : at'.length = ds.length:=by omega
  split at h
  ·omega
  rename_i h2
  refine ⟨e1,by omega,?_,h⟩
  simpa [ofF,e1] using h2
 ·rintro ⟨h1,h2,h3,h4⟩
  rw [if_neg (by omega),if_neg (by simp [ofF,h1,h3])]
  exact h4
theorem dG : ∀ {ds : List Dim} {xs : List Int},xs.length = ds.length→(eA ds xs = true↔∀ i,i < ds.length→(at_ ds i).lo≤at_ xs i∧at_ xs i≤hJ (at_ ds i).hi)
 | [],[],_=>by simp [eA]
 | d::ds,x::xs,h=>by
   have ih:=dG (ds:=ds) (xs:=xs) (by simpa using h)
   simp only [eA,Bool.and_eq_true,decide_eq_true_eq,ih]
   constructor
   ·rintro ⟨⟨h1,h2⟩,h3⟩ i hi
    cases i with
    | zero=>exact ⟨h1,h2⟩
    | succ i=>exact h3 i (by simpa using hi)
   ·intro h4
    exact ⟨⟨(h4 0 (by simp)).1,(h4 0 (by simp)).2⟩,fun i hi=>h4 (i + 1) (by simpa using hi)⟩
 | [],_::_,h=>by simp at h
 | _::_,[],h=>by simp at h
end Go.Proofs.YtpejdgkaapnekaaGreat
namespace Go.Proofs.YtpejdgkaapnekaaGreat
open Go Go.Abs
attribute [local irreducible] ae OkC ar aA av aN
set_option maxRecDepth 10000
theorem xh{s : List UInt8} : bP s = true↔(1≤s.length∧s.length≤12)∧iS (at_ s 0).toNat = true∧∀ j,j < s.length→iD (at_ s j).toNat = true:=by
 simp only [bP,Bool.and_eq_true,decide_eq_true_eq,List.all_eq_true,and_assoc]
 refine and_congr_right fun _=>and_congr_right fun _=>and_congr_right fun _=>⟨fun h j hj=>h _ (bT hj),fun h x hx=>?_⟩
 obtain ⟨j,hj⟩:=List.getElem?_of_mem hx
 have hl:=(List.getElem?_eq_some_iff.1 hj).1
 rw [gH hl] at hj
 rw [← Option.some.inj hj]; exact h j hl
theorem qH(s : List UInt8) : CallA Tryz.prog 142 [.one (.d (.str s))] [] (.one (.d (.bool (bP s)))) []:=by
 refine enter af Tryz.func142 rfl (by decide +kernel) rfl fun hok w0 σ0 φ0 M=>?_
 have h1:=hok.1.str; clear hok
 repeat' (first|refine wG ?_|(refine h1H ?_; (refine h5H ?_; refine aJ J J J J (fun h=>?_) (fun h=>?_)))|(refine h4H ?_; first|refine ah J (fun h=>?_) (fun h=>?_)|refine aH 4 J [(15,_),(16,_)] (q2Q J J) (fun (k : Nat)=>[(17,.one (.d (.int .i64 k)))]) (fun (k : Nat)=>k≤s.length∧1≤s.length∧s.length≤12∧(0 < k→iS (at_ s 0).toNat = true)∧(∀ j,j < k→iD (at_ s j).toNat = true)) (fun (k : Nat)=>s.length - k) 0 (q1Q J) ?_ (fun k ⟨hk,hq,hq2,hf,hs⟩=>?_))|(show Exists _; refine Exists.intro (k + 1) ⟨?_,?_,wK,(q1Q J),(q2Q J J)⟩))
 all_goals (try simp only [a0A,a1A,a2A,Bool.not_eq_false',a3A,a4A,a5A,a7A,a8A,a9A,Hl,K8,zl] at *)
 all_goals first
  | omega
  | (refine ⟨by omega,by omega,by omega,?_,?_⟩
     ·intro hk0
      by_cases h0 : 0 < k
      ·exact hf h0
      ·have hk0' : k = 0:=by omega
       subst hk0'
       simp only [iS,Bool.and_eq_true,decide_eq_true_eq]; omega
     ·intro j hj
      rcases Nat.lt_or_ge j k with hjk | hjk
      ·exact hs j hjk
      ·have hje : j = k:=by omega
       subst hje
       simp only [iD,iS,Bool.or_eq_true,Bool.and_eq_true,decide_eq_true_eq]; omega)
  | (congr 3; symm; rw [Bool.eq_false_iff,ne_eq,xh]; rintro ⟨hlen,h0,hj⟩
     first
      | omega
      | (have hjk:=hj k (by omega)
         simp only [iD,iS,Bool.or_eq_true,Bool.and_eq_true,decide_eq_true_eq] at hjk h0
         by_cases hk0 : k = 0
         ·subst hk0; omega
         ·omega))
  | (congr 3; symm; rw [xh]; exact ⟨⟨hq,hq2⟩,hf (by omega),fun j hj=>hs j (by omega)⟩)
  | (refine ⟨by omega,by omega,by omega,fun h=>by omega,fun j hj=>by omega⟩)
theorem Nx(ds : List Dim)(hne : dB ds≠0) : CallA Tryz.prog 190 [.one (.d (aF ds)),.one (.mapr 1000000)] [(1000000,.map false false (dj []))] (.one (.d (.int .i64 (dB ds)))) []:=by
 refine enter af Tryz.func190 rfl (by decide +kernel) rfl fun hok w0 σ0 φ0 M=>?_
 have h1:=hok.1.sl.1; clear hok; simp only [List.length_map] at h1
 repeat' (first|(refine h1H ?_; (refine h0H ?_; refine aa J J J J J J J J (qH _) J ?_))|refine wG ?_|(refine h1H ?_; (refine h5H ?_; refine aJ J J J J (fun h=>?_) (fun h=>?_)))|(refine h4H ?_; first|refine ah J (fun h=>?_) (fun h=>?_)|refine ca 4 J [(1,_),(15,_),(16,_)] (q3Q J J J) (fun (p : Nat×List (List UInt8))=>[(17,.one (.d (.int .i64 (p.1 : Int))))]) (fun (p : Nat×List (List UInt8))=>[(1000000,.map false false (dj p.2))]) (fun (p : Nat×List (List UInt8))=>p.1≤ds.length∧(1 : Int)≤ds.length∧(ds.length : Int)≤4∧dB ds = gg p.2 (ds.drop p.1)) (fun (p : Nat×List (List UInt8))=>ds.length - p.1) (0,[]) (q1Q J) wK ?_ (fun p ⟨hk,hq,hq2,hs⟩=>?_))|(show Exists _; refine Exists.intro ((p.1 + 1,p.2 ++ [(at_ ds p.1).name])) ⟨?_,?_,wK,(q1Q J),(q3Q J J J)⟩))
 all_goals (try (((simp_all [dB,gg,eT,ao,List.drop_eq_nil_of_le]) <;> exact wL); done))
theorem Ny(ds : List Dim)(he : dB ds = 0) : CallA Tryz.prog 190 [.one (.d (aF ds)),.one (.mapr 1000000)] [(1000000,.map false false (dj []))] (.one (.d (.int .i64 0))) [(1000000,.map false false (dj (ds.map Dim.name)))]:=by
 refine enter af Tryz.func190 rfl (by decide +kernel) rfl fun hok w0 σ0 φ0 M=>?_
 have h1:=hok.1.sl.1; clear hok; simp only [List.length_map] at h1
 repeat' (first|(refine h1H ?_; (refine h0H ?_; refine aa J J J J J J J J (qH _) J ?_))|refine wG ?_|(refine h1H ?_; (refine h5H ?_; refine aJ J J J J (fun h=>?_) (fun h=>?_)))|(refine h4H ?_; first|refine ah J (fun h=>?_) (fun h=>?_)|refine ca 4 J [(1,_),(15,_),(16,_)] (q3Q J J J) (fun (p : Nat×List (List UInt8))=>[(17,.one (.d (.int .i64 (p.1 : Int))))]) (fun (p : Nat×List (List UInt8))=>[(1000000,.map false false (dj p.2))]) (fun (p : Nat×List (List UInt8))=>p.1≤ds.length∧gg p.2 (ds.drop p.1) = 0∧p.2 = (ds.take p.1).map Dim.name) (fun (p : Nat×List (List UInt8))=>ds.length - p.1) (0,[]) (q1Q J) wK ?_ (fun p ⟨hk,hs,hm⟩=>?_))|(show Exists _; refine Exists.intro ((p.1 + 1,p.2 ++ [(at_ ds p.1).name])) ⟨?_,?_,wK,(q1Q J),(q3Q J J J)⟩))
 all_goals (try (((simp_all [dB,gg,eT,ez,ao,List.drop_eq_nil_of_le]) <;> exact wL); done))
 ·have hl : ds.length≤p.1:=by simpa using h
  have hp : p.2 = ds.map Dim.name:=by rw [hm,List.take_of_length_le hl]
  rw [hp]
  exact jF (.inl rfl) rfl rfl rfl (q1Q rfl)
theorem NS(ds : List Dim)(ats : List Attr)(hne : dB ds≠0) : CallA Tryz.prog 108 [.one (.d (aF ds)),.one (.d (ax ats))] [] (.one (.d (.int .i64 (c9 ds ats)))) []:=by
 refine enter af Tryz.func108 rfl (by decide +kernel) rfl fun hok w0 σ0 φ0 M=>?_
 clear hok
 repeat' (first|refine wG ?_)
 refine ey 16 [(1000000,0)] (rav':=.one (.d (.int .i64 (dB ds)))) (Nx ds hne) rfl rfl rfl rfl rfl rfl ⟨⟨0,rfl,rfl⟩,trivial⟩ trivial rfl rfl rfl rfl ?_
 repeat' (first|refine wG ?_|(refine h1H ?_; (refine h5H ?_; refine aJ J J J J (fun h=>?_) (fun h=>?_)))|(refine h4H ?_; refine ah J (fun h=>?_) (fun h=>?_)))
 all_goals (try (((simp_all [c9,ao,List.drop_eq_nil_of_le]) <;> exact wL); done))
theorem NT(ds : List Dim)(ats : List Attr)(he : dB ds = 0) : CallA Tryz.prog 108 [.one (.d (aF ds)),.one (.d (ax ats))] [] (.one (.d (.int .i64 (c9 ds ats)))) []:=by
 refine enter af Tryz.func108 rfl (by decide +kernel) rfl fun hok w0 σ0 φ0 M=>?_
 have h1:=hok.2.1.sl.1; clear hok; simp only [List.length_map] at h1
 repeat' (first|refine wG ?_)
 refine ey 16 [(1000000,0)] (rav':=.one (.d (.int .i64 0))) (Ny ds he) rfl rfl rfl rfl rfl rfl ⟨⟨0,rfl,rfl⟩,trivial⟩ ⟨fun i e h1 h2=>?_,trivial⟩ rfl rfl rfl rfl ?_
 ·have h1' : some 0 = some i:=h1
  cases h1'
  have h2' : some (AObj.map false false (dj [])) = some e:=h2
  cases h2'
  exact ⟨rfl,rfl⟩
 repeat' (first|(refine h1H ?_; (refine h0H ?_; refine aa J J J J J J J J (qH _) J ?_))|refine wG ?_|(refine h1H ?_; (refine h5H ?_; refine aJ J J J J (fun h=>?_) (fun h=>?_)))|(refine h4H ?_; first|refine ah J (fun h=>?_) (fun h=>?_)|refine ca 8 J [(5,_),(24,_),(25,_)] (q3Q J J J) (fun (p : Nat×List (List UInt8))=>[(26,.one (.d (.int .i64 (p.1 : Int))))]) (fun (p : Nat×List (List UInt8))=>[(0,.map false false (dj p.2))]) (fun (p : Nat×List (List UInt8))=>p.1≤ats.length∧dB ds = 0∧(1 : Int)≤ats.length∧(ats.length : Int)≤6∧c9 ds ats = fu p.2 (ats.drop p.1)) (fun (p : Nat×List (List UInt8))=>ats.length - p.1) (0,ds.map Dim.name) (q1Q J) wK ?_ (fun p ⟨hk,hd,hq,hq2,hs⟩=>?_))|(show Exists _; refine Exists.intro ((p.1 + 1,p.2 ++ [(at_ ats p.1).name])) ⟨?_,?_,wK,(q1Q J),(q3Q J J J)⟩))
 all_goals (try (((simp_all [c9,fu,ao,List.drop_eq_nil_of_le]) <;> exact wL); done))
theorem P9(ds : List Dim)(ats : List Attr) : CallA Tryz.prog 108 [.one (.d (aF ds)),.one (.d (ax ats))] [] (.one (.d (.int .i64 (c9 ds ats)))) []:=by
 by_cases h : dB ds = 0
 ·exact NT ds ats h
 ·exact NS ds ats h
theorem c59(ds : List Dim)(ats : List Attr)(cs : List Cell) : CallA Tryz.prog 59 [.agg [.d (aF ds),.d (ax ats),.d (aO cs)]] [] (.one (.d (.int .i64 (bI ds ats cs)))) []:=by
 refine enter af Tryz.func59 rfl (by decide +kernel) rfl fun hok w0 σ0 φ0 M=>?_
 have h1:=(OkD.sl (hok.1 (.d (aO cs)) (by simp))).1; clear hok; simp only [List.length_map] at h1
 repeat' (first|(refine h1H ?_; (refine h0H ?_; first|refine aa J J J J J J J J (P9 _ _) J ?_|refine aa J J J J J J J J (Pe _ _ _ _) J ?_))|(refine h3H ?_; (refine h2H ?_; refine d_l J J (aB J J J J J J (c35 _ _) J) ?_))|refine wG ?_|(refine h4H ?_; first|refine ah J (fun h=>?_) (fun h=>?_)|refine aH 7 J [(1,_),(20,_),(21,_)] (q3Q J J J) (fun (k : Nat)=>[(22,.one (.d (.int .i64 k)))]) (fun (k : Nat)=>k≤cs.length∧c9 ds ats = 0∧(cs.length : Int)≤4096∧bI ds ats cs = c8 ds ats (pv cs k) (cs.drop k)) (fun (k : Nat)=>cs.length - k) 0 (q1Q J) ?_ (fun k ⟨hk,hsc,hq,hs⟩=>?_))|(show Exists _; refine Exists.intro (k + 1) ⟨?_,?_,wK,(q1Q J),(q3Q J J J)⟩))
 all_goals (try (((simp_all [bI,c8,rQ,yS,rR,yT,ao,List.drop_eq_nil_of_le]) <;> exact wL); done))
 ·rename_i hlt
  have hk' : k < cs.length:=by simpa using hlt
  have hb : dn ds ats (at_ cs k).at' (at_ cs k).vals≠0:=by simpa using h
  rw [hs,ao hk',sA hb]; simp
 ·rename_i hlt hc
  have hk' : k < cs.length:=by simpa using hlt
  have hk0 : k = 0:=by simpa using h
  have hb : dn ds ats (at_ cs k).at' (at_ cs k).vals = 0:=by simpa using hc
  refine ⟨by omega,hsc,hq,?_⟩
  rw [hs,ao hk',rR]
  subst hk0
  simp [c8,hb,rQ]
def ff{α : Type}(p : α→α→Bool) : List α→List α→Bool
 | x::a,y::b=>if p x y then ff p a b else false
 | _,_=>true
def dP{α : Type}(p : α→α→Bool)(a b : List α) : Bool:=if (a.length : Int)≠b.length then false else ff p a b
theorem Sm(a b : List Int) : CallA Tryz.prog 188 [.one (.d (aM a)),.one (.d (aM b))] [] (.one (.d (.bool (dP (fun x y=>x == y) a b)))) []:=by
 refine enter af Tryz.func188 rfl (by decide +kernel) rfl fun hok w0 σ0 φ0 M=>?_
 have h1:=hok.1.sl; have h2:=hok.2.1.sl; clear hok; simp only [List.length_map] at h1 h2; replace h1:=h1.1; replace h2:=h2.1
 repeat' (first|refine wG ?_|(refine h4H ?_; first|refine ah J (fun h=>?_) (fun h=>?_)|refine aH 4 J [(0,_),(1,_)] (q2Q J J) (fun (k : Nat)=>[(5,.one (.d (.int .i64 k)))]) (fun (k : Nat)=>k≤a.length∧a.length = b.length∧dP (fun x y=>x == y) a b = ff (fun x y=>x == y) (a.drop k) (b.drop k)) (fun (k : Nat)=>a.length - k) 0 (q1Q J) ?_ (fun k ⟨hk,hq,hs⟩=>?_))|(show Exists _; refine Exists.intro (k + 1) ⟨?_,?_,wK,(q1Q J),(q2Q J J)⟩))
 all_goals (try (((simp_all [dP,ff,ao,List.drop_eq_nil_of_le]) <;> exact wL); done))
def bB(x y : Val) : Bool:=cL (ab x) (ab y)
theorem Sn(a b : List Val) : CallA Tryz.prog 189 [.one (.d (aG a)),.one (.d (aG b))] [] (.one (.d (.bool (dP bB a b)))) []:=by
 refine enter af Tryz.func189 rfl (by decide +kernel) rfl fun hok w0 σ0 φ0 M=>?_
 have h1:=hok.1.sl; have h2:=hok.2.1.sl; clear hok; simp only [List.length_map] at h1 h2; replace h1:=h1.1; replace h2:=h2.1
 repeat' (first|refine wG ?_|(refine h4H ?_; first|refine ah J (fun h=>?_) (fun h=>?_)|refine aH 4 J [(0,_),(1,_)] (q2Q J J) (fun (k : Nat)=>[(5,.one (.d (.int .i64 k)))]) (fun (k : Nat)=>k≤a.length∧a.length = b.length∧dP bB a b = ff bB (a.drop k) (b.drop k)) (fun (k : Nat)=>a.length - k) 0 (q1Q J) ?_ (fun k ⟨hk,hq,hs⟩=>?_))|(show Exists _; refine Exists.intro (k + 1) ⟨?_,?_,wK,(q1Q J),(q2Q J J)⟩))
 all_goals (try (((simp_all [dP,ff,bB,ab,cL,eqD,ao,List.drop_eq_nil_of_le]) <;> exact wL); done))
def p9(x y : Dim) : Bool:=cL (cm x) (cm y)
theorem Sp(a b : List Dim) : CallA Tryz.prog 104 [.one (.d (aF a)),.one (.d (aF b))] [] (.one (.d (.bool (dP p9 a b)))) []:=by
 refine enter af Tryz.func104 rfl (by decide +kernel) rfl fun hok w0 σ0 φ0 M=>?_
 have h1:=hok.1.sl; have h2:=hok.2.1.sl; clear hok; simp only [List.length_map] at h1 h2; replace h1:=h1.1; replace h2:=h2.1
 repeat' (first|refine wG ?_|(refine h4H ?_; first|refine ah J (fun h=>?_) (fun h=>?_)|refine aH 4 J [(0,_),(1,_)] (q2Q J J) (fun (k : Nat)=>[(5,.one (.d (.int .i64 k)))]) (fun (k : Nat)=>k≤a.length∧a.length = b.length∧dP p9 a b = ff p9 (a.drop k) (b.drop k)) (fun (k : Nat)=>a.length - k) 0 (q1Q J) ?_ (fun k ⟨hk,hq,hs⟩=>?_))|(show Exists _; refine Exists.intro (k + 1) ⟨?_,?_,wK,(q1Q J),(q2Q J J)⟩))
 all_goals (try (((simp_all [dP,ff,p9,cm,cL,eqD,ao,List.drop_eq_nil_of_le]) <;> exact wL); done))
def na(x y : Attr) : Bool:=cL (aX x) (aX y)
theorem Sq(a b : List Attr) : CallA Tryz.prog 105 [.one (.d (ax a)),.one (.d (ax b))] [] (.one (.d (.bool (dP na a b)))) []:=by
 refine enter af Tryz.func105 rfl (by decide +kernel) rfl fun hok w0 σ0 φ0 M=>?_
 have h1:=hok.1.sl; have h2:=hok.2.1.sl; clear hok; simp only [List.length_map] at h1 h2; replace h1:=h1.1; replace h2:=h2.1
 repeat' (first|refine wG ?_|(refine h4H ?_; first|refine ah J (fun h=>?_) (fun h=>?_)|refine aH 4 J [(0,_),(1,_)] (q2Q J J) (fun (k : Nat)=>[(5,.one (.d (.int .i64 k)))]) (fun (k : Nat)=>k≤a.length∧a.length = b.length∧dP na a b = ff na (a.drop k) (b.drop k)) (fun (k : Nat)=>a.length - k) 0 (q1Q J) ?_ (fun k ⟨hk,hq,hs⟩=>?_))|(show Exists _; refine Exists.intro (k + 1) ⟨?_,?_,wK,(q1Q J),(q2Q J J)⟩))
 all_goals (try (((simp_all [dP,ff,na,aX,cL,eqD,ao,List.drop_eq_nil_of_le]) <;> exact wL); done))
def nb(x y : Cell) : Bool:=dP (fun x y=>x == y) x.at' y.at' && dP bB x.vals y.vals
theorem Sr(a b : List Cell) : CallA Tryz.prog 106 [.one (.d (aO a)),.one (.d (aO b))] [] (.one (.d (.bool (dP nb a b)))) []:=by
 refine enter af Tryz.func106 rfl (by decide +kernel) rfl fun hok w0 σ0 φ0 M=>?_
 have h1:=hok.1.sl; have h2:=hok.2.1.sl; clear hok; simp only [List.length_map] at h1 h2; replace h1:=h1.1; replace h2:=h2.1
 repeat' (first|(refine h3H ?_; (refine h2H ?_; first|refine d_l J J (aB J J J J J J (Sm _ _) J) ?_|refine d_l J J (aB J J J J J J (Sn _ _) J) ?_))|refine wG ?_|(refine h4H ?_; first|refine ah J (fun h=>?_) (fun h=>?_)|refine aH 4 J [(0,_),(1,_)] (q2Q J J) (fun (k : Nat)=>[(5,.one (.d (.int .i64 k)))]) (fun (k : Nat)=>k≤a.length∧a.length = b.length∧dP nb a b = ff nb (a.drop k) (b.drop k)) (fun (k : Nat)=>a.length - k) 0 (q1Q J) ?_ (fun k ⟨hk,hq,hs⟩=>?_))|(refine h3H ?_; (refine tu ?_; refine kN J J (fun h=>?_) (fun h=>?_)))|(show Exists _; refine Exists.intro (k + 1) ⟨?_,?_,wK,(q1Q J),(q2Q J J)⟩))
 all_goals (try (((simp_all [dP,ff,nb,ao,List.drop_eq_nil_of_le]) <;> exact wL); done))
def uI(a b : List Dim×List Attr×List Cell) : Bool:=dP p9 a.1 b.1 && (dP na a.2.1 b.2.1 && dP nb a.2.2 b.2.2)
def tK(a : List Dim×List Attr×List Cell) : AV:=.agg [.d (aF a.1),.d (ax a.2.1),.d (aO a.2.2)]
theorem c28(a b : List Dim×List Attr×List Cell) : CallA Tryz.prog 28 [tK a,tK b] [] (.one (.d (.bool (uI a b)))) []:=by
 unfold tK
 refine enter af Tryz.func28 rfl (by decide +kernel) rfl fun hok w0 σ0 φ0 M=>?_
 clear hok
 repeat' (first|(refine h1H ?_; (refine h0H ?_; first|refine aa J J J J J J J J (Sp _ _) J ?_|refine aa J J J J J J J J (Sq _ _) J ?_|refine aa J J J J J J J J (Sr _ _) J ?_))|refine wG ?_|(refine h1H ?_; (refine h5H ?_; refine aJ J J J J (fun h=>?_) (fun h=>?_))))
 all_goals (try (((simp_all [uI,ao,List.drop_eq_nil_of_le]) <;> exact wL); done))
theorem c25(a b : List Dim×List Attr×List Cell)(e f : Int) : CallA Tryz.prog 25 [tK a,.one (.d (.int .i64 e)),tK b,.one (.d (.int .i64 f))] [] (.one (.d (.bool (e == f && uI a b)))) []:=by
 unfold tK
 refine enter af Tryz.func25 rfl (by decide +kernel) rfl fun hok w0 σ0 φ0 M=>?_
 clear hok
 repeat' (first|(refine h1H ?_; (refine h0H ?_; refine aa J J J J J J J J (c28 _ _) J ?_))|refine wG ?_|(refine h1H ?_; (refine h5H ?_; refine aJ J J J J (fun h=>?_) (fun h=>?_))))
 all_goals (try (((simp_all [ao,List.drop_eq_nil_of_le]) <;> exact wL); done))
end Go.Proofs.YtpejdgkaapnekaaGreat
namespace Go.Proofs.YtpejdgkaapnekaaGreat
open Go Go.Abs
theorem lM{α : Type}[Inhabited α] : ∀ {l m : List α},l.length = m.length→(∀ i,i < l.length→at_ l i = at_ m i)→l = m
 | [],[],_,_=>rfl
 | x::l,y::m,h,he=>by
   have h0 : x = y:=he 0 (by simp)
   rw [h0,lM (l:=l) (m:=m) (by simpa using h) fun i hi=>he (i + 1) (by simpa using hi)]
 | [],_::_,h,_=>by simp at h
 | _::_,[],h,_=>by simp at h
theorem Ae{α : Type}[Inhabited α]{l : List α}{k i : Nat}{x : α}(h : i < l.length) : at_ (l.set k x) i = if i = k then x else at_ l i:=by
 simp only [at_,List.getD_eq_getElem?_getD,List.getElem?_set]
 by_cases e : k = i
 ·subst e; simp [h]
 ·rw [if_neg e,if_neg (fun h=>e h.symm)]
theorem jE{α : Type}[Inhabited α]{l : List α}{x : α}(h : x∈l) : ∃ i,i < l.length∧at_ l i = x:=by
 obtain ⟨i,hi⟩:=List.getElem?_of_mem h
 have hl:=(List.getElem?_eq_some_iff.1 hi).1
 exact ⟨i,hl,by rw [gH hl] at hi; exact Option.some.inj hi⟩
theorem zU{α β γ : Type}[Inhabited α][Inhabited β][Inhabited γ]{f : α→β→γ}{l : List α}{m : List β}{i : Nat}(h : i < l.length)(h' : i < m.length) : at_ (l.zipWith f m) i = f (at_ l i) (at_ m i):=by
 simp [at_,List.getD_eq_getElem?_getD,List.getElem?_zipWith,h,h']
theorem Dim.ext{a b : Dim}(h1 : a.name = b.name)(h2 : a.lo = b.lo)(h3 : a.hi = b.hi) : a = b:=by cases a; cases b; simp_all
structure Arr where
 dims : List Dim
 attrs : List Attr
 cells : List Cell
 deriving Inhabited
def Gf(a : Arr) : List D:=[aF a.dims,ax a.attrs,aO a.cells]
def vW(l : List Arr) : D:=.sl 3 72 (l.map Gf)
def fa(a : Arr) : AV:=.agg [.d (aF a.dims),.d (ax a.attrs),.d (aO a.cells)]
theorem ve{α : Type}[Inhabited α]{p : α→α→Bool} : ∀ {a b : List α},a.length = b.length→(ff p a b = true↔∀ i,i < a.length→p (at_ a i) (at_ b i) = true)
 | [],[],_=>by simp [ff]
 | x::a,y::b,h=>by
   have ih:=ve (p:=p) (a:=a) (b:=b) (by simpa using h)
   simp only [ff]
   constructor
   ·intro h1 i hi
    split at h1
    ·rename_i h2
     cases i with
     | zero=>exact h2
     | succ i=>exact ih.1 h1 i (by simpa using hi)
    ·cases h1
   ·intro h1
    have h0 : p x y = true:=h1 0 (by simp)
    rw [if_pos h0]
    exact ih.2 fun i hi=>h1 (i + 1) (by simpa using hi)
 | [],_::_,h=>by simp at h
 | _::_,[],h=>by simp at h
theorem Gx{α : Type}[Inhabited α]{p : α→α→Bool}{a b : List α} : dP p a b = true↔a.length = b.length∧∀ i,i < a.length→p (at_ a i) (at_ b i) = true:=by
 unfold dP
 by_cases h : a.length = b.length
 ·rw [if_neg (by omega),ve h]
  exact Iff.intro (fun h1=>And.intro h h1) (fun h1=>h1.2)
 ·rw [if_pos (by omega)]
  exact Iff.intro (fun h1=>by cases h1) (fun h1=>absurd h1.1 h)
theorem mW{α : Type}[Inhabited α]{p : α→α→Bool}(hp : ∀ x y,p x y = true↔x = y){a b : List α} : dP p a b = true↔a = b:=by
 rw [Gx]
 constructor
 ·rintro ⟨h1,h2⟩
  exact lM h1 fun i hi=>(hp _ _).1 (h2 i hi)
 ·rintro rfl
  exact ⟨rfl,fun i hi=>(hp _ _).2 rfl⟩
theorem Gy(x y : Int) : (x == y) = true↔x = y:=by simp
theorem FU(x y : Dim) : p9 x y = true↔x = y:=by
 cases x; cases y
 simp [p9,cm,cL,eqD]
theorem DG(x y : Attr) : na x y = true↔x = y:=by
 cases x; cases y
 simp [na,aX,cL,eqD]
theorem xF(x y : Val) : bB x y = true↔x = y:=by
 cases x; cases y
 simp [bB,ab,cL,eqD]
theorem DH(x y : Cell) : nb x y = true↔x = y:=by
 cases x; cases y
 simp [nb,mW Gy,mW xF]
def jx(ds : List Dim)(ats : List Attr)(cs : List Cell) : Option Arr×Int:=if 4096 < (cs.length : Int) then (none,9) else (some ⟨ds,ats,bz cs⟩,0)
def er(ds : List Dim)(name : List UInt8) : Int:=aL (fun a : Dim=>a.name == name) ds 0
theorem kR{α : Type}[Inhabited α]{p : α→Bool} : ∀ {l : List α} {j : Nat},¬ aL p l j < 0→∃ k : Nat,aL p l j = ((j + k : Nat) : Int)∧k < l.length∧p (at_ l k) = true∧∀ i,i < k→p (at_ l i) = false
 | [],j,h=>by simp [aL] at h
 | x::l,j,h=>by
   simp only [aL] at h ⊢
   by_cases hp : p x = true
   ·rw [if_pos hp] at h ⊢
    exact ⟨0,by simp,by simp,hp,fun i hi=>by omega⟩
   ·rw [if_neg hp] at h ⊢
    obtain ⟨k,h1,h2,h3,h4⟩:=kR h
    refine ⟨k + 1,by rw [h1]; omega,by simpa using h2,h3,fun i hi=>?_⟩
    cases i with
    | zero=>exact Bool.eq_false_iff.2 hp
    | succ i=>exact h4 i (by omega)
theorem rV{ds : List Dim}{name : List UInt8}(h : ¬ er ds name < 0) : ∃ k : Nat,er ds name = (k : Int)∧k < ds.length∧(at_ ds k).name = name∧∀ i,i < k→(at_ ds i).name≠name:=by
 obtain ⟨k,h1,h2,h3,h4⟩:=kR h
 refine ⟨k,by unfold er; rw [h1]; simp,h2,by simpa using h3,fun i hi=>by simpa using h4 i hi⟩
theorem HH{ds : List Dim}(h : (ds.map Dim.name).Nodup){i j : Nat}(hi : i < ds.length)(hj : j < ds.length)(he : (at_ ds i).name = (at_ ds j).name) : i = j:=by
 have h1 : at_ (ds.map Dim.name) i = at_ (ds.map Dim.name) j:=by rw [eV hi,eV hj,he]
 have e1:=gH (l:=ds.map Dim.name) (i:=i) (by simpa using hi)
 have e2:=gH (l:=ds.map Dim.name) (i:=j) (by simpa using hj)
 rw [h1,← e2] at e1
 exact (List.getElem?_inj (by simpa using hi) h).1 e1
section
variable {a : Arr}
theorem OkA.dims(h : OkA a.dims a.attrs a.cells) : 1≤a.dims.length∧a.dims.length≤4∧(∀ i,i < a.dims.length→(-1073741824≤(at_ a.dims i).lo∧(at_ a.dims i).lo≤1073741824∧(at_ a.dims i).lo≤(at_ a.dims i).hi∧(at_ a.dims i).hi≤1073741825)∧bP (at_ a.dims i).name = true)∧(a.dims.map Dim.name).Nodup:=by
 obtain ⟨h1,h2,h3,h4⟩:=tD (cH h.sch).1
 exact ⟨h1,h2,fun i hi=>⟨boundsF_ok.1 (h3 _ (bT hi)).1,(h3 _ (bT hi)).2⟩,h4⟩
end
end Go.Proofs.YtpejdgkaapnekaaGreat
namespace Go.Proofs.YtpejdgkaapnekaaGreat
open Go Go.Abs
attribute [local irreducible] ae OkC ar aA av aN
set_option maxRecDepth 10000
inductive Scalar where
 | mk (op : Int) (name : List UInt8) (val : Val) (args : List Scalar)
 deriving Inhabited
def Scalar.op : Scalar→Int | .mk o _ _ _=>o
def Scalar.name : Scalar→List UInt8 | .mk _ n _ _=>n
def Scalar.val : Scalar→Val | .mk _ _ v _=>v
def Scalar.args : Scalar→List Scalar | .mk _ _ _ a=>a
theorem Scalar.args_lt : ∀ {s x : Scalar},x∈s.args→SizeOf.sizeOf x < SizeOf.sizeOf s
 | .mk o n v a,x,h=>by
   have:=List.sizeOf_lt_of_mem (show x∈a from h)
   simp; omega
theorem Scalar.ind{Q : Scalar→Prop}(h : ∀ s : Scalar,(∀ x∈s.args,Q x)→Q s)(s : Scalar) : Q s :=
 h s fun x hx=>have:=Scalar.args_lt hx; Scalar.ind h x
termination_by SizeOf.sizeOf s
mutual
def pY : Scalar→List D
 | .mk o n v a=>[.int .i64 o,.str n,.int .i64 v.kind,.int .i64 v.num,.int .i64 v.den,.str v.str,.sl 7 88 (yy a)]
def yy : List Scalar→List (List D)
 | []=>[]
 | s::r=>pY s::yy r
end
theorem xA : ∀ (l : List Scalar),yy l = l.map pY
 | []=>rfl
 | s::r=>by simp [yy,xA r]
def cI(l : List Scalar) : D:=.sl 7 88 (l.map pY)
def qU(s : Scalar) : List D:=[.int .i64 s.op,.str s.name,.int .i64 s.val.kind,.int .i64 s.val.num,.int .i64 s.val.den,.str s.val.str,cI s.args]
def de(s : Scalar) : AV:=.agg [.d (.int .i64 s.op),.d (.str s.name),.d (.int .i64 s.val.kind),.d (.int .i64 s.val.num),.d (.int .i64 s.val.den),.d (.str s.val.str),.d (cI s.args)]
theorem vQ : ∀ (s : Scalar),pY s = qU s
 | .mk o n v a=>by simp [pY,qU,Scalar.op,Scalar.name,Scalar.val,Scalar.args,cI,xA]
theorem Cx{l : List Scalar}{i : Nat}(h : i < l.length) : (l.map pY)[i]? = some (qU (at_ l i)):=by rw [fy h,vQ]
def c3 : Nat→Scalar→Int
 | 0,_=>1
 | m + 1,s=>s.args.foldl (fun d x=>max d (c3 m x)) 0 + 1
theorem pS{f : Scalar→Int}{B : Int}(h : ∀ x,1≤f x∧f x≤B) : ∀ (l : List Scalar) (d : Int),0≤d→d≤B→0≤l.foldl (fun d x=>max d (f x)) d∧l.foldl (fun d x=>max d (f x)) d≤B
 | [],d,h0,h1=>⟨h0,h1⟩
 | x::r,d,h0,h1=>by
   have:=h x
   exact pS h r _ (by show 0≤max d (f x); omega) (by show max d (f x)≤B; omega)
theorem re : ∀ (m : Nat) (s : Scalar),1≤c3 m s∧c3 m s≤m + 1
 | 0,s=>by simp [c3]
 | m + 1,s=>by
   have:=pS (f:=c3 m) (B:=m + 1) (fun x=>by have:=re m x; omega) s.args 0 (by omega) (by omega)
   simp only [c3]; omega
theorem FY{f : Scalar→Int}{l : List Scalar}{k : Nat}{d : Int}(h : k < l.length) : (l.take (k + 1)).foldl (fun d x=>max d (f x)) d = max ((l.take k).foldl (fun d x=>max d (f x)) d) (f (at_ l k)):=by
 rw [ez h,List.foldl_append]; rfl
end Go.Proofs.YtpejdgkaapnekaaGreat
namespace Go.Proofs.YtpejdgkaapnekaaGreat
open Go Go.Abs
open Go.ChangeShapes Go.WideShapes Go.ChangeAt Go.RowKit
section
variable {H : Type} {en : TypeId×Value→H} {W : World}
theorem tQ(d : DataW H) : 1≤Rows.uptoBulk d:=by
 cases d with
 | lit l=>cases l <;> simp [Rows.uptoBulk]
 | _=>simp [Rows.uptoBulk]
theorem pZ{d : DataW H} : ∀ {l : List (DataW H)},d∈l→Rows.uptoBulk d≤Rows.uptoBulkAll l
 | [],h=>by simp at h
 | x::r,h=>by
   simp only [Rows.uptoBulkAll]
   rcases List.mem_cons.1 h with rfl | h
   ·omega
   ·have:=pZ h; omega
theorem Ah : ∀ (l : List (DataW H)),l.length≤Rows.uptoBulkAll l
 | []=>by simp [Rows.uptoBulkAll]
 | x::r=>by have:=tQ x; have:=Ah r; simp only [Rows.uptoBulkAll,List.length_cons]; omega
def sg(W : World) : Sig:=fun b=>match W.heap[b]? with | some (.cells cs _ _)=>some cs | _=>none
theorem Cy{b : Nat}{cs : Array Value}(h : sg W b = some cs) : ∃ t f,W.heap[b]? = some (.cells cs t f):=by
 unfold sg at h
 split at h
 ·rename_i c t f hh; cases h; exact ⟨t,f,hh⟩
 ·cases h
theorem Lj(φ : Pl) : HInv (sg W) φ [] W:=⟨fun b cs h=>Cy h,fun i e h=>by simp [Abs.look] at h,fun i i' e e' p p' h=>by simp [Abs.look] at h⟩
def Rd(en : TypeId×Value→H)(W : World)(N : Nat)(t : TypeId){α : Type}(f : α→List D)(Q : α→Prop) : Prop :=
 ∀ (fuel : Nat) (cs : List Value) (x : DataW H×List MemPlace),DataW.trod en Tryz.prog W 0 (fun _=>true) true fuel t cs = some x→Rows.uptoBulk x.1≤N→∃ a : α,Q a∧All2 (Rep (sg W)) (f a) cs
def yes{α : Type}(_ : α) : Prop:=True
theorem Rd.mono{N M : Nat}{t : TypeId}{α : Type}{f : α→List D}{Q : α→Prop}(h : Rd en W N t f Q)(hm : M≤N) : Rd en W M t f Q:=fun fuel cs x hx hb=>h fuel cs x hx (by omega)
theorem lP{N : Nat}{t : TypeId}(ht : Tryz.prog.underlying t = some (.int .i64)) : Rd en W N t (fun n : Int=>[.int .i64 n]) yes:=by
 intro fuel cs x h _
 obtain ⟨n,rfl,_,hw⟩:=DataW.trod_int ht h
 have hw':=bounds_i64 hw
 refine ⟨n,trivial,.int ?_,trivial⟩
 simp only [inR,IntKind.min,IntKind.max,IntKind.signed,IntKind.bits,if_true]
 omega
theorem mU{N : Nat}{t : TypeId}(hN : N≤1048576)(ht : Tryz.prog.underlying t = some .string) : Rd en W N t (fun s : List UInt8=>[.str s]) yes:=by
 intro fuel cs x h hb
 obtain ⟨s,rfl,rfl,_⟩:=DataW.trod_string ht h
 simp only [Rows.uptoBulk] at hb
 have:=Rep.str (σ:=sg W) (s:=s.data.toList) (by omega)
 refine ⟨s.data.toList,trivial,?_,trivial⟩
 simpa using this
def Ej{α : Type}(N : Nat)(Q : α→Prop)(l : List α) : Prop:=l.length≤N∧∀ x∈l,Q x
theorem jD{N k b : Nat}{t e : TypeId}{α : Type}[Inhabited α]{f : α→List D}{Q : α→Prop}(hN : N≤1048575)(hb : b≤1000)(hk : 0 < k)(ht : Tryz.prog.underlying t = some (.slice e))(hc : Tryz.prog.cellsOf e = k)(he : Rd en W N e f Q) : Rd en W (N + 1) t (fun l : List α=>[.sl k b (l.map f)]) (Ej N Q):=by
 intro fuel cs x h hbk
 rcases Deep.open_slice ht h with ⟨rfl,rfl⟩ | ⟨a,len,cap,m,n,Dd,Pl,rfl,_,hl,_,hm,rfl,hel⟩
 ·refine ⟨[],⟨by simp,by simp⟩,?_,trivial⟩
  exact .sl (fun _ _=>undef) (by simp) (by simp) (by simp) (by simp) (by simp) (by simp)
 ·simp only [if_true] at hm
  subst hm
  rw [hc] at hel
  simp only [Rows.uptoBulk] at hbk
  have hlen : len≤N:=by
   have:=Ah ((List.range len).map Dd)
   simp only [List.length_map,List.length_range] at this
   omega
  have hpart : ∀ i,i < len→Rows.uptoBulk (Dd i)≤N:=by
   intro i hi
   have:=pZ (d:=Dd i) (l:=(List.range len).map Dd) (List.mem_map.2 ⟨i,List.mem_range.2 hi,rfl⟩)
   omega
  obtain ⟨g,hg⟩:=Deep.choose_lt (n:=len) (p:=fun i (y : α)=>Q y∧∃ cs',W.cells? 0 (a.add (i * k)) k = some cs'∧All2 (Rep (sg W)) (f y) cs') (fun i hi=>by
   obtain ⟨cs',h1,h2⟩:=hel i (by omega)
   obtain ⟨y,hq,hy⟩:=he _ _ _ h2 (hpart i hi)
   exact ⟨y,hq,cs',h1,hy⟩)
  have hcell : ∀ i,i < len→∀ j,j < k→∃ v,W.cell? ((a.add (i * k)).add j) = some v∧∀ d,(f (g i))[j]? = some d→Rep (sg W) d v:=by
   intro i hi j hj
   obtain ⟨_,cs',h1,h2⟩:=hg i hi
   obtain ⟨_,h3,h4⟩:=World.cells?_some h1
   have h5 : cs'[j]? = some (cs'[j]'(by omega)):=List.getElem?_eq_getElem (by omega)
   refine ⟨_,(h4 j hj).trans h5,fun d hd=>?_⟩
   obtain ⟨v,hv,hr⟩:=h2.get hd
   rw [h5] at hv; cases hv; exact hr
  have hfl : ∀ i,i < len→(f (g i)).length = k:=by
   intro i hi
   obtain ⟨_,cs',h1,h2⟩:=hg i hi
   rw [h2.length]; exact (World.cells?_some h1).2.1
  have hadd : ∀ i j,i < len→j < k→a.spot = none→((a.add (i * k)).add j) = ⟨a.block,a.off + i * k + j,none⟩:=by
   intro i j _ _ hs
   obtain ⟨B,o,sp⟩:=a
   simp only at hs
   subst hs
   by_cases h1 : i * k = 0 <;> by_cases h2 : j = 0 <;> simp [Addr.add,h1,h2]
  have hA : 0 < len→∃ cells : Array Value,a.spot = none∧sg W a.block = some cells:=by
   intro h0
   obtain ⟨v,hv,_⟩:=hcell 0 h0 0 hk
   have e0 : ((a.add (0 * k)).add 0) = a:=by simp [Addr.add]
   rw [e0] at hv
   unfold World.cell? at hv
   unfold sg
   split at hv
   ·rename_i c t2 f2 hh
    rw [hh]
    split at hv
    ·cases hv
    ·rename_i hs
     exact ⟨c,by simpa using hs,rfl⟩
   ·cases hv
  refine ⟨(List.range len).map g,⟨by simpa using hlen,fun y hy=>?_⟩,?_,trivial⟩
  ·obtain ⟨i,hi,rfl⟩:=List.mem_map.1 hy
   exact (hg i (List.mem_range.1 hi)).1
  have hll : (((List.range len).map g).map f).length = len:=by simp
  have key : Rep (sg W) (.sl k b (((List.range len).map g).map f)) (.slice (some a) (((List.range len).map g).map f).length m):=by
   refine .sl (fun i j=>(W.cell? ((a.add (i * k)).add j)).getD undef) (by rw [hll]; exact hl) (by rw [hll]; omega) (by
    rw [hll]
    have : len * b≤1048576 * 1000:=Nat.mul_le_mul (by omega) hb
    omega) (fun x hx=>?_) (fun h0=>?_) (fun i j x d hx hd=>?_)
   ·simp only [List.mem_map,List.mem_range] at hx
    obtain ⟨y,⟨i,hi,rfl⟩,rfl⟩:=hx
    exact hfl i hi
   ·rw [hll] at h0
    obtain ⟨cells,hs,hsg⟩:=hA h0
    refine ⟨a.block,a.off,cells,?_,hsg,fun i j hi hj=>?_⟩
    ·obtain ⟨B,o,sp⟩:=a; simp only at hs; subst hs; rfl
    ·rw [hll] at hi
     obtain ⟨v,hv,_⟩:=hcell i hi j hj
     rw [hv]
     rw [hadd i j hi hj hs] at hv
     obtain ⟨t2,f2,hh⟩:=Cy hsg
     simp only [World.cell?,hh] at hv
     simpa using hv
   ·simp only [List.getElem?_map,Option.map_eq_some_iff] at hx
    obtain ⟨y,⟨i',hi',rfl⟩,rfl⟩:=hx
    have hi : i < len:=by
     have:=(List.getElem?_eq_some_iff.1 hi').1
     simpa using this
    have hii : i' = i:=by simpa [List.getElem?_range hi] using hi'.symm
    subst hii
    have hj : j < k:=by rw [← hfl i' hi]; exact (List.getElem?_eq_some_iff.1 hd).1
    obtain ⟨v,hv,hr⟩:=hcell i' hi j hj
    rw [hv]
    exact hr d hd
  rw [hll] at key
  exact key
theorem eI{R : D→Value→Prop}{a b : List D}{cs : List Value}{o n m : Nat}(h1 : All2 R a ((cs.drop o).take n))(h2 : All2 R b ((cs.drop (o + n)).take m)) : All2 R (a ++ b) ((cs.drop o).take (n + m)):=by
 rw [List.take_add,List.drop_drop]
 exact h1.append h2
theorem cS{N : Nat}{t u : TypeId}{fs : Array Field}{fuel : Nat}{cs : List Value}{x : DataW H×List MemPlace}(ht : Tryz.prog.underlying t = some (.struct fs))(h : DataW.trod en Tryz.prog W 0 (fun _=>true) true fuel t cs = some x)(hb : Rows.uptoBulk x.1≤N + 1)
  (i : Nat) {fd : Field} (hf : fs[i]? = some fd) {α : Type} {f : α→List D} {Q : α→Prop} (hr : Rd en W N fd.type f Q) {c : Nat} (hc : Tryz.prog.cellsOf fd.type = c) : ∃ a,Q a∧All2 (Rep (sg W)) (f a) ((cs.drop fd.offset).take c):=by
 subst hc
 obtain ⟨xs,n,_,rfl,_,hl,hx⟩:=DataW.trod_struct ht h
 have h2:=hx i fd hf
 have hi : i < xs.length:=by rw [hl]; exact (Array.getElem?_eq_some_iff.1 hf).1
 rw [List.getElem?_eq_getElem hi] at h2
 refine hr _ _ _ h2 ?_
 have:=pZ (d:=(xs[i]).1) (l:=xs.map (·.1)) (List.mem_map.2 ⟨_,List.getElem_mem hi,rfl⟩)
 simp only [Rows.uptoBulk] at hb
 omega
theorem oP{t : TypeId}{fs : Array Field}{fuel : Nat}{cs : List Value}{x : DataW H×List MemPlace}(ht : Tryz.prog.underlying t = some (.struct fs))(h : DataW.trod en Tryz.prog W 0 (fun _=>true) true fuel t cs = some x) : cs.length = Tryz.prog.cellsOf t:=by
 obtain ⟨_,_,_,_,hl,_⟩:=DataW.trod_struct ht h
 exact hl
theorem oQ : Tryz.prog.cellsOf 3 = 1:=by kernel_rfl
theorem uS : Tryz.prog.cellsOf 2 = 1:=by kernel_rfl
theorem qM : Tryz.prog.cellsOf 9 = 1:=by kernel_rfl
theorem wk : Tryz.prog.cellsOf 28 = 4:=by kernel_rfl
theorem JH : Tryz.prog.cellsOf 29 = 1:=by kernel_rfl
theorem Cz : Tryz.prog.cellsOf 31 = 7:=by kernel_rfl
theorem CA : Tryz.prog.cellsOf 82 = 2:=by kernel_rfl
theorem CB : Tryz.prog.cellsOf 53 = 3:=by kernel_rfl
theorem JI : Tryz.prog.cellsOf 22 = 1:=by kernel_rfl
theorem JJ : Tryz.prog.cellsOf 23 = 1:=by kernel_rfl
theorem JK : Tryz.prog.cellsOf 24 = 1:=by kernel_rfl
theorem JL : Tryz.prog.cellsOf 26 = 3:=by kernel_rfl
theorem nh{R : D→Value→Prop}{a : List D}{cs : List Value}{n : Nat}(h : All2 R a ((cs.drop 0).take n))(hl : cs.length = n) : All2 R a cs:=by
 rw [List.drop_zero,List.take_of_length_le (by omega)] at h; exact h
theorem Ge{N : Nat}(hN : N≤1048575) : Rd en W (N + 1) 28 (fun v : Val=>[.int .i64 v.kind,.int .i64 v.num,.int .i64 v.den,.str v.str]) yes:=by
 intro fuel cs x h hb
 obtain ⟨k,_,hk⟩:=cS (u:=0) Tryz.underlying28 h hb 0 rfl (lP Tryz.underlying3) oQ
 obtain ⟨n,_,hn⟩:=cS (u:=0) Tryz.underlying28 h hb 1 rfl (lP Tryz.underlying2) uS
 obtain ⟨d,_,hd⟩:=cS (u:=0) Tryz.underlying28 h hb 2 rfl (lP Tryz.underlying2) uS
 obtain ⟨s,_,hs⟩:=cS (u:=0) Tryz.underlying28 h hb 3 rfl (mU (by omega) Tryz.underlying9) qM
 exact ⟨⟨k,n,d,s⟩,trivial,nh (eI (eI (eI hk hn) hd) hs) ((oP Tryz.underlying28 h).trans wk)⟩
theorem Ml{N : Nat}(hN : N≤1048575) : Rd en W (N + 1) 53 cm yes:=by
 intro fuel cs x h hb
 obtain ⟨s,_,hs⟩:=cS (u:=0) Tryz.underlying53 h hb 0 rfl (mU (by omega) Tryz.underlying9) qM
 obtain ⟨k,_,hk⟩:=cS (u:=0) Tryz.underlying53 h hb 1 rfl (lP Tryz.underlying3) oQ
 obtain ⟨n,_,hn⟩:=cS (u:=0) Tryz.underlying53 h hb 2 rfl (lP Tryz.underlying3) oQ
 exact ⟨⟨s,k,n⟩,trivial,nh (eI (eI hs hk) hn) ((oP Tryz.underlying53 h).trans CB)⟩
theorem JM{N : Nat}(hN : N≤1048575) : Rd en W (N + 1) 82 aX yes:=by
 intro fuel cs x h hb
 obtain ⟨s,_,hs⟩:=cS (u:=0) Tryz.underlying82 h hb 0 rfl (mU (by omega) Tryz.underlying9) qM
 obtain ⟨k,_,hk⟩:=cS (u:=0) Tryz.underlying82 h hb 1 rfl (lP Tryz.underlying3) oQ
 exact ⟨⟨s,k⟩,trivial,nh (eI hs hk) ((oP Tryz.underlying82 h).trans CA)⟩
theorem FE : ∀ (N : Nat),N≤1048576→Rd en W N 31 pY yes:=by
 intro N
 induction N using Nat.strongRecOn with
 | _ N ih =>
   intro hN fuel cs x h hb
   have h1:=tQ x.1
   obtain ⟨xs,n0,_,hx,_,hl,hfx⟩:=DataW.trod_struct Tryz.underlying31 h
   obtain ⟨M,rfl⟩ : ∃ M,N = M + 1:=⟨N - 1,by omega⟩
   obtain ⟨o,_,ho⟩:=cS (u:=0) Tryz.underlying31 h hb 0 rfl (lP Tryz.underlying3) oQ
   obtain ⟨s,_,hs⟩:=cS (u:=0) Tryz.underlying31 h hb 1 rfl (mU (by omega) Tryz.underlying9) qM
   have hM : 1≤M:=by
    have hi : 0 < xs.length:=by rw [hl]; decide
    have h3:=pZ (d:=(xs[0]).1) (l:=xs.map (·.1)) (List.mem_map.2 ⟨_,List.getElem_mem hi,rfl⟩)
    have h4:=tQ (xs[0]).1
    rw [hx] at hb
    simp only [Rows.uptoBulk] at hb
    omega
   obtain ⟨L,rfl⟩ : ∃ L,M = L + 1:=⟨M - 1,by omega⟩
   obtain ⟨v,_,hv⟩:=cS (u:=0) Tryz.underlying31 h hb 2 rfl (Ge (N:=L) (by omega)) wk
   obtain ⟨l,_,hlst⟩:=cS (u:=0) Tryz.underlying31 h hb 3 rfl (jD (k:=7) (b:=88) (by omega) (by omega) (by omega) Tryz.underlying29 Cz (ih L (by omega) (by omega))) JH
   refine ⟨.mk o s v l,trivial,?_⟩
   rw [vQ]
   exact nh (eI (eI (eI ho hs) hv) hlst) ((oP Tryz.underlying31 h).trans Cz)
theorem JN : Tryz.prog.cellsOf 37 = 1:=by kernel_rfl
theorem JO : Tryz.prog.cellsOf 54 = 1:=by kernel_rfl
theorem CC : Tryz.prog.cellsOf 56 = 2:=by kernel_rfl
def HX(N : Nat)(c : Cell) : Prop:=c.at'.length≤N∧c.vals.length≤N
theorem JP{N : Nat}(hN : N≤1048573) : Rd en W (N + 3) 56 aD (HX (N + 1)):=by
 intro fuel cs x h hb
 obtain ⟨a,qa,ha⟩:=cS (u:=0) Tryz.underlying56 h hb 0 rfl (jD (f:=bJ) (N:=N + 1) (k:=1) (b:=8) (by omega) (by omega) (by omega) Tryz.underlying37 oQ (lP Tryz.underlying3)) JN
 obtain ⟨v,qv,hv⟩:=cS (u:=0) Tryz.underlying56 h hb 1 rfl (jD (f:=ab) (N:=N + 1) (k:=4) (b:=40) (by omega) (by omega) (by omega) Tryz.underlying54 wk (Ge (by omega))) JO
 exact ⟨⟨a,v⟩,⟨qa.1,qv.1⟩,nh (eI ha hv) ((oP Tryz.underlying56 h).trans CC)⟩
def LN(N : Nat)(a : Arr) : Prop:=Ej N yes a.dims∧Ej N yes a.attrs∧Ej N (HX N) a.cells
theorem Li{N : Nat}(hN : N≤1048571) : Rd en W (N + 5) 26 Gf (LN (N + 3)):=by
 intro fuel cs x h hb
 obtain ⟨d,qd,hd⟩:=cS (u:=0) Tryz.underlying26 h hb 0 rfl (jD (f:=cm) (N:=N + 3) (k:=3) (b:=32) (by omega) (by omega) (by omega) Tryz.underlying22 CB (Ml (by omega))) JI
 obtain ⟨a,qa,ha⟩:=cS (u:=0) Tryz.underlying26 h hb 1 rfl (jD (f:=aX) (N:=N + 3) (k:=2) (b:=24) (by omega) (by omega) (by omega) Tryz.underlying23 CA (JM (by omega))) JJ
 obtain ⟨c,qc,hc⟩:=cS (u:=0) Tryz.underlying26 h hb 2 rfl (jD (f:=aD) (N:=N + 3) (k:=2) (b:=48) (by omega) (by omega) (by omega) Tryz.underlying24 CC (JP (by omega))) JK
 exact ⟨⟨d,a,c⟩,⟨qd,qa,qc.1,fun x hx=>by have:=qc.2 x hx; unfold HX at *; omega⟩,nh (eI (eI hd ha) hc) ((oP Tryz.underlying26 h).trans JL)⟩
theorem uB{P : Program}{t : TypeId}{fs : Array Field}{r : Reach}{base : Nat}{v : Value}(ht : P.underlying t = some (.struct fs))(h : Value.okWide P W r base t v) : ∃ cs : List Value,v = .agg cs.toArray:=by
 unfold Value.okWide at h
 rw [ht] at h
 obtain ⟨cs,rfl,_⟩:=h
 exact ⟨cs.toList,by simp⟩
theorem zA{W' : World} : ∀ {ts : List TypeId} {vs : List Value} {ds : List (DataW H)} {ps : List MemPlace},DataW.TrodAll en Tryz.prog W 0 (fun _=>true) true ts vs ds ps→(∀ p∈ps,W.sameAt W' p)→DataW.TrodAll en Tryz.prog W' 0 (fun _=>true) true ts vs ds ps
 | [],[],[],_,h,_=>h
 | _::_,_::_,_::_,_,⟨p,q,⟨n,h1⟩,h2,e⟩,hs=>⟨p,q,⟨n,DataW.trod_carry n _ _ _ h1 fun x hx=>hs x (by rw [e]; exact List.mem_append_left _ hx)⟩,zA h2 fun x hx=>hs x (by rw [e]; exact List.mem_append_right _ hx),e⟩
theorem own : ownKnob Tryz.prog.godebug = none:=by kernel_rfl
theorem P4 : Kids Tryz.prog (· < Tryz.prog.types.size):=kids_rows (by kernel_rfl) (by kernel_rfl)
set_option maxRecDepth 100000 in
theorem P5 : ∀ t e,t < Tryz.prog.types.size→Tryz.prog.underlying t = some (.slice e)→0 < Tryz.prog.cellsOf e:=slices_full_of Tryz.prog (by kernel_rfl)
theorem xB{W' : World}(h : Kept (MOf (fun _=>none) []) W W') : ∀ b,b < W.heap.size→W'.heap[b]? = W.heap[b]?:=fun b hb=>h.block b hb (by rintro ⟨id,e,p,h1,_⟩; simp [Abs.look] at h1)
theorem Jt{W' : World}(h : Kept (MOf (fun _=>none) []) W W')(may : MemPlace→Prop) : W.keptBut W' may :=
 ⟨h.os,h.output,fun i hi=>by rw [xB h i hi]; exact (World.keptBut_refl W may).2.2 i hi⟩
theorem Ht{W' : World}(h : Kept (MOf (fun _=>none) []) W W'){p : MemPlace}(hp : p.block < W.heap.size) : W.sameAt W' p:=by
 have hb:=xB h p.block hp
 cases p with
 | cell b off=>show W'.cell? ⟨b,off,none⟩ = W.cell? ⟨b,off,none⟩; unfold World.cell?; rw [show W'.heap[b]? = W.heap[b]? from hb]
 | map b=>exact hb
theorem mG{σ : Sig}{φ : Pl}{sto : Sto} : ∀ {ds : List D} {vs : List Value},All2 (Rep σ) ds vs→All2 (RepC σ φ sto) (ds.map .d) vs
 | [],[],_=>trivial
 | d::r,v::vs,h=>⟨.d h.1,mG h.2⟩
 | [],_::_,h=>h.elim
 | _::_,[],h=>h.elim
theorem tsz : Nat.blt 300 Tryz.prog.types.size = true:=by kernel_rfl
theorem few{t : Nat}(h : t≤300) : t < Tryz.prog.types.size:=by have:=Nat.blt_eq.mp tsz; omega
theorem Hu{W' : World}{base : Nat}{sp : Nat→Bool}{held : Bool}(b : Bool) : DataW.Trod en Tryz.prog W' base sp held 4 (.bool b) (.lit (.bool b)) []:=⟨1,by simp [DataW.trod,Value.cells,Tryz.underlying4]⟩
end
end Go.Proofs.YtpejdgkaapnekaaGreat
namespace Go.Abs
open Go
variable {P : Program} {c : Ctx} {σ σ' : Sig} {φ φ' : Pl} {w w' : World}
theorem HInv.ren{S : Sto}(r : Nat→Nat)(h : HInv σ φ S w)(hk : (cB (bg S) && cB (jb r (bg S)) && tm r (bg S) && bm S S) = true) :
  ∃ φ',HInv σ φ' (fW r S) w∧(∀ j o,look S j = some o→look (fW r S) (r j) = some (cG r o)∧φ' (r j) = φ j)∧(∀ t e,look (fW r S) t = some e→∃ j o,t = r j∧look S j = some o∧e = cG r o)∧∀ t,Pin t→φ' t = φ t:=by
 simp only [Bool.and_eq_true] at hk
 obtain ⟨⟨⟨h1,h2⟩,h3⟩,h4⟩:=hk
 classical
 let φ' : Pl:=fun t=>if h : ∃ i,i∈bg S∧r i = t then φ h.choose else φ t
 have hφ : ∀ {i : Nat},i∈bg S→φ' (r i) = φ i:=by
  intro i hi
  have hex : ∃ j,j∈bg S∧r j = r i:=⟨i,hi,rfl⟩
  show (if h : ∃ j,j∈bg S∧r j = r i then φ h.choose else φ (r i)) = φ i
  rw [dif_pos hex]
  have:=hex.choose_spec
  rw [nu h2 this.1 hi this.2]
 have hR : ∀ j o,look S j = some o→look (fW r S) (r j) = some (cG r o)∧φ' (r j) = φ j:=fun j o hj=>⟨nv h2 hj,hφ (mI hj)⟩
 refine ⟨φ',⟨h.sig,fun t e ht=>?_,fun t t' e e' p p' ht ht' hne hp hp'=>?_⟩,hR,fun t e ht=>dx h1 ht,fun t ht=>?_⟩
 ·obtain ⟨i,o,rfl,hi,rfl⟩:=dx h1 ht
  exact yo hR hi (fA h4 hi) (h.obj _ _ hi)
 ·obtain ⟨i,o,rfl,hi,rfl⟩:=dx h1 ht
  obtain ⟨i',o',rfl,hi',rfl⟩:=dx h1 ht'
  rw [(hR _ _ hi).2] at hp
  rw [(hR _ _ hi').2] at hp'
  exact h.inj _ _ _ _ _ _ hi hi' (fun e=>hne (by rw [e])) hp hp'
 ·show (if h : ∃ j,j∈bg S∧r j = t then φ h.choose else φ t) = _
  split
  ·rename_i hex
   have hs:=hex.choose_spec
   have:=vC h3 hs.1 (by rw [hs.2]; exact ht)
   rw [hs.2] at this
   rw [← this]
  ·rfl
theorem Af{S : Sto}{r : Nat→Nat}(hR : ∀ j o,look S j = some o→look (fW r S) (r j) = some (cG r o)∧φ' (r j) = φ j) : ∀ {avs : List AV} {vs : List Value},dp S avs = true→All2 (RepV σ φ S) avs vs→All2 (RepV σ φ' (fW r S)) (cX r avs) vs
 | [],[],_,_=>trivial
 | x::l,v::vs,h,ha=>by
   simp only [dp,Bool.and_eq_true] at h
   exact ⟨reV hR h.1 ha.1,Af hR h.2 ha.2⟩
 | [],_::_,_,ha=>ha.elim
 | _::_,[],_,ha=>ha.elim
theorem xr{f : FuncId}{avs avs0 : List AV}{s s0 s' s1 : Sto}{rav : AV}(q q' : Nat→Nat)(hC : CallA P f avs s rav s')(hs : fW q s0 = s)(ha : cX q avs0 = avs)(hs' : fW q' s' = s1)(hai : dp s0 avs0 = true)(hfl : fh rav = true)
  (hk : (cB (bg s0) && cB (jb q (bg s0)) && tm q (bg s0) && bm s0 s0) = true) (hk' : (cB (bg s') && cB (jb q' (bg s')) && tm q' (bg s') && bm s' s') = true) : CallA P f avs0 s0 rav s1:=by
 subst hs; subst ha; subst hs'
 refine ⟨hC.fn,fun w σ φ vs hinv hargs=>?_⟩
 obtain ⟨φ1,h1,hR,hL,hp⟩:=hinv.ren q hk
 refine (hC.run w σ φ1 vs h1 (Af hR hai hargs)).mono ?_
 rintro e w' ⟨v,σ',φ',rfl,hret⟩
 obtain ⟨φ2,h2,hR2,hL2,hp2⟩:=hret.inv.ren q' hk'
 have hM : ∀ b,MOf φ1 (fW q s0) b→MOf φ s0 b:=by
  rintro b ⟨t,e,p,h3,h4,h5⟩
  obtain ⟨j,o,rfl,h6,rfl⟩:=hL t e h3
  rw [(hR _ _ h6).2] at h4
  exact ⟨j,o,p,h6,h4,h5⟩
 refine ⟨v,σ',φ2,rfl,hret.le,fun b hb=>?_,h2,q8 hfl hret.rep,fun i e p hi hpi=>?_,fun t ht=>(hp2 t ht).trans ((hret.pin t ht).trans (hp t ht)),⟨hret.kept.os,hret.kept.tape,hret.kept.output,hret.kept.size,hret.kept.drawn,fun b hb hm=>hret.kept.block b hb fun h=>hm (hM b h)⟩⟩
 ·rcases hret.fresh b hb with h | h | h
  ·exact .inl h
  ·exact .inr (.inl h)
  ·exact .inr (.inr (hM b h))
 ·obtain ⟨j,o,rfl,h6,rfl⟩:=hL2 i e hi
  rw [(hR2 _ _ h6).2] at hpi
  rcases hret.mine _ _ _ h6 hpi with h | h
  ·exact .inl h
  ·exact .inr (hM _ h)
variable {V : Env} {T : Tab} {w0 : World} {σ0 : Sig} {φ0 : Pl} {M : Nat→Prop} {n : Nat} {rd : Option Nat} {mk : List Deferred} {ops : Array Oper} {o : Oper} {rest : List Oper} {fr : List (Nat×AV)} {sto : Sto} {K : St→Prop} {st st0 : St} {acc : List Tr}
theorem uJ(i id : Nat){k b : Nat}(hl : look sto i = some (.box [.d .nil]))(hlt : (Nat.blt id 1000000 && (!bx id fr && !aR id sto && !bo sto id)) = true) : Imp c ⟨fr,sto⟩ ⟨fr,(id,.row k b [])::bS i (.box [.own id 0]) sto⟩:=by
 simp only [Bool.and_eq_true,Bool.not_eq_true',Nat.blt_eq] at hlt
 obtain ⟨h1,⟨h2,h3⟩,h4⟩:=hlt
 intro a w σ φ hr
 have hn:=hr.nilRow (id:=id) (k:=k) (b:=b) (by simpa using h1) h2 h3
 have hne : id≠i:=by rintro rfl; simp [bo,hl] at h4
 have hE : Ext (fun _=>False) (bY φ id none) (bY φ id none) ((id,.row k b [])::sto) ((id,.row k b [])::bS i (.box [.own id 0]) sto):=by
  intro j _
  cases hj : look ((id,AObj.row k b [])::bS i (.box [.own id 0]) sto) j with
  | none=>exact .inl rfl
  | some e =>
    refine .inr ?_
    rcases ai hj with ⟨rfl,rfl⟩ | ⟨hne2,hj2⟩
    ·exact ⟨_,aP,rfl,_,rfl,compat.refl _⟩
    ·rw [cC] at hj2
     rcases ai hj2 with ⟨rfl,rfl⟩ | ⟨_,hj3⟩
     ·exact ⟨.box [.d .nil],by rw [aS hne2]; exact hl,rfl,.box [.own id 0],rfl,trivial⟩
     ·exact ⟨_,by rw [aS hne2]; exact hj3,rfl,_,rfl,compat.refl _⟩
 have hold : ∀ {j e},look ((id,AObj.row k b [])::bS i (.box [.own id 0]) sto) j = some e→(j = i∧e = .box [.own id 0])∨look ((id,AObj.row k b [])::sto) j = some e:=by
  intro j e hj
  rcases ai hj with ⟨rfl,rfl⟩ | ⟨hne2,hj2⟩
  ·exact .inr aP
  ·rw [cC] at hj2
   rcases ai hj2 with ⟨rfl,rfl⟩ | ⟨_,hj3⟩
   ·exact .inl ⟨rfl,rfl⟩
   ·exact .inr (by rw [aS hne2]; exact hj3)
 have hi : look ((id,AObj.row k b [])::sto) i = some (.box [.d .nil]):=by rw [aS (fun e=>hne e.symm)]; exact hl
 refine ⟨σ,_,hn.le,hn.fresh,⟨hn.inv.sig,fun j e hj=>?_,fun j j' e e' p p' hj hj' hne2 hp hp'=>?_⟩,fun j e p hj hp=>?_,fun s v hv=>?_,hn.defers,hn.size,hn.fra,hn.pin⟩
 ·rcases hold hj with ⟨rfl,rfl⟩ | hj2
  ·obtain ⟨B,cc,vs,t,h5,h6,h7,h8⟩:=hn.inv.obj _ _ hi
   refine ⟨B,cc,vs,t,h5,h6,?_,h8⟩
   cases vs with
   | nil=>exact h7.elim
   | cons v vs =>
     obtain ⟨h9,h10⟩:=h7
     cases vs with
     | cons _ _=>exact h10.elim
     | nil =>
       replace h9:=RepC.d_inv h9
       cases h9
       exact ⟨.ownNil aP aQ,trivial⟩
  ·exact (hn.inv.obj _ _ hj2).ext (X:=fun _=>False) (Sig.le_refl _) hE (fun j hj=>hj.elim) rfl fun _ _ _=>⟨rfl,rfl⟩
 ·have h5 : ∀ {j e},look ((id,AObj.row k b [])::bS i (.box [.own id 0]) sto) j = some e→∃ e0,look ((id,AObj.row k b [])::sto) j = some e0:=by
   intro j e hj
   rcases hold hj with ⟨rfl,rfl⟩ | hj2
   ·exact ⟨_,hi⟩
   ·exact ⟨_,hj2⟩
  obtain ⟨_,h6⟩:=h5 hj
  obtain ⟨_,h7⟩:=h5 hj'
  exact hn.inv.inj _ _ _ _ _ _ h6 h7 hne2 hp hp'
 ·rcases hold hj with ⟨rfl,rfl⟩ | hj2
  ·exact hn.mine _ _ _ hi hp
  ·exact hn.mine _ _ _ hj2 hp
 ·obtain ⟨u,hu,hru⟩:=hn.slot s v hv
  exact ⟨u,hu,hru.ext (Sig.le_refl _) hE fun j hj=>hj.elim⟩
theorem fp{t e : TypeId}{x y : Operand}{id m k k' b b' : Nat}{ik : IntKind}{h : Int}{xs : List (List D)}{z : List D}(ho : o.op = .slice t x none (some y) none)(ht : aW V.T t = some (e,k',b',z))(hx : ev st x = some (.one (.own id m)))(hy : ev st y = some (.one (.d (.int ik h))))
  (hl : look st.sto id = some (.row k b xs)) (hk : Nat.beq k k' = true) (h0 : 0≤h) (hm : h.toNat≤m) (hxs : m≤xs.length) : aV V st o 0 = some ⟨.one (.own id h.toNat),[],[]⟩:=by
 have e1 : Nat.ble h.toNat xs.length = true:=Nat.ble_eq.mpr (by omega)
 have e2 : Nat.ble h.toNat m = true:=Nat.ble_eq.mpr hm
 have e0 : Nat.ble 0 h.toNat = true:=Nat.ble_eq.mpr (Nat.zero_le _)
 simp only [aV,cT,b6,ho,cD,ga,hx,hy,h0,decide_true,cond_true,gb,ht,hl,hk,e0,e1,e2,Bool.and_self,Bool.or_true,Nat.beq_refl]
theorem oN{t e : TypeId}{x y : Operand}{id m k k' b b' : Nat}{ik : IntKind}{xs : List (List D)}{z : List D}(ho : o.op = .slice t x (some y) none none)(ht : aW V.T t = some (e,k',b',z))(hx : ev st x = some (.one (.own id m)))(hy : ev st y = some (.one (.d (.int ik 0))))
  (hl : look st.sto id = some (.row k b xs)) (hk : Nat.beq k k' = true) (hxs : m≤xs.length) : aV V st o 0 = some ⟨.one (.own id m),[],[]⟩:=by
 have e1 : Nat.ble m xs.length = true:=Nat.ble_eq.mpr hxs
 have e2 : Nat.ble m m = true:=Nat.ble_eq.mpr (Nat.le_refl _)
 have e0 : Nat.ble 0 m = true:=Nat.ble_eq.mpr (Nat.zero_le _)
 have e4 : (0 : Int)≤0:=Int.le_refl _
 simp only [aV,cT,b6,ho,cD,ga,hx,hy,e4,decide_true,cond_true,gb,ht,hl,hk,Int.toNat_zero,e0,e1,e2,Bool.and_self,Bool.or_true,Nat.beq_refl]
theorem qn{t e : TypeId}{x y : Operand}{id m k k' b b' : Nat}{ik : IntKind}{h : Int}{xs : List (List D)}{z : List D}(ho : o.op = .slice t x (some y) none none)(ht : aW V.T t = some (e,k',b',z))(hx : ev st x = some (.one (.own id m)))(hy : ev st y = some (.one (.d (.int ik h))))
  (hl : look st.sto id = some (.row k b xs)) (hk : Nat.beq k k' = true) (h0 : 0 < h) (hm : h.toNat≤m) (hxs : m≤xs.length) : aV V st o 0 = some ⟨.one (.sub id h.toNat (m - h.toNat)),[],[]⟩:=by
 have e1 : Nat.ble m xs.length = true:=Nat.ble_eq.mpr hxs
 have e2 : Nat.ble h.toNat m = true:=Nat.ble_eq.mpr hm
 have e3 : Nat.beq h.toNat 0 = false:=by
  cases hb : Nat.beq h.toNat 0 with
  | false=>rfl
  | true=>have:=Nat.eq_of_beq_eq_true hb; omega
 have e4 : (0 : Int)≤h:=by omega
 simp only [aV,cT,b6,ho,cD,ga,hx,hy,e4,decide_true,cond_true,gb,ht,hl,hk,e1,e2,e3,Bool.and_self,Bool.false_and,cond_false]
theorem eH(hT : ba P T){d : Nat}{t t2 e e2 k b k2 b2 k' b' id m : Nat}{z z2 : List D}{x y : Operand}{v : AV}{xs ys zs : List (List D)}
  (ho : o.op = .call { callee:=.builtin .append,args:=#[x,y],argTypes:=#[t,t2] }) (hg : o.guard = none) (hdst : o.dst = some d) (hd : Nat.blt d n = true) (ht : aW T t = some (e,k,b,z)) (ht2 : aW T t2 = some (e2,k2,b2,z2))
  (hlt : (Nat.blt id 1000000 || Nat.ble 2000000 id) = true) (hx : ev ⟨fr,sto⟩ x = some (.one (.own id m))) (hl : look sto id = some (.row k' b' xs)) (hkb : (Nat.beq k k' && Nat.beq b b') = true) (hy : ev ⟨fr,sto⟩ y = some v) (hs : fj ⟨fr,sto⟩ k v = some ys) (hzs : zs = xs.take m ++ ys)
  (hm : m≤100000000) (hys : ys.length≤100000) (hb : b≤100)
  (h : ae P ⟨w0,σ0,φ0,M,n,rd,mk⟩ ops rest ⟨(d,.one (.own id (m + ys.length)))::mc id fr,bS id (.row k b zs) (dy id sto)⟩ K) : ae P ⟨w0,σ0,φ0,M,n,rd,mk⟩ ops (o::rest) ⟨fr,sto⟩ K:=by
 have h47 : (m + ys.length) * b≤2 ^ 47:=Nat.le_trans (Nat.mul_le_mul (show m + ys.length≤200000000 by omega) hb) (by omega)
 exact cK hT ho hg (by rw [hdst]; exact hd) ht ht2 hlt hx hl hkb hy hs hzs (by omega) h47 (by rw [hdst]; exact h)
theorem r8{d : Nat}{fop : Operand}{args : Array Operand}{ats : Array TypeId}{f : FuncId}{caps : List D}{avs avs' : List AV}{rav : AV}{rsto : Sto}{os : List (Nat×AObj)}(dl : List Nat)
  (ho : o.op = .call { callee:=.value fop,args:=args,argTypes:=ats }) (hg : o.guard = none) (hdst : o.dst = some d) (hd : Nat.blt d c.n = true) (hos : dI sto dl = some os) (hf : evS os ⟨fr,sto⟩ fop = some (.one (.d (.fn f caps))))
  (ha : kI os ⟨fr,sto⟩ args.toList = some avs) (hD : cw avs = true) (hap : (avs ++ caps.map fun x=>.one (.d x)) = avs') (hC : CallA P f avs' [] rav rsto) (hfl : fh rav = true)
  (k : ar P c ops st0 rest ⟨(d,rav)::fr,sto⟩ (⟨rav,[],dl,[]⟩::acc) K) : ar P c ops st0 (o::rest) ⟨fr,sto⟩ acc K:=by
 subst hap
 exact mb hg (wV dl ho (by rw [hdst]; exact hd) hos hf ha hD hC hfl) (by rw [hdst]; exact k)
theorem B5{bl : Nat}{g : Operand}{ps : Array Nat}{assign body code : Code}{Q : Exit→St→Prop}{st' : St}(hi : Imp c st st')(h : OkR P c bl g ps assign body code st' Q) : OkR P c bl g ps assign body code st Q:=fun a w σ φ hr=>by
 obtain ⟨σ',φ',hr'⟩:=hi a w σ φ hr
 exact h a w σ' φ' hr'
theorem y7{s' : Sto}(h : SubL sto s') : Imp c ⟨fr,sto⟩ ⟨fr,s'⟩:=fun a w σ φ hr=>⟨σ,φ,hr.dropTo fun i e hi=>h.look hi⟩
theorem gx(dl : List Nat){d : Nat}{fop : Operand}{args : Array Operand}{ats : Array TypeId}{f : FuncId}{caps : List D}{avs avs' : List AV}{rav : AV}{rsto : Sto}{os : List (Nat×AObj)}
  (ho : o.op = .call { callee:=.value fop,args:=args,argTypes:=ats }) (hg : o.guard = none) (hdst : o.dst = some d) (hd : Nat.blt d n = true) (hos : dI sto dl = some os) (hf : evS os ⟨fr,sto⟩ fop = some (.one (.d (.fn f caps))))
  (ha : kI os ⟨fr,sto⟩ args.toList = some avs) (hD : cw avs = true) (hap : (avs ++ caps.map fun x=>.one (.d x)) = avs') (hC : CallA P f avs' [] rav rsto) (hfl : fh rav = true)
  (h : ae P ⟨w0,σ0,φ0,M,n,rd,mk⟩ ops rest ⟨(d,rav)::fr,sto⟩ K) : ae P ⟨w0,σ0,φ0,M,n,rd,mk⟩ ops (o::rest) ⟨fr,sto⟩ K:=by
 subst hap
 obtain ⟨ss,h1,h2⟩:=iM (st:=⟨fr,sto⟩) hos
 exact ji ho hg (by rw [hdst]; exact hd) (bq h1) (by rw [h2]; exact hf) (by rw [mF h2]; exact ha) hD hC hfl (by rw [hdst]; exact h)
end Go.Abs
namespace Go.Abs
open Go
variable {P : Program} {c : Ctx} {T : Tab}
theorem eZ(hT : ba P T){ops : Array Oper}{o : Oper}{rest : List Oper}{st : St}{K : St→Prop}{op : BinOp}{t ty : TypeId}{x y : Operand}{e : Bool}{k b : Nat}{xs : List (List D)}
  (ho : o.op = .binOp op t x y ty) (hop : iN op = some e) (hg : o.guard = none) (hd : aU c.n o.dst = true) (ht : (ll T t && oT (ev st y)) = true) (hx : ev st x = some (.one (.d (.sl k b xs))))
  (h : ∀ r : Bool,(r = true→xs = [])→ae P c ops rest ⟨bt o.dst (.one (.d (.bool (r == e)))) st.fr,st.sto⟩ K) : ae P c ops (o::rest) st K :=
 bk hg fun a w σ φ hr=>by
  rw [Bool.and_eq_true] at ht
  obtain ⟨el,hu⟩:=sU hT ht.1
  have hr1 : ∃ A n cap,a.eval x = .slice A n cap∧(A.isNone = true→xs = []):=by
   have h1:=RepC.d_inv (aI hr hx)
   generalize a.eval x = u at h1
   cases h1 with
   | sl vs hc h48 hb hk hA hh =>
     refine ⟨_,_,_,rfl,fun hn=>?_⟩
     cases xs with
     | nil=>rfl
     | cons z zs =>
       obtain ⟨B,o,cells,rfl,_⟩:=hA (by simp)
       simp at hn
  obtain ⟨A,n,cap,hx,hA⟩:=hr1
  have hy : a.eval y = .slice none 0 0:=by
   have h2:=ht.2
   unfold oT at h2
   split at h2
   ·rename_i hy
    have h1:=RepC.d_inv (aI hr hy)
    generalize a.eval y = u at h1
    cases h1; rfl
   ·cases h2
  refine ⟨.bool (A.isNone == e),w,_,σ,φ,?_,hr.put (v:=.one (.d (.bool (A.isNone == e)))) hd (RepC.d .bool),h _ hA⟩
  cases op <;> simp only [iN,Option.some.injEq,reduceCtorEq] at hop <;> subst hop
  ·simp [execOp,ho,hx,hy,bQ,Lib.run_eql_slice_nil _ _ _ _ _ _ _ _ hu]
  ·simp [execOp,ho,hx,hy,bQ,run_neq_slice_nil_any _ _ _ _ _ _ _ _ hu]
variable {w0 : World} {σ0 : Sig} {φ0 : Pl} {fr : List (Nat×AV)} {sto : Sto}
theorem jZ(i j0 id : Nat){k b : Nat}{cs : List AC}(hl : look sto i = some (.box cs))(hc : cs[j0]? = some (.d .nil))(hlt : (Nat.blt id 1000000 && (!bx id fr && !aR id sto && !bo sto id)) = true) : Imp c ⟨fr,sto⟩ ⟨fr,(id,.row k b [])::bS i (.box (cs.set j0 (.own id 0))) sto⟩:=by
 simp only [Bool.and_eq_true,Bool.not_eq_true',Nat.blt_eq] at hlt
 obtain ⟨h1,⟨h2,h3⟩,h4⟩:=hlt
 intro a w σ φ hr
 have hn:=hr.nilRow (id:=id) (k:=k) (b:=b) (by simpa using h1) h2 h3
 have hne : id≠i:=by rintro rfl; simp [bo,hl] at h4
 have hE : Ext (fun _=>False) (bY φ id none) (bY φ id none) ((id,.row k b [])::sto) ((id,.row k b [])::bS i (.box (cs.set j0 (.own id 0))) sto):=by
  intro j _
  cases hj : look ((id,AObj.row k b [])::bS i (.box (cs.set j0 (.own id 0))) sto) j with
  | none=>exact .inl rfl
  | some e =>
    refine .inr ?_
    rcases ai hj with ⟨rfl,rfl⟩ | ⟨hne2,hj2⟩
    ·exact ⟨_,aP,rfl,_,rfl,compat.refl _⟩
    ·rw [cC] at hj2
     rcases ai hj2 with ⟨rfl,rfl⟩ | ⟨_,hj3⟩
     ·exact ⟨.box cs,by rw [aS hne2]; exact hl,rfl,.box (cs.set j0 (.own id 0)),rfl,trivial⟩
     ·exact ⟨_,by rw [aS hne2]; exact hj3,rfl,_,rfl,compat.refl _⟩
 have hold : ∀ {j e},look ((id,AObj.row k b [])::bS i (.box (cs.set j0 (.own id 0))) sto) j = some e→(j = i∧e = .box (cs.set j0 (.own id 0)))∨look ((id,AObj.row k b [])::sto) j = some e:=by
  intro j e hj
  rcases ai hj with ⟨rfl,rfl⟩ | ⟨hne2,hj2⟩
  ·exact .inr aP
  ·rw [cC] at hj2
   rcases ai hj2 with ⟨rfl,rfl⟩ | ⟨_,hj3⟩
   ·exact .inl ⟨rfl,rfl⟩
   ·exact .inr (by rw [aS hne2]; exact hj3)
 have hi : look ((id,AObj.row k b [])::sto) i = some (.box cs):=by rw [aS (fun e=>hne e.symm)]; exact hl
 refine ⟨σ,_,hn.le,hn.fresh,⟨hn.inv.sig,fun j e hj=>?_,fun j j' e e' p p' hj hj' hne2 hp hp'=>?_⟩,fun j e p hj hp=>?_,fun s v hv=>?_,hn.defers,hn.size,hn.fra,hn.pin⟩
 ·rcases hold hj with ⟨rfl,rfl⟩ | hj2
  ·obtain ⟨B,cc,vs,t,h5,h6,h7,h8⟩:=hn.inv.obj _ _ hi
   refine ⟨B,cc,vs,t,h5,h6,All2.of_get (by rw [List.length_set]; exact h7.length) fun m x u hx hu=>?_,h8⟩
   by_cases hm : j0 = m
   ·subst hm
    have hlt : j0 < cs.length:=(List.getElem?_eq_some_iff.1 hc).1
    rw [List.getElem?_set_self hlt] at hx
    cases hx
    obtain ⟨u',hu',hr9⟩:=h7.get hc
    rw [hu] at hu'; cases hu'
    replace hr9:=RepC.d_inv hr9
    cases hr9
    exact .ownNil aP aQ
   ·rw [List.getElem?_set_ne hm] at hx
    obtain ⟨u',hu',hr9⟩:=h7.get hx
    rw [hu] at hu'; cases hu'
    exact hr9.ext (Sig.le_refl _) hE fun j hj=>hj.elim
  ·exact (hn.inv.obj _ _ hj2).ext (X:=fun _=>False) (Sig.le_refl _) hE (fun j hj=>hj.elim) rfl fun _ _ _=>⟨rfl,rfl⟩
 ·have h5 : ∀ {j e},look ((id,AObj.row k b [])::bS i (.box (cs.set j0 (.own id 0))) sto) j = some e→∃ e0,look ((id,AObj.row k b [])::sto) j = some e0:=by
   intro j e hj
   rcases hold hj with ⟨rfl,rfl⟩ | hj2
   ·exact ⟨_,hi⟩
   ·exact ⟨_,hj2⟩
  obtain ⟨_,h6⟩:=h5 hj
  obtain ⟨_,h7⟩:=h5 hj'
  exact hn.inv.inj _ _ _ _ _ _ h6 h7 hne2 hp hp'
 ·rcases hold hj with ⟨rfl,rfl⟩ | hj2
  ·exact hn.mine _ _ _ hi hp
  ·exact hn.mine _ _ _ hj2 hp
 ·obtain ⟨u,hu,hru⟩:=hn.slot s v hv
  exact ⟨u,hu,hru.ext (Sig.le_refl _) hE fun j hj=>hj.elim⟩
theorem iz{V : Env}{st : St}{o : Oper}{id i n k b k' b' : Nat}{t t2 : TypeId}{x y : Operand}{v : AV}{xs ys : List (List D)}{e : TypeId}{z : List D}{q : TypeId×Nat×Nat×List D}
  (ho : o.op = .call { callee:=.builtin .append,args:=⟨[x,y]⟩,argTypes:=⟨[t,t2]⟩ }) (ht : aW V.T t = some (e,k,b,z)) (ht2 : aW V.T t2 = some q) (hx : ev st x = some (.one (.own i n))) (hl : look st.sto i = some (.row k' b' xs))
  (hkb : (Nat.beq k k' && Nat.beq b b') = true) (hy : ev st y = some v) (hs : fj st k v = some ys) (h1 : n + ys.length≤1000000000) (h2 : (n + ys.length) * b≤100000000000) :
  aV V st o id = some ⟨.one (.own id (n + ys.length)),[(id,some (.row k b (xs.take n ++ ys))),(i,none)],[id]⟩:=by
 obtain ⟨q1,q2,q3,q4⟩:=q
 have e1 : Nat.ble (n + ys.length) 1000000000 = true:=by simpa using h1
 have e2 : Nat.ble ((n + ys.length) * b) 100000000000 = true:=by simpa using h2
 simp only [aV,cT,b6,ho,cD,tx,hx,hy,ht,ht2,hl,hs,hkb,e1,e2,cond_true,Bool.and_self,mD,List.map_cons,List.map_nil]
end Go.Abs
namespace Go.Proofs.YtpejdgkaapnekaaGreat
open Go Go.Abs
attribute [local irreducible] ae OkC ar aA av aN
set_option maxRecDepth 10000
theorem KD(l : List Int) : CallA Tryz.prog 129 [.one (.d (aM l))] [] (.one (.d (aM l))) []:=by
 refine enter af Tryz.func129 rfl (by decide +kernel) rfl fun hok w0 σ0 φ0 M=>?_
 have h1:=hok.1.sl; clear hok; simp only [List.length_map] at h1
 repeat' (first|(refine h1H ?_; (refine h6H ?_; refine eZ af J J J J J J (fun r hr=>?_)))|(refine h1H ?_; (refine h0H ?_; refine cK af J J J J J (id:=0) J J J J J J J (by simp only [List.length_map,Nat.zero_add]; omega) (by simp only [List.length_map,Nat.zero_add]; omega) ?_))|(refine h4H ?_; first|refine bf (bq (dl:=[0]) J) (bH ?_)|refine bf (kK (s:=2) (k:=1) (b:=8) J) (bH ?_))|refine wG ?_|(refine h4H ?_; refine ah J (fun h=>?_) (fun h=>?_)))
 ·have e:=hr (by simpa using h)
  simp only [aM,e]
 ·simp only [dq,aM,List.length_map,Nat.zero_add,List.take_nil,List.nil_append]
  exact congrArg (fun x=>AV.one (AC.d (D.sl _ _ x))) (List.take_of_length_le (by simp))
theorem KF(l : List Val) : CallA Tryz.prog 144 [.one (.d (aG l))] [] (.one (.d (aG l))) []:=by
 refine enter af Tryz.func144 rfl (by decide +kernel) rfl fun hok w0 σ0 φ0 M=>?_
 have h1:=hok.1.sl; clear hok; simp only [List.length_map] at h1
 repeat' (first|(refine h1H ?_; (refine h6H ?_; refine eZ af J J J J J J (fun r hr=>?_)))|(refine h1H ?_; (refine h0H ?_; refine cK af J J J J J (id:=0) J J J J J J J (by simp only [List.length_map,Nat.zero_add]; omega) (by simp only [List.length_map,Nat.zero_add]; omega) ?_))|(refine h4H ?_; first|refine bf (bq (dl:=[0]) J) (bH ?_)|refine bf (kK (s:=2) (k:=4) (b:=40) J) (bH ?_))|refine wG ?_|(refine h4H ?_; refine ah J (fun h=>?_) (fun h=>?_)))
 ·have e:=hr (by simpa using h)
  simp only [aG,e]
 ·simp only [dq,aG,List.length_map,Nat.zero_add,List.take_nil,List.nil_append]
  exact congrArg (fun x=>AV.one (AC.d (D.sl _ _ x))) (List.take_of_length_le (by simp))
theorem c97(l : List Dim) : CallA Tryz.prog 97 [.one (.d (aF l))] [] (.one (.d (aF l))) []:=by
 refine enter af Tryz.func97 rfl (by decide +kernel) rfl fun hok w0 σ0 φ0 M=>?_
 have h1:=hok.1.sl; clear hok; simp only [List.length_map] at h1
 repeat' (first|(refine h1H ?_; (refine h6H ?_; refine eZ af J J J J J J (fun r hr=>?_)))|(refine h1H ?_; (refine h0H ?_; refine cK af J J J J J (id:=0) J J J J J J J (by simp only [List.length_map,Nat.zero_add]; omega) (by simp only [List.length_map,Nat.zero_add]; omega) ?_))|(refine h4H ?_; first|refine bf (bq (dl:=[0]) J) (bH ?_)|refine bf (kK (s:=2) (k:=3) (b:=32) J) (bH ?_))|refine wG ?_|(refine h4H ?_; refine ah J (fun h=>?_) (fun h=>?_)))
 ·have e:=hr (by simpa using h)
  simp only [aF,e]
 ·simp only [dq,aF,List.length_map,Nat.zero_add,List.take_nil,List.nil_append]
  exact congrArg (fun x=>AV.one (AC.d (D.sl _ _ x))) (List.take_of_length_le (by simp))
theorem OR(l : List Attr) : CallA Tryz.prog 145 [.one (.d (ax l))] [] (.one (.d (ax l))) []:=by
 refine enter af Tryz.func145 rfl (by decide +kernel) rfl fun hok w0 σ0 φ0 M=>?_
 have h1:=hok.1.sl; clear hok; simp only [List.length_map] at h1
 repeat' (first|(refine h1H ?_; (refine h6H ?_; refine eZ af J J J J J J (fun r hr=>?_)))|(refine h1H ?_; (refine h0H ?_; refine cK af J J J J J (id:=0) J J J J J J J (by simp only [List.length_map,Nat.zero_add]; omega) (by simp only [List.length_map,Nat.zero_add]; omega) ?_))|(refine h4H ?_; first|refine bf (bq (dl:=[0]) J) (bH ?_)|refine bf (kK (s:=2) (k:=2) (b:=24) J) (bH ?_))|refine wG ?_|(refine h4H ?_; refine ah J (fun h=>?_) (fun h=>?_)))
 ·have e:=hr (by simpa using h)
  simp only [ax,e]
 ·simp only [dq,ax,List.length_map,Nat.zero_add,List.take_nil,List.nil_append]
  exact congrArg (fun x=>AV.one (AC.d (D.sl _ _ x))) (List.take_of_length_le (by simp))
end Go.Proofs.YtpejdgkaapnekaaGreat
