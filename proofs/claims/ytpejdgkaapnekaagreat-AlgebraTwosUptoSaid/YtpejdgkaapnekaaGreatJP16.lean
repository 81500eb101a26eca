import Derived.Test.YtpejdgkaapnekaaGreatRows
import Derived.Deep.Slices
import Derived.Deep.DeepHandedRow
import Derived.ReadAgain
import Derived.MapPlaces
import Derived.WalkKit
import Derived.ProofKit
import Derived.OpenShut
import Derived.JoinedCond
import Derived.Test.YtpejdgkaapnekaaGreatJP15
import Derived.Test.YtpejdgkaapnekaaGreatJP14
set_option linter.unusedVariables false
set_option linter.unusedSimpArgs false
set_option maxHeartbeats 1000000
namespace Go.Proofs.YtpejdgkaapnekaaGreat
open Go Go.Abs
def ltC(x y : Cell) : Prop:=aJ x.at' y.at' < 0
def leC(x y : Cell) : Bool:=decide (aJ x.at' y.at'≤0)
def bG(x y : Cell) : Prop:=x.at'≠y.at'
def bp(cs : List Cell) : List Cell:=cs.mergeSort leC
theorem cw(cs : List Cell) : (bp cs).Perm cs:=List.mergeSort_perm cs leC
theorem gB{x y z : Cell}(h1 : ltC x y)(h2 : ltC y z) : ltC x z:=by
 unfold ltC at *
 have h:=eX x.at' y.at' z.at' (by omega) (by omega)
 have:=h.2
 by_cases h0 : aJ x.at' z.at' = 0
 ·have:=this h0; omega
 ·omega
theorem xQ{x : Cell}(h : ltC x x) : False:=by
 unfold ltC at h; rw [gx] at h; omega
theorem By{x y : Cell}(h : ltC x y) : bG x y:=fun e=>by
 unfold ltC at h; rw [e,gx] at h; omega
theorem jw{x y : Cell}(h : ¬ aJ y.at' x.at' < 0)(hd : bG x y) : ltC x y:=by
 have h1:=fp x.at' y.at'
 unfold ltC
 by_cases h0 : aJ x.at' y.at' = 0
 ·exact absurd (rj _ _ h0) hd
 ·omega
theorem xR : ∀ {x y : Cell},bG x y→bG y x:=fun h e=>h e.symm
theorem gg : ∀ {l m : List Cell},l.Perm m→l.Pairwise ltC→m.Pairwise ltC→l = m
 | [],m,hp,_,_=>(List.nil_perm.1 hp).symm ▸ rfl
 | x::l,[],hp,_,_=>by have:=hp.length_eq; simp at this
 | x::l,y::m,hp,h1,h2=>by
   rw [List.pairwise_cons] at h1 h2
   have hxy : x = y:=by
    have hx : x∈y::m:=hp.mem_iff.1 List.mem_cons_self
    have hy : y∈x::l:=hp.mem_iff.2 List.mem_cons_self
    rcases List.mem_cons.1 hx with e | hx
    ·exact e
    ·rcases List.mem_cons.1 hy with e | hy
     ·exact e.symm
     ·exact (xQ (gB (h1.1 y hy) (h2.1 x hx))).elim
   subst hxy
   rw [gg (hp.cons_inv) h1.2 h2.2]
theorem c3{l : List Cell}(h : l.Pairwise ltC) : l.Pairwise bG:=h.imp By
theorem sq{l m : List Cell}(hp : l.Perm m)(h : m.Pairwise bG) : l.Pairwise bG:=(hp.pairwise_iff (fun h=>xR h)).2 h
theorem dH{cs : List Cell}(h : cs.Pairwise bG) : (bp cs).Pairwise ltC:=by
 have h1 : (bp cs).Pairwise fun a b=>leC a b = true:=List.pairwise_mergeSort (le:=leC) (fun a b c h1 h2=>by
  simp only [leC,decide_eq_true_eq] at *
  exact (eX _ _ _ h1 h2).1) (fun a b=>by
  have:=fp a.at' b.at'
  simp only [leC,Bool.or_eq_true,decide_eq_true_eq]; omega) cs
 have h2:=sq (cw cs) h
 refine (h1.and h2).imp fun {a b} h=>?_
 have hl : aJ a.at' b.at'≤0:=by simpa [leC] using h.1
 refine jw ?_ h.2
 have:=fp a.at' b.at'
 omega
theorem y7{cs : List Cell}(h : cs.Pairwise bG) : ∀ l : List Cell,l.Perm cs→l.Pairwise (fun x y=>¬ aJ y.at' x.at' < 0)→l = bp cs:=fun l hp hs =>
 gg (hp.trans (cw cs).symm) ((hs.and (sq hp h)).imp fun {a b} h=>jw h.1 h.2) (dH h)
theorem pg{cs : List Cell}(h : cs.Pairwise ltC) : bp cs = cs:=gg (cw cs) (dH (c3 h)) h
theorem fo(cs : List Cell) : (bp cs).length = cs.length:=(cw cs).length_eq
theorem uu{cs ds : List Cell}(p : Cell→Bool)(h : cs.Pairwise bG)(hd : ds.Pairwise ltC)(he : (cs.filter p).Perm ds) : (bp cs).filter p = ds :=
 gg (((cw cs).filter p).trans he) ((dH h).filter p) hd
theorem nr{ds : List Dim}{ats : List Attr} : ∀ {cs : List Cell} {p : List Int},cF ds ats (some p) cs = 0→(∀ c∈cs,aJ p c.at' < 0)∧cs.Pairwise ltC∧∀ c∈cs,cU ds ats c.at' c.vals = 0
 | [],p,_=>⟨by simp,.nil,by simp⟩
 | c::r,p,h=>by
   simp only [cF] at h
   split at h
   ·rename_i h1; exact absurd h h1
   split at h
   ·omega
   split at h
   ·omega
   rename_i h1 h2 h3
   have hlt : aJ p c.at' < 0:=by omega
   obtain ⟨i1,i2,i3⟩:=nr h
   refine ⟨fun x hx=>?_,List.pairwise_cons.2 ⟨i1,i2⟩,fun x hx=>?_⟩
   ·rcases List.mem_cons.1 hx with rfl | hx
    ·exact hlt
    ·exact gB (x:=⟨p,[]⟩) (y:=c) hlt (i1 x hx)
   ·rcases List.mem_cons.1 hx with rfl | hx
    ·simpa using h1
    ·exact i3 x hx
theorem uv{ds : List Dim}{ats : List Attr}{cs : List Cell}(h : cF ds ats none cs = 0) : cs.Pairwise ltC∧∀ c∈cs,cU ds ats c.at' c.vals = 0:=by
 cases cs with
 | nil=>exact ⟨.nil,by simp⟩
 | cons c r =>
   simp only [cF] at h
   split at h
   ·rename_i h1; exact absurd h h1
   rename_i h1
   obtain ⟨i1,i2,i3⟩:=nr h
   refine ⟨List.pairwise_cons.2 ⟨i1,i2⟩,fun x hx=>?_⟩
   rcases List.mem_cons.1 hx with rfl | hx
   ·simpa using h1
   ·exact i3 x hx
structure OkA (ds : List Dim) (ats : List Attr) (cs : List Cell) : Prop where
 sch : cG ds ats = 0
 few : cs.length≤4096
 srt : cs.Pairwise ltC
 cel : ∀ c∈cs,cU ds ats c.at' c.vals = 0
theorem okA{ds : List Dim}{ats : List Attr}{cs : List Cell}(h : bz ds ats cs = 0) : OkA ds ats cs:=by
 unfold bz at h
 split at h
 ·rename_i h1; exact absurd h h1
 split at h
 ·omega
 rename_i h1 h2
 obtain ⟨h3,h4⟩:=uv h
 exact ⟨by simpa using h1,by omega,h3,h4⟩
theorem qk{ds : List Dim}{ats : List Attr} : ∀ {cs : List Cell} {p : Option (List Int)},(∀ q,p = some q→∀ c∈cs,aJ q c.at' < 0)→cs.Pairwise ltC→(∀ c∈cs,cU ds ats c.at' c.vals = 0)→cF ds ats p cs = 0
 | [],p,_,_,_=>by cases p <;> rfl
 | c::r,p,h1,h2,h3=>by
   rw [List.pairwise_cons] at h2
   have h4:=h3 c List.mem_cons_self
   have ih : cF ds ats (some c.at') r = 0:=qk (fun q e x hx=>by cases e; exact h2.1 x hx) h2.2 (fun x hx=>h3 x (List.mem_cons_of_mem _ hx))
   cases p with
   | none=>simp only [cF,h4,ne_eq,not_true_eq_false,if_false,ih]
   | some q =>
     have h5:=h1 q rfl c List.mem_cons_self
     simp only [cF,h4,ne_eq,not_true_eq_false,if_false,ih]
     rw [if_neg (by omega),if_neg (by omega)]
theorem nt{ds : List Dim}{ats : List Attr}{cs : List Cell}(h : OkA ds ats cs) : bz ds ats cs = 0:=by
 unfold bz
 rw [if_neg (by simp [h.sch]),if_neg (by have:=h.few; omega)]
 exact qk (fun q e=>by cases e) h.srt h.cel
theorem bg{ds : List Dim}{ats : List Attr}(h : cG ds ats = 0) : c5 ds = 0∧1≤ats.length∧ats.length≤6∧ee (ds.map Dim.name) ats = 0:=by
 unfold cG at h
 split at h
 ·rename_i h1; exact absurd h h1
 split at h
 ·omega
 rename_i h1 h2
 exact ⟨by simpa using h1,by omega,by omega,h⟩
theorem sr : ∀ {ds : List Dim} {met : List (List UInt8)},eJ met ds = 0→(∀ d∈ds,dV d.lo d.hi = true∧ea d.name = true∧d.name ∉ met)∧(ds.map Dim.name).Nodup
 | [],met,_=>⟨by simp,by simp⟩
 | d::r,met,h=>by
   simp only [eJ] at h
   split at h
   ·omega
   split at h
   ·omega
   rename_i h1 h2
   obtain ⟨i1,i2⟩:=sr h
   simp only [Bool.or_eq_true,Bool.not_eq_true',not_or,Bool.not_eq_false,Bool.not_eq_true,List.contains_eq_mem,decide_eq_true_eq,decide_eq_false_iff_not] at h1
   refine ⟨fun x hx=>?_,?_⟩
   ·rcases List.mem_cons.1 hx with rfl | hx
    ·exact ⟨by simpa using h2,h1.1,h1.2⟩
    ·obtain ⟨j1,j2,j3⟩:=i1 x hx
     exact ⟨j1,j2,fun hm=>j3 (List.mem_append.2 (.inl hm))⟩
   ·rw [List.map_cons,List.nodup_cons]
    refine ⟨fun hm=>?_,i2⟩
    obtain ⟨x,hx,he⟩:=List.mem_map.1 hm
    exact (i1 x hx).2.2 (by rw [he]; simp)
theorem pr{ds : List Dim}(h : c5 ds = 0) : 1≤ds.length∧ds.length≤4∧(∀ d∈ds,dV d.lo d.hi = true∧ea d.name = true)∧(ds.map Dim.name).Nodup:=by
 unfold c5 at h
 split at h
 ·omega
 rename_i h1
 obtain ⟨h2,h3⟩:=sr h
 exact ⟨by omega,by omega,fun d hd=>⟨(h2 d hd).1,(h2 d hd).2.1⟩,h3⟩
theorem boundsF_ok{lo hi : Int} : dV lo hi = true↔-1073741824≤lo∧lo≤1073741824∧lo≤hi∧hi≤1073741825:=by
 simp only [dV,Bool.and_eq_true,decide_eq_true_eq]; omega
theorem cellF_ok{ds : List Dim}{ats : List Attr}{at' : List Int}{vs : List Val} : cU ds ats at' vs = 0↔at'.length = ds.length∧vs.length = ats.length∧dK ds at' = true∧gK ats vs = 0:=by
 unfold cU
 constructor
 ·intro h
  split at h
  ·omega
  rename_i h1
  have e1 : at'.length = ds.length:=by omega
  split at h
  ·omega
  rename_i h2
  refine ⟨e1,by omega,?_,h⟩
  simpa [ofF,e1] using h2
 ·rintro ⟨h1,h2,h3,h4⟩
  rw [if_neg (by omega),if_neg (by simp [ofF,h1,h3])]
  exact h4
theorem c7 : ∀ {ds : List Dim} {xs : List Int},xs.length = ds.length→(dK ds xs = true↔∀ i,i < ds.length→(at_ ds i).lo≤at_ xs i∧at_ xs i≤fj (at_ ds i).hi)
 | [],[],_=>by simp [dK]
 | d::ds,x::xs,h=>by
   have ih:=c7 (ds:=ds) (xs:=xs) (by simpa using h)
   simp only [dK,Bool.and_eq_true,decide_eq_true_eq,ih]
   constructor
   ·rintro ⟨⟨h1,h2⟩,h3⟩ i hi
    cases i with
    | zero=>exact ⟨h1,h2⟩
    | succ i=>exact h3 i (by simpa using hi)
   ·intro h4
    exact ⟨⟨(h4 0 (by simp)).1,(h4 0 (by simp)).2⟩,fun i hi=>h4 (i + 1) (by simpa using hi)⟩
 | [],_::_,h=>by simp at h
 | _::_,[],h=>by simp at h
end Go.Proofs.YtpejdgkaapnekaaGreat
namespace Go.Proofs.YtpejdgkaapnekaaGreat
open Go Go.Abs
attribute [local irreducible] aa OkC aq aC ax aS
set_option maxRecDepth 10000
theorem sh{s : List UInt8} : ea s = true↔(1≤s.length∧s.length≤12)∧fU (at_ s 0).toNat = true∧∀ j,j < s.length→fE (at_ s j).toNat = true:=by
 simp only [ea,Bool.and_eq_true,decide_eq_true_eq,List.all_eq_true,and_assoc]
 refine and_congr_right fun _=>and_congr_right fun _=>and_congr_right fun _=>⟨fun h j hj=>h _ (aX hj),fun h x hx=>?_⟩
 obtain ⟨j,hj⟩:=List.getElem?_of_mem hx
 have hl:=(List.getElem?_eq_some_iff.1 hj).1
 rw [cZ hl] at hj
 rw [← Option.some.inj hj]; exact h j hl
theorem Bl(s : List UInt8) : CallA Tryz.prog 142 [.one (.d (.str s))] [] (.one (.d (.bool (ea s)))) []:=by
 refine enter ag Tryz.func142 rfl (by decide +kernel) rfl fun hok w0 σ0 φ0 M=>?_
 have h1:=hok.1.str; clear hok
 repeat' (first|refine wG ?_|(refine h1H ?_; (refine h4H ?_; refine bn J J J J (fun h=>?_) (fun h=>?_)))|(refine h5H ?_; first|refine ao J (fun h=>?_) (fun h=>?_)|refine bc 4 J [(15,_),(16,_)] (q2Q J J) (fun (k : Nat)=>[(17,.one (.d (.int .i64 k)))]) (fun (k : Nat)=>k≤s.length∧1≤s.length∧s.length≤12∧(0 < k→fU (at_ s 0).toNat = true)∧(∀ j,j < k→fE (at_ s j).toNat = true)) (fun (k : Nat)=>s.length - k) 0 (q1Q J) ?_ (fun k ⟨hk,hq,hq2,hf,hs⟩=>?_))|(show Exists _; refine Exists.intro (k + 1) ⟨?_,?_,wK,(q1Q J),(q2Q J J)⟩))
 all_goals (try simp only [a0A,a1A,a2A,Bool.not_eq_false',a3A,a4A,a5A,a7A,a8A,a9A,Bm,DW,pq] at *)
 all_goals first
  | omega
  | (refine ⟨by omega,by omega,by omega,?_,?_⟩
     ·intro hk0
      by_cases h0 : 0 < k
      ·exact hf h0
      ·have hk0' : k = 0:=by omega
       subst hk0'
       simp only [fU,Bool.and_eq_true,decide_eq_true_eq]; omega
     ·intro j hj
      rcases Nat.lt_or_ge j k with hjk | hjk
      ·exact hs j hjk
      ·have hje : j = k:=by omega
       subst hje
       simp only [fE,fU,Bool.or_eq_true,Bool.and_eq_true,decide_eq_true_eq]; omega)
  | (congr 3; symm; rw [Bool.eq_false_iff,ne_eq,sh]; rintro ⟨hlen,h0,hj⟩
     first
      | omega
      | (have hjk:=hj k (by omega)
         simp only [fE,fU,Bool.or_eq_true,Bool.and_eq_true,decide_eq_true_eq] at hjk h0
         by_cases hk0 : k = 0
         ·subst hk0; omega
         ·omega))
  | (congr 3; symm; rw [sh]; exact ⟨⟨hq,hq2⟩,hf (by omega),fun j hj=>hs j (by omega)⟩)
  | (refine ⟨by omega,by omega,by omega,fun h=>by omega,fun j hj=>by omega⟩)
theorem EO(ds : List Dim)(hne : c5 ds≠0) : CallA Tryz.prog 190 [.one (.d (aj ds)),.one (.mapr 1000000)] [(1000000,.map false false (cR []))] (.one (.d (.int .i64 (c5 ds)))) []:=by
 refine enter ag Tryz.func190 rfl (by decide +kernel) rfl fun hok w0 σ0 φ0 M=>?_
 have h1:=hok.1.sl.1; clear hok; simp only [List.length_map] at h1
 repeat' (first|(refine h1H ?_; (refine h0H ?_; refine ab J J J J J J J J (Bl _) J ?_))|refine wG ?_|(refine h1H ?_; (refine h4H ?_; refine bn J J J J (fun h=>?_) (fun h=>?_)))|(refine h5H ?_; first|refine ao J (fun h=>?_) (fun h=>?_)|refine dJ 4 J [(1,_),(15,_),(16,_)] (q3Q J J J) (fun (p : Nat×List (List UInt8))=>[(17,.one (.d (.int .i64 (p.1 : Int))))]) (fun (p : Nat×List (List UInt8))=>[(1000000,.map false false (cR p.2))]) (fun (p : Nat×List (List UInt8))=>p.1≤ds.length∧(1 : Int)≤ds.length∧(ds.length : Int)≤4∧c5 ds = eJ p.2 (ds.drop p.1)) (fun (p : Nat×List (List UInt8))=>ds.length - p.1) (0,[]) (q1Q J) wK ?_ (fun p ⟨hk,hq,hq2,hs⟩=>?_))|(show Exists _; refine Exists.intro ((p.1 + 1,p.2 ++ [(at_ ds p.1).name])) ⟨?_,?_,wK,(q1Q J),(q3Q J J J)⟩))
 all_goals (try (((simp_all [c5,eJ,dV,av,List.drop_eq_nil_of_le]) <;> exact wL); done))
theorem EP(ds : List Dim)(he : c5 ds = 0) : CallA Tryz.prog 190 [.one (.d (aj ds)),.one (.mapr 1000000)] [(1000000,.map false false (cR []))] (.one (.d (.int .i64 0))) [(1000000,.map false false (cR (ds.map Dim.name)))]:=by
 refine enter ag Tryz.func190 rfl (by decide +kernel) rfl fun hok w0 σ0 φ0 M=>?_
 have h1:=hok.1.sl.1; clear hok; simp only [List.length_map] at h1
 repeat' (first|(refine h1H ?_; (refine h0H ?_; refine ab J J J J J J J J (Bl _) J ?_))|refine wG ?_|(refine h1H ?_; (refine h4H ?_; refine bn J J J J (fun h=>?_) (fun h=>?_)))|(refine h5H ?_; first|refine ao J (fun h=>?_) (fun h=>?_)|refine dJ 4 J [(1,_),(15,_),(16,_)] (q3Q J J J) (fun (p : Nat×List (List UInt8))=>[(17,.one (.d (.int .i64 (p.1 : Int))))]) (fun (p : Nat×List (List UInt8))=>[(1000000,.map false false (cR p.2))]) (fun (p : Nat×List (List UInt8))=>p.1≤ds.length∧eJ p.2 (ds.drop p.1) = 0∧p.2 = (ds.take p.1).map Dim.name) (fun (p : Nat×List (List UInt8))=>ds.length - p.1) (0,[]) (q1Q J) wK ?_ (fun p ⟨hk,hs,hm⟩=>?_))|(show Exists _; refine Exists.intro ((p.1 + 1,p.2 ++ [(at_ ds p.1).name])) ⟨?_,?_,wK,(q1Q J),(q3Q J J J)⟩))
 all_goals (try (((simp_all [c5,eJ,dV,ch,av,List.drop_eq_nil_of_le]) <;> exact wL); done))
 ·have hl : ds.length≤p.1:=by simpa using h
  have hp : p.2 = ds.map Dim.name:=by rw [hm,List.take_of_length_le hl]
  rw [hp]
  exact si (.inl rfl) rfl rfl rfl (q1Q rfl)
theorem ES(ds : List Dim)(ats : List Attr)(hne : c5 ds≠0) : CallA Tryz.prog 108 [.one (.d (aj ds)),.one (.d (ai ats))] [] (.one (.d (.int .i64 (cG ds ats)))) []:=by
 refine enter ag Tryz.func108 rfl (by decide +kernel) rfl fun hok w0 σ0 φ0 M=>?_
 clear hok
 repeat' (first|refine wG ?_)
 refine dw 16 [(1000000,0)] (rav':=.one (.d (.int .i64 (c5 ds)))) (EO ds hne) rfl rfl rfl rfl rfl rfl ⟨⟨0,rfl,rfl⟩,trivial⟩ trivial rfl rfl rfl rfl ?_
 repeat' (first|refine wG ?_|(refine h1H ?_; (refine h4H ?_; refine bn J J J J (fun h=>?_) (fun h=>?_)))|(refine h5H ?_; refine ao J (fun h=>?_) (fun h=>?_)))
 all_goals (try (((simp_all [cG,av,List.drop_eq_nil_of_le]) <;> exact wL); done))
theorem ET(ds : List Dim)(ats : List Attr)(he : c5 ds = 0) : CallA Tryz.prog 108 [.one (.d (aj ds)),.one (.d (ai ats))] [] (.one (.d (.int .i64 (cG ds ats)))) []:=by
 refine enter ag Tryz.func108 rfl (by decide +kernel) rfl fun hok w0 σ0 φ0 M=>?_
 have h1:=hok.2.1.sl.1; clear hok; simp only [List.length_map] at h1
 repeat' (first|refine wG ?_)
 refine dw 16 [(1000000,0)] (rav':=.one (.d (.int .i64 0))) (EP ds he) rfl rfl rfl rfl rfl rfl ⟨⟨0,rfl,rfl⟩,trivial⟩ ⟨fun i e h1 h2=>?_,trivial⟩ rfl rfl rfl rfl ?_
 ·have h1' : some 0 = some i:=h1
  cases h1'
  have h2' : some (AObj.map false false (cR [])) = some e:=h2
  cases h2'
  exact ⟨rfl,rfl⟩
 repeat' (first|(refine h1H ?_; (refine h0H ?_; refine ab J J J J J J J J (Bl _) J ?_))|refine wG ?_|(refine h1H ?_; (refine h4H ?_; refine bn J J J J (fun h=>?_) (fun h=>?_)))|(refine h5H ?_; first|refine ao J (fun h=>?_) (fun h=>?_)|refine dJ 8 J [(5,_),(24,_),(25,_)] (q3Q J J J) (fun (p : Nat×List (List UInt8))=>[(26,.one (.d (.int .i64 (p.1 : Int))))]) (fun (p : Nat×List (List UInt8))=>[(0,.map false false (cR p.2))]) (fun (p : Nat×List (List UInt8))=>p.1≤ats.length∧c5 ds = 0∧(1 : Int)≤ats.length∧(ats.length : Int)≤6∧cG ds ats = ee p.2 (ats.drop p.1)) (fun (p : Nat×List (List UInt8))=>ats.length - p.1) (0,ds.map Dim.name) (q1Q J) wK ?_ (fun p ⟨hk,hd,hq,hq2,hs⟩=>?_))|(show Exists _; refine Exists.intro ((p.1 + 1,p.2 ++ [(at_ ats p.1).name])) ⟨?_,?_,wK,(q1Q J),(q3Q J J J)⟩))
 all_goals (try (((simp_all [cG,ee,av,List.drop_eq_nil_of_le]) <;> exact wL); done))
theorem F4(ds : List Dim)(ats : List Attr) : CallA Tryz.prog 108 [.one (.d (aj ds)),.one (.d (ai ats))] [] (.one (.d (.int .i64 (cG ds ats)))) []:=by
 by_cases h : c5 ds = 0
 ·exact ET ds ats h
 ·exact ES ds ats h
theorem c59(ds : List Dim)(ats : List Attr)(cs : List Cell) : CallA Tryz.prog 59 [.agg [.d (aj ds),.d (ai ats),.d (ak cs)]] [] (.one (.d (.int .i64 (bz ds ats cs)))) []:=by
 refine enter ag Tryz.func59 rfl (by decide +kernel) rfl fun hok w0 σ0 φ0 M=>?_
 have h1:=(OkD.sl (hok.1 (.d (ak cs)) (by simp))).1; clear hok; simp only [List.length_map] at h1
 repeat' (first|(refine h1H ?_; (refine h0H ?_; first|refine ab J J J J J J J J (F4 _ _) J ?_|refine ab J J J J J J J J (Fx _ _ _ _) J ?_))|(refine h3H ?_; (refine h2H ?_; refine d_l J J (bw J J J J J J (c35 _ _) J) ?_))|refine wG ?_|(refine h5H ?_; first|refine ao J (fun h=>?_) (fun h=>?_)|refine bc 7 J [(1,_),(20,_),(21,_)] (q3Q J J J) (fun (k : Nat)=>[(22,.one (.d (.int .i64 k)))]) (fun (k : Nat)=>k≤cs.length∧cG ds ats = 0∧(cs.length : Int)≤4096∧bz ds ats cs = cF ds ats (pv cs k) (cs.drop k)) (fun (k : Nat)=>cs.length - k) 0 (q1Q J) ?_ (fun k ⟨hk,hsc,hq,hs⟩=>?_))|(show Exists _; refine Exists.intro (k + 1) ⟨?_,?_,wK,(q1Q J),(q3Q J J J)⟩))
 all_goals (try (((simp_all [bz,cF,nW,tI,nX,tJ,av,List.drop_eq_nil_of_le]) <;> exact wL); done))
 ·rename_i hlt
  have hk' : k < cs.length:=by simpa using hlt
  have hb : cU ds ats (at_ cs k).at' (at_ cs k).vals≠0:=by simpa using h
  rw [hs,av hk',oF hb]; simp
 ·rename_i hlt hc
  have hk' : k < cs.length:=by simpa using hlt
  have hk0 : k = 0:=by simpa using h
  have hb : cU ds ats (at_ cs k).at' (at_ cs k).vals = 0:=by simpa using hc
  refine ⟨by omega,hsc,hq,?_⟩
  rw [hs,av hk',nX]
  subst hk0
  simp [cF,hb,nW]
def cC{α : Type}(p : α→α→Bool) : List α→List α→Bool
 | x::a,y::b=>if p x y then cC p a b else false
 | _,_=>true
def aP{α : Type}(p : α→α→Bool)(a b : List α) : Bool:=if (a.length : Int)≠b.length then false else cC p a b
theorem Ho(a b : List Int) : CallA Tryz.prog 188 [.one (.d (aF a)),.one (.d (aF b))] [] (.one (.d (.bool (aP (fun x y=>x == y) a b)))) []:=by
 refine enter ag Tryz.func188 rfl (by decide +kernel) rfl fun hok w0 σ0 φ0 M=>?_
 have h1:=hok.1.sl; have h2:=hok.2.1.sl; clear hok; simp only [List.length_map] at h1 h2; replace h1:=h1.1; replace h2:=h2.1
 repeat' (first|refine wG ?_|(refine h5H ?_; first|refine ao J (fun h=>?_) (fun h=>?_)|refine bc 4 J [(0,_),(1,_)] (q2Q J J) (fun (k : Nat)=>[(5,.one (.d (.int .i64 k)))]) (fun (k : Nat)=>k≤a.length∧a.length = b.length∧aP (fun x y=>x == y) a b = cC (fun x y=>x == y) (a.drop k) (b.drop k)) (fun (k : Nat)=>a.length - k) 0 (q1Q J) ?_ (fun k ⟨hk,hq,hs⟩=>?_))|(show Exists _; refine Exists.intro (k + 1) ⟨?_,?_,wK,(q1Q J),(q2Q J J)⟩))
 all_goals (try (((simp_all [aP,cC,av,List.drop_eq_nil_of_le]) <;> exact wL); done))
def mJ(x y : Val) : Bool:=bX (aQ x) (aQ y)
theorem Hp(a b : List Val) : CallA Tryz.prog 189 [.one (.d (bM a)),.one (.d (bM b))] [] (.one (.d (.bool (aP mJ a b)))) []:=by
 refine enter ag Tryz.func189 rfl (by decide +kernel) rfl fun hok w0 σ0 φ0 M=>?_
 have h1:=hok.1.sl; have h2:=hok.2.1.sl; clear hok; simp only [List.length_map] at h1 h2; replace h1:=h1.1; replace h2:=h2.1
 repeat' (first|refine wG ?_|(refine h5H ?_; first|refine ao J (fun h=>?_) (fun h=>?_)|refine bc 4 J [(0,_),(1,_)] (q2Q J J) (fun (k : Nat)=>[(5,.one (.d (.int .i64 k)))]) (fun (k : Nat)=>k≤a.length∧a.length = b.length∧aP mJ a b = cC mJ (a.drop k) (b.drop k)) (fun (k : Nat)=>a.length - k) 0 (q1Q J) ?_ (fun k ⟨hk,hq,hs⟩=>?_))|(show Exists _; refine Exists.intro (k + 1) ⟨?_,?_,wK,(q1Q J),(q2Q J J)⟩))
 all_goals (try (((simp_all [aP,cC,mJ,aQ,bX,eqD,av,List.drop_eq_nil_of_le]) <;> exact wL); done))
def cL(x y : Dim) : Bool:=bX (al x) (al y)
theorem Hq(a b : List Dim) : CallA Tryz.prog 104 [.one (.d (aj a)),.one (.d (aj b))] [] (.one (.d (.bool (aP cL a b)))) []:=by
 refine enter ag Tryz.func104 rfl (by decide +kernel) rfl fun hok w0 σ0 φ0 M=>?_
 have h1:=hok.1.sl; have h2:=hok.2.1.sl; clear hok; simp only [List.length_map] at h1 h2; replace h1:=h1.1; replace h2:=h2.1
 repeat' (first|refine wG ?_|(refine h5H ?_; first|refine ao J (fun h=>?_) (fun h=>?_)|refine bc 4 J [(0,_),(1,_)] (q2Q J J) (fun (k : Nat)=>[(5,.one (.d (.int .i64 k)))]) (fun (k : Nat)=>k≤a.length∧a.length = b.length∧aP cL a b = cC cL (a.drop k) (b.drop k)) (fun (k : Nat)=>a.length - k) 0 (q1Q J) ?_ (fun k ⟨hk,hq,hs⟩=>?_))|(show Exists _; refine Exists.intro (k + 1) ⟨?_,?_,wK,(q1Q J),(q2Q J J)⟩))
 all_goals (try (((simp_all [aP,cC,cL,al,bX,eqD,av,List.drop_eq_nil_of_le]) <;> exact wL); done))
def b8(x y : Attr) : Bool:=bX (aA x) (aA y)
theorem q7(a b : List Attr) : CallA Tryz.prog 105 [.one (.d (ai a)),.one (.d (ai b))] [] (.one (.d (.bool (aP b8 a b)))) []:=by
 refine enter ag Tryz.func105 rfl (by decide +kernel) rfl fun hok w0 σ0 φ0 M=>?_
 have h1:=hok.1.sl; have h2:=hok.2.1.sl; clear hok; simp only [List.length_map] at h1 h2; replace h1:=h1.1; replace h2:=h2.1
 repeat' (first|refine wG ?_|(refine h5H ?_; first|refine ao J (fun h=>?_) (fun h=>?_)|refine bc 4 J [(0,_),(1,_)] (q2Q J J) (fun (k : Nat)=>[(5,.one (.d (.int .i64 k)))]) (fun (k : Nat)=>k≤a.length∧a.length = b.length∧aP b8 a b = cC b8 (a.drop k) (b.drop k)) (fun (k : Nat)=>a.length - k) 0 (q1Q J) ?_ (fun k ⟨hk,hq,hs⟩=>?_))|(show Exists _; refine Exists.intro (k + 1) ⟨?_,?_,wK,(q1Q J),(q2Q J J)⟩))
 all_goals (try (((simp_all [aP,cC,b8,aA,bX,eqD,av,List.drop_eq_nil_of_le]) <;> exact wL); done))
def km(x y : Cell) : Bool:=aP (fun x y=>x == y) x.at' y.at' && aP mJ x.vals y.vals
theorem Hr(a b : List Cell) : CallA Tryz.prog 106 [.one (.d (ak a)),.one (.d (ak b))] [] (.one (.d (.bool (aP km a b)))) []:=by
 refine enter ag Tryz.func106 rfl (by decide +kernel) rfl fun hok w0 σ0 φ0 M=>?_
 have h1:=hok.1.sl; have h2:=hok.2.1.sl; clear hok; simp only [List.length_map] at h1 h2; replace h1:=h1.1; replace h2:=h2.1
 repeat' (first|(refine h3H ?_; (refine h2H ?_; first|refine d_l J J (bw J J J J J J (Ho _ _) J) ?_|refine d_l J J (bw J J J J J J (Hp _ _) J) ?_))|refine wG ?_|(refine h5H ?_; first|refine ao J (fun h=>?_) (fun h=>?_)|refine bc 4 J [(0,_),(1,_)] (q2Q J J) (fun (k : Nat)=>[(5,.one (.d (.int .i64 k)))]) (fun (k : Nat)=>k≤a.length∧a.length = b.length∧aP km a b = cC km (a.drop k) (b.drop k)) (fun (k : Nat)=>a.length - k) 0 (q1Q J) ?_ (fun k ⟨hk,hq,hs⟩=>?_))|(refine h3H ?_; (refine ni ?_; refine gC J J (fun h=>?_) (fun h=>?_)))|(show Exists _; refine Exists.intro (k + 1) ⟨?_,?_,wK,(q1Q J),(q2Q J J)⟩))
 all_goals (try (((simp_all [aP,cC,km,av,List.drop_eq_nil_of_le]) <;> exact wL); done))
def qp(a b : List Dim×List Attr×List Cell) : Bool:=aP cL a.1 b.1 && (aP b8 a.2.1 b.2.1 && aP km a.2.2 b.2.2)
def pD(a : List Dim×List Attr×List Cell) : AV:=.agg [.d (aj a.1),.d (ai a.2.1),.d (ak a.2.2)]
theorem c28(a b : List Dim×List Attr×List Cell) : CallA Tryz.prog 28 [pD a,pD b] [] (.one (.d (.bool (qp a b)))) []:=by
 unfold pD
 refine enter ag Tryz.func28 rfl (by decide +kernel) rfl fun hok w0 σ0 φ0 M=>?_
 clear hok
 repeat' (first|(refine h1H ?_; (refine h0H ?_; first|refine ab J J J J J J J J (Hq _ _) J ?_|refine ab J J J J J J J J (q7 _ _) J ?_|refine ab J J J J J J J J (Hr _ _) J ?_))|refine wG ?_|(refine h1H ?_; (refine h4H ?_; refine bn J J J J (fun h=>?_) (fun h=>?_))))
 all_goals (try (((simp_all [qp,av,List.drop_eq_nil_of_le]) <;> exact wL); done))
theorem c25(a b : List Dim×List Attr×List Cell)(e f : Int) : CallA Tryz.prog 25 [pD a,.one (.d (.int .i64 e)),pD b,.one (.d (.int .i64 f))] [] (.one (.d (.bool (e == f && qp a b)))) []:=by
 unfold pD
 refine enter ag Tryz.func25 rfl (by decide +kernel) rfl fun hok w0 σ0 φ0 M=>?_
 clear hok
 repeat' (first|(refine h1H ?_; (refine h0H ?_; refine ab J J J J J J J J (c28 _ _) J ?_))|refine wG ?_|(refine h1H ?_; (refine h4H ?_; refine bn J J J J (fun h=>?_) (fun h=>?_))))
 all_goals (try (((simp_all [av,List.drop_eq_nil_of_le]) <;> exact wL); done))
end Go.Proofs.YtpejdgkaapnekaaGreat
namespace Go.Proofs.YtpejdgkaapnekaaGreat
open Go Go.Abs
theorem dN{α : Type}[Inhabited α] : ∀ {l m : List α},l.length = m.length→(∀ i,i < l.length→at_ l i = at_ m i)→l = m
 | [],[],_,_=>rfl
 | x::l,y::m,h,he=>by
   have h0 : x = y:=he 0 (by simp)
   rw [h0,dN (l:=l) (m:=m) (by simpa using h) fun i hi=>he (i + 1) (by simpa using hi)]
 | [],_::_,h,_=>by simp at h
 | _::_,[],h,_=>by simp at h
theorem jh{α : Type}[Inhabited α]{l : List α}{k i : Nat}{x : α}(h : i < l.length) : at_ (l.set k x) i = if i = k then x else at_ l i:=by
 simp only [at_,List.getD_eq_getElem?_getD,List.getElem?_set]
 by_cases e : k = i
 ·subst e; simp [h]
 ·rw [if_neg e,if_neg (fun h=>e h.symm)]
theorem ez{α : Type}[Inhabited α]{l : List α}{x : α}(h : x∈l) : ∃ i,i < l.length∧at_ l i = x:=by
 obtain ⟨i,hi⟩:=List.getElem?_of_mem h
 have hl:=(List.getElem?_eq_some_iff.1 hi).1
 exact ⟨i,hl,by rw [cZ hl] at hi; exact Option.some.inj hi⟩
theorem qq{α β γ : Type}[Inhabited α][Inhabited β][Inhabited γ]{f : α→β→γ}{l : List α}{m : List β}{i : Nat}(h : i < l.length)(h' : i < m.length) : at_ (l.zipWith f m) i = f (at_ l i) (at_ m i):=by
 simp [at_,List.getD_eq_getElem?_getD,List.getElem?_zipWith,h,h']
theorem Dim.ext{a b : Dim}(h1 : a.name = b.name)(h2 : a.lo = b.lo)(h3 : a.hi = b.hi) : a = b:=by cases a; cases b; simp_all
structure Arr where
 dims : List Dim
 attrs : List Attr
 cells : List Cell
 deriving Inhabited
def z1(a : Arr) : List D:=[aj a.dims,ai a.attrs,ak a.cells]
def rm(l : List Arr) : D:=.sl 3 72 (l.map z1)
def aO(a : Arr) : AV:=.agg [.d (aj a.dims),.d (ai a.attrs),.d (ak a.cells)]
theorem qO{α : Type}[Inhabited α]{p : α→α→Bool} : ∀ {a b : List α},a.length = b.length→(cC p a b = true↔∀ i,i < a.length→p (at_ a i) (at_ b i) = true)
 | [],[],_=>by simp [cC]
 | x::a,y::b,h=>by
   have ih:=qO (p:=p) (a:=a) (b:=b) (by simpa using h)
   simp only [cC]
   constructor
   ·intro h1 i hi
    split at h1
    ·rename_i h2
     cases i with
     | zero=>exact h2
     | succ i=>exact ih.1 h1 i (by simpa using hi)
    ·cases h1
   ·intro h1
    have h0 : p x y = true:=h1 0 (by simp)
    rw [if_pos h0]
    exact ih.2 fun i hi=>h1 (i + 1) (by simpa using hi)
 | [],_::_,h=>by simp at h
 | _::_,[],h=>by simp at h
theorem sameF_all{α : Type}[Inhabited α]{p : α→α→Bool}{a b : List α} : aP p a b = true↔a.length = b.length∧∀ i,i < a.length→p (at_ a i) (at_ b i) = true:=by
 unfold aP
 by_cases h : a.length = b.length
 ·rw [if_neg (by omega),qO h]
  exact Iff.intro (fun h1=>And.intro h h1) (fun h1=>h1.2)
 ·rw [if_pos (by omega)]
  exact Iff.intro (fun h1=>by cases h1) (fun h1=>absurd h1.1 h)
theorem c9{α : Type}[Inhabited α]{p : α→α→Bool}(hp : ∀ x y,p x y = true↔x = y){a b : List α} : aP p a b = true↔a = b:=by
 rw [sameF_all]
 constructor
 ·rintro ⟨h1,h2⟩
  exact dN h1 fun i hi=>(hp _ _).1 (h2 i hi)
 ·rintro rfl
  exact ⟨rfl,fun i hi=>(hp _ _).2 rfl⟩
theorem Am(x y : Int) : (x == y) = true↔x = y:=by simp
theorem fG(x y : Dim) : cL x y = true↔x = y:=by
 cases x; cases y
 simp [cL,al,bX,eqD]
theorem fS(x y : Attr) : b8 x y = true↔x = y:=by
 cases x; cases y
 simp [b8,aA,bX,eqD]
theorem Ao(x y : Val) : mJ x y = true↔x = y:=by
 cases x; cases y
 simp [mJ,aQ,bX,eqD]
theorem xW(x y : Cell) : km x y = true↔x = y:=by
 cases x; cases y
 simp [km,c9 Am,c9 Ao]
def dx(ds : List Dim)(ats : List Attr)(cs : List Cell) : Option Arr×Int:=if 4096 < (cs.length : Int) then (none,9) else (some ⟨ds,ats,bp cs⟩,0)
def bk(ds : List Dim)(name : List UInt8) : Int:=aD (fun a : Dim=>a.name == name) ds 0
def cq(a b : List Dim) : Bool:=aP (fun x y=>x.name == y.name) a b
theorem iO{α : Type}[Inhabited α]{p : α→Bool} : ∀ {l : List α} {j : Nat},¬ aD p l j < 0→∃ k : Nat,aD p l j = ((j + k : Nat) : Int)∧k < l.length∧p (at_ l k) = true∧∀ i,i < k→p (at_ l i) = false
 | [],j,h=>by simp [aD] at h
 | x::l,j,h=>by
   simp only [aD] at h ⊢
   by_cases hp : p x = true
   ·rw [if_pos hp] at h ⊢
    exact ⟨0,by simp,by simp,hp,fun i hi=>by omega⟩
   ·rw [if_neg hp] at h ⊢
    obtain ⟨k,h1,h2,h3,h4⟩:=iO h
    refine ⟨k + 1,by rw [h1]; omega,by simpa using h2,h3,fun i hi=>?_⟩
    cases i with
    | zero=>exact Bool.eq_false_iff.2 hp
    | succ i=>exact h4 i (by omega)
theorem iF{ds : List Dim}{name : List UInt8}(h : ¬ bk ds name < 0) : ∃ k : Nat,bk ds name = (k : Int)∧k < ds.length∧(at_ ds k).name = name∧∀ i,i < k→(at_ ds i).name≠name:=by
 obtain ⟨k,h1,h2,h3,h4⟩:=iO h
 refine ⟨k,by unfold bk; rw [h1]; simp,h2,by simpa using h3,fun i hi=>by simpa using h4 i hi⟩
theorem tM{ds : List Dim}(h : (ds.map Dim.name).Nodup){i j : Nat}(hi : i < ds.length)(hj : j < ds.length)(he : (at_ ds i).name = (at_ ds j).name) : i = j:=by
 have h1 : at_ (ds.map Dim.name) i = at_ (ds.map Dim.name) j:=by rw [bI hi,bI hj,he]
 have e1:=cZ (l:=ds.map Dim.name) (i:=i) (by simpa using hi)
 have e2:=cZ (l:=ds.map Dim.name) (i:=j) (by simpa using hj)
 rw [h1,← e2] at e1
 exact (List.getElem?_inj (by simpa using hi) h).1 e1
section
variable {a : Arr}
theorem OkA.dims(h : OkA a.dims a.attrs a.cells) : 1≤a.dims.length∧a.dims.length≤4∧(∀ i,i < a.dims.length→(-1073741824≤(at_ a.dims i).lo∧(at_ a.dims i).lo≤1073741824∧(at_ a.dims i).lo≤(at_ a.dims i).hi∧(at_ a.dims i).hi≤1073741825)∧ea (at_ a.dims i).name = true)∧(a.dims.map Dim.name).Nodup:=by
 obtain ⟨h1,h2,h3,h4⟩:=pr (bg h.sch).1
 exact ⟨h1,h2,fun i hi=>⟨boundsF_ok.1 (h3 _ (aX hi)).1,(h3 _ (aX hi)).2⟩,h4⟩
end
end Go.Proofs.YtpejdgkaapnekaaGreat
namespace Go.Proofs.YtpejdgkaapnekaaGreat
open Go Go.Abs
attribute [local irreducible] aa OkC aq aC ax aS
set_option maxRecDepth 10000
inductive Scalar where
 | mk (op : Int) (name : List UInt8) (val : Val) (args : List Scalar)
 deriving Inhabited
def Scalar.op : Scalar→Int | .mk o _ _ _=>o
def Scalar.name : Scalar→List UInt8 | .mk _ n _ _=>n
def Scalar.val : Scalar→Val | .mk _ _ v _=>v
def Scalar.args : Scalar→List Scalar | .mk _ _ _ a=>a
theorem Scalar.args_lt : ∀ {s x : Scalar},x∈s.args→SizeOf.sizeOf x < SizeOf.sizeOf s
 | .mk o n v a,x,h=>by
   have:=List.sizeOf_lt_of_mem (show x∈a from h)
   simp; omega
theorem Scalar.ind{Q : Scalar→Prop}(h : ∀ s : Scalar,(∀ x∈s.args,Q x)→Q s)(s : Scalar) : Q s :=
 h s fun x hx=>have:=Scalar.args_lt hx; Scalar.ind h x
termination_by SizeOf.sizeOf s
mutual
def rA : Scalar→List D
 | .mk o n v a=>[.int .i64 o,.str n,.int .i64 v.kind,.int .i64 v.num,.int .i64 v.den,.str v.str,.sl 7 88 (tq a)]
def tq : List Scalar→List (List D)
 | []=>[]
 | s::r=>rA s::tq r
end
theorem sD : ∀ (l : List Scalar),tq l = l.map rA
 | []=>rfl
 | s::r=>by simp [tq,sD r]
def qA(l : List Scalar) : D:=.sl 7 88 (l.map rA)
def BF(s : Scalar) : List D:=[.int .i64 s.op,.str s.name,.int .i64 s.val.kind,.int .i64 s.val.num,.int .i64 s.val.den,.str s.val.str,qA s.args]
theorem C6 : ∀ (s : Scalar),rA s = BF s
 | .mk o n v a=>by simp [rA,BF,Scalar.op,Scalar.name,Scalar.val,Scalar.args,qA,sD]
theorem C7{l : List Scalar}{i : Nat}(h : i < l.length) : (l.map rA)[i]? = some (BF (at_ l i)):=by rw [db h,C6]
end Go.Proofs.YtpejdgkaapnekaaGreat
namespace Go.Proofs.YtpejdgkaapnekaaGreat
open Go Go.Abs
open Go.ChangeShapes Go.WideShapes Go.ChangeAt Go.RowKit
section
variable {H : Type} {en : TypeId×Value→H} {W : World}
theorem BG(d : DataW H) : 1≤Rows.uptoBulk d:=by
 cases d with
 | lit l=>cases l <;> simp [Rows.uptoBulk]
 | _=>simp [Rows.uptoBulk]
theorem pJ{d : DataW H} : ∀ {l : List (DataW H)},d∈l→Rows.uptoBulk d≤Rows.uptoBulkAll l
 | [],h=>by simp at h
 | x::r,h=>by
   simp only [Rows.uptoBulkAll]
   rcases List.mem_cons.1 h with rfl | h
   ·omega
   ·have:=pJ h; omega
theorem uS : ∀ (l : List (DataW H)),l.length≤Rows.uptoBulkAll l
 | []=>by simp [Rows.uptoBulkAll]
 | x::r=>by have:=BG x; have:=uS r; simp only [Rows.uptoBulkAll,List.length_cons]; omega
def sg(W : World) : Sig:=fun b=>match W.heap[b]? with | some (.cells cs _ _)=>some cs | _=>none
theorem wR{b : Nat}{cs : Array Value}(h : sg W b = some cs) : ∃ t f,W.heap[b]? = some (.cells cs t f):=by
 unfold sg at h
 split at h
 ·rename_i c t f hh; cases h; exact ⟨t,f,hh⟩
 ·cases h
theorem DX(φ : Pl) : HInv (sg W) φ [] W:=⟨fun b cs h=>wR h,fun i e h=>by simp [Abs.look] at h,fun i i' e e' p p' h=>by simp [Abs.look] at h⟩
def Rd(en : TypeId×Value→H)(W : World)(N : Nat)(t : TypeId){α : Type}(f : α→List D)(Q : α→Prop) : Prop :=
 ∀ (fuel : Nat) (cs : List Value) (x : DataW H×List MemPlace),DataW.trod en Tryz.prog W 0 (fun _=>true) true fuel t cs = some x→Rows.uptoBulk x.1≤N→∃ a : α,Q a∧All2 (Rep (sg W)) (f a) cs
def yes{α : Type}(_ : α) : Prop:=True
theorem Rd.mono{N M : Nat}{t : TypeId}{α : Type}{f : α→List D}{Q : α→Prop}(h : Rd en W N t f Q)(hm : M≤N) : Rd en W M t f Q:=fun fuel cs x hx hb=>h fuel cs x hx (by omega)
theorem ki{N : Nat}{t : TypeId}(ht : Tryz.prog.underlying t = some (.int .i64)) : Rd en W N t (fun n : Int=>[.int .i64 n]) yes:=by
 intro fuel cs x h _
 obtain ⟨n,rfl,_,hw⟩:=DataW.trod_int ht h
 have hw':=bounds_i64 hw
 refine ⟨n,trivial,.int ?_,trivial⟩
 simp only [inR,IntKind.min,IntKind.max,IntKind.signed,IntKind.bits,if_true]
 omega
theorem qj{N : Nat}{t : TypeId}(hN : N≤1048576)(ht : Tryz.prog.underlying t = some .string) : Rd en W N t (fun s : List UInt8=>[.str s]) yes:=by
 intro fuel cs x h hb
 obtain ⟨s,rfl,rfl,_⟩:=DataW.trod_string ht h
 simp only [Rows.uptoBulk] at hb
 have:=Rep.str (σ:=sg W) (s:=s.data.toList) (by omega)
 refine ⟨s.data.toList,trivial,?_,trivial⟩
 simpa using this
def yE{α : Type}(N : Nat)(Q : α→Prop)(l : List α) : Prop:=l.length≤N∧∀ x∈l,Q x
theorem kj{N k b : Nat}{t e : TypeId}{α : Type}[Inhabited α]{f : α→List D}{Q : α→Prop}(hN : N≤1048575)(hb : b≤1000)(hk : 0 < k)(ht : Tryz.prog.underlying t = some (.slice e))(hc : Tryz.prog.cellsOf e = k)(he : Rd en W N e f Q) : Rd en W (N + 1) t (fun l : List α=>[.sl k b (l.map f)]) (yE N Q):=by
 intro fuel cs x h hbk
 rcases Deep.open_slice ht h with ⟨rfl,rfl⟩ | ⟨a,len,cap,m,n,Dd,Pl,rfl,_,hl,_,hm,rfl,hel⟩
 ·refine ⟨[],⟨by simp,by simp⟩,?_,trivial⟩
  exact .sl (fun _ _=>undef) (by simp) (by simp) (by simp) (by simp) (by simp) (by simp)
 ·simp only [if_true] at hm
  subst hm
  rw [hc] at hel
  simp only [Rows.uptoBulk] at hbk
  have hlen : len≤N:=by
   have:=uS ((List.range len).map Dd)
   simp only [List.length_map,List.length_range] at this
   omega
  have hpart : ∀ i,i < len→Rows.uptoBulk (Dd i)≤N:=by
   intro i hi
   have:=pJ (d:=Dd i) (l:=(List.range len).map Dd) (List.mem_map.2 ⟨i,List.mem_range.2 hi,rfl⟩)
   omega
  obtain ⟨g,hg⟩:=Deep.choose_lt (n:=len) (p:=fun i (y : α)=>Q y∧∃ cs',W.cells? 0 (a.add (i * k)) k = some cs'∧All2 (Rep (sg W)) (f y) cs') (fun i hi=>by
   obtain ⟨cs',h1,h2⟩:=hel i (by omega)
   obtain ⟨y,hq,hy⟩:=he _ _ _ h2 (hpart i hi)
   exact ⟨y,hq,cs',h1,hy⟩)
  have hcell : ∀ i,i < len→∀ j,j < k→∃ v,W.cell? ((a.add (i * k)).add j) = some v∧∀ d,(f (g i))[j]? = some d→Rep (sg W) d v:=by
   intro i hi j hj
   obtain ⟨_,cs',h1,h2⟩:=hg i hi
   obtain ⟨_,h3,h4⟩:=World.cells?_some h1
   have h5 : cs'[j]? = some (cs'[j]'(by omega)):=List.getElem?_eq_getElem (by omega)
   refine ⟨_,(h4 j hj).trans h5,fun d hd=>?_⟩
   obtain ⟨v,hv,hr⟩:=h2.get hd
   rw [h5] at hv; cases hv; exact hr
  have hfl : ∀ i,i < len→(f (g i)).length = k:=by
   intro i hi
   obtain ⟨_,cs',h1,h2⟩:=hg i hi
   rw [h2.length]; exact (World.cells?_some h1).2.1
  have hadd : ∀ i j,i < len→j < k→a.spot = none→((a.add (i * k)).add j) = ⟨a.block,a.off + i * k + j,none⟩:=by
   intro i j _ _ hs
   obtain ⟨B,o,sp⟩:=a
   simp only at hs
   subst hs
   by_cases h1 : i * k = 0 <;> by_cases h2 : j = 0 <;> simp [Addr.add,h1,h2]
  have hA : 0 < len→∃ cells : Array Value,a.spot = none∧sg W a.block = some cells:=by
   intro h0
   obtain ⟨v,hv,_⟩:=hcell 0 h0 0 hk
   have e0 : ((a.add (0 * k)).add 0) = a:=by simp [Addr.add]
   rw [e0] at hv
   unfold World.cell? at hv
   unfold sg
   split at hv
   ·rename_i c t2 f2 hh
    rw [hh]
    split at hv
    ·cases hv
    ·rename_i hs
     exact ⟨c,by simpa using hs,rfl⟩
   ·cases hv
  refine ⟨(List.range len).map g,⟨by simpa using hlen,fun y hy=>?_⟩,?_,trivial⟩
  ·obtain ⟨i,hi,rfl⟩:=List.mem_map.1 hy
   exact (hg i (List.mem_range.1 hi)).1
  have hll : (((List.range len).map g).map f).length = len:=by simp
  have key : Rep (sg W) (.sl k b (((List.range len).map g).map f)) (.slice (some a) (((List.range len).map g).map f).length m):=by
   refine .sl (fun i j=>(W.cell? ((a.add (i * k)).add j)).getD undef) (by rw [hll]; exact hl) (by rw [hll]; omega) (by
    rw [hll]
    have : len * b≤1048576 * 1000:=Nat.mul_le_mul (by omega) hb
    omega) (fun x hx=>?_) (fun h0=>?_) (fun i j x d hx hd=>?_)
   ·simp only [List.mem_map,List.mem_range] at hx
    obtain ⟨y,⟨i,hi,rfl⟩,rfl⟩:=hx
    exact hfl i hi
   ·rw [hll] at h0
    obtain ⟨cells,hs,hsg⟩:=hA h0
    refine ⟨a.block,a.off,cells,?_,hsg,fun i j hi hj=>?_⟩
    ·obtain ⟨B,o,sp⟩:=a; simp only at hs; subst hs; rfl
    ·rw [hll] at hi
     obtain ⟨v,hv,_⟩:=hcell i hi j hj
     rw [hv]
     rw [hadd i j hi hj hs] at hv
     obtain ⟨t2,f2,hh⟩:=wR hsg
     simp only [World.cell?,hh] at hv
     simpa using hv
   ·simp only [List.getElem?_map,Option.map_eq_some_iff] at hx
    obtain ⟨y,⟨i',hi',rfl⟩,rfl⟩:=hx
    have hi : i < len:=by
     have:=(List.getElem?_eq_some_iff.1 hi').1
     simpa using this
    have hii : i' = i:=by simpa [List.getElem?_range hi] using hi'.symm
    subst hii
    have hj : j < k:=by rw [← hfl i' hi]; exact (List.getElem?_eq_some_iff.1 hd).1
    obtain ⟨v,hv,hr⟩:=hcell i' hi j hj
    rw [hv]
    exact hr d hd
  rw [hll] at key
  exact key
theorem eW{R : D→Value→Prop}{a b : List D}{cs : List Value}{o n m : Nat}(h1 : All2 R a ((cs.drop o).take n))(h2 : All2 R b ((cs.drop (o + n)).take m)) : All2 R (a ++ b) ((cs.drop o).take (n + m)):=by
 rw [List.take_add,List.drop_drop]
 exact h1.append h2
theorem dh{N : Nat}{t u : TypeId}{fs : Array Field}{fuel : Nat}{cs : List Value}{x : DataW H×List MemPlace}(ht : Tryz.prog.underlying t = some (.struct fs))(h : DataW.trod en Tryz.prog W 0 (fun _=>true) true fuel t cs = some x)(hb : Rows.uptoBulk x.1≤N + 1)
  (i : Nat) {fd : Field} (hf : fs[i]? = some fd) {α : Type} {f : α→List D} {Q : α→Prop} (hr : Rd en W N fd.type f Q) {c : Nat} (hc : Tryz.prog.cellsOf fd.type = c) : ∃ a,Q a∧All2 (Rep (sg W)) (f a) ((cs.drop fd.offset).take c):=by
 subst hc
 obtain ⟨xs,n,_,rfl,_,hl,hx⟩:=DataW.trod_struct ht h
 have h2:=hx i fd hf
 have hi : i < xs.length:=by rw [hl]; exact (Array.getElem?_eq_some_iff.1 hf).1
 rw [List.getElem?_eq_getElem hi] at h2
 refine hr _ _ _ h2 ?_
 have:=pJ (d:=(xs[i]).1) (l:=xs.map (·.1)) (List.mem_map.2 ⟨_,List.getElem_mem hi,rfl⟩)
 simp only [Rows.uptoBulk] at hb
 omega
theorem nJ{t : TypeId}{fs : Array Field}{fuel : Nat}{cs : List Value}{x : DataW H×List MemPlace}(ht : Tryz.prog.underlying t = some (.struct fs))(h : DataW.trod en Tryz.prog W 0 (fun _=>true) true fuel t cs = some x) : cs.length = Tryz.prog.cellsOf t:=by
 obtain ⟨_,_,_,_,hl,_⟩:=DataW.trod_struct ht h
 exact hl
theorem nK : Tryz.prog.cellsOf 3 = 1:=by kernel_rfl
theorem qB : Tryz.prog.cellsOf 2 = 1:=by kernel_rfl
theorem uT : Tryz.prog.cellsOf 9 = 1:=by kernel_rfl
theorem wS : Tryz.prog.cellsOf 28 = 4:=by kernel_rfl
theorem wT : Tryz.prog.cellsOf 82 = 2:=by kernel_rfl
theorem wU : Tryz.prog.cellsOf 53 = 3:=by kernel_rfl
theorem C8 : Tryz.prog.cellsOf 22 = 1:=by kernel_rfl
theorem C9 : Tryz.prog.cellsOf 23 = 1:=by kernel_rfl
theorem Da : Tryz.prog.cellsOf 24 = 1:=by kernel_rfl
theorem Db : Tryz.prog.cellsOf 26 = 3:=by kernel_rfl
theorem om{R : D→Value→Prop}{a : List D}{cs : List Value}{n : Nat}(h : All2 R a ((cs.drop 0).take n))(hl : cs.length = n) : All2 R a cs:=by
 rw [List.drop_zero,List.take_of_length_le (by omega)] at h; exact h
theorem Eg{N : Nat}(hN : N≤1048575) : Rd en W (N + 1) 28 (fun v : Val=>[.int .i64 v.kind,.int .i64 v.num,.int .i64 v.den,.str v.str]) yes:=by
 intro fuel cs x h hb
 obtain ⟨k,_,hk⟩:=dh (u:=0) Tryz.underlying28 h hb 0 rfl (ki Tryz.underlying3) nK
 obtain ⟨n,_,hn⟩:=dh (u:=0) Tryz.underlying28 h hb 1 rfl (ki Tryz.underlying2) qB
 obtain ⟨d,_,hd⟩:=dh (u:=0) Tryz.underlying28 h hb 2 rfl (ki Tryz.underlying2) qB
 obtain ⟨s,_,hs⟩:=dh (u:=0) Tryz.underlying28 h hb 3 rfl (qj (by omega) Tryz.underlying9) uT
 exact ⟨⟨k,n,d,s⟩,trivial,om (eW (eW (eW hk hn) hd) hs) ((nJ Tryz.underlying28 h).trans wS)⟩
theorem Eh{N : Nat}(hN : N≤1048575) : Rd en W (N + 1) 53 al yes:=by
 intro fuel cs x h hb
 obtain ⟨s,_,hs⟩:=dh (u:=0) Tryz.underlying53 h hb 0 rfl (qj (by omega) Tryz.underlying9) uT
 obtain ⟨k,_,hk⟩:=dh (u:=0) Tryz.underlying53 h hb 1 rfl (ki Tryz.underlying3) nK
 obtain ⟨n,_,hn⟩:=dh (u:=0) Tryz.underlying53 h hb 2 rfl (ki Tryz.underlying3) nK
 exact ⟨⟨s,k,n⟩,trivial,om (eW (eW hs hk) hn) ((nJ Tryz.underlying53 h).trans wU)⟩
theorem Dc{N : Nat}(hN : N≤1048575) : Rd en W (N + 1) 82 aA yes:=by
 intro fuel cs x h hb
 obtain ⟨s,_,hs⟩:=dh (u:=0) Tryz.underlying82 h hb 0 rfl (qj (by omega) Tryz.underlying9) uT
 obtain ⟨k,_,hk⟩:=dh (u:=0) Tryz.underlying82 h hb 1 rfl (ki Tryz.underlying3) nK
 exact ⟨⟨s,k⟩,trivial,om (eW hs hk) ((nJ Tryz.underlying82 h).trans wT)⟩
theorem De : Tryz.prog.cellsOf 37 = 1:=by kernel_rfl
theorem Df : Tryz.prog.cellsOf 54 = 1:=by kernel_rfl
theorem wV : Tryz.prog.cellsOf 56 = 2:=by kernel_rfl
def BH(N : Nat)(c : Cell) : Prop:=c.at'.length≤N∧c.vals.length≤N
theorem Dg{N : Nat}(hN : N≤1048573) : Rd en W (N + 3) 56 af (BH (N + 1)):=by
 intro fuel cs x h hb
 obtain ⟨a,qa,ha⟩:=dh (u:=0) Tryz.underlying56 h hb 0 rfl (kj (f:=aB) (N:=N + 1) (k:=1) (b:=8) (by omega) (by omega) (by omega) Tryz.underlying37 nK (ki Tryz.underlying3)) De
 obtain ⟨v,qv,hv⟩:=dh (u:=0) Tryz.underlying56 h hb 1 rfl (kj (f:=aQ) (N:=N + 1) (k:=4) (b:=40) (by omega) (by omega) (by omega) Tryz.underlying54 wS (Eg (by omega))) Df
 exact ⟨⟨a,v⟩,⟨qa.1,qv.1⟩,om (eW ha hv) ((nJ Tryz.underlying56 h).trans wV)⟩
def D9(N : Nat)(a : Arr) : Prop:=yE N yes a.dims∧yE N yes a.attrs∧yE N (BH N) a.cells
theorem zG{N : Nat}(hN : N≤1048571) : Rd en W (N + 5) 26 z1 (D9 (N + 3)):=by
 intro fuel cs x h hb
 obtain ⟨d,qd,hd⟩:=dh (u:=0) Tryz.underlying26 h hb 0 rfl (kj (f:=al) (N:=N + 3) (k:=3) (b:=32) (by omega) (by omega) (by omega) Tryz.underlying22 wU (Eh (by omega))) C8
 obtain ⟨a,qa,ha⟩:=dh (u:=0) Tryz.underlying26 h hb 1 rfl (kj (f:=aA) (N:=N + 3) (k:=2) (b:=24) (by omega) (by omega) (by omega) Tryz.underlying23 wT (Dc (by omega))) C9
 obtain ⟨c,qc,hc⟩:=dh (u:=0) Tryz.underlying26 h hb 2 rfl (kj (f:=af) (N:=N + 3) (k:=2) (b:=48) (by omega) (by omega) (by omega) Tryz.underlying24 wV (Dg (by omega))) Da
 exact ⟨⟨d,a,c⟩,⟨qd,qa,qc.1,fun x hx=>by have:=qc.2 x hx; unfold BH at *; omega⟩,om (eW (eW hd ha) hc) ((nJ Tryz.underlying26 h).trans Db)⟩
theorem qi{P : Program}{t : TypeId}{fs : Array Field}{r : Reach}{base : Nat}{v : Value}(ht : P.underlying t = some (.struct fs))(h : Value.okWide P W r base t v) : ∃ cs : List Value,v = .agg cs.toArray:=by
 unfold Value.okWide at h
 rw [ht] at h
 obtain ⟨cs,rfl,_⟩:=h
 exact ⟨cs.toList,by simp⟩
theorem uf{W' : World} : ∀ {ts : List TypeId} {vs : List Value} {ds : List (DataW H)} {ps : List MemPlace},DataW.TrodAll en Tryz.prog W 0 (fun _=>true) true ts vs ds ps→(∀ p∈ps,W.sameAt W' p)→DataW.TrodAll en Tryz.prog W' 0 (fun _=>true) true ts vs ds ps
 | [],[],[],_,h,_=>h
 | _::_,_::_,_::_,_,⟨p,q,⟨n,h1⟩,h2,e⟩,hs=>⟨p,q,⟨n,DataW.trod_carry n _ _ _ h1 fun x hx=>hs x (by rw [e]; exact List.mem_append_left _ hx)⟩,uf h2 fun x hx=>hs x (by rw [e]; exact List.mem_append_right _ hx),e⟩
theorem own : ownKnob Tryz.prog.godebug = none:=by kernel_rfl
theorem FI : Kids Tryz.prog (· < Tryz.prog.types.size):=kids_rows (by kernel_rfl) (by kernel_rfl)
set_option maxRecDepth 100000 in
theorem FJ : ∀ t e,t < Tryz.prog.types.size→Tryz.prog.underlying t = some (.slice e)→0 < Tryz.prog.cellsOf e:=slices_full_of Tryz.prog (by kernel_rfl)
theorem sE{W' : World}(h : Kept (MOf (fun _=>none) []) W W') : ∀ b,b < W.heap.size→W'.heap[b]? = W.heap[b]?:=fun b hb=>h.block b hb (by rintro ⟨id,e,p,h1,_⟩; simp [Abs.look] at h1)
theorem CT{W' : World}(h : Kept (MOf (fun _=>none) []) W W')(may : MemPlace→Prop) : W.keptBut W' may :=
 ⟨h.os,h.output,fun i hi=>by rw [sE h i hi]; exact (World.keptBut_refl W may).2.2 i hi⟩
theorem Bn{W' : World}(h : Kept (MOf (fun _=>none) []) W W'){p : MemPlace}(hp : p.block < W.heap.size) : W.sameAt W' p:=by
 have hb:=sE h p.block hp
 cases p with
 | cell b off=>show W'.cell? ⟨b,off,none⟩ = W.cell? ⟨b,off,none⟩; unfold World.cell?; rw [show W'.heap[b]? = W.heap[b]? from hb]
 | map b=>exact hb
theorem jX{σ : Sig}{φ : Pl}{sto : Sto} : ∀ {ds : List D} {vs : List Value},All2 (Rep σ) ds vs→All2 (RepC σ φ sto) (ds.map .d) vs
 | [],[],_=>trivial
 | d::r,v::vs,h=>⟨.d h.1,jX h.2⟩
 | [],_::_,h=>h.elim
 | _::_,[],h=>h.elim
theorem tsz : Nat.blt 300 Tryz.prog.types.size = true:=by kernel_rfl
theorem few{t : Nat}(h : t≤300) : t < Tryz.prog.types.size:=by have:=Nat.blt_eq.mp tsz; omega
theorem Bo{W' : World}{base : Nat}{sp : Nat→Bool}{held : Bool}(b : Bool) : DataW.Trod en Tryz.prog W' base sp held 4 (.bool b) (.lit (.bool b)) []:=⟨1,by simp [DataW.trod,Value.cells,Tryz.underlying4]⟩
end
end Go.Proofs.YtpejdgkaapnekaaGreat
namespace Go.Abs
open Go
variable {P : Program} {c : Ctx} {σ σ' : Sig} {φ φ' : Pl} {w w' : World}
variable {V : Env} {T : Tab} {w0 : World} {σ0 : Sig} {φ0 : Pl} {M : Nat→Prop} {n : Nat} {rd : Option Nat} {mk : List Deferred} {ops : Array Oper} {o : Oper} {rest : List Oper} {fr : List (Nat×AV)} {sto : Sto} {K : St→Prop} {st st0 : St} {acc : List Tr}
theorem iG(hT : aL P T){d : Nat}{t t2 e e2 k b k2 b2 k' b' id m : Nat}{z z2 : List D}{x y : Operand}{v : AV}{xs ys zs : List (List D)}
  (ho : o.op = .call { callee:=.builtin .append,args:=#[x,y],argTypes:=#[t,t2] }) (hg : o.guard = none) (hdst : o.dst = some d) (hd : Nat.blt d n = true) (ht : aN T t = some (e,k,b,z)) (ht2 : aN T t2 = some (e2,k2,b2,z2))
  (hlt : (Nat.blt id 1000000 || Nat.ble 2000000 id) = true) (hx : ev ⟨fr,sto⟩ x = some (.one (.own id m))) (hl : look sto id = some (.row k' b' xs)) (hkb : (Nat.beq k k' && Nat.beq b b') = true) (hy : ev ⟨fr,sto⟩ y = some v) (hs : dZ ⟨fr,sto⟩ k v = some ys) (hzs : zs = xs.take m ++ ys)
  (hm : m≤100000000) (hys : ys.length≤100000) (hb : b≤100)
  (h : aa P ⟨w0,σ0,φ0,M,n,rd,mk⟩ ops rest ⟨(d,.one (.own id (m + ys.length)))::jB id fr,cg id (.row k b zs) (c4 id sto)⟩ K) : aa P ⟨w0,σ0,φ0,M,n,rd,mk⟩ ops (o::rest) ⟨fr,sto⟩ K:=by
 have h47 : (m + ys.length) * b≤2 ^ 47:=Nat.le_trans (Nat.mul_le_mul (show m + ys.length≤200000000 by omega) hb) (by omega)
 exact bO hT ho hg (by rw [hdst]; exact hd) ht ht2 hlt hx hl hkb hy hs hzs (by omega) h47 (by rw [hdst]; exact h)
theorem Bb{s' : Sto}(h : SubL sto s') : Imp c ⟨fr,sto⟩ ⟨fr,s'⟩:=fun a w σ φ hr=>⟨σ,φ,hr.dropTo fun i e hi=>h.look hi⟩
theorem bj(dl : List Nat){d : Nat}{fop : Operand}{args : Array Operand}{ats : Array TypeId}{f : FuncId}{caps : List D}{avs avs' : List AV}{rav : AV}{rsto : Sto}{os : List (Nat×AObj)}
  (ho : o.op = .call { callee:=.value fop,args:=args,argTypes:=ats }) (hg : o.guard = none) (hdst : o.dst = some d) (hd : Nat.blt d n = true) (hos : dA sto dl = some os) (hf : evS os ⟨fr,sto⟩ fop = some (.one (.d (.fn f caps))))
  (ha : jU os ⟨fr,sto⟩ args.toList = some avs) (hD : cm avs = true) (hap : (avs ++ caps.map fun x=>.one (.d x)) = avs') (hC : CallA P f avs' [] rav rsto) (hfl : fN rav = true)
  (h : aa P ⟨w0,σ0,φ0,M,n,rd,mk⟩ ops rest ⟨(d,rav)::fr,sto⟩ K) : aa P ⟨w0,σ0,φ0,M,n,rd,mk⟩ ops (o::rest) ⟨fr,sto⟩ K:=by
 subst hap
 obtain ⟨ss,h1,h2⟩:=fO (st:=⟨fr,sto⟩) hos
 exact gb ho hg (by rw [hdst]; exact hd) (br h1) (by rw [h2]; exact hf) (by rw [jV h2]; exact ha) hD hC hfl (by rw [hdst]; exact h)
end Go.Abs
namespace Go.Abs
open Go
variable {P : Program} {c : Ctx} {T : Tab}
theorem cy(hT : aL P T){ops : Array Oper}{o : Oper}{rest : List Oper}{st : St}{K : St→Prop}{op : BinOp}{t ty : TypeId}{x y : Operand}{e : Bool}{k b : Nat}{xs : List (List D)}
  (ho : o.op = .binOp op t x y ty) (hop : gl op = some e) (hg : o.guard = none) (hd : aH c.n o.dst = true) (ht : (iR T t && lT (ev st y)) = true) (hx : ev st x = some (.one (.d (.sl k b xs))))
  (h : ∀ r : Bool,(r = true→xs = [])→aa P c ops rest ⟨aU o.dst (.one (.d (.bool (r == e)))) st.fr,st.sto⟩ K) : aa P c ops (o::rest) st K :=
 aR hg fun a w σ φ hr=>by
  rw [Bool.and_eq_true] at ht
  obtain ⟨el,hu⟩:=oU hT ht.1
  have hr1 : ∃ A n cap,a.eval x = .slice A n cap∧(A.isNone = true→xs = []):=by
   have h1:=RepC.d_inv (aw hr hx)
   generalize a.eval x = u at h1
   cases h1 with
   | sl vs hc h48 hb hk hA hh =>
     refine ⟨_,_,_,rfl,fun hn=>?_⟩
     cases xs with
     | nil=>rfl
     | cons z zs =>
       obtain ⟨B,o,cells,rfl,_⟩:=hA (by simp)
       simp at hn
  obtain ⟨A,n,cap,hx,hA⟩:=hr1
  have hy : a.eval y = .slice none 0 0:=by
   have h2:=ht.2
   unfold lT at h2
   split at h2
   ·rename_i hy
    have h1:=RepC.d_inv (aw hr hy)
    generalize a.eval y = u at h1
    cases h1; rfl
   ·cases h2
  refine ⟨.bool (A.isNone == e),w,_,σ,φ,?_,hr.put (v:=.one (.d (.bool (A.isNone == e)))) hd (RepC.d .bool),h _ hA⟩
  cases op <;> simp only [gl,Option.some.injEq,reduceCtorEq] at hop <;> subst hop
  ·simp [execOp,ho,hx,hy,bD,Lib.run_eql_slice_nil _ _ _ _ _ _ _ _ hu]
  ·simp [execOp,ho,hx,hy,bD,run_neq_slice_nil_any _ _ _ _ _ _ _ _ hu]
variable {w0 : World} {σ0 : Sig} {φ0 : Pl} {fr : List (Nat×AV)} {sto : Sto}
theorem gL(i j0 id : Nat){k b : Nat}{cs : List AC}(hl : look sto i = some (.box cs))(hc : cs[j0]? = some (.d .nil))(hlt : (Nat.blt id 1000000 && (!aT id fr && !aK id sto && !aZ sto id)) = true) : Imp c ⟨fr,sto⟩ ⟨fr,(id,.row k b [])::cg i (.box (cs.set j0 (.own id 0))) sto⟩:=by
 simp only [Bool.and_eq_true,Bool.not_eq_true',Nat.blt_eq] at hlt
 obtain ⟨h1,⟨h2,h3⟩,h4⟩:=hlt
 intro a w σ φ hr
 have hn:=hr.nilRow (id:=id) (k:=k) (b:=b) (by simpa using h1) h2 h3
 have hne : id≠i:=by rintro rfl; simp [aZ,hl] at h4
 have hE : Ext (fun _=>False) (bx φ id none) (bx φ id none) ((id,.row k b [])::sto) ((id,.row k b [])::cg i (.box (cs.set j0 (.own id 0))) sto):=by
  intro j _
  cases hj : look ((id,AObj.row k b [])::cg i (.box (cs.set j0 (.own id 0))) sto) j with
  | none=>exact .inl rfl
  | some e =>
    refine .inr ?_
    rcases ae hj with ⟨rfl,rfl⟩ | ⟨hne2,hj2⟩
    ·exact ⟨_,ay,rfl,_,rfl,compat.refl _⟩
    ·rw [cN] at hj2
     rcases ae hj2 with ⟨rfl,rfl⟩ | ⟨_,hj3⟩
     ·exact ⟨.box cs,by rw [aG hne2]; exact hl,rfl,.box (cs.set j0 (.own id 0)),rfl,trivial⟩
     ·exact ⟨_,by rw [aG hne2]; exact hj3,rfl,_,rfl,compat.refl _⟩
 have hold : ∀ {j e},look ((id,AObj.row k b [])::cg i (.box (cs.set j0 (.own id 0))) sto) j = some e→(j = i∧e = .box (cs.set j0 (.own id 0)))∨look ((id,AObj.row k b [])::sto) j = some e:=by
  intro j e hj
  rcases ae hj with ⟨rfl,rfl⟩ | ⟨hne2,hj2⟩
  ·exact .inr ay
  ·rw [cN] at hj2
   rcases ae hj2 with ⟨rfl,rfl⟩ | ⟨_,hj3⟩
   ·exact .inl ⟨rfl,rfl⟩
   ·exact .inr (by rw [aG hne2]; exact hj3)
 have hi : look ((id,AObj.row k b [])::sto) i = some (.box cs):=by rw [aG (fun e=>hne e.symm)]; exact hl
 refine ⟨σ,_,hn.le,hn.fresh,⟨hn.inv.sig,fun j e hj=>?_,fun j j' e e' p p' hj hj' hne2 hp hp'=>?_⟩,fun j e p hj hp=>?_,fun s v hv=>?_,hn.defers,hn.size,hn.fra,hn.pin⟩
 ·rcases hold hj with ⟨rfl,rfl⟩ | hj2
  ·obtain ⟨B,cc,vs,t,h5,h6,h7,h8⟩:=hn.inv.obj _ _ hi
   refine ⟨B,cc,vs,t,h5,h6,All2.of_get (by rw [List.length_set]; exact h7.length) fun m x u hx hu=>?_,h8⟩
   by_cases hm : j0 = m
   ·subst hm
    have hlt : j0 < cs.length:=(List.getElem?_eq_some_iff.1 hc).1
    rw [List.getElem?_set_self hlt] at hx
    cases hx
    obtain ⟨u',hu',hr9⟩:=h7.get hc
    rw [hu] at hu'; cases hu'
    replace hr9:=RepC.d_inv hr9
    cases hr9
    exact .ownNil ay au
   ·rw [List.getElem?_set_ne hm] at hx
    obtain ⟨u',hu',hr9⟩:=h7.get hx
    rw [hu] at hu'; cases hu'
    exact hr9.ext (Sig.le_refl _) hE fun j hj=>hj.elim
  ·exact (hn.inv.obj _ _ hj2).ext (X:=fun _=>False) (Sig.le_refl _) hE (fun j hj=>hj.elim) rfl fun _ _ _=>⟨rfl,rfl⟩
 ·have h5 : ∀ {j e},look ((id,AObj.row k b [])::cg i (.box (cs.set j0 (.own id 0))) sto) j = some e→∃ e0,look ((id,AObj.row k b [])::sto) j = some e0:=by
   intro j e hj
   rcases hold hj with ⟨rfl,rfl⟩ | hj2
   ·exact ⟨_,hi⟩
   ·exact ⟨_,hj2⟩
  obtain ⟨_,h6⟩:=h5 hj
  obtain ⟨_,h7⟩:=h5 hj'
  exact hn.inv.inj _ _ _ _ _ _ h6 h7 hne2 hp hp'
 ·rcases hold hj with ⟨rfl,rfl⟩ | hj2
  ·exact hn.mine _ _ _ hi hp
  ·exact hn.mine _ _ _ hj2 hp
 ·obtain ⟨u,hu,hru⟩:=hn.slot s v hv
  exact ⟨u,hu,hru.ext (Sig.le_refl _) hE fun j hj=>hj.elim⟩
theorem fA{V : Env}{st : St}{o : Oper}{id i n k b k' b' : Nat}{t t2 : TypeId}{x y : Operand}{v : AV}{xs ys : List (List D)}{e : TypeId}{z : List D}{q : TypeId×Nat×Nat×List D}
  (ho : o.op = .call { callee:=.builtin .append,args:=⟨[x,y]⟩,argTypes:=⟨[t,t2]⟩ }) (ht : aN V.T t = some (e,k,b,z)) (ht2 : aN V.T t2 = some q) (hx : ev st x = some (.one (.own i n))) (hl : look st.sto i = some (.row k' b' xs))
  (hkb : (Nat.beq k k' && Nat.beq b b') = true) (hy : ev st y = some v) (hs : dZ st k v = some ys) (h1 : n + ys.length≤1000000000) (h2 : (n + ys.length) * b≤100000000000) :
  aM V st o id = some ⟨.one (.own id (n + ys.length)),[(id,some (.row k b (xs.take n ++ ys))),(i,none)],[id]⟩:=by
 obtain ⟨q1,q2,q3,q4⟩:=q
 have e1 : Nat.ble (n + ys.length) 1000000000 = true:=by simpa using h1
 have e2 : Nat.ble ((n + ys.length) * b) 100000000000 = true:=by simpa using h2
 simp only [aM,cV,cj,ho,cQ,po,hx,hy,ht,ht2,hl,hs,hkb,e1,e2,cond_true,Bool.and_self,jT,List.map_cons,List.map_nil]
end Go.Abs
