import Derived.Test.YtpejdgkaapnekaaGreatGP25
import Derived.Test.YtpejdgkaapnekaaGreatGP26
import Derived.Test.YtpejdgkaapnekaaGreatGP16
import Derived.Test.YtpejdgkaapnekaaGreatGP18
import Derived.Test.YtpejdgkaapnekaaGreatGKZ
import Derived.Test.YtpejdgkaapnekaaGreatGP21
set_option linter.unusedVariables false
set_option linter.unusedSimpArgs false
set_option linter.unnecessarySimpa false
set_option maxHeartbeats 1000000
namespace Go.Proofs.YtpejdgkaapnekaaGreat
open Go Go.Abs
attribute [local irreducible] ac OkC ao ax ap aJ
set_option maxRecDepth 10000
theorem uR{s : Scalar}(h : fo s = 0) : cW s = true∧(aS s).length≤64:=by
 have h3:=qk (aS s) 0 true (by omega)
 unfold fo at h
 split at h
 ·omega
 ·by_cases hc : 64 < ((aS s).length : Int)
  ·rw [h3.1 (by omega)] at h; omega
  ·rw [h3.2 (by omega),Bool.true_and,← wu] at h
   refine ⟨?_,by omega⟩
   cases hp : cW s with
   | true=>rfl
   | false=>rw [hp] at h; simp at h
def bT(ds : List Dim)(ats : List Attr)(cs : List Cell)(s : Scalar) : Int×Int :=
 if cE ds ats cs≠0 then (0,2) else if fo s≠0 then (0,fo s) else ce du ds ats s
theorem c20(ds : List Dim)(ats : List Attr)(cs : List Cell)(s : Scalar) : CallA Tryz.prog 20 [.agg [.d (aH ds),.d (aF ats),.d (bg cs)],cY s] [] (ie (bT ds ats cs s)) []:=by
 refine enter ae Tryz.func20 rfl (by decide +kernel) rfl fun hok w0 σ0 φ0 M=>?_
 clear hok
 by_cases h1 : cE ds ats cs = 0
 ·have hb1 : (cE ds ats cs != 0) = false:=by simp [h1]
  by_cases h2 : fo s = 0
  ·have hb2 : (fo s != 0) = false:=by simp [h2]
   obtain ⟨hp,hsz⟩:=uR h2
   have e : bT ds ats cs s = ce du ds ats s:=by simp [bT,h1,h2]
   rw [e]
   repeat' (first|(refine h1H ?_; (refine h0H ?_; first|refine aa J J J J J J J J (c59 _ _ _) J ?_|refine aa J J J J J J J J (c87 _) J ?_|refine aa J J J J J J J J (c88 _ _ _ _ (by assumption) (by assumption)) J ?_))|refine wG ?_)
   all_goals rfl
  ·have hb2 : (fo s != 0) = true:=by simp [h2]
   have e : bT ds ats cs s = (0,fo s):=by simp [bT,h1,h2]
   rw [e]
   repeat' (first|(refine h1H ?_; (refine h0H ?_; first|refine aa J J J J J J J J (c59 _ _ _) J ?_|refine aa J J J J J J J J (c87 _) J ?_))|refine wG ?_)
   all_goals rfl
 ·have hb1 : (cE ds ats cs != 0) = true:=by simp [h1]
  have e : bT ds ats cs s = (0,2):=by simp [bT,h1]
  rw [e]
  repeat' (first|(refine h1H ?_; (refine h0H ?_; refine aa J J J J J J J J (c59 _ _ _) J ?_))|refine wG ?_)
  all_goals rfl
theorem c21(ds : List Dim)(ats : List Attr)(cs : List Cell)(s : Scalar) : CallA Tryz.prog 21 [.agg [.d (aH ds),.d (aF ats),.d (bg cs)],cY s] [] (ie (bT ds ats cs s)) []:=by
 refine enter ae Tryz.func21 rfl (by decide +kernel) rfl fun hok w0 σ0 φ0 M=>?_
 clear hok
 have hf:=EQ s
 by_cases h1 : cE ds ats cs = 0
 ·have hb1 : (cE ds ats cs != 0) = false:=by simp [h1]
  by_cases h2 : 12 < cN 12 s
  ·have hb2 : decide (12 < cN 12 s) = true:=by simp [h2]
   rw [if_pos h2] at hf
   have e : bT ds ats cs s = (0,10):=by simp [bT,h1,hf]
   rw [e]
   repeat' (first|(refine h1H ?_; (refine h0H ?_; first|refine aa J J J J J J J J (c89 _ _ _) J ?_|refine aa J J J J J J J J (c90 12 s 12 J (by omega)) J ?_))|refine wG ?_)
   all_goals rfl
  ·have hb2 : decide (12 < cN 12 s) = false:=by simp [h2]
   rw [if_neg h2] at hf
   by_cases h3 : 64 < c9 s 64
   ·have hb3 : decide (64 < c9 s 64) = true:=by simp [h3]
    rw [if_pos h3] at hf
    have e : bT ds ats cs s = (0,9):=by simp [bT,h1,hf]
    rw [e]
    repeat' (first|(refine h1H ?_; (refine h0H ?_; first|refine aa J J J J J J J J (c89 _ _ _) J ?_|refine aa J J J J J J J J (c90 12 s 12 J (by omega)) J ?_|refine aa J J J J J J J J (c91 s 64 (by omega) (by omega)) J ?_))|refine wG ?_)
    all_goals rfl
   ·have hb3 : decide (64 < c9 s 64) = false:=by simp [h3]
    rw [if_neg h3] at hf
    cases hp : cW s with
    | true =>
      have hb4 : (!cW s) = false:=by simp [hp]
      rw [hp,if_pos rfl] at hf
      obtain ⟨_,hsz⟩:=uR hf
      have e : bT ds ats cs s = ce gt ds ats s:=by rw [← FQ s hp]; simp [bT,h1,hf]
      rw [e]
      repeat' (first|(refine h1H ?_; (refine h0H ?_; first|refine aa J J J J J J J J (c89 _ _ _) J ?_|refine aa J J J J J J J J (c90 12 s 12 J (by omega)) J ?_|refine aa J J J J J J J J (c91 s 64 (by omega) (by omega)) J ?_|refine aa J J J J J J J J (c92 _) J ?_|refine aa J J J J J J J J (c93 _ _ _ _ (by assumption) (by assumption)) J ?_))|refine wG ?_)
      all_goals rfl
    | false =>
      have hb4 : (!cW s) = true:=by simp [hp]
      rw [hp] at hf
      have e : bT ds ats cs s = (0,2):=by simp [bT,h1,hf]
      rw [e]
      repeat' (first|(refine h1H ?_; (refine h0H ?_; first|refine aa J J J J J J J J (c89 _ _ _) J ?_|refine aa J J J J J J J J (c90 12 s 12 J (by omega)) J ?_|refine aa J J J J J J J J (c91 s 64 (by omega) (by omega)) J ?_|refine aa J J J J J J J J (c92 _) J ?_))|refine wG ?_)
      all_goals rfl
 ·have hb1 : (cE ds ats cs != 0) = true:=by simp [h1]
  have e : bT ds ats cs s = (0,2):=by simp [bT,h1]
  rw [e]
  repeat' (first|(refine h1H ?_; (refine h0H ?_; refine aa J J J J J J J J (c89 _ _ _) J ?_))|refine wG ?_)
  all_goals rfl
theorem c19 : CallA Tryz.prog 19 [] [] (.one (.d (.bool true))) []:=PF
end Go.Proofs.YtpejdgkaapnekaaGreat
namespace Go.Proofs.YtpejdgkaapnekaaGreat
open Go Go.Abs
def au : List Int→Int
 | []=>0
 | d::r=>d + 1000000000 * au r
def Dw(l : List Int) : Prop:=∀ d∈l,0≤d∧d < 1000000000
def dw(n : Nat) : List Int:=if h : n = 0 then [] else ((n % 1000000000 : Nat) : Int)::dw (n / 1000000000)
 termination_by n
 decreasing_by omega
def pu(k : Nat) : Int:=1000000000 ^ k
theorem ku(k : Nat) : pu (k + 1) = 1000000000 * pu k:=by unfold pu; rw [Int.pow_succ,Int.mul_comm]
theorem vt : pu 0 = 1:=rfl
theorem pF(k : Nat) : 0 < pu k:=by
 induction k with
 | zero=>decide
 | succ k ih=>rw [ku]; omega
theorem ye(a b : Nat) : pu (a + b) = pu a * pu b:=by unfold pu; rw [Int.pow_add]
theorem sE : ∀ {a b : List Int},au (a ++ b) = au a + pu a.length * au b
 | [],b=>by simp [au,vt]
 | d::a,b=>by
   simp only [List.cons_append,au,sE (a:=a) (b:=b),List.length_cons,ku,Int.mul_add,Int.mul_assoc]
   omega
theorem Dw.cons{d : Int}{r : List Int}(h : Dw (d::r)) : (0≤d∧d < 1000000000)∧Dw r:=⟨h d List.mem_cons_self,fun x hx=>h x (List.mem_cons_of_mem _ hx)⟩
theorem Dw.at{l : List Int}(h : Dw l){i : Nat}(hi : i < l.length) : 0≤at_ l i∧at_ l i < 1000000000:=h _ (bM hi)
theorem Dw.take{l : List Int}(h : Dw l)(n : Nat) : Dw (l.take n):=fun d hd=>h d (List.mem_of_mem_take hd)
theorem Dw.drop{l : List Int}(h : Dw l)(n : Nat) : Dw (l.drop n):=fun d hd=>h d (List.mem_of_mem_drop hd)
theorem kh : ∀ {l : List Int},Dw l→0≤au l∧au l < pu l.length
 | [],_=>by simp [au,vt]
 | d::r,h=>by
   obtain ⟨h1,h2⟩:=h.cons
   have:=kh h2
   simp only [au,List.length_cons,ku]
   omega
theorem ep : dw 0 = []:=by rw [dw]; simp
theorem gd{n : Nat}(h : n≠0) : dw n = ((n % 1000000000 : Nat) : Int)::dw (n / 1000000000):=by rw [dw]; simp [h]
theorem fm : ∀ (n : Nat),Dw (dw n)∧au (dw n) = n∧(dw n = []∨at_ (dw n) ((dw n).length - 1)≠0):=by
 intro n
 induction n using Nat.strongRecOn with
 | _ n ih =>
   by_cases h : n = 0
   ·subst h; rw [ep]; exact ⟨fun d hd=>by simp at hd,rfl,.inl rfl⟩
   ·obtain ⟨i1,i2,i3⟩:=ih (n / 1000000000) (by omega)
    rw [gd h]
    refine ⟨fun d hd=>?_,?_,.inr ?_⟩
    ·rcases List.mem_cons.1 hd with rfl | hd
     ·omega
     ·exact i1 d hd
    ·simp only [au,i2]; omega
    ·rcases i3 with i3 | i3
     ·rw [i3]
      have h0 : n / 1000000000 = 0:=by rw [i3] at i2; simp only [au] at i2; omega
      show ((n % 1000000000 : Nat) : Int)≠0
      omega
     ·cases hd : dw (n / 1000000000) with
      | nil =>
        rw [hd] at i2; simp only [au] at i2
        show ((n % 1000000000 : Nat) : Int)≠0
        omega
      | cons e r =>
        rw [hd] at i3
        show at_ (_::e::r) (r.length + 1)≠0
        exact i3
theorem Bm : ∀ {l : List Int},Dw l→(l = []∨at_ l (l.length - 1)≠0)→dw (au l).toNat = l
 | [],_,_=>by simp [au,ep]
 | d::r,h,hl=>by
   obtain ⟨h1,h2⟩:=h.cons
   have hb:=(kh h2).1
   have hr : r = []∨at_ r (r.length - 1)≠0:=by
    cases r with
    | nil=>exact .inl rfl
    | cons e s=>exact .inr (by rcases hl with hl | hl; · cases hl
                               ·exact hl)
   have ih:=Bm h2 hr
   have hne : au (d::r)≠0:=by
    intro h0
    simp only [au] at h0
    have hd : d = 0:=by omega
    have hz : au r = 0:=by omega
    rw [hz] at ih
    have hr0 : r = []:=by rw [← ih]; simpa using ep
    subst hr0
    rcases hl with hl | hl
    ·cases hl
    ·exact hl hd
   have hn : (au (d::r)).toNat≠0:=by simp only [au] at hne ⊢; omega
   rw [gd hn]
   have e1 : (au (d::r)).toNat / 1000000000 = (au r).toNat:=by simp only [au]; omega
   have e2 : (((au (d::r)).toNat % 1000000000 : Nat) : Int) = d:=by simp only [au]; omega
   rw [e1,e2,ih]
theorem Bc{l : List Int}{k : Nat}(h : Dw l)(hk : k≤l.length)(hv : au (l.take k) = au l)(hl : k = 0∨at_ l (k - 1)≠0) : dw (au l).toNat = l.take k:=by
 rw [← hv]
 refine Bm (h.take k) ?_
 rcases hl with hl | hl
 ·subst hl; exact .inl (by simp)
 ·by_cases h0 : k = 0
  ·subst h0; exact .inl (by simp)
  ·refine .inr ?_
   rw [List.length_take,Nat.min_eq_left hk,sw (by omega)]
   exact hl
theorem qi{l : List Int}{k : Nat}(h : k < l.length) : au (l.take (k + 1)) = au (l.take k) + pu k * at_ l k:=by
 rw [eO h,sE,List.length_take,Nat.min_eq_left (by omega)]; simp [au]
theorem EI{l : List Int}{k : Nat}(h : k < l.length)(h0 : at_ l k = 0) : au (l.take (k + 1)) = au (l.take k):=by rw [qi h,h0]; simp
theorem GR{l : List Int}{k : Nat}{x : Int}(h : k < l.length) : au (l.set k x) = au l + pu k * (x - at_ l k):=by
 induction l generalizing k with
 | nil=>simp at h
 | cons d r ih =>
   cases k with
   | zero=>simp only [List.set_cons_zero,au,vt]; show _ = _ + 1 * (x - d); omega
   | succ k =>
     have:=ih (k:=k) (by simpa using h)
     simp only [List.set_cons_succ,au,this,ku,Int.mul_add,Int.mul_assoc]
     show _ = _ + 1000000000 * (pu k * (x - at_ r k))
     omega
theorem Dw.set{l : List Int}{k : Nat}{x : Int}(h : Dw l)(hx : 0≤x∧x < 1000000000) : Dw (l.set k x):=fun d hd=>by
 rcases List.mem_or_eq_of_mem_set hd with hd | rfl
 ·exact h d hd
 ·exact hx
theorem Dw.zeros(n : Nat) : Dw (List.replicate n 0):=fun d hd=>by rw [List.eq_of_mem_replicate hd]; omega
theorem Dj(n : Nat) : au (List.replicate n 0) = 0:=by
 induction n with
 | zero=>rfl
 | succ n ih=>simp [List.replicate_succ,au,ih]
theorem Bd : ∀ {a b : List Int} {k : Nat},Dw a→Dw b→a.length = b.length→k < a.length→(∀ i,k < i→i < a.length→at_ a i = at_ b i)→at_ a k < at_ b k→au a < au b
 | x::a,y::b,k,ha,hb,hl,hk,he,h=>by
   obtain ⟨a1,a2⟩:=ha.cons
   obtain ⟨b1,b2⟩:=hb.cons
   have hl' : a.length = b.length:=by simpa using hl
   cases k with
   | zero =>
     have e : a = b:=gY hl' fun i hi=>he (i + 1) (by omega) (by simpa using hi)
     have h' : x < y:=h
     subst e; simp only [au]; omega
   | succ k =>
     have:=Bd (k:=k) a2 b2 hl' (by simpa using hk) (fun i h1 h2=>he (i + 1) (by omega) (by simpa using h2)) h
     simp only [au]; omega
 | [],_,k,_,_,_,hk,_,_=>by simp at hk
 | _::_,[],k,_,_,hl,_,_,_=>by simp at hl
theorem y9{a b : List Int}(ha : Dw a)(hb : Dw b)(hn : b = []∨at_ b (b.length - 1)≠0)(hl : a.length < b.length) : au a < au b:=by
 have h1:=(kh ha).2
 have hne : b≠[]:=fun e=>by rw [e] at hl; simp at hl
 have hn':=hn.resolve_left hne
 have h2 : au b = au (b.take (b.length - 1)) + pu (b.length - 1) * at_ b (b.length - 1):=by
  have:=qi (l:=b) (k:=b.length - 1) (by omega)
  rwa [show b.length - 1 + 1 = b.length by omega,List.take_length] at this
 have h3:=(kh (hb.take (b.length - 1))).1
 have h4 : 1≤at_ b (b.length - 1):=by have:=hb.at (i:=b.length - 1) (by omega); omega
 have h5 : pu a.length≤pu (b.length - 1):=by
  obtain ⟨m,hm⟩ : ∃ m,b.length - 1 = a.length + m:=⟨b.length - 1 - a.length,by omega⟩
  rw [hm,ye]
  have:=Int.mul_le_mul_of_nonneg_left (show 1≤pu m by have:=pF m; omega) (Int.le_of_lt (pF a.length))
  omega
 have h6:=Int.mul_le_mul_of_nonneg_left h4 (Int.le_of_lt (pF (b.length - 1)))
 omega
end Go.Proofs.YtpejdgkaapnekaaGreat
namespace Go.Proofs.YtpejdgkaapnekaaGreat
open Go Go.Abs
attribute [local irreducible] ac OkC ao ax ap aJ
set_option maxRecDepth 10000
def bz(n : Nat) : D:=cy (dw n)
theorem jn{n : Nat}(h : n < 1000000000000000000) : cr (n : Int) = dw n:=by
 unfold cr
 by_cases h0 : n = 0
 ·subst h0; rw [ep]; rfl
 ·rw [if_neg (by omega),gd h0]
  by_cases h1 : n < 1000000000
  ·rw [if_pos (by omega),show n / 1000000000 = 0 by omega,ep,show n % 1000000000 = n by omega]
  ·rw [if_neg (by omega),gd (n:=n / 1000000000) (by omega),show n / 1000000000 / 1000000000 = 0 by omega,ep,show n / 1000000000 % 1000000000 = n / 1000000000 by omega]
   rfl
theorem CI(n : Nat)(hn : n < 1000000000000000000) : CallA Tryz.prog 268 [.one (.d (.int .u64 n))] [] (.one (.d (bz n))) []:=by
 have:=uA (n : Int) (by omega) (by omega)
 rwa [jn hn] at this
theorem G7(v : Int)(n : Nat)(hv : v = (n : Int))(hn : n < 1000000000000000000) : CallA Tryz.prog 268 [.one (.d (.int .u64 v))] [] (.one (.d (bz n))) []:=by
 subst hv; exact CI n hn
theorem qR(l : List Int)(i : Nat)(h : Dw l) : CallA Tryz.prog 342 [.one (.d (cy l)),.one (.d (.int .i64 i))] [] (.one (.d (.int .u64 (at_ l i)))) []:=FU l i h
theorem Qv(l : List Int)(h : Dw l) : CallA Tryz.prog 344 [.one (.d (cy l))] [] (.one (.d (bz (au l).toNat))) []:=by
 refine enter ae Tryz.func344 rfl (by decide +kernel) rfl fun hok w0 σ0 φ0 M=>?_
 have h1:=(OkD.sl hok.1).1
 clear hok
 simp only [List.length_map] at h1
 repeat' (first|(refine h1H ?_; (refine h9H ?_; refine s_e aq J J J (j7 J J J J J wB wB) ?_))|(refine h1H ?_; (refine xL ?_; refine s_e aq J J J (c3 J J J J J wB (y8 hr hk wB)) ?_))|refine wG ?_|(refine h1H ?_; (refine h5H ?_; refine aG J J J J (fun h=>?_) (fun h=>?_)))|(refine h4H ?_; first|refine ag J (fun h=>?_) (fun h=>?_)|refine aB 1 J [] aT (fun (p : Nat×List (List D))=>[(0,.one (.d (.sl 1 4 p.2)))]) (fun (p : Nat×List (List D))=>p.1≤l.length∧p.2.length = p.1∧p.2 = (l.map ak).take p.1∧au (l.take p.1) = au l) (fun (p : Nat×List (List D))=>p.1) (l.length,l.map ak) (q1Q J) ?_ (fun p ⟨hk,hq,hr,hv⟩=>?_))|(show Exists _; refine Exists.intro ((p.1 - 1,p.2.take (Int.toNat ((p.2.length : Int) - 1)))) ⟨?_,?_,wK,(q1Q J),aT⟩))
 ·exact ⟨Nat.le_refl _,by simp,(List.take_of_length_le (by simp)).symm,by simp⟩
 ·have e : ((p.2.length : Int) - 1).toNat = p.1 - 1:=by omega
  have h0 : (0 : Int) < (p.2.length : Int):=of_decide_eq_true ‹decide (_ < _) = true›
  have hz:=EI (l:=l) (k:=p.1 - 1) (by omega) (by rw [← e]; simpa using h)
  rw [show p.1 - 1 + 1 = p.1 by omega] at hz
  refine ⟨by show p.1 - 1≤_; omega,?_,?_,?_⟩
  ·show (p.2.take _).length = p.1 - 1
   rw [e]; simp; omega
  ·show p.2.take _ = (l.map ak).take (p.1 - 1)
   rw [e,hr,List.take_take,Nat.min_eq_left (by omega)]
  ·show au (l.take (p.1 - 1)) = _
   rw [← hz,hv]
 ·have h0 : (0 : Int) < (p.2.length : Int):=of_decide_eq_true ‹decide (_ < _) = true›
  show p.1 - 1 < p.1
  omega
 ·have e : ((p.2.length : Int) - 1).toNat = p.1 - 1:=by omega
  show AV.one (.d (.sl 1 4 p.2)) = AV.one (.d (.sl 1 4 ((dw (au l).toNat).map ak)))
  rw [Bc ‹Dw l› hk hv (.inr (by rw [← e]; simpa using h)),hr,List.map_take]
 ·have h0 : ¬ (0 : Int) < (p.2.length : Int):=of_decide_eq_false (by simpa using h)
  show AV.one (.d (.sl 1 4 p.2)) = AV.one (.d (.sl 1 4 ((dw (au l).toNat).map ak)))
  rw [Bc ‹Dw l› hk hv (.inl (by omega)),hr,List.map_take]
theorem oz{m n : Nat}(h : (dw m).length < (dw n).length) : m < n:=by
 obtain ⟨a1,a2,a3⟩:=fm m
 obtain ⟨b1,b2,b3⟩:=fm n
 have:=y9 a1 b1 b3 h
 omega
theorem EJ{m n : Nat}{k : Nat}(hl : (dw m).length = (dw n).length)(hk : k < (dw m).length)(he : ∀ i,k < i→i < (dw m).length→at_ (dw m) i = at_ (dw n) i)(h : at_ (dw m) k < at_ (dw n) k) : m < n:=by
 obtain ⟨a1,a2,a3⟩:=fm m
 obtain ⟨b1,b2,b3⟩:=fm n
 have:=Bd a1 b1 hl hk he h
 omega
theorem Iu{m n : Nat}(hl : (dw m).length = (dw n).length)(he : ∀ i,i < (dw m).length→at_ (dw m) i = at_ (dw n) i) : m = n:=by
 have e : dw m = dw n:=List.ext_getElem hl fun i h1 h2=>by
  have:=he i h1
  simpa [at_,h1,h2] using this
 have a:=(fm m).2.1
 have b:=(fm n).2.1
 rw [e] at a
 omega
theorem wW(m n : Nat) : CallA Tryz.prog 265 [.one (.d (bz m)),.one (.d (bz n))] [] (.one (.d (.int .i64 (gU m n)))) []:=by
 refine enter ae Tryz.func265 rfl (by decide +kernel) rfl fun hok w0 σ0 φ0 M=>?_
 have h1:=(OkD.sl hok.1).1
 clear hok
 simp only [List.length_map] at h1
 repeat' (first|refine wG ?_|(refine h4H ?_; first|refine ag J (fun h=>?_) (fun h=>?_)|refine aB 6 J [(0,_),(1,_)] (q2Q J J) (fun (p : Int)=>[(5,.one (.d (.int .i64 p)))]) (fun (p : Int)=>-1≤p∧p < ((dw m).length : Int)∧(∀ i : Nat,p < (i : Int)→i < (dw m).length→at_ (dw m) i = at_ (dw n) i)) (fun (p : Int)=>(p + 1).toNat) ((((dw m).map ak).length : Int) - 1) (q1Q J) ?_ (fun p ⟨hk,hk2,hs⟩=>?_))|(show Exists _; refine Exists.intro ((p - 1)) ⟨?_,?_,wK,(q1Q J),(q2Q J J)⟩))
 ·rw [iu (oz (EK h))]
 ·rw [iv (oz (by
   have h2:=EL ‹_›
   have:=EM h; omega))]
 ·simp only [List.length_map]; exact ⟨by omega,by omega,fun i h2 h3=>by omega⟩
 ·have hl:=nN ‹_›
  have h0 : 0≤p:=of_decide_eq_true ‹decide (0≤p) = true›
  rw [iu (EJ hl (k:=p.toNat) (by omega) (fun i h2 h3=>hs i (by omega) h3) (of_decide_eq_true h))]
 ·have hl:=nN ‹_›
  have h0 : 0≤p:=of_decide_eq_true ‹decide (0≤p) = true›
  rw [iv (EJ hl.symm (k:=p.toNat) (by omega) (fun i h2 h3=>(hs i (by omega) (by omega)).symm) (of_decide_eq_true h))]
 ·have h0 : 0≤p:=of_decide_eq_true ‹decide (0≤p) = true›
  have hge:=of_decide_eq_false ‹decide (at_ (dw m) p.toNat < at_ (dw n) p.toNat) = false›
  have hle:=of_decide_eq_false h
  have he : at_ (dw m) p.toNat = at_ (dw n) p.toNat:=by omega
  refine ⟨by omega,by omega,fun i h2 h3=>?_⟩
  rcases Int.lt_or_le p (i : Int) with h4 | h4
  ·exact hs i h4 h3
  ·have : i = p.toNat:=by omega
   rw [this,he]
 ·have h0 : 0≤p:=of_decide_eq_true ‹decide (0≤p) = true›
  omega
 ·have hl:=nN ‹_›
  have h0 : ¬ 0≤p:=of_decide_eq_false h
  rw [kc (Iu hl fun i h2=>hs i (by omega) h2)]
theorem Dw.at'{l : List Int}(h : Dw l)(i : Nat) : 0≤at_ l i∧at_ l i < 1000000000:=by
 by_cases hi : i < l.length
 ·exact h.at hi
 ·rw [iQ (Nat.le_of_not_lt hi)]; omega
theorem Dw.app{l : List Int}{d : Int}(h : Dw l)(hd : 0≤d∧d < 1000000000) : Dw (l ++ [d]):=fun x hx=>by
 rcases List.mem_append.1 hx with hx | hx
 ·exact h x hx
 ·rw [List.mem_singleton.1 hx]; exact hd
theorem wq{l : List Int}{d : Int} : au (l ++ [d]) = au l + pu l.length * d:=by rw [sE]; simp [au]
theorem iA{l : List Int}{k : Nat} : au (l.take (k + 1)) = au (l.take k) + pu k * at_ l k:=by
 by_cases h : k < l.length
 ·exact qi h
 ·rw [iQ (Nat.le_of_not_lt h),List.take_of_length_le (by omega),List.take_of_length_le (by omega)]; simp
theorem KB{L : List Int}{R : List (List D)}{i : Nat}{d : Int}(hr : R = L.map ak)(hl : L.length = i) : R.take i ++ [[.int .u32 d]] = (L ++ [d]).map ak:=by
 rw [hr,List.take_of_length_le (by simp; omega),List.map_append]; rfl
theorem Hh{L : List Int}{R : List (List D)}{i : Nat}(hr : R = L.map ak)(hl : L.length = i) : R.take i = L.map ak:=by
 rw [hr,List.take_of_length_le (by simp; omega)]
theorem tm(ys : List (List D))(l : List Int)(m : Nat)(hy : ys = l.map ak)(h : Dw l)(hm : (au l).toNat = m) : CallA Tryz.prog 344 [.one (.d (.sl 1 4 ys))] [] (.one (.d (bz m))) []:=by
 subst hy; subst hm; exact Qv l h
theorem IA{X Y L : List Int}{R : List (List D)}{i : Nat}{c s : Int}(hs : s = at_ X i + at_ Y i + c)(hr : R = L.map ak)(hl : L.length = i)(hL : Dw L)(hc : 0≤c∧c≤1)(hX : Dw X)(hY : Dw Y)(hv : au L + pu i * c = au (X.take i) + au (Y.take i)) :
  R.take i ++ [[.int .u32 (s % 1000000000)]] = (L ++ [s % 1000000000]).map ak∧(L ++ [s % 1000000000]).length = i + 1∧Dw (L ++ [s % 1000000000])∧(0≤s / 1000000000∧s / 1000000000≤1)∧(0≤at_ X (i + 1)∧at_ X (i + 1) < 1000000000)∧(0≤at_ Y (i + 1)∧at_ Y (i + 1) < 1000000000) ∧
  au (L ++ [s % 1000000000]) + pu (i + 1) * (s / 1000000000) = au (X.take (i + 1)) + au (Y.take (i + 1)):=by
 have hx:=hX.at' i
 have hy:=hY.at' i
 refine ⟨KB hr hl,by simp [hl],hL.app (by omega),by omega,hX.at' _,hY.at' _,?_⟩
 rw [wq,iA,iA,hl,ku]
 have e3 : s % 1000000000 = s - 1000000000 * (s / 1000000000):=by omega
 rw [e3]
 generalize s / 1000000000 = q
 rw [hs]
 have e7 : pu i * (at_ X i + at_ Y i + c - 1000000000 * q) = pu i * at_ X i + pu i * at_ Y i + pu i * c - 1000000000 * pu i * q:=by
  simp only [Int.mul_sub,Int.mul_add]
  rw [← Int.mul_assoc,Int.mul_comm (pu i) 1000000000]
 rw [e7]
 omega
theorem KC{X Y L : List Int}{i : Nat}{c : Int}(h1 : X.length≤i)(h2 : Y.length≤i)(h3 : ¬ 0 < c)(hc : 0≤c∧c≤1)(hv : au L + pu i * c = au (X.take i) + au (Y.take i)) : (au L).toNat = (au X + au Y).toNat:=by
 have e : c = 0:=by omega
 rw [e,List.take_of_length_le h1,List.take_of_length_le h2] at hv
 rw [← hv]; simp
theorem IB{X Y L : List Int}{R : List (List D)}{i : Nat}{b s : Int}(hs : s = at_ X i + 1000000000 - at_ Y i - b)(hr : R = L.map ak)(hl : L.length = i)(hL : Dw L)(hb : 0≤b∧b≤1)(hX : Dw X)(hY : Dw Y)(hv : au L = au (X.take i) - au (Y.take i) + pu i * b) :
  R.take i ++ [[.int .u32 (s % 1000000000)]] = (L ++ [s % 1000000000]).map ak∧(L ++ [s % 1000000000]).length = i + 1∧Dw (L ++ [s % 1000000000])∧(0≤1 - s / 1000000000∧1 - s / 1000000000≤1)∧(0≤at_ X (i + 1)∧at_ X (i + 1) < 1000000000)∧(0≤at_ Y (i + 1)∧at_ Y (i + 1) < 1000000000) ∧
  au (L ++ [s % 1000000000]) = au (X.take (i + 1)) - au (Y.take (i + 1)) + pu (i + 1) * (1 - s / 1000000000):=by
 have hx:=hX.at' i
 have hy:=hY.at' i
 refine ⟨KB hr hl,by simp [hl],hL.app (by omega),by omega,hX.at' _,hY.at' _,?_⟩
 rw [wq,iA,iA,hl,ku,hv]
 have e3 : s % 1000000000 = s - 1000000000 * (s / 1000000000):=by omega
 rw [e3]
 generalize s / 1000000000 = q
 rw [hs]
 have e7 : pu i * (at_ X i + 1000000000 - at_ Y i - b - 1000000000 * q) = pu i * at_ X i + 1000000000 * pu i - pu i * at_ Y i - pu i * b - 1000000000 * pu i * q:=by
  simp only [Int.mul_sub,Int.mul_add]
  rw [← Int.mul_assoc,Int.mul_comm (pu i) 1000000000]
 have e8 : 1000000000 * pu i * (1 - q) = 1000000000 * pu i - 1000000000 * pu i * q:=by rw [Int.mul_sub,Int.mul_one]
 rw [e7,e8]
 omega
theorem KD{X Y L : List Int}{i : Nat}{b : Int}(h1 : X.length≤i)(h2 : Y.length≤X.length)(hle : au Y≤au X)(hl : L.length = i)(hi : i≤X.length)(hX : Dw X)(hL : Dw L)(hb : 0≤b∧b≤1)(hv : au L = au (X.take i) - au (Y.take i) + pu i * b) : (au L).toNat = (au X - au Y).toNat:=by
 have e : i = X.length:=by omega
 subst e
 rw [List.take_of_length_le (Nat.le_refl _),List.take_of_length_le h2] at hv
 have hbd:=kh hL
 rw [hl] at hbd
 have hb' : b = 0∨b = 1:=by omega
 rcases hb' with rfl | rfl
 ·rw [hv]; simp
 ·exfalso; rw [Int.mul_one] at hv; omega
set_option maxHeartbeats 1000000 in
theorem LP(X Y : List Int)(hX : Dw X)(hY : Dw Y)(hn : X.length≤400)(hm : Y.length≤400) : CallA Tryz.prog 288 [.one (.d (cy X)),.one (.d (cy Y))] [] (.one (.d (bz (au X + au Y).toNat))) []:=by
 refine enter ae Tryz.func288 rfl (by decide +kernel) rfl fun hok w0 σ0 φ0 M=>?_
 clear hok
 repeat' (first|(refine h1H ?_; (refine h0H ?_; refine cS 40 [10] J J J J J J J J J (tm _ p.2.2.1 _ (Hh hr hl) hL (KC (by simpa using ‹decide ((p.1 : Int) < ((X.map ak).length : Int)) = false›) (by simpa using ‹decide ((p.1 : Int) < ((Y.map ak).length : Int)) = false›) (of_decide_eq_false ‹decide (0 < p.2.1) = false›) hc hv)) J J J ?_))|(refine h1H ?_; (refine uV ?_; refine s_e aq J J J (fZ J J J J (by omega) (by omega)) ?_))|(refine h1H ?_; (refine pE ?_; refine s_e aq J J J (ec J J J J (by omega) (by omega) (gl (by omega) (by omega))) ?_))|(refine h1H ?_; (refine h0H ?_; first|refine aa J J J J J J J J (qR _ _ hX) J ?_|refine aa J J J J J J J J (qR _ _ hY) J ?_))|refine wG ?_|(refine h1H ?_; (refine h5H ?_; refine aG J J J J (fun h=>?_) (fun h=>?_)))|(refine h4H ?_; first|refine ag J (fun h=>?_) (fun h=>?_)|refine fy 4 J (ee (s:=5) (id:=10) (k:=1) (b:=4) J J J J) [(0,_),(1,_)] (q2Q J J) (fun (bN : Bool×Bool) (p : Nat×Int×List Int×List (List D))=>[(5,.one (.own 10 p.1)),(6,.one (.d (.int .u64 p.2.1))),(7,.one (.d (.int .i64 (p.1 : Int))))]) (fun (bN : Bool×Bool) (p : Nat×Int×List Int×List (List D))=>[(10,.row 1 4 p.2.2.2)]) (fun (p : Nat×Int×List Int×List (List D))=>p.2.2.2 = p.2.2.1.map ak∧p.2.2.1.length = p.1∧Dw p.2.2.1∧(0≤p.2.1∧p.2.1≤1)∧(0≤at_ X p.1∧at_ X p.1 < 1000000000)∧(0≤at_ Y p.1∧at_ Y p.1 < 1000000000)∧au p.2.2.1 + pu p.1 * p.2.1 = au (X.take p.1) + au (Y.take p.1)∧(p.1 : Int) + p.2.1≤401) (fun (p : Nat×Int×List Int×List (List D))=>402 - p.1) (0,0,[],[]) (q3Q J J J) wK (fun b y=>by obtain ⟨b1,b2⟩:=b; cases b1 <;> cases b2 <;> first|exact Imp.refl _|exact fz qN (by kernel_rfl)) ?_ (fun p ⟨hr,hl,hL,hc,hx,hy,hv,hi⟩=>?_))|(show Exists _; refine Exists.intro ((p.1 + 1,(at_ X p.1 + at_ Y p.1 + p.2.1) / 1000000000,p.2.2.1 ++ [(at_ X p.1 + at_ Y p.1 + p.2.1) % 1000000000],p.2.2.2.take p.1 ++ [[.int .u32 ((at_ X p.1 + at_ Y p.1 + p.2.1) % 1000000000)]])) (Exists.intro (false,false) ⟨?_,?_,wK,(q3Q J J J),(q2Q J J)⟩)))
 ·exact ⟨rfl,rfl,fun d hd=>by simp at hd,⟨Int.le_refl _,by show (0 : Int)≤1; omega⟩,hX.at' _,hY.at' _,by simp [au],by show ((0 : Nat) : Int) + 0≤401; omega⟩
 all_goals first
  | (obtain ⟨q1,q2,q3,q4,q5,q6,q7⟩:=IA (s:=at_ X p.1 + at_ Y p.1 + p.2.1) rfl hr hl hL hc hX hY hv
     refine ⟨q1,q2,q3,q4,q5,q6,q7,?_⟩
     show ((p.1 + 1 : Nat) : Int) + (at_ X p.1 + at_ Y p.1 + p.2.1) / 1000000000≤401
     have hz : X.length≤p.1→at_ X p.1 = 0:=iQ
     have hz2 : Y.length≤p.1→at_ Y p.1 = 0:=iQ
     simp only [a4A,a3A,a0A,a1A,a5A] at *
     have h5 : p.1 < X.length∨X.length≤p.1:=Nat.lt_or_ge _ _
     have h6 : p.1 < Y.length∨Y.length≤p.1:=Nat.lt_or_ge _ _
     rcases h5 with h5 | h5
     ·omega
     ·rcases h6 with h6 | h6
      ·omega
      ·have:=hz h5; have:=hz2 h6; omega)
  | (show 402 - (p.1 + 1) < 402 - p.1
     omega)
  | rfl
  | skip
set_option maxHeartbeats 1000000 in
theorem LQ(X Y : List Int)(hX : Dw X)(hY : Dw Y)(hn : X.length≤400)(hxy : Y.length≤X.length)(hle : au Y≤au X) : CallA Tryz.prog 346 [.one (.d (cy X)),.one (.d (cy Y))] [] (.one (.d (bz (au X - au Y).toNat))) []:=by
 refine enter ae Tryz.func346 rfl (by decide +kernel) rfl fun hok w0 σ0 φ0 M=>?_
 clear hok
 repeat' (first|(refine h1H ?_; (refine h0H ?_; refine cS 40 [10] J J J J J J J J J (tm _ p.2.2.1 _ (Hh hr hl) hL (KD (by simpa using h) hxy hle hl hi hX hL hc hv)) J J J ?_))|(refine h1H ?_; (refine uV ?_; refine s_e aq J J J (fZ J J J J (by omega) (by omega)) ?_))|(refine h1H ?_; (refine pE ?_; refine s_e aq J J J (ec J J J J (by omega) (by omega) (gl (by omega) (by omega))) ?_))|(refine h1H ?_; (refine h0H ?_; first|refine aa J J J J J J J J (qR _ _ hX) J ?_|refine aa J J J J J J J J (qR _ _ hY) J ?_))|refine wG ?_|(refine h4H ?_; first|refine ag J (fun h=>?_) (fun h=>?_)|refine fy 4 J (ee (s:=5) (id:=10) (k:=1) (b:=4) J J J J) [(0,_),(1,_)] (q2Q J J) (fun (bN : Bool×Bool) (p : Nat×Int×List Int×List (List D))=>[(5,.one (.own 10 p.1)),(6,.one (.d (.int .u64 p.2.1))),(7,.one (.d (.int .i64 (p.1 : Int))))]) (fun (bN : Bool×Bool) (p : Nat×Int×List Int×List (List D))=>[(10,.row 1 4 p.2.2.2)]) (fun (p : Nat×Int×List Int×List (List D))=>p.2.2.2 = p.2.2.1.map ak∧p.2.2.1.length = p.1∧Dw p.2.2.1∧(0≤p.2.1∧p.2.1≤1)∧(0≤at_ X p.1∧at_ X p.1 < 1000000000)∧(0≤at_ Y p.1∧at_ Y p.1 < 1000000000)∧au p.2.2.1 = au (X.take p.1) - au (Y.take p.1) + pu p.1 * p.2.1∧p.1≤X.length) (fun (p : Nat×Int×List Int×List (List D))=>X.length - p.1) (0,0,[],[]) (q3Q J J J) wK (fun b y=>by obtain ⟨b1,b2⟩:=b; cases b1 <;> cases b2 <;> first|exact Imp.refl _|exact fz qN (by kernel_rfl)) ?_ (fun p ⟨hr,hl,hL,hc,hx,hy,hv,hi⟩=>?_))|(show Exists _; refine Exists.intro ((p.1 + 1,1 - (at_ X p.1 + 1000000000 - at_ Y p.1 - p.2.1) / 1000000000,p.2.2.1 ++ [(at_ X p.1 + 1000000000 - at_ Y p.1 - p.2.1) % 1000000000],p.2.2.2.take p.1 ++ [[.int .u32 ((at_ X p.1 + 1000000000 - at_ Y p.1 - p.2.1) % 1000000000)]])) (Exists.intro (false,false) ⟨?_,?_,wK,(q3Q J J J),(q2Q J J)⟩)))
 ·exact ⟨rfl,rfl,fun d hd=>by simp at hd,⟨Int.le_refl _,by show (0 : Int)≤1; omega⟩,hX.at' _,hY.at' _,by simp [au],Nat.zero_le _⟩
 ·have hlt : p.1 < X.length:=by simpa using h
  obtain ⟨q1,q2,q3,q4,q5,q6,q7⟩:=IB (s:=at_ X p.1 + 1000000000 - at_ Y p.1 - p.2.1) rfl hr hl hL hc hX hY hv
  exact ⟨q1,q2,q3,q4,q5,q6,q7,hlt⟩
 ·have hlt : p.1 < X.length:=by simpa using h
  show X.length - (p.1 + 1) < X.length - p.1
  omega
 ·rfl
theorem JO(m n : Nat)(hm : (dw m).length≤400)(hn : (dw n).length≤400) : CallA Tryz.prog 288 [.one (.d (bz m)),.one (.d (bz n))] [] (.one (.d (bz (m + n)))) []:=by
 obtain ⟨a1,a2,a3⟩:=fm m
 obtain ⟨b1,b2,b3⟩:=fm n
 have:=LP (dw m) (dw n) a1 b1 hm hn
 rwa [a2,b2,show ((m : Int) + (n : Int)).toNat = m + n by omega] at this
theorem FZ(m n : Nat)(hm : (dw m).length≤400)(h : n≤m) : CallA Tryz.prog 346 [.one (.d (bz m)),.one (.d (bz n))] [] (.one (.d (bz (m - n)))) []:=by
 obtain ⟨a1,a2,a3⟩:=fm m
 obtain ⟨b1,b2,b3⟩:=fm n
 have hl : (dw n).length≤(dw m).length:=by
  refine Nat.le_of_not_lt fun hc=>?_
  have:=oz hc; omega
 have:=LQ (dw m) (dw n) a1 b1 hm hl (by omega)
 rwa [a2,b2,show ((m : Int) - (n : Int)).toNat = m - n by omega] at this
def tmT(o x y c : Int) : Int:=IntKind.u64.wrap (IntKind.u64.wrap (IntKind.u64.wrap o + IntKind.u64.wrap (IntKind.u64.wrap x * y)) + c)
theorem GQ(v : Int) : 0≤IntKind.u64.wrap v∧IntKind.u64.wrap v < 18446744073709551616:=by
 show 0≤v % 18446744073709551616∧v % 18446744073709551616 < 18446744073709551616
 omega
theorem QT(v : Int) : IntKind.u64.wrap (IntKind.u64.wrap v / 1000000000) = IntKind.u64.wrap v / 1000000000:=by
 have:=GQ v
 exact cB (by omega) (by omega)
theorem IS{x y : Int}(hx : 0≤x∧x < 1000000000)(hy : 0≤y∧y < 1000000000) : 0≤x * y∧x * y≤999999998000000001:=by
 have h1 : x≤999999999:=by omega
 have h2 : y≤999999999:=by omega
 exact ⟨Int.mul_nonneg hx.1 hy.1,Int.le_trans (Int.mul_le_mul h1 h2 hy.1 (by omega)) (by decide)⟩
theorem KO{o x y c : Int}(ho : 0≤o∧o < 1000000000)(hx : 0≤x∧x < 1000000000)(hy : 0≤y∧y < 1000000000)(hc : 0≤c∧c < 1000000000) : tmT o x y c = o + x * y + c∧0≤o + x * y + c∧o + x * y + c < 1000000000000000000:=by
 have h:=IS hx hy
 unfold tmT
 rw [cB hx.1 (by omega),cB ho.1 (by omega),cB h.1 (by omega),cB (v:=o + x * y) (by omega) (by omega),cB (by omega) (by omega)]
 omega
theorem Bk{X Y L : List Int}{R : List (List D)}{i k : Nat}{c V T : Int}(hT : T = tmT (at_ L (i + k)) (at_ X i) (at_ Y k) c)(hX : Dw X)(hY : Dw Y)(hi : i < X.length)(hr : R = L.map ak)(hl : R.length = X.length + Y.length)(hL : Dw L)(hc : 0≤c∧c < 1000000000)
  (hk : k < Y.length∨k = Y.length∧0 < c) (hz : ∀ t,i + Y.length≤t→i + k≤t→at_ L t = 0) (hv : au L + pu (i + k) * c = V + pu i * (at_ X i * au (Y.take k))) :
  R.set (i + k) [.int .u32 (T % 1000000000)] = (L.set (i + k) (T % 1000000000)).map ak∧(R.set (i + k) [.int .u32 (T % 1000000000)]).length = X.length + Y.length∧Dw (L.set (i + k) (T % 1000000000))∧(0≤T / 1000000000∧T / 1000000000 < 1000000000) ∧
  k + 1≤Y.length + 1∧(k + 1≤Y.length∨T / 1000000000 = 0)∧(∀ t,i + Y.length≤t→i + (k + 1)≤t→at_ (L.set (i + k) (T % 1000000000)) t = 0) ∧
  au (L.set (i + k) (T % 1000000000)) + pu (i + (k + 1)) * (T / 1000000000) = V + pu i * (at_ X i * au (Y.take (k + 1))):=by
 have hLl : L.length = X.length + Y.length:=jK hr hl
 have hik : i + k < L.length:=by omega
 obtain ⟨e,h0,h1⟩:=KO (hL.at hik) (hX.at hi) (hY.at' k) hc
 rw [← hT] at e
 refine ⟨ej hr,by simpa using hl,hL.set (by omega),by omega,by omega,?_,fun t h1 h2=>by rw [dV (by omega)]; exact hz t h1 (by omega),?_⟩
 ·rcases hk with hk | ⟨hk,hk2⟩
  ·exact .inl hk
  ·refine .inr ?_
   rw [hz (i + k) (by omega) (by omega),iQ (l:=Y) (by omega),Int.mul_zero] at e
   omega
 rw [GR hik,iA,show i + (k + 1) = (i + k) + 1 by omega,ku]
 have e3 : T % 1000000000 = T - 1000000000 * (T / 1000000000):=by omega
 rw [e3]
 generalize T / 1000000000 = q
 rw [e]
 generalize hxy : at_ X i * at_ Y k = xy
 have e5 : pu i * (at_ X i * (au (Y.take k) + pu k * at_ Y k)) = pu i * (at_ X i * au (Y.take k)) + pu (i + k) * xy:=by
  rw [← hxy,Int.mul_add,Int.mul_add,ye,Int.mul_assoc (pu i) (pu k),Int.mul_left_comm (at_ X i) (pu k)]
 rw [e5]
 generalize pu (i + k) = P at hv ⊢
 have e7 : P * (at_ L (i + k) + xy + c - 1000000000 * q - at_ L (i + k)) = P * xy + P * c - 1000000000 * P * q:=by
  rw [show at_ L (i + k) + xy + c - 1000000000 * q - at_ L (i + k) = xy + c - 1000000000 * q by omega]
  simp only [Int.mul_sub,Int.mul_add]
  rw [← Int.mul_assoc,Int.mul_comm P 1000000000]
 rw [e7]
 omega
theorem KP{X Y L : List Int}{R : List (List D)}{i k : Nat}{c V : Int}(hi : i < X.length)(h1 : Y.length≤k)(h2 : k≤Y.length + 1)(h3 : ¬ 0 < c)(hc : 0≤c∧c < 1000000000)(hz : ∀ t,i + Y.length≤t→i + k≤t→at_ L t = 0)(hV : V = au (X.take i) * au Y)(hv : au L + pu (i + k) * c = V + pu i * (at_ X i * au (Y.take k))) :
  i + 1≤X.length∧(∀ t,i + 1 + Y.length≤t→at_ L t = 0)∧au L = au (X.take (i + 1)) * au Y:=by
 have e : c = 0:=by omega
 rw [e,List.take_of_length_le h1,hV,Int.mul_zero,Int.add_zero] at hv
 exact ⟨hi,fun t ht=>hz t (by omega) (by omega),by rw [hv,iA,Int.add_mul,Int.mul_assoc]⟩
theorem yd{n : Nat}{L : List Int}{R : List (List D)}(hr : R = L.map ak)(hl : R.length = n) : R.take n = L.map ak:=by rw [List.take_of_length_le (by omega),hr]
theorem GS{X Y L : List Int}{k : Nat}(hv : au L = au (X.take k) * au Y)(h : X.length≤k) : (au L).toNat = (au X * au Y).toNat:=by
 rw [hv,List.take_of_length_le h]
set_option maxHeartbeats 1000000 in
theorem Md(X Y : List Int)(hX : Dw X)(hY : Dw Y)(hn : X.length≤400)(hm : Y.length≤400) : CallA Tryz.prog 345 [.one (.d (cy X)),.one (.d (cy Y))] [] (.one (.d (bz (au X * au Y).toNat))) []:=by
 refine enter ae Tryz.func345 rfl (by decide +kernel) rfl fun hok w0 σ0 φ0 M=>?_
 clear hok
 repeat' (first|(refine h1H ?_; (refine h7H ?_; refine fi aq 10 J J J (ca (n:=X.length + Y.length) J J J J J (by simp) (by simp) (by omega) (Nat.le_of_ble_eq_true J)) J J ?_))|(refine h1H ?_; (refine uV ?_; refine s_e aq J J J (fZ J J J J (GQ _).1 (by omega)) ?_))|(refine h1H ?_; (refine pE ?_; refine s_e aq J J J (ec J J J J (GQ _).1 (by omega) (QT _)) ?_))|(refine h1H ?_; (refine h0H ?_; refine cS 40 [10] J J J J J J J J J (tm _ p.2.1 _ (yd hr hl2) hL (GS hv (by simpa using h))) J J J ?_))|(refine h3H ?_; (refine h2H ?_; refine d_l J J (aA J J J J J J (qR _ _ hY) J) ?_))|refine wG ?_|(refine h1H ?_; (refine h5H ?_; refine aG J J J J (fun h=>?_) (fun h=>?_)))|(refine h4H ?_; first|refine ag J (fun h=>?_) (fun h=>?_)|refine b0 7 J [(0,_),(1,_),(5,_),(6,_)] (q4Q J J J J) (fun (q : Nat×Int×List Int×List (List D))=>[(8,.one (.d (.int .i64 (q.1 : Int)))),(7,.one (.d (.int .u64 q.2.1)))]) (fun (q : Nat×Int×List Int×List (List D))=>[(10,.row 1 4 q.2.2.2)]) (fun (q : Nat×Int×List Int×List (List D))=>q.2.2.2 = q.2.2.1.map ak∧q.2.2.2.length = X.length + Y.length∧Dw q.2.2.1∧(0≤q.2.1∧q.2.1 < 1000000000)∧q.1≤Y.length + 1∧(q.1≤Y.length∨q.2.1 = 0)∧(∀ t,p.1 + Y.length≤t→p.1 + q.1≤t→at_ q.2.2.1 t = 0)∧au q.2.2.1 + pu (p.1 + q.1) * q.2.1 = au p.2.1 + pu p.1 * (at_ X p.1 * au (Y.take q.1))) (fun (q : Nat×Int×List Int×List (List D))=>Y.length + 1 - q.1) (0,0,p.2.1,p.2.2) (q2Q J J) wK ?_ (fun q ⟨hqr,hql,hqL,hqc,hqk,hqk2,hqz,hqv⟩=>?_)|refine b0 3 J [(0,_),(1,_),(5,_)] (q3Q J J J) (fun (p : Nat×List Int×List (List D))=>[(6,.one (.d (.int .i64 (p.1 : Int))))]) (fun (p : Nat×List Int×List (List D))=>[(10,.row 1 4 p.2.2)]) (fun (p : Nat×List Int×List (List D))=>p.1≤X.length∧p.2.2 = p.2.1.map ak∧p.2.2.length = X.length + Y.length∧Dw p.2.1∧(∀ t,p.1 + Y.length≤t→at_ p.2.1 t = 0)∧au p.2.1 = au (X.take p.1) * au Y) (fun (p : Nat×List Int×List (List D))=>X.length - p.1) (0,List.replicate (X.length + Y.length) 0,List.replicate (X.length + Y.length) [.int .u32 0]) (q1Q J) wK ?_ (fun p ⟨hk,hr,hl2,hL,hz,hv⟩=>?_))|(show Exists _; first|refine Exists.intro ((p.1 + 1,q.2.2.1,q.2.2.2)) ⟨?_,?_,wK,(q1Q J),(q3Q J J J)⟩|refine Exists.intro ((q.1 + 1,tmT (at_ q.2.2.1 (p.1 + q.1)) (at_ X p.1) (at_ Y q.1) q.2.1 / 1000000000,q.2.2.1.set (p.1 + q.1) (tmT (at_ q.2.2.1 (p.1 + q.1)) (at_ X p.1) (at_ Y q.1) q.2.1 % 1000000000),q.2.2.2.set (p.1 + q.1) [.int .u32 (tmT (at_ q.2.2.1 (p.1 + q.1)) (at_ X p.1) (at_ Y q.1) q.2.1 % 1000000000)])) ⟨?_,?_,wK,(q2Q J J),(q4Q J J J J)⟩))
 ·exact ⟨Nat.zero_le _,by simp [ak],by simp,Dw.zeros _,fun t _=>by
   show at_ (List.replicate _ (0 : Int)) t = 0
   simp only [at_,List.getD_eq_getElem?_getD,List.getElem?_replicate]
   split <;> rfl,by
   show au (List.replicate _ (0 : Int)) = au (X.take 0) * au Y
   rw [Dj,List.take_zero]; simp [au]⟩
 all_goals first
  | exact ⟨hr,hl2,hL,⟨Int.le_refl _,by show (0 : Int) < 1000000000; omega⟩,Nat.zero_le _,.inl (Nat.zero_le _),fun t h1 _=>hz t h1,by
    show au p.2.1 + pu (p.1 + 0) * 0 = au p.2.1 + pu p.1 * (at_ X p.1 * au (Y.take 0))
    rw [List.take_zero]; simp [au]⟩
  | exact Bk rfl hX hY (by simpa using ‹decide ((p.1 : Int) < ((X.map ak).length : Int)) = true›) hqr hql hqL hqc (.inl (by simpa using h)) hqz hqv
  | exact Bk rfl hX hY (by simpa using ‹decide ((p.1 : Int) < ((X.map ak).length : Int)) = true›) hqr hql hqL hqc (.inr (by
    have h5 : Y.length≤q.1:=by simpa using ‹decide ((q.1 : Int) < ((Y.map ak).length : Int)) = false›
    have h6 : 0 < q.2.1:=of_decide_eq_true h
    rcases hqk2 with h7 | h7
    ·exact ⟨by omega,h6⟩
    ·omega)) hqz hqv
  | (obtain ⟨e1,e2,e3⟩:=KP (R:=[]) (by simpa using ‹decide ((p.1 : Int) < ((X.map ak).length : Int)) = true›) (by simpa using ‹decide ((q.1 : Int) < ((Y.map ak).length : Int)) = false›) hqk (of_decide_eq_false h) hqc hqz hv hqv
     exact ⟨e1,hqr,hql,hqL,e2,e3⟩)
  | (have hlt : q.1≤Y.length:=by
      rcases hqk2 with h7 | h7
      ·exact h7
      ·have h8 : q.1 < Y.length:=by simpa [h7] using h
       omega
     show Y.length + 1 - (q.1 + 1) < Y.length + 1 - q.1
     omega)
  | (have hlt : p.1 < X.length:=by simpa using ‹decide ((p.1 : Int) < ((X.map ak).length : Int)) = true›
     show X.length - (p.1 + 1) < X.length - p.1
     omega)
  | rfl
  | skip
theorem uC(m n : Nat)(hm : (dw m).length≤400)(hn : (dw n).length≤400) : CallA Tryz.prog 345 [.one (.d (bz m)),.one (.d (bz n))] [] (.one (.d (bz (m * n)))) []:=by
 obtain ⟨a1,a2,a3⟩:=fm m
 obtain ⟨b1,b2,b3⟩:=fm n
 have:=Md (dw m) (dw n) a1 b1 hm hn
 rwa [a2,b2,show ((m : Int) * (n : Int)).toNat = m * n by rw [← Int.natCast_mul]; rfl] at this
def dwl(n : Nat) : Nat:=(dw n).length
theorem jm{m n : Nat}(h : m≤n) : dwl m≤dwl n:=by
 refine Nat.le_of_not_lt fun hc=>?_
 have:=oz hc; omega
theorem Lj{y : Nat} : dwl (y * 1000000000)≤dwl y + 1:=by
 unfold dwl
 by_cases h : y = 0
 ·subst h; simp [ep]
 ·rw [gd (n:=y * 1000000000) (by omega),show y * 1000000000 / 1000000000 = y by omega]; simp
theorem Jv{r y : Nat}(h : r≤y * 1000000000)(hy : dwl y≤300) : dwl r≤400:=by
 have:=jm h
 have:=Lj (y:=y)
 omega
theorem BT{n : Nat}(h : n < 1000000000000000000) : (dw n).length≤400:=by
 rw [← jn h]; have:=se (z:=(n : Int)); omega
def rsW(X : List Int)(i : Int)(r : Nat) : Nat:=(at_ X i.toNat).toNat + 1000000000 * r
theorem uB{X : List Int}{i : Int}{r : Nat}{ys : List (List D)}(hX : Dw X)(hy : ys = [.int .u32 (at_ X i.toNat)]::(dw r).map ak) : ys = (at_ X i.toNat::dw r).map ak∧Dw (at_ X i.toNat::dw r)∧(au (at_ X i.toNat::dw r)).toNat = rsW X i r:=by
 obtain ⟨h1,h2,_⟩:=fm r
 have hx:=hX.at' i.toNat
 refine ⟨hy,fun d hd=>?_,?_⟩
 ·rcases List.mem_cons.1 hd with rfl | hd
  ·exact hx
  ·exact h1 d hd
 ·simp only [au,h2,rsW]; omega
theorem D0{X : List Int}{i : Int}{r y : Nat}(hX : Dw X)(hr : r < y) : rsW X i r < y * 1000000000:=by
 have hx:=hX.at' i.toNat
 unfold rsW; omega
theorem tk1(x : List D)(l : List (List D)) : List.take (1 + l.length) (List.take 1 [x] ++ l) = x::l:=(List.take_of_length_le (Nat.le_of_eq (by simp [Nat.add_comm]))).trans rfl
structure Hlv (y r : Nat) (q : Int×Int) : Prop where
 b : 0≤q.1∧q.1≤q.2∧q.2≤999999999
 lo : y * q.1.toNat≤r
 hi : r < y * (q.2.toNat + 1)
theorem D1{y r : Nat}{q : Int×Int}(h : Hlv y r q)(hlt : q.1 < q.2)(hc : y * ((q.1 + q.2 + 1) / 2).toNat≤r) : Hlv y r ((q.1 + q.2 + 1) / 2,q.2):=⟨by have:=h.b; show 0≤(q.1 + q.2 + 1) / 2∧_; omega,hc,h.hi⟩
theorem D2{y r : Nat}{q : Int×Int}(h : Hlv y r q)(hlt : q.1 < q.2)(hc : r < y * ((q.1 + q.2 + 1) / 2).toNat) : Hlv y r (q.1,(q.1 + q.2 + 1) / 2 - 1):=by
 have:=h.b
 refine ⟨by show _∧q.1≤(q.1 + q.2 + 1) / 2 - 1∧(q.1 + q.2 + 1) / 2 - 1≤_; omega,h.lo,?_⟩
 show r < y * (((q.1 + q.2 + 1) / 2 - 1).toNat + 1)
 rw [show ((q.1 + q.2 + 1) / 2 - 1).toNat + 1 = ((q.1 + q.2 + 1) / 2).toNat by omega]; exact hc
theorem HM{y r : Nat}{q : Int×Int}(h : Hlv y r q)(hge : ¬ q.1 < q.2)(hy : 0 < y) : q.1.toNat = r / y∧r - y * q.1.toNat = r % y:=by
 have hb:=h.b
 have e : q.2.toNat = q.1.toNat:=by omega
 have h1:=h.hi
 rw [e] at h1
 have h2:=h.lo
 have e2 : r / y = q.1.toNat:=by
  refine Nat.le_antisymm ?_ ((Nat.le_div_iff_mul_le hy).2 (by rw [Nat.mul_comm]; exact h2))
  exact Nat.le_of_lt_succ ((Nat.div_lt_iff_lt_mul hy).2 (by rw [Nat.mul_comm]; exact h1))
 refine ⟨e2.symm,?_⟩
 rw [← e2]
 have:=Nat.mod_add_div r y
 omega
theorem HN{X Q : List Int}{R : List (List D)}{i : Int}{r y N : Nat}{q : Int×Int}(hX : Dw X)(hy : 0 < y)(h : Hlv y (rsW X i r) q)(hge : ¬ q.1 < q.2)(h0 : 0≤i)(h1 : i < (X.length : Int))(hN : N = X.length)(hr : R = Q.map ak)(hl : R.length = N)(hQ : Dw Q)(hry : r < y)
  (hv : au (X.drop (i + 1).toNat) = au (Q.drop (i + 1).toNat) * (y : Int) + (r : Int)) :
  -1≤i - 1∧i - 1 < (X.length : Int)∧R.set i.toNat [.int .u32 q.1] = (Q.set i.toNat q.1).map ak∧(R.set i.toNat [.int .u32 q.1]).length = N∧Dw (Q.set i.toNat q.1)∧rsW X i r - y * q.1.toNat < y∧(dwl y≤300→(dw (rsW X i r - y * q.1.toNat)).length≤400) ∧
  au (X.drop (i - 1 + 1).toNat) = au ((Q.set i.toNat q.1).drop (i - 1 + 1).toNat) * (y : Int) + ((rsW X i r - y * q.1.toNat : Nat) : Int):=by
 have hQl : Q.length = N:=jK hr hl
 obtain ⟨e1,e2⟩:=HM h hge hy
 obtain ⟨k,rfl⟩:=Int.eq_ofNat_of_zero_le h0
 have hb:=h.b
 have hk : k < X.length:=by omega
 have hlo:=h.lo
 refine ⟨by omega,by omega,ej hr,by simpa using hl,hQ.set (by omega),by rw [e2]; exact Nat.mod_lt _ hy,fun h3=>by rw [e2]; exact Nat.le_trans (jm (Nat.le_of_lt (Nat.mod_lt _ hy))) (by omega),?_⟩
 rw [show ((k : Int) - 1 + 1).toNat = k by omega]
 rw [show ((k : Int) + 1).toNat = k + 1 by omega] at hv
 rw [Int.toNat_natCast]
 rw [am hk,am (l:=Q.set k q.1) (by simpa [hQl,hN] using hk),mI (by omega),List.drop_set_of_lt (by omega)]
 simp only [au,hv]
 have hx:=hX.at' k
 have e3 : ((rsW X (k : Int) r - y * q.1.toNat : Nat) : Int) = at_ X k + 1000000000 * (r : Int) - (y : Int) * q.1:=by
  rw [Int.ofNat_sub hlo]
  have e4 : ((y * q.1.toNat : Nat) : Int) = (y : Int) * q.1:=by rw [Int.natCast_mul,Int.toNat_of_nonneg hb.1]
  rw [e4]
  unfold rsW
  rw [Int.toNat_natCast]
  omega
 rw [e3,Int.add_mul,Int.mul_comm q.1 (y : Int),Int.mul_assoc]
 generalize au (Q.drop (k + 1)) * (y : Int) = Z
 omega
theorem D3{X Q : List Int}{i : Int}{r y : Nat}(h0 : ¬ 0≤i)(h1 : -1≤i)(hry : r < y)(hQ : Dw Q)(hX : Dw X)(hv : au (X.drop (i + 1).toNat) = au (Q.drop (i + 1).toNat) * (y : Int) + (r : Int)) : (au Q).toNat = (au X).toNat / y∧r = (au X).toNat % y:=by
 rw [show (i + 1).toNat = 0 by omega,List.drop_zero,List.drop_zero] at hv
 obtain ⟨a,ha⟩:=Int.eq_ofNat_of_zero_le (kh hQ).1
 rw [ha] at hv ⊢
 have e : (au X).toNat = a * y + r:=by
  have : au X = ((a * y + r : Nat) : Int):=by rw [hv,Int.natCast_add,Int.natCast_mul]
  rw [this]; rfl
 rw [e,Int.toNat_natCast]
 have hy : 0 < y:=by omega
 constructor
 ·rw [Nat.mul_comm,Nat.mul_add_div hy,Nat.div_eq_of_lt hry,Nat.add_zero]
 ·rw [Nat.mul_comm,Nat.mul_add_mod,Nat.mod_eq_of_lt hry]
theorem Lk(x y : Nat)(hx : x < 1000000000000000000)(hy0 : 0 < y)(hy : y < 1000000000000000000) : CallA Tryz.prog 287 [.one (.d (bz x)),.one (.d (bz y))] [] (.tup [(false,[.d (bz (x / y))]),(false,[.d (bz (x % y))])]) []:=by
 have:=Jw (x : Int) (y : Int) (by omega) (by omega) (by omega) (by omega)
 have h1 : x / y < 1000000000000000000:=Nat.lt_of_le_of_lt (Nat.div_le_self _ _) hx
 have h2 : x % y < 1000000000000000000:=Nat.lt_of_le_of_lt (Nat.mod_le _ _) hx
 rw [jn hx,jn hy,← Int.natCast_ediv,← Int.natCast_emod,jn h1,jn h2] at this
 exact this
theorem D4{m n : Nat}(h : decide (gU m n≤0) = true) : m≤n:=by
 refine Nat.le_of_not_lt fun hc=>?_
 have:=of_decide_eq_true h
 rw [iv hc] at this; omega
theorem D5{m n : Nat}(h : decide (gU m n≤0) = false) : n < m:=by
 refine Nat.lt_of_not_le fun hc=>?_
 have:=of_decide_eq_false h
 rcases Nat.lt_or_ge m n with h2 | h2
 ·rw [iu h2] at this; omega
 ·rw [kc (by omega)] at this; omega
theorem Ll : bz 0 = .sl 1 4 []:=by unfold bz cy; rw [ep]; rfl
theorem FY{c : Ctx}{fr : List (Nat×AV)}{sto : Sto}(s : Nat)(hl : Abs.look fr s = some (.one (.d .nil))) : Imp c ⟨fr,sto⟩ ⟨(s,.one (.d (bz 0)))::fr,sto⟩:=by rw [Ll]; exact j6 hl
set_option maxHeartbeats 2000000 in
theorem Lm(X : List Int)(y : Nat)(hX : Dw X)(hn : X.length≤300)(hy0 : 0 < y)(hy3 : dwl y≤300)(hy400 : (dw y).length≤400)(hbig : (decide (((X.map ak).length : Int)≤2) && decide ((((dw y).map ak).length : Int)≤2)) = false) : CallA Tryz.prog 287 [.one (.d (cy X)),.one (.d (bz y))] [] (.tup [(false,[.d (bz ((au X).toNat / y))]),(false,[.d (bz ((au X).toNat % y))])]) []:=by
 refine enter ae Tryz.func287 rfl (by decide +kernel) rfl fun hok w0 σ0 φ0 M=>?_
 clear hok
 repeat' (first|(refine h1H ?_; (refine h7H ?_; refine fi aq 10 J J J (ca (n:=X.length) J J J J J (by simp) (by simp) (by omega) (Nat.le_of_ble_eq_true J)) J J ?_))|(refine h1H ?_; (refine h0H ?_; first|refine cS 40 [0] J J J J J J J J J (tm _ (at_ X p.1.toNat::dw p.2.1) (rsW X p.1 p.2.1) (uB hX (tk1 _ _)).1 (uB (ys:=[.int .u32 (at_ X p.1.toNat)]::(dw p.2.1).map ak) hX J).2.1 (uB (ys:=[.int .u32 (at_ X p.1.toNat)]::(dw p.2.1).map ak) hX J).2.2) J J J ?_|refine cS 40 [10] J J J J J J J J J (tm _ p.2.2.1 _ (yd hr hl2) hL (D3 (of_decide_eq_false h) hk1 hry hL hX hv).1) J J J ?_))|(refine h1H ?_; (refine pE ?_; refine s_e aq J J J (ec J J J J (by omega) (by omega) (gl (by omega) (by omega))) ?_))|(refine h1H ?_; (refine h0H ?_; first|refine aa J J J J J J J J (wW _ _) J ?_|refine aw 16 J J J J J J J J (G7 _ q.1.toNat (by omega) (by omega)) J J J ?_|refine aw 16 J J J J J J J J (G7 _ (((q.1 + q.2 + 1) / 2).toNat) (by omega) (by omega)) J J J ?_|refine aw 16 J J J J J J J J (uC y (((q.1 + q.2 + 1) / 2).toNat) hy400 (BT (by omega))) J J J ?_|refine aw 16 J J J J J J J J (uC y q.1.toNat hy400 (BT (by omega))) J J J ?_|refine aw 16 J J J J J J J J (FZ _ _ (Jv (Nat.le_of_lt (D0 hX hry)) hy3) hH.lo) J J J ?_))|(refine h4H ?_; refine bu (FY 7 J) ?_)|refine wG ?_|(refine h1H ?_; (refine h5H ?_; refine aG J J J J (fun h=>?_) (fun h=>?_)))|(refine h4H ?_; first|refine ag J (fun h=>?_) (fun h=>?_)|refine b0 10 J [(0,_),(1,_),(6,_),(7,_),(8,_)] (q5Q J J J J J) (fun (q : Int×Int)=>[(9,.one (.d (.int .u64 q.1))),(10,.one (.d (.int .u64 q.2)))]) (fun (q : Int×Int)=>[(10,.row 1 4 p.2.2.2)]) (fun (q : Int×Int)=>(0≤q.1∧q.1≤q.2∧q.2≤999999999)∧Hlv y (rsW X p.1 p.2.1) q) (fun (q : Int×Int)=>(q.2 - q.1).toNat) (0,999999999) (q2Q J J) wK ?_ (fun q ⟨hqb,hH⟩=>?_)|refine b0 6 J [(0,_),(1,_),(6,_)] (q3Q J J J) (fun (p : Int×Nat×List Int×List (List D))=>[(7,.one (.d (bz p.2.1))),(8,.one (.d (.int .i64 p.1)))]) (fun (p : Int×Nat×List Int×List (List D))=>[(10,.row 1 4 p.2.2.2)]) (fun (p : Int×Nat×List Int×List (List D))=>-1≤p.1∧p.1 < (X.length : Int)∧p.2.2.2 = p.2.2.1.map ak∧p.2.2.2.length = X.length∧Dw p.2.2.1∧p.2.1 < y∧(dw p.2.1).length≤400∧au (X.drop (p.1 + 1).toNat) = au (p.2.2.1.drop (p.1 + 1).toNat) * (y : Int) + (p.2.1 : Int)) (fun (p : Int×Nat×List Int×List (List D))=>(p.1 + 1).toNat) ((((X.map ak).length : Int) - 1),0,List.replicate X.length 0,List.replicate X.length [.int .u32 0]) (q2Q J J) wK ?_ (fun p ⟨hk1,hk2,hr,hl2,hL,hry,hrl,hv⟩=>?_))|(show Exists _; first|refine Exists.intro (((p.1 - 1),rsW X p.1 p.2.1 - y * q.1.toNat,p.2.2.1.set p.1.toNat q.1,p.2.2.2.set p.1.toNat [.int .u32 q.1])) ⟨?_,?_,wK,(q2Q J J),(q3Q J J J)⟩|refine Exists.intro (((q.1 + q.2 + 1) / 2,q.2)) ⟨?_,?_,wK,(q2Q J J),(q5Q J J J J J)⟩|refine Exists.intro ((q.1,(q.1 + q.2 + 1) / 2 - 1)) ⟨?_,?_,wK,(q2Q J J),(q5Q J J J J J)⟩))
 ·exfalso; rw [h,‹decide (((X.map ak).length : Int)≤2) = true›] at hbig; cases hbig
 all_goals first
  | (refine ⟨?_,?_,by simp [ak],by simp,Dw.zeros _,hy0,by rw [ep]; simp,?_⟩
     ·simp only [List.length_map]; omega
     ·simp only [List.length_map]; omega
     ·show au (X.drop ((((X.map ak).length : Int) - 1 + 1).toNat)) = au ((List.replicate X.length 0).drop ((((X.map ak).length : Int) - 1 + 1).toNat)) * (y : Int) + ((0 : Nat) : Int)
      rw [List.length_map,show ((X.length : Int) - 1 + 1).toNat = X.length by omega,List.drop_length,List.drop_eq_nil_of_le (by simp)]
      simp [au])
  | exact ⟨⟨Int.le_refl _,by show (0 : Int)≤999999999; omega,Int.le_refl _⟩,⟨⟨Int.le_refl _,by show (0 : Int)≤999999999; omega,Int.le_refl _⟩,by show y * 0≤_; omega,D0 hX hry⟩⟩
  | exact ⟨(D1 hH (of_decide_eq_true ‹decide (q.1 < q.2) = true›) (D4 h)).b,D1 hH (of_decide_eq_true ‹decide (q.1 < q.2) = true›) (D4 h)⟩
  | exact ⟨(D2 hH (of_decide_eq_true ‹decide (q.1 < q.2) = true›) (D5 h)).b,D2 hH (of_decide_eq_true ‹decide (q.1 < q.2) = true›) (D5 h)⟩
  | (have hlt:=of_decide_eq_true ‹decide (q.1 < q.2) = true›
     show (q.2 - (q.1 + q.2 + 1) / 2).toNat < (q.2 - q.1).toNat
     omega)
  | (have hlt:=of_decide_eq_true ‹decide (q.1 < q.2) = true›
     show ((q.1 + q.2 + 1) / 2 - 1 - q.1).toNat < (q.2 - q.1).toNat
     omega)
  | (obtain ⟨o1,o2,o3,o4,o5,o6,o7,o8⟩:=HN hX hy0 hH (of_decide_eq_false h) (of_decide_eq_true ‹decide (0≤p.1) = true›) hk2 rfl hr hl2 hL hry hv
     exact ⟨o1,o2,o3,o4,o5,o6,o7 hy3,o8⟩)
  | (have h0:=of_decide_eq_true ‹decide (0≤p.1) = true›
     show (p.1 - 1 + 1).toNat < (p.1 + 1).toNat
     omega)
  | (have e:=(D3 (of_decide_eq_false h) hk1 hry hL hX hv).2
     rw [← e]; rfl)
  | skip
theorem wX(x y : Nat)(hx : dwl x≤300)(hy0 : 0 < y)(hy : dwl y≤300) : CallA Tryz.prog 287 [.one (.d (bz x)),.one (.d (bz y))] [] (.tup [(false,[.d (bz (x / y))]),(false,[.d (bz (x % y))])]) []:=by
 by_cases hs : x < 1000000000000000000∧y < 1000000000000000000
 ·exact Lk x y hs.1 hy0 hs.2
 ·obtain ⟨h1,h2,_⟩:=fm x
  have hb : (decide ((((dw x).map ak).length : Int)≤2) && decide ((((dw y).map ak).length : Int)≤2)) = false:=by
   have sm : ∀ {n : Nat},(dw n).length≤2→n < 1000000000000000000:=by
    intro n hn
    obtain ⟨g1,g2,_⟩:=fm n
    have hb:=(kh g1).2
    rw [g2] at hb
    have hle : pu (dw n).length≤pu 2:=by
     obtain ⟨m,hm⟩ : ∃ m,2 = (dw n).length + m:=⟨2 - (dw n).length,by omega⟩
     rw [hm,ye]
     have:=Int.mul_le_mul_of_nonneg_left (show 1≤pu m by have:=pF m; omega) (Int.le_of_lt (pF (dw n).length))
     omega
    have h2 : pu 2 = 1000000000000000000:=by decide
    omega
   rw [Bool.and_eq_false_iff]
   simp only [decide_eq_false_iff_not,List.length_map]
   refine Classical.byContradiction fun hc=>hs ⟨sm ?_,sm ?_⟩
   ·omega
   ·omega
  have:=Lm (dw x) y h1 hx hy0 hy (Nat.le_trans hy (by omega)) hb
  rw [h2] at this
  exact this
end Go.Proofs.YtpejdgkaapnekaaGreat
