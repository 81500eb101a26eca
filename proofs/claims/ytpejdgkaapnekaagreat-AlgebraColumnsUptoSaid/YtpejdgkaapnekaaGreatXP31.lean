import Derived.Test.YtpejdgkaapnekaaGreatXP21
import Derived.Test.YtpejdgkaapnekaaGreatXP22
import Derived.Test.YtpejdgkaapnekaaGreatXP13
import Derived.Test.YtpejdgkaapnekaaGreatXP15
import Derived.Test.YtpejdgkaapnekaaGreatXKZ
import Derived.Test.YtpejdgkaapnekaaGreatXP18
set_option linter.unusedVariables false
set_option linter.unusedSimpArgs false
set_option linter.unnecessarySimpa false
set_option maxHeartbeats 1000000
namespace Go.Proofs.YtpejdgkaapnekaaGreat
open Go Go.Abs
attribute [local irreducible] ae OkC ar aA av aN
set_option maxRecDepth 10000
theorem wj{s : Scalar}(h : fP s = 0) : dc s = true∧(aY s).length≤64:=by
 have h3:=rI (aY s) 0 true (by omega)
 unfold fP at h
 split at h
 ·omega
 ·by_cases hc : 64 < ((aY s).length : Int)
  ·rw [h3.1 (by omega)] at h; omega
  ·rw [h3.2 (by omega),Bool.true_and,← xO] at h
   refine ⟨?_,by omega⟩
   cases hp : dc s with
   | true=>rfl
   | false=>rw [hp] at h; simp at h
def bU(ds : List Dim)(ats : List Attr)(cs : List Cell)(s : Scalar) : Int×Int :=
 if bI ds ats cs≠0 then (0,2) else if fP s≠0 then (0,fP s) else cy dF ds ats s
theorem c20(ds : List Dim)(ats : List Attr)(cs : List Cell)(s : Scalar) : CallA Tryz.prog 20 [.agg [.d (aF ds),.d (ax ats),.d (aO cs)],de s] [] (ie (bU ds ats cs s)) []:=by
 refine enter af Tryz.func20 rfl (by decide +kernel) rfl fun hok w0 σ0 φ0 M=>?_
 clear hok
 by_cases h1 : bI ds ats cs = 0
 ·have hb1 : (bI ds ats cs != 0) = false:=by simp [h1]
  by_cases h2 : fP s = 0
  ·have hb2 : (fP s != 0) = false:=by simp [h2]
   obtain ⟨hp,hsz⟩:=wj h2
   have e : bU ds ats cs s = cy dF ds ats s:=by simp [bU,h1,h2]
   rw [e]
   repeat' (first|(refine h1H ?_; (refine h0H ?_; first|refine aa J J J J J J J J (c59 _ _ _) J ?_|refine aa J J J J J J J J (c87 _) J ?_|refine aa J J J J J J J J (c88 _ _ _ _ (by assumption) (by assumption)) J ?_))|refine wG ?_)
   all_goals rfl
  ·have hb2 : (fP s != 0) = true:=by simp [h2]
   have e : bU ds ats cs s = (0,fP s):=by simp [bU,h1,h2]
   rw [e]
   repeat' (first|(refine h1H ?_; (refine h0H ?_; first|refine aa J J J J J J J J (c59 _ _ _) J ?_|refine aa J J J J J J J J (c87 _) J ?_))|refine wG ?_)
   all_goals rfl
 ·have hb1 : (bI ds ats cs != 0) = true:=by simp [h1]
  have e : bU ds ats cs s = (0,2):=by simp [bU,h1]
  rw [e]
  repeat' (first|(refine h1H ?_; (refine h0H ?_; refine aa J J J J J J J J (c59 _ _ _) J ?_))|refine wG ?_)
  all_goals rfl
theorem c21(ds : List Dim)(ats : List Attr)(cs : List Cell)(s : Scalar) : CallA Tryz.prog 21 [.agg [.d (aF ds),.d (ax ats),.d (aO cs)],de s] [] (ie (bU ds ats cs s)) []:=by
 refine enter af Tryz.func21 rfl (by decide +kernel) rfl fun hok w0 σ0 φ0 M=>?_
 clear hok
 have hf:=Gw s
 by_cases h1 : bI ds ats cs = 0
 ·have hb1 : (bI ds ats cs != 0) = false:=by simp [h1]
  by_cases h2 : 12 < c3 12 s
  ·have hb2 : decide (12 < c3 12 s) = true:=by simp [h2]
   rw [if_pos h2] at hf
   have e : bU ds ats cs s = (0,10):=by simp [bU,h1,hf]
   rw [e]
   repeat' (first|(refine h1H ?_; (refine h0H ?_; first|refine aa J J J J J J J J (c89 _ _ _) J ?_|refine aa J J J J J J J J (c90 12 s 12 J (by omega)) J ?_))|refine wG ?_)
   all_goals rfl
  ·have hb2 : decide (12 < c3 12 s) = false:=by simp [h2]
   rw [if_neg h2] at hf
   by_cases h3 : 64 < dm s 64
   ·have hb3 : decide (64 < dm s 64) = true:=by simp [h3]
    rw [if_pos h3] at hf
    have e : bU ds ats cs s = (0,9):=by simp [bU,h1,hf]
    rw [e]
    repeat' (first|(refine h1H ?_; (refine h0H ?_; first|refine aa J J J J J J J J (c89 _ _ _) J ?_|refine aa J J J J J J J J (c90 12 s 12 J (by omega)) J ?_|refine aa J J J J J J J J (c91 s 64 (by omega) (by omega)) J ?_))|refine wG ?_)
    all_goals rfl
   ·have hb3 : decide (64 < dm s 64) = false:=by simp [h3]
    rw [if_neg h3] at hf
    cases hp : dc s with
    | true =>
      have hb4 : (!dc s) = false:=by simp [hp]
      rw [hp,if_pos rfl] at hf
      obtain ⟨_,hsz⟩:=wj hf
      have e : bU ds ats cs s = cy gV ds ats s:=by rw [← Hv s hp]; simp [bU,h1,hf]
      rw [e]
      repeat' (first|(refine h1H ?_; (refine h0H ?_; first|refine aa J J J J J J J J (c89 _ _ _) J ?_|refine aa J J J J J J J J (c90 12 s 12 J (by omega)) J ?_|refine aa J J J J J J J J (c91 s 64 (by omega) (by omega)) J ?_|refine aa J J J J J J J J (c92 _) J ?_|refine aa J J J J J J J J (c93 _ _ _ _ (by assumption) (by assumption)) J ?_))|refine wG ?_)
      all_goals rfl
    | false =>
      have hb4 : (!dc s) = true:=by simp [hp]
      rw [hp] at hf
      have e : bU ds ats cs s = (0,2):=by simp [bU,h1,hf]
      rw [e]
      repeat' (first|(refine h1H ?_; (refine h0H ?_; first|refine aa J J J J J J J J (c89 _ _ _) J ?_|refine aa J J J J J J J J (c90 12 s 12 J (by omega)) J ?_|refine aa J J J J J J J J (c91 s 64 (by omega) (by omega)) J ?_|refine aa J J J J J J J J (c92 _) J ?_))|refine wG ?_)
      all_goals rfl
 ·have hb1 : (bI ds ats cs != 0) = true:=by simp [h1]
  have e : bU ds ats cs s = (0,2):=by simp [bU,h1]
  rw [e]
  repeat' (first|(refine h1H ?_; (refine h0H ?_; refine aa J J J J J J J J (c89 _ _ _) J ?_))|refine wG ?_)
  all_goals rfl
theorem c19 : CallA Tryz.prog 19 [] [] (.one (.d (.bool true))) []:=Sa
end Go.Proofs.YtpejdgkaapnekaaGreat
namespace Go.Proofs.YtpejdgkaapnekaaGreat
open Go Go.Abs
def ay : List Int→Int
 | []=>0
 | d::r=>d + 1000000000 * ay r
def Dw(l : List Int) : Prop:=∀ d∈l,0≤d∧d < 1000000000
def dw(n : Nat) : List Int:=if h : n = 0 then [] else ((n % 1000000000 : Nat) : Int)::dw (n / 1000000000)
 termination_by n
 decreasing_by omega
def pu(k : Nat) : Int:=1000000000 ^ k
theorem ln(k : Nat) : pu (k + 1) = 1000000000 * pu k:=by unfold pu; rw [Int.pow_succ,Int.mul_comm]
theorem wS : pu 0 = 1:=rfl
theorem qQ(k : Nat) : 0 < pu k:=by
 induction k with
 | zero=>decide
 | succ k ih=>rw [ln]; omega
theorem zG(a b : Nat) : pu (a + b) = pu a * pu b:=by unfold pu; rw [Int.pow_add]
theorem tU : ∀ {a b : List Int},ay (a ++ b) = ay a + pu a.length * ay b
 | [],b=>by simp [ay,wS]
 | d::a,b=>by
   simp only [List.cons_append,ay,tU (a:=a) (b:=b),List.length_cons,ln,Int.mul_add,Int.mul_assoc]
   omega
theorem Dw.cons{d : Int}{r : List Int}(h : Dw (d::r)) : (0≤d∧d < 1000000000)∧Dw r:=⟨h d List.mem_cons_self,fun x hx=>h x (List.mem_cons_of_mem _ hx)⟩
theorem Dw.at{l : List Int}(h : Dw l){i : Nat}(hi : i < l.length) : 0≤at_ l i∧at_ l i < 1000000000:=h _ (bT hi)
theorem Dw.take{l : List Int}(h : Dw l)(n : Nat) : Dw (l.take n):=fun d hd=>h d (List.mem_of_mem_take hd)
theorem Dw.drop{l : List Int}(h : Dw l)(n : Nat) : Dw (l.drop n):=fun d hd=>h d (List.mem_of_mem_drop hd)
theorem kV : ∀ {l : List Int},Dw l→0≤ay l∧ay l < pu l.length
 | [],_=>by simp [ay,wS]
 | d::r,h=>by
   obtain ⟨h1,h2⟩:=h.cons
   have:=kV h2
   simp only [ay,List.length_cons,ln]
   omega
theorem eU : dw 0 = []:=by rw [dw]; simp
theorem gI{n : Nat}(h : n≠0) : dw n = ((n % 1000000000 : Nat) : Int)::dw (n / 1000000000):=by rw [dw]; simp [h]
theorem fO : ∀ (n : Nat),Dw (dw n)∧ay (dw n) = n∧(dw n = []∨at_ (dw n) ((dw n).length - 1)≠0):=by
 intro n
 induction n using Nat.strongRecOn with
 | _ n ih =>
   by_cases h : n = 0
   ·subst h; rw [eU]; exact ⟨fun d hd=>by simp at hd,rfl,.inl rfl⟩
   ·obtain ⟨i1,i2,i3⟩:=ih (n / 1000000000) (by omega)
    rw [gI h]
    refine ⟨fun d hd=>?_,?_,.inr ?_⟩
    ·rcases List.mem_cons.1 hd with rfl | hd
     ·omega
     ·exact i1 d hd
    ·simp only [ay,i2]; omega
    ·rcases i3 with i3 | i3
     ·rw [i3]
      have h0 : n / 1000000000 = 0:=by rw [i3] at i2; simp only [ay] at i2; omega
      show ((n % 1000000000 : Nat) : Int)≠0
      omega
     ·cases hd : dw (n / 1000000000) with
      | nil =>
        rw [hd] at i2; simp only [ay] at i2
        show ((n % 1000000000 : Nat) : Int)≠0
        omega
      | cons e r =>
        rw [hd] at i3
        show at_ (_::e::r) (r.length + 1)≠0
        exact i3
theorem CU : ∀ {l : List Int},Dw l→(l = []∨at_ l (l.length - 1)≠0)→dw (ay l).toNat = l
 | [],_,_=>by simp [ay,eU]
 | d::r,h,hl=>by
   obtain ⟨h1,h2⟩:=h.cons
   have hb:=(kV h2).1
   have hr : r = []∨at_ r (r.length - 1)≠0:=by
    cases r with
    | nil=>exact .inl rfl
    | cons e s=>exact .inr (by rcases hl with hl | hl; · cases hl
                               ·exact hl)
   have ih:=CU h2 hr
   have hne : ay (d::r)≠0:=by
    intro h0
    simp only [ay] at h0
    have hd : d = 0:=by omega
    have hz : ay r = 0:=by omega
    rw [hz] at ih
    have hr0 : r = []:=by rw [← ih]; simpa using eU
    subst hr0
    rcases hl with hl | hl
    ·cases hl
    ·exact hl hd
   have hn : (ay (d::r)).toNat≠0:=by simp only [ay] at hne ⊢; omega
   rw [gI hn]
   have e1 : (ay (d::r)).toNat / 1000000000 = (ay r).toNat:=by simp only [ay]; omega
   have e2 : (((ay (d::r)).toNat % 1000000000 : Nat) : Int) = d:=by simp only [ay]; omega
   rw [e1,e2,ih]
theorem CJ{l : List Int}{k : Nat}(h : Dw l)(hk : k≤l.length)(hv : ay (l.take k) = ay l)(hl : k = 0∨at_ l (k - 1)≠0) : dw (ay l).toNat = l.take k:=by
 rw [← hv]
 refine CU (h.take k) ?_
 rcases hl with hl | hl
 ·subst hl; exact .inl (by simp)
 ·by_cases h0 : k = 0
  ·subst h0; exact .inl (by simp)
  ·refine .inr ?_
   rw [List.length_take,Nat.min_eq_left hk,tN (by omega)]
   exact hl
theorem rG{l : List Int}{k : Nat}(h : k < l.length) : ay (l.take (k + 1)) = ay (l.take k) + pu k * at_ l k:=by
 rw [ez h,tU,List.length_take,Nat.min_eq_left (by omega)]; simp [ay]
theorem Gn{l : List Int}{k : Nat}(h : k < l.length)(h0 : at_ l k = 0) : ay (l.take (k + 1)) = ay (l.take k):=by rw [rG h,h0]; simp
theorem Iw{l : List Int}{k : Nat}{x : Int}(h : k < l.length) : ay (l.set k x) = ay l + pu k * (x - at_ l k):=by
 induction l generalizing k with
 | nil=>simp at h
 | cons d r ih =>
   cases k with
   | zero=>simp only [List.set_cons_zero,ay,wS]; show _ = _ + 1 * (x - d); omega
   | succ k =>
     have:=ih (k:=k) (by simpa using h)
     simp only [List.set_cons_succ,ay,this,ln,Int.mul_add,Int.mul_assoc]
     show _ = _ + 1000000000 * (pu k * (x - at_ r k))
     omega
theorem Dw.set{l : List Int}{k : Nat}{x : Int}(h : Dw l)(hx : 0≤x∧x < 1000000000) : Dw (l.set k x):=fun d hd=>by
 rcases List.mem_or_eq_of_mem_set hd with hd | rfl
 ·exact h d hd
 ·exact hx
theorem Dw.zeros(n : Nat) : Dw (List.replicate n 0):=fun d hd=>by rw [List.eq_of_mem_replicate hd]; omega
theorem ER(n : Nat) : ay (List.replicate n 0) = 0:=by
 induction n with
 | zero=>rfl
 | succ n ih=>simp [List.replicate_succ,ay,ih]
theorem CK : ∀ {a b : List Int} {k : Nat},Dw a→Dw b→a.length = b.length→k < a.length→(∀ i,k < i→i < a.length→at_ a i = at_ b i)→at_ a k < at_ b k→ay a < ay b
 | x::a,y::b,k,ha,hb,hl,hk,he,h=>by
   obtain ⟨a1,a2⟩:=ha.cons
   obtain ⟨b1,b2⟩:=hb.cons
   have hl' : a.length = b.length:=by simpa using hl
   cases k with
   | zero =>
     have e : a = b:=lM hl' fun i hi=>he (i + 1) (by omega) (by simpa using hi)
     have h' : x < y:=h
     subst e; simp only [ay]; omega
   | succ k =>
     have:=CK (k:=k) a2 b2 hl' (by simpa using hk) (fun i h1 h2=>he (i + 1) (by omega) (by simpa using h2)) h
     simp only [ay]; omega
 | [],_,k,_,_,_,hk,_,_=>by simp at hk
 | _::_,[],k,_,_,hl,_,_,_=>by simp at hl
theorem AI{a b : List Int}(ha : Dw a)(hb : Dw b)(hn : b = []∨at_ b (b.length - 1)≠0)(hl : a.length < b.length) : ay a < ay b:=by
 have h1:=(kV ha).2
 have hne : b≠[]:=fun e=>by rw [e] at hl; simp at hl
 have hn':=hn.resolve_left hne
 have h2 : ay b = ay (b.take (b.length - 1)) + pu (b.length - 1) * at_ b (b.length - 1):=by
  have:=rG (l:=b) (k:=b.length - 1) (by omega)
  rwa [show b.length - 1 + 1 = b.length by omega,List.take_length] at this
 have h3:=(kV (hb.take (b.length - 1))).1
 have h4 : 1≤at_ b (b.length - 1):=by have:=hb.at (i:=b.length - 1) (by omega); omega
 have h5 : pu a.length≤pu (b.length - 1):=by
  obtain ⟨m,hm⟩ : ∃ m,b.length - 1 = a.length + m:=⟨b.length - 1 - a.length,by omega⟩
  rw [hm,zG]
  have:=Int.mul_le_mul_of_nonneg_left (show 1≤pu m by have:=qQ m; omega) (Int.le_of_lt (qQ a.length))
  omega
 have h6:=Int.mul_le_mul_of_nonneg_left h4 (Int.le_of_lt (qQ (b.length - 1)))
 omega
end Go.Proofs.YtpejdgkaapnekaaGreat
namespace Go.Proofs.YtpejdgkaapnekaaGreat
open Go Go.Abs
attribute [local irreducible] ae OkC ar aA av aN
set_option maxRecDepth 10000
def bK(n : Nat) : D:=cO (dw n)
theorem jT{n : Nat}(h : n < 1000000000000000000) : cJ (n : Int) = dw n:=by
 unfold cJ
 by_cases h0 : n = 0
 ·subst h0; rw [eU]; rfl
 ·rw [if_neg (by omega),gI h0]
  by_cases h1 : n < 1000000000
  ·rw [if_pos (by omega),show n / 1000000000 = 0 by omega,eU,show n % 1000000000 = n by omega]
  ·rw [if_neg (by omega),gI (n:=n / 1000000000) (by omega),show n / 1000000000 / 1000000000 = 0 by omega,eU,show n / 1000000000 % 1000000000 = n / 1000000000 by omega]
   rfl
theorem Et(n : Nat)(hn : n < 1000000000000000000) : CallA Tryz.prog 268 [.one (.d (.int .u64 n))] [] (.one (.d (bK n))) []:=by
 have:=vR (n : Int) (by omega) (by omega)
 rwa [jT hn] at this
theorem IM(v : Int)(n : Nat)(hv : v = (n : Int))(hn : n < 1000000000000000000) : CallA Tryz.prog 268 [.one (.d (.int .u64 v))] [] (.one (.d (bK n))) []:=by
 subst hv; exact Et n hn
theorem sh(l : List Int)(i : Nat)(h : Dw l) : CallA Tryz.prog 342 [.one (.d (cO l)),.one (.d (.int .i64 i))] [] (.one (.d (.int .u64 (at_ l i)))) []:=Hz l i h
theorem Td(l : List Int)(h : Dw l) : CallA Tryz.prog 344 [.one (.d (cO l))] [] (.one (.d (bK (ay l).toNat))) []:=by
 refine enter af Tryz.func344 rfl (by decide +kernel) rfl fun hok w0 σ0 φ0 M=>?_
 have h1:=(OkD.sl hok.1).1
 clear hok
 simp only [List.length_map] at h1
 repeat' (first|(refine h1H ?_; (refine h9H ?_; refine s_e au J J J (kL J J J J J wB wB) ?_))|(refine h1H ?_; (refine tt ?_; refine s_e au J J J (ch J J J J J wB (AH hr hk wB)) ?_))|refine wG ?_|(refine h1H ?_; (refine h5H ?_; refine aJ J J J J (fun h=>?_) (fun h=>?_)))|(refine h4H ?_; first|refine ah J (fun h=>?_) (fun h=>?_)|refine aH 1 J [] aZ (fun (p : Nat×List (List D))=>[(0,.one (.d (.sl 1 4 p.2)))]) (fun (p : Nat×List (List D))=>p.1≤l.length∧p.2.length = p.1∧p.2 = (l.map al).take p.1∧ay (l.take p.1) = ay l) (fun (p : Nat×List (List D))=>p.1) (l.length,l.map al) (q1Q J) ?_ (fun p ⟨hk,hq,hr,hv⟩=>?_))|(show Exists _; refine Exists.intro ((p.1 - 1,p.2.take (Int.toNat ((p.2.length : Int) - 1)))) ⟨?_,?_,wK,(q1Q J),aZ⟩))
 ·exact ⟨Nat.le_refl _,by simp,(List.take_of_length_le (by simp)).symm,by simp⟩
 ·have e : ((p.2.length : Int) - 1).toNat = p.1 - 1:=by omega
  have h0 : (0 : Int) < (p.2.length : Int):=of_decide_eq_true ‹decide (_ < _) = true›
  have hz:=Gn (l:=l) (k:=p.1 - 1) (by omega) (by rw [← e]; simpa using h)
  rw [show p.1 - 1 + 1 = p.1 by omega] at hz
  refine ⟨by show p.1 - 1≤_; omega,?_,?_,?_⟩
  ·show (p.2.take _).length = p.1 - 1
   rw [e]; simp; omega
  ·show p.2.take _ = (l.map al).take (p.1 - 1)
   rw [e,hr,List.take_take,Nat.min_eq_left (by omega)]
  ·show ay (l.take (p.1 - 1)) = _
   rw [← hz,hv]
 ·have h0 : (0 : Int) < (p.2.length : Int):=of_decide_eq_true ‹decide (_ < _) = true›
  show p.1 - 1 < p.1
  omega
 ·have e : ((p.2.length : Int) - 1).toNat = p.1 - 1:=by omega
  show AV.one (.d (.sl 1 4 p.2)) = AV.one (.d (.sl 1 4 ((dw (ay l).toNat).map al)))
  rw [CJ ‹Dw l› hk hv (.inr (by rw [← e]; simpa using h)),hr,List.map_take]
 ·have h0 : ¬ (0 : Int) < (p.2.length : Int):=of_decide_eq_false (by simpa using h)
  show AV.one (.d (.sl 1 4 p.2)) = AV.one (.d (.sl 1 4 ((dw (ay l).toNat).map al)))
  rw [CJ ‹Dw l› hk hv (.inl (by omega)),hr,List.map_take]
theorem pG{m n : Nat}(h : (dw m).length < (dw n).length) : m < n:=by
 obtain ⟨a1,a2,a3⟩:=fO m
 obtain ⟨b1,b2,b3⟩:=fO n
 have:=AI a1 b1 b3 h
 omega
theorem Gp{m n : Nat}{k : Nat}(hl : (dw m).length = (dw n).length)(hk : k < (dw m).length)(he : ∀ i,k < i→i < (dw m).length→at_ (dw m) i = at_ (dw n) i)(h : at_ (dw m) k < at_ (dw n) k) : m < n:=by
 obtain ⟨a1,a2,a3⟩:=fO m
 obtain ⟨b1,b2,b3⟩:=fO n
 have:=CK a1 b1 hl hk he h
 omega
theorem Kb{m n : Nat}(hl : (dw m).length = (dw n).length)(he : ∀ i,i < (dw m).length→at_ (dw m) i = at_ (dw n) i) : m = n:=by
 have e : dw m = dw n:=List.ext_getElem hl fun i h1 h2=>by
  have:=he i h1
  simpa [at_,h1,h2] using this
 have a:=(fO m).2.1
 have b:=(fO n).2.1
 rw [e] at a
 omega
theorem yt(m n : Nat) : CallA Tryz.prog 265 [.one (.d (bK m)),.one (.d (bK n))] [] (.one (.d (.int .i64 (iE m n)))) []:=by
 refine enter af Tryz.func265 rfl (by decide +kernel) rfl fun hok w0 σ0 φ0 M=>?_
 have h1:=(OkD.sl hok.1).1
 clear hok
 simp only [List.length_map] at h1
 repeat' (first|refine wG ?_|(refine h4H ?_; first|refine ah J (fun h=>?_) (fun h=>?_)|refine aH 6 J [(0,_),(1,_)] (q2Q J J) (fun (p : Int)=>[(5,.one (.d (.int .i64 p)))]) (fun (p : Int)=>-1≤p∧p < ((dw m).length : Int)∧(∀ i : Nat,p < (i : Int)→i < (dw m).length→at_ (dw m) i = at_ (dw n) i)) (fun (p : Int)=>(p + 1).toNat) ((((dw m).map al).length : Int) - 1) (q1Q J) ?_ (fun p ⟨hk,hk2,hs⟩=>?_))|(show Exists _; refine Exists.intro ((p - 1)) ⟨?_,?_,wK,(q1Q J),(q2Q J J)⟩))
 ·rw [iT (pG (Gq h))]
 ·rw [iU (pG (by
   have h2:=Gr ‹_›
   have:=Gs h; omega))]
 ·simp only [List.length_map]; exact ⟨by omega,by omega,fun i h2 h3=>by omega⟩
 ·have hl:=oS ‹_›
  have h0 : 0≤p:=of_decide_eq_true ‹decide (0≤p) = true›
  rw [iT (Gp hl (k:=p.toNat) (by omega) (fun i h2 h3=>hs i (by omega) h3) (of_decide_eq_true h))]
 ·have hl:=oS ‹_›
  have h0 : 0≤p:=of_decide_eq_true ‹decide (0≤p) = true›
  rw [iU (Gp hl.symm (k:=p.toNat) (by omega) (fun i h2 h3=>(hs i (by omega) (by omega)).symm) (of_decide_eq_true h))]
 ·have h0 : 0≤p:=of_decide_eq_true ‹decide (0≤p) = true›
  have hge:=of_decide_eq_false ‹decide (at_ (dw m) p.toNat < at_ (dw n) p.toNat) = false›
  have hle:=of_decide_eq_false h
  have he : at_ (dw m) p.toNat = at_ (dw n) p.toNat:=by omega
  refine ⟨by omega,by omega,fun i h2 h3=>?_⟩
  rcases Int.lt_or_le p (i : Int) with h4 | h4
  ·exact hs i h4 h3
  ·have : i = p.toNat:=by omega
   rw [this,he]
 ·have h0 : 0≤p:=of_decide_eq_true ‹decide (0≤p) = true›
  omega
 ·have hl:=oS ‹_›
  have h0 : ¬ 0≤p:=of_decide_eq_false h
  rw [kS (Kb hl fun i h2=>hs i (by omega) h2)]
theorem Dw.at'{l : List Int}(h : Dw l)(i : Nat) : 0≤at_ l i∧at_ l i < 1000000000:=by
 by_cases hi : i < l.length
 ·exact h.at hi
 ·rw [jn (Nat.le_of_not_lt hi)]; omega
theorem Dw.app{l : List Int}{d : Int}(h : Dw l)(hd : 0≤d∧d < 1000000000) : Dw (l ++ [d]):=fun x hx=>by
 rcases List.mem_append.1 hx with hx | hx
 ·exact h x hx
 ·rw [List.mem_singleton.1 hx]; exact hd
theorem xM{l : List Int}{d : Int} : ay (l ++ [d]) = ay l + pu l.length * d:=by rw [tU]; simp [ay]
theorem iX{l : List Int}{k : Nat} : ay (l.take (k + 1)) = ay (l.take k) + pu k * at_ l k:=by
 by_cases h : k < l.length
 ·exact rG h
 ·rw [jn (Nat.le_of_not_lt h),List.take_of_length_le (by omega),List.take_of_length_le (by omega)]; simp
theorem MJ{L : List Int}{R : List (List D)}{i : Nat}{d : Int}(hr : R = L.map al)(hl : L.length = i) : R.take i ++ [[.int .u32 d]] = (L ++ [d]).map al:=by
 rw [hr,List.take_of_length_le (by simp; omega),List.map_append]; rfl
theorem IX{L : List Int}{R : List (List D)}{i : Nat}(hr : R = L.map al)(hl : L.length = i) : R.take i = L.map al:=by
 rw [hr,List.take_of_length_le (by simp; omega)]
theorem uD(ys : List (List D))(l : List Int)(m : Nat)(hy : ys = l.map al)(h : Dw l)(hm : (ay l).toNat = m) : CallA Tryz.prog 344 [.one (.d (.sl 1 4 ys))] [] (.one (.d (bK m))) []:=by
 subst hy; subst hm; exact Td l h
theorem Kh{X Y L : List Int}{R : List (List D)}{i : Nat}{c s : Int}(hs : s = at_ X i + at_ Y i + c)(hr : R = L.map al)(hl : L.length = i)(hL : Dw L)(hc : 0≤c∧c≤1)(hX : Dw X)(hY : Dw Y)(hv : ay L + pu i * c = ay (X.take i) + ay (Y.take i)) :
  R.take i ++ [[.int .u32 (s % 1000000000)]] = (L ++ [s % 1000000000]).map al∧(L ++ [s % 1000000000]).length = i + 1∧Dw (L ++ [s % 1000000000])∧(0≤s / 1000000000∧s / 1000000000≤1)∧(0≤at_ X (i + 1)∧at_ X (i + 1) < 1000000000)∧(0≤at_ Y (i + 1)∧at_ Y (i + 1) < 1000000000) ∧
  ay (L ++ [s % 1000000000]) + pu (i + 1) * (s / 1000000000) = ay (X.take (i + 1)) + ay (Y.take (i + 1)):=by
 have hx:=hX.at' i
 have hy:=hY.at' i
 refine ⟨MJ hr hl,by simp [hl],hL.app (by omega),by omega,hX.at' _,hY.at' _,?_⟩
 rw [xM,iX,iX,hl,ln]
 have e3 : s % 1000000000 = s - 1000000000 * (s / 1000000000):=by omega
 rw [e3]
 generalize s / 1000000000 = q
 rw [hs]
 have e7 : pu i * (at_ X i + at_ Y i + c - 1000000000 * q) = pu i * at_ X i + pu i * at_ Y i + pu i * c - 1000000000 * pu i * q:=by
  simp only [Int.mul_sub,Int.mul_add]
  rw [← Int.mul_assoc,Int.mul_comm (pu i) 1000000000]
 rw [e7]
 omega
theorem MK{X Y L : List Int}{i : Nat}{c : Int}(h1 : X.length≤i)(h2 : Y.length≤i)(h3 : ¬ 0 < c)(hc : 0≤c∧c≤1)(hv : ay L + pu i * c = ay (X.take i) + ay (Y.take i)) : (ay L).toNat = (ay X + ay Y).toNat:=by
 have e : c = 0:=by omega
 rw [e,List.take_of_length_le h1,List.take_of_length_le h2] at hv
 rw [← hv]; simp
theorem Ki{X Y L : List Int}{R : List (List D)}{i : Nat}{b s : Int}(hs : s = at_ X i + 1000000000 - at_ Y i - b)(hr : R = L.map al)(hl : L.length = i)(hL : Dw L)(hb : 0≤b∧b≤1)(hX : Dw X)(hY : Dw Y)(hv : ay L = ay (X.take i) - ay (Y.take i) + pu i * b) :
  R.take i ++ [[.int .u32 (s % 1000000000)]] = (L ++ [s % 1000000000]).map al∧(L ++ [s % 1000000000]).length = i + 1∧Dw (L ++ [s % 1000000000])∧(0≤1 - s / 1000000000∧1 - s / 1000000000≤1)∧(0≤at_ X (i + 1)∧at_ X (i + 1) < 1000000000)∧(0≤at_ Y (i + 1)∧at_ Y (i + 1) < 1000000000) ∧
  ay (L ++ [s % 1000000000]) = ay (X.take (i + 1)) - ay (Y.take (i + 1)) + pu (i + 1) * (1 - s / 1000000000):=by
 have hx:=hX.at' i
 have hy:=hY.at' i
 refine ⟨MJ hr hl,by simp [hl],hL.app (by omega),by omega,hX.at' _,hY.at' _,?_⟩
 rw [xM,iX,iX,hl,ln,hv]
 have e3 : s % 1000000000 = s - 1000000000 * (s / 1000000000):=by omega
 rw [e3]
 generalize s / 1000000000 = q
 rw [hs]
 have e7 : pu i * (at_ X i + 1000000000 - at_ Y i - b - 1000000000 * q) = pu i * at_ X i + 1000000000 * pu i - pu i * at_ Y i - pu i * b - 1000000000 * pu i * q:=by
  simp only [Int.mul_sub,Int.mul_add]
  rw [← Int.mul_assoc,Int.mul_comm (pu i) 1000000000]
 have e8 : 1000000000 * pu i * (1 - q) = 1000000000 * pu i - 1000000000 * pu i * q:=by rw [Int.mul_sub,Int.mul_one]
 rw [e7,e8]
 omega
theorem ML{X Y L : List Int}{i : Nat}{b : Int}(h1 : X.length≤i)(h2 : Y.length≤X.length)(hle : ay Y≤ay X)(hl : L.length = i)(hi : i≤X.length)(hX : Dw X)(hL : Dw L)(hb : 0≤b∧b≤1)(hv : ay L = ay (X.take i) - ay (Y.take i) + pu i * b) : (ay L).toNat = (ay X - ay Y).toNat:=by
 have e : i = X.length:=by omega
 subst e
 rw [List.take_of_length_le (Nat.le_refl _),List.take_of_length_le h2] at hv
 have hbd:=kV hL
 rw [hl] at hbd
 have hb' : b = 0∨b = 1:=by omega
 rcases hb' with rfl | rfl
 ·rw [hv]; simp
 ·exfalso; rw [Int.mul_one] at hv; omega
set_option maxHeartbeats 1000000 in
theorem Oi(X Y : List Int)(hX : Dw X)(hY : Dw Y)(hn : X.length≤400)(hm : Y.length≤400) : CallA Tryz.prog 288 [.one (.d (cO X)),.one (.d (cO Y))] [] (.one (.d (bK (ay X + ay Y).toNat))) []:=by
 refine enter af Tryz.func288 rfl (by decide +kernel) rfl fun hok w0 σ0 φ0 M=>?_
 clear hok
 repeat' (first|(refine h1H ?_; (refine h0H ?_; refine dR 40 [10] J J J J J J J J J (uD _ p.2.2.1 _ (IX hr hl) hL (MK (by simpa using ‹decide ((p.1 : Int) < ((X.map al).length : Int)) = false›) (by simpa using ‹decide ((p.1 : Int) < ((Y.map al).length : Int)) = false›) (of_decide_eq_false ‹decide (0 < p.2.1) = false›) hc hv)) J J J ?_))|(refine h1H ?_; (refine wu ?_; refine s_e au J J J (gC J J J J (by omega) (by omega)) ?_))|(refine h1H ?_; (refine qP ?_; refine s_e au J J J (eN J J J J (by omega) (by omega) (gP (by omega) (by omega))) ?_))|(refine h1H ?_; (refine h0H ?_; first|refine aa J J J J J J J J (sh _ _ hX) J ?_|refine aa J J J J J J J J (sh _ _ hY) J ?_))|refine wG ?_|(refine h1H ?_; (refine h5H ?_; refine aJ J J J J (fun h=>?_) (fun h=>?_)))|(refine h4H ?_; first|refine ah J (fun h=>?_) (fun h=>?_)|refine dX 4 J (dT (s:=5) (id:=10) (k:=1) (b:=4) J J J J) [(0,_),(1,_)] (q2Q J J) (fun (bN : Bool×Bool) (p : Nat×Int×List Int×List (List D))=>[(5,.one (.own 10 p.1)),(6,.one (.d (.int .u64 p.2.1))),(7,.one (.d (.int .i64 (p.1 : Int))))]) (fun (bN : Bool×Bool) (p : Nat×Int×List Int×List (List D))=>[(10,.row 1 4 p.2.2.2)]) (fun (p : Nat×Int×List Int×List (List D))=>p.2.2.2 = p.2.2.1.map al∧p.2.2.1.length = p.1∧Dw p.2.2.1∧(0≤p.2.1∧p.2.1≤1)∧(0≤at_ X p.1∧at_ X p.1 < 1000000000)∧(0≤at_ Y p.1∧at_ Y p.1 < 1000000000)∧ay p.2.2.1 + pu p.1 * p.2.1 = ay (X.take p.1) + ay (Y.take p.1)∧(p.1 : Int) + p.2.1≤401) (fun (p : Nat×Int×List Int×List (List D))=>402 - p.1) (0,0,[],[]) (q3Q J J J) wK (fun b y=>by obtain ⟨b1,b2⟩:=b; cases b1 <;> cases b2 <;> first|exact Imp.refl _|exact dY qN (by kernel_rfl)) ?_ (fun p ⟨hr,hl,hL,hc,hx,hy,hv,hi⟩=>?_))|(show Exists _; refine Exists.intro ((p.1 + 1,(at_ X p.1 + at_ Y p.1 + p.2.1) / 1000000000,p.2.2.1 ++ [(at_ X p.1 + at_ Y p.1 + p.2.1) % 1000000000],p.2.2.2.take p.1 ++ [[.int .u32 ((at_ X p.1 + at_ Y p.1 + p.2.1) % 1000000000)]])) (Exists.intro (false,false) ⟨?_,?_,wK,(q3Q J J J),(q2Q J J)⟩)))
 ·exact ⟨rfl,rfl,fun d hd=>by simp at hd,⟨Int.le_refl _,by show (0 : Int)≤1; omega⟩,hX.at' _,hY.at' _,by simp [ay],by show ((0 : Nat) : Int) + 0≤401; omega⟩
 all_goals first
  | (obtain ⟨q1,q2,q3,q4,q5,q6,q7⟩:=Kh (s:=at_ X p.1 + at_ Y p.1 + p.2.1) rfl hr hl hL hc hX hY hv
     refine ⟨q1,q2,q3,q4,q5,q6,q7,?_⟩
     show ((p.1 + 1 : Nat) : Int) + (at_ X p.1 + at_ Y p.1 + p.2.1) / 1000000000≤401
     have hz : X.length≤p.1→at_ X p.1 = 0:=jn
     have hz2 : Y.length≤p.1→at_ Y p.1 = 0:=jn
     simp only [a4A,a3A,a0A,a1A,a5A] at *
     have h5 : p.1 < X.length∨X.length≤p.1:=Nat.lt_or_ge _ _
     have h6 : p.1 < Y.length∨Y.length≤p.1:=Nat.lt_or_ge _ _
     rcases h5 with h5 | h5
     ·omega
     ·rcases h6 with h6 | h6
      ·omega
      ·have:=hz h5; have:=hz2 h6; omega)
  | (show 402 - (p.1 + 1) < 402 - p.1
     omega)
  | rfl
  | skip
set_option maxHeartbeats 1000000 in
theorem Oj(X Y : List Int)(hX : Dw X)(hY : Dw Y)(hn : X.length≤400)(hxy : Y.length≤X.length)(hle : ay Y≤ay X) : CallA Tryz.prog 346 [.one (.d (cO X)),.one (.d (cO Y))] [] (.one (.d (bK (ay X - ay Y).toNat))) []:=by
 refine enter af Tryz.func346 rfl (by decide +kernel) rfl fun hok w0 σ0 φ0 M=>?_
 clear hok
 repeat' (first|(refine h1H ?_; (refine h0H ?_; refine dR 40 [10] J J J J J J J J J (uD _ p.2.2.1 _ (IX hr hl) hL (ML (by simpa using h) hxy hle hl hi hX hL hc hv)) J J J ?_))|(refine h1H ?_; (refine wu ?_; refine s_e au J J J (gC J J J J (by omega) (by omega)) ?_))|(refine h1H ?_; (refine qP ?_; refine s_e au J J J (eN J J J J (by omega) (by omega) (gP (by omega) (by omega))) ?_))|(refine h1H ?_; (refine h0H ?_; first|refine aa J J J J J J J J (sh _ _ hX) J ?_|refine aa J J J J J J J J (sh _ _ hY) J ?_))|refine wG ?_|(refine h4H ?_; first|refine ah J (fun h=>?_) (fun h=>?_)|refine dX 4 J (dT (s:=5) (id:=10) (k:=1) (b:=4) J J J J) [(0,_),(1,_)] (q2Q J J) (fun (bN : Bool×Bool) (p : Nat×Int×List Int×List (List D))=>[(5,.one (.own 10 p.1)),(6,.one (.d (.int .u64 p.2.1))),(7,.one (.d (.int .i64 (p.1 : Int))))]) (fun (bN : Bool×Bool) (p : Nat×Int×List Int×List (List D))=>[(10,.row 1 4 p.2.2.2)]) (fun (p : Nat×Int×List Int×List (List D))=>p.2.2.2 = p.2.2.1.map al∧p.2.2.1.length = p.1∧Dw p.2.2.1∧(0≤p.2.1∧p.2.1≤1)∧(0≤at_ X p.1∧at_ X p.1 < 1000000000)∧(0≤at_ Y p.1∧at_ Y p.1 < 1000000000)∧ay p.2.2.1 = ay (X.take p.1) - ay (Y.take p.1) + pu p.1 * p.2.1∧p.1≤X.length) (fun (p : Nat×Int×List Int×List (List D))=>X.length - p.1) (0,0,[],[]) (q3Q J J J) wK (fun b y=>by obtain ⟨b1,b2⟩:=b; cases b1 <;> cases b2 <;> first|exact Imp.refl _|exact dY qN (by kernel_rfl)) ?_ (fun p ⟨hr,hl,hL,hc,hx,hy,hv,hi⟩=>?_))|(show Exists _; refine Exists.intro ((p.1 + 1,1 - (at_ X p.1 + 1000000000 - at_ Y p.1 - p.2.1) / 1000000000,p.2.2.1 ++ [(at_ X p.1 + 1000000000 - at_ Y p.1 - p.2.1) % 1000000000],p.2.2.2.take p.1 ++ [[.int .u32 ((at_ X p.1 + 1000000000 - at_ Y p.1 - p.2.1) % 1000000000)]])) (Exists.intro (false,false) ⟨?_,?_,wK,(q3Q J J J),(q2Q J J)⟩)))
 ·exact ⟨rfl,rfl,fun d hd=>by simp at hd,⟨Int.le_refl _,by show (0 : Int)≤1; omega⟩,hX.at' _,hY.at' _,by simp [ay],Nat.zero_le _⟩
 ·have hlt : p.1 < X.length:=by simpa using h
  obtain ⟨q1,q2,q3,q4,q5,q6,q7⟩:=Ki (s:=at_ X p.1 + 1000000000 - at_ Y p.1 - p.2.1) rfl hr hl hL hc hX hY hv
  exact ⟨q1,q2,q3,q4,q5,q6,q7,hlt⟩
 ·have hlt : p.1 < X.length:=by simpa using h
  show X.length - (p.1 + 1) < X.length - p.1
  omega
 ·rfl
theorem LH(m n : Nat)(hm : (dw m).length≤400)(hn : (dw n).length≤400) : CallA Tryz.prog 288 [.one (.d (bK m)),.one (.d (bK n))] [] (.one (.d (bK (m + n)))) []:=by
 obtain ⟨a1,a2,a3⟩:=fO m
 obtain ⟨b1,b2,b3⟩:=fO n
 have:=Oi (dw m) (dw n) a1 b1 hm hn
 rwa [a2,b2,show ((m : Int) + (n : Int)).toNat = m + n by omega] at this
theorem HE(m n : Nat)(hm : (dw m).length≤400)(h : n≤m) : CallA Tryz.prog 346 [.one (.d (bK m)),.one (.d (bK n))] [] (.one (.d (bK (m - n)))) []:=by
 obtain ⟨a1,a2,a3⟩:=fO m
 obtain ⟨b1,b2,b3⟩:=fO n
 have hl : (dw n).length≤(dw m).length:=by
  refine Nat.le_of_not_lt fun hc=>?_
  have:=pG hc; omega
 have:=Oj (dw m) (dw n) a1 b1 hm hl (by omega)
 rwa [a2,b2,show ((m : Int) - (n : Int)).toNat = m - n by omega] at this
def tmT(o x y c : Int) : Int:=IntKind.u64.wrap (IntKind.u64.wrap (IntKind.u64.wrap o + IntKind.u64.wrap (IntKind.u64.wrap x * y)) + c)
theorem Iv(v : Int) : 0≤IntKind.u64.wrap v∧IntKind.u64.wrap v < 18446744073709551616:=by
 show 0≤v % 18446744073709551616∧v % 18446744073709551616 < 18446744073709551616
 omega
theorem TF(v : Int) : IntKind.u64.wrap (IntKind.u64.wrap v / 1000000000) = IntKind.u64.wrap v / 1000000000:=by
 have:=Iv v
 exact cR (by omega) (by omega)
theorem Kx{x y : Int}(hx : 0≤x∧x < 1000000000)(hy : 0≤y∧y < 1000000000) : 0≤x * y∧x * y≤999999998000000001:=by
 have h1 : x≤999999999:=by omega
 have h2 : y≤999999999:=by omega
 exact ⟨Int.mul_nonneg hx.1 hy.1,Int.le_trans (Int.mul_le_mul h1 h2 hy.1 (by omega)) (by decide)⟩
theorem MV{o x y c : Int}(ho : 0≤o∧o < 1000000000)(hx : 0≤x∧x < 1000000000)(hy : 0≤y∧y < 1000000000)(hc : 0≤c∧c < 1000000000) : tmT o x y c = o + x * y + c∧0≤o + x * y + c∧o + x * y + c < 1000000000000000000:=by
 have h:=Kx hx hy
 unfold tmT
 rw [cR hx.1 (by omega),cR ho.1 (by omega),cR h.1 (by omega),cR (v:=o + x * y) (by omega) (by omega),cR (by omega) (by omega)]
 omega
theorem CS{X Y L : List Int}{R : List (List D)}{i k : Nat}{c V T : Int}(hT : T = tmT (at_ L (i + k)) (at_ X i) (at_ Y k) c)(hX : Dw X)(hY : Dw Y)(hi : i < X.length)(hr : R = L.map al)(hl : R.length = X.length + Y.length)(hL : Dw L)(hc : 0≤c∧c < 1000000000)
  (hk : k < Y.length∨k = Y.length∧0 < c) (hz : ∀ t,i + Y.length≤t→i + k≤t→at_ L t = 0) (hv : ay L + pu (i + k) * c = V + pu i * (at_ X i * ay (Y.take k))) :
  R.set (i + k) [.int .u32 (T % 1000000000)] = (L.set (i + k) (T % 1000000000)).map al∧(R.set (i + k) [.int .u32 (T % 1000000000)]).length = X.length + Y.length∧Dw (L.set (i + k) (T % 1000000000))∧(0≤T / 1000000000∧T / 1000000000 < 1000000000) ∧
  k + 1≤Y.length + 1∧(k + 1≤Y.length∨T / 1000000000 = 0)∧(∀ t,i + Y.length≤t→i + (k + 1)≤t→at_ (L.set (i + k) (T % 1000000000)) t = 0) ∧
  ay (L.set (i + k) (T % 1000000000)) + pu (i + (k + 1)) * (T / 1000000000) = V + pu i * (at_ X i * ay (Y.take (k + 1))):=by
 have hLl : L.length = X.length + Y.length:=kq hr hl
 have hik : i + k < L.length:=by omega
 obtain ⟨e,h0,h1⟩:=MV (hL.at hik) (hX.at hi) (hY.at' k) hc
 rw [← hT] at e
 refine ⟨eR hr,by simpa using hl,hL.set (by omega),by omega,by omega,?_,fun t h1 h2=>by rw [eu (by omega)]; exact hz t h1 (by omega),?_⟩
 ·rcases hk with hk | ⟨hk,hk2⟩
  ·exact .inl hk
  ·refine .inr ?_
   rw [hz (i + k) (by omega) (by omega),jn (l:=Y) (by omega),Int.mul_zero] at e
   omega
 rw [Iw hik,iX,show i + (k + 1) = (i + k) + 1 by omega,ln]
 have e3 : T % 1000000000 = T - 1000000000 * (T / 1000000000):=by omega
 rw [e3]
 generalize T / 1000000000 = q
 rw [e]
 generalize hxy : at_ X i * at_ Y k = xy
 have e5 : pu i * (at_ X i * (ay (Y.take k) + pu k * at_ Y k)) = pu i * (at_ X i * ay (Y.take k)) + pu (i + k) * xy:=by
  rw [← hxy,Int.mul_add,Int.mul_add,zG,Int.mul_assoc (pu i) (pu k),Int.mul_left_comm (at_ X i) (pu k)]
 rw [e5]
 generalize pu (i + k) = P at hv ⊢
 have e7 : P * (at_ L (i + k) + xy + c - 1000000000 * q - at_ L (i + k)) = P * xy + P * c - 1000000000 * P * q:=by
  rw [show at_ L (i + k) + xy + c - 1000000000 * q - at_ L (i + k) = xy + c - 1000000000 * q by omega]
  simp only [Int.mul_sub,Int.mul_add]
  rw [← Int.mul_assoc,Int.mul_comm P 1000000000]
 rw [e7]
 omega
theorem MW{X Y L : List Int}{R : List (List D)}{i k : Nat}{c V : Int}(hi : i < X.length)(h1 : Y.length≤k)(h2 : k≤Y.length + 1)(h3 : ¬ 0 < c)(hc : 0≤c∧c < 1000000000)(hz : ∀ t,i + Y.length≤t→i + k≤t→at_ L t = 0)(hV : V = ay (X.take i) * ay Y)(hv : ay L + pu (i + k) * c = V + pu i * (at_ X i * ay (Y.take k))) :
  i + 1≤X.length∧(∀ t,i + 1 + Y.length≤t→at_ L t = 0)∧ay L = ay (X.take (i + 1)) * ay Y:=by
 have e : c = 0:=by omega
 rw [e,List.take_of_length_le h1,hV,Int.mul_zero,Int.add_zero] at hv
 exact ⟨hi,fun t ht=>hz t (by omega) (by omega),by rw [hv,iX,Int.add_mul,Int.mul_assoc]⟩
theorem zF{n : Nat}{L : List Int}{R : List (List D)}(hr : R = L.map al)(hl : R.length = n) : R.take n = L.map al:=by rw [List.take_of_length_le (by omega),hr]
theorem Ix{X Y L : List Int}{k : Nat}(hv : ay L = ay (X.take k) * ay Y)(h : X.length≤k) : (ay L).toNat = (ay X * ay Y).toNat:=by
 rw [hv,List.take_of_length_le h]
set_option maxHeartbeats 1000000 in
theorem OC(X Y : List Int)(hX : Dw X)(hY : Dw Y)(hn : X.length≤400)(hm : Y.length≤400) : CallA Tryz.prog 345 [.one (.d (cO X)),.one (.d (cO Y))] [] (.one (.d (bK (ay X * ay Y).toNat))) []:=by
 refine enter af Tryz.func345 rfl (by decide +kernel) rfl fun hok w0 σ0 φ0 M=>?_
 clear hok
 repeat' (first|(refine h1H ?_; (refine h7H ?_; refine fi au 10 J J J (bO (n:=X.length + Y.length) J J J J J (by simp) (by simp) (by omega) (Nat.le_of_ble_eq_true J)) J J ?_))|(refine h1H ?_; (refine wu ?_; refine s_e au J J J (gC J J J J (Iv _).1 (by omega)) ?_))|(refine h1H ?_; (refine qP ?_; refine s_e au J J J (eN J J J J (Iv _).1 (by omega) (TF _)) ?_))|(refine h1H ?_; (refine h0H ?_; refine dR 40 [10] J J J J J J J J J (uD _ p.2.1 _ (zF hr hl2) hL (Ix hv (by simpa using h))) J J J ?_))|(refine h3H ?_; (refine h2H ?_; refine d_l J J (aB J J J J J J (sh _ _ hY) J) ?_))|refine wG ?_|(refine h1H ?_; (refine h5H ?_; refine aJ J J J J (fun h=>?_) (fun h=>?_)))|(refine h4H ?_; first|refine ah J (fun h=>?_) (fun h=>?_)|refine ca 7 J [(0,_),(1,_),(5,_),(6,_)] (q4Q J J J J) (fun (q : Nat×Int×List Int×List (List D))=>[(8,.one (.d (.int .i64 (q.1 : Int)))),(7,.one (.d (.int .u64 q.2.1)))]) (fun (q : Nat×Int×List Int×List (List D))=>[(10,.row 1 4 q.2.2.2)]) (fun (q : Nat×Int×List Int×List (List D))=>q.2.2.2 = q.2.2.1.map al∧q.2.2.2.length = X.length + Y.length∧Dw q.2.2.1∧(0≤q.2.1∧q.2.1 < 1000000000)∧q.1≤Y.length + 1∧(q.1≤Y.length∨q.2.1 = 0)∧(∀ t,p.1 + Y.length≤t→p.1 + q.1≤t→at_ q.2.2.1 t = 0)∧ay q.2.2.1 + pu (p.1 + q.1) * q.2.1 = ay p.2.1 + pu p.1 * (at_ X p.1 * ay (Y.take q.1))) (fun (q : Nat×Int×List Int×List (List D))=>Y.length + 1 - q.1) (0,0,p.2.1,p.2.2) (q2Q J J) wK ?_ (fun q ⟨hqr,hql,hqL,hqc,hqk,hqk2,hqz,hqv⟩=>?_)|refine ca 3 J [(0,_),(1,_),(5,_)] (q3Q J J J) (fun (p : Nat×List Int×List (List D))=>[(6,.one (.d (.int .i64 (p.1 : Int))))]) (fun (p : Nat×List Int×List (List D))=>[(10,.row 1 4 p.2.2)]) (fun (p : Nat×List Int×List (List D))=>p.1≤X.length∧p.2.2 = p.2.1.map al∧p.2.2.length = X.length + Y.length∧Dw p.2.1∧(∀ t,p.1 + Y.length≤t→at_ p.2.1 t = 0)∧ay p.2.1 = ay (X.take p.1) * ay Y) (fun (p : Nat×List Int×List (List D))=>X.length - p.1) (0,List.replicate (X.length + Y.length) 0,List.replicate (X.length + Y.length) [.int .u32 0]) (q1Q J) wK ?_ (fun p ⟨hk,hr,hl2,hL,hz,hv⟩=>?_))|(show Exists _; first|refine Exists.intro ((p.1 + 1,q.2.2.1,q.2.2.2)) ⟨?_,?_,wK,(q1Q J),(q3Q J J J)⟩|refine Exists.intro ((q.1 + 1,tmT (at_ q.2.2.1 (p.1 + q.1)) (at_ X p.1) (at_ Y q.1) q.2.1 / 1000000000,q.2.2.1.set (p.1 + q.1) (tmT (at_ q.2.2.1 (p.1 + q.1)) (at_ X p.1) (at_ Y q.1) q.2.1 % 1000000000),q.2.2.2.set (p.1 + q.1) [.int .u32 (tmT (at_ q.2.2.1 (p.1 + q.1)) (at_ X p.1) (at_ Y q.1) q.2.1 % 1000000000)])) ⟨?_,?_,wK,(q2Q J J),(q4Q J J J J)⟩))
 ·exact ⟨Nat.zero_le _,by simp [al],by simp,Dw.zeros _,fun t _=>by
   show at_ (List.replicate _ (0 : Int)) t = 0
   simp only [at_,List.getD_eq_getElem?_getD,List.getElem?_replicate]
   split <;> rfl,by
   show ay (List.replicate _ (0 : Int)) = ay (X.take 0) * ay Y
   rw [ER,List.take_zero]; simp [ay]⟩
 all_goals first
  | exact ⟨hr,hl2,hL,⟨Int.le_refl _,by show (0 : Int) < 1000000000; omega⟩,Nat.zero_le _,.inl (Nat.zero_le _),fun t h1 _=>hz t h1,by
    show ay p.2.1 + pu (p.1 + 0) * 0 = ay p.2.1 + pu p.1 * (at_ X p.1 * ay (Y.take 0))
    rw [List.take_zero]; simp [ay]⟩
  | exact CS rfl hX hY (by simpa using ‹decide ((p.1 : Int) < ((X.map al).length : Int)) = true›) hqr hql hqL hqc (.inl (by simpa using h)) hqz hqv
  | exact CS rfl hX hY (by simpa using ‹decide ((p.1 : Int) < ((X.map al).length : Int)) = true›) hqr hql hqL hqc (.inr (by
    have h5 : Y.length≤q.1:=by simpa using ‹decide ((q.1 : Int) < ((Y.map al).length : Int)) = false›
    have h6 : 0 < q.2.1:=of_decide_eq_true h
    rcases hqk2 with h7 | h7
    ·exact ⟨by omega,h6⟩
    ·omega)) hqz hqv
  | (obtain ⟨e1,e2,e3⟩:=MW (R:=[]) (by simpa using ‹decide ((p.1 : Int) < ((X.map al).length : Int)) = true›) (by simpa using ‹decide ((q.1 : Int) < ((Y.map al).length : Int)) = false›) hqk (of_decide_eq_false h) hqc hqz hv hqv
     exact ⟨e1,hqr,hql,hqL,e2,e3⟩)
  | (have hlt : q.1≤Y.length:=by
      rcases hqk2 with h7 | h7
      ·exact h7
      ·have h8 : q.1 < Y.length:=by simpa [h7] using h
       omega
     show Y.length + 1 - (q.1 + 1) < Y.length + 1 - q.1
     omega)
  | (have hlt : p.1 < X.length:=by simpa using ‹decide ((p.1 : Int) < ((X.map al).length : Int)) = true›
     show X.length - (p.1 + 1) < X.length - p.1
     omega)
  | rfl
  | skip
theorem vT(m n : Nat)(hm : (dw m).length≤400)(hn : (dw n).length≤400) : CallA Tryz.prog 345 [.one (.d (bK m)),.one (.d (bK n))] [] (.one (.d (bK (m * n)))) []:=by
 obtain ⟨a1,a2,a3⟩:=fO m
 obtain ⟨b1,b2,b3⟩:=fO n
 have:=OC (dw m) (dw n) a1 b1 hm hn
 rwa [a2,b2,show ((m : Int) * (n : Int)).toNat = m * n by rw [← Int.natCast_mul]; rfl] at this
def dwl(n : Nat) : Nat:=(dw n).length
theorem jS{m n : Nat}(h : m≤n) : dwl m≤dwl n:=by
 refine Nat.le_of_not_lt fun hc=>?_
 have:=pG hc; omega
theorem NO{y : Nat} : dwl (y * 1000000000)≤dwl y + 1:=by
 unfold dwl
 by_cases h : y = 0
 ·subst h; simp [eU]
 ·rw [gI (n:=y * 1000000000) (by omega),show y * 1000000000 / 1000000000 = y by omega]; simp
theorem Lo{r y : Nat}(h : r≤y * 1000000000)(hy : dwl y≤300) : dwl r≤400:=by
 have:=jS h
 have:=NO (y:=y)
 omega
theorem DE{n : Nat}(h : n < 1000000000000000000) : (dw n).length≤400:=by
 rw [← jT h]; have:=tC (z:=(n : Int)); omega
def rsW(X : List Int)(i : Int)(r : Nat) : Nat:=(at_ X i.toNat).toNat + 1000000000 * r
theorem vS{X : List Int}{i : Int}{r : Nat}{ys : List (List D)}(hX : Dw X)(hy : ys = [.int .u32 (at_ X i.toNat)]::(dw r).map al) : ys = (at_ X i.toNat::dw r).map al∧Dw (at_ X i.toNat::dw r)∧(ay (at_ X i.toNat::dw r)).toNat = rsW X i r:=by
 obtain ⟨h1,h2,_⟩:=fO r
 have hx:=hX.at' i.toNat
 refine ⟨hy,fun d hd=>?_,?_⟩
 ·rcases List.mem_cons.1 hd with rfl | hd
  ·exact hx
  ·exact h1 d hd
 ·simp only [ay,h2,rsW]; omega
theorem FI{X : List Int}{i : Int}{r y : Nat}(hX : Dw X)(hr : r < y) : rsW X i r < y * 1000000000:=by
 have hx:=hX.at' i.toNat
 unfold rsW; omega
theorem tk1(x : List D)(l : List (List D)) : List.take (1 + l.length) (List.take 1 [x] ++ l) = x::l:=(List.take_of_length_le (Nat.le_of_eq (by simp [Nat.add_comm]))).trans rfl
structure Hlv (y r : Nat) (q : Int×Int) : Prop where
 b : 0≤q.1∧q.1≤q.2∧q.2≤999999999
 lo : y * q.1.toNat≤r
 hi : r < y * (q.2.toNat + 1)
theorem FJ{y r : Nat}{q : Int×Int}(h : Hlv y r q)(hlt : q.1 < q.2)(hc : y * ((q.1 + q.2 + 1) / 2).toNat≤r) : Hlv y r ((q.1 + q.2 + 1) / 2,q.2):=⟨by have:=h.b; show 0≤(q.1 + q.2 + 1) / 2∧_; omega,hc,h.hi⟩
theorem FK{y r : Nat}{q : Int×Int}(h : Hlv y r q)(hlt : q.1 < q.2)(hc : r < y * ((q.1 + q.2 + 1) / 2).toNat) : Hlv y r (q.1,(q.1 + q.2 + 1) / 2 - 1):=by
 have:=h.b
 refine ⟨by show _∧q.1≤(q.1 + q.2 + 1) / 2 - 1∧(q.1 + q.2 + 1) / 2 - 1≤_; omega,h.lo,?_⟩
 show r < y * (((q.1 + q.2 + 1) / 2 - 1).toNat + 1)
 rw [show ((q.1 + q.2 + 1) / 2 - 1).toNat + 1 = ((q.1 + q.2 + 1) / 2).toNat by omega]; exact hc
theorem Ju{y r : Nat}{q : Int×Int}(h : Hlv y r q)(hge : ¬ q.1 < q.2)(hy : 0 < y) : q.1.toNat = r / y∧r - y * q.1.toNat = r % y:=by
 have hb:=h.b
 have e : q.2.toNat = q.1.toNat:=by omega
 have h1:=h.hi
 rw [e] at h1
 have h2:=h.lo
 have e2 : r / y = q.1.toNat:=by
  refine Nat.le_antisymm ?_ ((Nat.le_div_iff_mul_le hy).2 (by rw [Nat.mul_comm]; exact h2))
  exact Nat.le_of_lt_succ ((Nat.div_lt_iff_lt_mul hy).2 (by rw [Nat.mul_comm]; exact h1))
 refine ⟨e2.symm,?_⟩
 rw [← e2]
 have:=Nat.mod_add_div r y
 omega
theorem Jv{X Q : List Int}{R : List (List D)}{i : Int}{r y N : Nat}{q : Int×Int}(hX : Dw X)(hy : 0 < y)(h : Hlv y (rsW X i r) q)(hge : ¬ q.1 < q.2)(h0 : 0≤i)(h1 : i < (X.length : Int))(hN : N = X.length)(hr : R = Q.map al)(hl : R.length = N)(hQ : Dw Q)(hry : r < y)
  (hv : ay (X.drop (i + 1).toNat) = ay (Q.drop (i + 1).toNat) * (y : Int) + (r : Int)) :
  -1≤i - 1∧i - 1 < (X.length : Int)∧R.set i.toNat [.int .u32 q.1] = (Q.set i.toNat q.1).map al∧(R.set i.toNat [.int .u32 q.1]).length = N∧Dw (Q.set i.toNat q.1)∧rsW X i r - y * q.1.toNat < y∧(dwl y≤300→(dw (rsW X i r - y * q.1.toNat)).length≤400) ∧
  ay (X.drop (i - 1 + 1).toNat) = ay ((Q.set i.toNat q.1).drop (i - 1 + 1).toNat) * (y : Int) + ((rsW X i r - y * q.1.toNat : Nat) : Int):=by
 have hQl : Q.length = N:=kq hr hl
 obtain ⟨e1,e2⟩:=Ju h hge hy
 obtain ⟨k,rfl⟩:=Int.eq_ofNat_of_zero_le h0
 have hb:=h.b
 have hk : k < X.length:=by omega
 have hlo:=h.lo
 refine ⟨by omega,by omega,eR hr,by simpa using hl,hQ.set (by omega),by rw [e2]; exact Nat.mod_lt _ hy,fun h3=>by rw [e2]; exact Nat.le_trans (jS (Nat.le_of_lt (Nat.mod_lt _ hy))) (by omega),?_⟩
 rw [show ((k : Int) - 1 + 1).toNat = k by omega]
 rw [show ((k : Int) + 1).toNat = k + 1 by omega] at hv
 rw [Int.toNat_natCast]
 rw [ao hk,ao (l:=Q.set k q.1) (by simpa [hQl,hN] using hk),nD (by omega),List.drop_set_of_lt (by omega)]
 simp only [ay,hv]
 have hx:=hX.at' k
 have e3 : ((rsW X (k : Int) r - y * q.1.toNat : Nat) : Int) = at_ X k + 1000000000 * (r : Int) - (y : Int) * q.1:=by
  rw [Int.ofNat_sub hlo]
  have e4 : ((y * q.1.toNat : Nat) : Int) = (y : Int) * q.1:=by rw [Int.natCast_mul,Int.toNat_of_nonneg hb.1]
  rw [e4]
  unfold rsW
  rw [Int.toNat_natCast]
  omega
 rw [e3,Int.add_mul,Int.mul_comm q.1 (y : Int),Int.mul_assoc]
 generalize ay (Q.drop (k + 1)) * (y : Int) = Z
 omega
theorem FL{X Q : List Int}{i : Int}{r y : Nat}(h0 : ¬ 0≤i)(h1 : -1≤i)(hry : r < y)(hQ : Dw Q)(hX : Dw X)(hv : ay (X.drop (i + 1).toNat) = ay (Q.drop (i + 1).toNat) * (y : Int) + (r : Int)) : (ay Q).toNat = (ay X).toNat / y∧r = (ay X).toNat % y:=by
 rw [show (i + 1).toNat = 0 by omega,List.drop_zero,List.drop_zero] at hv
 obtain ⟨a,ha⟩:=Int.eq_ofNat_of_zero_le (kV hQ).1
 rw [ha] at hv ⊢
 have e : (ay X).toNat = a * y + r:=by
  have : ay X = ((a * y + r : Nat) : Int):=by rw [hv,Int.natCast_add,Int.natCast_mul]
  rw [this]; rfl
 rw [e,Int.toNat_natCast]
 have hy : 0 < y:=by omega
 constructor
 ·rw [Nat.mul_comm,Nat.mul_add_div hy,Nat.div_eq_of_lt hry,Nat.add_zero]
 ·rw [Nat.mul_comm,Nat.mul_add_mod,Nat.mod_eq_of_lt hry]
theorem NP(x y : Nat)(hx : x < 1000000000000000000)(hy0 : 0 < y)(hy : y < 1000000000000000000) : CallA Tryz.prog 287 [.one (.d (bK x)),.one (.d (bK y))] [] (.tup [(false,[.d (bK (x / y))]),(false,[.d (bK (x % y))])]) []:=by
 have:=Lq (x : Int) (y : Int) (by omega) (by omega) (by omega) (by omega)
 have h1 : x / y < 1000000000000000000:=Nat.lt_of_le_of_lt (Nat.div_le_self _ _) hx
 have h2 : x % y < 1000000000000000000:=Nat.lt_of_le_of_lt (Nat.mod_le _ _) hx
 rw [jT hx,jT hy,← Int.natCast_ediv,← Int.natCast_emod,jT h1,jT h2] at this
 exact this
theorem FM{m n : Nat}(h : decide (iE m n≤0) = true) : m≤n:=by
 refine Nat.le_of_not_lt fun hc=>?_
 have:=of_decide_eq_true h
 rw [iU hc] at this; omega
theorem FN{m n : Nat}(h : decide (iE m n≤0) = false) : n < m:=by
 refine Nat.lt_of_not_le fun hc=>?_
 have:=of_decide_eq_false h
 rcases Nat.lt_or_ge m n with h2 | h2
 ·rw [iT h2] at this; omega
 ·rw [kS (by omega)] at this; omega
theorem NQ : bK 0 = .sl 1 4 []:=by unfold bK cO; rw [eU]; rfl
theorem HD{c : Ctx}{fr : List (Nat×AV)}{sto : Sto}(s : Nat)(hl : Abs.look fr s = some (.one (.d .nil))) : Imp c ⟨fr,sto⟩ ⟨(s,.one (.d (bK 0)))::fr,sto⟩:=by rw [NQ]; exact kK hl
set_option maxHeartbeats 2000000 in
theorem NR(X : List Int)(y : Nat)(hX : Dw X)(hn : X.length≤300)(hy0 : 0 < y)(hy3 : dwl y≤300)(hy400 : (dw y).length≤400)(hbig : (decide (((X.map al).length : Int)≤2) && decide ((((dw y).map al).length : Int)≤2)) = false) : CallA Tryz.prog 287 [.one (.d (cO X)),.one (.d (bK y))] [] (.tup [(false,[.d (bK ((ay X).toNat / y))]),(false,[.d (bK ((ay X).toNat % y))])]) []:=by
 refine enter af Tryz.func287 rfl (by decide +kernel) rfl fun hok w0 σ0 φ0 M=>?_
 clear hok
 repeat' (first|(refine h1H ?_; (refine h7H ?_; refine fi au 10 J J J (bO (n:=X.length) J J J J J (by simp) (by simp) (by omega) (Nat.le_of_ble_eq_true J)) J J ?_))|(refine h1H ?_; (refine h0H ?_; first|refine dR 40 [0] J J J J J J J J J (uD _ (at_ X p.1.toNat::dw p.2.1) (rsW X p.1 p.2.1) (vS hX (tk1 _ _)).1 (vS (ys:=[.int .u32 (at_ X p.1.toNat)]::(dw p.2.1).map al) hX J).2.1 (vS (ys:=[.int .u32 (at_ X p.1.toNat)]::(dw p.2.1).map al) hX J).2.2) J J J ?_|refine dR 40 [10] J J J J J J J J J (uD _ p.2.2.1 _ (zF hr hl2) hL (FL (of_decide_eq_false h) hk1 hry hL hX hv).1) J J J ?_))|(refine h1H ?_; (refine qP ?_; refine s_e au J J J (eN J J J J (by omega) (by omega) (gP (by omega) (by omega))) ?_))|(refine h1H ?_; (refine h0H ?_; first|refine aa J J J J J J J J (yt _ _) J ?_|refine az 16 J J J J J J J J (IM _ q.1.toNat (by omega) (by omega)) J J J ?_|refine az 16 J J J J J J J J (IM _ (((q.1 + q.2 + 1) / 2).toNat) (by omega) (by omega)) J J J ?_|refine az 16 J J J J J J J J (vT y (((q.1 + q.2 + 1) / 2).toNat) hy400 (DE (by omega))) J J J ?_|refine az 16 J J J J J J J J (vT y q.1.toNat hy400 (DE (by omega))) J J J ?_|refine az 16 J J J J J J J J (HE _ _ (Lo (Nat.le_of_lt (FI hX hry)) hy3) hH.lo) J J J ?_))|(refine h4H ?_; refine bf (HD 7 J) ?_)|refine wG ?_|(refine h1H ?_; (refine h5H ?_; refine aJ J J J J (fun h=>?_) (fun h=>?_)))|(refine h4H ?_; first|refine ah J (fun h=>?_) (fun h=>?_)|refine ca 10 J [(0,_),(1,_),(6,_),(7,_),(8,_)] (q5Q J J J J J) (fun (q : Int×Int)=>[(9,.one (.d (.int .u64 q.1))),(10,.one (.d (.int .u64 q.2)))]) (fun (q : Int×Int)=>[(10,.row 1 4 p.2.2.2)]) (fun (q : Int×Int)=>(0≤q.1∧q.1≤q.2∧q.2≤999999999)∧Hlv y (rsW X p.1 p.2.1) q) (fun (q : Int×Int)=>(q.2 - q.1).toNat) (0,999999999) (q2Q J J) wK ?_ (fun q ⟨hqb,hH⟩=>?_)|refine ca 6 J [(0,_),(1,_),(6,_)] (q3Q J J J) (fun (p : Int×Nat×List Int×List (List D))=>[(7,.one (.d (bK p.2.1))),(8,.one (.d (.int .i64 p.1)))]) (fun (p : Int×Nat×List Int×List (List D))=>[(10,.row 1 4 p.2.2.2)]) (fun (p : Int×Nat×List Int×List (List D))=>-1≤p.1∧p.1 < (X.length : Int)∧p.2.2.2 = p.2.2.1.map al∧p.2.2.2.length = X.length∧Dw p.2.2.1∧p.2.1 < y∧(dw p.2.1).length≤400∧ay (X.drop (p.1 + 1).toNat) = ay (p.2.2.1.drop (p.1 + 1).toNat) * (y : Int) + (p.2.1 : Int)) (fun (p : Int×Nat×List Int×List (List D))=>(p.1 + 1).toNat) ((((X.map al).length : Int) - 1),0,List.replicate X.length 0,List.replicate X.length [.int .u32 0]) (q2Q J J) wK ?_ (fun p ⟨hk1,hk2,hr,hl2,hL,hry,hrl,hv⟩=>?_))|(show Exists _; first|refine Exists.intro (((p.1 - 1),rsW X p.1 p.2.1 - y * q.1.toNat,p.2.2.1.set p.1.toNat q.1,p.2.2.2.set p.1.toNat [.int .u32 q.1])) ⟨?_,?_,wK,(q2Q J J),(q3Q J J J)⟩|refine Exists.intro (((q.1 + q.2 + 1) / 2,q.2)) ⟨?_,?_,wK,(q2Q J J),(q5Q J J J J J)⟩|refine Exists.intro ((q.1,(q.1 + q.2 + 1) / 2 - 1)) ⟨?_,?_,wK,(q2Q J J),(q5Q J J J J J)⟩))
 ·exfalso; rw [h,‹decide (((X.map al).length : Int)≤2) = true›] at hbig; cases hbig
 all_goals first
  | (refine ⟨?_,?_,by simp [al],by simp,Dw.zeros _,hy0,by rw [eU]; simp,?_⟩
     ·simp only [List.length_map]; omega
     ·simp only [List.length_map]; omega
     ·show ay (X.drop ((((X.map al).length : Int) - 1 + 1).toNat)) = ay ((List.replicate X.length 0).drop ((((X.map al).length : Int) - 1 + 1).toNat)) * (y : Int) + ((0 : Nat) : Int)
      rw [List.length_map,show ((X.length : Int) - 1 + 1).toNat = X.length by omega,List.drop_length,List.drop_eq_nil_of_le (by simp)]
      simp [ay])
  | exact ⟨⟨Int.le_refl _,by show (0 : Int)≤999999999; omega,Int.le_refl _⟩,⟨⟨Int.le_refl _,by show (0 : Int)≤999999999; omega,Int.le_refl _⟩,by show y * 0≤_; omega,FI hX hry⟩⟩
  | exact ⟨(FJ hH (of_decide_eq_true ‹decide (q.1 < q.2) = true›) (FM h)).b,FJ hH (of_decide_eq_true ‹decide (q.1 < q.2) = true›) (FM h)⟩
  | exact ⟨(FK hH (of_decide_eq_true ‹decide (q.1 < q.2) = true›) (FN h)).b,FK hH (of_decide_eq_true ‹decide (q.1 < q.2) = true›) (FN h)⟩
  | (have hlt:=of_decide_eq_true ‹decide (q.1 < q.2) = true›
     show (q.2 - (q.1 + q.2 + 1) / 2).toNat < (q.2 - q.1).toNat
     omega)
  | (have hlt:=of_decide_eq_true ‹decide (q.1 < q.2) = true›
     show ((q.1 + q.2 + 1) / 2 - 1 - q.1).toNat < (q.2 - q.1).toNat
     omega)
  | (obtain ⟨o1,o2,o3,o4,o5,o6,o7,o8⟩:=Jv hX hy0 hH (of_decide_eq_false h) (of_decide_eq_true ‹decide (0≤p.1) = true›) hk2 rfl hr hl2 hL hry hv
     exact ⟨o1,o2,o3,o4,o5,o6,o7 hy3,o8⟩)
  | (have h0:=of_decide_eq_true ‹decide (0≤p.1) = true›
     show (p.1 - 1 + 1).toNat < (p.1 + 1).toNat
     omega)
  | (have e:=(FL (of_decide_eq_false h) hk1 hry hL hX hv).2
     rw [← e]; rfl)
  | skip
theorem yu(x y : Nat)(hx : dwl x≤300)(hy0 : 0 < y)(hy : dwl y≤300) : CallA Tryz.prog 287 [.one (.d (bK x)),.one (.d (bK y))] [] (.tup [(false,[.d (bK (x / y))]),(false,[.d (bK (x % y))])]) []:=by
 by_cases hs : x < 1000000000000000000∧y < 1000000000000000000
 ·exact NP x y hs.1 hy0 hs.2
 ·obtain ⟨h1,h2,_⟩:=fO x
  have hb : (decide ((((dw x).map al).length : Int)≤2) && decide ((((dw y).map al).length : Int)≤2)) = false:=by
   have sm : ∀ {n : Nat},(dw n).length≤2→n < 1000000000000000000:=by
    intro n hn
    obtain ⟨g1,g2,_⟩:=fO n
    have hb:=(kV g1).2
    rw [g2] at hb
    have hle : pu (dw n).length≤pu 2:=by
     obtain ⟨m,hm⟩ : ∃ m,2 = (dw n).length + m:=⟨2 - (dw n).length,by omega⟩
     rw [hm,zG]
     have:=Int.mul_le_mul_of_nonneg_left (show 1≤pu m by have:=qQ m; omega) (Int.le_of_lt (qQ (dw n).length))
     omega
    have h2 : pu 2 = 1000000000000000000:=by decide
    omega
   rw [Bool.and_eq_false_iff]
   simp only [decide_eq_false_iff_not,List.length_map]
   refine Classical.byContradiction fun hc=>hs ⟨sm ?_,sm ?_⟩
   ·omega
   ·omega
  have:=NR (dw x) y h1 hx hy0 hy (Nat.le_trans hy (by omega)) hb
  rw [h2] at this
  exact this
theorem mA{n : Nat} : decide ((0 : Int) < (((dw n).map al).length : Int)) = decide (n≠0):=by
 by_cases h : n = 0
 ·subst h; simp [eU]
 ·rw [gI h]; simp [h]
theorem pP{b : Nat}(h : decide ((0 : Int) < (((dw b).map al).length : Int)) = true) : b≠0:=by rw [mA] at h; exact of_decide_eq_true h
theorem xu{b : Nat}(h : decide ((0 : Int) < (((dw b).map al).length : Int)) = false) : b = 0:=by rw [mA] at h; exact Decidable.not_not.1 (of_decide_eq_false h)
theorem NY(m n : Nat)(hm : dwl m≤300)(hn : dwl n≤300) : CallA Tryz.prog 266 [.one (.d (bK m)),.one (.d (bK n))] [] (.one (.d (bK (Nat.gcd m n)))) []:=by
 refine enter af Tryz.func266 rfl (by decide +kernel) rfl fun hok w0 σ0 φ0 M=>?_
 clear hok
 repeat' (first|(refine h1H ?_; (refine h0H ?_; refine az 16 J J J J J J J J (yu _ _ hb1 (Nat.pos_of_ne_zero (pP h)) hb2) J J J ?_))|refine wG ?_|(refine h4H ?_; first|refine ah J (fun h=>?_) (fun h=>?_)|refine aH 1 J [] aZ (fun (p : Nat×Nat)=>[(0,.one (.d (bK p.1))),(1,.one (.d (bK p.2)))]) (fun (p : Nat×Nat)=>Nat.gcd p.1 p.2 = Nat.gcd m n∧dwl p.1≤300∧dwl p.2≤300) (fun (p : Nat×Nat)=>p.2) (m,n) (q2Q J J) ?_ (fun p ⟨hg,hb1,hb2⟩=>?_))|(show Exists _; refine Exists.intro ((p.2,p.1 % p.2)) ⟨?_,?_,wK,(q2Q J J),aZ⟩))
 ·exact ⟨rfl,hm,hn⟩
 ·have hp : p.2≠0:=pP h
  refine ⟨?_,hb2,Nat.le_trans (jS (Nat.le_of_lt (Nat.mod_lt _ (Nat.pos_of_ne_zero hp)))) hb2⟩
  show Nat.gcd p.2 (p.1 % p.2) = _
  rw [← hg,Nat.gcd_comm p.1 p.2]
  conv=>rhs; rw [Nat.gcd_rec,Nat.gcd_comm]
 ·exact Nat.mod_lt _ (Nat.pos_of_ne_zero (pP h))
 ·have e:=xu h
  rw [← hg,e,Nat.gcd_zero_right]
def b9(t : Bool×Nat×Nat) : AV:=.agg [.d (.bool t.1),.d (bK t.2.1),.d (bK t.2.2)]
theorem HM(neg : Bool)(m n : Nat)(hm : dwl m≤300)(hn : dwl n≤300)(hn0 : n≠0) : CallA Tryz.prog 348 [.one (.d (.bool neg)),.one (.d (bK m)),.one (.d (bK n))] [] (b9 (gW neg m n)) []:=by
 have hg : 0 < Nat.gcd m n:=Nat.gcd_pos_of_pos_right m (Nat.pos_of_ne_zero hn0)
 have hgl : dwl (Nat.gcd m n)≤300:=Nat.le_trans (jS (Nat.le_of_dvd (Nat.pos_of_ne_zero hn0) (Nat.gcd_dvd_right m n))) hn
 refine enter af Tryz.func348 rfl (by decide +kernel) rfl fun hok w0 σ0 φ0 M=>?_
 clear hok
 repeat' (first|(refine h1H ?_; (refine h0H ?_; first|refine az 16 J J J J J J J J (NY _ _ hm hn) J J J ?_|refine az 16 J J J J J J J J (yu _ _ hm hg hgl) J J J ?_|refine az 16 J J J J J J J J (yu _ _ hn hg hgl) J J J ?_))|refine wG ?_|(refine h1H ?_; (refine h5H ?_; refine aJ J J J J (fun h=>?_) (fun h=>?_))))
 ·show AV.agg [.d (.bool (decide ((0 : Int) < (((dw (m / Nat.gcd m n)).map al).length : Int)))),.d (bK (m / Nat.gcd m n)),.d (bK (n / Nat.gcd m n))] = _
  rw [mA,zS]
  have h' : neg = true:=h
  subst h'; unfold gW; rw [Bool.true_and]; rfl
 ·have h' : neg = false:=h
  subst h'; rfl
theorem FV{n : Nat}(h : n < 1000000000000000000000000000000000000) : dwl n≤4:=by
 refine Nat.le_trans (jS (show n≤999999999999999999999999999999999999 by omega)) ?_
 unfold dwl
 rw [gI (by omega),show (999999999999999999999999999999999999 : Nat) / 1000000000 = 999999999999999999999999999 from rfl,gI (by omega),show (999999999999999999999999999 : Nat) / 1000000000 = 999999999999999999 from rfl,
  gI (by omega),show (999999999999999999 : Nat) / 1000000000 = 999999999 from rfl,gI (by omega),show (999999999 : Nat) / 1000000000 = 0 from rfl,eU]
 exact Nat.le_refl _
structure RatW (a1 b1 a2 b2 : Nat) : Prop where
 h1 : 1≤b1∧b1≤1099511627776
 h2 : 1≤b2∧b2≤1099511627776
 l1 : a1≤1099511627776
 l2 : a2≤1099511627776
theorem RatW.len{a1 b1 a2 b2 : Nat}(h : RatW a1 b1 a2 b2) : ((dw a1).length≤400∧(dw b1).length≤400∧(dw a2).length≤400∧(dw b2).length≤400)∧(dw (a1 * b2)).length≤300∧(dw (a2 * b1)).length≤300∧(dw (b1 * b2)).length≤300∧(dw (a1 * b2 + a2 * b1)).length≤300∧(dw (a1 * b2 - a2 * b1)).length≤300∧(dw (a2 * b1 - a1 * b2)).length≤300∧(dw (a1 * a2)).length≤300∧(dw (b1 * a2)).length≤300:=by
 have hm : ∀ {x y : Nat},x≤1099511627776→y≤1099511627776→x * y≤1208925819614629174706176:=fun hx hy=>Nat.mul_le_mul hx hy
 have d : ∀ {x : Nat},x≤1099511627776→(dw x).length≤400:=fun hx=>Nat.le_trans (FV (Nat.lt_of_le_of_lt hx (Nat.lt_of_lt_of_le (Nat.lt_succ_self _) (Nat.le_of_ble_eq_true rfl)))) (by omega)
 have p : ∀ {x : Nat},x≤2417851639229258349412352→(dw x).length≤300:=fun hx=>Nat.le_trans (FV (Nat.lt_of_le_of_lt hx (Nat.lt_of_lt_of_le (Nat.lt_succ_self _) (Nat.le_of_ble_eq_true rfl)))) (by omega)
 have p1:=hm h.l1 h.h2.2
 have p2:=hm h.l2 h.h1.2
 have p3:=hm h.h1.2 h.h2.2
 have p5:=hm h.l1 h.l2
 have p6:=hm h.h1.2 h.l2
 exact ⟨⟨d h.l1,d h.h1.2,d h.l2,d h.h2.2⟩,p (by omega),p (by omega),p (by omega),p (by omega),p (by omega),p (by omega),p (by omega),p (by omega)⟩
theorem JC{s1 s2 : Bool}{a1 b1 a2 b2 : Nat}(h : (s1 == s2) = true) : gW s1 (a1 * b2 + a2 * b1) (b1 * b2) = dE s1 a1 b1 s2 a2 b2 false:=by cases s1 <;> cases s2 <;> simp_all [dE]
theorem JD{s1 s2 : Bool}{a1 b1 a2 b2 : Nat}(h : (s1 == s2) = false)(h2 : a2 * b1≤a1 * b2) : gW s1 (a1 * b2 - a2 * b1) (b1 * b2) = dE s1 a1 b1 s2 a2 b2 false:=by cases s1 <;> cases s2 <;> simp_all [dE]
theorem JE{s1 s2 : Bool}{a1 b1 a2 b2 : Nat}(h : (s1 == s2) = false)(h2 : a1 * b2 < a2 * b1) : gW s2 (a2 * b1 - a1 * b2) (b1 * b2) = dE s1 a1 b1 s2 a2 b2 false:=by
 have h3 : ¬ a2 * b1≤a1 * b2:=by omega
 unfold dE
 rw [if_neg (by cases s1 <;> cases s2 <;> simp_all),if_neg h3]
 cases s2 <;> rfl
set_option maxHeartbeats 1000000 in
theorem LG(s1 : Bool)(a1 b1 : Nat)(s2 : Bool)(a2 b2 : Nat)(hR : RatW a1 b1 a2 b2) : CallA Tryz.prog 290 [b9 (s1,a1,b1),b9 (s2,a2,b2)] [] (b9 (dE s1 a1 b1 s2 a2 b2 false)) []:=by
 obtain ⟨⟨l1,l2,l3,l4⟩,m1,m2,m3,m4,m5,m6,m7,m8⟩:=hR.len
 have k3 : dwl (b1 * b2)≤300:=m3
 have k4 : dwl (a1 * b2 + a2 * b1)≤300:=m4
 have k5 : dwl (a1 * b2 - a2 * b1)≤300:=m5
 have k6 : dwl (a2 * b1 - a1 * b2)≤300:=m6
 have hb12 : b1 * b2≠0:=Nat.mul_ne_zero (by have:=hR.h1; omega) (by have:=hR.h2; omega)
 unfold b9
 refine enter af Tryz.func290 rfl (by decide +kernel) rfl fun hok w0 σ0 φ0 M=>?_
 clear hok
 repeat' (first|(refine h1H ?_; (refine h0H ?_; first|refine aa J J J J J J J J (yt _ _) J ?_|refine az 16 J J J J J J J J (vT _ _ (by omega) (by omega)) J J J ?_))|(refine h3H ?_; (refine h2H ?_; first|refine bh 16 J J J J J J J J (vT _ _ (by omega) (by omega)) J J ?_|refine bh 16 J J J J J J J J (LH _ _ wB wB) J J ?_|refine bh 16 J J J J J J J J (HE _ _ wB (uK h)) J J ?_|refine bh 16 J J J J J J J J (HE _ _ wB (Nat.le_of_lt (uL h))) J J ?_|refine bh 16 J J J J J J J J (HM _ _ _ (by omega) (by omega) hb12) J J ?_))|refine wG ?_|(refine h4H ?_; refine ah J (fun h=>?_) (fun h=>?_)))
 ·exact congrArg b9 (JC h)
 ·exact congrArg b9 (JD ‹((s1,a1,b1).1 == (s2,a2,b2).1) = false› (uK h))
 ·exact congrArg b9 (JE ‹((s1,a1,b1).1 == (s2,a2,b2).1) = false› (uL h))
theorem Qz(s1 : Bool)(a1 b1 : Nat)(s2 : Bool)(a2 b2 : Nat)(hR : RatW a1 b1 a2 b2) : CallA Tryz.prog 292 [b9 (s1,a1,b1),b9 (s2,a2,b2)] [] (b9 (gW (s1 != s2) (a1 * a2) (b1 * b2))) []:=by
 obtain ⟨⟨l1,l2,l3,l4⟩,m1,m2,m3,m4,m5,m6,m7,m8⟩:=hR.len
 have k3 : dwl (b1 * b2)≤300:=m3
 have k7 : dwl (a1 * a2)≤300:=m7
 have hb12 : b1 * b2≠0:=Nat.mul_ne_zero (by have:=hR.h1; omega) (by have:=hR.h2; omega)
 unfold b9
 refine enter af Tryz.func292 rfl (by decide +kernel) rfl fun hok w0 σ0 φ0 M=>?_
 clear hok
 repeat' (first|(refine h3H ?_; (refine h2H ?_; first|refine bh 16 J J J J J J J J (vT _ _ (by omega) (by omega)) J J ?_|refine bh 16 J J J J J J J J (HM _ _ _ (by omega) (by omega) hb12) J J ?_))|refine wG ?_)
 all_goals rfl
theorem QA(s1 : Bool)(a1 b1 : Nat)(s2 : Bool)(a2 b2 : Nat)(hR : RatW a1 b1 a2 b2)(h0 : a2≠0) : CallA Tryz.prog 293 [b9 (s1,a1,b1),b9 (s2,a2,b2)] [] (.tup [(true,[.d (.bool (gW (s1 != s2) (a1 * b2) (b1 * a2)).1),.d (bK (gW (s1 != s2) (a1 * b2) (b1 * a2)).2.1),.d (bK (gW (s1 != s2) (a1 * b2) (b1 * a2)).2.2)]),(false,[.d (.int .i64 0)])]) []:=by
 obtain ⟨⟨l1,l2,l3,l4⟩,m1,m2,m3,m4,m5,m6,m7,m8⟩:=hR.len
 have k1 : dwl (a1 * b2)≤300:=m1
 have k8 : dwl (b1 * a2)≤300:=m8
 have hb12 : b1 * a2≠0:=Nat.mul_ne_zero (by have:=hR.h1; omega) h0
 have hz : ((((dw (s2,a2,b2).2.1).map al).length : Int) == 0) = false:=by
  rw [gI h0]; simp; omega
 unfold b9
 refine enter af Tryz.func293 rfl (by decide +kernel) rfl fun hok w0 σ0 φ0 M=>?_
 clear hok
 repeat' (first|(refine h3H ?_; (refine h2H ?_; first|refine bh 16 J J J J J J J J (vT _ _ (by omega) (by omega)) J J ?_|refine bh 16 J J J J J J J J (HM _ _ _ (by omega) (by omega) hb12) J J ?_))|refine wG ?_)
 all_goals first | rfl | skip
theorem NZ(s1 : Bool)(a1 b1 : Nat)(s2 : Bool)(a2 b2 : Nat)(h0 : a2 = 0) : CallA Tryz.prog 293 [b9 (s1,a1,b1),b9 (s2,a2,b2)] [] (.tup [(true,[.d (.bool false),.d .nil,.d .nil]),(false,[.d (.int .i64 2)])]) []:=by
 have hz : ((((dw (s2,a2,b2).2.1).map al).length : Int) == 0) = true:=by
  rw [h0,eU]; rfl
 unfold b9
 refine enter af Tryz.func293 rfl (by decide +kernel) rfl fun hok w0 σ0 φ0 M=>?_
 clear hok
 repeat' (first|refine wG ?_)
 all_goals first | rfl | skip
theorem HN{n : Nat} : ((((dw n).map al).length : Int) == 0) = decide (n = 0):=by
 by_cases h : n = 0
 ·subst h; simp [eU]
 ·rw [gI h]; simp [h]; omega
theorem QB(t : Bool×Nat×Nat) : CallA Tryz.prog 347 [b9 t] [] (.one (.d (.int .i64 (if t.2.1 = 0 then 0 else if t.1 = true then -1 else 1)))) []:=by
 unfold b9
 refine enter af Tryz.func347 rfl (by decide +kernel) rfl fun hok w0 σ0 φ0 M=>?_
 clear hok
 repeat' (first|refine wG ?_|(refine h4H ?_; refine ah J (fun h=>?_) (fun h=>?_)))
 ·rw [HN] at h; rw [if_pos (of_decide_eq_true h)]
 ·have h2:=‹((((dw t.2.1).map al).length : Int) == 0) = false›
  rw [HN] at h2; rw [if_neg (of_decide_eq_false h2),if_pos h]
 ·have h2:=‹((((dw t.2.1).map al).length : Int) == 0) = false›
  rw [HN] at h2; rw [if_neg (of_decide_eq_false h2),if_neg (by rw [h]; simp)]
def wb(t : Bool×Nat×Nat) : Bool×Nat×Nat:=(!t.1 && decide (t.2.1≠0),t.2.1,t.2.2)
theorem LJ(t : Bool×Nat×Nat) : CallA Tryz.prog 239 [b9 t] [] (b9 (wb t)) []:=by
 unfold b9
 refine enter af Tryz.func239 rfl (by decide +kernel) rfl fun hok w0 σ0 φ0 M=>?_
 clear hok
 repeat' (first|refine wG ?_|(refine h1H ?_; (refine h5H ?_; refine aJ J J J J (fun h=>?_) (fun h=>?_))))
 ·unfold wb; rw [h,Bool.true_and,mA]
 ·have h' : (!t.1) = false:=h
  unfold wb; rw [h',Bool.false_and]
theorem HO{s1 s2 : Bool}{a1 b1 a2 b2 : Nat} : dE s1 a1 b1 (!s2 && decide (a2≠0)) a2 b2 false = dE s1 a1 b1 s2 a2 b2 true:=by
 by_cases h : a2 = 0
 ·subst h
  unfold dE gW
  cases s1 <;> cases s2 <;> simp
 ·have e : (!s2 && decide (a2≠0)) = !s2:=by simp [h]
  rw [e]
  unfold dE
  cases s1 <;> cases s2 <;> rfl
theorem LK(s1 : Bool)(a1 b1 : Nat)(s2 : Bool)(a2 b2 : Nat)(hR : RatW a1 b1 a2 b2) : CallA Tryz.prog 291 [b9 (s1,a1,b1),b9 (s2,a2,b2)] [] (b9 (dE s1 a1 b1 s2 a2 b2 true)) []:=by
 have hadd:=LG s1 a1 b1 (!s2 && decide (a2≠0)) a2 b2 hR
 rw [HO] at hadd
 unfold b9 at hadd ⊢
 refine enter af Tryz.func291 rfl (by decide +kernel) rfl fun hok w0 σ0 φ0 M=>?_
 clear hok
 repeat' (first|(refine h3H ?_; (refine h2H ?_; first|refine bh 16 J J J J J J J J (LJ _) J J ?_|refine bh 16 J J J J J J J J (hadd) J J ?_))|refine wG ?_)
 all_goals first | rfl | skip
theorem HP{t : Bool×Nat×Nat}(h : t.2.2≠0) : (if t.2.1 = 0 then (0 : Int) else if t.1 = true then -1 else 1) = nz t:=by
 unfold nz
 by_cases h2 : t.2.1 = 0
 ·rw [if_pos h2,if_pos (.inr h2)]
 ·simp [h,h2]
theorem QC(s1 : Bool)(a1 b1 : Nat)(s2 : Bool)(a2 b2 : Nat)(hR : RatW a1 b1 a2 b2) : CallA Tryz.prog 289 [b9 (s1,a1,b1),b9 (s2,a2,b2)] [] (.one (.d (.int .i64 (nz (dE s1 a1 b1 s2 a2 b2 true))))) []:=by
 rw [← HP (tL (by have:=hR.h1; omega) (by have:=hR.h2; omega))]
 unfold b9
 refine enter af Tryz.func289 rfl (by decide +kernel) rfl fun hok w0 σ0 φ0 M=>?_
 clear hok
 repeat' (first|(refine h1H ?_; (refine h0H ?_; first|refine aa J J J J J J J J (QB _) J ?_|refine az 16 J J J J J J J J (LK _ _ _ _ _ _ hR) J J J ?_))|refine wG ?_)
 all_goals first | rfl | skip
theorem DL(r : Int) : CallA Tryz.prog 286 [.one (.d (.int .i64 r))] [] (bc ⟨0,r,0,[]⟩) []:=by
 refine enter af Tryz.func286 rfl (by decide +kernel) rfl fun hok w0 σ0 φ0 M=>?_
 clear hok
 repeat' (first|refine wG ?_)
 all_goals rfl
theorem lW(b : Bool) : CallA Tryz.prog 237 [.one (.d (.bool b))] [] (bc (aC b)) []:=by
 refine enter af Tryz.func237 rfl (by decide +kernel) rfl fun hok w0 σ0 φ0 M=>?_
 clear hok
 repeat' (first|refine wG ?_|(refine h4H ?_; refine ah J (fun h=>?_) (fun h=>?_)))
 all_goals first | rfl | (simp_all [bc,aC]; done)
end Go.Proofs.YtpejdgkaapnekaaGreat
