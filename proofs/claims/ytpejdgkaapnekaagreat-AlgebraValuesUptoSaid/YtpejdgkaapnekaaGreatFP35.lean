import Derived.Test.YtpejdgkaapnekaaGreatFP26
import Derived.Test.YtpejdgkaapnekaaGreatFP16
import Derived.Test.YtpejdgkaapnekaaGreatFP18
import Derived.Test.YtpejdgkaapnekaaGreatFKZ
import Derived.Test.YtpejdgkaapnekaaGreatFP20
import Derived.Test.YtpejdgkaapnekaaGreatFP17
import Derived.Test.YtpejdgkaapnekaaGreatFP25
set_option linter.unusedVariables false
set_option linter.unusedSimpArgs false
set_option linter.unnecessarySimpa false
set_option maxHeartbeats 1000000
namespace Go.Proofs.YtpejdgkaapnekaaGreat
open Go Go.Abs
attribute [local irreducible] ao OkC aU bg aV bA
set_option maxRecDepth 10000
theorem tA{s : Scalar}(h : fA s = 0) : dq s = true∧(bB s).length≤64:=by
 have h3:=pq (bB s) 0 true (by omega)
 unfold fA at h
 split at h
 ·omega
 ·by_cases hc : 64 < ((bB s).length : Int)
  ·rw [h3.1 (by omega)] at h; omega
  ·rw [h3.2 (by omega),Bool.true_and,← uM] at h
   refine ⟨?_,by omega⟩
   cases hp : dq s with
   | true=>rfl
   | false=>rw [hp] at h; simp at h
def df(ds : List Dim)(ats : List Attr)(cs : List Cell)(s : Scalar) : Int×Int :=
 if dz ds ats cs≠0 then (0,2) else if fA s≠0 then (0,fA s) else cM dQ ds ats s
theorem c20(ds : List Dim)(ats : List Attr)(cs : List Cell)(s : Scalar) : CallA Tryz.prog 20 [.agg [.d (bZ ds),.d (bT ats),.d (fu cs)],du s] [] (ie (df ds ats cs s)) []:=by
 refine enter ab Tryz.func20 rfl (by decide +kernel) rfl fun hok w0 σ0 φ0 M=>?_
 clear hok
 by_cases h1 : dz ds ats cs = 0
 ·have hb1 : (dz ds ats cs != 0) = false:=by simp [h1]
  by_cases h2 : fA s = 0
  ·have hb2 : (fA s != 0) = false:=by simp [h2]
   obtain ⟨hp,hsz⟩:=tA h2
   have e : df ds ats cs s = cM dQ ds ats s:=by simp [df,h1,h2]
   rw [e]
   repeat' (first|(refine h6H ?_; first|refine ac ?_|refine ah ab J J J J J ?_|(refine h4H ?_; first|refine ag J J J J J J J J (c59 _ _ _) J ?_|refine ag J J J J J J J J (c87 _) J ?_|refine ag J J J J J J J J (c88 _ _ _ _ (by assumption) (by assumption)) J ?_)|(refine bC ?_; first|refine aM 0 J J J J J J ?_|refine aM 1 J J J J J J ?_))|(refine h7H ?_; first|refine al ?_|refine ae ?_|refine aw ?_|refine am ?_|refine aZ J (by assumption) ?_)|refine ak ?_|refine ai (.inl J) J J ?_)
   all_goals rfl
  ·have hb2 : (fA s != 0) = true:=by simp [h2]
   have e : df ds ats cs s = (0,fA s):=by simp [df,h1,h2]
   rw [e]
   repeat' (first|(refine h6H ?_; first|refine ac ?_|refine ah ab J J J J J ?_|(refine h4H ?_; first|refine ag J J J J J J J J (c59 _ _ _) J ?_|refine ag J J J J J J J J (c87 _) J ?_)|(refine bC ?_; first|refine aM 0 J J J J J J ?_|refine aM 1 J J J J J J ?_))|(refine h7H ?_; first|refine al ?_|refine ae ?_|refine aw ?_|refine am ?_|refine bv J (by assumption) ?_|refine aZ J (by assumption) ?_)|refine ak ?_|refine aC ?_|refine ai (.inl J) J J ?_)
   all_goals rfl
 ·have hb1 : (dz ds ats cs != 0) = true:=by simp [h1]
  have e : df ds ats cs s = (0,2):=by simp [df,h1]
  rw [e]
  repeat' (first|(refine h6H ?_; first|refine ac ?_|refine ah ab J J J J J ?_|(refine h4H ?_; refine ag J J J J J J J J (c59 _ _ _) J ?_)|(refine bC ?_; first|refine aM 0 J J J J J J ?_|refine aM 1 J J J J J J ?_))|(refine h7H ?_; first|refine al ?_|refine ae ?_|refine am ?_|refine bv J (by assumption) ?_)|refine ak ?_|refine aC ?_|refine ai (.inl J) J J ?_)
  all_goals rfl
theorem c21(ds : List Dim)(ats : List Attr)(cs : List Cell)(s : Scalar) : CallA Tryz.prog 21 [.agg [.d (bZ ds),.d (bT ats),.d (fu cs)],du s] [] (ie (df ds ats cs s)) []:=by
 refine enter ab Tryz.func21 rfl (by decide +kernel) rfl fun hok w0 σ0 φ0 M=>?_
 clear hok
 have hf:=Co s
 by_cases h1 : dz ds ats cs = 0
 ·have hb1 : (dz ds ats cs != 0) = false:=by simp [h1]
  by_cases h2 : 12 < di 12 s
  ·have hb2 : decide (12 < di 12 s) = true:=by simp [h2]
   rw [if_pos h2] at hf
   have e : df ds ats cs s = (0,10):=by simp [df,h1,hf]
   rw [e]
   repeat' (first|(refine h6H ?_; first|refine ac ?_|refine ah ab J J J J J ?_|(refine h4H ?_; first|refine ag J J J J J J J J (c89 _ _ _) J ?_|refine ag J J J J J J J J (c90 12 s 12 J (by omega)) J ?_)|(refine bC ?_; first|refine aM 0 J J J J J J ?_|refine aM 1 J J J J J J ?_))|(refine h7H ?_; first|refine al ?_|refine ae ?_|refine ay ?_|refine am ?_|refine bv J (by assumption) ?_|refine aZ J (by assumption) ?_)|refine ak ?_|refine aC ?_|refine aP ?_|refine ai (.inl J) J J ?_)
   all_goals rfl
  ·have hb2 : decide (12 < di 12 s) = false:=by simp [h2]
   rw [if_neg h2] at hf
   by_cases h3 : 64 < dC s 64
   ·have hb3 : decide (64 < dC s 64) = true:=by simp [h3]
    rw [if_pos h3] at hf
    have e : df ds ats cs s = (0,9):=by simp [df,h1,hf]
    rw [e]
    repeat' (first|(refine h6H ?_; first|refine ac ?_|refine ah ab J J J J J ?_|(refine h4H ?_; first|refine ag J J J J J J J J (c89 _ _ _) J ?_|refine ag J J J J J J J J (c90 12 s 12 J (by omega)) J ?_|refine ag J J J J J J J J (c91 s 64 (by omega) (by omega)) J ?_)|(refine bC ?_; first|refine aM 0 J J J J J J ?_|refine aM 1 J J J J J J ?_))|(refine h7H ?_; first|refine al ?_|refine ae ?_|refine ay ?_|refine am ?_|refine bv J (by assumption) ?_|refine aZ J (by assumption) ?_)|refine ak ?_|refine aC ?_|refine aP ?_|refine ai (.inl J) J J ?_)
    all_goals rfl
   ·have hb3 : decide (64 < dC s 64) = false:=by simp [h3]
    rw [if_neg h3] at hf
    cases hp : dq s with
    | true =>
      have hb4 : (!dq s) = false:=by simp [hp]
      rw [hp,if_pos rfl] at hf
      obtain ⟨_,hsz⟩:=tA hf
      have e : df ds ats cs s = cM gt ds ats s:=by rw [← Dr s hp]; simp [df,h1,hf]
      rw [e]
      repeat' (first|(refine h6H ?_; first|refine ac ?_|refine ah ab J J J J J ?_|(refine h4H ?_; first|refine ag J J J J J J J J (c89 _ _ _) J ?_|refine ag J J J J J J J J (c90 12 s 12 J (by omega)) J ?_|refine ag J J J J J J J J (c91 s 64 (by omega) (by omega)) J ?_|refine ag J J J J J J J J (c92 _) J ?_|refine ag J J J J J J J J (c93 _ _ _ _ (by assumption) (by assumption)) J ?_)|(refine bC ?_; first|refine aM 0 J J J J J J ?_|refine aM 1 J J J J J J ?_))|(refine h7H ?_; first|refine al ?_|refine ae ?_|refine ay ?_|refine aw ?_|refine am ?_|refine aZ J (by assumption) ?_)|refine ak ?_|refine aG ?_|refine ai (.inl J) J J ?_)
      all_goals rfl
    | false =>
      have hb4 : (!dq s) = true:=by simp [hp]
      rw [hp] at hf
      have e : df ds ats cs s = (0,2):=by simp [df,h1,hf]
      rw [e]
      repeat' (first|(refine h6H ?_; first|refine ac ?_|refine ah ab J J J J J ?_|(refine h4H ?_; first|refine ag J J J J J J J J (c89 _ _ _) J ?_|refine ag J J J J J J J J (c90 12 s 12 J (by omega)) J ?_|refine ag J J J J J J J J (c91 s 64 (by omega) (by omega)) J ?_|refine ag J J J J J J J J (c92 _) J ?_)|(refine bC ?_; first|refine aM 0 J J J J J J ?_|refine aM 1 J J J J J J ?_))|(refine h7H ?_; first|refine al ?_|refine ae ?_|refine ay ?_|refine am ?_|refine bv J (by assumption) ?_|refine aZ J (by assumption) ?_)|refine ak ?_|refine aC ?_|refine aP ?_|refine ai (.inl J) J J ?_)
      all_goals rfl
 ·have hb1 : (dz ds ats cs != 0) = true:=by simp [h1]
  have e : df ds ats cs s = (0,2):=by simp [df,h1]
  rw [e]
  repeat' (first|(refine h6H ?_; first|refine ac ?_|refine ah ab J J J J J ?_|(refine h4H ?_; refine ag J J J J J J J J (c89 _ _ _) J ?_)|(refine bC ?_; first|refine aM 0 J J J J J J ?_|refine aM 1 J J J J J J ?_))|(refine h7H ?_; first|refine al ?_|refine ae ?_|refine ay ?_|refine am ?_|refine bv J (by assumption) ?_)|refine ak ?_|refine aC ?_|refine aP ?_|refine ai (.inl J) J J ?_)
  all_goals rfl
theorem c19 : CallA Tryz.prog 19 [] [] (.one (.d (.bool true))) []:=LB
end Go.Proofs.YtpejdgkaapnekaaGreat
namespace Go.Proofs.YtpejdgkaapnekaaGreat
open Go Go.Abs
def aS : List Int→Int
 | []=>0
 | d::r=>d + 1000000000 * aS r
def Dw(l : List Int) : Prop:=∀ d∈l,0≤d∧d < 1000000000
def dw(n : Nat) : List Int:=if h : n = 0 then [] else ((n % 1000000000 : Nat) : Int)::dw (n / 1000000000)
 termination_by n
 decreasing_by omega
def pu(k : Nat) : Int:=1000000000 ^ k
theorem jW(k : Nat) : pu (k + 1) = 1000000000 * pu k:=by unfold pu; rw [Int.pow_succ,Int.mul_comm]
theorem tZ : pu 0 = 1:=rfl
theorem oP(k : Nat) : 0 < pu k:=by
 induction k with
 | zero=>decide
 | succ k ih=>rw [jW]; omega
theorem wx(a b : Nat) : pu (a + b) = pu a * pu b:=by unfold pu; rw [Int.pow_add]
theorem rp : ∀ {a b : List Int},aS (a ++ b) = aS a + pu a.length * aS b
 | [],b=>by simp [aS,tZ]
 | d::a,b=>by
   simp only [List.cons_append,aS,rp (a:=a) (b:=b),List.length_cons,jW,Int.mul_add,Int.mul_assoc]
   omega
theorem Dw.cons{d : Int}{r : List Int}(h : Dw (d::r)) : (0≤d∧d < 1000000000)∧Dw r:=⟨h d List.mem_cons_self,fun x hx=>h x (List.mem_cons_of_mem _ hx)⟩
theorem Dw.at{l : List Int}(h : Dw l){i : Nat}(hi : i < l.length) : 0≤at_ l i∧at_ l i < 1000000000:=h _ (ea hi)
theorem Dw.take{l : List Int}(h : Dw l)(n : Nat) : Dw (l.take n):=fun d hd=>h d (List.mem_of_mem_take hd)
theorem Dw.drop{l : List Int}(h : Dw l)(n : Nat) : Dw (l.drop n):=fun d hd=>h d (List.mem_of_mem_drop hd)
theorem jO : ∀ {l : List Int},Dw l→0≤aS l∧aS l < pu l.length
 | [],_=>by simp [aS,tZ]
 | d::r,h=>by
   obtain ⟨h1,h2⟩:=h.cons
   have:=jO h2
   simp only [aS,List.length_cons,jW]
   omega
theorem eN : dw 0 = []:=by rw [dw]; simp
theorem gf{n : Nat}(h : n≠0) : dw n = ((n % 1000000000 : Nat) : Int)::dw (n / 1000000000):=by rw [dw]; simp [h]
theorem fz : ∀ (n : Nat),Dw (dw n)∧aS (dw n) = n∧(dw n = []∨at_ (dw n) ((dw n).length - 1)≠0):=by
 intro n
 induction n using Nat.strongRecOn with
 | _ n ih =>
   by_cases h : n = 0
   ·subst h; rw [eN]; exact ⟨fun d hd=>by simp at hd,rfl,.inl rfl⟩
   ·obtain ⟨i1,i2,i3⟩:=ih (n / 1000000000) (by omega)
    rw [gf h]
    refine ⟨fun d hd=>?_,?_,.inr ?_⟩
    ·rcases List.mem_cons.1 hd with rfl | hd
     ·omega
     ·exact i1 d hd
    ·simp only [aS,i2]; omega
    ·rcases i3 with i3 | i3
     ·rw [i3]
      have h0 : n / 1000000000 = 0:=by rw [i3] at i2; simp only [aS] at i2; omega
      show ((n % 1000000000 : Nat) : Int)≠0
      omega
     ·cases hd : dw (n / 1000000000) with
      | nil =>
        rw [hd] at i2; simp only [aS] at i2
        show ((n % 1000000000 : Nat) : Int)≠0
        omega
      | cons e r =>
        rw [hd] at i3
        show at_ (_::e::r) (r.length + 1)≠0
        exact i3
theorem zq : ∀ {l : List Int},Dw l→(l = []∨at_ l (l.length - 1)≠0)→dw (aS l).toNat = l
 | [],_,_=>by simp [aS,eN]
 | d::r,h,hl=>by
   obtain ⟨h1,h2⟩:=h.cons
   have hb:=(jO h2).1
   have hr : r = []∨at_ r (r.length - 1)≠0:=by
    cases r with
    | nil=>exact .inl rfl
    | cons e s=>exact .inr (by rcases hl with hl | hl; · cases hl
                               ·exact hl)
   have ih:=zq h2 hr
   have hne : aS (d::r)≠0:=by
    intro h0
    simp only [aS] at h0
    have hd : d = 0:=by omega
    have hz : aS r = 0:=by omega
    rw [hz] at ih
    have hr0 : r = []:=by rw [← ih]; simpa using eN
    subst hr0
    rcases hl with hl | hl
    ·cases hl
    ·exact hl hd
   have hn : (aS (d::r)).toNat≠0:=by simp only [aS] at hne ⊢; omega
   rw [gf hn]
   have e1 : (aS (d::r)).toNat / 1000000000 = (aS r).toNat:=by simp only [aS]; omega
   have e2 : (((aS (d::r)).toNat % 1000000000 : Nat) : Int) = d:=by simp only [aS]; omega
   rw [e1,e2,ih]
theorem zg{l : List Int}{k : Nat}(h : Dw l)(hk : k≤l.length)(hv : aS (l.take k) = aS l)(hl : k = 0∨at_ l (k - 1)≠0) : dw (aS l).toNat = l.take k:=by
 rw [← hv]
 refine zq (h.take k) ?_
 rcases hl with hl | hl
 ·subst hl; exact .inl (by simp)
 ·by_cases h0 : k = 0
  ·subst h0; exact .inl (by simp)
  ·refine .inr ?_
   rw [List.length_take,Nat.min_eq_left hk,re (by omega)]
   exact hl
theorem po{l : List Int}{k : Nat}(h : k < l.length) : aS (l.take (k + 1)) = aS (l.take k) + pu k * at_ l k:=by
 rw [gl h,rp,List.length_take,Nat.min_eq_left (by omega)]; simp [aS]
theorem Cf{l : List Int}{k : Nat}(h : k < l.length)(h0 : at_ l k = 0) : aS (l.take (k + 1)) = aS (l.take k):=by rw [po h,h0]; simp
theorem Ej{l : List Int}{k : Nat}{x : Int}(h : k < l.length) : aS (l.set k x) = aS l + pu k * (x - at_ l k):=by
 induction l generalizing k with
 | nil=>simp at h
 | cons d r ih =>
   cases k with
   | zero=>simp only [List.set_cons_zero,aS,tZ]; show _ = _ + 1 * (x - d); omega
   | succ k =>
     have:=ih (k:=k) (by simpa using h)
     simp only [List.set_cons_succ,aS,this,jW,Int.mul_add,Int.mul_assoc]
     show _ = _ + 1000000000 * (pu k * (x - at_ r k))
     omega
theorem Dw.set{l : List Int}{k : Nat}{x : Int}(h : Dw l)(hx : 0≤x∧x < 1000000000) : Dw (l.set k x):=fun d hd=>by
 rcases List.mem_or_eq_of_mem_set hd with hd | rfl
 ·exact h d hd
 ·exact hx
theorem Dw.zeros(n : Nat) : Dw (List.replicate n 0):=fun d hd=>by rw [List.eq_of_mem_replicate hd]; omega
theorem A7(n : Nat) : aS (List.replicate n 0) = 0:=by
 induction n with
 | zero=>rfl
 | succ n ih=>simp [List.replicate_succ,aS,ih]
theorem zh : ∀ {a b : List Int} {k : Nat},Dw a→Dw b→a.length = b.length→k < a.length→(∀ i,k < i→i < a.length→at_ a i = at_ b i)→at_ a k < at_ b k→aS a < aS b
 | x::a,y::b,k,ha,hb,hl,hk,he,h=>by
   obtain ⟨a1,a2⟩:=ha.cons
   obtain ⟨b1,b2⟩:=hb.cons
   have hl' : a.length = b.length:=by simpa using hl
   cases k with
   | zero =>
     have e : a = b:=wQ hl' fun i hi=>he (i + 1) (by omega) (by simpa using hi)
     have h' : x < y:=h
     subst e; simp only [aS]; omega
   | succ k =>
     have:=zh (k:=k) a2 b2 hl' (by simpa using hk) (fun i h1 h2=>he (i + 1) (by omega) (by simpa using h2)) h
     simp only [aS]; omega
 | [],_,k,_,_,_,hk,_,_=>by simp at hk
 | _::_,[],k,_,_,hl,_,_,_=>by simp at hl
theorem xm{a b : List Int}(ha : Dw a)(hb : Dw b)(hn : b = []∨at_ b (b.length - 1)≠0)(hl : a.length < b.length) : aS a < aS b:=by
 have h1:=(jO ha).2
 have hne : b≠[]:=fun e=>by rw [e] at hl; simp at hl
 have hn':=hn.resolve_left hne
 have h2 : aS b = aS (b.take (b.length - 1)) + pu (b.length - 1) * at_ b (b.length - 1):=by
  have:=po (l:=b) (k:=b.length - 1) (by omega)
  rwa [show b.length - 1 + 1 = b.length by omega,List.take_length] at this
 have h3:=(jO (hb.take (b.length - 1))).1
 have h4 : 1≤at_ b (b.length - 1):=by have:=hb.at (i:=b.length - 1) (by omega); omega
 have h5 : pu a.length≤pu (b.length - 1):=by
  obtain ⟨m,hm⟩ : ∃ m,b.length - 1 = a.length + m:=⟨b.length - 1 - a.length,by omega⟩
  rw [hm,wx]
  have:=Int.mul_le_mul_of_nonneg_left (show 1≤pu m by have:=oP m; omega) (Int.le_of_lt (oP a.length))
  omega
 have h6:=Int.mul_le_mul_of_nonneg_left h4 (Int.le_of_lt (oP (b.length - 1)))
 omega
end Go.Proofs.YtpejdgkaapnekaaGreat
namespace Go.Proofs.YtpejdgkaapnekaaGreat
open Go Go.Abs
attribute [local irreducible] ao OkC aU bg aV bA
set_option maxRecDepth 10000
def b8(n : Nat) : D:=cY (dw n)
theorem iY{n : Nat}(h : n < 1000000000000000000) : cU (n : Int) = dw n:=by
 unfold cU
 by_cases h0 : n = 0
 ·subst h0; rw [eN]; rfl
 ·rw [if_neg (by omega),gf h0]
  by_cases h1 : n < 1000000000
  ·rw [if_pos (by omega),show n / 1000000000 = 0 by omega,eN,show n % 1000000000 = n by omega]
  ·rw [if_neg (by omega),gf (n:=n / 1000000000) (by omega),show n / 1000000000 / 1000000000 = 0 by omega,eN,show n / 1000000000 % 1000000000 = n / 1000000000 by omega]
   rfl
theorem AH(n : Nat)(hn : n < 1000000000000000000) : CallA Tryz.prog 268 [.one (.d (.int .u64 n))] [] (.one (.d (b8 n))) []:=by
 have:=tf (n : Int) (by omega) (by omega)
 rwa [iY hn] at this
theorem Ey(v : Int)(n : Nat)(hv : v = (n : Int))(hn : n < 1000000000000000000) : CallA Tryz.prog 268 [.one (.d (.int .u64 v))] [] (.one (.d (b8 n))) []:=by
 subst hv; exact AH n hn
theorem pQ(l : List Int)(i : Nat)(h : Dw l) : CallA Tryz.prog 342 [.one (.d (cY l)),.one (.d (.int .i64 i))] [] (.one (.d (.int .u64 (at_ l i)))) []:=Dv l i h
theorem LO(l : List Int)(h : Dw l) : CallA Tryz.prog 344 [.one (.d (cY l))] [] (.one (.d (b8 (aS l).toNat))) []:=by
 refine enter ab Tryz.func344 rfl (by decide +kernel) rfl fun hok w0 σ0 φ0 M=>?_
 have h1:=(OkD.sl hok.1).1
 clear hok
 simp only [List.length_map] at h1
 repeat' (first|(refine h6H ?_; first|(refine CO ?_; refine s_e aa J J J (mG J J J J J (by first|omega|((try simp only [a0A,a1A,a2A,a3A,a4A,a5A,a6A,a7A,a8A,a9A,au,av] at *); omega)) (by first|omega|((try simp only [a0A,a1A,a2A,a3A,a4A,a5A,a6A,a7A,a8A,a9A,au,av] at *); omega))) ?_)|(refine h3H ?_; refine s_e aa J J J (ar J J J J J (by first|omega|((try simp only [a0A,a1A,a2A,a3A,a4A,a5A,a6A,a7A,a8A,a9A,au,av] at *); omega)) (xl hr hk (by first|omega|((try simp only [a0A,a1A,a2A,a3A,a4A,a5A,a6A,a7A,a8A,a9A,au,av] at *); omega)))) ?_)|refine ac ?_|refine ah ab J J J J J ?_|(refine h0H ?_; first|refine aT J J (by first|assumption|rfl) ?_|refine bH J J (by first|assumption|rfl) J J ?_|refine bn J J J J (fun h=>?_) (fun h=>?_))|(refine fY ?_; refine s_e aa J J J (bW J J J J (aN (by omega) (by omega))) ?_)|(refine h2H ?_; first|refine s_e aa J J J (aF J J (by first|rfl|assumption) J) ?_|refine s_e aa J J J (az J J (by first|rfl|assumption) J) ?_))|(refine h7H ?_; first|refine al ?_|refine ae ?_|refine ay ?_|refine aw ?_|refine am ?_|refine aW ?_|refine bm J ?_|refine aA J (fun h=>?_) (fun h=>?_)|refine bk 1 J [] ap (fun (p : Nat×List (List D))=>[(0,.one (.d (.sl 1 4 p.2)))]) (fun (p : Nat×List (List D))=>p.1≤l.length∧p.2.length = p.1∧p.2 = (l.map aE).take p.1∧aS (l.take p.1) = aS l) (fun (p : Nat×List (List D))=>p.1) (l.length,l.map aE) (q1Q J) ?_ (fun p ⟨hk,hq,hr,hv⟩=>?_))|(show Exists _; refine Exists.intro ((p.1 - 1,p.2.take (Int.toNat ((p.2.length : Int) - 1)))) ⟨?_,?_,(by (repeat' first|exact ap|refine af J ?_); done),(q1Q J),ap⟩)|refine ak ?_|refine bd ?_|refine aG ?_|refine aX J ?_|refine ai (.inl J) J J ?_)
 ·exact ⟨Nat.le_refl _,by simp,(List.take_of_length_le (by simp)).symm,by simp⟩
 ·have e : ((p.2.length : Int) - 1).toNat = p.1 - 1:=by omega
  have h0 : (0 : Int) < (p.2.length : Int):=of_decide_eq_true ‹decide (_ < _) = true›
  have hz:=Cf (l:=l) (k:=p.1 - 1) (by omega) (by rw [← e]; simpa using h)
  rw [show p.1 - 1 + 1 = p.1 by omega] at hz
  refine ⟨by show p.1 - 1≤_; omega,?_,?_,?_⟩
  ·show (p.2.take _).length = p.1 - 1
   rw [e]; simp; omega
  ·show p.2.take _ = (l.map aE).take (p.1 - 1)
   rw [e,hr,List.take_take,Nat.min_eq_left (by omega)]
  ·show aS (l.take (p.1 - 1)) = _
   rw [← hz,hv]
 ·have h0 : (0 : Int) < (p.2.length : Int):=of_decide_eq_true ‹decide (_ < _) = true›
  show p.1 - 1 < p.1
  omega
 ·have e : ((p.2.length : Int) - 1).toNat = p.1 - 1:=by omega
  show AV.one (.d (.sl 1 4 p.2)) = AV.one (.d (.sl 1 4 ((dw (aS l).toNat).map aE)))
  rw [zg ‹Dw l› hk hv (.inr (by rw [← e]; simpa using h)),hr,List.map_take]
 ·have h0 : ¬ (0 : Int) < (p.2.length : Int):=of_decide_eq_false (by simpa using h)
  show AV.one (.d (.sl 1 4 p.2)) = AV.one (.d (.sl 1 4 ((dw (aS l).toNat).map aE)))
  rw [zg ‹Dw l› hk hv (.inl (by omega)),hr,List.map_take]
theorem nH{m n : Nat}(h : (dw m).length < (dw n).length) : m < n:=by
 obtain ⟨a1,a2,a3⟩:=fz m
 obtain ⟨b1,b2,b3⟩:=fz n
 have:=xm a1 b1 b3 h
 omega
theorem Cg{m n : Nat}{k : Nat}(hl : (dw m).length = (dw n).length)(hk : k < (dw m).length)(he : ∀ i,k < i→i < (dw m).length→at_ (dw m) i = at_ (dw n) i)(h : at_ (dw m) k < at_ (dw n) k) : m < n:=by
 obtain ⟨a1,a2,a3⟩:=fz m
 obtain ⟨b1,b2,b3⟩:=fz n
 have:=zh a1 b1 hl hk he h
 omega
theorem FK{m n : Nat}(hl : (dw m).length = (dw n).length)(he : ∀ i,i < (dw m).length→at_ (dw m) i = at_ (dw n) i) : m = n:=by
 have e : dw m = dw n:=List.ext_getElem hl fun i h1 h2=>by
  have:=he i h1
  simpa [at_,h1,h2] using this
 have a:=(fz m).2.1
 have b:=(fz n).2.1
 rw [e] at a
 omega
theorem vk(m n : Nat) : CallA Tryz.prog 265 [.one (.d (b8 m)),.one (.d (b8 n))] [] (.one (.d (.int .i64 (gR m n)))) []:=by
 refine enter ab Tryz.func265 rfl (by decide +kernel) rfl fun hok w0 σ0 φ0 M=>?_
 have h1:=(OkD.sl hok.1).1
 clear hok
 simp only [List.length_map] at h1
 repeat' (first|(refine h6H ?_; first|refine ac ?_|refine ah ab J J J J J ?_|(refine fY ?_; first|refine s_e aa J J J (bW J J J J (aN (by omega) (by omega))) ?_|refine s_e aa J J J (bW J J J J (aN (by first|omega|((try simp only [a0A,a1A,a2A,a3A,a4A,a5A,a6A,a7A,a8A,a9A,au,av] at *); omega)) (by first|omega|((try simp only [a0A,a1A,a2A,a3A,a4A,a5A,a6A,a7A,a8A,a9A,au,av] at *); omega)))) ?_))|(refine h7H ?_; first|refine al ?_|refine ae ?_|refine ay ?_|refine aw ?_|refine am ?_|refine aW ?_|refine aA J (fun h=>?_) (fun h=>?_)|refine aR progOk.mo ?_|refine bk 6 J [(0,_),(1,_)] (q2Q J J) (fun (p : Int)=>[(5,.one (.d (.int .i64 p)))]) (fun (p : Int)=>-1≤p∧p < ((dw m).length : Int)∧(∀ i : Nat,p < (i : Int)→i < (dw m).length→at_ (dw m) i = at_ (dw n) i)) (fun (p : Int)=>(p + 1).toNat) ((((dw m).map aE).length : Int) - 1) (q1Q J) ?_ (fun p ⟨hk,hk2,hs⟩=>?_))|(refine bP ?_; first|refine bG (by kernel_rfl) ?_|refine d_e aa J J J (aK J J) ?_|(refine h8H ?_; refine d_e aa J J J (ar J J J J J (by first|omega|((try simp only [a0A,a1A,a2A,a3A,a4A,a5A,a6A,a7A,a8A,a9A,au,av] at *); omega)) (aJ (by first|omega|((try simp only [a0A,a1A,a2A,a3A,a4A,a5A,a6A,a7A,a8A,a9A,au,av] at *); omega)))) ?_))|(show Exists _; refine Exists.intro ((p - 1)) ⟨?_,?_,(by (repeat' first|exact ap|refine af J ?_); done),(q1Q J),(q2Q J J)⟩)|refine ak ?_|refine aC ?_|refine bd ?_|refine aG ?_|refine aP ?_|refine aX J ?_|refine ai (.inl J) J J ?_)
 ·rw [hJ (nH (Ch h))]
 ·rw [hU (nH (by
   have h2:=Ci ‹_›
   have:=Cj h; omega))]
 ·simp only [List.length_map]; exact ⟨by omega,by omega,fun i h2 h3=>by omega⟩
 ·have hl:=mW ‹_›
  have h0 : 0≤p:=of_decide_eq_true ‹decide (0≤p) = true›
  rw [hJ (Cg hl (k:=p.toNat) (by omega) (fun i h2 h3=>hs i (by omega) h3) (of_decide_eq_true h))]
 ·have hl:=mW ‹_›
  have h0 : 0≤p:=of_decide_eq_true ‹decide (0≤p) = true›
  rw [hU (Cg hl.symm (k:=p.toNat) (by omega) (fun i h2 h3=>(hs i (by omega) (by omega)).symm) (of_decide_eq_true h))]
 ·have h0 : 0≤p:=of_decide_eq_true ‹decide (0≤p) = true›
  have hge:=of_decide_eq_false ‹decide (at_ (dw m) p.toNat < at_ (dw n) p.toNat) = false›
  have hle:=of_decide_eq_false h
  have he : at_ (dw m) p.toNat = at_ (dw n) p.toNat:=by omega
  refine ⟨by omega,by omega,fun i h2 h3=>?_⟩
  rcases Int.lt_or_le p (i : Int) with h4 | h4
  ·exact hs i h4 h3
  ·have : i = p.toNat:=by omega
   rw [this,he]
 ·have h0 : 0≤p:=of_decide_eq_true ‹decide (0≤p) = true›
  omega
 ·have hl:=mW ‹_›
  have h0 : ¬ 0≤p:=of_decide_eq_false h
  rw [jK (FK hl fun i h2=>hs i (by omega) h2)]
end Go.Proofs.YtpejdgkaapnekaaGreat
namespace Go.Proofs.YtpejdgkaapnekaaGreat
open Go Go.Abs
attribute [local irreducible] ao OkC aU bg aV bA
set_option maxRecDepth 10000
theorem Dw.at'{l : List Int}(h : Dw l)(i : Nat) : 0≤at_ l i∧at_ l i < 1000000000:=by
 by_cases hi : i < l.length
 ·exact h.at hi
 ·rw [iz (Nat.le_of_not_lt hi)]; omega
theorem Dw.app{l : List Int}{d : Int}(h : Dw l)(hd : 0≤d∧d < 1000000000) : Dw (l ++ [d]):=fun x hx=>by
 rcases List.mem_append.1 hx with hx | hx
 ·exact h x hx
 ·rw [List.mem_singleton.1 hx]; exact hd
theorem uK{l : List Int}{d : Int} : aS (l ++ [d]) = aS l + pu l.length * d:=by rw [rp]; simp [aS]
theorem ig{l : List Int}{k : Nat} : aS (l.take (k + 1)) = aS (l.take k) + pu k * at_ l k:=by
 by_cases h : k < l.length
 ·exact po h
 ·rw [iz (Nat.le_of_not_lt h),List.take_of_length_le (by omega),List.take_of_length_le (by omega)]; simp
theorem HG{L : List Int}{R : List (List D)}{i : Nat}{d : Int}(hr : R = L.map aE)(hl : L.length = i) : R.take i ++ [[.int .u32 d]] = (L ++ [d]).map aE:=by
 rw [hr,List.take_of_length_le (by simp; omega),List.map_append]; rfl
theorem EG{L : List Int}{R : List (List D)}{i : Nat}(hr : R = L.map aE)(hl : L.length = i) : R.take i = L.map aE:=by
 rw [hr,List.take_of_length_le (by simp; omega)]
theorem rR(ys : List (List D))(l : List Int)(m : Nat)(hy : ys = l.map aE)(h : Dw l)(hm : (aS l).toNat = m) : CallA Tryz.prog 344 [.one (.d (.sl 1 4 ys))] [] (.one (.d (b8 m))) []:=by
 subst hy; subst hm; exact LO l h
theorem FQ{X Y L : List Int}{R : List (List D)}{i : Nat}{c s : Int}(hs : s = at_ X i + at_ Y i + c)(hr : R = L.map aE)(hl : L.length = i)(hL : Dw L)(hc : 0≤c∧c≤1)(hX : Dw X)(hY : Dw Y)(hv : aS L + pu i * c = aS (X.take i) + aS (Y.take i)) :
  R.take i ++ [[.int .u32 (s % 1000000000)]] = (L ++ [s % 1000000000]).map aE∧(L ++ [s % 1000000000]).length = i + 1∧Dw (L ++ [s % 1000000000])∧(0≤s / 1000000000∧s / 1000000000≤1)∧(0≤at_ X (i + 1)∧at_ X (i + 1) < 1000000000)∧(0≤at_ Y (i + 1)∧at_ Y (i + 1) < 1000000000) ∧
  aS (L ++ [s % 1000000000]) + pu (i + 1) * (s / 1000000000) = aS (X.take (i + 1)) + aS (Y.take (i + 1)):=by
 have hx:=hX.at' i
 have hy:=hY.at' i
 refine ⟨HG hr hl,by simp [hl],hL.app (by omega),by omega,hX.at' _,hY.at' _,?_⟩
 rw [uK,ig,ig,hl,jW]
 have e3 : s % 1000000000 = s - 1000000000 * (s / 1000000000):=by omega
 rw [e3]
 generalize s / 1000000000 = q
 rw [hs]
 have e7 : pu i * (at_ X i + at_ Y i + c - 1000000000 * q) = pu i * at_ X i + pu i * at_ Y i + pu i * c - 1000000000 * pu i * q:=by
  simp only [Int.mul_sub,Int.mul_add]
  rw [← Int.mul_assoc,Int.mul_comm (pu i) 1000000000]
 rw [e7]
 omega
theorem HH{X Y L : List Int}{i : Nat}{c : Int}(h1 : X.length≤i)(h2 : Y.length≤i)(h3 : ¬ 0 < c)(hc : 0≤c∧c≤1)(hv : aS L + pu i * c = aS (X.take i) + aS (Y.take i)) : (aS L).toNat = (aS X + aS Y).toNat:=by
 have e : c = 0:=by omega
 rw [e,List.take_of_length_le h1,List.take_of_length_le h2] at hv
 rw [← hv]; simp
theorem FR{X Y L : List Int}{R : List (List D)}{i : Nat}{b s : Int}(hs : s = at_ X i + 1000000000 - at_ Y i - b)(hr : R = L.map aE)(hl : L.length = i)(hL : Dw L)(hb : 0≤b∧b≤1)(hX : Dw X)(hY : Dw Y)(hv : aS L = aS (X.take i) - aS (Y.take i) + pu i * b) :
  R.take i ++ [[.int .u32 (s % 1000000000)]] = (L ++ [s % 1000000000]).map aE∧(L ++ [s % 1000000000]).length = i + 1∧Dw (L ++ [s % 1000000000])∧(0≤1 - s / 1000000000∧1 - s / 1000000000≤1)∧(0≤at_ X (i + 1)∧at_ X (i + 1) < 1000000000)∧(0≤at_ Y (i + 1)∧at_ Y (i + 1) < 1000000000) ∧
  aS (L ++ [s % 1000000000]) = aS (X.take (i + 1)) - aS (Y.take (i + 1)) + pu (i + 1) * (1 - s / 1000000000):=by
 have hx:=hX.at' i
 have hy:=hY.at' i
 refine ⟨HG hr hl,by simp [hl],hL.app (by omega),by omega,hX.at' _,hY.at' _,?_⟩
 rw [uK,ig,ig,hl,jW,hv]
 have e3 : s % 1000000000 = s - 1000000000 * (s / 1000000000):=by omega
 rw [e3]
 generalize s / 1000000000 = q
 rw [hs]
 have e7 : pu i * (at_ X i + 1000000000 - at_ Y i - b - 1000000000 * q) = pu i * at_ X i + 1000000000 * pu i - pu i * at_ Y i - pu i * b - 1000000000 * pu i * q:=by
  simp only [Int.mul_sub,Int.mul_add]
  rw [← Int.mul_assoc,Int.mul_comm (pu i) 1000000000]
 have e8 : 1000000000 * pu i * (1 - q) = 1000000000 * pu i - 1000000000 * pu i * q:=by rw [Int.mul_sub,Int.mul_one]
 rw [e7,e8]
 omega
theorem HI{X Y L : List Int}{i : Nat}{b : Int}(h1 : X.length≤i)(h2 : Y.length≤X.length)(hle : aS Y≤aS X)(hl : L.length = i)(hi : i≤X.length)(hX : Dw X)(hL : Dw L)(hb : 0≤b∧b≤1)(hv : aS L = aS (X.take i) - aS (Y.take i) + pu i * b) : (aS L).toNat = (aS X - aS Y).toNat:=by
 have e : i = X.length:=by omega
 subst e
 rw [List.take_of_length_le (Nat.le_refl _),List.take_of_length_le h2] at hv
 have hbd:=jO hL
 rw [hl] at hbd
 have hb' : b = 0∨b = 1:=by omega
 rcases hb' with rfl | rfl
 ·rw [hv]; simp
 ·exfalso; rw [Int.mul_one] at hv; omega
set_option maxHeartbeats 1000000 in
theorem ID(X Y : List Int)(hX : Dw X)(hY : Dw Y)(hn : X.length≤400)(hm : Y.length≤400) : CallA Tryz.prog 288 [.one (.d (cY X)),.one (.d (cY Y))] [] (.one (.d (b8 (aS X + aS Y).toNat))) []:=by
 refine enter ab Tryz.func288 rfl (by decide +kernel) rfl fun hok w0 σ0 φ0 M=>?_
 clear hok
 repeat' (first|(refine h6H ?_; first|(refine h4H ?_; refine dL 40 [10] J J J J J J J J J (rR _ p.2.2.1 _ (EG hr hl) hL (HH (by simpa using ‹decide ((p.1 : Int) < ((X.map aE).length : Int)) = false›) (by simpa using ‹decide ((p.1 : Int) < ((Y.map aE).length : Int)) = false›) (of_decide_eq_false ‹decide (0 < p.2.1) = false›) hc hv)) J J J ?_)|refine ac ?_|refine ah ab J J J J J ?_|(refine h4H ?_; refine dY ab J J J J J J J J J J J J J (by first|omega|((try simp only [a0A,a1A,a5A,nI,nJ,oM,oN,oO,nC] at *); omega)) (by first|exact Nat.le_of_ble_eq_true rfl|omega|((try simp only [a0A,a1A,a5A,nI,nJ,oM,oN,oO,nC] at *); omega)) (Nat.le_of_ble_eq_true J) ?_)|(refine h0H ?_; first|refine aT J J (by first|assumption|rfl) ?_|refine bH J J (by first|assumption|rfl) J J ?_|refine bn J J J J (fun h=>?_) (fun h=>?_))|(refine h1H ?_; first|refine s_e aa J J J (aL J J J J (aN (by omega) (by omega))) ?_|refine s_e aa J J J (aL J J J J (cJ (by omega) (by omega))) ?_)|(refine tG ?_; refine s_e aa J J J (f8 J J J J (by omega) (by omega)) ?_)|(refine qW ?_; refine s_e aa J J J (fg J J J J (by omega) (by omega) (cJ (by omega) (by omega))) ?_)|(refine fH ?_; refine s_e aa J J J (c7 J J J J (iZ (by omega) (by omega))) ?_)|(refine h2H ?_; first|refine s_e aa J J J (aF J J (by first|rfl|assumption) J) ?_|refine s_e aa J J J (az J J (by first|rfl|assumption) J) ?_)|(refine h4H ?_; first|refine ag J J J J J J J J (pQ _ _ hX) J ?_|refine ag J J J J J J J J (pQ _ _ hY) J ?_)|refine cj aa 0 J J J J J J ?_)|(refine h7H ?_; first|refine al ?_|refine ae ?_|refine ay ?_|refine aw ?_|refine am ?_|refine aW ?_|refine bc J ?_|refine aA J (fun h=>?_) (fun h=>?_)|refine sU 4 J (lF (s:=5) (id:=10) (k:=1) (b:=4) J J J J) [(0,_),(1,_)] (q2Q J J) (fun (bN : Bool×Bool) (p : Nat×Int×List Int×List (List D))=>[(5,.one (.own 10 p.1)),(6,.one (.d (.int .u64 p.2.1))),(7,.one (.d (.int .i64 (p.1 : Int))))]) (fun (bN : Bool×Bool) (p : Nat×Int×List Int×List (List D))=>[(10,.row 1 4 p.2.2.2)]) (fun (p : Nat×Int×List Int×List (List D))=>p.2.2.2 = p.2.2.1.map aE∧p.2.2.1.length = p.1∧Dw p.2.2.1∧(0≤p.2.1∧p.2.1≤1)∧(0≤at_ X p.1∧at_ X p.1 < 1000000000)∧(0≤at_ Y p.1∧at_ Y p.1 < 1000000000)∧aS p.2.2.1 + pu p.1 * p.2.1 = aS (X.take p.1) + aS (Y.take p.1)∧(p.1 : Int) + p.2.1≤401) (fun (p : Nat×Int×List Int×List (List D))=>402 - p.1) (0,0,[],[]) (q3Q J J J) (by (repeat' first|exact ap|refine af J ?_); done) (fun b y=>by obtain ⟨b1,b2⟩:=b; cases b1 <;> cases b2 <;> first|exact Imp.refl _|exact sS qN (by kernel_rfl)) ?_ (fun p ⟨hr,hl,hL,hc,hx,hy,hv,hi⟩=>?_))|(show Exists _; refine Exists.intro ((p.1 + 1,(at_ X p.1 + at_ Y p.1 + p.2.1) / 1000000000,p.2.2.1 ++ [(at_ X p.1 + at_ Y p.1 + p.2.1) % 1000000000],p.2.2.2.take p.1 ++ [[.int .u32 ((at_ X p.1 + at_ Y p.1 + p.2.1) % 1000000000)]])) (Exists.intro (false,false) ⟨?_,?_,(by (repeat' first|exact ap|refine af J ?_); done),(q3Q J J J),(q2Q J J)⟩))|refine ak ?_|refine bd ?_|refine aG ?_|refine aX J ?_|refine ai (.inl J) J J ?_)
 ·exact ⟨rfl,rfl,fun d hd=>by simp at hd,⟨Int.le_refl _,by show (0 : Int)≤1; omega⟩,hX.at' _,hY.at' _,by simp [aS],by show ((0 : Nat) : Int) + 0≤401; omega⟩
 all_goals first
  | (obtain ⟨q1,q2,q3,q4,q5,q6,q7⟩:=FQ (s:=at_ X p.1 + at_ Y p.1 + p.2.1) rfl hr hl hL hc hX hY hv
     refine ⟨q1,q2,q3,q4,q5,q6,q7,?_⟩
     show ((p.1 + 1 : Nat) : Int) + (at_ X p.1 + at_ Y p.1 + p.2.1) / 1000000000≤401
     have hz : X.length≤p.1→at_ X p.1 = 0:=iz
     have hz2 : Y.length≤p.1→at_ Y p.1 = 0:=iz
     simp only [a4A,a3A,a0A,a1A,a5A] at *
     have h5 : p.1 < X.length∨X.length≤p.1:=Nat.lt_or_ge _ _
     have h6 : p.1 < Y.length∨Y.length≤p.1:=Nat.lt_or_ge _ _
     rcases h5 with h5 | h5
     ·omega
     ·rcases h6 with h6 | h6
      ·omega
      ·have:=hz h5; have:=hz2 h6; omega)
  | (show 402 - (p.1 + 1) < 402 - p.1
     omega)
  | rfl
  | skip
set_option maxHeartbeats 1000000 in
theorem IE(X Y : List Int)(hX : Dw X)(hY : Dw Y)(hn : X.length≤400)(hxy : Y.length≤X.length)(hle : aS Y≤aS X) : CallA Tryz.prog 346 [.one (.d (cY X)),.one (.d (cY Y))] [] (.one (.d (b8 (aS X - aS Y).toNat))) []:=by
 refine enter ab Tryz.func346 rfl (by decide +kernel) rfl fun hok w0 σ0 φ0 M=>?_
 clear hok
 repeat' (first|(refine h6H ?_; first|(refine h4H ?_; refine dL 40 [10] J J J J J J J J J (rR _ p.2.2.1 _ (EG hr hl) hL (HI (by simpa using h) hxy hle hl hi hX hL hc hv)) J J J ?_)|refine ac ?_|refine ah ab J J J J J ?_|(refine h4H ?_; refine dY ab J J J J J J J J J J J J J (by first|omega|((try simp only [a0A,a1A,a5A,nI,nJ,oM,oN,oO,nC] at *); omega)) (by first|exact Nat.le_of_ble_eq_true rfl|omega|((try simp only [a0A,a1A,a5A,nI,nJ,oM,oN,oO,nC] at *); omega)) (Nat.le_of_ble_eq_true J) ?_)|(refine h1H ?_; first|refine s_e aa J J J (aL J J J J (aN (by omega) (by omega))) ?_|refine s_e aa J J J (aL J J J J (cJ (by omega) (by omega))) ?_)|(refine fY ?_; refine s_e aa J J J (bW J J J J (cJ (by omega) (by omega))) ?_)|(refine tG ?_; refine s_e aa J J J (f8 J J J J (by omega) (by omega)) ?_)|(refine qW ?_; refine s_e aa J J J (fg J J J J (by omega) (by omega) (cJ (by omega) (by omega))) ?_)|(refine fH ?_; refine s_e aa J J J (c7 J J J J (iZ (by omega) (by omega))) ?_)|(refine h4H ?_; first|refine ag J J J J J J J J (pQ _ _ hX) J ?_|refine ag J J J J J J J J (pQ _ _ hY) J ?_)|refine cj aa 0 J J J J J J ?_)|(refine h7H ?_; first|refine al ?_|refine ae ?_|refine ay ?_|refine aw ?_|refine am ?_|refine aW ?_|refine aA J (fun h=>?_) (fun h=>?_)|refine sU 4 J (lF (s:=5) (id:=10) (k:=1) (b:=4) J J J J) [(0,_),(1,_)] (q2Q J J) (fun (bN : Bool×Bool) (p : Nat×Int×List Int×List (List D))=>[(5,.one (.own 10 p.1)),(6,.one (.d (.int .u64 p.2.1))),(7,.one (.d (.int .i64 (p.1 : Int))))]) (fun (bN : Bool×Bool) (p : Nat×Int×List Int×List (List D))=>[(10,.row 1 4 p.2.2.2)]) (fun (p : Nat×Int×List Int×List (List D))=>p.2.2.2 = p.2.2.1.map aE∧p.2.2.1.length = p.1∧Dw p.2.2.1∧(0≤p.2.1∧p.2.1≤1)∧(0≤at_ X p.1∧at_ X p.1 < 1000000000)∧(0≤at_ Y p.1∧at_ Y p.1 < 1000000000)∧aS p.2.2.1 = aS (X.take p.1) - aS (Y.take p.1) + pu p.1 * p.2.1∧p.1≤X.length) (fun (p : Nat×Int×List Int×List (List D))=>X.length - p.1) (0,0,[],[]) (q3Q J J J) (by (repeat' first|exact ap|refine af J ?_); done) (fun b y=>by obtain ⟨b1,b2⟩:=b; cases b1 <;> cases b2 <;> first|exact Imp.refl _|exact sS qN (by kernel_rfl)) ?_ (fun p ⟨hr,hl,hL,hc,hx,hy,hv,hi⟩=>?_))|(show Exists _; refine Exists.intro ((p.1 + 1,1 - (at_ X p.1 + 1000000000 - at_ Y p.1 - p.2.1) / 1000000000,p.2.2.1 ++ [(at_ X p.1 + 1000000000 - at_ Y p.1 - p.2.1) % 1000000000],p.2.2.2.take p.1 ++ [[.int .u32 ((at_ X p.1 + 1000000000 - at_ Y p.1 - p.2.1) % 1000000000)]])) (Exists.intro (false,false) ⟨?_,?_,(by (repeat' first|exact ap|refine af J ?_); done),(q3Q J J J),(q2Q J J)⟩))|refine ak ?_|refine bd ?_|refine aG ?_|refine aX J ?_|refine ai (.inl J) J J ?_)
 ·exact ⟨rfl,rfl,fun d hd=>by simp at hd,⟨Int.le_refl _,by show (0 : Int)≤1; omega⟩,hX.at' _,hY.at' _,by simp [aS],Nat.zero_le _⟩
 ·have hlt : p.1 < X.length:=by simpa using h
  obtain ⟨q1,q2,q3,q4,q5,q6,q7⟩:=FR (s:=at_ X p.1 + 1000000000 - at_ Y p.1 - p.2.1) rfl hr hl hL hc hX hY hv
  exact ⟨q1,q2,q3,q4,q5,q6,q7,hlt⟩
 ·have hlt : p.1 < X.length:=by simpa using h
  show X.length - (p.1 + 1) < X.length - p.1
  omega
 ·rfl
theorem GU(m n : Nat)(hm : (dw m).length≤400)(hn : (dw n).length≤400) : CallA Tryz.prog 288 [.one (.d (b8 m)),.one (.d (b8 n))] [] (.one (.d (b8 (m + n)))) []:=by
 obtain ⟨a1,a2,a3⟩:=fz m
 obtain ⟨b1,b2,b3⟩:=fz n
 have:=ID (dw m) (dw n) a1 b1 hm hn
 rwa [a2,b2,show ((m : Int) + (n : Int)).toNat = m + n by omega] at this
theorem DB(m n : Nat)(hm : (dw m).length≤400)(h : n≤m) : CallA Tryz.prog 346 [.one (.d (b8 m)),.one (.d (b8 n))] [] (.one (.d (b8 (m - n)))) []:=by
 obtain ⟨a1,a2,a3⟩:=fz m
 obtain ⟨b1,b2,b3⟩:=fz n
 have hl : (dw n).length≤(dw m).length:=by
  refine Nat.le_of_not_lt fun hc=>?_
  have:=nH hc; omega
 have:=IE (dw m) (dw n) a1 b1 hm hl (by omega)
 rwa [a2,b2,show ((m : Int) - (n : Int)).toNat = m - n by omega] at this
end Go.Proofs.YtpejdgkaapnekaaGreat
namespace Go.Proofs.YtpejdgkaapnekaaGreat
open Go Go.Abs
attribute [local irreducible] ao OkC aU bg aV bA
set_option maxRecDepth 10000
def tmT(o x y c : Int) : Int:=IntKind.u64.wrap (IntKind.u64.wrap (IntKind.u64.wrap o + IntKind.u64.wrap (IntKind.u64.wrap x * y)) + c)
theorem Ei(v : Int) : 0≤IntKind.u64.wrap v∧IntKind.u64.wrap v < 18446744073709551616:=by
 show 0≤v % 18446744073709551616∧v % 18446744073709551616 < 18446744073709551616
 omega
theorem Mf(v : Int) : IntKind.u64.wrap (IntKind.u64.wrap v / 1000000000) = IntKind.u64.wrap v / 1000000000:=by
 have:=Ei v
 exact c3 (by omega) (by omega)
theorem F6{x y : Int}(hx : 0≤x∧x < 1000000000)(hy : 0≤y∧y < 1000000000) : 0≤x * y∧x * y≤999999998000000001:=by
 have h1 : x≤999999999:=by omega
 have h2 : y≤999999999:=by omega
 exact ⟨Int.mul_nonneg hx.1 hy.1,Int.le_trans (Int.mul_le_mul h1 h2 hy.1 (by omega)) (by decide)⟩
theorem HR{o x y c : Int}(ho : 0≤o∧o < 1000000000)(hx : 0≤x∧x < 1000000000)(hy : 0≤y∧y < 1000000000)(hc : 0≤c∧c < 1000000000) : tmT o x y c = o + x * y + c∧0≤o + x * y + c∧o + x * y + c < 1000000000000000000:=by
 have h:=F6 hx hy
 unfold tmT
 rw [c3 hx.1 (by omega),c3 ho.1 (by omega),c3 h.1 (by omega),c3 (v:=o + x * y) (by omega) (by omega),c3 (by omega) (by omega)]
 omega
theorem zo{X Y L : List Int}{R : List (List D)}{i k : Nat}{c V T : Int}(hT : T = tmT (at_ L (i + k)) (at_ X i) (at_ Y k) c)(hX : Dw X)(hY : Dw Y)(hi : i < X.length)(hr : R = L.map aE)(hl : R.length = X.length + Y.length)(hL : Dw L)(hc : 0≤c∧c < 1000000000)
  (hk : k < Y.length∨k = Y.length∧0 < c) (hz : ∀ t,i + Y.length≤t→i + k≤t→at_ L t = 0) (hv : aS L + pu (i + k) * c = V + pu i * (at_ X i * aS (Y.take k))) :
  R.set (i + k) [.int .u32 (T % 1000000000)] = (L.set (i + k) (T % 1000000000)).map aE∧(R.set (i + k) [.int .u32 (T % 1000000000)]).length = X.length + Y.length∧Dw (L.set (i + k) (T % 1000000000))∧(0≤T / 1000000000∧T / 1000000000 < 1000000000) ∧
  k + 1≤Y.length + 1∧(k + 1≤Y.length∨T / 1000000000 = 0)∧(∀ t,i + Y.length≤t→i + (k + 1)≤t→at_ (L.set (i + k) (T % 1000000000)) t = 0) ∧
  aS (L.set (i + k) (T % 1000000000)) + pu (i + (k + 1)) * (T / 1000000000) = V + pu i * (at_ X i * aS (Y.take (k + 1))):=by
 have hLl : L.length = X.length + Y.length:=jq hr hl
 have hik : i + k < L.length:=by omega
 obtain ⟨e,h0,h1⟩:=HR (hL.at hik) (hX.at hi) (hY.at' k) hc
 rw [← hT] at e
 refine ⟨eL hr,by simpa using hl,hL.set (by omega),by omega,by omega,?_,fun t h1 h2=>by rw [ep (by omega)]; exact hz t h1 (by omega),?_⟩
 ·rcases hk with hk | ⟨hk,hk2⟩
  ·exact .inl hk
  ·refine .inr ?_
   rw [hz (i + k) (by omega) (by omega),iz (l:=Y) (by omega),Int.mul_zero] at e
   omega
 rw [Ej hik,ig,show i + (k + 1) = (i + k) + 1 by omega,jW]
 have e3 : T % 1000000000 = T - 1000000000 * (T / 1000000000):=by omega
 rw [e3]
 generalize T / 1000000000 = q
 rw [e]
 generalize hxy : at_ X i * at_ Y k = xy
 have e5 : pu i * (at_ X i * (aS (Y.take k) + pu k * at_ Y k)) = pu i * (at_ X i * aS (Y.take k)) + pu (i + k) * xy:=by
  rw [← hxy,Int.mul_add,Int.mul_add,wx,Int.mul_assoc (pu i) (pu k),Int.mul_left_comm (at_ X i) (pu k)]
 rw [e5]
 generalize pu (i + k) = P at hv ⊢
 have e7 : P * (at_ L (i + k) + xy + c - 1000000000 * q - at_ L (i + k)) = P * xy + P * c - 1000000000 * P * q:=by
  rw [show at_ L (i + k) + xy + c - 1000000000 * q - at_ L (i + k) = xy + c - 1000000000 * q by omega]
  simp only [Int.mul_sub,Int.mul_add]
  rw [← Int.mul_assoc,Int.mul_comm P 1000000000]
 rw [e7]
 omega
theorem HS{X Y L : List Int}{R : List (List D)}{i k : Nat}{c V : Int}(hi : i < X.length)(h1 : Y.length≤k)(h2 : k≤Y.length + 1)(h3 : ¬ 0 < c)(hc : 0≤c∧c < 1000000000)(hz : ∀ t,i + Y.length≤t→i + k≤t→at_ L t = 0)(hV : V = aS (X.take i) * aS Y)(hv : aS L + pu (i + k) * c = V + pu i * (at_ X i * aS (Y.take k))) :
  i + 1≤X.length∧(∀ t,i + 1 + Y.length≤t→at_ L t = 0)∧aS L = aS (X.take (i + 1)) * aS Y:=by
 have e : c = 0:=by omega
 rw [e,List.take_of_length_le h1,hV,Int.mul_zero,Int.add_zero] at hv
 exact ⟨hi,fun t ht=>hz t (by omega) (by omega),by rw [hv,ig,Int.add_mul,Int.mul_assoc]⟩
theorem ww{n : Nat}{L : List Int}{R : List (List D)}(hr : R = L.map aE)(hl : R.length = n) : R.take n = L.map aE:=by rw [List.take_of_length_le (by omega),hr]
theorem Ek{X Y L : List Int}{k : Nat}(hv : aS L = aS (X.take k) * aS Y)(h : X.length≤k) : (aS L).toNat = (aS X * aS Y).toNat:=by
 rw [hv,List.take_of_length_le h]
set_option maxHeartbeats 1000000 in
theorem IP(X Y : List Int)(hX : Dw X)(hY : Dw Y)(hn : X.length≤400)(hm : Y.length≤400) : CallA Tryz.prog 345 [.one (.d (cY X)),.one (.d (cY Y))] [] (.one (.d (b8 (aS X * aS Y).toNat))) []:=by
 refine enter ab Tryz.func345 rfl (by decide +kernel) rfl fun hok w0 σ0 φ0 M=>?_
 clear hok
 repeat' (first|(refine h6H ?_; first|(refine ma ?_; refine cj aa 10 J J J (cK (n:=X.length + Y.length) J J J J J (by simp) (by simp) (by omega) (Nat.le_of_ble_eq_true J)) J J ?_)|(refine tG ?_; refine s_e aa J J J (f8 J J J J (Ei _).1 (by omega)) ?_)|(refine qW ?_; refine s_e aa J J J (fg J J J J (Ei _).1 (by omega) (Mf _)) ?_)|(refine h4H ?_; refine dL 40 [10] J J J J J J J J J (rR _ p.2.1 _ (ww hr hl2) hL (Ek hv (by simpa using h))) J J J ?_)|refine ac ?_|refine ah ab J J J J J ?_|(refine h0H ?_; first|refine aT J J (by first|assumption|rfl) ?_|refine bH J J (by first|assumption|rfl) J J ?_|refine bn J J J J (fun h=>?_) (fun h=>?_))|(refine h1H ?_; first|refine s_e aa J J J (aL J J J J (aN (by omega) (by omega))) ?_|refine s_e aa J J J (aL J J J J (aN (by first|omega|((try simp only [a0A,a1A,a2A,a3A,a4A,a5A,a6A,a7A,a8A,a9A,au,av] at *); omega)) (by first|omega|((try simp only [a0A,a1A,a2A,a3A,a4A,a5A,a6A,a7A,a8A,a9A,au,av] at *); omega)))) ?_)|(refine fH ?_; refine s_e aa J J J (c7 J J J J (iZ (by omega) (by omega))) ?_)|(refine h2H ?_; first|refine s_e aa J J J (aF J J (by first|rfl|assumption) J) ?_|refine s_e aa J J J (az J J (by first|rfl|assumption) J) ?_)|(refine h3H ?_; refine s_e aa J J J (b4 J J J J J J (by first|omega|((try simp only [a0A,a1A,a2A,a3A,a4A,a5A,a6A,a7A,a8A,a9A,au,av] at *); omega)) (by first|omega|((try simp only [a0A,a1A,a2A,a3A,a4A,a5A,a6A,a7A,a8A,a9A,au,av] at *); omega))) ?_)|refine aI aa J J (bO J J J J J J J J J (cg (by assumption) (by first|omega|((try simp only [a0A,a1A,a2A,a3A,a4A,a5A,a6A,a7A,a8A,a9A,au,av] at *); omega))) J) ?_)|(refine h7H ?_; first|refine al ?_|refine ae ?_|refine ay ?_|refine aw ?_|refine am ?_|refine aW ?_|refine bc J ?_|refine aA J (fun h=>?_) (fun h=>?_)|refine aR progOk.mo ?_|refine cR 7 J [(0,_),(1,_),(5,_),(6,_)] (q4Q J J J J) (fun (q : Nat×Int×List Int×List (List D))=>[(8,.one (.d (.int .i64 (q.1 : Int)))),(7,.one (.d (.int .u64 q.2.1)))]) (fun (q : Nat×Int×List Int×List (List D))=>[(10,.row 1 4 q.2.2.2)]) (fun (q : Nat×Int×List Int×List (List D))=>q.2.2.2 = q.2.2.1.map aE∧q.2.2.2.length = X.length + Y.length∧Dw q.2.2.1∧(0≤q.2.1∧q.2.1 < 1000000000)∧q.1≤Y.length + 1∧(q.1≤Y.length∨q.2.1 = 0)∧(∀ t,p.1 + Y.length≤t→p.1 + q.1≤t→at_ q.2.2.1 t = 0)∧aS q.2.2.1 + pu (p.1 + q.1) * q.2.1 = aS p.2.1 + pu p.1 * (at_ X p.1 * aS (Y.take q.1))) (fun (q : Nat×Int×List Int×List (List D))=>Y.length + 1 - q.1) (0,0,p.2.1,p.2.2) (q2Q J J) (by first|(repeat' first|exact ap|refine af J ?_) <;> fail|fail) ?_ (fun q ⟨hqr,hql,hqL,hqc,hqk,hqk2,hqz,hqv⟩=>?_)|refine cR 3 J [(0,_),(1,_),(5,_)] (q3Q J J J) (fun (p : Nat×List Int×List (List D))=>[(6,.one (.d (.int .i64 (p.1 : Int))))]) (fun (p : Nat×List Int×List (List D))=>[(10,.row 1 4 p.2.2)]) (fun (p : Nat×List Int×List (List D))=>p.1≤X.length∧p.2.2 = p.2.1.map aE∧p.2.2.length = X.length + Y.length∧Dw p.2.1∧(∀ t,p.1 + Y.length≤t→at_ p.2.1 t = 0)∧aS p.2.1 = aS (X.take p.1) * aS Y) (fun (p : Nat×List Int×List (List D))=>X.length - p.1) (0,List.replicate (X.length + Y.length) 0,List.replicate (X.length + Y.length) [.int .u32 0]) (q1Q J) (by first|(repeat' first|exact ap|refine af J ?_) <;> fail|fail) ?_ (fun p ⟨hk,hr,hl2,hL,hz,hv⟩=>?_))|(refine bP ?_; first|refine bG (by kernel_rfl) ?_|refine d_e aa J J J (aK J J) ?_|(refine Gy ?_; first|refine d_e aa J J J (aL J J J J (aN (by omega) (by omega))) ?_|refine d_e aa J J J (eI J) ?_)|(refine GK ?_; refine d_e aa J J J (eI J) ?_)|(refine Dm ?_; refine d_e aa J J J (eI J) ?_)|(refine h8H ?_; first|refine d_e aa J J J (b4 J J J J J J (by first|omega|((try simp only [a0A,a1A,a2A,a3A,a4A,a5A,a6A,a7A,a8A,a9A,au,av] at *); omega)) (by first|omega|((try simp only [a0A,a1A,a2A,a3A,a4A,a5A,a6A,a7A,a8A,a9A,au,av] at *); omega))) ?_|refine d_e aa J J J (ar J J J J J (by first|omega|((try simp only [a0A,a1A,a2A,a3A,a4A,a5A,a6A,a7A,a8A,a9A,au,av] at *); omega)) (aJ (by first|omega|((try simp only [a0A,a1A,a2A,a3A,a4A,a5A,a6A,a7A,a8A,a9A,au,av] at *); omega)))) ?_)|(refine zO ?_; refine d_e aa J J J (cu J J J J (cg (by assumption) (by first|omega|((try simp only [a0A,a1A,a2A,a3A,a4A,a5A,a6A,a7A,a8A,a9A,au,av] at *); omega))) J) ?_)|(refine h9H ?_; refine d_l J J (bj J J J J J J (pQ _ _ hY) J) ?_))|(show Exists _; first|refine Exists.intro ((p.1 + 1,q.2.2.1,q.2.2.2)) ⟨?_,?_,(by first|(repeat' first|exact ap|refine af J ?_) <;> fail|fail),(q1Q J),(q3Q J J J)⟩|refine Exists.intro ((q.1 + 1,tmT (at_ q.2.2.1 (p.1 + q.1)) (at_ X p.1) (at_ Y q.1) q.2.1 / 1000000000,q.2.2.1.set (p.1 + q.1) (tmT (at_ q.2.2.1 (p.1 + q.1)) (at_ X p.1) (at_ Y q.1) q.2.1 % 1000000000),q.2.2.2.set (p.1 + q.1) [.int .u32 (tmT (at_ q.2.2.1 (p.1 + q.1)) (at_ X p.1) (at_ Y q.1) q.2.1 % 1000000000)])) ⟨?_,?_,(by first|(repeat' first|exact ap|refine af J ?_) <;> fail|fail),(q2Q J J),(q4Q J J J J)⟩)|refine ak ?_|refine bd ?_|refine aG ?_|refine aX J ?_|refine ai (.inl J) J J ?_)
 ·exact ⟨Nat.zero_le _,by simp [aE],by simp,Dw.zeros _,fun t _=>by
   show at_ (List.replicate _ (0 : Int)) t = 0
   simp only [at_,List.getD_eq_getElem?_getD,List.getElem?_replicate]
   split <;> rfl,by
   show aS (List.replicate _ (0 : Int)) = aS (X.take 0) * aS Y
   rw [A7,List.take_zero]; simp [aS]⟩
 all_goals first
  | exact ⟨hr,hl2,hL,⟨Int.le_refl _,by show (0 : Int) < 1000000000; omega⟩,Nat.zero_le _,.inl (Nat.zero_le _),fun t h1 _=>hz t h1,by
    show aS p.2.1 + pu (p.1 + 0) * 0 = aS p.2.1 + pu p.1 * (at_ X p.1 * aS (Y.take 0))
    rw [List.take_zero]; simp [aS]⟩
  | exact zo rfl hX hY (by simpa using ‹decide ((p.1 : Int) < ((X.map aE).length : Int)) = true›) hqr hql hqL hqc (.inl (by simpa using h)) hqz hqv
  | exact zo rfl hX hY (by simpa using ‹decide ((p.1 : Int) < ((X.map aE).length : Int)) = true›) hqr hql hqL hqc (.inr (by
    have h5 : Y.length≤q.1:=by simpa using ‹decide ((q.1 : Int) < ((Y.map aE).length : Int)) = false›
    have h6 : 0 < q.2.1:=of_decide_eq_true h
    rcases hqk2 with h7 | h7
    ·exact ⟨by omega,h6⟩
    ·omega)) hqz hqv
  | (obtain ⟨e1,e2,e3⟩:=HS (R:=[]) (by simpa using ‹decide ((p.1 : Int) < ((X.map aE).length : Int)) = true›) (by simpa using ‹decide ((q.1 : Int) < ((Y.map aE).length : Int)) = false›) hqk (of_decide_eq_false h) hqc hqz hv hqv
     exact ⟨e1,hqr,hql,hqL,e2,e3⟩)
  | (have hlt : q.1≤Y.length:=by
      rcases hqk2 with h7 | h7
      ·exact h7
      ·have h8 : q.1 < Y.length:=by simpa [h7] using h
       omega
     show Y.length + 1 - (q.1 + 1) < Y.length + 1 - q.1
     omega)
  | (have hlt : p.1 < X.length:=by simpa using ‹decide ((p.1 : Int) < ((X.map aE).length : Int)) = true›
     show X.length - (p.1 + 1) < X.length - p.1
     omega)
  | rfl
  | skip
theorem tk(m n : Nat)(hm : (dw m).length≤400)(hn : (dw n).length≤400) : CallA Tryz.prog 345 [.one (.d (b8 m)),.one (.d (b8 n))] [] (.one (.d (b8 (m * n)))) []:=by
 obtain ⟨a1,a2,a3⟩:=fz m
 obtain ⟨b1,b2,b3⟩:=fz n
 have:=IP (dw m) (dw n) a1 b1 hm hn
 rwa [a2,b2,show ((m : Int) * (n : Int)).toNat = m * n by rw [← Int.natCast_mul]; rfl] at this
end Go.Proofs.YtpejdgkaapnekaaGreat
