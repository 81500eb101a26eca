import Derived.Lib.ItoaNum
import Derived.Shelf.Small.Bits
import Derived.Test.YtpejdgkaapnekaaGreatXP19
import Derived.Test.YtpejdgkaapnekaaGreatXP12
import Derived.Test.YtpejdgkaapnekaaGreatXP13
import Derived.Test.YtpejdgkaapnekaaGreatXP4
import Derived.Test.YtpejdgkaapnekaaGreatXTab
import Derived.Test.YtpejdgkaapnekaaGreatXP11
set_option linter.unusedVariables false
set_option linter.unusedSimpArgs false
set_option maxHeartbeats 1000000
namespace Go.Proofs.YtpejdgkaapnekaaGreat
open Go Go.Abs
attribute [local irreducible] ae OkC ar aA av aN
set_option maxRecDepth 10000
theorem yz(v : Int)(m : Nat)(hv : v = (m : Int))(hm : m < 18446744073709551616) : CallA Tryz.prog 370 [.one (.d (.int .u64 v))] [] (.one (.d (bu m))) []:=by
 subst hv; exact K9 m hm
def cz(neg : Bool)(a b : Nat) : D:=.ptr [.bool neg,bu a,bu b]
theorem nf{b : Nat} : (decide ((0 : Int) < (((dig b).map al).length : Int))) = decide (b≠0):=by
 by_cases h : b = 0
 ·subst h; simp [fK]
 ·rw [lh h]; simp [h]
theorem qW{b : Nat} : ((((dig b).map al).length : Int) == 0) = decide (b = 0):=by
 by_cases h : b = 0
 ·subst h; simp [fK]
 ·rw [lh h]; simp [h]; omega
theorem Ke{v : Int}(hr : -9223372036854775808≤v∧v≤9223372036854775807)(h : v < 0) : IntKind.u64.wrap (0 - IntKind.u64.wrap v) = (v.natAbs : Int):=by
 show (0 - v % 18446744073709551616) % 18446744073709551616 = _
 omega
theorem Kf{v : Int}(h : ¬ v < 0) : v = (v.natAbs : Int):=by omega
theorem Te(v : Int) : CallA Tryz.prog 354 [.one (.d (.int .i64 v))] [] (.one (.d (bu v.natAbs))) []:=by
 refine enter af Tryz.func354 rfl (by decide +kernel) rfl fun hok w0 σ0 φ0 M=>?_
 have hr:=OkD.i64 hok.1
 have hb : v.natAbs < 18446744073709551616:=by omega
 clear hok
 repeat' (first|(refine h1H ?_; (refine h0H ?_; first|refine az 16 J J J J J J J J (yz _ v.natAbs (Ke hr (of_decide_eq_true h)) hb) J J J ?_|refine az 16 J J J J J J J J (yz _ v.natAbs (Kf (of_decide_eq_false h)) hb) J J J ?_))|refine wG ?_|(refine h4H ?_; refine ah J (fun h=>?_) (fun h=>?_)))
 all_goals rfl
theorem pO(neg : Bool)(a b : Nat) : CallA Tryz.prog 351 [.one (.d (cz neg a b))] [] (.one (.d (.bool (decide (b≠0))))) []:=by
 refine enter af Tryz.func351 rfl (by decide +kernel) rfl fun hok w0 σ0 φ0 M=>?_
 clear hok
 repeat' (first|refine wG ?_)
 all_goals rw [nf]
theorem Tc(neg : Bool)(a b : Nat) : CallA Tryz.prog 385 [.one (.d (cz neg a b))] [] (.one (.d (.int .i64 (if b = 0∨a = 0 then 0 else if neg then -1 else 1)))) []:=by
 refine enter af Tryz.func385 rfl (by decide +kernel) rfl fun hok w0 σ0 φ0 M=>?_
 clear hok
 repeat' (first|(refine h1H ?_; (refine h0H ?_; refine aa J J J J J J J J (pO _ _ _) J ?_))|refine wG ?_|(refine h1H ?_; (refine h5H ?_; refine aJ J J J J (fun h=>?_) (fun h=>?_)))|(refine h4H ?_; refine ah J (fun h=>?_) (fun h=>?_)))
 all_goals (try rw [qW] at *)
 all_goals simp_all
theorem Tf(k num den : Int)(str : List UInt8) : CallA Tryz.prog 314 [.agg [.d (.int .i64 k),.d (.int .i64 num),.d (.int .i64 den),.d (.str str)]] [] (.one (.d (cz (decide (num < 0)) num.natAbs den.natAbs))) []:=by
 refine enter af Tryz.func314 rfl (by decide +kernel) rfl fun hok w0 σ0 φ0 M=>?_
 clear hok
 repeat' (first|(refine h4H ?_; refine bf (bq (dl:=[1]) J) (bH ?_))|(refine h3H ?_; (refine h2H ?_; refine bh 16 J J J J J J J J (Te _) J J ?_))|refine wG ?_)
 all_goals rfl
theorem Kg{n : Nat}(h : n < 18446744073709551616) : (dig n).length≤2:=by
 by_cases h0 : n = 0
 ·subst h0; simp [fK]
 ·rw [lh h0]
  by_cases h1 : n / 4294967296 = 0
  ·rw [h1,fK]; simp
  ·rw [lh h1,show n / 4294967296 / 4294967296 = 0 by omega,fK]; simp
def wv(a d : Int)(k : Nat) : Int:=IntKind.u64.wrap ((BitVec.ofInt IntKind.u64.bits a ||| BitVec.ofInt IntKind.u64.bits (IntKind.u64.wrap (IntKind.u64.wrap d * 2 ^ min (32 * (k : Int)).toNat IntKind.u64.bits))).toNat : Int)
theorem MH{d : Int}(hd : 0≤d∧d < 4294967296) : wv 0 d 0 = d:=by
 obtain ⟨b,rfl⟩:=Int.eq_ofNat_of_zero_le hd.1
 unfold wv
 rw [show (IntKind.u64.wrap (b : Int) * 2 ^ min (32 * ((0 : Nat) : Int)).toNat IntKind.u64.bits) = IntKind.u64.wrap (b : Int) * 1 from rfl,Int.mul_one,cR (v:=(b : Int)) (by omega) (by omega),cR (v:=(b : Int)) (by omega) (by omega)]
 have h:=wx (a:=0) (b:=b) (by omega) (by omega)
 simp only [Int.natCast_zero,Int.zero_mul,Nat.zero_mul,Nat.zero_add] at h
 rw [show ((BitVec.ofInt IntKind.u64.bits 0 ||| BitVec.ofInt IntKind.u64.bits (b : Int)).toNat) = b from h,cR (by omega) (by omega)]
theorem MI{a d : Int}(ha : 0≤a∧a < 4294967296)(hd : 0≤d∧d < 4294967296) : wv a d 1 = a + 4294967296 * d:=by
 obtain ⟨b,rfl⟩:=Int.eq_ofNat_of_zero_le hd.1
 obtain ⟨c,rfl⟩:=Int.eq_ofNat_of_zero_le ha.1
 unfold wv
 rw [show (IntKind.u64.wrap (b : Int) * 2 ^ min (32 * ((1 : Nat) : Int)).toNat IntKind.u64.bits) = IntKind.u64.wrap (b : Int) * 4294967296 from rfl,cR (v:=(b : Int)) (by omega) (by omega),cR (v:=(b : Int) * 4294967296) (by omega) (by omega)]
 have h:=wx (a:=b) (b:=c) (by omega) (by omega)
 rw [BitVec.or_comm] at h
 rw [show ((BitVec.ofInt IntKind.u64.bits (c : Int) ||| BitVec.ofInt IntKind.u64.bits ((b : Int) * 4294967296)).toNat) = b * 4294967296 + c from h,cR (by omega) (by omega)]
 omega
theorem N1(n : Nat)(hn : n≤1099511627776) : CallA Tryz.prog 352 [.one (.d (bu n))] [] (.tup [(false,[.d (.int .i64 n)]),(false,[.d (.bool true)])]) []:=by
 have hl:=Kg (n:=n) (by omega)
 have hc : decide ((0 : Int) < iE n 1099511627776) = false:=by
  refine decide_eq_false ?_
  rcases Nat.lt_or_ge n 1099511627776 with h | h
  ·rw [iT h]; omega
  ·rw [kS (by omega)]; omega
 refine enter af Tryz.func352 rfl (by decide +kernel) rfl fun hok w0 σ0 φ0 M=>?_
 clear hok
 repeat' (first|(refine h1H ?_; (refine h0H ?_; first|refine aa J J J J J J J J (vK _ _) J ?_|refine az 16 J J J J J J J J (yz 1099511627776 1099511627776 J (by omega)) J J J ?_))|refine wG ?_|(refine h4H ?_; first|refine ah J (fun h=>?_) (fun h=>?_)|refine aH 5 J [(11,_),(12,_)] (q2Q J J) (fun (p : Nat×Int)=>[(13,.one (.d (.int .i64 (p.1 : Int)))),(4,.one (.d (.int .u64 p.2)))]) (fun (p : Nat×Int)=>p.1≤(dig n).length∧p.2 = ag ((dig n).take p.1)) (fun (p : Nat×Int)=>(dig n).length - p.1) (0,0) (q2Q J J) ?_ (fun p ⟨hk,hv⟩=>?_))|(show Exists _; refine Exists.intro ((p.1 + 1,wv p.2 (at_ (dig n) p.1) p.1)) ⟨?_,?_,wK,(q2Q J J),(q2Q J J)⟩))
 ·exact ⟨Nat.zero_le _,by simp [ag]⟩
 ·have hlt : p.1 < (dig n).length:=by simpa using h
  refine ⟨hlt,?_⟩
  obtain ⟨hD,hV,_⟩:=cE n
  show wv p.2 (at_ (dig n) p.1) p.1 = ag ((dig n).take (p.1 + 1))
  rw [bw hlt]
  have hc01 : p.1 = 0∨p.1 = 1:=by omega
  obtain ⟨k,a⟩:=p
  rcases hc01 with e | e
  ·subst e
   simp only at hv ⊢
   rw [hv,List.take_zero]
   simp only [ag]
   rw [MH (hD.at hlt),mz]
   show at_ (dig n) 0 = 0 + 1 * at_ (dig n) 0
   omega
  ·subst e
   simp only at hv ⊢
   have h0 : 0 < (dig n).length:=Nat.lt_trans Nat.zero_lt_one hlt
   have e1 : ag ((dig n).take 1) = at_ (dig n) 0:=by
    rw [bw h0,List.take_zero,mz]; simp [ag]
   rw [hv,e1,MI (hD.at h0) (hD.at hlt)]
   rfl
 ·have hlt : p.1 < (dig n).length:=by simpa using h
  show (dig n).length - (p.1 + 1) < (dig n).length - p.1
  omega
 ·have hge : (dig n).length≤p.1:=by simpa using h
  rw [List.take_of_length_le hge,(cE n).2.1] at hv
  rw [hv,gJ (by omega) (by omega)]
theorem N2(n : Nat)(hn : ¬ n≤1099511627776) : CallA Tryz.prog 352 [.one (.d (bu n))] [] (.tup [(false,[.d (.int .i64 0)]),(false,[.d (.bool false)])]) []:=by
 have hc : decide ((0 : Int) < iE n 1099511627776) = true:=by
  refine decide_eq_true ?_
  rw [iU (by omega)]; omega
 refine enter af Tryz.func352 rfl (by decide +kernel) rfl fun hok w0 σ0 φ0 M=>?_
 clear hok
 repeat' (first|(refine h1H ?_; (refine h0H ?_; first|refine aa J J J J J J J J (vK _ _) J ?_|refine az 16 J J J J J J J J (yz 1099511627776 1099511627776 J (by omega)) J J J ?_))|refine wG ?_)
 all_goals rfl
def dl(n : Nat) : Nat:=(dig n).length
theorem jP{m n : Nat}(h : m≤n) : dl m≤dl n:=by
 refine Nat.le_of_not_lt fun hc=>?_
 have:=nP hc; omega
def mT : Prop:=∀ m n : Nat,n≠0→dl m≤100→dl n≤100→CallA Tryz.prog 355 [.one (.d (bu m)),.one (.d (bu n))] [] (.tup [(false,[.d (bu (m / n))]),(false,[.d (bu (m % n))])]) []
theorem sk{b : Nat}(h : decide ((0 : Int) < (((dig b).map al).length : Int)) = true) : b≠0:=by rw [nf] at h; exact of_decide_eq_true h
theorem AP{b : Nat}(h : decide ((0 : Int) < (((dig b).map al).length : Int)) = false) : b = 0:=by rw [nf] at h; exact Decidable.not_not.1 (of_decide_eq_false h)
theorem Tk(hD : mT)(m n : Nat)(hm : dl m≤100)(hn : dl n≤100) : CallA Tryz.prog 378 [.one (.d (bu m)),.one (.d (bu n))] [] (.one (.d (bu (Nat.gcd m n)))) []:=by
 refine enter af Tryz.func378 rfl (by decide +kernel) rfl fun hok w0 σ0 φ0 M=>?_
 clear hok
 repeat' (first|(refine h1H ?_; (refine h0H ?_; refine az 16 J J J J J J J J (hD _ _ (sk h) hb1 hb2) J J J ?_))|refine wG ?_|(refine h4H ?_; first|refine ah J (fun h=>?_) (fun h=>?_)|refine aH 1 J [] aZ (fun (p : Nat×Nat)=>[(0,.one (.d (bu p.1))),(1,.one (.d (bu p.2)))]) (fun (p : Nat×Nat)=>Nat.gcd p.1 p.2 = Nat.gcd m n∧dl p.1≤100∧dl p.2≤100) (fun (p : Nat×Nat)=>p.2) (m,n) (q2Q J J) ?_ (fun p ⟨hg,hb1,hb2⟩=>?_))|(show Exists _; refine Exists.intro ((p.2,p.1 % p.2)) ⟨?_,?_,wK,(q2Q J J),aZ⟩))
 ·exact ⟨rfl,hm,hn⟩
 ·have hp : p.2≠0:=sk h
  refine ⟨?_,hb2,Nat.le_trans (jP (Nat.le_of_lt (Nat.mod_lt _ (Nat.pos_of_ne_zero hp)))) hb2⟩
  show Nat.gcd p.2 (p.1 % p.2) = _
  rw [← hg,Nat.gcd_comm p.1 p.2]
  conv=>rhs; rw [Nat.gcd_rec,Nat.gcd_comm]
 ·exact Nat.mod_lt _ (Nat.pos_of_ne_zero (sk h))
 ·have e:=AP h
  rw [← hg,e,Nat.gcd_zero_right]
theorem zS{m n : Nat} : decide (m / Nat.gcd m n≠0) = decide (m≠0):=by
 by_cases h : m = 0
 ·subst h; simp
 ·have hp:=Nat.pos_of_ne_zero h
  have hd : m / Nat.gcd m n≠0:=Nat.ne_of_gt (Nat.div_pos (Nat.le_of_dvd hp (Nat.gcd_dvd_left m n)) (Nat.gcd_pos_of_pos_left n hp))
  simp [h,hd]
theorem DK(hD : mT)(neg : Bool)(m n : Nat)(hm : dl m≤100)(hn : dl n≤100)(hn0 : n≠0) : CallA Tryz.prog 360 [.one (.d (.bool neg)),.one (.d (bu m)),.one (.d (bu n))] [] (.one (.d (cz (neg && decide (m≠0)) (m / Nat.gcd m n) (n / Nat.gcd m n)))) []:=by
 have hg0 : Nat.gcd m n≠0:=fun h=>hn0 (Nat.eq_zero_of_gcd_eq_zero_right h)
 have hgb : dl (Nat.gcd m n)≤100:=Nat.le_trans (jP (Nat.le_of_dvd (Nat.pos_of_ne_zero hn0) (Nat.gcd_dvd_right m n))) hn
 refine enter af Tryz.func360 rfl (by decide +kernel) rfl fun hok w0 σ0 φ0 M=>?_
 clear hok
 repeat' (first|(refine h1H ?_; (refine h0H ?_; first|refine aa J J J J J J J J (Tg _) J ?_|refine az 16 J J J J J J J J (Tk hD _ _ hm hn) J J J ?_|refine az 16 J J J J J J J J (hD _ _ hg0 hm hgb) J J J ?_|refine az 16 J J J J J J J J (hD _ _ hg0 hn hgb) J J J ?_))|(refine h4H ?_; refine bf (bq (dl:=[0]) J) (bH ?_))|refine wG ?_|(refine h1H ?_; (refine h5H ?_; refine aJ J J J J (fun h=>?_) (fun h=>?_)))|(refine h4H ?_; refine ah J (fun h=>?_) (fun h=>?_)))
 ·show AV.one (.d (cz (decide ((0 : Int) < (((dig (m / Nat.gcd m n)).map al).length : Int))) (m / Nat.gcd m n) (n / Nat.gcd m n))) = _
  rw [nf,h,Bool.true_and,zS]
 ·have h' : neg = false:=h
  subst h'; rfl
 ·have hg1 : Nat.gcd m n = 1:=by simpa using ‹(!Nat.gcd m n == 1) = false›
  show AV.one (.d (cz (decide ((0 : Int) < (((dig m).map al).length : Int))) m n)) = _
  rw [nf,h,Bool.true_and,hg1,Nat.div_one,Nat.div_one]
 ·have hg1 : Nat.gcd m n = 1:=by simpa using ‹(!Nat.gcd m n == 1) = false›
  have h' : neg = false:=h
  subst h'
  rw [hg1,Nat.div_one,Nat.div_one]; rfl
def zQ(neg : Bool)(m n : Nat) : D:=cz (neg && decide (m≠0)) (m / Nat.gcd m n) (n / Nat.gcd m n)
def pN(s1 : Bool)(a1 b1 : Nat)(s2 : Bool)(a2 b2 : Nat)(minus : Bool) : D :=
 if (s1 == (!(s2 == minus))) = true then zQ (!(s2 == minus)) (a1 * b2 + a2 * b1) (b1 * b2) else if a2 * b1≤a1 * b2 then zQ s1 (a1 * b2 - a2 * b1) (b1 * b2) else zQ (!(s2 == minus)) (a2 * b1 - a1 * b2) (b1 * b2)
theorem uK{m n : Nat}(h : decide ((0 : Int)≤iE m n) = true) : n≤m:=by
 refine Nat.le_of_not_lt fun hc=>?_
 have:=of_decide_eq_true h
 rw [iT hc] at this; omega
theorem uL{m n : Nat}(h : decide ((0 : Int)≤iE m n) = false) : m < n:=by
 refine Nat.lt_of_not_le fun hc=>?_
 have:=of_decide_eq_false h
 rcases Nat.lt_or_ge n m with h2 | h2
 ·rw [iU h2] at this; omega
 ·rw [kS (by omega)] at this; omega
set_option maxHeartbeats 1000000 in
theorem Qu(hD : mT)(s1 : Bool)(a1 b1 : Nat)(s2 : Bool)(a2 b2 : Nat)(minus : Bool)(h1 : b1≠0)(h2 : b2≠0)(l1 : (dig a1).length≤400)(l2 : (dig b1).length≤400)(l3 : (dig a2).length≤400)(l4 : (dig b2).length≤400)
  (m1 : (dig (a1 * b2)).length≤400) (m2 : (dig (a2 * b1)).length≤400) (m3 : dl (b1 * b2)≤100) (m4 : dl (a1 * b2 + a2 * b1)≤100) (m5 : dl (a1 * b2 - a2 * b1)≤100) (m6 : dl (a2 * b1 - a1 * b2)≤100) :
  CallA Tryz.prog 359 [.one (.d (cz s1 a1 b1)),.one (.d (cz s2 a2 b2)),.one (.d (.bool minus))] [] (.one (.d (pN s1 a1 b1 s2 a2 b2 minus))) []:=by
 have hb12 : b1 * b2≠0:=Nat.mul_ne_zero h1 h2
 have v1 : decide (b1≠0) = true:=by simp [h1]
 have v2 : decide (b2≠0) = true:=by simp [h2]
 refine enter af Tryz.func359 rfl (by decide +kernel) rfl fun hok w0 σ0 φ0 M=>?_
 clear hok
 repeat' (first|(refine h1H ?_; (refine h0H ?_; first|refine aa J J J J J J J J (pO _ _ _) J ?_|refine aa J J J J J J J J (vK _ _) J ?_|refine az 16 J J J J J J J J (Lg _ _ (by omega) (by omega)) J J J ?_|refine az 16 J J J J J J J J (MP _ _ (by omega) (Nat.le_of_lt (uL h))) J J J ?_|refine az 16 J J J J J J J J (DK hD _ _ _ (by omega) (by omega) hb12) J J J ?_))|(refine h3H ?_; (refine h2H ?_; first|refine bh 16 J J J J J J J J (zR _ _ (by omega) (by omega)) J J ?_|refine bh 16 J J J J J J J J (MP _ _ (by omega) (uK h)) J J ?_|refine bh 16 J J J J J J J J (DK hD _ _ _ (by omega) (by omega) hb12) J J ?_))|refine wG ?_|(refine h1H ?_; (refine h5H ?_; refine aJ J J J J (fun h=>?_) (fun h=>?_)))|(refine h4H ?_; refine ah J (fun h=>?_) (fun h=>?_)))
 all_goals first
  | (exfalso; simp_all; done)
  | skip
 ·unfold pN; rw [if_pos h]; rfl
 ·have hs:=‹(s1 == !s2 == minus) = false›
  unfold pN; rw [if_neg (by rw [hs]; simp),if_pos (uK h)]; rfl
 ·have hs:=‹(s1 == !s2 == minus) = false›
  unfold pN; rw [if_neg (by rw [hs]; simp),if_neg (Nat.not_le_of_lt (uL h))]; rfl
end Go.Proofs.YtpejdgkaapnekaaGreat
namespace Go.Proofs.YtpejdgkaapnekaaGreat
open Go Go.Abs
def bp(k : Nat) : Nat:=4294967296 ^ k
theorem pwc(k : Nat) : pw k = ((bp k : Nat) : Int):=by
 unfold pw bp
 induction k with
 | zero=>rfl
 | succ k ih=>rw [Int.pow_succ,Nat.pow_succ,Int.natCast_mul,ih]; rfl
theorem FA(k : Nat) : 0 < bp k:=Nat.pow_pos (by omega)
theorem sd(k : Nat) : bp (k + 1) = bp k * 4294967296:=by unfold bp; rw [Nat.pow_succ]
theorem F3(a b : Nat) : bp (a + b) = bp a * bp b:=by unfold bp; rw [Nat.pow_add]
theorem vL : bp 0 = 1:=rfl
theorem jO{a b : Nat}(h : a≤b) : bp a≤bp b:=Nat.pow_le_pow_right (by omega) h
theorem jm : ∀ (w n : Nat),Dg (wid w n)
 | 0,_=>fun d hd=>by simp [wid] at hd
 | w + 1,n=>fun d hd=>by
   rcases List.mem_cons.1 hd with rfl | hd
   ·omega
   ·exact jm w _ d hd
theorem kT : ∀ (w n : Nat),n < bp w→ag (wid w n) = n
 | 0,n,h=>by
   have : n = 0:=by rw [vL] at h; omega
   subst this; rfl
 | w + 1,n,h=>by
   simp only [wid,ag]
   rw [kT w (n / 4294967296) (by rw [sd] at h; exact Nat.div_lt_of_lt_mul (by rw [Nat.mul_comm]; exact h))]
   omega
theorem oK(n : Nat) : n < bp (dig n).length:=by
 obtain ⟨h1,h2,_⟩:=cE n
 have:=(dv h1).2
 rw [h2,pwc] at this
 omega
theorem uA{n k : Nat}(h : (dig n).length = k + 1) : at_ (dig n) k≠0∧at_ (dig n) k * bp k≤n∧(n : Int) < (at_ (dig n) k + 1) * bp k:=by
 obtain ⟨h1,h2,h3⟩:=cE n
 have e:=bw (l:=dig n) (k:=k) (by omega)
 rw [show k + 1 = (dig n).length by omega,List.take_length,h2] at e
 have hb:=dv (h1.take k)
 rw [show ((dig n).take k).length = k by simp; omega] at hb
 have hne : at_ (dig n) k≠0:=by
  rcases h3 with h3 | h3
  ·rw [h3] at h; cases h
  ·rwa [h] at h3
 rw [pwc,Int.mul_comm] at e
 rw [pwc] at hb
 rw [Int.add_mul,Int.one_mul]
 exact ⟨hne,by omega,by omega⟩
theorem Hp{v k : Nat}(h1 : 2147483648 * bp (k + 1)≤v)(h2 : v < bp (k + 2)) : (dig v).length = k + 2∧2147483648≤at_ (dig v) (k + 1):=by
 have hl : (dig v).length = k + 2:=by
  rcases Nat.lt_trichotomy (dig v).length (k + 2) with h | h | h
  ·have:=oK v
   have h3:=jO (show (dig v).length≤k + 1 by omega)
   omega
  ·exact h
  ·obtain ⟨m,hm⟩ : ∃ m,(dig v).length = m + 1:=⟨(dig v).length - 1,by omega⟩
   obtain ⟨g1,g2,_⟩:=uA hm
   have h3:=jO (show k + 2≤m by omega)
   have h4:=(cE v).1.at (i:=m) (by omega)
   have h5 : (1 : Int) * (bp m : Int)≤at_ (dig v) m * (bp m : Int):=Int.mul_le_mul_of_nonneg_right (by omega) (by omega)
   omega
 refine ⟨hl,?_⟩
 obtain ⟨g1,g2,g3⟩:=uA hl
 refine Classical.byContradiction fun hc=>?_
 have h5 : (at_ (dig v) (k + 1) + 1) * (bp (k + 1) : Int)≤2147483648 * (bp (k + 1) : Int):=Int.mul_le_mul_of_nonneg_right (by omega) (by omega)
 omega
theorem Ho{n k : Nat}(hl : (dig n).length = k + 2) : ∃ s : Nat,s≤31∧32 - (Lib.bitLen (at_ (dig n) (k + 1)).toNat : Int) = (s : Int)∧2147483648 * bp (k + 1)≤n * 2 ^ s∧n * 2 ^ s < bp (k + 2):=by
 obtain ⟨g1,g2,g3⟩:=uA hl
 have h4:=(cE n).1.at (i:=k + 1) (by omega)
 obtain ⟨t,ht⟩:=Int.eq_ofNat_of_zero_le h4.1
 rw [ht] at g1 g2 g3 h4 ⊢
 rw [Int.toNat_natCast]
 have hb:=Lib.bitLenAux_bounds 64 t (by omega) (by omega)
 have hle:=Lib.bitLen_le t 32 (by omega) (by omega)
 change 1≤Lib.bitLen t∧2 ^ (Lib.bitLen t - 1)≤t∧t < 2 ^ Lib.bitLen t at hb
 obtain ⟨b1,b2,b3⟩:=hb
 generalize Lib.bitLen t = b at *
 refine ⟨32 - b,by omega,by omega,?_,?_⟩
 ·have e : (2147483648 : Nat) = 2 ^ (b - 1) * 2 ^ (32 - b):=by rw [← Nat.pow_add,show b - 1 + (32 - b) = 31 by omega]
  have h5 : 2 ^ (b - 1) * 2 ^ (32 - b) * bp (k + 1)≤t * 2 ^ (32 - b) * bp (k + 1):=Nat.mul_le_mul_right _ (Nat.mul_le_mul_right _ b2)
  have h6 : t * bp (k + 1) * 2 ^ (32 - b)≤n * 2 ^ (32 - b):=Nat.mul_le_mul_right _ (by omega)
  rw [Nat.mul_right_comm] at h6
  rw [e]; omega
 ·have e : (4294967296 : Nat) = 2 ^ b * 2 ^ (32 - b):=by rw [← Nat.pow_add,show b + (32 - b) = 32 by omega]
  have h5 : n < (t + 1) * bp (k + 1):=by
   have : (n : Int) < (((t + 1) * bp (k + 1) : Nat) : Int):=by rw [Int.natCast_mul,Int.natCast_add]; exact g3
   omega
  have h6 : n * 2 ^ (32 - b) < (t + 1) * bp (k + 1) * 2 ^ (32 - b):=Nat.mul_lt_mul_of_pos_right h5 (Nat.two_pow_pos _)
  have h7 : (t + 1) * 2 ^ (32 - b) * bp (k + 1)≤2 ^ b * 2 ^ (32 - b) * bp (k + 1):=Nat.mul_le_mul_right _ (Nat.mul_le_mul_right _ b3)
  rw [Nat.mul_right_comm] at h6
  rw [← e] at h7
  rw [sd (k + 1),Nat.mul_comm (bp (k + 1))]
  omega
theorem Js{m v k s : Nat}(hs : s≤31)(hv : 2147483648 * bp (k + 1)≤v)(hl : k + 2≤(dig m).length) : m * 2 ^ s < bp ((dig m).length + 1 - (k + 2)) * v∧m * 2 ^ s < bp ((dig m).length + 1):=by
 have h1:=oK m
 have hp : 2 ^ s≤2147483648:=Nat.pow_le_pow_right (by omega) hs
 have h2 : m * 2 ^ s < bp (dig m).length * 2147483648:=Nat.lt_of_lt_of_le (Nat.mul_lt_mul_of_pos_right h1 (Nat.two_pow_pos s)) (Nat.mul_le_mul_left _ hp)
 constructor
 ·have h3:=Nat.mul_le_mul_left (bp ((dig m).length + 1 - (k + 2))) hv
  have e : bp ((dig m).length + 1 - (k + 2)) * (2147483648 * bp (k + 1)) = bp (dig m).length * 2147483648:=by
   rw [Nat.mul_left_comm,← F3,show (dig m).length + 1 - (k + 2) + (k + 1) = (dig m).length by omega,Nat.mul_comm]
  omega
 ·rw [sd]
  exact Nat.lt_of_lt_of_le h2 (Nat.mul_le_mul_left _ (Nat.le_of_ble_eq_true rfl))
theorem NK(v k j W un : Nat)(hl : (dig v).length = k + 2)(ht : 2147483648≤at_ (dig v) (k + 1))(hk : k + 2≤400)(hW : W≤1000)(hj : j + (k + 2) + 1≤W)(hu : un < bp (j + 1) * v) :
  CallA Tryz.prog 375 [.one (.sub 1000000 j ((dig v).length + 1)),.one (.d (bu v))] [(1000000,.row 1 4 ((wid W un).map al))] (.one (.d (.int .u32 ((un / (bp j * v) : Nat) : Int)))) [(1000000,.row 1 4 ((wid W (un % (bp j * v))).map al))]:=by
 obtain ⟨h1,h2,_⟩:=cE v
 have hvb:=oK v
 have hub : un < bp W:=by
  refine Nat.lt_of_lt_of_le hu (Nat.le_trans (Nat.mul_le_mul_left _ (Nat.le_of_lt hvb)) ?_)
  rw [← F3]; exact jO (by omega)
 have hn:=kT W un hub
 have:=OP (dig v) (wid W un) j k hl (by omega) (by rw [fq]; omega) (by rw [fq]; omega) h1 (jm W un) ht (by
  rw [hn,h2,pwc,← Int.natCast_mul]; omega)
 rw [hn,h2,pwc,← Int.natCast_mul,← Int.natCast_ediv,← Int.natCast_emod,Int.toNat_natCast,fq] at this
 exact this
theorem Hn{v j u un W : Nat}{Q : List Int}{R : List (List D)}{N : Nat}(hv : 0 < v)(hj : j < N)(hr : R = Q.map al)(hl : R.length = N)(hQ : Dg Q)(hun : un = u % (bp (j + 1) * v))(hq : ag (Q.drop (j + 1)) = ((u / (bp (j + 1) * v) : Nat) : Int)) :
  R.set j [.int .u32 ((un / (bp j * v) : Nat) : Int)] = (Q.set j ((un / (bp j * v) : Nat) : Int)).map al∧(R.set j [.int .u32 ((un / (bp j * v) : Nat) : Int)]).length = N∧Dg (Q.set j ((un / (bp j * v) : Nat) : Int))∧un % (bp j * v) = u % (bp j * v) ∧
  ag ((Q.set j ((un / (bp j * v) : Nat) : Int)).drop j) = ((u / (bp j * v) : Nat) : Int):=by
 have hQl : Q.length = N:=kq hr hl
 have hp:=FA j
 have hM : 0 < bp j * v:=Nat.mul_pos hp hv
 have e : bp (j + 1) * v = bp j * v * 4294967296:=by rw [sd,Nat.mul_right_comm]
 rw [e] at hun hq
 generalize bp j * v = M at *
 have hlt : un < M * 4294967296:=by rw [hun]; exact Nat.mod_lt _ (by omega)
 have hd : un / M < 4294967296:=Nat.div_lt_of_lt_mul hlt
 have e1 : un % M = u % M:=by rw [hun,Nat.mod_mul_right_mod]
 have e2 : u / M = un / M + 4294967296 * (u / (M * 4294967296)):=by
  rw [hun,Nat.mod_mul_right_div_self,← Nat.div_div_eq_div_mul]
  omega
 refine ⟨eR hr,by simpa using hl,hQ.set (by clear hun e1 e2; generalize un / M = z at hd ⊢; omega),e1,?_⟩
 rw [ao (l:=Q.set j _) (by simp; omega),nD (by omega),List.drop_set_of_lt (by omega)]
 simp only [ag,hq,e2]
 omega
def rsX(x s : Int) : Int:=x.fdiv (2 ^ min s.toNat IntKind.u32.bits)
theorem IK{x y : Int}{s : Nat}(hs : s≤31)(hx : 0≤x∧x < 4294967296)(hy : 0≤y∧y < 4294967296) :
  rsX x s = x / 2 ^ s∧0≤x / 2 ^ s∧x / 2 ^ s < 4294967296∧shO (rsX x s) (shV y (32 - (s : Int))) = x / 2 ^ s + y % 2 ^ s * 2 ^ (32 - s)∧0≤x / 2 ^ s + y % 2 ^ s * 2 ^ (32 - s)∧x / 2 ^ s + y % 2 ^ s * 2 ^ (32 - s) < 4294967296:=by
 obtain ⟨a,rfl⟩:=Int.eq_ofNat_of_zero_le hx.1
 obtain ⟨b,rfl⟩:=Int.eq_ofNat_of_zero_le hy.1
 have h2 : ∀ k : Nat,(2 : Int) ^ k = ((2 ^ k : Nat) : Int):=fun k=>by simp
 have ha : a < 4294967296:=by omega
 have hb : b < 4294967296:=by omega
 have hsp : 4294967296 = 2 ^ (32 - s) * 2 ^ s:=by rw [← Nat.pow_add,show 32 - s + s = 32 by omega]
 have hX : rsX (a : Int) s = ((a / 2 ^ s : Nat) : Int):=by
  unfold rsX
  have hm : min ((s : Int)).toNat IntKind.u32.bits = s:=by show min s 32 = s; omega
  rw [hm,h2,Int.fdiv_eq_ediv_of_nonneg _ (Int.natCast_nonneg _)]; exact (Int.natCast_ediv _ _).symm
 have hp : 2 ^ (32 - s)≤4294967296:=by
  have:=Nat.pow_le_pow_right (n:=2) (by omega) (show 32 - s≤32 by omega)
  exact this
 have hV : shV (b : Int) (32 - (s : Int)) = ((b * 2 ^ (32 - s) : Nat) : Int):=by
  unfold shV
  have hm : min (32 - (s : Int)).toNat IntKind.u64.bits = 32 - s:=by show min (32 - (s : Int)).toNat 64 = 32 - s; omega
  have hbd : b * 2 ^ (32 - s)≤4294967295 * 4294967296:=Nat.mul_le_mul (by omega) hp
  rw [cR (v:=(b : Int)) (by omega) (by omega),hm,h2,← Int.natCast_mul,cR (by omega) (by omega)]
 have hlo : b * 2 ^ (32 - s) % 4294967296 = (b % 2 ^ s) * 2 ^ (32 - s):=by
  rw [hsp,Nat.mul_comm (2 ^ (32 - s)) (2 ^ s),Nat.mul_mod_mul_right]
 have hxs : a / 2 ^ s < 2 ^ (32 - s):=Nat.div_lt_of_lt_mul (by rw [Nat.mul_comm]; omega)
 have hbl : (b % 2 ^ s) * 2 ^ (32 - s) + 2 ^ (32 - s)≤4294967296:=by
  have h1 : b % 2 ^ s + 1≤2 ^ s:=Nat.mod_lt _ (Nat.two_pow_pos _)
  have h3:=Nat.mul_le_mul_right (2 ^ (32 - s)) h1
  rw [Nat.mul_comm (2 ^ s),← hsp,Nat.add_mul,Nat.one_mul] at h3
  exact h3
 have hO : shO (rsX (a : Int) s) (shV (b : Int) (32 - (s : Int))) = ((a / 2 ^ s + b % 2 ^ s * 2 ^ (32 - s) : Nat) : Int):=by
  rw [hX,hV]
  unfold shO
  generalize b * 2 ^ (32 - s) = v at hlo ⊢
  generalize a / 2 ^ s = x' at hxs ⊢
  simp only [je]
  have e1 : (BitVec.ofInt 32 (x' : Int)).toNat = x':=by rw [BitVec.toNat_ofInt]; simp; omega
  have e2 : (BitVec.ofInt 32 ((v : Int) % 4294967296)).toNat = v % 4294967296:=by rw [BitVec.toNat_ofInt]; simp; omega
  have e3 : (BitVec.ofInt 32 (x' : Int) ||| BitVec.ofInt 32 ((v : Int) % 4294967296)).toNat = x' + v % 4294967296:=by
   rw [BitVec.toNat_or,e1,e2,hlo,Fl hxs]
  rw [show ((BitVec.ofInt IntKind.u32.bits (x' : Int) ||| BitVec.ofInt IntKind.u32.bits ((v : Int) % 4294967296)).toNat) = x' + v % 4294967296 from e3]
  rw [hlo]; omega
 have hq : (a : Int) / 2 ^ s = ((a / 2 ^ s : Nat) : Int):=by rw [h2]; exact (Int.natCast_ediv _ _).symm
 have hr : (b : Int) % 2 ^ s * 2 ^ (32 - s) = ((b % 2 ^ s * 2 ^ (32 - s) : Nat) : Int):=by rw [h2,h2,Int.natCast_mul,Int.natCast_emod]
 rw [hO,hX,hq,hr]
 generalize a / 2 ^ s = x' at *
 generalize b % 2 ^ s * 2 ^ (32 - s) = y' at *
 exact ⟨rfl,by omega,by omega,by omega,by omega,by omega⟩
theorem zp{l : List Int}{k : Nat}(hz : ∀ t,k≤t→at_ l t = 0) : ag (l.take k) = ag l:=by
 have e : ag l = ag (l.take k) + pw (l.take k).length * ag (l.drop k):=by rw [← kE,List.take_append_drop]
 have e2 : ∀ (m : List Int),(∀ t,at_ m t = 0)→ag m = 0:=by
  intro m
  induction m with
  | nil=>intro _; rfl
  | cons d r ih =>
    intro hm
    have h0 : d = 0:=hm 0
    have h1:=ih (fun t=>hm (t + 1))
    simp only [ag,h0,h1]; rfl
 rw [e2 (l.drop k) (fun t=>by
  have:=hz (k + t) (by omega)
  simp only [at_,List.getD_eq_getElem?_getD,List.getElem?_drop] at this ⊢
  exact this)] at e
 omega
def RsI(A : List Int)(s W i : Nat)(Q : List Int)(R : List (List D)) : Prop :=
 R = Q.map al∧R.length = W∧Dg Q∧(∀ t,i≤t→at_ Q t = at_ A t)∧ag (Q.take i) * 2 ^ s = ag (A.take i) - at_ A 0 % 2 ^ s + pw i * (at_ A i % 2 ^ s)
theorem IL{A Q : List Int}{s i : Nat}{g g0 : Int}(hs : s≤31)(hA : i < A.length)(hQl : Q.length = A.length)(hv : ag (Q.take i) * 2 ^ s = ag (A.take i) - at_ A 0 % 2 ^ s + pw i * (at_ A i % 2 ^ s))(hAd : Dg A)
  (hg : g = at_ A i / 2 ^ s + at_ A (i + 1) % 2 ^ s * 2 ^ (32 - s)) : ag (((Q.set i g0).set i g).take (i + 1)) * 2 ^ s = ag (A.take (i + 1)) - at_ A 0 % 2 ^ s + pw (i + 1) * (at_ A (i + 1) % 2 ^ s):=by
 rw [bw (l:=(Q.set i g0).set i g) (by simp; omega),List.take_set_of_le (Nat.le_refl _),List.take_set_of_le (Nat.le_refl _),nD (by simp; omega),bw hA,Int.add_mul,hv,hg,dg]
 have e1 : (2 : Int) ^ (32 - s) * 2 ^ s = 4294967296:=by rw [← Int.pow_add,show 32 - s + s = 32 by omega]; rfl
 have e2:=Int.mul_ediv_add_emod (at_ A i) (2 ^ s)
 generalize at_ A i / 2 ^ s = x at *
 generalize at_ A i % 2 ^ s = y at *
 generalize at_ A (i + 1) % 2 ^ s = z at *
 rw [← e2]
 have e3 : pw i * (x + z * 2 ^ (32 - s)) * 2 ^ s = pw i * (2 ^ s * x) + 4294967296 * pw i * z:=by
  rw [Int.mul_add,Int.add_mul,Int.mul_assoc (pw i) x,Int.mul_comm x,Int.mul_assoc (pw i) (z * _),Int.mul_assoc z,e1,Int.mul_comm z,← Int.mul_assoc (pw i) 4294967296,Int.mul_comm (pw i) 4294967296]
 rw [e3,Int.mul_add]
 omega
theorem Hr{A Q : List Int}{R : List (List D)}{s W i : Nat}(hs : s≤31)(hA : A.length = W)(hi : i + 1 < W)(hAd : Dg A)(h : RsI A s W i Q R) :
  RsI A s W (i + 1) ((Q.set i (rsX (at_ Q i) s)).set i (shO (at_ (Q.set i (rsX (at_ Q i) s)) i) (shV (at_ (Q.set i (rsX (at_ Q i) s)) (i + 1)) (32 - (s : Int))))) ((R.set i [.int .u32 (rsX (at_ Q i) s)]).set i [.int .u32 (shO (at_ (Q.set i (rsX (at_ Q i) s)) i) (shV (at_ (Q.set i (rsX (at_ Q i) s)) (i + 1)) (32 - (s : Int))))]):=by
 obtain ⟨hr,hl,hQ,he,hv⟩:=h
 have hQl : Q.length = W:=kq hr hl
 rw [nD (by omega),eu (by omega),he i (Nat.le_refl _),he (i + 1) (by omega)]
 obtain ⟨r1,r2,r3,r4,r5,r6⟩:=IK (x:=at_ A i) (y:=at_ A (i + 1)) hs (hAd.at (by omega)) (hAd.at (by omega))
 rw [r4]
 rw [r1]
 refine ⟨eR (eR hr),by simpa using hl,(hQ.set ⟨r2,r3⟩).set ⟨r5,r6⟩,fun t ht=>by rw [eu (by omega),eu (by omega)]; exact he t (by omega),IL hs (by omega) (by omega) hv hAd rfl⟩
theorem Dz{l : List Int}{i : Nat}{x : Int} : (l.set i x).set i x = l.set i x:=by simp
theorem Hs{A Q : List Int}{R : List (List D)}{s W i : Nat}(hs : s≤31)(hA : A.length = W)(hi : i < W)(hAd : Dg A)(hz : at_ A (i + 1) = 0)(h : RsI A s W i Q R) :
  RsI A s W (i + 1) (Q.set i (rsX (at_ Q i) s)) (R.set i [.int .u32 (rsX (at_ Q i) s)]):=by
 obtain ⟨hr,hl,hQ,he,hv⟩:=h
 have hQl : Q.length = W:=kq hr hl
 rw [he i (Nat.le_refl _)]
 obtain ⟨r1,r2,r3,r4,r5,r6⟩:=IK (x:=at_ A i) (y:=0) hs (hAd.at (by omega)) (by omega)
 rw [r1]
 have hg:=IL (g:=at_ A i / 2 ^ s) (g0:=at_ A i / 2 ^ s) hs (by omega) (by omega) hv hAd (by rw [hz,Int.zero_emod,Int.zero_mul,Int.add_zero])
 rw [Dz] at hg
 exact ⟨eR hr,by simpa using hl,hQ.set ⟨r2,r3⟩,fun t ht=>by rw [eu (by omega)]; exact he t (by omega),hg⟩
theorem Le{Q : List Int}{R : List (List D)}{s W i r a : Nat}(ha : a = r * 2 ^ s)(hs : s≤31)(haW : a < bp W)(hi : i = (dig a).length)(hiW : i≤W)(h : RsI (wid W a) s W i Q R) : R.take i = (Q.take i).map al∧Dg (Q.take i)∧(ag (Q.take i)).toNat = r:=by
 obtain ⟨hr,hl,hQ,he,hv⟩:=h
 have hA:=jm W a
 have hn:=kT W a haW
 have hz : ∀ t,i≤t→at_ (wid W a) t = 0:=l8 hA (by rw [hn,pwc,hi]; have:=oK a; omega)
 rw [zp hz,hn,hz i (Nat.le_refl _),Int.zero_emod,Int.mul_zero,Int.add_zero] at hv
 have h0 : at_ (wid W a) 0 % 2 ^ s = 0:=by
  cases W with
  | zero=>show (0 : Int) % 2 ^ s = 0; exact Int.zero_emod _
  | succ W =>
    show ((a % 4294967296 : Nat) : Int) % 2 ^ s = 0
    have e : a % 4294967296 % 2 ^ s = 0:=by
     rw [Nat.mod_mod_of_dvd _ ⟨2 ^ (32 - s),by rw [← Nat.pow_add,show s + (32 - s) = 32 by omega]⟩,ha,Nat.mul_mod_left]
    rw [show (2 : Int) ^ s = ((2 ^ s : Nat) : Int) by simp,← Int.natCast_emod,e]; rfl
 rw [h0,Int.sub_zero,ha,Int.natCast_mul,show ((2 ^ s : Nat) : Int) = (2 : Int) ^ s by simp] at hv
 have:=Int.eq_of_mul_eq_mul_right (Int.ne_of_gt (Int.pow_pos (by omega))) hv
 exact ⟨by rw [hr,List.map_take],hQ.take i,by rw [this]; rfl⟩
end Go.Proofs.YtpejdgkaapnekaaGreat
namespace Go.Abs
open Go
theorem FB{V : Env}{st : St}{o : Oper}{t ty : TypeId}{x y : Operand}{k k' : IntKind}{a b : Int}(ho : o.op = .binOp .shl t x y ty)
  (hx : ev st x = some (.one (.d (.int k a)))) (hy : ev st y = some (.one (.d (.int k' b)))) (h0 : 0≤b) : aV V st o 0 = some ⟨.one (.d (.int k (k.wrap (a * 2 ^ min b.toNat k.bits)))),[],[]⟩:=by
 have e : ¬ b < 0:=by omega
 simp only [aV,cT,b6,ho,hx,hy,pa,jN,cond_true,tz,cD,lY,iN,wq,e,decide_false,Bool.not_false,Bool.and_self]
 cases o.dst <;> simp [gT]
section
variable {P : Program} {V : Env} {T : Tab} {fr : List (Nat×AV)} {sto : Sto} {w0 : World} {σ0 : Sig} {φ0 : Pl} {M : Nat→Prop} {nn : Nat} {rd : Option Nat} {mk : List Deferred} {ops : Array Oper} {o : Oper} {rest : List Oper} {K : St→Prop}
theorem Hq(hV : EnvOk P V){d : Nat}{t e : TypeId}{x y z : Operand}{id m k k' b b' lo n : Nat}{ik ik' : IntKind}{l h : Int}{xs : List (List D)}{zv : List D}(ho : o.op = .slice t x (some y) (some z) none)(hg : o.guard = none)(hdst : o.dst = some d)(hd : Nat.blt d nn = true)(ht : aW V.T t = some (e,k',b',zv))(hx : ev ⟨fr,sto⟩ x = some (.one (.own id m)))
  (hy : ev ⟨fr,sto⟩ y = some (.one (.d (.int ik l)))) (hz : ev ⟨fr,sto⟩ z = some (.one (.d (.int ik' h)))) (hl : look sto id = some (.row k b xs)) (hk : Nat.beq k k' = true) (h0 : l = (lo : Int)) (h1 : h = (lo : Int) + (n : Int)) (hm : lo + n≤m) (hxs : m≤xs.length)
  (hk2 : ae P ⟨w0,σ0,φ0,M,nn,rd,mk⟩ ops rest ⟨(d,.one (.sub id lo n))::fr,sto⟩ K) : ae P ⟨w0,σ0,φ0,M,nn,rd,mk⟩ ops (o::rest) ⟨fr,sto⟩ K:=by
 subst h0; subst h1
 have e1 : Nat.ble lo (lo + n) = true:=Nat.ble_eq.mpr (by omega)
 have e2 : Nat.ble (lo + n) xs.length = true:=Nat.ble_eq.mpr (by omega)
 have e3 : Nat.ble (lo + n) m = true:=Nat.ble_eq.mpr hm
 have e4 : (0 : Int)≤(lo : Int):=Int.natCast_nonneg _
 have e5 : (0 : Int)≤(lo : Int) + (n : Int):=by omega
 have e6 : ((lo : Int) + (n : Int)).toNat = lo + n:=by omega
 cases hb : Nat.beq lo 0 with
 | false =>
   refine s_e hV hg hdst hd ?_ hk2
   simp only [aV,cT,b6,ho,cD,ga,hx,hy,hz,e4,e5,decide_true,cond_true,gb,ht,hl,hk,Int.toNat_natCast,e6,e1,e2,e3,hb,Bool.and_self,Bool.false_and,cond_false,Nat.add_sub_cancel_left]
 | true =>
   have hlo : lo = 0:=Nat.eq_of_beq_eq_true hb
   refine s_e (v:=.one (.own id (lo + n))) hV hg hdst hd ?_ (eo ?_ hk2)
   ·simp only [aV,cT,b6,ho,cD,ga,hx,hy,hz,e4,e5,decide_true,cond_true,gb,ht,hl,hk,Int.toNat_natCast,e6,e1,e2,e3,hb,Bool.and_self,Bool.true_and,Bool.or_true]
   ·subst hlo
    rw [Nat.zero_add]
    intro a w σ φ hr
    refine ⟨σ,φ,⟨hr.le,hr.fresh,hr.inv,hr.mine,fun s v hv=>?_,hr.defers,hr.size,hr.fra,hr.pin⟩⟩
    rcases ai hv with ⟨rfl,rfl⟩ | ⟨hne,hv⟩
    ·obtain ⟨u,h1,h2⟩:=hr.slot s (.one (.own id n)) (by simp [look])
     exact ⟨u,h1,JB hr.inv (by simp only [bo,hl]) h2⟩
    ·have e7 : Nat.beq d s = false:=by
      cases h7 : Nat.beq d s with
      | false=>rfl
      | true=>exact absurd (Nat.eq_of_beq_eq_true h7).symm hne
     exact hr.slot s v (by simp only [look,e7,cond_false]; exact hv)
end
theorem Gi{P : Program}{c : Ctx}{o : Oper}{st : St}{fop : Operand}{args : Array Operand}{ats : Array TypeId}{f : FuncId}{caps : List D}{rav : AV}(k : Nat){id m kk b b' : Nat}{xs ys : List (List D)}
  (ho : o.op = .call { callee:=.value fop,args:=args,argTypes:=ats }) (hd : aU c.n o.dst = true) (hl : look st.sto id = some (.row kk b xs)) (hf : ev st fop = some (.one (.d (.fn f caps))))
  (ha : evL st args.toList = some [.one (.own id m)]) (hC : CallA P f ([.one (.own 1000000 m)] ++ caps.map fun x=>.one (.d x)) [(1000000,.row kk b xs)] rav [(1000000,.row kk b ys)]) (hys : xs.length = ys.length)
  (hk : (fG [(1000000,id)] && iZ [(1000000,id)] && gu [(1000000,AObj.row kk b xs)] [(1000000,id)] && fV [(1000000,id)] && cA [(1000000,id)] [(1000000,AObj.row kk b ys)] && dp [(1000000,AObj.row kk b xs)] ([AV.one (.own 1000000 m)] ++ caps.map fun x=>.one (.d x)) && bm [(1000000,AObj.row kk b xs)] [(1000000,AObj.row kk b xs)] && c7 [(1000000,AObj.row kk b ys)] rav && bm [(1000000,AObj.row kk b ys)] [(1000000,AObj.row kk b ys)] && Nat.ble (k + 16) 1000000) = true)
  (hrn : cX (rn k [(1000000,id)]) [AV.one (.own 1000000 m)] = [.one (.own id m)]) (hrv : dD (rn k [(1000000,id)]) rav = rav) : Loc P c o st ⟨rav,[(id,none)],[id],rng k 16⟩:=by
 intro st2 hs hri hnew ops rest K h
 have he : ∀ {x : Operand},x∈o.op.operands.toList→ev st2 x = ev st x:=fun hx=>eQ hs hx
 rw [ho] at he
 have hl2 : look st2.sto id = some (.row kk b xs):=(hri id List.mem_cons_self).trans hl
 have ha2 : evL st2 args.toList = some (cX (rn k [(1000000,id)]) [AV.one (.own 1000000 m)]):=by
  rw [hrn,← ha]
  refine jy fun x hx=>he (by simp [Op.operands,Call.operands]; exact .inr (by simpa using hx))
 have hf2 : ev st2 fop = some (.one (.d (.fn f caps))):=(he (x:=fop) (by simp [Op.operands,Call.operands])).trans hf
 refine lu (o:={ o with guard:=none }) k [(1000000,id)] ho rfl hd hf2 ha2 hC ⟨⟨id,by simp [look],hl2⟩,trivial⟩ ⟨fun i e h1 h2=>?_,trivial⟩ hk (fun i h3 h4=>?_) ?_
 ·simp [look] at h1; subst h1
  rw [hl2] at h2; cases h2
  exact ⟨rfl,rfl,Nat.le_of_eq hys⟩
 ·exact hnew i (rng_mem.2 ⟨h3,h4⟩)
 ·rw [hrv]
  refine eo (fun a w σ φ hr=>⟨σ,φ,hr.dropTo fun i e hi=>?_⟩) h
  have hi : look (del id st2.sto) i = some e:=hi
  obtain ⟨hne,hi2⟩:=dt hi
  have hr0 : rn k [(1000000,id)] 1000000 = id:=by simpa [cX,dD,iq] using hrn
  show look (bS (rn k [(1000000,id)] 1000000) _ (del id st2.sto)) i = some e
  rw [hr0]
  have e7 : Nat.beq id i = false:=by
   cases h7 : Nat.beq id i with
   | false=>rfl
   | true=>exact absurd (Nat.eq_of_beq_eq_true h7).symm hne
  simp only [cC,look,e7,cond_false]
  exact hi
theorem JS{P : Program}{c : Ctx}{fr : List (Nat×AV)}{sto : Sto}{ops : Array Oper}{o : Oper}{rest : List Oper}{K : St→Prop}{st0 : St}{acc : List Tr}{d : Nat}{fop : Operand}{args : Array Operand}{ats : Array TypeId}{f : FuncId}{caps : List D}{rav : AV}(k : Nat){id m kk b : Nat}{xs ys : List (List D)}
  (ho : o.op = .call { callee:=.value fop,args:=args,argTypes:=ats }) (hg : o.guard = none) (hdst : o.dst = some d) (hd : Nat.blt d c.n = true) (hl : look sto id = some (.row kk b xs)) (hf : ev ⟨fr,sto⟩ fop = some (.one (.d (.fn f caps))))
  (ha : evL ⟨fr,sto⟩ args.toList = some [.one (.own id m)]) (hC : CallA P f ([.one (.own 1000000 m)] ++ caps.map fun x=>.one (.d x)) [(1000000,.row kk b xs)] rav [(1000000,.row kk b ys)]) (hys : xs.length = ys.length)
  (hk : (fG [(1000000,id)] && iZ [(1000000,id)] && gu [(1000000,AObj.row kk b xs)] [(1000000,id)] && fV [(1000000,id)] && cA [(1000000,id)] [(1000000,AObj.row kk b ys)] && dp [(1000000,AObj.row kk b xs)] ([AV.one (.own 1000000 m)] ++ caps.map fun x=>.one (.d x)) && bm [(1000000,AObj.row kk b xs)] [(1000000,AObj.row kk b xs)] && c7 [(1000000,AObj.row kk b ys)] rav && bm [(1000000,AObj.row kk b ys)] [(1000000,AObj.row kk b ys)] && Nat.ble (k + 16) 1000000) = true)
  (hrn : cX (rn k [(1000000,id)]) [AV.one (.own 1000000 m)] = [.one (.own id m)]) (hrv : dD (rn k [(1000000,id)]) rav = rav)
  (h : ar P c ops st0 rest ⟨(d,rav)::fr,del id sto⟩ (⟨rav,[(id,none)],[id],rng k 16⟩::acc) K) : ar P c ops st0 (o::rest) ⟨fr,sto⟩ acc K:=by
 refine mb hg (Gi k (b':=0) ho (by rw [hdst]; exact hd) hl hf ha hC hys hk hrn hrv) ?_
 rw [hdst]; exact h
end Go.Abs
namespace Go.Abs
open Go Go.Shelf Go.Proofs
variable {P : Program}
theorem Dl {f : FuncId} {x : Int} {k : IntKind} {y : D} {yv : Value} (hfn : ∃ fn, P.funcs[f]? = some fn ∧ (fn.name == "runtime.NumGoroutine") = false ∧ fn.body.isSome = true)
  (hC : ∀ w,Calls P f #[.int k x] w fun e w'=>e = .returned yv∧w' = w) (hy : ∀ σ,Rep σ y yv) : CallA P f [.one (.d (.int k x))] [] (.one (.d y)) []:=by
 refine ⟨hfn,fun w σ φ vs hI hA=>?_⟩
 match vs,hA with
 | [v0],hA =>
   obtain ⟨hv0,_⟩:=hA
   have hv0 : RepC σ φ _ (.d (.int k x)) v0:=hv0
   replace hv0:=hv0.d_inv
   cases hv0
   refine (hC w).mono ?_
   rintro e w' ⟨rfl,rfl⟩
   exact ⟨_,σ,φ,rfl,Sig.le_refl _,fun b hb=>.inl hb,hI,.d (hy σ),fun i e p h1 h2=>(nomatch h1),fun _ _=>rfl,⟨rfl,rfl,rfl,Nat.le_refl _,Nat.le_refl _,fun _ _ _=>rfl⟩⟩
end Go.Abs
namespace Go.Proofs.YtpejdgkaapnekaaGreat
open Go Go.Proofs Go.Shelf Go.Abs
def Hd : Go.Shelf.Ren:=⟨fun | 133=>372 | 128=>261 | n=>n,fun | 51=>251 | 3=>3 | 4=>4 | 46=>192 | 5=>5 | 9=>9 | n=>n,fun | n=>n⟩
theorem Pg : Go.Proofs.Lays.n133 Tryz.prog Hd:={
 mixed:=by kernel_rfl
 f128:=Tryz.func261.trans (congrArg some (by kernel_rfl))
 f133:=Tryz.func372.trans (congrArg some (by kernel_rfl))
 t3:=Tryz.underlying3
 a3:=Tryz.isAgg3
 z3:=Tryz.sizeOf3
 v3:=Tryz.zeroValue3
 t4:=Tryz.underlying4
 a4:=Tryz.isAgg4
 z4:=Tryz.sizeOf4
 v4:=Tryz.zeroValue4
 t5:=Tryz.underlying5
 a5:=Tryz.isAgg5
 z5:=Tryz.sizeOf5
 v5:=Tryz.zeroValue5
 t9:=Tryz.underlying9
 a9:=Tryz.isAgg9
 z9:=Tryz.sizeOf9
 v9:=Tryz.zeroValue9
 t46:=Tryz.underlying192
 a46:=Tryz.isAgg192
 z46:=Tryz.sizeOf192
 v46:=Tryz.zeroValue192
 t51:=Tryz.underlying251
 a51:=Tryz.isAgg251
 z51:=Tryz.sizeOf251
 v51:=Tryz.zeroValue251 }
theorem Ph(x : Nat)(hx : x < 4294967296) : CallA Tryz.prog 372 [.one (.d (.int .u32 x))] [] (.one (.d (.int .i64 (32 - (Lib.bitLen x : Int))))) []:=by
 refine Dl (yv:=.int .i64 (32 - (Lib.bitLen x : Int))) ⟨Tryz.f372,Tryz.func372,by kernel_rfl,by kernel_rfl⟩ (fun w=>?_) (fun σ=>.int ?_)
 ·exact Any.bits_LeadingZeros32 Pg (x : Int) w (by omega) (by omega)
 ·have h:=Any.bitLen_le32 (x : Int) (by omega) (by omega)
  rw [Int.toNat_natCast] at h
  simp only [inR,IntKind.min,IntKind.max,IntKind.signed,IntKind.bits,if_true]
  omega
end Go.Proofs.YtpejdgkaapnekaaGreat
namespace Go.Proofs.YtpejdgkaapnekaaGreat
open Go Go.Abs
attribute [local irreducible] ae OkC ar aA av aN
set_option maxRecDepth 10000
theorem NB(m n : Nat)(h : m < n) : CallA Tryz.prog 355 [.one (.d (bu m)),.one (.d (bu n))] [] (.tup [(false,[.d (bu (m / n))]),(false,[.d (bu (m % n))])]) []:=by
 have hc : decide (iE m n < 0) = true:=by rw [iT h]; rfl
 rw [Nat.div_eq_of_lt h,Nat.mod_eq_of_lt h,show bu 0 = .sl 1 4 [] by unfold bu cO; rw [fK]; rfl]
 refine enter af Tryz.func355 rfl (by decide +kernel) rfl fun hok w0 σ0 φ0 M=>?_
 clear hok
 repeat' (first|(refine h1H ?_; (refine h0H ?_; refine aa J J J J J J J J (vK _ _) J ?_))|(refine h4H ?_; refine bf (kK (s:=4) (k:=1) (b:=4) J) (bH ?_))|refine wG ?_)
 all_goals rfl
theorem BV{m n : Nat}(h : n≤m) : decide (iE m n < 0) = false:=by
 rcases Nat.lt_or_ge n m with h2 | h2
 ·rw [iU h2]; rfl
 ·rw [kS (by omega)]; rfl
theorem PM{n : Nat}(h : (dig n).length = 1) : at_ (dig n) 0 = (n : Int)∧0 < n∧n < 4294967296:=by
 obtain ⟨h1,h2,h3⟩:=cE n
 match hd : dig n,h with
 | [d],_ =>
   rw [hd] at h1 h2 h3
   simp only [ag] at h2
   have h4:=h1 d List.mem_cons_self
   have h5 : d≠0:=by
    rcases h3 with h3 | h3
    ·cases h3
    ·exact h3
   show d = _∧_
   omega
theorem NC(m n : Nat)(d : Int)(hd : d = (n : Int))(hm : (dig m).length≤400)(hn : 0 < n∧n < 4294967296) : CallA Tryz.prog 371 [.one (.d (bu m)),.one (.d (.int .u32 d))] [] (.tup [(false,[.d (bu (m / n))]),(false,[.d (.int .u32 (m % n : Nat))])]) []:=by
 subst hd; exact PN m n hm hn
theorem ND(m n : Nat)(h : n≤m)(hl : (dig n).length = 1)(hm : (dig m).length≤400) : CallA Tryz.prog 355 [.one (.d (bu m)),.one (.d (bu n))] [] (.tup [(false,[.d (bu (m / n))]),(false,[.d (bu (m % n))])]) []:=by
 have hc:=BV h
 obtain ⟨e1,en⟩:=PM hl
 have hlr : ((dig n).map al).length = 1:=by simpa using hl
 have hb : ((((dig n).map al).length : Int) == 1) = true:=by rw [hlr]; rfl
 have hmod : m % n < 4294967296:=Nat.lt_trans (Nat.mod_lt _ en.1) en.2
 refine enter af Tryz.func355 rfl (by decide +kernel) rfl fun hok w0 σ0 φ0 M=>?_
 clear hok
 repeat' (first|(refine h1H ?_; (refine h0H ?_; first|refine aa J J J J J J J J (vK _ _) J ?_|refine az 16 J J J J J J J J (NC _ n _ e1 hm en) J J J ?_|refine az 16 J J J J J J J J (K9 _ (by omega)) J J J ?_))|refine wG ?_)
 all_goals rfl
theorem NF(v : Int)(s : Nat)(hv : 0≤v∧v < 4294967296)(hs : 32 - (Lib.bitLen v.toNat : Int) = (s : Int)) : CallA Tryz.prog 372 [.one (.d (.int .u32 v))] [] (.one (.d (.int .i64 (s : Int)))) []:=by
 obtain ⟨x,rfl⟩:=Int.eq_ofNat_of_zero_le hv.1
 have:=Ph x (by omega)
 rw [Int.toNat_natCast] at hs
 rwa [hs] at this
theorem La(m s : Nat)(hm : (dig m).length≤400)(hs : s≤31) : CallA Tryz.prog 373 [.one (.d (bu m)),.one (.d (.int .i64 s))] [] (.one (.own 10 ((dig m).length + 1))) [(10,.row 1 4 ((wid ((dig m).length + 1) (m * 2 ^ s)).map al))]:=by
 obtain ⟨a1,a2,a3⟩:=cE m
 have:=M5 (dig m) s a1 hm hs
 rwa [a2,show ((m : Int) * 2 ^ s).toNat = m * 2 ^ s by
  rw [show ((m : Int) * 2 ^ s) = ((m * 2 ^ s : Nat) : Int) by simp]; rfl] at this
theorem NG(w a : Nat)(h : a < bp w) : CallA Tryz.prog 374 [.one (.d (cO (wid w a)))] [] (.one (.d (bu a))) []:=by
 have:=Lb (wid w a) (jm w a)
 rwa [kT w a h] at this
theorem NH(W a n : Nat)(hn : n≤W)(hW : W≤1000)(ha : a < bp n) : CallA Tryz.prog 374 [.one (.own 1000000 n)] [(1000000,.row 1 4 ((wid W a).map al))] (.one (.own 1000000 (dig a).length)) [(1000000,.row 1 4 ((wid W a).map al))]:=by
 have hw:=kT W a (Nat.lt_of_lt_of_le ha (jO hn))
 have:=M6 (wid W a) n (by rw [fq]; exact hn) (jm W a) (by rw [fq]; exact hW)
 rwa [zp (l8 (jm W a) (by rw [hw,pwc]; omega)),hw] at this
theorem Lc{st : St}{ρ : List (Nat×Nat)}{j i0 : Nat}{o0 o : AObj}(h0 : Abs.look ρ j = some i0)(h1 : Abs.look st.sto i0 = some o0)(hc : compat o0 o) : ∀ i e,Abs.look ρ j = some i→Abs.look st.sto i = some e→compat e o:=fun i e h2 h3=>by
 rw [h0] at h2; cases h2
 rw [h1] at h3; cases h3
 exact hc
theorem NI{u v un : Nat}{j : Int}(h0 : decide (0≤j) = true)(hv : 0 < v)(hun : un = u % (bp (j + 1).toNat * v)) : un < bp (j.toNat + 1) * v:=by
 have h0:=of_decide_eq_true h0
 rw [hun,show (j + 1).toNat = j.toNat + 1 by omega]
 exact Nat.mod_lt _ (Nat.mul_pos (FA _) hv)
theorem Jr{v u un : Nat}{j : Int}{Q : List Int}{R : List (List D)}{N : Nat}(hv : 0 < v)(h0 : decide (0≤j) = true)(hj : j < (N : Int))(hr : R = Q.map al)(hl : R.length = N)(hQ : Dg Q)(hun : un = u % (bp (j + 1).toNat * v))(hq : ag (Q.drop (j + 1).toNat) = ((u / (bp (j + 1).toNat * v) : Nat) : Int)) :
  -1≤j - 1∧j - 1 < (N : Int)∧R.set j.toNat [.int .u32 ((un / (bp j.toNat * v) : Nat) : Int)] = (Q.set j.toNat ((un / (bp j.toNat * v) : Nat) : Int)).map al∧(R.set j.toNat [.int .u32 ((un / (bp j.toNat * v) : Nat) : Int)]).length = N∧Dg (Q.set j.toNat ((un / (bp j.toNat * v) : Nat) : Int))∧un % (bp j.toNat * v) = u % (bp (j - 1 + 1).toNat * v) ∧
  ag ((Q.set j.toNat ((un / (bp j.toNat * v) : Nat) : Int)).drop (j - 1 + 1).toNat) = ((u / (bp (j - 1 + 1).toNat * v) : Nat) : Int):=by
 have h0:=of_decide_eq_true h0
 obtain ⟨i,rfl⟩:=Int.eq_ofNat_of_zero_le h0
 rw [show ((i : Int) + 1).toNat = i + 1 by omega] at hun hq
 rw [show ((i : Int) - 1 + 1).toNat = i by omega,Int.toNat_natCast]
 exact ⟨by omega,by omega,Hn (W:=0) hv (by omega) hr hl hQ hun hq⟩
theorem oJ{m n s un : Nat}{j : Int}{Q : List Int}(h0 : decide (0≤j) = false)(h1 : -1≤j)(hun : un = (m * 2 ^ s) % (bp (j + 1).toNat * (n * 2 ^ s)))(hq : ag (Q.drop (j + 1).toNat) = (((m * 2 ^ s) / (bp (j + 1).toNat * (n * 2 ^ s)) : Nat) : Int)) : (ag Q).toNat = m / n∧un = m % n * 2 ^ s:=by
 have h0:=of_decide_eq_false h0
 rw [show (j + 1).toNat = 0 by omega,vL,Nat.one_mul] at hun hq
 rw [List.drop_zero,Nat.mul_div_mul_right _ _ (Nat.two_pow_pos s)] at hq
 rw [Nat.mul_mod_mul_right] at hun
 exact ⟨by rw [hq]; rfl,hun⟩
theorem yr{m n s un k : Nat}(hn : 0 < n)(h : un = m % n * 2 ^ s)(hv : n * 2 ^ s < bp (k + 2)) : un < bp (k + 2):=by
 have : m % n * 2 ^ s < n * 2 ^ s:=Nat.mul_lt_mul_of_pos_right (Nat.mod_lt _ hn) (Nat.two_pow_pos s)
 omega
theorem II{a w : Nat}(h : a < bp w) : (dig a).length≤w:=by
 refine Nat.le_of_not_lt fun hc=>?_
 obtain ⟨k,hk⟩ : ∃ k,(dig a).length = k + 1:=⟨(dig a).length - 1,by omega⟩
 obtain ⟨g1,g2,_⟩:=uA hk
 have h3:=jO (show w≤k by omega)
 have h4:=(cE a).1.at (i:=k) (by omega)
 have h5 : (1 : Int) * (bp k : Int)≤at_ (dig a) k * (bp k : Int):=Int.mul_le_mul_of_nonneg_right (by omega) (by omega)
 omega
theorem Ld{Q : List Int}{R : List (List D)}{s W i r a : Nat}(ha : a = r * 2 ^ s)(hs : s≤31)(haW : a < bp W)(hi : i≤(dig a).length)(h0 : decide ((i : Int) < ((dig a).length : Int)) = false)(hiW : (dig a).length≤W)(h : RsI (wid W a) s W i Q R) : R.take (dig a).length = (Q.take (dig a).length).map al∧Dg (Q.take (dig a).length)∧(ag (Q.take (dig a).length)).toNat = r:=by
 have e : i = (dig a).length:=by have:=of_decide_eq_false h0; omega
 rw [← e]
 exact Le ha hs haW e (by omega) h
set_option maxHeartbeats 2000000 in
theorem NJ(m n k : Nat)(h : n≤m)(hl : (dig n).length = k + 2)(hm : (dig m).length≤400)(hn0 : 0 < n) : CallA Tryz.prog 355 [.one (.d (bu m)),.one (.d (bu n))] [] (.tup [(false,[.d (bu (m / n))]),(false,[.d (bu (m % n))])]) []:=by
 have hc:=BV h
 have hnm : (dig n).length≤(dig m).length:=jP h
 obtain ⟨s,hs,hs0,hs1,hvb⟩:=Ho hl
 obtain ⟨hvl,hvt⟩:=Hp hs1 hvb
 obtain ⟨hu1,hu2⟩:=Js (m:=m) (k:=k) hs hs1 (by omega)
 have hv0 : 0 < n * 2 ^ s:=Nat.mul_pos hn0 (Nat.two_pow_pos s)
 have hlr : ((dig n).map al).length = k + 2:=by simpa using hl
 have hvr : ((dig (n * 2 ^ s)).map al).length = k + 2:=by simpa using hvl
 have hvN : (((dig (n * 2 ^ s)).map al).length : Int).toNat = k + 2:=by rw [hvr]; rfl
 have hb : ((((dig n).map al).length : Int) == 1) = false:=by rw [hlr]; exact beq_false_of_ne (by omega)
 have ei : ((((dig n).map al).length : Int) - 1).toNat = k + 1:=by rw [hlr]; omega
 have hd5 : 0≤at_ (dig n) ((((dig n).map al).length : Int) - 1).toNat∧at_ (dig n) ((((dig n).map al).length : Int) - 1).toNat < 4294967296:=by rw [ei]; exact (cE n).1.at (by omega)
 have hs5 : 32 - (Lib.bitLen (at_ (dig n) ((((dig n).map al).length : Int) - 1).toNat).toNat : Int) = (s : Int):=by rw [ei]; exact hs0
 have hv5 : n * 2 ^ s < bp ((dig n).length + 1):=Nat.lt_of_lt_of_le hvb (jO (by omega))
 have hfin : ∀ (q : Nat×List Int×List (List D)) (p : Int×Nat×List Int×List (List D)),decide ((q.1 : Int) < ((dig p.2.1).length : Int)) = false→decide (0≤p.1) = false→-1≤p.1→p.2.1 = (m * 2 ^ s) % (bp (p.1 + 1).toNat * (n * 2 ^ s))→ag (p.2.2.1.drop (p.1 + 1).toNat) = (((m * 2 ^ s) / (bp (p.1 + 1).toNat * (n * 2 ^ s)) : Nat) : Int)→q.1≤(dig p.2.1).length→(dig p.2.1).length≤(dig m).length + 1→RsI (wid ((dig m).length + 1) p.2.1) s ((dig m).length + 1) q.1 q.2.1 q.2.2 →
   q.2.2.take (dig p.2.1).length = (q.2.1.take (dig p.2.1).length).map al∧Dg (q.2.1.take (dig p.2.1).length)∧(ag (q.2.1.take (dig p.2.1).length)).toNat = m % n :=
  fun q p h1 h2 h3 h4 h5 h6 h7 h8=>Ld (oJ h2 h3 h4 h5).2 hs (Nat.lt_of_lt_of_le (yr hn0 (oJ h2 h3 h4 h5).2 hvb) (jO (by omega))) h6 h1 h7 h8
 refine enter af Tryz.func355 rfl (by decide +kernel) rfl fun hok w0 σ0 φ0 M=>?_
 clear hok
 repeat' (first|(refine h1H ?_; (refine h0H ?_; first|refine az 60 J J J J J J J J (Po n s (by omega) hs) J J J ?_|refine az 60 J J J J J J J J (NG _ _ hv5) J J J ?_))|(refine h1H ?_; (refine h7H ?_; refine fi au 10 J J J (bO (n:=(dig m).length + 1 - (k + 2)) J J J J J (by omega) (by omega) (by omega) (Nat.le_of_ble_eq_true J)) J J ?_))|(refine h1H ?_; (refine h0H ?_; refine ey 10 [] (rav':=.one (.own 20 ((dig m).length + 1))) (La m s hm hs) J J J J J J trivial di J J J J ?_))|(refine h1H ?_; (refine PO ?_; refine Hq au (lo:=p.1.toNat) (n:=(dig (n * 2 ^ s)).length + 1) J J J J J J J J J J wB wB wB (by simp [fq]) ?_))|(refine h1H ?_; (refine h0H ?_; refine ey 40 [(1000000,20)] (rav':=.one (.d (.int .u32 ((p.2.1 / (bp p.1.toNat * (n * 2 ^ s)) : Nat) : Int)))) (NK (n * 2 ^ s) k p.1.toNat ((dig m).length + 1) p.2.1 hvl hvt (by omega) (by omega) (by omega) (NI h hv0 hun)) J J J J J J ⟨⟨20,rfl,rfl⟩,trivial⟩ ⟨Lc (i0:=20) J J ⟨rfl,rfl,by simp [fq]⟩,trivial⟩ J J J J ?_))|(refine h1H ?_; (refine PQ ?_; refine s_e au J J J (fp J J J J J J (by omega) (by omega) (by simp [fq])) ?_))|(refine h1H ?_; (refine h0H ?_; first|refine ey 40 [(1000000,20)] (rav':=.one (.own 20 (dig p.2.1).length)) (NH ((dig m).length + 1) p.2.1 (((dig (n * 2 ^ s)).map al).length : Int).toNat (by omega) (by omega) (by rw [hvN]; exact yr hn0 (oJ h hk1 hun hq).2 hvb)) J J J J J J ⟨⟨20,rfl,rfl⟩,trivial⟩ ⟨Lc (i0:=20) J J ⟨rfl,rfl,Nat.le_refl _⟩,trivial⟩ J J J J ?_|refine dR 60 [10] J J J J J J J J J (nB _ p.2.2.1 (m / n) (vM hr hl2) hL (oJ ‹decide (0≤p.1) = false› hk1 hun hq).1) J J J ?_|refine dR 80 [20] J J J J J J J J J (nB _ _ (m % n) (hfin q p h ‹decide (0≤p.1) = false› hk1 hun hq hq1 hLW ⟨hR1,hR2,hR3,hR4,hR5⟩).1 (hfin q p h ‹decide (0≤p.1) = false› hk1 hun hq hq1 hLW ⟨hR1,hR2,hR3,hR4,hR5⟩).2.1 (hfin q p h ‹decide (0≤p.1) = false› hk1 hun hq hq1 hLW ⟨hR1,hR2,hR3,hR4,hR5⟩).2.2) J J J ?_|refine aa J J J J J J J J (vK _ _) J ?_|refine aa J J J J J J J J (NF _ s hd5 hs5) J ?_))|(refine h3H ?_; (refine PR ?_; refine d_e au J J J (FB J J J (by omega)) ?_))|(refine h3H ?_; (refine PS ?_; refine d_e au J J J (dS J J J J (ea (eR hR1) (by simp only [List.length_set]; have:=of_decide_eq_true h; omega)) J) ?_))|refine wG ?_|(refine h4H ?_; first|refine ah J (fun h=>?_) (fun h=>?_)|refine ca 16 J [(8,_),(12,_),(14,_),(83,_)] (q4Q J J J J) (fun (q : Nat×List Int×List (List D))=>[(84,.one (.d (.int .i64 (q.1 : Int))))]) (fun (q : Nat×List Int×List (List D))=>[(20,.row 1 4 q.2.2),(10,.row 1 4 p.2.2.2)]) (fun (q : Nat×List Int×List (List D))=>q.1≤(dig p.2.1).length∧(dig p.2.1).length≤(dig m).length + 1∧RsI (wid ((dig m).length + 1) p.2.1) s ((dig m).length + 1) q.1 q.2.1 q.2.2) (fun (q : Nat×List Int×List (List D))=>(dig p.2.1).length - q.1) (0,wid ((dig m).length + 1) p.2.1,(wid ((dig m).length + 1) p.2.1).map al) (q1Q J) wK ?_ (fun q ⟨hq1,hLW,hR1,hR2,hR3,hR4,hR5⟩=>?_)|refine ca 11 J [(8,_),(9,_),(10,_),(11,_),(12,_)] (q5Q J J J J J) (fun (p : Int×Nat×List Int×List (List D))=>[(13,.one (.d (.int .i64 p.1)))]) (fun (p : Int×Nat×List Int×List (List D))=>[(20,.row 1 4 ((wid ((dig m).length + 1) p.2.1).map al)),(10,.row 1 4 p.2.2.2)]) (fun (p : Int×Nat×List Int×List (List D))=>-1≤p.1∧p.1 < (((dig m).length + 1 - (k + 2) : Nat) : Int)∧p.2.2.2 = p.2.2.1.map al∧p.2.2.2.length = (dig m).length + 1 - (k + 2)∧Dg p.2.2.1∧p.2.1 = (m * 2 ^ s) % (bp (p.1 + 1).toNat * (n * 2 ^ s))∧ag (p.2.2.1.drop (p.1 + 1).toNat) = (((m * 2 ^ s) / (bp (p.1 + 1).toNat * (n * 2 ^ s)) : Nat) : Int)) (fun (p : Int×Nat×List Int×List (List D))=>(p.1 + 1).toNat) ((((dig m).length + 1 : Nat) : Int) - (((dig (n * 2 ^ s)).map al).length : Int) - 1,m * 2 ^ s,List.replicate ((dig m).length + 1 - (k + 2)) 0,List.replicate ((dig m).length + 1 - (k + 2)) [.int .u32 0]) (q1Q J) wK ?_ (fun p ⟨hk1,hk2,hr,hl2,hL,hun,hq⟩=>?_))|(show Exists _; first|refine Exists.intro (((p.1 - 1),p.2.1 % (bp p.1.toNat * (n * 2 ^ s)),p.2.2.1.set p.1.toNat ((p.2.1 / (bp p.1.toNat * (n * 2 ^ s)) : Nat) : Int),p.2.2.2.set p.1.toNat [.int .u32 ((p.2.1 / (bp p.1.toNat * (n * 2 ^ s)) : Nat) : Int)])) ⟨?_,?_,wK,(q1Q J),(q5Q J J J J J)⟩|refine Exists.intro ((q.1 + 1,(q.2.1.set q.1 (rsX (at_ q.2.1 q.1) s)).set q.1 (shO (at_ (q.2.1.set q.1 (rsX (at_ q.2.1 q.1) s)) q.1) (shV (at_ (q.2.1.set q.1 (rsX (at_ q.2.1 q.1) s)) (q.1 + 1)) (32 - (s : Int)))),(q.2.2.set q.1 [.int .u32 (rsX (at_ q.2.1 q.1) s)]).set q.1 [.int .u32 (shO (at_ (q.2.1.set q.1 (rsX (at_ q.2.1 q.1) s)) q.1) (shV (at_ (q.2.1.set q.1 (rsX (at_ q.2.1 q.1) s)) (q.1 + 1)) (32 - (s : Int))))])) ⟨?_,?_,wK,(q1Q J),(q4Q J J J J)⟩|refine Exists.intro ((q.1 + 1,q.2.1.set q.1 (rsX (at_ q.2.1 q.1) s),q.2.2.set q.1 [.int .u32 (rsX (at_ q.2.1 q.1) s)])) ⟨?_,?_,wK,(q1Q J),(q4Q J J J J)⟩))
 ·show -1≤(((dig m).length + 1 : Nat) : Int) - (((dig (n * 2 ^ s)).map al).length : Int) - 1∧(((dig m).length + 1 : Nat) : Int) - (((dig (n * 2 ^ s)).map al).length : Int) - 1 < _∧_∧_∧_∧m * 2 ^ s = _ % (bp ((((dig m).length + 1 : Nat) : Int) - (((dig (n * 2 ^ s)).map al).length : Int) - 1 + 1).toNat * _)∧ag ((List.replicate _ (0 : Int)).drop ((((dig m).length + 1 : Nat) : Int) - (((dig (n * 2 ^ s)).map al).length : Int) - 1 + 1).toNat) = ((_ / (bp ((((dig m).length + 1 : Nat) : Int) - (((dig (n * 2 ^ s)).map al).length : Int) - 1 + 1).toNat * _) : Nat) : Int)
  rw [hvr,show ((((dig m).length + 1 : Nat) : Int) - ((k + 2 : Nat) : Int) - 1 + 1).toNat = (dig m).length + 1 - (k + 2) by omega]
  refine ⟨by omega,by omega,by simp [al],by simp,Dg.zeros _,(Nat.mod_eq_of_lt hu1).symm,?_⟩
  rw [Nat.div_eq_of_lt hu1,List.drop_eq_nil_of_le (by simp)]; rfl
 ·exact Jr hv0 h hk2 hr hl2 hL hun hq
 ·have h0:=of_decide_eq_true h
  show (p.1 - 1 + 1).toNat < (p.1 + 1).toNat
  omega
 ·have hun2:=(oJ h hk1 hun hq).2
  have hul:=II (yr hn0 hun2 hvb)
  exact ⟨Nat.zero_le _,by omega,rfl,by simp [fq],jm _ _,fun t _=>rfl,by
   show ag ((wid ((dig m).length + 1) p.2.1).take 0) * 2 ^ s = ag ((wid ((dig m).length + 1) p.2.1).take 0) - _ + pw 0 * _
   rw [List.take_zero,mz]; simp only [ag]; rw [Int.zero_mul]; omega⟩
 ·have hlt:=of_decide_eq_true h
  exact ⟨by show q.1 + 1≤_; omega,hLW,Hr hs (fq _ _) (by omega) (jm _ _) ⟨hR1,hR2,hR3,hR4,hR5⟩⟩
 ·have hlt:=of_decide_eq_true h
  show (dig p.2.1).length - (q.1 + 1) < (dig p.2.1).length - q.1
  omega
 ·have hlt:=of_decide_eq_true ‹decide ((q.1 : Int) < ((dig p.2.1).length : Int)) = true›
  have hge:=of_decide_eq_false h
  have hun2:=(oJ ‹decide (0≤p.1) = false› hk1 hun hq).2
  have hul:=Nat.lt_of_lt_of_le (yr hn0 hun2 hvb) (jO (show k + 2≤(dig m).length + 1 by omega))
  have hz:=l8 (k:=(dig p.2.1).length) (jm ((dig m).length + 1) p.2.1) (by rw [kT _ _ hul,pwc]; have:=oK p.2.1; omega) (q.1 + 1) (by omega)
  exact ⟨by show q.1 + 1≤_; omega,hLW,Hs hs (fq _ _) (by omega) (jm _ _) hz ⟨hR1,hR2,hR3,hR4,hR5⟩⟩
 ·have hlt:=of_decide_eq_true ‹decide ((q.1 : Int) < ((dig p.2.1).length : Int)) = true›
  show (dig p.2.1).length - (q.1 + 1) < (dig p.2.1).length - q.1
  omega
 ·rfl
theorem vF : mT:=fun m n hn hm hd=>by
 unfold dl at hm hd
 rcases Nat.lt_or_ge m n with h | h
 ·exact NB m n h
 ·have hne : (dig n).length≠0:=fun e=>by
   have:=oK n
   rw [e,vL] at this; omega
  by_cases h1 : (dig n).length = 1
  ·exact ND m n h h1 (by omega)
  ·exact NJ m n ((dig n).length - 2) h (by omega) (by omega) (by omega)
structure RatOk (a1 b1 a2 b2 : Nat) : Prop where
 h1 : b1≠0
 h2 : b2≠0
 l1 : (dig a1).length≤400
 l2 : (dig b1).length≤400
 l3 : (dig a2).length≤400
 l4 : (dig b2).length≤400
 m1 : dl (a1 * b2)≤100
 m2 : dl (a2 * b1)≤100
 m3 : dl (b1 * b2)≤100
 m4 : dl (a1 * b2 + a2 * b1)≤100
 m5 : dl (a1 * a2)≤100
 m6 : dl (b1 * a2)≤100
theorem RatOk.add(hD : mT){a1 b1 a2 b2 : Nat}(h : RatOk a1 b1 a2 b2)(s1 s2 minus : Bool) : CallA Tryz.prog 359 [.one (.d (cz s1 a1 b1)),.one (.d (cz s2 a2 b2)),.one (.d (.bool minus))] [] (.one (.d (pN s1 a1 b1 s2 a2 b2 minus))) [] :=
 Qu hD s1 a1 b1 s2 a2 b2 minus h.h1 h.h2 h.l1 h.l2 h.l3 h.l4 (Nat.le_trans h.m1 (by omega)) (Nat.le_trans h.m2 (by omega)) h.m3 h.m4 (Nat.le_trans (jP (Nat.sub_le _ _)) h.m1) (Nat.le_trans (jP (Nat.sub_le _ _)) h.m2)
theorem Qv(hD : mT)(s1 : Bool)(a1 b1 : Nat)(s2 : Bool)(a2 b2 : Nat)(hR : RatOk a1 b1 a2 b2) : CallA Tryz.prog 321 [.one (.d (cz s1 a1 b1)),.one (.d (cz s2 a2 b2))] [] (.one (.d (pN s1 a1 b1 s2 a2 b2 false))) []:=by
 refine enter af Tryz.func321 rfl (by decide +kernel) rfl fun hok w0 σ0 φ0 M=>?_
 clear hok
 repeat' (first|(refine h1H ?_; (refine h0H ?_; refine az 16 J J J J J J J J (hR.add hD _ _ _) J J J ?_))|refine wG ?_)
 all_goals rfl
theorem LF(hD : mT)(s1 : Bool)(a1 b1 : Nat)(s2 : Bool)(a2 b2 : Nat)(hR : RatOk a1 b1 a2 b2) : CallA Tryz.prog 322 [.one (.d (cz s1 a1 b1)),.one (.d (cz s2 a2 b2))] [] (.one (.d (pN s1 a1 b1 s2 a2 b2 true))) []:=by
 refine enter af Tryz.func322 rfl (by decide +kernel) rfl fun hok w0 σ0 φ0 M=>?_
 clear hok
 repeat' (first|(refine h1H ?_; (refine h0H ?_; refine az 16 J J J J J J J J (hR.add hD _ _ _) J J J ?_))|refine wG ?_)
 all_goals rfl
set_option maxHeartbeats 1000000 in
theorem Qw(hD : mT)(s1 : Bool)(a1 b1 : Nat)(s2 : Bool)(a2 b2 : Nat)(hR : RatOk a1 b1 a2 b2) : CallA Tryz.prog 323 [.one (.d (cz s1 a1 b1)),.one (.d (cz s2 a2 b2))] [] (.one (.d (zQ (s1 != s2) (a1 * a2) (b1 * b2)))) []:=by
 obtain ⟨h1,h2,l1,l2,l3,l4,m1,m2,m3,m4,m5,m6⟩:=hR
 have hb12 : b1 * b2≠0:=Nat.mul_ne_zero h1 h2
 have v1 : decide (b1≠0) = true:=by simp [h1]
 have v2 : decide (b2≠0) = true:=by simp [h2]
 refine enter af Tryz.func323 rfl (by decide +kernel) rfl fun hok w0 σ0 φ0 M=>?_
 clear hok
 repeat' (first|(refine h1H ?_; (refine h0H ?_; refine aa J J J J J J J J (pO _ _ _) J ?_))|(refine h3H ?_; (refine h2H ?_; first|refine bh 16 J J J J J J J J (zR _ _ l1 l3) J J ?_|refine bh 16 J J J J J J J J (zR _ _ l2 l4) J J ?_|refine bh 16 J J J J J J J J (DK hD _ _ _ m5 m3 hb12) J J ?_))|refine wG ?_|(refine h1H ?_; (refine h5H ?_; refine aJ J J J J (fun h=>?_) (fun h=>?_)))|(refine h4H ?_; refine ah J (fun h=>?_) (fun h=>?_)))
 all_goals first
  | rfl
  | (exfalso; simp_all; done)
  | skip
set_option maxHeartbeats 1000000 in
theorem Qx(hD : mT)(s1 : Bool)(a1 b1 : Nat)(s2 : Bool)(a2 b2 : Nat)(hR : RatOk a1 b1 a2 b2)(h0 : a2≠0) : CallA Tryz.prog 362 [.one (.d (cz s1 a1 b1)),.one (.d (cz s2 a2 b2))] [] (.tup [(false,[.d (zQ (s1 != s2) (a1 * b2) (b1 * a2))]),(false,[.d (.int .i64 0)])]) []:=by
 obtain ⟨h1,h2,l1,l2,l3,l4,m1,m2,m3,m4,m5,m6⟩:=hR
 have hb12 : b1 * a2≠0:=Nat.mul_ne_zero h1 h0
 have v1 : decide (b1≠0) = true:=by simp [h1]
 have v2 : decide (b2≠0) = true:=by simp [h2]
 have v3 : ((((dig a2).map al).length : Int) == 0) = false:=by rw [qW]; simp [h0]
 refine enter af Tryz.func362 rfl (by decide +kernel) rfl fun hok w0 σ0 φ0 M=>?_
 clear hok
 repeat' (first|(refine h1H ?_; (refine h0H ?_; refine aa J J J J J J J J (pO _ _ _) J ?_))|(refine h3H ?_; (refine h2H ?_; first|refine bh 16 J J J J J J J J (zR _ _ l1 l4) J J ?_|refine bh 16 J J J J J J J J (zR _ _ l2 l3) J J ?_|refine bh 16 J J J J J J J J (DK hD _ _ _ m1 m6 hb12) J J ?_))|refine wG ?_|(refine h1H ?_; (refine h5H ?_; refine aJ J J J J (fun h=>?_) (fun h=>?_)))|(refine h4H ?_; refine ah J (fun h=>?_) (fun h=>?_)))
 all_goals first
  | rfl
  | (exfalso; simp_all; done)
  | skip
set_option maxHeartbeats 1000000 in
theorem NX(s1 : Bool)(a1 b1 : Nat)(s2 : Bool)(b2 : Nat)(h1 : b1≠0)(h2 : b2≠0) : CallA Tryz.prog 362 [.one (.d (cz s1 a1 b1)),.one (.d (cz s2 0 b2))] [] (.tup [(false,[.d (.raw (.pointer none))]),(false,[.d (.int .i64 2)])]) []:=by
 have v1 : decide (b1≠0) = true:=by simp [h1]
 have v2 : decide (b2≠0) = true:=by simp [h2]
 have v3 : ((((dig 0).map al).length : Int) == 0) = true:=by rw [qW]; simp
 refine enter af Tryz.func362 rfl (by decide +kernel) rfl fun hok w0 σ0 φ0 M=>?_
 clear hok
 repeat' (first|(refine h1H ?_; (refine h0H ?_; refine aa J J J J J J J J (pO _ _ _) J ?_))|refine wG ?_|(refine h1H ?_; (refine h5H ?_; refine aJ J J J J (fun h=>?_) (fun h=>?_)))|(refine h4H ?_; refine ah J (fun h=>?_) (fun h=>?_)))
 all_goals first
  | rfl
  | (exfalso; simp_all; done)
  | skip
def iH(n : Nat) : Int×Bool:=if n≤1099511627776 then (n,true) else (0,false)
theorem DO(n : Nat) : CallA Tryz.prog 352 [.one (.d (bu n))] [] (.tup [(false,[.d (.int .i64 (iH n).1)]),(false,[.d (.bool (iH n).2)])]) []:=by
 unfold iH
 by_cases h : n≤1099511627776
 ·rw [if_pos h]; exact N1 n h
 ·rw [if_neg h]; exact N2 n h
def DP(k num den : Int) : AV:=.agg [.d (.int .i64 k),.d (.int .i64 num),.d (.int .i64 den),.d (.str [])]
theorem HT(r : Int) : CallA Tryz.prog 353 [.one (.d (.int .i64 r))] [] (DP 0 r 0) []:=by
 refine enter af Tryz.func353 rfl (by decide +kernel) rfl fun hok w0 σ0 φ0 M=>?_
 clear hok
 repeat' (first|refine wG ?_)
 all_goals rfl
def DQ(neg : Bool)(a b : Nat) : AV:=if a≤1099511627776∧b≤1099511627776 then DP 2 (if neg = true then -(a : Int) else a) b else DP 0 2 0
theorem QG(neg : Bool)(a b : Nat)(hb : b≠0) : CallA Tryz.prog 313 [.one (.d (cz neg a b))] [] (DQ neg a b) []:=by
 have v1 : decide (b≠0) = true:=by simp [hb]
 have hsp : (a≤1099511627776∧b≤1099511627776∧(iH a).2 = true∧(iH a).1 = a∧(iH b).2 = true∧(iH b).1 = b)∨(¬ a≤1099511627776∧(iH a).2 = false)∨(a≤1099511627776∧¬ b≤1099511627776∧(iH a).2 = true∧(iH b).2 = false):=by
  unfold iH
  by_cases h1 : a≤1099511627776 <;> by_cases h2 : b≤1099511627776 <;> simp [h1,h2]
 unfold DQ
 rcases hsp with ⟨h1,h2,e1,e2,e3,e4⟩ | ⟨h1,e1⟩ | ⟨h1,h2,e1,e2⟩
 ·rw [if_pos ⟨h1,h2⟩]
  have hc:=DO a
  have hc2:=DO b
  rw [e1,e2] at hc
  rw [e3,e4] at hc2
  refine enter af Tryz.func313 rfl (by decide +kernel) rfl fun hok w0 σ0 φ0 M=>?_
  clear hok
  repeat' (first|(refine h1H ?_; (refine h0H ?_; first|refine aa J J J J J J J J (pO _ _ _) J ?_|refine aa J J J J J J J J (hc) J ?_|refine aa J J J J J J J J (hc2) J ?_))|refine wG ?_|(refine h4H ?_; refine ah J (fun h=>?_) (fun h=>?_)))
  all_goals first
   | (exfalso; simp_all; done)
   | (simp only [*,if_true,if_false,Bool.false_eq_true]; rfl)
   | (rw [if_pos h,Int.zero_sub]; rfl)
   | skip
 ·rw [if_neg (fun h=>h1 h.1)]
  refine enter af Tryz.func313 rfl (by decide +kernel) rfl fun hok w0 σ0 φ0 M=>?_
  clear hok
  repeat' (first|(refine h1H ?_; (refine h0H ?_; first|refine aa J J J J J J J J (pO _ _ _) J ?_|refine aa J J J J J J J J (DO _) J ?_|refine aa J J J J J J J J (HT _) J ?_))|refine wG ?_|(refine h1H ?_; (refine h5H ?_; refine aJ J J J J (fun h=>?_) (fun h=>?_)))|(refine h4H ?_; refine ah J (fun h=>?_) (fun h=>?_)))
  all_goals first
   | rfl
   | (exfalso; simp_all; done)
   | skip
 ·rw [if_neg (fun h=>h2 h.2)]
  refine enter af Tryz.func313 rfl (by decide +kernel) rfl fun hok w0 σ0 φ0 M=>?_
  clear hok
  repeat' (first|(refine h1H ?_; (refine h0H ?_; first|refine aa J J J J J J J J (pO _ _ _) J ?_|refine aa J J J J J J J J (DO _) J ?_|refine aa J J J J J J J J (HT _) J ?_))|refine wG ?_|(refine h1H ?_; (refine h5H ?_; refine aJ J J J J (fun h=>?_) (fun h=>?_)))|(refine h4H ?_; refine ah J (fun h=>?_) (fun h=>?_)))
  all_goals first
   | rfl
   | (exfalso; simp_all; done)
   | skip
def bc(v : Val) : AV:=.agg [.d (.int .i64 v.kind),.d (.int .i64 v.num),.d (.int .i64 v.den),.d (.str v.str)]
def aC(b : Bool) : Val:=⟨1,if b then 1 else 0,0,[]⟩
def isV(v : Val)(k : Int) : Bool:=v.kind == 0 || v.kind == k
def gG(a b : Val) : Bool:=a.kind == 0 || isV b a.kind
def sgF(a b : Int) : Int:=if a < b then -1 else if b < a then 1 else 0
theorem yU(b : Bool) : CallA Tryz.prog 310 [.one (.d (.bool b))] [] (bc (aC b)) []:=by
 refine enter af Tryz.func310 rfl (by decide +kernel) rfl fun hok w0 σ0 φ0 M=>?_
 clear hok
 repeat' (first|refine wG ?_|(refine h4H ?_; refine ah J (fun h=>?_) (fun h=>?_)))
 all_goals first | rfl | (simp_all [bc,aC,isV]; done)
theorem G5(v : Val)(k : Int) : CallA Tryz.prog 336 [bc v,.one (.d (.int .i64 k))] [] (.one (.d (.bool (isV v k)))) []:=by
 unfold bc
 refine enter af Tryz.func336 rfl (by decide +kernel) rfl fun hok w0 σ0 φ0 M=>?_
 clear hok
 repeat' (first|refine wG ?_|(refine h1H ?_; (refine h5H ?_; refine aJ J J J J (fun h=>?_) (fun h=>?_))))
 all_goals first | rfl | (simp_all [bc,aC,isV]; done)
theorem KJ(l : D) : CallA Tryz.prog 316 [.one (.d l)] [] (.one (.d (.bool true))) []:=by
 refine enter af Tryz.func316 rfl (by decide +kernel) rfl fun hok w0 σ0 φ0 M=>?_
 clear hok
 repeat' (first|refine wG ?_)
 all_goals first | rfl | (simp_all [bc,aC,isV]; done)
theorem OX(a b : Int) : CallA Tryz.prog 380 [.one (.d (.int .i64 a)),.one (.d (.int .i64 b))] [] (.one (.d (.int .i64 (sgF a b)))) []:=by
 refine enter af Tryz.func380 rfl (by decide +kernel) rfl fun hok w0 σ0 φ0 M=>?_
 clear hok
 repeat' (first|refine wG ?_|(refine h4H ?_; refine ah J (fun h=>?_) (fun h=>?_)))
 all_goals (refine congrArg (fun x=>AV.one (.d (.int .i64 x))) ?_; simp only [decide_eq_true_eq,decide_eq_false_iff_not] at *; unfold sgF; first | (rw [if_pos (by assumption)]; done) | (rw [if_neg (by omega),if_pos (by omega)]; done) | (rw [if_neg (by omega),if_neg (by omega)]; done))
theorem OY(a b : Int) : CallA Tryz.prog 383 [.one (.d (.int .i64 a)),.one (.d (.int .i64 b))] [] (.one (.d (.int .i64 (sgF a b)))) []:=by
 refine enter af Tryz.func383 rfl (by decide +kernel) rfl fun hok w0 σ0 φ0 M=>?_
 clear hok
 repeat' (first|refine wG ?_|(refine h4H ?_; refine ah J (fun h=>?_) (fun h=>?_)))
 all_goals (refine congrArg (fun x=>AV.one (.d (.int .i64 x))) ?_; simp only [decide_eq_true_eq,decide_eq_false_iff_not] at *; unfold sgF; first | (rw [if_pos (by assumption)]; done) | (rw [if_neg (by omega),if_pos (by omega)]; done) | (rw [if_neg (by omega),if_neg (by omega)]; done))
theorem OZ(o : Int) : CallA Tryz.prog 326 [.one (.d (.int .i64 o))] [] (.one (.d (.bool (o == 0)))) []:=by
 refine enter af Tryz.func326 rfl (by decide +kernel) rfl fun hok w0 σ0 φ0 M=>?_
 clear hok
 repeat' (first|refine wG ?_)
 all_goals rfl
theorem O3(o : Int) : CallA Tryz.prog 327 [.one (.d (.int .i64 o))] [] (.one (.d (.bool (o != 0)))) []:=by
 refine enter af Tryz.func327 rfl (by decide +kernel) rfl fun hok w0 σ0 φ0 M=>?_
 clear hok
 repeat' (first|refine wG ?_)
 all_goals rfl
theorem O4(o : Int) : CallA Tryz.prog 328 [.one (.d (.int .i64 o))] [] (.one (.d (.bool (decide (o < 0))))) []:=by
 refine enter af Tryz.func328 rfl (by decide +kernel) rfl fun hok w0 σ0 φ0 M=>?_
 clear hok
 repeat' (first|refine wG ?_)
 all_goals rfl
theorem O5(o : Int) : CallA Tryz.prog 329 [.one (.d (.int .i64 o))] [] (.one (.d (.bool (decide (o≤0))))) []:=by
 refine enter af Tryz.func329 rfl (by decide +kernel) rfl fun hok w0 σ0 φ0 M=>?_
 clear hok
 repeat' (first|refine wG ?_)
 all_goals rfl
theorem O6(o : Int) : CallA Tryz.prog 330 [.one (.d (.int .i64 o))] [] (.one (.d (.bool (decide (0 < o))))) []:=by
 refine enter af Tryz.func330 rfl (by decide +kernel) rfl fun hok w0 σ0 φ0 M=>?_
 clear hok
 repeat' (first|refine wG ?_)
 all_goals rfl
theorem O7(o : Int) : CallA Tryz.prog 331 [.one (.d (.int .i64 o))] [] (.one (.d (.bool (decide (0≤o))))) []:=by
 refine enter af Tryz.func331 rfl (by decide +kernel) rfl fun hok w0 σ0 φ0 M=>?_
 clear hok
 repeat' (first|refine wG ?_)
 all_goals rfl
theorem O8(l : List Val)(hl : 1≤l.length) : CallA Tryz.prog 309 [.one (.d (aG l))] [] (bc (aC ((at_ l 0).num == 0))) []:=by
 refine enter af Tryz.func309 rfl (by decide +kernel) rfl fun hok w0 σ0 φ0 M=>?_
 clear hok
 repeat' (first|(refine h1H ?_; (refine h0H ?_; refine aa J J J J J J J J (yU _) J ?_))|refine wG ?_)
 all_goals rfl
theorem O9(l : List Val)(hl : 1≤l.length) : CallA Tryz.prog 318 [.one (.d (aG l))] [] (bc (aC ((at_ l 0).kind == 0))) []:=by
 refine enter af Tryz.func318 rfl (by decide +kernel) rfl fun hok w0 σ0 φ0 M=>?_
 clear hok
 repeat' (first|(refine h1H ?_; (refine h0H ?_; refine aa J J J J J J J J (yU _) J ?_))|refine wG ?_)
 all_goals rfl
theorem Pa(l : List Val)(hl : 1≤l.length) : CallA Tryz.prog 319 [.one (.d (aG l))] [] (bc ⟨2,if (at_ l 0).kind == 0 then (at_ l 0).num else 0,1,[]⟩) []:=by
 refine enter af Tryz.func319 rfl (by decide +kernel) rfl fun hok w0 σ0 φ0 M=>?_
 clear hok
 repeat' (first|refine wG ?_|(refine h4H ?_; refine ah J (fun h=>?_) (fun h=>?_)))
 all_goals first | rfl | (simp_all [bc,aC,isV]; done)
theorem Pb(l : List Val)(hl : 2≤l.length) : CallA Tryz.prog 334 [.one (.d (aG l))] [] (bc (if (at_ l 0).kind == 0 then at_ l 1 else at_ l 0)) []:=by
 refine enter af Tryz.func334 rfl (by decide +kernel) rfl fun hok w0 σ0 φ0 M=>?_
 clear hok
 repeat' (first|refine wG ?_|(refine h4H ?_; refine ah J (fun h=>?_) (fun h=>?_)))
 all_goals first | rfl | (simp_all [bc,aC,isV]; done)
theorem Pc(l : List Val)(hl : 3≤l.length) : CallA Tryz.prog 337 [.one (.d (aG l))] [] (bc (if (at_ l 0).kind == 0 then at_ l 0 else if (at_ l 0).num == 1 then at_ l 1 else at_ l 2)) []:=by
 refine enter af Tryz.func337 rfl (by decide +kernel) rfl fun hok w0 σ0 φ0 M=>?_
 clear hok
 repeat' (first|refine wG ?_|(refine h4H ?_; refine ah J (fun h=>?_) (fun h=>?_)))
 all_goals first | rfl | (simp_all [bc,aC,isV]; done)
theorem qu(l : List Val)(hl : 2≤l.length) : CallA Tryz.prog 333 [.one (.d (aG l))] [] (.one (.d (.bool (gG (at_ l (l.length - 2)) (at_ l (l.length - 1)))))) []:=by
 refine enter af Tryz.func333 rfl (by decide +kernel) rfl fun hok w0 σ0 φ0 M=>?_
 have h1:=hok.1.sl.1; clear hok; simp only [List.length_map] at h1
 have e1 : (((l.map ab).length : Int) - 2).toNat = l.length - 2:=by rw [List.length_map]; omega
 have e2 : (((l.map ab).length : Int) - 1).toNat = l.length - 1:=by rw [List.length_map]; omega
 repeat' (first|(refine h1H ?_; (refine h0H ?_; refine aa J J J J J J J J (G5 _ _) J ?_))|refine wG ?_|(refine h1H ?_; (refine h5H ?_; refine aJ J J J J (fun h=>?_) (fun h=>?_))))
 all_goals first | (rw [e1,e2]; rw [e1] at h; simp [gG,h]; done) | (rw [e1] at h; simp [gG,h]; done)
theorem Pd(l : List Val)(hl : 3≤l.length) : CallA Tryz.prog 335 [.one (.d (aG l))] [] (.one (.d (.bool (isV (at_ l 0) 1 && gG (at_ l (l.length - 2)) (at_ l (l.length - 1)))))) []:=by
 refine enter af Tryz.func335 rfl (by decide +kernel) rfl fun hok w0 σ0 φ0 M=>?_
 clear hok
 repeat' (first|(refine h1H ?_; (refine h0H ?_; first|refine aa J J J J J J J J (G5 _ _) J ?_|refine aa J J J J J J J J (qu _ (by omega)) J ?_))|refine wG ?_|(refine h1H ?_; (refine h5H ?_; refine aJ J J J J (fun h=>?_) (fun h=>?_))))
 all_goals first | rfl | (simp_all; done)
theorem ph(l : List Val)(kd : Int) : CallA Tryz.prog 350 [.one (.d (aG l)),.one (.d (.ptr [.int .i64 kd]))] [] (.one (.d (.bool (l.all fun v=>isV v kd)))) []:=by
 refine enter af Tryz.func350 rfl (by decide +kernel) rfl fun hok w0 σ0 φ0 M=>?_
 have h1:=hok.1.sl.1; clear hok; simp only [List.length_map] at h1
 repeat' (first|(refine h1H ?_; (refine h0H ?_; refine aa J J J J J J J J (G5 _ _) J ?_))|refine wG ?_|(refine h4H ?_; first|refine ah J (fun h=>?_) (fun h=>?_)|refine aH 2 J [(1,_),(6,_),(7,_)] (q3Q J J J) (fun (k : Nat)=>[(8,.one (.d (.int .i64 (k : Int))))]) (fun (k : Nat)=>k≤l.length∧l.all (fun v=>isV v kd) = (l.drop k).all (fun v=>isV v kd)) (fun (k : Nat)=>l.length - k) 0 (q1Q J) ?_ (fun k ⟨hk,hq⟩=>?_))|(show Exists _; refine Exists.intro (k + 1) ⟨?_,?_,wK,(q1Q J),(q3Q J J J)⟩))
 all_goals (try (((simp_all [ao,List.drop_eq_nil_of_le]) <;> exact wL); done))
end Go.Proofs.YtpejdgkaapnekaaGreat
