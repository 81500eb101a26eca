import Derived.Lib.ItoaNum
import Derived.Shelf.Small.Bits
import Derived.Test.YtpejdgkaapnekaaGreatKP20
import Derived.Test.YtpejdgkaapnekaaGreatKP14
import Derived.Test.YtpejdgkaapnekaaGreatKP18
import Derived.Test.YtpejdgkaapnekaaGreatKP6
import Derived.Test.YtpejdgkaapnekaaGreatKTab
set_option linter.unusedVariables false
set_option linter.unusedSimpArgs false
set_option maxHeartbeats 1000000
namespace Go.Proofs.YtpejdgkaapnekaaGreat
open Go Go.Abs
attribute [local irreducible] aa OkC ak av aq aI
set_option maxRecDepth 10000
theorem Ax(v:Int)(m:Nat)(hv:v=(m:Int))(hm:m<18446744073709551616):CallA Tryz.prog 370 [.one (.d (.int .u64 v))] [] (.one (.d (bJ m))) []:=by
 subst hv;exact O7 m hm
def di(neg:Bool)(a b:Nat):D:=.ptr [.bool neg,bJ a,bJ b]
theorem ou{b:Nat}:(decide ((0:Int)<(((dig b).map aw).length:Int)))=decide (b≠0):=by
 by_cases h:b=0
 ·subst h;simp[gL]
 ·rw[l8 h];simp[h]
theorem sH{b:Nat}:((((dig b).map aw).length:Int)==0)=decide (b=0):=by
 by_cases h:b=0
 ·subst h;simp[gL]
 ·rw[l8 h];simp[h];omega
theorem NS{v:Int}(hr:-9223372036854775808≤v∧v≤9223372036854775807)(h:v<0):IntKind.u64.wrap (0-IntKind.u64.wrap v)=(v.natAbs:Int):=by
 show (0-v % 18446744073709551616) % 18446744073709551616=_
 omega
theorem NT{v:Int}(h:¬ v<0):v=(v.natAbs:Int):=by omega
theorem Wx(v:Int):CallA Tryz.prog 354 [.one (.d (.int .i64 v))] [] (.one (.d (bJ v.natAbs))) []:=by
 refine enter af Tryz.func354 rfl (by decide +kernel) rfl fun hok w0 σ0 φ0 M=>?_
 have hr:=OkD.i64 hok.1
 have hb:v.natAbs<18446744073709551616:=by omega
 clear hok
 repeat' (first|(refine h1H ?_;(refine h0H ?_;first|refine aM 16 J J J J J J J J (Ax _ v.natAbs (NS hr (Yg h)) hb) J J J ?_|refine aM 16 J J J J J J J J (Ax _ v.natAbs (NT (Yh h)) hb) J J J ?_))|refine wG ?_|(refine h2H ?_;refine aj J (fun h=>?_) (fun h=>?_)))
 all_goals rfl
theorem rr(neg:Bool)(a b:Nat):CallA Tryz.prog 351 [.one (.d (di neg a b))] [] (.one (.d (.bool (decide (b≠0))))) []:=by
 refine enter af Tryz.func351 rfl (by decide +kernel) rfl fun hok w0 σ0 φ0 M=>?_
 clear hok
 repeat' (first|refine wG ?_)
 all_goals rw[ou]
theorem Wq(neg:Bool)(a b:Nat):CallA Tryz.prog 385 [.one (.d (di neg a b))] [] (.one (.d (.int .i64 (if b=0∨a=0 then 0 else if neg then -1 else 1)))) []:=by
 refine enter af Tryz.func385 rfl (by decide +kernel) rfl fun hok w0 σ0 φ0 M=>?_
 clear hok
 repeat' (first|(refine h1H ?_;(refine h0H ?_;refine ae J J J J J J J J (rr _ _ _) J ?_))|refine wG ?_|(refine h1H ?_;(refine dv ?_;refine bx J J J J (fun h=>?_) (fun h=>?_)))|(refine h2H ?_;refine aj J (fun h=>?_) (fun h=>?_)))
 all_goals (try rw[sH] at *)
 all_goals simp_all
theorem Wy(k num den:Int)(str:List UInt8):CallA Tryz.prog 314 [.agg [.d (.int .i64 k),.d (.int .i64 num),.d (.int .i64 den),.d (.str str)]] [] (.one (.d (di (decide (num<0)) num.natAbs den.natAbs))) []:=by
 refine enter af Tryz.func314 rfl (by decide +kernel) rfl fun hok w0 σ0 φ0 M=>?_
 clear hok
 repeat' (first|(refine h2H ?_;refine bm (bq (dl:=[1]) J) (cr ?_))|(refine h4H ?_;(refine h3H ?_;refine bz 16 J J J J J J J J (Wx _) J J ?_))|refine wG ?_)
 all_goals rfl
theorem NU{n:Nat}(h:n<18446744073709551616):(dig n).length≤2:=by
 by_cases h0:n=0
 ·subst h0;simp[gL]
 ·rw[l8 h0]
  by_cases h1:n / 4294967296=0
  ·rw[h1,gL];simp
  ·rw[l8 h1,show n / 4294967296 / 4294967296=0 by omega,gL];simp
def yx(a d:Int)(k:Nat):Int:=IntKind.u64.wrap ((BitVec.ofInt IntKind.u64.bits a ||| BitVec.ofInt IntKind.u64.bits (IntKind.u64.wrap (IntKind.u64.wrap d*2^min (32*(k:Int)).toNat IntKind.u64.bits))).toNat:Int)
theorem Qn{d:Int}(hd:0≤d∧d<4294967296):yx 0 d 0=d:=by
 obtain⟨b,rfl⟩:=Xh hd.1
 unfold yx
 rw[show (IntKind.u64.wrap (b:Int)*2^min (32*((0:Nat):Int)).toNat IntKind.u64.bits)=IntKind.u64.wrap (b:Int)*1 from rfl,Int.mul_one,ed (v:=(b:Int)) (by omega) (by omega),ed (v:=(b:Int)) (by omega) (by omega)]
 have h:=yy (a:=0) (b:=b) (by omega) (by omega)
 simp only[Int.natCast_zero,Int.zero_mul,Nat.zero_mul,Xp] at h
 rw[show ((BitVec.ofInt IntKind.u64.bits 0 ||| BitVec.ofInt IntKind.u64.bits (b:Int)).toNat)=b from h,ed (by omega) (by omega)]
theorem Qo{a d:Int}(ha:0≤a∧a<4294967296)(hd:0≤d∧d<4294967296):yx a d 1=a+4294967296*d:=by
 obtain⟨b,rfl⟩:=Xh hd.1
 obtain⟨c,rfl⟩:=Xh ha.1
 unfold yx
 rw[show (IntKind.u64.wrap (b:Int)*2^min (32*((1:Nat):Int)).toNat IntKind.u64.bits)=IntKind.u64.wrap (b:Int)*4294967296 from rfl,ed (v:=(b:Int)) (by omega) (by omega),ed (v:=(b:Int)*4294967296) (by omega) (by omega)]
 have h:=yy (a:=b) (b:=c) (by omega) (by omega)
 rw[BitVec.or_comm] at h
 rw[show ((BitVec.ofInt IntKind.u64.bits (c:Int) ||| BitVec.ofInt IntKind.u64.bits ((b:Int)*4294967296)).toNat)=b*4294967296+c from h,ed (by omega) (by omega)]
 omega
theorem Rs(n:Nat)(hn:n≤1099511627776):CallA Tryz.prog 352 [.one (.d (bJ n))] [] (.tup [(false,[.d (.int .i64 n)]),(false,[.d (.bool true)])]) []:=by
 have hl:=NU (n:=n) (by omega)
 have hc:decide ((0:Int)<nh n 1099511627776)=false:=by
  refine decide_eq_false ?_
  rcases XM n 1099511627776 with h|h
  ·rw[qe h];omega
  ·rw[tz (by omega)];omega
 refine enter af Tryz.func352 rfl (by decide +kernel) rfl fun hok w0 σ0 φ0 M=>?_
 clear hok
 repeat' (first|(refine h1H ?_;(refine h0H ?_;first|refine ae J J J J J J J J (xL _ _) J ?_|refine aM 16 J J J J J J J J (Ax 1099511627776 1099511627776 J (by omega)) J J J ?_))|refine wG ?_|(refine h2H ?_;first|refine aj J (fun h=>?_) (fun h=>?_)|refine cu 5 J [(11,_),(12,_)] (q2Q J J) (fun (p:Nat×Int)=>[(13,.one (.d (.int .i64 (p.1:Int)))),(4,.one (.d (.int .u64 p.2)))]) (fun (p:Nat×Int)=>p.1≤(dig n).length∧p.2=ag ((dig n).take p.1)) (fun (p:Nat×Int)=>(dig n).length-p.1) (0,0) (q2Q J J) ?_ (fun p ⟨hk,hv⟩=>?_))|(show Exists _;refine Exists.intro ((p.1+1,yx p.2 (at_ (dig n) p.1) p.1)) ⟨?_,?_,wK,(q2Q J J),(q2Q J J)⟩))
 ·exact⟨Xk _,by simp[ag]⟩
 ·have hlt:p.1<(dig n).length:=by simpa using h
  refine⟨hlt,?_⟩
  obtain⟨hD,hV,_⟩:=dt n
  show yx p.2 (at_ (dig n) p.1) p.1=ag ((dig n).take (p.1+1))
  rw[bK hlt]
  have hc01:p.1=0∨p.1=1:=by omega
  obtain⟨k,a⟩:=p
  rcases hc01 with e|e
  ·subst e
   simp only at hv ⊢
   rw[hv,List.take_zero]
   simp only[ag]
   rw[Qn (hD.at hlt),nJ]
   show at_ (dig n) 0=0+1*at_ (dig n) 0
   omega
  ·subst e
   simp only at hv ⊢
   have h0:0<(dig n).length:=Nat.lt_trans Nat.zero_lt_one hlt
   have e1:ag ((dig n).take 1)=at_ (dig n) 0:=by
    rw[bK h0,List.take_zero,nJ];simp[ag]
   rw[hv,e1,Qo (hD.at h0) (hD.at hlt)]
   rfl
 ·have hlt:p.1<(dig n).length:=by simpa using h
  show (dig n).length-(p.1+1)<(dig n).length-p.1
  omega
 ·have hge:(dig n).length≤p.1:=by simpa using h
  rw[WY hge,(dt n).2.1] at hv
  rw[hv,fx (by omega) (by omega)]
theorem Rt(n:Nat)(hn:¬ n≤1099511627776):CallA Tryz.prog 352 [.one (.d (bJ n))] [] (.tup [(false,[.d (.int .i64 0)]),(false,[.d (.bool false)])]) []:=by
 have hc:decide ((0:Int)<nh n 1099511627776)=true:=by
  refine decide_eq_true ?_
  rw[qf (by omega)];omega
 refine enter af Tryz.func352 rfl (by decide +kernel) rfl fun hok w0 σ0 φ0 M=>?_
 clear hok
 repeat' (first|(refine h1H ?_;(refine h0H ?_;first|refine ae J J J J J J J J (xL _ _) J ?_|refine aM 16 J J J J J J J J (Ax 1099511627776 1099511627776 J (by omega)) J J J ?_))|refine wG ?_)
 all_goals rfl
def dl(n:Nat):Nat:=(dig n).length
theorem kM{m n:Nat}(h:m≤n):dl m≤dl n:=by
 refine Yp fun hc=>?_
 have:=pd hc;omega
def n5:Prop:=∀ m n:Nat,n≠0→dl m≤100→dl n≤100→CallA Tryz.prog 355 [.one (.d (bJ m)),.one (.d (bJ n))] [] (.tup [(false,[.d (bJ (m / n))]),(false,[.d (bJ (m % n))])]) []
theorem tO{b:Nat}(h:decide ((0:Int)<(((dig b).map aw).length:Int))=true):b≠0:=by rw[ou] at h;exact Yg h
theorem CL{b:Nat}(h:decide ((0:Int)<(((dig b).map aw).length:Int))=false):b=0:=by rw[ou] at h;exact Decidable.not_not.1 (Yh h)
theorem WE(hD:n5)(m n:Nat)(hm:dl m≤100)(hn:dl n≤100):CallA Tryz.prog 378 [.one (.d (bJ m)),.one (.d (bJ n))] [] (.one (.d (bJ (Nat.gcd m n)))) []:=by
 refine enter af Tryz.func378 rfl (by decide +kernel) rfl fun hok w0 σ0 φ0 M=>?_
 clear hok
 repeat' (first|(refine h1H ?_;(refine h0H ?_;refine aM 16 J J J J J J J J (hD _ _ (tO h) hb1 hb2) J J J ?_))|refine wG ?_|(refine h2H ?_;first|refine aj J (fun h=>?_) (fun h=>?_)|refine cu 1 J [] aW (fun (p:Nat×Nat)=>[(0,.one (.d (bJ p.1))),(1,.one (.d (bJ p.2)))]) (fun (p:Nat×Nat)=>Nat.gcd p.1 p.2=Nat.gcd m n∧dl p.1≤100∧dl p.2≤100) (fun (p:Nat×Nat)=>p.2) (m,n) (q2Q J J) ?_ (fun p ⟨hg,hb1,hb2⟩=>?_))|(show Exists _;refine Exists.intro ((p.2,p.1 % p.2)) ⟨?_,?_,wK,(q2Q J J),aW⟩))
 ·exact⟨rfl,hm,hn⟩
 ·have hp:p.2≠0:=tO h
  refine⟨?_,hb2,Xg (kM (Nat.le_of_lt (Nat.mod_lt _ (Nat.pos_of_ne_zero hp)))) hb2⟩
  show Nat.gcd p.2 (p.1 % p.2)=_
  rw[← hg,Nat.gcd_comm p.1 p.2]
  conv=>rhs;rw[Nat.gcd_rec,Nat.gcd_comm]
 ·exact Nat.mod_lt _ (Nat.pos_of_ne_zero (tO h))
 ·have e:=CL h
  rw[← hg,e,Nat.gcd_zero_right]
theorem KY{m n:Nat}:decide (m / Nat.gcd m n≠0)=decide (m≠0):=by
 by_cases h:m=0
 ·subst h;simp
 ·have hp:=Nat.pos_of_ne_zero h
  have hd:m / Nat.gcd m n≠0:=Nat.ne_of_gt (Nat.div_pos (Nat.le_of_dvd hp (Nat.gcd_dvd_left m n)) (Nat.gcd_pos_of_pos_left n hp))
  simp[h,hd]
theorem FZ(hD:n5)(neg:Bool)(m n:Nat)(hm:dl m≤100)(hn:dl n≤100)(hn0:n≠0):CallA Tryz.prog 360 [.one (.d (.bool neg)),.one (.d (bJ m)),.one (.d (bJ n))] [] (.one (.d (di (neg&&decide (m≠0)) (m / Nat.gcd m n) (n / Nat.gcd m n)))) []:=by
 have hg0:Nat.gcd m n≠0:=fun h=>hn0 (Nat.eq_zero_of_gcd_eq_zero_right h)
 have hgb:dl (Nat.gcd m n)≤100:=Xg (kM (Nat.le_of_dvd (Nat.pos_of_ne_zero hn0) (Nat.gcd_dvd_right m n))) hn
 refine enter af Tryz.func360 rfl (by decide +kernel) rfl fun hok w0 σ0 φ0 M=>?_
 clear hok
 repeat' (first|(refine h1H ?_;(refine h0H ?_;first|refine ae J J J J J J J J (WC _) J ?_|refine aM 16 J J J J J J J J (WE hD _ _ hm hn) J J J ?_|refine aM 16 J J J J J J J J (hD _ _ hg0 hm hgb) J J J ?_|refine aM 16 J J J J J J J J (hD _ _ hg0 hn hgb) J J J ?_))|(refine h2H ?_;refine bm (bq (dl:=[0]) J) (cr ?_))|refine wG ?_|(refine h1H ?_;(refine dv ?_;refine bx J J J J (fun h=>?_) (fun h=>?_)))|(refine h2H ?_;refine aj J (fun h=>?_) (fun h=>?_)))
 ·show AV.one (.d (di (decide ((0:Int)<(((dig (m / Nat.gcd m n)).map aw).length:Int))) (m / Nat.gcd m n) (n / Nat.gcd m n)))=_
  rw[ou,h,Bool.true_and,KY]
 ·have h':neg=false:=h
  subst h';rfl
 ·have hg1:Nat.gcd m n=1:=by simpa using ‹(!Nat.gcd m n==1)=false›
  show AV.one (.d (di (decide ((0:Int)<(((dig m).map aw).length:Int))) m n))=_
  rw[ou,h,Bool.true_and,hg1,Nat.div_one,Nat.div_one]
 ·have hg1:Nat.gcd m n=1:=by simpa using ‹(!Nat.gcd m n==1)=false›
  have h':neg=false:=h
  subst h'
  rw[hg1,Nat.div_one,Nat.div_one];rfl
def BL(neg:Bool)(m n:Nat):D:=di (neg&&decide (m≠0)) (m / Nat.gcd m n) (n / Nat.gcd m n)
def rq(s1:Bool)(a1 b1:Nat)(s2:Bool)(a2 b2:Nat)(minus:Bool):D :=
 if (s1==(!(s2==minus)))=true then BL (!(s2==minus)) (a1*b2+a2*b1) (b1*b2) else if a2*b1≤a1*b2 then BL s1 (a1*b2-a2*b1) (b1*b2) else BL (!(s2==minus)) (a2*b1-a1*b2) (b1*b2)
theorem I6{m n:Nat}(h:decide ((0:Int)≤nh m n)=true):n≤m:=by
 refine Yp fun hc=>?_
 have:=Yg h
 rw[qe hc] at this;omega
theorem I7{m n:Nat}(h:decide ((0:Int)≤nh m n)=false):m<n:=by
 refine Nat.lt_of_not_le fun hc=>?_
 have:=Yh h
 rcases XM n m with h2|h2
 ·rw[qf h2] at this;omega
 ·rw[tz (by omega)] at this;omega
set_option maxHeartbeats 1000000 in
theorem T7(hD:n5)(s1:Bool)(a1 b1:Nat)(s2:Bool)(a2 b2:Nat)(minus:Bool)(h1:b1≠0)(h2:b2≠0)(l1:(dig a1).length≤400)(l2:(dig b1).length≤400)(l3:(dig a2).length≤400)(l4:(dig b2).length≤400)
  (m1:(dig (a1*b2)).length≤400) (m2:(dig (a2*b1)).length≤400) (m3:dl (b1*b2)≤100) (m4:dl (a1*b2+a2*b1)≤100) (m5:dl (a1*b2-a2*b1)≤100) (m6:dl (a2*b1-a1*b2)≤100) :
  CallA Tryz.prog 359 [.one (.d (di s1 a1 b1)),.one (.d (di s2 a2 b2)),.one (.d (.bool minus))] [] (.one (.d (rq s1 a1 b1 s2 a2 b2 minus))) []:=by
 have hb12:b1*b2≠0:=Nat.mul_ne_zero h1 h2
 have v1:decide (b1≠0)=true:=by simp[h1]
 have v2:decide (b2≠0)=true:=by simp[h2]
 refine enter af Tryz.func359 rfl (by decide +kernel) rfl fun hok w0 σ0 φ0 M=>?_
 clear hok
 repeat' (first|(refine h1H ?_;(refine h0H ?_;first|refine ae J J J J J J J J (rr _ _ _) J ?_|refine ae J J J J J J J J (xL _ _) J ?_|refine aM 16 J J J J J J J J (Pe _ _ (by omega) (by omega)) J J J ?_|refine aM 16 J J J J J J J J (Qu _ _ (by omega) (Nat.le_of_lt (I7 h))) J J J ?_|refine aM 16 J J J J J J J J (FZ hD _ _ _ (by omega) (by omega) hb12) J J J ?_))|(refine h4H ?_;(refine h3H ?_;first|refine bz 16 J J J J J J J J (BM _ _ (by omega) (by omega)) J J ?_|refine bz 16 J J J J J J J J (Qu _ _ (by omega) (I6 h)) J J ?_|refine bz 16 J J J J J J J J (FZ hD _ _ _ (by omega) (by omega) hb12) J J ?_))|refine wG ?_|(refine h1H ?_;(refine dv ?_;refine bx J J J J (fun h=>?_) (fun h=>?_)))|(refine h2H ?_;refine aj J (fun h=>?_) (fun h=>?_)))
 all_goals first
  | (exfalso;simp_all;done)
  | skip
 ·unfold rq;rw[if_pos h];rfl
 ·have hs:=‹(s1==!s2==minus)=false›
  unfold rq;rw[if_neg (by rw[hs];simp),if_pos (I6 h)];rfl
 ·have hs:=‹(s1==!s2==minus)=false›
  unfold rq;rw[if_neg (by rw[hs];simp),if_neg (Nat.not_le_of_lt (I7 h))];rfl
end Go.Proofs.YtpejdgkaapnekaaGreat
namespace Go.Proofs.YtpejdgkaapnekaaGreat
open Go Go.Abs
def bp(k:Nat):Nat:=4294967296^k
theorem pwc(k:Nat):pw k=((bp k:Nat):Int):=by
 unfold pw bp
 induction k with
 | zero=>rfl
 | succ k ih=>rw[Int.pow_succ,Nat.pow_succ,Ya,ih];rfl
theorem H8(k:Nat):0<bp k:=Nat.pow_pos (by omega)
theorem tG(k:Nat):bp (k+1)=bp k*4294967296:=by unfold bp;rw[Nat.pow_succ]
theorem Iw(a b:Nat):bp (a+b)=bp a*bp b:=by unfold bp;rw[Nat.pow_add]
theorem xM:bp 0=1:=rfl
theorem kL{a b:Nat}(h:a≤b):bp a≤bp b:=Nat.pow_le_pow_right (by omega) h
theorem kf:∀ (w n:Nat),Dg (wid w n)
 | 0,_=>fun d hd=>by simp[wid] at hd
 | w+1,n=>fun d hd=>by
   rcases Xo.1 hd with rfl|hd
   ·omega
   ·exact kf w _ d hd
theorem lY:∀ (w n:Nat),n<bp w→ag (wid w n)=n
 | 0,n,h=>by
   have:n=0:=by rw[xM] at h;omega
   subst this;rfl
 | w+1,n,h=>by
   simp only[wid,ag]
   rw[lY w (n / 4294967296) (by rw[tG] at h;exact Yc (by rw[Yo];exact h))]
   omega
theorem qi(n:Nat):n<bp (dig n).length:=by
 obtain⟨h1,h2,_⟩:=dt n
 have:=(eo h1).2
 rw[h2,pwc] at this
 omega
theorem wy{n k:Nat}(h:(dig n).length=k+1):at_ (dig n) k≠0∧at_ (dig n) k*bp k≤n∧(n:Int)<(at_ (dig n) k+1)*bp k:=by
 obtain⟨h1,h2,h3⟩:=dt n
 have e:=bK (l:=dig n) (k:=k) (by omega)
 rw[show k+1=(dig n).length by omega,XT,h2] at e
 have hb:=eo (h1.take k)
 rw[show ((dig n).take k).length=k by simp;omega] at hb
 have hne:at_ (dig n) k≠0:=by
  rcases h3 with h3|h3
  ·rw[h3] at h;cases h
  ·rwa [h] at h3
 rw[pwc,XI] at e
 rw[pwc] at hb
 rw[Int.add_mul,Int.one_mul]
 exact⟨hne,by omega,by omega⟩
theorem Kf{v k:Nat}(h1:2147483648*bp (k+1)≤v)(h2:v<bp (k+2)):(dig v).length=k+2∧2147483648≤at_ (dig v) (k+1):=by
 have hl:(dig v).length=k+2:=by
  rcases Nat.lt_trichotomy (dig v).length (k+2) with h|h|h
  ·have:=qi v
   have h3:=kL (show (dig v).length≤k+1 by omega)
   omega
  ·exact h
  ·obtain⟨m,hm⟩:∃ m,(dig v).length=m+1:=⟨(dig v).length-1,by omega⟩
   obtain⟨g1,g2,_⟩:=wy hm
   have h3:=kL (show k+2≤m by omega)
   have h4:=(dt v).1.at (i:=m) (by omega)
   have h5:(1:Int)*(bp m:Int)≤at_ (dig v) m*(bp m:Int):=Int.mul_le_mul_of_nonneg_right (by omega) (by omega)
   omega
 refine⟨hl,?_⟩
 obtain⟨g1,g2,g3⟩:=wy hl
 refine Classical.byContradiction fun hc=>?_
 have h5:(at_ (dig v) (k+1)+1)*(bp (k+1):Int)≤2147483648*(bp (k+1):Int):=Int.mul_le_mul_of_nonneg_right (by omega) (by omega)
 omega
theorem Ke{n k:Nat}(hl:(dig n).length=k+2):∃ s:Nat,s≤31∧32-(Lib.bitLen (at_ (dig n) (k+1)).toNat:Int)=(s:Int)∧2147483648*bp (k+1)≤n*2^s∧n*2^s<bp (k+2):=by
 obtain⟨g1,g2,g3⟩:=wy hl
 have h4:=(dt n).1.at (i:=k+1) (by omega)
 obtain⟨t,ht⟩:=Xh h4.1
 rw[ht] at g1 g2 g3 h4 ⊢
 rw[Xr]
 have hb:=Lib.bitLenAux_bounds 64 t (by omega) (by omega)
 have hle:=Lib.bitLen_le t 32 (by omega) (by omega)
 change 1≤Lib.bitLen t∧2^(Lib.bitLen t-1)≤t∧t<2^Lib.bitLen t at hb
 obtain⟨b1,b2,b3⟩:=hb
 generalize Lib.bitLen t=b at *
 refine⟨32-b,by omega,by omega,?_,?_⟩
 ·have e:(2147483648:Nat)=2^(b-1)*2^(32-b):=by rw[← Nat.pow_add,show b-1+(32-b)=31 by omega]
  have h5:2^(b-1)*2^(32-b)*bp (k+1)≤t*2^(32-b)*bp (k+1):=Xn _ (Xn _ b2)
  have h6:t*bp (k+1)*2^(32-b)≤n*2^(32-b):=Xn _ (by omega)
  rw[Nat.mul_right_comm] at h6
  rw[e];omega
 ·have e:(4294967296:Nat)=2^b*2^(32-b):=by rw[← Nat.pow_add,show b+(32-b)=32 by omega]
  have h5:n<(t+1)*bp (k+1):=by
   have:(n:Int)<(((t+1)*bp (k+1):Nat):Int):=by rw[Ya,Int.natCast_add];exact g3
   omega
  have h6:n*2^(32-b)<(t+1)*bp (k+1)*2^(32-b):=Nat.mul_lt_mul_of_pos_right h5 (Nat.two_pow_pos _)
  have h7:(t+1)*2^(32-b)*bp (k+1)≤2^b*2^(32-b)*bp (k+1):=Xn _ (Xn _ b3)
  rw[Nat.mul_right_comm] at h6
  rw[← e] at h7
  rw[tG (k+1),Yo (bp (k+1))]
  omega
theorem MT{m v k s:Nat}(hs:s≤31)(hv:2147483648*bp (k+1)≤v)(hl:k+2≤(dig m).length):m*2^s<bp ((dig m).length+1-(k+2))*v∧m*2^s<bp ((dig m).length+1):=by
 have h1:=qi m
 have hp:2^s≤2147483648:=Nat.pow_le_pow_right (by omega) hs
 have h2:m*2^s<bp (dig m).length*2147483648:=Xz (Nat.mul_lt_mul_of_pos_right h1 (Nat.two_pow_pos s)) (Nat.mul_le_mul_left _ hp)
 constructor
 ·have h3:=Nat.mul_le_mul_left (bp ((dig m).length+1-(k+2))) hv
  have e:bp ((dig m).length+1-(k+2))*(2147483648*bp (k+1))=bp (dig m).length*2147483648:=by
   rw[Nat.mul_left_comm,← Iw,show (dig m).length+1-(k+2)+(k+1)=(dig m).length by omega,Yo]
  omega
 ·rw[tG]
  exact Xz h2 (Nat.mul_le_mul_left _ (W6 rfl))
theorem Q8(v k j W un:Nat)(hl:(dig v).length=k+2)(ht:2147483648≤at_ (dig v) (k+1))(hk:k+2≤400)(hW:W≤1000)(hj:j+(k+2)+1≤W)(hu:un<bp (j+1)*v) :
  CallA Tryz.prog 375 [.one (.sub 1000000 j ((dig v).length+1)),.one (.d (bJ v))] [(1000000,.row 1 4 ((wid W un).map aw))] (.one (.d (.int .u32 ((un / (bp j*v):Nat):Int)))) [(1000000,.row 1 4 ((wid W (un % (bp j*v))).map aw))]:=by
 obtain⟨h1,h2,_⟩:=dt v
 have hvb:=qi v
 have hub:un<bp W:=by
  refine Xz hu (Xg (Nat.mul_le_mul_left _ (Nat.le_of_lt hvb)) ?_)
  rw[← Iw];exact kL (by omega)
 have hn:=lY W un hub
 have:=Sr (dig v) (wid W un) j k hl (by omega) (by rw[gk];omega) (by rw[gk];omega) h1 (kf W un) ht (by
  rw[hn,h2,pwc,← Ya];omega)
 rw[hn,h2,pwc,← Ya,← Int.natCast_ediv,← Int.natCast_emod,Xr,gk] at this
 exact this
theorem Kd{v j u un W:Nat}{Q:List Int}{R:List (List D)}{N:Nat}(hv:0<v)(hj:j<N)(hr:R=Q.map aw)(hl:R.length=N)(hQ:Dg Q)(hun:un=u % (bp (j+1)*v))(hq:ag (Q.drop (j+1))=((u / (bp (j+1)*v):Nat):Int)) :
  R.set j [.int .u32 ((un / (bp j*v):Nat):Int)]=(Q.set j ((un / (bp j*v):Nat):Int)).map aw∧(R.set j [.int .u32 ((un / (bp j*v):Nat):Int)]).length=N∧Dg (Q.set j ((un / (bp j*v):Nat):Int))∧un % (bp j*v)=u % (bp j*v) ∧
  ag ((Q.set j ((un / (bp j*v):Nat):Int)).drop j)=((u / (bp j*v):Nat):Int):=by
 have hQl:Q.length=N:=n9 hr hl
 have hp:=H8 j
 have hM:0<bp j*v:=Nat.mul_pos hp hv
 have e:bp (j+1)*v=bp j*v*4294967296:=by rw[tG,Nat.mul_right_comm]
 rw[e] at hun hq
 generalize bp j*v=M at *
 have hlt:un<M*4294967296:=by rw[hun];exact Nat.mod_lt _ (by omega)
 have hd:un / M<4294967296:=Yc hlt
 have e1:un % M=u % M:=by rw[hun,Nat.mod_mul_right_mod]
 have e2:u / M=un / M+4294967296*(u / (M*4294967296)):=by
  rw[hun,Nat.mod_mul_right_div_self,← Nat.div_div_eq_div_mul]
  omega
 refine⟨gV hr,by simpa using hl,hQ.set (by clear hun e1 e2;generalize un / M=z at hd ⊢;omega),e1,?_⟩
 rw[au (l:=Q.set j _) (by simp;omega),sx (by omega),List.drop_set_of_lt (by omega)]
 simp only[ag,hq,e2]
 omega
def rsX(x s:Int):Int:=x.fdiv (2^min s.toNat IntKind.u32.bits)
theorem LN{x y:Int}{s:Nat}(hs:s≤31)(hx:0≤x∧x<4294967296)(hy:0≤y∧y<4294967296) :
  rsX x s=x / 2^s∧0≤x / 2^s∧x / 2^s<4294967296∧shO (rsX x s) (shV y (32-(s:Int)))=x / 2^s+y % 2^s*2^(32-s)∧0≤x / 2^s+y % 2^s*2^(32-s)∧x / 2^s+y % 2^s*2^(32-s)<4294967296:=by
 obtain⟨a,rfl⟩:=Xh hx.1
 obtain⟨b,rfl⟩:=Xh hy.1
 have h2:∀ k:Nat,(2:Int)^k=((2^k:Nat):Int):=fun k=>by simp
 have ha:a<4294967296:=by omega
 have hb:b<4294967296:=by omega
 have hsp:4294967296=2^(32-s)*2^s:=by rw[← Nat.pow_add,show 32-s+s=32 by omega]
 have hX:rsX (a:Int) s=((a / 2^s:Nat):Int):=by
  unfold rsX
  have hm:min ((s:Int)).toNat IntKind.u32.bits=s:=by show min s 32=s;omega
  rw[hm,h2,Int.fdiv_eq_ediv_of_nonneg _ (Yq _)];exact (Int.natCast_ediv _ _).symm
 have hp:2^(32-s)≤4294967296:=by
  have:=Nat.pow_le_pow_right (n:=2) (by omega) (show 32-s≤32 by omega)
  exact this
 have hV:shV (b:Int) (32-(s:Int))=((b*2^(32-s):Nat):Int):=by
  unfold shV
  have hm:min (32-(s:Int)).toNat IntKind.u64.bits=32-s:=by show min (32-(s:Int)).toNat 64=32-s;omega
  have hbd:b*2^(32-s)≤4294967295*4294967296:=Nat.mul_le_mul (by omega) hp
  rw[ed (v:=(b:Int)) (by omega) (by omega),hm,h2,← Ya,ed (by omega) (by omega)]
 have hlo:b*2^(32-s) % 4294967296=(b % 2^s)*2^(32-s):=by
  rw[hsp,Yo (2^(32-s)) (2^s),Nat.mul_mod_mul_right]
 have hxs:a / 2^s<2^(32-s):=Yc (by rw[Yo];omega)
 have hbl:(b % 2^s)*2^(32-s)+2^(32-s)≤4294967296:=by
  have h1:b % 2^s+1≤2^s:=Nat.mod_lt _ (Nat.two_pow_pos _)
  have h3:=Xn (2^(32-s)) h1
  rw[Yo (2^s),← hsp,X2,Nat.one_mul] at h3
  exact h3
 have hO:shO (rsX (a:Int) s) (shV (b:Int) (32-(s:Int)))=((a / 2^s+b % 2^s*2^(32-s):Nat):Int):=by
  rw[hX,hV]
  unfold shO
  generalize b*2^(32-s)=v at hlo ⊢
  generalize a / 2^s=x' at hxs ⊢
  simp only[j5]
  have e1:(BitVec.ofInt 32 (x':Int)).toNat=x':=by rw[BitVec.toNat_ofInt];simp;omega
  have e2:(BitVec.ofInt 32 ((v:Int) % 4294967296)).toNat=v % 4294967296:=by rw[BitVec.toNat_ofInt];simp;omega
  have e3:(BitVec.ofInt 32 (x':Int) ||| BitVec.ofInt 32 ((v:Int) % 4294967296)).toNat=x'+v % 4294967296:=by
   rw[BitVec.toNat_or,e1,e2,hlo,HQ hxs]
  rw[show ((BitVec.ofInt IntKind.u32.bits (x':Int) ||| BitVec.ofInt IntKind.u32.bits ((v:Int) % 4294967296)).toNat)=x'+v % 4294967296 from e3]
  rw[hlo];omega
 have hq:(a:Int) / 2^s=((a / 2^s:Nat):Int):=by rw[h2];exact (Int.natCast_ediv _ _).symm
 have hr:(b:Int) % 2^s*2^(32-s)=((b % 2^s*2^(32-s):Nat):Int):=by rw[h2,h2,Ya,Int.natCast_emod]
 rw[hO,hX,hq,hr]
 generalize a / 2^s=x' at *
 generalize b % 2^s*2^(32-s)=y' at *
 exact⟨rfl,by omega,by omega,by omega,by omega,by omega⟩
theorem Bw{l:List Int}{k:Nat}(hz:∀ t,k≤t→at_ l t=0):ag (l.take k)=ag l:=by
 have e:ag l=ag (l.take k)+pw (l.take k).length*ag (l.drop k):=by rw[← lM,X8]
 have e2:∀ (m:List Int),(∀ t,at_ m t=0)→ag m=0:=by
  intro m
  induction m with
  | nil=>intro _;rfl
  | cons d r ih =>
    intro hm
    have h0:d=0:=hm 0
    have h1:=ih (fun t=>hm (t+1))
    simp only[ag,h0,h1];rfl
 rw[e2 (l.drop k) (fun t=>by
  have:=hz (k+t) (by omega)
  simp only[at_,Xi,XC] at this ⊢
  exact this)] at e
 omega
def RsI(A:List Int)(s W i:Nat)(Q:List Int)(R:List (List D)):Prop :=
 R=Q.map aw∧R.length=W∧Dg Q∧(∀ t,i≤t→at_ Q t=at_ A t)∧ag (Q.take i)*2^s=ag (A.take i)-at_ A 0 % 2^s+pw i*(at_ A i % 2^s)
theorem LO{A Q:List Int}{s i:Nat}{g g0:Int}(hs:s≤31)(hA:i<A.length)(hQl:Q.length=A.length)(hv:ag (Q.take i)*2^s=ag (A.take i)-at_ A 0 % 2^s+pw i*(at_ A i % 2^s))(hAd:Dg A)
  (hg:g=at_ A i / 2^s+at_ A (i+1) % 2^s*2^(32-s)):ag (((Q.set i g0).set i g).take (i+1))*2^s=ag (A.take (i+1))-at_ A 0 % 2^s+pw (i+1)*(at_ A (i+1) % 2^s):=by
 rw[bK (l:=(Q.set i g0).set i g) (by simp;omega),List.take_set_of_le (Xc _),List.take_set_of_le (Xc _),sx (by simp;omega),bK hA,Int.add_mul,hv,hg,dX]
 have e1:(2:Int)^(32-s)*2^s=4294967296:=by rw[← Int.pow_add,show 32-s+s=32 by omega];rfl
 have e2:=Int.mul_ediv_add_emod (at_ A i) (2^s)
 generalize at_ A i / 2^s=x at *
 generalize at_ A i % 2^s=y at *
 generalize at_ A (i+1) % 2^s=z at *
 rw[← e2]
 have e3:pw i*(x+z*2^(32-s))*2^s=pw i*(2^s*x)+4294967296*pw i*z:=by
  rw[XS,Int.add_mul,Xx (pw i) x,XI x,Xx (pw i) (z*_),Xx z,e1,XI z,← Xx (pw i) 4294967296,XI (pw i) 4294967296]
 rw[e3,XS]
 omega
theorem Kh{A Q:List Int}{R:List (List D)}{s W i:Nat}(hs:s≤31)(hA:A.length=W)(hi:i+1<W)(hAd:Dg A)(h:RsI A s W i Q R) :
  RsI A s W (i+1) ((Q.set i (rsX (at_ Q i) s)).set i (shO (at_ (Q.set i (rsX (at_ Q i) s)) i) (shV (at_ (Q.set i (rsX (at_ Q i) s)) (i+1)) (32-(s:Int))))) ((R.set i [.int .u32 (rsX (at_ Q i) s)]).set i [.int .u32 (shO (at_ (Q.set i (rsX (at_ Q i) s)) i) (shV (at_ (Q.set i (rsX (at_ Q i) s)) (i+1)) (32-(s:Int))))]):=by
 obtain⟨hr,hl,hQ,he,hv⟩:=h
 have hQl:Q.length=W:=n9 hr hl
 rw[sx (by omega),fH (by omega),he i (Xc _),he (i+1) (by omega)]
 obtain⟨r1,r2,r3,r4,r5,r6⟩:=LN (x:=at_ A i) (y:=at_ A (i+1)) hs (hAd.at (by omega)) (hAd.at (by omega))
 rw[r4]
 rw[r1]
 refine⟨gV (gV hr),by simpa using hl,(hQ.set ⟨r2,r3⟩).set ⟨r5,r6⟩,fun t ht=>by rw[fH (by omega),fH (by omega)];exact he t (by omega),LO hs (by omega) (by omega) hv hAd rfl⟩
theorem FR{l:List Int}{i:Nat}{x:Int}:(l.set i x).set i x=l.set i x:=by simp
theorem Ki{A Q:List Int}{R:List (List D)}{s W i:Nat}(hs:s≤31)(hA:A.length=W)(hi:i<W)(hAd:Dg A)(hz:at_ A (i+1)=0)(h:RsI A s W i Q R) :
  RsI A s W (i+1) (Q.set i (rsX (at_ Q i) s)) (R.set i [.int .u32 (rsX (at_ Q i) s)]):=by
 obtain⟨hr,hl,hQ,he,hv⟩:=h
 have hQl:Q.length=W:=n9 hr hl
 rw[he i (Xc _)]
 obtain⟨r1,r2,r3,r4,r5,r6⟩:=LN (x:=at_ A i) (y:=0) hs (hAd.at (by omega)) (by omega)
 rw[r1]
 have hg:=LO (g:=at_ A i / 2^s) (g0:=at_ A i / 2^s) hs (by omega) (by omega) hv hAd (by rw[hz,Int.zero_emod,Int.zero_mul,Int.add_zero])
 rw[FR] at hg
 exact⟨gV hr,by simpa using hl,hQ.set ⟨r2,r3⟩,fun t ht=>by rw[fH (by omega)];exact he t (by omega),hg⟩
theorem Pc{Q:List Int}{R:List (List D)}{s W i r a:Nat}(ha:a=r*2^s)(hs:s≤31)(haW:a<bp W)(hi:i=(dig a).length)(hiW:i≤W)(h:RsI (wid W a) s W i Q R):R.take i=(Q.take i).map aw∧Dg (Q.take i)∧(ag (Q.take i)).toNat=r:=by
 obtain⟨hr,hl,hQ,he,hv⟩:=h
 have hA:=kf W a
 have hn:=lY W a haW
 have hz:∀ t,i≤t→at_ (wid W a) t=0:=nk hA (by rw[hn,pwc,hi];have:=qi a;omega)
 rw[Bw hz,hn,hz i (Xc _),Int.zero_emod,Int.mul_zero,Int.add_zero] at hv
 have h0:at_ (wid W a) 0 % 2^s=0:=by
  cases W with
  | zero=>show (0:Int) % 2^s=0;exact Int.zero_emod _
  | succ W =>
    show ((a % 4294967296:Nat):Int) % 2^s=0
    have e:a % 4294967296 % 2^s=0:=by
     rw[Nat.mod_mod_of_dvd _ ⟨2^(32-s),by rw[← Nat.pow_add,show s+(32-s)=32 by omega]⟩,ha,Nat.mul_mod_left]
    rw[show (2:Int)^s=((2^s:Nat):Int) by simp,← Int.natCast_emod,e];rfl
 rw[h0,Int.sub_zero,ha,Ya,show ((2^s:Nat):Int)=(2:Int)^s by simp] at hv
 have:=Int.eq_of_mul_eq_mul_right (Int.ne_of_gt (Int.pow_pos (by omega))) hv
 exact⟨by rw[hr,List.map_take],hQ.take i,by rw[this];rfl⟩
end Go.Proofs.YtpejdgkaapnekaaGreat
namespace Go.Abs
open Go
theorem H9{V:Env}{st:St}{o:Oper}{t ty:TypeId}{x y:Operand}{k k':IntKind}{a b:Int}(ho:o.op=.binOp .shl t x y ty)
  (hx:ev st x=some (.one (.d (.int k a)))) (hy:ev st y=some (.one (.d (.int k' b)))) (h0:0≤b):aR V st o 0=some ⟨.one (.d (.int k (k.wrap (a*2^min b.toNat k.bits)))),[],[]⟩:=by
 have e:¬ b<0:=by omega
 simp only[aR,dg,cL,ho,hx,hy,qE,kK,Yf,ve,df,lv,jI,yn,e,decide_false,Bool.not_false,XV]
 cases o.dst<;>simp[iE]
section
variable {P:Program} {V:Env} {T:Tab} {fr:List (Nat×AV)} {sto:Sto} {w0:World} {σ0:Sig} {φ0:Pl} {M:Nat→Prop} {nn:Nat} {rd:Option Nat} {mk:List Deferred} {ops:Array Oper} {o:Oper} {rest:List Oper} {K:St→Prop}
theorem Kg(hV:EnvOk P V){d:Nat}{t e:TypeId}{x y z:Operand}{id m k k' b b' lo n:Nat}{ik ik':IntKind}{l h:Int}{xs:List (List D)}{zv:List D}(ho:o.op=.slice t x (some y) (some z) none)(hg:o.guard=none)(hdst:o.dst=some d)(hd:Nat.blt d nn=true)(ht:bc V.T t=some (e,k',b',zv))(hx:ev ⟨fr,sto⟩ x=some (.one (.own id m)))
  (hy:ev ⟨fr,sto⟩ y=some (.one (.d (.int ik l)))) (hz:ev ⟨fr,sto⟩ z=some (.one (.d (.int ik' h)))) (hl:look sto id=some (.row k b xs)) (hk:Nat.beq k k'=true) (h0:l=(lo:Int)) (h1:h=(lo:Int)+(n:Int)) (hm:lo+n≤m) (hxs:m≤xs.length)
  (hk2:aa P ⟨w0,σ0,φ0,M,nn,rd,mk⟩ ops rest ⟨(d,.one (.sub id lo n))::fr,sto⟩ K):aa P ⟨w0,σ0,φ0,M,nn,rd,mk⟩ ops (o::rest) ⟨fr,sto⟩ K:=by
 subst h0;subst h1
 have e1:Nat.ble lo (lo+n)=true:=Nat.ble_eq.mpr (by omega)
 have e2:Nat.ble (lo+n) xs.length=true:=Nat.ble_eq.mpr (by omega)
 have e3:Nat.ble (lo+n) m=true:=Nat.ble_eq.mpr hm
 have e4:(0:Int)≤(lo:Int):=Yq _
 have e5:(0:Int)≤(lo:Int)+(n:Int):=by omega
 have e6:((lo:Int)+(n:Int)).toNat=lo+n:=by omega
 cases hb:Nat.beq lo 0 with
 | false =>
   refine s_e hV hg hdst hd ?_ hk2
   simp only[aR,dg,cL,ho,df,iD,hx,hy,hz,e4,e5,decide_true,Yf,iK,ht,hl,hk,Xr,e6,e1,e2,e3,hb,XV,Bool.false_and,Ye,X9]
 | true =>
   have hlo:lo=0:=W4 hb
   refine s_e (v:=.one (.own id (lo+n))) hV hg hdst hd ?_ (cV ?_ hk2)
   ·simp only[aR,dg,cL,ho,df,iD,hx,hy,hz,e4,e5,decide_true,Yf,iK,ht,hl,hk,Xr,e6,e1,e2,e3,hb,XV,Bool.true_and,Bool.or_true]
   ·subst hlo
    rw[Xp]
    intro a w σ φ hr
    refine⟨σ,φ,⟨hr.le,hr.fresh,hr.inv,hr.mine,fun s v hv=>?_,hr.defers,hr.size,hr.fra,hr.pin⟩⟩
    rcases ah hv with⟨rfl,rfl⟩|⟨hne,hv⟩
    ·obtain⟨u,h1,h2⟩:=hr.slot s (.one (.own id n)) (by simp[look])
     exact⟨u,h1,MV hr.inv (by simp only[bw,hl]) h2⟩
    ·have e7:Nat.beq d s=false:=by
      cases h7:Nat.beq d s with
      | false=>rfl
      | true=>exact absurd (W4 h7).symm hne
     exact hr.slot s v (by simp only[look,e7,Ye];exact hv)
end
theorem IV{P:Program}{c:Ctx}{o:Oper}{st:St}{fop:Operand}{args:Array Operand}{ats:Array TypeId}{f:FuncId}{caps:List D}{rav:AV}(k:Nat){id m kk b b':Nat}{xs ys:List (List D)}
  (ho:o.op=.call { callee:=.value fop,args:=args,argTypes:=ats }) (hd:aX c.n o.dst=true) (hl:look st.sto id=some (.row kk b xs)) (hf:ev st fop=some (.one (.d (.fn f caps))))
  (ha:evL st args.toList=some [.one (.own id m)]) (hC:CallA P f ([.one (.own 1000000 m)]++caps.map fun x=>.one (.d x)) [(1000000,.row kk b xs)] rav [(1000000,.row kk b ys)]) (hys:xs.length=ys.length)
  (hk:(gG [(1000000,id)]&&jV [(1000000,id)]&&iB [(1000000,AObj.row kk b xs)] [(1000000,id)]&&gU [(1000000,id)]&&c7 [(1000000,id)] [(1000000,AObj.row kk b ys)]&&dU [(1000000,AObj.row kk b xs)] ([AV.one (.own 1000000 m)]++caps.map fun x=>.one (.d x))&&bt [(1000000,AObj.row kk b xs)] [(1000000,AObj.row kk b xs)]&&dG [(1000000,AObj.row kk b ys)] rav&&bt [(1000000,AObj.row kk b ys)] [(1000000,AObj.row kk b ys)]&&Nat.ble (k+16) 1000000)=true)
  (hrn:dF (rn k [(1000000,id)]) [AV.one (.own 1000000 m)]=[.one (.own id m)]) (hrv:eC (rn k [(1000000,id)]) rav=rav):Loc P c o st ⟨rav,[(id,none)],[id],rng k 16⟩:=by
 intro st2 hs hri hnew ops rest K h
 have he:∀ {x:Operand},x∈o.op.operands.toList→ev st2 x=ev st x:=fun hx=>fJ hs hx
 rw[ho] at he
 have hl2:look st2.sto id=some (.row kk b xs):=(hri id Xd).trans hl
 have ha2:evL st2 args.toList=some (dF (rn k [(1000000,id)]) [AV.one (.own 1000000 m)]):=by
  rw[hrn,← ha]
  refine kn fun x hx=>he (by simp[Op.operands,Call.operands];exact .inr (by simpa using hx))
 have hf2:ev st2 fop=some (.one (.d (.fn f caps))):=(he (x:=fop) (by simp[Op.operands,Call.operands])).trans hf
 refine mh (o:={ o with guard:=none }) k [(1000000,id)] ho rfl hd hf2 ha2 hC ⟨⟨id,by simp[look],hl2⟩,trivial⟩ ⟨fun i e h1 h2=>?_,trivial⟩ hk (fun i h3 h4=>?_) ?_
 ·simp[look] at h1;subst h1
  rw[hl2] at h2;cases h2
  exact⟨rfl,rfl,Nat.le_of_eq hys⟩
 ·exact hnew i (rng_mem.2 ⟨h3,h4⟩)
 ·rw[hrv]
  refine cV (fun a w σ φ hr=>⟨σ,φ,hr.dropTo fun i e hi=>?_⟩) h
  have hi:look (del id st2.sto) i=some e:=hi
  obtain⟨hne,hi2⟩:=ee hi
  have hr0:rn k [(1000000,id)] 1000000=id:=by simpa[dF,eC,jm] using hrn
  show look (cD (rn k [(1000000,id)] 1000000) _ (del id st2.sto)) i=some e
  rw[hr0]
  have e7:Nat.beq id i=false:=by
   cases h7:Nat.beq id i with
   | false=>rfl
   | true=>exact absurd (W4 h7).symm hne
  simp only[dq,look,e7,Ye]
  exact hi
theorem Nz{P:Program}{c:Ctx}{fr:List (Nat×AV)}{sto:Sto}{ops:Array Oper}{o:Oper}{rest:List Oper}{K:St→Prop}{st0:St}{acc:List Tr}{d:Nat}{fop:Operand}{args:Array Operand}{ats:Array TypeId}{f:FuncId}{caps:List D}{rav:AV}(k:Nat){id m kk b:Nat}{xs ys:List (List D)}
  (ho:o.op=.call { callee:=.value fop,args:=args,argTypes:=ats }) (hg:o.guard=none) (hdst:o.dst=some d) (hd:Nat.blt d c.n=true) (hl:look sto id=some (.row kk b xs)) (hf:ev ⟨fr,sto⟩ fop=some (.one (.d (.fn f caps))))
  (ha:evL ⟨fr,sto⟩ args.toList=some [.one (.own id m)]) (hC:CallA P f ([.one (.own 1000000 m)]++caps.map fun x=>.one (.d x)) [(1000000,.row kk b xs)] rav [(1000000,.row kk b ys)]) (hys:xs.length=ys.length)
  (hk:(gG [(1000000,id)]&&jV [(1000000,id)]&&iB [(1000000,AObj.row kk b xs)] [(1000000,id)]&&gU [(1000000,id)]&&c7 [(1000000,id)] [(1000000,AObj.row kk b ys)]&&dU [(1000000,AObj.row kk b xs)] ([AV.one (.own 1000000 m)]++caps.map fun x=>.one (.d x))&&bt [(1000000,AObj.row kk b xs)] [(1000000,AObj.row kk b xs)]&&dG [(1000000,AObj.row kk b ys)] rav&&bt [(1000000,AObj.row kk b ys)] [(1000000,AObj.row kk b ys)]&&Nat.ble (k+16) 1000000)=true)
  (hrn:dF (rn k [(1000000,id)]) [AV.one (.own 1000000 m)]=[.one (.own id m)]) (hrv:eC (rn k [(1000000,id)]) rav=rav)
  (h:ak P c ops st0 rest ⟨(d,rav)::fr,del id sto⟩ (⟨rav,[(id,none)],[id],rng k 16⟩::acc) K):ak P c ops st0 (o::rest) ⟨fr,sto⟩ acc K:=by
 refine mi hg (IV k (b':=0) ho (by rw[hdst];exact hd) hl hf ha hC hys hk hrn hrv) ?_
 rw[hdst];exact h
end Go.Abs
namespace Go.Abs
open Go Go.Shelf Go.Proofs
variable {P:Program}
theorem FI {f : FuncId} {x : Int} {k : IntKind} {y : D} {yv : Value} (hfn : ∃ fn, P.funcs[f]? = some fn ∧ (fn.name == "runtime.NumGoroutine") = false ∧ fn.body.isSome = true)
  (hC:∀ w,Calls P f #[.int k x] w fun e w'=>e=.returned yv∧w'=w) (hy:∀ σ,Rep σ y yv):CallA P f [.one (.d (.int k x))] [] (.one (.d y)) []:=by
 refine⟨hfn,fun w σ φ vs hI hA=>?_⟩
 match vs,hA with
 | [v0],hA =>
   obtain⟨hv0,_⟩:=hA
   have hv0:RepC σ φ _ (.d (.int k x)) v0:=hv0
   replace hv0:=hv0.d_inv
   cases hv0
   refine (hC w).mono ?_
   rintro e w' ⟨rfl,rfl⟩
   exact⟨_,σ,φ,rfl,Sig.le_refl _,fun b hb=>.inl hb,hI,.d (hy σ),fun i e p h1 h2=>(nomatch h1),fun _ _=>rfl,⟨rfl,rfl,rfl,Xc _,Xc _,fun _ _ _=>rfl⟩⟩
end Go.Abs
namespace Go.Proofs.YtpejdgkaapnekaaGreat
open Go Go.Proofs Go.Shelf Go.Abs
def J0:Go.Shelf.Ren:=⟨fun|133=>372|128=>261|n=>n,fun|51=>251|3=>3|4=>4|46=>192|5=>5|9=>9|n=>n,fun|n=>n⟩
theorem SY:Go.Proofs.Lays.n133 Tryz.prog J0:={
 mixed:=by kernel_rfl
 f128:=Tryz.func261.trans (congrArg some (by kernel_rfl))
 f133:=Tryz.func372.trans (congrArg some (by kernel_rfl))
 t3:=Tryz.underlying3
 a3:=Tryz.isAgg3
 z3:=Tryz.sizeOf3
 v3:=Tryz.zeroValue3
 t4:=Tryz.underlying4
 a4:=Tryz.isAgg4
 z4:=Tryz.sizeOf4
 v4:=Tryz.zeroValue4
 t5:=Tryz.underlying5
 a5:=Tryz.isAgg5
 z5:=Tryz.sizeOf5
 v5:=Tryz.zeroValue5
 t9:=Tryz.underlying9
 a9:=Tryz.isAgg9
 z9:=Tryz.sizeOf9
 v9:=Tryz.zeroValue9
 t46:=Tryz.underlying192
 a46:=Tryz.isAgg192
 z46:=Tryz.sizeOf192
 v46:=Tryz.zeroValue192
 t51:=Tryz.underlying251
 a51:=Tryz.isAgg251
 z51:=Tryz.sizeOf251
 v51:=Tryz.zeroValue251 }
theorem SZ(x:Nat)(hx:x<4294967296):CallA Tryz.prog 372 [.one (.d (.int .u32 x))] [] (.one (.d (.int .i64 (32-(Lib.bitLen x:Int))))) []:=by
 refine FI (yv:=.int .i64 (32-(Lib.bitLen x:Int))) ⟨Tryz.f372,Tryz.func372,by kernel_rfl,by kernel_rfl⟩ (fun w=>?_) (fun σ=>.int ?_)
 ·exact Any.bits_LeadingZeros32 SY (x:Int) w (by omega) (by omega)
 ·have h:=Any.bitLen_le32 (x:Int) (by omega) (by omega)
  rw[Xr] at h
  simp only[inR,IntKind.min,IntKind.max,IntKind.signed,IntKind.bits,if_true]
  omega
end Go.Proofs.YtpejdgkaapnekaaGreat
namespace Go.Proofs.YtpejdgkaapnekaaGreat
open Go Go.Abs
attribute [local irreducible] aa OkC ak av aq aI
set_option maxRecDepth 10000
theorem QV(m n:Nat)(h:m<n):CallA Tryz.prog 355 [.one (.d (bJ m)),.one (.d (bJ n))] [] (.tup [(false,[.d (bJ (m / n))]),(false,[.d (bJ (m % n))])]) []:=by
 have hc:decide (nh m n<0)=true:=by rw[qe h];rfl
 rw[Nat.div_eq_of_lt h,Nat.mod_eq_of_lt h,show bJ 0=.sl 1 4 [] by unfold bJ fA;rw[gL];rfl]
 refine enter af Tryz.func355 rfl (by decide +kernel) rfl fun hok w0 σ0 φ0 M=>?_
 clear hok
 repeat' (first|(refine h1H ?_;(refine h0H ?_;refine ae J J J J J J J J (xL _ _) J ?_))|(refine h2H ?_;refine bm (nH (s:=4) (k:=1) (b:=4) J) (cr ?_))|refine wG ?_)
 all_goals rfl
theorem Ek{m n:Nat}(h:n≤m):decide (nh m n<0)=false:=by
 rcases XM n m with h2|h2
 ·rw[qf h2];rfl
 ·rw[tz (by omega)];rfl
theorem Tv{n:Nat}(h:(dig n).length=1):at_ (dig n) 0=(n:Int)∧0<n∧n<4294967296:=by
 obtain⟨h1,h2,h3⟩:=dt n
 match hd:dig n,h with
 | [d],_ =>
   rw[hd] at h1 h2 h3
   simp only[ag] at h2
   have h4:=h1 d Xd
   have h5:d≠0:=by
    rcases h3 with h3|h3
    ·cases h3
    ·exact h3
   show d=_∧_
   omega
theorem QW(m n:Nat)(d:Int)(hd:d=(n:Int))(hm:(dig m).length≤400)(hn:0<n∧n<4294967296):CallA Tryz.prog 371 [.one (.d (bJ m)),.one (.d (.int .u32 d))] [] (.tup [(false,[.d (bJ (m / n))]),(false,[.d (.int .u32 (m % n:Nat))])]) []:=by
 subst hd;exact Tw m n hm hn
theorem QX(m n:Nat)(h:n≤m)(hl:(dig n).length=1)(hm:(dig m).length≤400):CallA Tryz.prog 355 [.one (.d (bJ m)),.one (.d (bJ n))] [] (.tup [(false,[.d (bJ (m / n))]),(false,[.d (bJ (m % n))])]) []:=by
 have hc:=Ek h
 obtain⟨e1,en⟩:=Tv hl
 have hlr:((dig n).map aw).length=1:=by simpa using hl
 have hb:((((dig n).map aw).length:Int)==1)=true:=by rw[hlr];rfl
 have hmod:m % n<4294967296:=Nat.lt_trans (Nat.mod_lt _ en.1) en.2
 refine enter af Tryz.func355 rfl (by decide +kernel) rfl fun hok w0 σ0 φ0 M=>?_
 clear hok
 repeat' (first|(refine h1H ?_;(refine h0H ?_;first|refine ae J J J J J J J J (xL _ _) J ?_|refine aM 16 J J J J J J J J (QW _ n _ e1 hm en) J J J ?_|refine aM 16 J J J J J J J J (O7 _ (by omega)) J J J ?_))|refine wG ?_)
 all_goals rfl
theorem QY(v:Int)(s:Nat)(hv:0≤v∧v<4294967296)(hs:32-(Lib.bitLen v.toNat:Int)=(s:Int)):CallA Tryz.prog 372 [.one (.d (.int .u32 v))] [] (.one (.d (.int .i64 (s:Int)))) []:=by
 obtain⟨x,rfl⟩:=Xh hv.1
 have:=SZ x (by omega)
 rw[Xr] at hs
 rwa [hs] at this
theorem O8(m s:Nat)(hm:(dig m).length≤400)(hs:s≤31):CallA Tryz.prog 373 [.one (.d (bJ m)),.one (.d (.int .i64 s))] [] (.one (.own 10 ((dig m).length+1))) [(10,.row 1 4 ((wid ((dig m).length+1) (m*2^s)).map aw))]:=by
 obtain⟨a1,a2,a3⟩:=dt m
 have:=QL (dig m) s a1 hm hs
 rwa [a2,show ((m:Int)*2^s).toNat=m*2^s by
  rw[show ((m:Int)*2^s)=((m*2^s:Nat):Int) by simp];rfl] at this
theorem QZ(w a:Nat)(h:a<bp w):CallA Tryz.prog 374 [.one (.d (fA (wid w a)))] [] (.one (.d (bJ a))) []:=by
 have:=O9 (wid w a) (kf w a)
 rwa [lY w a h] at this
theorem Q5(W a n:Nat)(hn:n≤W)(hW:W≤1000)(ha:a<bp n):CallA Tryz.prog 374 [.one (.own 1000000 n)] [(1000000,.row 1 4 ((wid W a).map aw))] (.one (.own 1000000 (dig a).length)) [(1000000,.row 1 4 ((wid W a).map aw))]:=by
 have hw:=lY W a (Xz ha (kL hn))
 have:=QM (wid W a) n (by rw[gk];exact hn) (kf W a) (by rw[gk];exact hW)
 rwa [Bw (nk (kf W a) (by rw[hw,pwc];omega)),hw] at this
theorem Pa{st:St}{ρ:List (Nat×Nat)}{j i0:Nat}{o0 o:AObj}(h0:Abs.look ρ j=some i0)(h1:Abs.look st.sto i0=some o0)(hc:compat o0 o):∀ i e,Abs.look ρ j=some i→Abs.look st.sto i=some e→compat e o:=fun i e h2 h3=>by
 rw[h0] at h2;cases h2
 rw[h1] at h3;cases h3
 exact hc
theorem Q6{u v un:Nat}{j:Int}(h0:decide (0≤j)=true)(hv:0<v)(hun:un=u % (bp (j+1).toNat * v)):un<bp (j.toNat+1)*v:=by
 have h0:=Yg h0
 rw[hun,show (j+1).toNat=j.toNat+1 by omega]
 exact Nat.mod_lt _ (Nat.mul_pos (H8 _) hv)
theorem MS{v u un:Nat}{j:Int}{Q:List Int}{R:List (List D)}{N:Nat}(hv:0<v)(h0:decide (0≤j)=true)(hj:j<(N:Int))(hr:R=Q.map aw)(hl:R.length=N)(hQ:Dg Q)(hun:un=u % (bp (j+1).toNat * v))(hq:ag (Q.drop (j+1).toNat)=((u / (bp (j+1).toNat * v):Nat):Int)) :
  -1≤j-1∧j-1<(N:Int)∧R.set j.toNat [.int .u32 ((un / (bp j.toNat * v):Nat):Int)]=(Q.set j.toNat ((un / (bp j.toNat * v):Nat):Int)).map aw∧(R.set j.toNat [.int .u32 ((un / (bp j.toNat * v):Nat):Int)]).length=N∧Dg (Q.set j.toNat ((un / (bp j.toNat * v):Nat):Int))∧un % (bp j.toNat * v)=u % (bp (j-1+1).toNat * v) ∧
  ag ((Q.set j.toNat ((un / (bp j.toNat * v):Nat):Int)).drop (j-1+1).toNat)=((u / (bp (j-1+1).toNat * v):Nat):Int):=by
 have h0:=Yg h0
 obtain⟨i,rfl⟩:=Xh h0
 rw[show ((i:Int)+1).toNat=i+1 by omega] at hun hq
 rw[show ((i:Int)-1+1).toNat=i by omega,Xr]
 exact⟨by omega,by omega,Kd (W:=0) hv (by omega) hr hl hQ hun hq⟩
theorem qg{m n s un:Nat}{j:Int}{Q:List Int}(h0:decide (0≤j)=false)(h1:-1≤j)(hun:un=(m*2^s) % (bp (j+1).toNat * (n*2^s)))(hq:ag (Q.drop (j+1).toNat)=(((m*2^s) / (bp (j+1).toNat * (n*2^s)):Nat):Int)):(ag Q).toNat=m / n∧un=m % n*2^s:=by
 have h0:=Yh h0
 rw[show (j+1).toNat=0 by omega,xM,Nat.one_mul] at hun hq
 rw[List.drop_zero,Nat.mul_div_mul_right _ _ (Nat.two_pow_pos s)] at hq
 rw[Nat.mul_mod_mul_right] at hun
 exact⟨by rw[hq];rfl,hun⟩
theorem Ar{m n s un k:Nat}(hn:0<n)(h:un=m % n*2^s)(hv:n*2^s<bp (k+2)):un<bp (k+2):=by
 have:m % n*2^s<n*2^s:=Nat.mul_lt_mul_of_pos_right (Nat.mod_lt _ hn) (Nat.two_pow_pos s)
 omega
theorem LL{a w:Nat}(h:a<bp w):(dig a).length≤w:=by
 refine Yp fun hc=>?_
 obtain⟨k,hk⟩:∃ k,(dig a).length=k+1:=⟨(dig a).length-1,by omega⟩
 obtain⟨g1,g2,_⟩:=wy hk
 have h3:=kL (show w≤k by omega)
 have h4:=(dt a).1.at (i:=k) (by omega)
 have h5:(1:Int)*(bp k:Int)≤at_ (dig a) k*(bp k:Int):=Int.mul_le_mul_of_nonneg_right (by omega) (by omega)
 omega
theorem Pb{Q:List Int}{R:List (List D)}{s W i r a:Nat}(ha:a=r*2^s)(hs:s≤31)(haW:a<bp W)(hi:i≤(dig a).length)(h0:decide ((i:Int)<((dig a).length:Int))=false)(hiW:(dig a).length≤W)(h:RsI (wid W a) s W i Q R):R.take (dig a).length=(Q.take (dig a).length).map aw∧Dg (Q.take (dig a).length)∧(ag (Q.take (dig a).length)).toNat=r:=by
 have e:i=(dig a).length:=by have:=Yh h0;omega
 rw[← e]
 exact Pc ha hs haW e (by omega) h
set_option maxHeartbeats 2000000 in
theorem Q7(m n k:Nat)(h:n≤m)(hl:(dig n).length=k+2)(hm:(dig m).length≤400)(hn0:0<n):CallA Tryz.prog 355 [.one (.d (bJ m)),.one (.d (bJ n))] [] (.tup [(false,[.d (bJ (m / n))]),(false,[.d (bJ (m % n))])]) []:=by
 have hc:=Ek h
 have hnm:(dig n).length≤(dig m).length:=kM h
 obtain⟨s,hs,hs0,hs1,hvb⟩:=Ke hl
 obtain⟨hvl,hvt⟩:=Kf hs1 hvb
 obtain⟨hu1,hu2⟩:=MT (m:=m) (k:=k) hs hs1 (by omega)
 have hv0:0<n*2^s:=Nat.mul_pos hn0 (Nat.two_pow_pos s)
 have hlr:((dig n).map aw).length=k+2:=by simpa using hl
 have hvr:((dig (n*2^s)).map aw).length=k+2:=by simpa using hvl
 have hvN:(((dig (n*2^s)).map aw).length:Int).toNat=k+2:=by rw[hvr];rfl
 have hb:((((dig n).map aw).length:Int)==1)=false:=by rw[hlr];exact beq_false_of_ne (by omega)
 have ei:((((dig n).map aw).length:Int)-1).toNat=k+1:=by rw[hlr];omega
 have hd5:0≤at_ (dig n) ((((dig n).map aw).length:Int)-1).toNat∧at_ (dig n) ((((dig n).map aw).length:Int)-1).toNat<4294967296:=by rw[ei];exact (dt n).1.at (by omega)
 have hs5:32-(Lib.bitLen (at_ (dig n) ((((dig n).map aw).length:Int)-1).toNat).toNat:Int)=(s:Int):=by rw[ei];exact hs0
 have hv5:n*2^s<bp ((dig n).length+1):=Xz hvb (kL (by omega))
 have hfin:∀ (q:Nat×List Int×List (List D)) (p:Int×Nat×List Int×List (List D)),decide ((q.1:Int)<((dig p.2.1).length:Int))=false→decide (0≤p.1)=false→-1≤p.1→p.2.1=(m*2^s) % (bp (p.1+1).toNat * (n*2^s))→ag (p.2.2.1.drop (p.1+1).toNat)=(((m*2^s) / (bp (p.1+1).toNat * (n*2^s)):Nat):Int)→q.1≤(dig p.2.1).length→(dig p.2.1).length≤(dig m).length+1→RsI (wid ((dig m).length+1) p.2.1) s ((dig m).length+1) q.1 q.2.1 q.2.2 →
   q.2.2.take (dig p.2.1).length=(q.2.1.take (dig p.2.1).length).map aw∧Dg (q.2.1.take (dig p.2.1).length)∧(ag (q.2.1.take (dig p.2.1).length)).toNat=m % n :=
  fun q p h1 h2 h3 h4 h5 h6 h7 h8=>Pb (qg h2 h3 h4 h5).2 hs (Xz (Ar hn0 (qg h2 h3 h4 h5).2 hvb) (kL (by omega))) h6 h1 h7 h8
 refine enter af Tryz.func355 rfl (by decide +kernel) rfl fun hok w0 σ0 φ0 M=>?_
 clear hok
 repeat' (first|(refine h1H ?_;(refine h0H ?_;first|refine aM 60 J J J J J J J J (Ta n s (by omega) hs) J J J ?_|refine aM 60 J J J J J J J J (QZ _ _ hv5) J J J ?_))|(refine h1H ?_;(refine h6H ?_;refine eG envOk 10 J J J (bZ (n:=(dig m).length+1-(k+2)) J J J J J (by omega) (by omega) (by omega) (W6 J)) J J ?_))|(refine h1H ?_;(refine h0H ?_;refine cS 10 [] (rav':=.one (.own 20 ((dig m).length+1))) (O8 m s hm hs) J J J J J J trivial b7 J J J J ?_))|(refine h1H ?_;(refine Tx ?_;refine Kg envOk (lo:=p.1.toNat) (n:=(dig (n*2^s)).length+1) J J J J J J J J J J wB wB wB (by simp[gk]) ?_))|(refine h1H ?_;(refine h0H ?_;refine cS 40 [(1000000,20)] (rav':=.one (.d (.int .u32 ((p.2.1 / (bp p.1.toNat * (n*2^s)):Nat):Int)))) (Q8 (n*2^s) k p.1.toNat ((dig m).length+1) p.2.1 hvl hvt (by omega) (by omega) (by omega) (Q6 h hv0 hun)) J J J J J J ⟨⟨20,rfl,rfl⟩,trivial⟩ ⟨Pa (i0:=20) J J ⟨rfl,rfl,by simp[gk]⟩,trivial⟩ J J J J ?_))|(refine h1H ?_;(refine Ty ?_;refine s_e envOk J J J (gi J J J J J J (by omega) (by omega) (by simp[gk])) ?_))|(refine h1H ?_;(refine h0H ?_;first|refine cS 40 [(1000000,20)] (rav':=.one (.own 20 (dig p.2.1).length)) (Q5 ((dig m).length+1) p.2.1 (((dig (n*2^s)).map aw).length:Int).toNat (by omega) (by omega) (by rw[hvN];exact Ar hn0 (qg h hk1 hun hq).2 hvb)) J J J J J J ⟨⟨20,rfl,rfl⟩,trivial⟩ ⟨Pa (i0:=20) J J ⟨rfl,rfl,Xc _⟩,trivial⟩ J J J J ?_|refine eP 60 [10] J J J J J J J J J (oQ _ p.2.2.1 (m / n) (xN hr hl2) hL (qg ‹decide (0≤p.1)=false› hk1 hun hq).1) J J J ?_|refine eP 80 [20] J J J J J J J J J (oQ _ _ (m % n) (hfin q p h ‹decide (0≤p.1)=false› hk1 hun hq hq1 hLW ⟨hR1,hR2,hR3,hR4,hR5⟩).1 (hfin q p h ‹decide (0≤p.1)=false› hk1 hun hq hq1 hLW ⟨hR1,hR2,hR3,hR4,hR5⟩).2.1 (hfin q p h ‹decide (0≤p.1)=false› hk1 hun hq hq1 hLW ⟨hR1,hR2,hR3,hR4,hR5⟩).2.2) J J J ?_|refine ae J J J J J J J J (xL _ _) J ?_|refine ae J J J J J J J J (QY _ s hd5 hs5) J ?_))|(refine h4H ?_;(refine Tz ?_;refine d_e envOk J J J (H9 J J J (by omega)) ?_))|(refine h4H ?_;(refine JW ?_;refine d_e envOk J J J (cz J J J J (eO (gV hR1) (by simp only[List.length_set];have:=Yg h;omega)) J) ?_))|refine wG ?_|(refine h2H ?_;first|refine aj J (fun h=>?_) (fun h=>?_)|refine cm 16 J [(8,_),(12,_),(14,_),(83,_)] (q4Q J J J J) (fun (q:Nat×List Int×List (List D))=>[(84,.one (.d (.int .i64 (q.1:Int))))]) (fun (q:Nat×List Int×List (List D))=>[(20,.row 1 4 q.2.2),(10,.row 1 4 p.2.2.2)]) (fun (q:Nat×List Int×List (List D))=>q.1≤(dig p.2.1).length∧(dig p.2.1).length≤(dig m).length+1∧RsI (wid ((dig m).length+1) p.2.1) s ((dig m).length+1) q.1 q.2.1 q.2.2) (fun (q:Nat×List Int×List (List D))=>(dig p.2.1).length-q.1) (0,wid ((dig m).length+1) p.2.1,(wid ((dig m).length+1) p.2.1).map aw) (q1Q J) wK ?_ (fun q ⟨hq1,hLW,hR1,hR2,hR3,hR4,hR5⟩=>?_)|refine cm 11 J [(8,_),(9,_),(10,_),(11,_),(12,_)] (q5Q J J J J J) (fun (p:Int×Nat×List Int×List (List D))=>[(13,.one (.d (.int .i64 p.1)))]) (fun (p:Int×Nat×List Int×List (List D))=>[(20,.row 1 4 ((wid ((dig m).length+1) p.2.1).map aw)),(10,.row 1 4 p.2.2.2)]) (fun (p:Int×Nat×List Int×List (List D))=>-1≤p.1∧p.1<(((dig m).length+1-(k+2):Nat):Int)∧p.2.2.2=p.2.2.1.map aw∧p.2.2.2.length=(dig m).length+1-(k+2)∧Dg p.2.2.1∧p.2.1=(m*2^s) % (bp (p.1+1).toNat * (n*2^s))∧ag (p.2.2.1.drop (p.1+1).toNat)=(((m*2^s) / (bp (p.1+1).toNat * (n*2^s)):Nat):Int)) (fun (p:Int×Nat×List Int×List (List D))=>(p.1+1).toNat) ((((dig m).length+1:Nat):Int)-(((dig (n*2^s)).map aw).length:Int)-1,m*2^s,List.replicate ((dig m).length+1-(k+2)) 0,List.replicate ((dig m).length+1-(k+2)) [.int .u32 0]) (q1Q J) wK ?_ (fun p ⟨hk1,hk2,hr,hl2,hL,hun,hq⟩=>?_))|(show Exists _;first|refine Exists.intro (((p.1-1),p.2.1 % (bp p.1.toNat * (n*2^s)),p.2.2.1.set p.1.toNat ((p.2.1 / (bp p.1.toNat * (n*2^s)):Nat):Int),p.2.2.2.set p.1.toNat [.int .u32 ((p.2.1 / (bp p.1.toNat * (n*2^s)):Nat):Int)])) ⟨?_,?_,wK,(q1Q J),(q5Q J J J J J)⟩|refine Exists.intro ((q.1+1,(q.2.1.set q.1 (rsX (at_ q.2.1 q.1) s)).set q.1 (shO (at_ (q.2.1.set q.1 (rsX (at_ q.2.1 q.1) s)) q.1) (shV (at_ (q.2.1.set q.1 (rsX (at_ q.2.1 q.1) s)) (q.1+1)) (32-(s:Int)))),(q.2.2.set q.1 [.int .u32 (rsX (at_ q.2.1 q.1) s)]).set q.1 [.int .u32 (shO (at_ (q.2.1.set q.1 (rsX (at_ q.2.1 q.1) s)) q.1) (shV (at_ (q.2.1.set q.1 (rsX (at_ q.2.1 q.1) s)) (q.1+1)) (32-(s:Int))))])) ⟨?_,?_,wK,(q1Q J),(q4Q J J J J)⟩|refine Exists.intro ((q.1+1,q.2.1.set q.1 (rsX (at_ q.2.1 q.1) s),q.2.2.set q.1 [.int .u32 (rsX (at_ q.2.1 q.1) s)])) ⟨?_,?_,wK,(q1Q J),(q4Q J J J J)⟩))
 ·show -1≤(((dig m).length+1:Nat):Int)-(((dig (n*2^s)).map aw).length:Int)-1∧(((dig m).length+1:Nat):Int)-(((dig (n*2^s)).map aw).length:Int)-1<_∧_∧_∧_∧m*2^s=_ % (bp ((((dig m).length+1:Nat):Int)-(((dig (n*2^s)).map aw).length:Int)-1+1).toNat * _)∧ag ((List.replicate _ (0:Int)).drop ((((dig m).length+1:Nat):Int)-(((dig (n*2^s)).map aw).length:Int)-1+1).toNat)=((_ / (bp ((((dig m).length+1:Nat):Int)-(((dig (n*2^s)).map aw).length:Int)-1+1).toNat * _):Nat):Int)
  rw[hvr,show ((((dig m).length+1:Nat):Int)-((k+2:Nat):Int)-1+1).toNat=(dig m).length+1-(k+2) by omega]
  refine⟨by omega,by omega,by simp[aw],by simp,Dg.zeros _,(Nat.mod_eq_of_lt hu1).symm,?_⟩
  rw[Nat.div_eq_of_lt hu1,W7 (by simp)];rfl
 ·exact MS hv0 h hk2 hr hl2 hL hun hq
 ·have h0:=Yg h
  show (p.1-1+1).toNat<(p.1+1).toNat
  omega
 ·have hun2:=(qg h hk1 hun hq).2
  have hul:=LL (Ar hn0 hun2 hvb)
  exact⟨Xk _,by omega,rfl,by simp[gk],kf _ _,fun t _=>rfl,by
   show ag ((wid ((dig m).length+1) p.2.1).take 0)*2^s=ag ((wid ((dig m).length+1) p.2.1).take 0)-_+pw 0*_
   rw[List.take_zero,nJ];simp only[ag];rw[Int.zero_mul];omega⟩
 ·have hlt:=Yg h
  exact⟨by show q.1+1≤_;omega,hLW,Kh hs (gk _ _) (by omega) (kf _ _) ⟨hR1,hR2,hR3,hR4,hR5⟩⟩
 ·have hlt:=Yg h
  show (dig p.2.1).length-(q.1+1)<(dig p.2.1).length-q.1
  omega
 ·have hlt:=Yg ‹decide ((q.1:Int)<((dig p.2.1).length:Int))=true›
  have hge:=Yh h
  have hun2:=(qg ‹decide (0≤p.1)=false› hk1 hun hq).2
  have hul:=Xz (Ar hn0 hun2 hvb) (kL (show k+2≤(dig m).length+1 by omega))
  have hz:=nk (k:=(dig p.2.1).length) (kf ((dig m).length+1) p.2.1) (by rw[lY _ _ hul,pwc];have:=qi p.2.1;omega) (q.1+1) (by omega)
  exact⟨by show q.1+1≤_;omega,hLW,Ki hs (gk _ _) (by omega) (kf _ _) hz ⟨hR1,hR2,hR3,hR4,hR5⟩⟩
 ·have hlt:=Yg ‹decide ((q.1:Int)<((dig p.2.1).length:Int))=true›
  show (dig p.2.1).length-(q.1+1)<(dig p.2.1).length-q.1
  omega
 ·rfl
theorem xD:n5:=fun m n hn hm hd=>by
 unfold dl at hm hd
 rcases XM m n with h|h
 ·exact QV m n h
 ·have hne:(dig n).length≠0:=fun e=>by
   have:=qi n
   rw[e,xM] at this;omega
  by_cases h1:(dig n).length=1
  ·exact QX m n h h1 (by omega)
  ·exact Q7 m n ((dig n).length-2) h (by omega) (by omega) (by omega)
structure RatOk (a1 b1 a2 b2:Nat):Prop where
 h1:b1≠0
 h2:b2≠0
 l1:(dig a1).length≤400
 l2:(dig b1).length≤400
 l3:(dig a2).length≤400
 l4:(dig b2).length≤400
 m1:dl (a1*b2)≤100
 m2:dl (a2*b1)≤100
 m3:dl (b1*b2)≤100
 m4:dl (a1*b2+a2*b1)≤100
 m5:dl (a1*a2)≤100
 m6:dl (b1*a2)≤100
theorem RatOk.add(hD:n5){a1 b1 a2 b2:Nat}(h:RatOk a1 b1 a2 b2)(s1 s2 minus:Bool):CallA Tryz.prog 359 [.one (.d (di s1 a1 b1)),.one (.d (di s2 a2 b2)),.one (.d (.bool minus))] [] (.one (.d (rq s1 a1 b1 s2 a2 b2 minus))) [] :=
 T7 hD s1 a1 b1 s2 a2 b2 minus h.h1 h.h2 h.l1 h.l2 h.l3 h.l4 (Xg h.m1 (by omega)) (Xg h.m2 (by omega)) h.m3 h.m4 (Xg (kM (Nat.sub_le _ _)) h.m1) (Xg (kM (Nat.sub_le _ _)) h.m2)
theorem T8(hD:n5)(s1:Bool)(a1 b1:Nat)(s2:Bool)(a2 b2:Nat)(hR:RatOk a1 b1 a2 b2):CallA Tryz.prog 321 [.one (.d (di s1 a1 b1)),.one (.d (di s2 a2 b2))] [] (.one (.d (rq s1 a1 b1 s2 a2 b2 false))) []:=by
 refine enter af Tryz.func321 rfl (by decide +kernel) rfl fun hok w0 σ0 φ0 M=>?_
 clear hok
 repeat' (first|(refine h1H ?_;(refine h0H ?_;refine aM 16 J J J J J J J J (hR.add hD _ _ _) J J J ?_))|refine wG ?_)
 all_goals rfl
theorem Pt(hD:n5)(s1:Bool)(a1 b1:Nat)(s2:Bool)(a2 b2:Nat)(hR:RatOk a1 b1 a2 b2):CallA Tryz.prog 322 [.one (.d (di s1 a1 b1)),.one (.d (di s2 a2 b2))] [] (.one (.d (rq s1 a1 b1 s2 a2 b2 true))) []:=by
 refine enter af Tryz.func322 rfl (by decide +kernel) rfl fun hok w0 σ0 φ0 M=>?_
 clear hok
 repeat' (first|(refine h1H ?_;(refine h0H ?_;refine aM 16 J J J J J J J J (hR.add hD _ _ _) J J J ?_))|refine wG ?_)
 all_goals rfl
set_option maxHeartbeats 1000000 in
theorem T9(hD:n5)(s1:Bool)(a1 b1:Nat)(s2:Bool)(a2 b2:Nat)(hR:RatOk a1 b1 a2 b2):CallA Tryz.prog 323 [.one (.d (di s1 a1 b1)),.one (.d (di s2 a2 b2))] [] (.one (.d (BL (s1 != s2) (a1*a2) (b1*b2)))) []:=by
 obtain⟨h1,h2,l1,l2,l3,l4,m1,m2,m3,m4,m5,m6⟩:=hR
 have hb12:b1*b2≠0:=Nat.mul_ne_zero h1 h2
 have v1:decide (b1≠0)=true:=by simp[h1]
 have v2:decide (b2≠0)=true:=by simp[h2]
 refine enter af Tryz.func323 rfl (by decide +kernel) rfl fun hok w0 σ0 φ0 M=>?_
 clear hok
 repeat' (first|(refine h1H ?_;(refine h0H ?_;refine ae J J J J J J J J (rr _ _ _) J ?_))|(refine h4H ?_;(refine h3H ?_;first|refine bz 16 J J J J J J J J (BM _ _ l1 l3) J J ?_|refine bz 16 J J J J J J J J (BM _ _ l2 l4) J J ?_|refine bz 16 J J J J J J J J (FZ hD _ _ _ m5 m3 hb12) J J ?_))|refine wG ?_|(refine h1H ?_;(refine dv ?_;refine bx J J J J (fun h=>?_) (fun h=>?_)))|(refine h2H ?_;refine aj J (fun h=>?_) (fun h=>?_)))
 all_goals first
  | rfl
  | (exfalso;simp_all;done)
  | skip
set_option maxHeartbeats 1000000 in
theorem Ua(hD:n5)(s1:Bool)(a1 b1:Nat)(s2:Bool)(a2 b2:Nat)(hR:RatOk a1 b1 a2 b2)(h0:a2≠0):CallA Tryz.prog 362 [.one (.d (di s1 a1 b1)),.one (.d (di s2 a2 b2))] [] (.tup [(false,[.d (BL (s1 != s2) (a1*b2) (b1*a2))]),(false,[.d (.int .i64 0)])]) []:=by
 obtain⟨h1,h2,l1,l2,l3,l4,m1,m2,m3,m4,m5,m6⟩:=hR
 have hb12:b1*a2≠0:=Nat.mul_ne_zero h1 h0
 have v1:decide (b1≠0)=true:=by simp[h1]
 have v2:decide (b2≠0)=true:=by simp[h2]
 have v3:((((dig a2).map aw).length:Int)==0)=false:=by rw[sH];simp[h0]
 refine enter af Tryz.func362 rfl (by decide +kernel) rfl fun hok w0 σ0 φ0 M=>?_
 clear hok
 repeat' (first|(refine h1H ?_;(refine h0H ?_;refine ae J J J J J J J J (rr _ _ _) J ?_))|(refine h4H ?_;(refine h3H ?_;first|refine bz 16 J J J J J J J J (BM _ _ l1 l4) J J ?_|refine bz 16 J J J J J J J J (BM _ _ l2 l3) J J ?_|refine bz 16 J J J J J J J J (FZ hD _ _ _ m1 m6 hb12) J J ?_))|refine wG ?_|(refine h1H ?_;(refine dv ?_;refine bx J J J J (fun h=>?_) (fun h=>?_)))|(refine h2H ?_;refine aj J (fun h=>?_) (fun h=>?_)))
 all_goals first
  | rfl
  | (exfalso;simp_all;done)
  | skip
set_option maxHeartbeats 1000000 in
theorem Ro(s1:Bool)(a1 b1:Nat)(s2:Bool)(b2:Nat)(h1:b1≠0)(h2:b2≠0):CallA Tryz.prog 362 [.one (.d (di s1 a1 b1)),.one (.d (di s2 0 b2))] [] (.tup [(false,[.d (.raw (.pointer none))]),(false,[.d (.int .i64 2)])]) []:=by
 have v1:decide (b1≠0)=true:=by simp[h1]
 have v2:decide (b2≠0)=true:=by simp[h2]
 have v3:((((dig 0).map aw).length:Int)==0)=true:=by rw[sH];simp
 refine enter af Tryz.func362 rfl (by decide +kernel) rfl fun hok w0 σ0 φ0 M=>?_
 clear hok
 repeat' (first|(refine h1H ?_;(refine h0H ?_;refine ae J J J J J J J J (rr _ _ _) J ?_))|refine wG ?_|(refine h1H ?_;(refine dv ?_;refine bx J J J J (fun h=>?_) (fun h=>?_)))|(refine h2H ?_;refine aj J (fun h=>?_) (fun h=>?_)))
 all_goals first
  | rfl
  | (exfalso;simp_all;done)
  | skip
def jz(n:Nat):Int×Bool:=if n≤1099511627776 then (n,true) else (0,false)
theorem F9(n:Nat):CallA Tryz.prog 352 [.one (.d (bJ n))] [] (.tup [(false,[.d (.int .i64 (jz n).1)]),(false,[.d (.bool (jz n).2)])]) []:=by
 unfold jz
 by_cases h:n≤1099511627776
 ·rw[if_pos h];exact Rs n h
 ·rw[if_neg h];exact Rt n h
def Gc(k num den:Int):AV:=.agg [.d (.int .i64 k),.d (.int .i64 num),.d (.int .i64 den),.d (.str [])]
theorem KB(r:Int):CallA Tryz.prog 353 [.one (.d (.int .i64 r))] [] (Gc 0 r 0) []:=by
 refine enter af Tryz.func353 rfl (by decide +kernel) rfl fun hok w0 σ0 φ0 M=>?_
 clear hok
 repeat' (first|refine wG ?_)
 all_goals rfl
def Gd(neg:Bool)(a b:Nat):AV:=if a≤1099511627776∧b≤1099511627776 then Gc 2 (if neg=true then -(a:Int) else a) b else Gc 0 2 0
theorem Ui(neg:Bool)(a b:Nat)(hb:b≠0):CallA Tryz.prog 313 [.one (.d (di neg a b))] [] (Gd neg a b) []:=by
 have v1:decide (b≠0)=true:=by simp[hb]
 have hsp:(a≤1099511627776∧b≤1099511627776∧(jz a).2=true∧(jz a).1=a∧(jz b).2=true∧(jz b).1=b)∨(¬ a≤1099511627776∧(jz a).2=false)∨(a≤1099511627776∧¬ b≤1099511627776∧(jz a).2=true∧(jz b).2=false):=by
  unfold jz
  by_cases h1:a≤1099511627776<;>by_cases h2:b≤1099511627776<;>simp[h1,h2]
 unfold Gd
 rcases hsp with⟨h1,h2,e1,e2,e3,e4⟩|⟨h1,e1⟩|⟨h1,h2,e1,e2⟩
 ·rw[if_pos ⟨h1,h2⟩]
  have hc:=F9 a
  have hc2:=F9 b
  rw[e1,e2] at hc
  rw[e3,e4] at hc2
  refine enter af Tryz.func313 rfl (by decide +kernel) rfl fun hok w0 σ0 φ0 M=>?_
  clear hok
  repeat' (first|(refine h1H ?_;(refine h0H ?_;first|refine ae J J J J J J J J (rr _ _ _) J ?_|refine ae J J J J J J J J (hc) J ?_|refine ae J J J J J J J J (hc2) J ?_))|refine wG ?_|(refine h2H ?_;refine aj J (fun h=>?_) (fun h=>?_)))
  all_goals first
   | (exfalso;simp_all;done)
   | (simp only[*,if_true,if_false,XD];rfl)
   | (rw[if_pos h,Int.zero_sub];rfl)
   | skip
 ·rw[if_neg (fun h=>h1 h.1)]
  refine enter af Tryz.func313 rfl (by decide +kernel) rfl fun hok w0 σ0 φ0 M=>?_
  clear hok
  repeat' (first|(refine h1H ?_;(refine h0H ?_;first|refine ae J J J J J J J J (rr _ _ _) J ?_|refine ae J J J J J J J J (F9 _) J ?_|refine ae J J J J J J J J (KB _) J ?_))|refine wG ?_|(refine h1H ?_;(refine dv ?_;refine bx J J J J (fun h=>?_) (fun h=>?_)))|(refine h2H ?_;refine aj J (fun h=>?_) (fun h=>?_)))
  all_goals first
   | rfl
   | (exfalso;simp_all;done)
   | skip
 ·rw[if_neg (fun h=>h2 h.2)]
  refine enter af Tryz.func313 rfl (by decide +kernel) rfl fun hok w0 σ0 φ0 M=>?_
  clear hok
  repeat' (first|(refine h1H ?_;(refine h0H ?_;first|refine ae J J J J J J J J (rr _ _ _) J ?_|refine ae J J J J J J J J (F9 _) J ?_|refine ae J J J J J J J J (KB _) J ?_))|refine wG ?_|(refine h1H ?_;(refine dv ?_;refine bx J J J J (fun h=>?_) (fun h=>?_)))|(refine h2H ?_;refine aj J (fun h=>?_) (fun h=>?_)))
  all_goals first
   | rfl
   | (exfalso;simp_all;done)
   | skip
end Go.Proofs.YtpejdgkaapnekaaGreat
