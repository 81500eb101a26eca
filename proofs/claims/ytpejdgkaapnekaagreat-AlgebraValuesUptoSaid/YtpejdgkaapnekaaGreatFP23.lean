import Derived.Lib.ItoaNum
import Derived.Shelf.Small.Bits
import Derived.Test.YtpejdgkaapnekaaGreatFP22
import Derived.Test.YtpejdgkaapnekaaGreatFP21
import Derived.Test.YtpejdgkaapnekaaGreatFP15
import Derived.Test.YtpejdgkaapnekaaGreatFP20
import Derived.Test.YtpejdgkaapnekaaGreatFP6
import Derived.Test.YtpejdgkaapnekaaGreatFTab
set_option linter.unusedVariables false
set_option linter.unusedSimpArgs false
set_option maxHeartbeats 1000000
namespace Go.Proofs.YtpejdgkaapnekaaGreat
open Go Go.Abs
theorem Bf{V : List Int}{n : Nat}(hn : V.length = n + 2) : aq V = aq (V.take n) + pw n * (at_ V n + 4294967296 * at_ V (n + 1)):=by
 have h1:=bV (l:=V) (k:=n + 1) (by omega)
 have h2:=bV (l:=V) (k:=n) (by omega)
 rw [show n + 1 + 1 = V.length by omega,List.take_length,h2,dx] at h1
 rw [h1,Int.mul_add,← Int.mul_assoc,Int.mul_comm (pw n) 4294967296]
 omega
theorem Bg{R : List Int}{k : Nat}(h : k + 2 < R.length)(hz : ∀ t,k + 3≤t→at_ R t = 0) : aq R = aq (R.take k) + pw k * (at_ R k + 4294967296 * (at_ R (k + 1) + 4294967296 * at_ R (k + 2))):=by
 have h0 : aq R = aq (R.take (k + 3)):=by
  have e : aq R = aq (R.take (k + 3)) + pw (R.take (k + 3)).length * aq (R.drop (k + 3)):=by rw [← jA,List.take_append_drop]
  have e2 : ∀ (m : List Int),(∀ t,at_ m t = 0)→aq m = 0:=by
   intro m
   induction m with
   | nil=>intro _; rfl
   | cons d r ih =>
     intro hm
     have h0 : d = 0:=hm 0
     have h1:=ih (fun t=>hm (t + 1))
     simp only [aq,h0,h1]; rfl
  rw [e2 (R.drop (k + 3)) (fun t=>by
   have:=hz (k + 3 + t) (by omega)
   simp only [at_,List.getD_eq_getElem?_getD,List.getElem?_drop] at this ⊢
   exact this)] at e
  omega
 have h1:=bV (l:=R) (k:=k + 2) (by omega)
 have h2:=bV (l:=R) (k:=k + 1) (by omega)
 have h3:=bV (l:=R) (k:=k) (by omega)
 rw [show k + 2 + 1 = k + 3 by omega] at h1
 rw [show k + 1 + 1 = k + 2 by omega] at h2
 rw [h0,h1,h2,h3,show pw (k + 2) = 4294967296 * (4294967296 * pw k) by rw [dx,dx],dx k,Int.mul_add,Int.mul_add,Int.mul_add]
 have e1 : 4294967296 * pw k * at_ R (k + 1) = pw k * (4294967296 * at_ R (k + 1)):=by rw [Int.mul_comm 4294967296 (pw k),Int.mul_assoc]
 have e2 : 4294967296 * (4294967296 * pw k) * at_ R (k + 2) = pw k * (4294967296 * (4294967296 * at_ R (k + 2))):=by
  rw [← Int.mul_assoc 4294967296 4294967296,Int.mul_comm _ (pw k),Int.mul_assoc,← Int.mul_assoc 4294967296 4294967296]
 rw [e1,e2]
 omega
theorem HV{a b : Nat}(h : a≤b) : pw a≤pw b:=by
 obtain ⟨m,rfl⟩ : ∃ m,b = a + m:=⟨b - a,by omega⟩
 rw [gE]
 have:=Int.mul_le_mul_of_nonneg_left (show 1≤pw m by have:=eQ m; omega) (Int.le_of_lt (eQ a))
 omega
theorem I1(V R : List Int)(lo m : Nat)(hn : V.length = m + 2)(hn3 : V.length≤400)(hlo : lo + V.length + 1≤R.length)(hR : R.length≤1000)(hV : Dg V)(hRd : Dg R)(htop : 2147483648≤at_ V (m + 1))(hlt : aq R < pw (lo + 1) * aq V) :
  CallA Tryz.prog 375 [.one (.sub 1000000 lo (V.length + 1)),.one (.d (cY V))] [(1000000,.row 1 4 (R.map aE))] (.one (.d (.int .u32 (aq R / (pw lo * aq V))))) [(1000000,.row 1 4 ((wid R.length (aq R % (pw lo * aq V)).toNat).map aE))]:=by
 have hVb:=dH hV
 have hv2:=Bf hn
 have hRb:=dH hRd
 have hw1:=hV.at (i:=m + 1) (by omega)
 have hw2:=hV.at (i:=m) (by omega)
 have hlt2 : aq R < pw (lo + V.length + 1):=by
  refine Int.lt_of_lt_of_le hlt ?_
  rw [show lo + V.length + 1 = (lo + 1) + V.length by omega,gE (lo + 1)]
  exact Int.mul_le_mul_of_nonneg_left (Int.le_of_lt hVb.2) (Int.le_of_lt (eQ _))
 have hzR:=kG hRd hlt2
 have hr3:=Bg (R:=R) (k:=lo + m) (by omega) (fun t ht=>hzR t (by omega))
 have hu0:=hRd.at (i:=lo + m + 2) (by omega)
 have hu1:=hRd.at (i:=lo + m + 1) (by omega)
 have hx2:=hRd.at (i:=lo + m) (by omega)
 have hR':=dH (hRd.take (lo + m))
 have hV':=dH (hV.take m)
 rw [show (R.take (lo + m)).length = lo + m by simp; omega] at hR'
 rw [show (V.take m).length = m by simp; omega] at hV'
 have hpm:=eQ m
 have hpl:=eQ lo
 have hMe : pw lo * aq V = pw lo * aq (V.take m) + pw (lo + m) * (at_ V m + 4294967296 * at_ V (m + 1)):=by rw [hv2,Int.mul_add,gE,Int.mul_assoc]
 have hMl : pw lo * aq (V.take m) < pw (lo + m):=by rw [gE]; exact Int.mul_lt_mul_of_pos_left hV'.2 hpl
 have hMl0:=Int.mul_nonneg (Int.le_of_lt hpl) hV'.1
 have hlt3 : aq R < pw lo * aq V * 4294967296:=by rw [dx] at hlt; rw [Int.mul_comm (pw lo * aq V),← Int.mul_assoc]; exact hlt
 have hP:=eQ (lo + m)
 -- whole numbers
 generalize hd1 : at_ V (m + 1) = d1 at *
 generalize hd2 : at_ V m = d2 at *
 generalize hd3 : at_ R (lo + m) = d3 at *
 generalize hd4 : at_ R (lo + m + 1) = d4 at *
 generalize hd5 : at_ R (lo + m + 2) = d5 at *
 obtain ⟨w1,rfl⟩:=Int.eq_ofNat_of_zero_le hw1.1
 obtain ⟨w2,rfl⟩:=Int.eq_ofNat_of_zero_le hw2.1
 obtain ⟨x2,rfl⟩:=Int.eq_ofNat_of_zero_le hx2.1
 obtain ⟨u1,rfl⟩:=Int.eq_ofNat_of_zero_le hu1.1
 obtain ⟨u0,rfl⟩:=Int.eq_ofNat_of_zero_le hu0.1
 have hM0 : 0 < pw lo * aq V:=by
  have:=Int.mul_le_mul_of_nonneg_left (show 1≤(w2 : Int) + 4294967296 * (w1 : Int) by omega) (Int.le_of_lt hP)
  omega
 have hMP : pw lo * aq V≤pw (lo + V.length + 1):=by
  rw [show lo + V.length + 1 = lo + (V.length + 1) by omega,gE]
  exact Int.mul_le_mul_of_nonneg_left (Int.le_trans (Int.le_of_lt hVb.2) (HV (by omega))) (Int.le_of_lt hpl)
 obtain ⟨E,hE⟩:=Int.eq_ofNat_of_zero_le (Int.le_of_lt hP)
 obtain ⟨a,ha⟩:=Int.eq_ofNat_of_zero_le hMl0
 obtain ⟨b,hb⟩:=Int.eq_ofNat_of_zero_le hR'.1
 obtain ⟨MM,hMM⟩:=Int.eq_ofNat_of_zero_le (Int.le_of_lt hM0)
 obtain ⟨NN,hNN⟩:=Int.eq_ofNat_of_zero_le hRb.1
 have hMn : MM = (w1 * 4294967296 + w2) * E + a:=by
  have : (MM : Int) = (((w1 * 4294967296 + w2) * E + a : Nat) : Int):=by
   rw [← hMM,hMe,ha,hE]
   simp only [Int.natCast_add,Int.natCast_mul,show ((4294967296 : Nat) : Int) = 4294967296 from rfl]
   rw [Int.mul_comm (E : Int),Int.mul_comm 4294967296 (w1 : Int),Int.add_comm (w2 : Int)]
   omega
  exact Int.ofNat_inj.1 this
 have hNn : NN = ((u0 * 4294967296 + u1) * 4294967296 + x2) * E + b:=by
  have : (NN : Int) = ((((u0 * 4294967296 + u1) * 4294967296 + x2) * E + b : Nat) : Int):=by
   rw [← hNN,hr3,hb,hE]
   simp only [Int.natCast_add,Int.natCast_mul,show ((4294967296 : Nat) : Int) = 4294967296 from rfl]
   rw [Int.mul_comm (E : Int),show ((x2 : Int) + 4294967296 * ((u1 : Int) + 4294967296 * (u0 : Int))) = (((u0 : Int) * 4294967296 + (u1 : Int)) * 4294967296 + (x2 : Int)) by omega]
   omega
  exact Int.ofNat_inj.1 this
 have hEa : a < E:=by rw [ha,hE] at hMl; omega
 have hEb : b < E:=by rw [hb,hE] at hR'; omega
 have hMp : 0 < MM:=by rw [hMM] at hM0; omega
 have hNM : NN < MM * 4294967296:=by rw [hNN,hMM] at hlt3; omega
 have hqB : NN / MM < 4294967296:=Nat.div_lt_of_lt_mul hNM
 have hq1 : NN / MM * (w1 * 4294967296 + w2)≤(u0 * 4294967296 + u1) * 4294967296 + x2:=Gb hMn hNn hEb (Nat.div_mul_le_self NN MM)
 have hup : ∀ x,x * (w1 * 4294967296 + w2 + 1)≤(u0 * 4294967296 + u1) * 4294967296 + x2→x≤NN / MM:=fun x hx=>(Nat.le_div_iff_mul_le hMp).2 (Gc hMn hEa hNn hx)
 have hu0w : u0≤w1:=by
  refine Nat.le_of_not_lt fun hc=>?_
  have h1 : MM < (w1 + 1) * 4294967296 * E:=by
   have : (w1 * 4294967296 + w2 + 1) * E≤(w1 + 1) * 4294967296 * E:=Nat.mul_le_mul_right E (by omega)
   rw [Nat.add_mul _ 1,Nat.one_mul] at this
   omega
  have h2 : u0 * 4294967296 * 4294967296 * E≤NN:=by
   have : u0 * 4294967296 * 4294967296 * E≤((u0 * 4294967296 + u1) * 4294967296 + x2) * E:=Nat.mul_le_mul_right E (by omega)
   omega
  have h3 : (w1 + 1) * 4294967296 * 4294967296 * E≤u0 * 4294967296 * 4294967296 * E:=Nat.mul_le_mul_right E (Nat.mul_le_mul_right _ (Nat.mul_le_mul_right _ hc))
  have h4 : (w1 + 1) * 4294967296 * 4294967296 * E = (w1 + 1) * 4294967296 * E * 4294967296:=by rw [Nat.mul_right_comm]
  omega
 have hqe : (aq R / (pw lo * aq V)) = ((NN / MM : Nat) : Int):=by rw [hNN,hMM]; exact (Int.natCast_ediv _ _).symm
 have:=HW V R (V.map aE) lo rfl (by simp) (by simp; omega) (by simpa using hn3) (by simpa using hlo) hR hV hRd (u0 * 4294967296 + u1) w1 w2 x2 (NN / MM)
  (by rw [List.length_map,show ((V.length : Int) - 1).toNat = m + 1 by omega,hd1]; exact c3 (by omega) (by omega))
  (by rw [List.length_map,show ((V.length : Int) - 2).toNat = m by omega,hd2]; exact c3 (by omega) (by omega))
  (by show at_ R _ = _; rw [List.length_map,show ((V.length : Int) - 2).toNat = m by omega,hd3])
  (by omega) (by omega) (by omega) (by omega) (Bh (B:=4294967296) (by omega) hu0w (by omega) (by omega))
  (by rw [List.length_map,show ((V.length : Int) - 1).toNat = m + 1 by omega,← Nat.add_assoc,hd4,show lo + V.length = lo + m + 2 by omega,hd5,c3 (v:=(u0 : Int)) (by omega) (by omega),rA (by omega) (by omega),Int.natCast_add,Int.natCast_mul]; rfl)
  hqB hq1 hup (pw lo * aq V) rfl hM0 (by simpa using hMP) hqe.symm (by simpa using hzR)
 rw [hqe]
 rw [List.length_map] at this
 exact this
end Go.Proofs.YtpejdgkaapnekaaGreat
namespace Go.Proofs.YtpejdgkaapnekaaGreat
open Go Go.Abs
attribute [local irreducible] ao OkC aU bg aV bA
set_option maxRecDepth 10000
theorem vp(v : Int)(m : Nat)(hv : v = (m : Int))(hm : m < 18446744073709551616) : CallA Tryz.prog 370 [.one (.d (.int .u64 v))] [] (.one (.d (bU m))) []:=by
 subst hv; exact Gs m hm
def cN(neg : Bool)(a b : Nat) : D:=.ptr [.bool neg,bU a,bU b]
theorem lw{b : Nat} : (decide ((0 : Int) < (((dig b).map aE).length : Int))) = decide (b≠0):=by
 by_cases h : b = 0
 ·subst h; simp [fw]
 ·rw [jT h]; simp [h]
theorem oV{b : Nat} : ((((dig b).map aE).length : Int) == 0) = decide (b = 0):=by
 by_cases h : b = 0
 ·subst h; simp [fw]
 ·rw [jT h]; simp [h]; omega
theorem FN{v : Int}(hr : -9223372036854775808≤v∧v≤9223372036854775807)(h : v < 0) : IntKind.u64.wrap (0 - IntKind.u64.wrap v) = (v.natAbs : Int):=by
 show (0 - v % 18446744073709551616) % 18446744073709551616 = _
 omega
theorem FO{v : Int}(h : ¬ v < 0) : v = (v.natAbs : Int):=by omega
theorem LP(v : Int) : CallA Tryz.prog 354 [.one (.d (.int .i64 v))] [] (.one (.d (bU v.natAbs))) []:=by
 refine enter ab Tryz.func354 rfl (by decide +kernel) rfl fun hok w0 σ0 φ0 M=>?_
 have hr:=OkD.i64 hok.1
 have hb : v.natAbs < 18446744073709551616:=by omega
 clear hok
 repeat' (first|(refine h6H ?_; first|refine ac ?_|refine ah ab J J J J J ?_|(refine rb ?_; refine dk ab J J J J ?_)|(refine fH ?_; first|refine s_e aa J J J (c7 J J J J (cJ (by first|omega|((try simp only [a0A,a1A,a2A,a3A,a4A,a5A,a6A,a7A,a8A,a9A,au,av] at *); omega)) (by first|omega|((try simp only [a0A,a1A,a2A,a3A,a4A,a5A,a6A,a7A,a8A,a9A,au,av] at *); omega)))) ?_|refine dk ab J J J J ?_)|(refine h4H ?_; first|refine ba 16 J J J J J J J J (vp _ v.natAbs (FN hr (of_decide_eq_true h)) hb) J J J ?_|refine ba 16 J J J J J J J J (vp _ v.natAbs (FO (of_decide_eq_false h)) hb) J J J ?_))|(refine h7H ?_; first|refine al ?_|refine ae ?_|refine aw ?_|refine am ?_|refine aA J (fun h=>?_) (fun h=>?_))|refine ak ?_|refine aC ?_|refine ai (.inl J) J J ?_)
 all_goals rfl
theorem nQ(neg : Bool)(a b : Nat) : CallA Tryz.prog 351 [.one (.d (cN neg a b))] [] (.one (.d (.bool (decide (b≠0))))) []:=by
 refine enter ab Tryz.func351 rfl (by decide +kernel) rfl fun hok w0 σ0 φ0 M=>?_
 clear hok
 repeat' (first|(refine h6H ?_; first|refine ac ?_|refine ah ab J J J J J ?_|(refine h0H ?_; refine aT J J (by first|assumption|rfl) ?_)|(refine h2H ?_; refine s_e aa J J J (aF J J (by first|rfl|assumption) J) ?_)|refine s_e aa J J J J ?_)|(refine h7H ?_; first|refine al ?_|refine ae ?_|refine am ?_)|refine ak ?_|refine ai (.inl J) J J ?_)
 all_goals rw [lw]
theorem LN(neg : Bool)(a b : Nat) : CallA Tryz.prog 385 [.one (.d (cN neg a b))] [] (.one (.d (.int .i64 (if b = 0∨a = 0 then 0 else if neg then -1 else 1)))) []:=by
 refine enter ab Tryz.func385 rfl (by decide +kernel) rfl fun hok w0 σ0 φ0 M=>?_
 clear hok
 repeat' (first|(refine h6H ?_; first|refine ac ?_|refine ah ab J J J J J ?_|(refine h0H ?_; first|refine aT J J (by first|assumption|rfl) ?_|refine bH J J (by first|assumption|rfl) J J ?_|refine bn J J J J (fun h=>?_) (fun h=>?_))|(refine h2H ?_; first|refine s_e aa J J J (aF J J (by first|rfl|assumption) J) ?_|refine s_e aa J J J (az J J (by first|rfl|assumption) J) ?_)|(refine h4H ?_; refine ag J J J J J J J J (nQ _ _ _) J ?_))|(refine h7H ?_; first|refine al ?_|refine ae ?_|refine ay ?_|refine aw ?_|refine am ?_|refine bc J ?_|refine aA J (fun h=>?_) (fun h=>?_))|refine ak ?_|refine aC ?_|refine aG ?_|refine aP ?_|refine ai (.inl J) J J ?_)
 all_goals (try rw [oV] at *)
 all_goals simp_all
theorem LQ(k num den : Int)(str : List UInt8) : CallA Tryz.prog 314 [.agg [.d (.int .i64 k),.d (.int .i64 num),.d (.int .i64 den),.d (.str str)]] [] (.one (.d (cN (decide (num < 0)) num.natAbs den.natAbs))) []:=by
 refine enter ab Tryz.func314 rfl (by decide +kernel) rfl fun hok w0 σ0 φ0 M=>?_
 clear hok
 repeat' (first|(refine h6H ?_; first|refine ac ?_|refine ah ab J J J J J ?_|(refine bC ?_; refine aM 0 J J J J J J ?_))|(refine h7H ?_; first|refine dI (fT (dl:=[1]) J) (am ?_)|refine al ?_|refine ae ?_|refine aR progOk.mo ?_)|(refine bP ?_; first|refine bG (by kernel_rfl) ?_|refine d_e aa J J J (aK J J) ?_|(refine h9H ?_; refine b6 16 J J J J J J J J (LP _) J J ?_)|refine j4 aa 1 J J J J J J ?_)|refine ak ?_|refine ai (.inl J) J J ?_)
 all_goals rfl
theorem FP{n : Nat}(h : n < 18446744073709551616) : (dig n).length≤2:=by
 by_cases h0 : n = 0
 ·subst h0; simp [fw]
 ·rw [jT h0]
  by_cases h1 : n / 4294967296 = 0
  ·rw [h1,fw]; simp
  ·rw [jT h1,show n / 4294967296 / 4294967296 = 0 by omega,fw]; simp
def tH(a d : Int)(k : Nat) : Int:=IntKind.u64.wrap ((BitVec.ofInt IntKind.u64.bits a ||| BitVec.ofInt IntKind.u64.bits (IntKind.u64.wrap (IntKind.u64.wrap d * 2 ^ min (32 * (k : Int)).toNat IntKind.u64.bits))).toNat : Int)
theorem HE{d : Int}(hd : 0≤d∧d < 4294967296) : tH 0 d 0 = d:=by
 obtain ⟨b,rfl⟩:=Int.eq_ofNat_of_zero_le hd.1
 unfold tH
 rw [show (IntKind.u64.wrap (b : Int) * 2 ^ min (32 * ((0 : Nat) : Int)).toNat IntKind.u64.bits) = IntKind.u64.wrap (b : Int) * 1 from rfl,Int.mul_one,c3 (v:=(b : Int)) (by omega) (by omega),c3 (v:=(b : Int)) (by omega) (by omega)]
 have h:=tI (a:=0) (b:=b) (by omega) (by omega)
 simp only [Int.natCast_zero,Int.zero_mul,Nat.zero_mul,Nat.zero_add] at h
 rw [show ((BitVec.ofInt IntKind.u64.bits 0 ||| BitVec.ofInt IntKind.u64.bits (b : Int)).toNat) = b from h,c3 (by omega) (by omega)]
theorem HF{a d : Int}(ha : 0≤a∧a < 4294967296)(hd : 0≤d∧d < 4294967296) : tH a d 1 = a + 4294967296 * d:=by
 obtain ⟨b,rfl⟩:=Int.eq_ofNat_of_zero_le hd.1
 obtain ⟨c,rfl⟩:=Int.eq_ofNat_of_zero_le ha.1
 unfold tH
 rw [show (IntKind.u64.wrap (b : Int) * 2 ^ min (32 * ((1 : Nat) : Int)).toNat IntKind.u64.bits) = IntKind.u64.wrap (b : Int) * 4294967296 from rfl,c3 (v:=(b : Int)) (by omega) (by omega),c3 (v:=(b : Int) * 4294967296) (by omega) (by omega)]
 have h:=tI (a:=b) (b:=c) (by omega) (by omega)
 rw [BitVec.or_comm] at h
 rw [show ((BitVec.ofInt IntKind.u64.bits (c : Int) ||| BitVec.ofInt IntKind.u64.bits ((b : Int) * 4294967296)).toNat) = b * 4294967296 + c from h,c3 (by omega) (by omega)]
 omega
theorem Iq(n : Nat)(hn : n≤1099511627776) : CallA Tryz.prog 352 [.one (.d (bU n))] [] (.tup [(false,[.d (.int .i64 n)]),(false,[.d (.bool true)])]) []:=by
 have hl:=FP (n:=n) (by omega)
 have hc : decide ((0 : Int) < gR n 1099511627776) = false:=by
  refine decide_eq_false ?_
  rcases Nat.lt_or_ge n 1099511627776 with h | h
  ·rw [hJ h]; omega
  ·rw [jK (by omega)]; omega
 refine enter ab Tryz.func352 rfl (by decide +kernel) rfl fun hok w0 σ0 φ0 M=>?_
 clear hok
 repeat' (first|(refine h6H ?_; first|refine ac ?_|refine ah ab J J J J J ?_|(refine h1H ?_; refine s_e aa J J J (aL J J J J (aN (by omega) (by omega))) ?_)|(refine s9 ?_; refine s_e aa J J J (lM J J J J (aN (by omega) (by omega))) ?_)|(refine fH ?_; refine dk ab J J J J ?_)|(refine h3H ?_; refine s_e aa J J J (ar J J J J J (by first|omega|((try simp only [a0A,a1A,a2A,a3A,a4A,a5A,a6A,a7A,a8A,a9A,au,av] at *); omega)) (aJ (by first|omega|((try simp only [a0A,a1A,a2A,a3A,a4A,a5A,a6A,a7A,a8A,a9A,au,av] at *); omega)))) ?_)|(refine h4H ?_; first|refine ag J J J J J J J J (ta _ _) J ?_|refine ba 16 J J J J J J J J (vp 1099511627776 1099511627776 J (by omega)) J J J ?_)|refine s_e aa J J J J ?_)|(refine h7H ?_; first|refine al ?_|refine ae ?_|refine ay ?_|refine aw ?_|refine am ?_|refine aW ?_|refine aZ J (by assumption) ?_|refine aA J (fun h=>?_) (fun h=>?_)|refine bk 5 J [(11,_),(12,_)] (q2Q J J) (fun (p : Nat×Int)=>[(13,.one (.d (.int .i64 (p.1 : Int)))),(4,.one (.d (.int .u64 p.2)))]) (fun (p : Nat×Int)=>p.1≤(dig n).length∧p.2 = aq ((dig n).take p.1)) (fun (p : Nat×Int)=>(dig n).length - p.1) (0,0) (q2Q J J) ?_ (fun p ⟨hk,hv⟩=>?_))|(show Exists _; refine Exists.intro ((p.1 + 1,tH p.2 (at_ (dig n) p.1) p.1)) ⟨?_,?_,(by (repeat' first|exact ap|refine af J ?_); done),(q2Q J J),(q2Q J J)⟩)|refine ak ?_|refine bd ?_|refine aG ?_|refine aX J ?_|refine ai (.inl J) J J ?_)
 ·exact ⟨Nat.zero_le _,by simp [aq]⟩
 ·have hlt : p.1 < (dig n).length:=by simpa using h
  refine ⟨hlt,?_⟩
  obtain ⟨hD,hV,_⟩:=cP n
  show tH p.2 (at_ (dig n) p.1) p.1 = aq ((dig n).take (p.1 + 1))
  rw [bV hlt]
  have hc01 : p.1 = 0∨p.1 = 1:=by omega
  obtain ⟨k,a⟩:=p
  rcases hc01 with e | e
  ·subst e
   simp only at hv ⊢
   rw [hv,List.take_zero]
   simp only [aq]
   rw [HE (hD.at hlt),kW]
   show at_ (dig n) 0 = 0 + 1 * at_ (dig n) 0
   omega
  ·subst e
   simp only at hv ⊢
   have h0 : 0 < (dig n).length:=Nat.lt_trans Nat.zero_lt_one hlt
   have e1 : aq ((dig n).take 1) = at_ (dig n) 0:=by
    rw [bV h0,List.take_zero,kW]; simp [aq]
   rw [hv,e1,HF (hD.at h0) (hD.at hlt)]
   rfl
 ·have hlt : p.1 < (dig n).length:=by simpa using h
  show (dig n).length - (p.1 + 1) < (dig n).length - p.1
  omega
 ·have hge : (dig n).length≤p.1:=by simpa using h
  rw [List.take_of_length_le hge,(cP n).2.1] at hv
  rw [hv,aN (by omega) (by omega)]
theorem Ir(n : Nat)(hn : ¬ n≤1099511627776) : CallA Tryz.prog 352 [.one (.d (bU n))] [] (.tup [(false,[.d (.int .i64 0)]),(false,[.d (.bool false)])]) []:=by
 have hc : decide ((0 : Int) < gR n 1099511627776) = true:=by
  refine decide_eq_true ?_
  rw [hU (by omega)]; omega
 refine enter ab Tryz.func352 rfl (by decide +kernel) rfl fun hok w0 σ0 φ0 M=>?_
 clear hok
 repeat' (first|(refine h6H ?_; first|refine ac ?_|refine ah ab J J J J J ?_|(refine h4H ?_; first|refine ag J J J J J J J J (ta _ _) J ?_|refine ba 16 J J J J J J J J (vp 1099511627776 1099511627776 J (by omega)) J J J ?_))|(refine h7H ?_; first|refine al ?_|refine ae ?_|refine am ?_|refine bv J (by assumption) ?_)|refine ak ?_|refine aC ?_|refine ai (.inl J) J J ?_)
 all_goals rfl
end Go.Proofs.YtpejdgkaapnekaaGreat
namespace Go.Proofs.YtpejdgkaapnekaaGreat
open Go Go.Abs
attribute [local irreducible] ao OkC aU bg aV bA
set_option maxRecDepth 10000
def dl(n : Nat) : Nat:=(dig n).length
theorem iU{m n : Nat}(h : m≤n) : dl m≤dl n:=by
 refine Nat.le_of_not_lt fun hc=>?_
 have:=l5 hc; omega
def ln : Prop:=∀ m n : Nat,n≠0→dl m≤100→dl n≤100→CallA Tryz.prog 355 [.one (.d (bU m)),.one (.d (bU n))] [] (.tup [(false,[.d (bU (m / n))]),(false,[.d (bU (m % n))])]) []
theorem pT{b : Nat}(h : decide ((0 : Int) < (((dig b).map aE).length : Int)) = true) : b≠0:=by rw [lw] at h; exact of_decide_eq_true h
theorem xu{b : Nat}(h : decide ((0 : Int) < (((dig b).map aE).length : Int)) = false) : b = 0:=by rw [lw] at h; exact Decidable.not_not.1 (of_decide_eq_false h)
theorem LU(hD : ln)(m n : Nat)(hm : dl m≤100)(hn : dl n≤100) : CallA Tryz.prog 378 [.one (.d (bU m)),.one (.d (bU n))] [] (.one (.d (bU (Nat.gcd m n)))) []:=by
 refine enter ab Tryz.func378 rfl (by decide +kernel) rfl fun hok w0 σ0 φ0 M=>?_
 clear hok
 repeat' (first|(refine h6H ?_; first|refine ac ?_|refine ah ab J J J J J ?_|(refine h4H ?_; refine ba 16 J J J J J J J J (hD _ _ (pT h) hb1 hb2) J J J ?_))|(refine h7H ?_; first|refine al ?_|refine ae ?_|refine ay ?_|refine aw ?_|refine am ?_|refine aW ?_|refine aA J (fun h=>?_) (fun h=>?_)|refine bk 1 J [] ap (fun (p : Nat×Nat)=>[(0,.one (.d (bU p.1))),(1,.one (.d (bU p.2)))]) (fun (p : Nat×Nat)=>Nat.gcd p.1 p.2 = Nat.gcd m n∧dl p.1≤100∧dl p.2≤100) (fun (p : Nat×Nat)=>p.2) (m,n) (q2Q J J) ?_ (fun p ⟨hg,hb1,hb2⟩=>?_))|(show Exists _; refine Exists.intro ((p.2,p.1 % p.2)) ⟨?_,?_,(by (repeat' first|exact ap|refine af J ?_); done),(q2Q J J),ap⟩)|refine ak ?_|refine bd ?_|refine aG ?_|refine aX J ?_|refine ai (.inl J) J J ?_)
 ·exact ⟨rfl,hm,hn⟩
 ·have hp : p.2≠0:=pT h
  refine ⟨?_,hb2,Nat.le_trans (iU (Nat.le_of_lt (Nat.mod_lt _ (Nat.pos_of_ne_zero hp)))) hb2⟩
  show Nat.gcd p.2 (p.1 % p.2) = _
  rw [← hg,Nat.gcd_comm p.1 p.2]
  conv=>rhs; rw [Nat.gcd_rec,Nat.gcd_comm]
 ·exact Nat.mod_lt _ (Nat.pos_of_ne_zero (pT h))
 ·have e:=xu h
  rw [← hg,e,Nat.gcd_zero_right]
theorem wI{m n : Nat} : decide (m / Nat.gcd m n≠0) = decide (m≠0):=by
 by_cases h : m = 0
 ·subst h; simp
 ·have hp:=Nat.pos_of_ne_zero h
  have hd : m / Nat.gcd m n≠0:=Nat.ne_of_gt (Nat.div_pos (Nat.le_of_dvd hp (Nat.gcd_dvd_left m n)) (Nat.gcd_pos_of_pos_left n hp))
  simp [h,hd]
theorem zX(hD : ln)(neg : Bool)(m n : Nat)(hm : dl m≤100)(hn : dl n≤100)(hn0 : n≠0) : CallA Tryz.prog 360 [.one (.d (.bool neg)),.one (.d (bU m)),.one (.d (bU n))] [] (.one (.d (cN (neg && decide (m≠0)) (m / Nat.gcd m n) (n / Nat.gcd m n)))) []:=by
 have hg0 : Nat.gcd m n≠0:=fun h=>hn0 (Nat.eq_zero_of_gcd_eq_zero_right h)
 have hgb : dl (Nat.gcd m n)≤100:=Nat.le_trans (iU (Nat.le_of_dvd (Nat.pos_of_ne_zero hn0) (Nat.gcd_dvd_right m n))) hn
 refine enter ab Tryz.func360 rfl (by decide +kernel) rfl fun hok w0 σ0 φ0 M=>?_
 clear hok
 repeat' (first|(refine h6H ?_; first|refine ac ?_|refine ah ab J J J J J ?_|(refine h0H ?_; first|refine aT J J (by first|assumption|rfl) ?_|refine bH J J (by first|assumption|rfl) J J ?_|refine bn J J J J (fun h=>?_) (fun h=>?_))|(refine h2H ?_; first|refine s_e aa J J J (aF J J (by first|rfl|assumption) J) ?_|refine s_e aa J J J (az J J (by first|rfl|assumption) J) ?_)|(refine h4H ?_; first|refine ag J J J J J J J J (LR _) J ?_|refine ba 16 J J J J J J J J (LU hD _ _ hm hn) J J J ?_|refine ba 16 J J J J J J J J (hD _ _ hg0 hm hgb) J J J ?_|refine ba 16 J J J J J J J J (hD _ _ hg0 hn hgb) J J J ?_)|(refine bC ?_; refine aM 0 J J J J J J ?_))|(refine h7H ?_; first|refine dI (fT (dl:=[0]) J) (am ?_)|refine al ?_|refine ae ?_|refine aw ?_|refine aA J (fun h=>?_) (fun h=>?_))|refine ak ?_|refine ai (.inl J) J J ?_)
 ·show AV.one (.d (cN (decide ((0 : Int) < (((dig (m / Nat.gcd m n)).map aE).length : Int))) (m / Nat.gcd m n) (n / Nat.gcd m n))) = _
  rw [lw,h,Bool.true_and,wI]
 ·have h' : neg = false:=h
  subst h'; rfl
 ·have hg1 : Nat.gcd m n = 1:=by simpa using ‹(!Nat.gcd m n == 1) = false›
  show AV.one (.d (cN (decide ((0 : Int) < (((dig m).map aE).length : Int))) m n)) = _
  rw [lw,h,Bool.true_and,hg1,Nat.div_one,Nat.div_one]
 ·have hg1 : Nat.gcd m n = 1:=by simpa using ‹(!Nat.gcd m n == 1) = false›
  have h' : neg = false:=h
  subst h'
  rw [hg1,Nat.div_one,Nat.div_one]; rfl
def wG(neg : Bool)(m n : Nat) : D:=cN (neg && decide (m≠0)) (m / Nat.gcd m n) (n / Nat.gcd m n)
def nP(s1 : Bool)(a1 b1 : Nat)(s2 : Bool)(a2 b2 : Nat)(minus : Bool) : D :=
 if (s1 == (!(s2 == minus))) = true then wG (!(s2 == minus)) (a1 * b2 + a2 * b1) (b1 * b2) else if a2 * b1≤a1 * b2 then wG s1 (a1 * b2 - a2 * b1) (b1 * b2) else wG (!(s2 == minus)) (a2 * b1 - a1 * b2) (b1 * b2)
theorem rX{m n : Nat}(h : decide ((0 : Int)≤gR m n) = true) : n≤m:=by
 refine Nat.le_of_not_lt fun hc=>?_
 have:=of_decide_eq_true h
 rw [hJ hc] at this; omega
theorem rY{m n : Nat}(h : decide ((0 : Int)≤gR m n) = false) : m < n:=by
 refine Nat.lt_of_not_le fun hc=>?_
 have:=of_decide_eq_false h
 rcases Nat.lt_or_ge n m with h2 | h2
 ·rw [hU h2] at this; omega
 ·rw [jK (by omega)] at this; omega
set_option maxHeartbeats 1000000 in
theorem Ka(hD : ln)(s1 : Bool)(a1 b1 : Nat)(s2 : Bool)(a2 b2 : Nat)(minus : Bool)(h1 : b1≠0)(h2 : b2≠0)(l1 : (dig a1).length≤400)(l2 : (dig b1).length≤400)(l3 : (dig a2).length≤400)(l4 : (dig b2).length≤400)
  (m1 : (dig (a1 * b2)).length≤400) (m2 : (dig (a2 * b1)).length≤400) (m3 : dl (b1 * b2)≤100) (m4 : dl (a1 * b2 + a2 * b1)≤100) (m5 : dl (a1 * b2 - a2 * b1)≤100) (m6 : dl (a2 * b1 - a1 * b2)≤100) :
  CallA Tryz.prog 359 [.one (.d (cN s1 a1 b1)),.one (.d (cN s2 a2 b2)),.one (.d (.bool minus))] [] (.one (.d (nP s1 a1 b1 s2 a2 b2 minus))) []:=by
 have hb12 : b1 * b2≠0:=Nat.mul_ne_zero h1 h2
 have v1 : decide (b1≠0) = true:=by simp [h1]
 have v2 : decide (b2≠0) = true:=by simp [h2]
 refine enter ab Tryz.func359 rfl (by decide +kernel) rfl fun hok w0 σ0 φ0 M=>?_
 clear hok
 repeat' (first|(refine h6H ?_; first|refine ac ?_|refine ah ab J J J J J ?_|(refine h0H ?_; first|refine aT J J (by first|assumption|rfl) ?_|refine bH J J (by first|assumption|rfl) J J ?_|refine bn J J J J (fun h=>?_) (fun h=>?_))|(refine h2H ?_; first|refine s_e aa J J J (aF J J (by first|rfl|assumption) J) ?_|refine s_e aa J J J (az J J (by first|rfl|assumption) J) ?_)|(refine h4H ?_; first|refine ag J J J J J J J J (nQ _ _ _) J ?_|refine ag J J J J J J J J (ta _ _) J ?_|refine ba 16 J J J J J J J J (GA _ _ (by omega) (by omega)) J J J ?_|refine ba 16 J J J J J J J J (HM _ _ (by omega) (Nat.le_of_lt (rY h))) J J J ?_|refine ba 16 J J J J J J J J (zX hD _ _ _ (by omega) (by omega) hb12) J J J ?_))|(refine h7H ?_; first|refine al ?_|refine ae ?_|refine ay ?_|refine aw ?_|refine am ?_|refine bc J ?_|refine aA J (fun h=>?_) (fun h=>?_)|refine aR progOk.mo ?_)|(refine bP ?_; first|refine bG (by kernel_rfl) ?_|refine d_e aa J J J (aK J J) ?_|(refine h9H ?_; first|refine b6 16 J J J J J J J J (wH _ _ (by omega) (by omega)) J J ?_|refine b6 16 J J J J J J J J (HM _ _ (by omega) (rX h)) J J ?_|refine b6 16 J J J J J J J J (zX hD _ _ _ (by omega) (by omega) hb12) J J ?_))|refine ak ?_|refine aC ?_|refine aG ?_|refine aP ?_|refine ai (.inl J) J J ?_)
 all_goals first
  | (exfalso; simp_all; done)
  | skip
 ·unfold nP; rw [if_pos h]; rfl
 ·have hs:=‹(s1 == !s2 == minus) = false›
  unfold nP; rw [if_neg (by rw [hs]; simp),if_pos (rX h)]; rfl
 ·have hs:=‹(s1 == !s2 == minus) = false›
  unfold nP; rw [if_neg (by rw [hs]; simp),if_neg (Nat.not_le_of_lt (rY h))]; rfl
end Go.Proofs.YtpejdgkaapnekaaGreat
namespace Go.Proofs.YtpejdgkaapnekaaGreat
open Go Go.Abs
def bp(k : Nat) : Nat:=4294967296 ^ k
theorem pwc(k : Nat) : pw k = ((bp k : Nat) : Int):=by
 unfold pw bp
 induction k with
 | zero=>rfl
 | succ k ih=>rw [Int.pow_succ,Nat.pow_succ,Int.natCast_mul,ih]; rfl
theorem BD(k : Nat) : 0 < bp k:=Nat.pow_pos (by omega)
theorem pN(k : Nat) : bp (k + 1) = bp k * 4294967296:=by unfold bp; rw [Nat.pow_succ]
theorem BY(a b : Nat) : bp (a + b) = bp a * bp b:=by unfold bp; rw [Nat.pow_add]
theorem tb : bp 0 = 1:=rfl
theorem iT{a b : Nat}(h : a≤b) : bp a≤bp b:=Nat.pow_le_pow_right (by omega) h
theorem iy : ∀ (w n : Nat),Dg (wid w n)
 | 0,_=>fun d hd=>by simp [wid] at hd
 | w + 1,n=>fun d hd=>by
   rcases List.mem_cons.1 hd with rfl | hd
   ·omega
   ·exact iy w _ d hd
theorem jL : ∀ (w n : Nat),n < bp w→aq (wid w n) = n
 | 0,n,h=>by
   have : n = 0:=by rw [tb] at h; omega
   subst this; rfl
 | w + 1,n,h=>by
   simp only [wid,aq]
   rw [jL w (n / 4294967296) (by rw [pN] at h; exact Nat.div_lt_of_lt_mul (by rw [Nat.mul_comm]; exact h))]
   omega
theorem mO(n : Nat) : n < bp (dig n).length:=by
 obtain ⟨h1,h2,_⟩:=cP n
 have:=(dH h1).2
 rw [h2,pwc] at this
 omega
theorem rQ{n k : Nat}(h : (dig n).length = k + 1) : at_ (dig n) k≠0∧at_ (dig n) k * bp k≤n∧(n : Int) < (at_ (dig n) k + 1) * bp k:=by
 obtain ⟨h1,h2,h3⟩:=cP n
 have e:=bV (l:=dig n) (k:=k) (by omega)
 rw [show k + 1 = (dig n).length by omega,List.take_length,h2] at e
 have hb:=dH (h1.take k)
 rw [show ((dig n).take k).length = k by simp; omega] at hb
 have hne : at_ (dig n) k≠0:=by
  rcases h3 with h3 | h3
  ·rw [h3] at h; cases h
  ·rwa [h] at h3
 rw [pwc,Int.mul_comm] at e
 rw [pwc] at hb
 rw [Int.add_mul,Int.one_mul]
 exact ⟨hne,by omega,by omega⟩
theorem Dk{v k : Nat}(h1 : 2147483648 * bp (k + 1)≤v)(h2 : v < bp (k + 2)) : (dig v).length = k + 2∧2147483648≤at_ (dig v) (k + 1):=by
 have hl : (dig v).length = k + 2:=by
  rcases Nat.lt_trichotomy (dig v).length (k + 2) with h | h | h
  ·have:=mO v
   have h3:=iT (show (dig v).length≤k + 1 by omega)
   omega
  ·exact h
  ·obtain ⟨m,hm⟩ : ∃ m,(dig v).length = m + 1:=⟨(dig v).length - 1,by omega⟩
   obtain ⟨g1,g2,_⟩:=rQ hm
   have h3:=iT (show k + 2≤m by omega)
   have h4:=(cP v).1.at (i:=m) (by omega)
   have h5 : (1 : Int) * (bp m : Int)≤at_ (dig v) m * (bp m : Int):=Int.mul_le_mul_of_nonneg_right (by omega) (by omega)
   omega
 refine ⟨hl,?_⟩
 obtain ⟨g1,g2,g3⟩:=rQ hl
 refine Classical.byContradiction fun hc=>?_
 have h5 : (at_ (dig v) (k + 1) + 1) * (bp (k + 1) : Int)≤2147483648 * (bp (k + 1) : Int):=Int.mul_le_mul_of_nonneg_right (by omega) (by omega)
 omega
theorem Dj{n k : Nat}(hl : (dig n).length = k + 2) : ∃ s : Nat,s≤31∧32 - (Lib.bitLen (at_ (dig n) (k + 1)).toNat : Int) = (s : Int)∧2147483648 * bp (k + 1)≤n * 2 ^ s∧n * 2 ^ s < bp (k + 2):=by
 obtain ⟨g1,g2,g3⟩:=rQ hl
 have h4:=(cP n).1.at (i:=k + 1) (by omega)
 obtain ⟨t,ht⟩:=Int.eq_ofNat_of_zero_le h4.1
 rw [ht] at g1 g2 g3 h4 ⊢
 rw [Int.toNat_natCast]
 have hb:=Lib.bitLenAux_bounds 64 t (by omega) (by omega)
 have hle:=Lib.bitLen_le t 32 (by omega) (by omega)
 change 1≤Lib.bitLen t∧2 ^ (Lib.bitLen t - 1)≤t∧t < 2 ^ Lib.bitLen t at hb
 obtain ⟨b1,b2,b3⟩:=hb
 generalize Lib.bitLen t = b at *
 refine ⟨32 - b,by omega,by omega,?_,?_⟩
 ·have e : (2147483648 : Nat) = 2 ^ (b - 1) * 2 ^ (32 - b):=by rw [← Nat.pow_add,show b - 1 + (32 - b) = 31 by omega]
  have h5 : 2 ^ (b - 1) * 2 ^ (32 - b) * bp (k + 1)≤t * 2 ^ (32 - b) * bp (k + 1):=Nat.mul_le_mul_right _ (Nat.mul_le_mul_right _ b2)
  have h6 : t * bp (k + 1) * 2 ^ (32 - b)≤n * 2 ^ (32 - b):=Nat.mul_le_mul_right _ (by omega)
  rw [Nat.mul_right_comm] at h6
  rw [e]; omega
 ·have e : (4294967296 : Nat) = 2 ^ b * 2 ^ (32 - b):=by rw [← Nat.pow_add,show b + (32 - b) = 32 by omega]
  have h5 : n < (t + 1) * bp (k + 1):=by
   have : (n : Int) < (((t + 1) * bp (k + 1) : Nat) : Int):=by rw [Int.natCast_mul,Int.natCast_add]; exact g3
   omega
  have h6 : n * 2 ^ (32 - b) < (t + 1) * bp (k + 1) * 2 ^ (32 - b):=Nat.mul_lt_mul_of_pos_right h5 (Nat.two_pow_pos _)
  have h7 : (t + 1) * 2 ^ (32 - b) * bp (k + 1)≤2 ^ b * 2 ^ (32 - b) * bp (k + 1):=Nat.mul_le_mul_right _ (Nat.mul_le_mul_right _ b3)
  rw [Nat.mul_right_comm] at h6
  rw [← e] at h7
  rw [pN (k + 1),Nat.mul_comm (bp (k + 1))]
  omega
theorem Fa{m v k s : Nat}(hs : s≤31)(hv : 2147483648 * bp (k + 1)≤v)(hl : k + 2≤(dig m).length) : m * 2 ^ s < bp ((dig m).length + 1 - (k + 2)) * v∧m * 2 ^ s < bp ((dig m).length + 1):=by
 have h1:=mO m
 have hp : 2 ^ s≤2147483648:=Nat.pow_le_pow_right (by omega) hs
 have h2 : m * 2 ^ s < bp (dig m).length * 2147483648:=Nat.lt_of_lt_of_le (Nat.mul_lt_mul_of_pos_right h1 (Nat.two_pow_pos s)) (Nat.mul_le_mul_left _ hp)
 constructor
 ·have h3:=Nat.mul_le_mul_left (bp ((dig m).length + 1 - (k + 2))) hv
  have e : bp ((dig m).length + 1 - (k + 2)) * (2147483648 * bp (k + 1)) = bp (dig m).length * 2147483648:=by
   rw [Nat.mul_left_comm,← BY,show (dig m).length + 1 - (k + 2) + (k + 1) = (dig m).length by omega,Nat.mul_comm]
  omega
 ·rw [pN]
  exact Nat.lt_of_lt_of_le h2 (Nat.mul_le_mul_left _ (Nat.le_of_ble_eq_true rfl))
theorem Ic(v k j W un : Nat)(hl : (dig v).length = k + 2)(ht : 2147483648≤at_ (dig v) (k + 1))(hk : k + 2≤400)(hW : W≤1000)(hj : j + (k + 2) + 1≤W)(hu : un < bp (j + 1) * v) :
  CallA Tryz.prog 375 [.one (.sub 1000000 j ((dig v).length + 1)),.one (.d (bU v))] [(1000000,.row 1 4 ((wid W un).map aE))] (.one (.d (.int .u32 ((un / (bp j * v) : Nat) : Int)))) [(1000000,.row 1 4 ((wid W (un % (bp j * v))).map aE))]:=by
 obtain ⟨h1,h2,_⟩:=cP v
 have hvb:=mO v
 have hub : un < bp W:=by
  refine Nat.lt_of_lt_of_le hu (Nat.le_trans (Nat.mul_le_mul_left _ (Nat.le_of_lt hvb)) ?_)
  rw [← BY]; exact iT (by omega)
 have hn:=jL W un hub
 have:=I1 (dig v) (wid W un) j k hl (by omega) (by rw [fa]; omega) (by rw [fa]; omega) h1 (iy W un) ht (by
  rw [hn,h2,pwc,← Int.natCast_mul]; omega)
 rw [hn,h2,pwc,← Int.natCast_mul,← Int.natCast_ediv,← Int.natCast_emod,Int.toNat_natCast,fa] at this
 exact this
theorem Di{v j u un W : Nat}{Q : List Int}{R : List (List D)}{N : Nat}(hv : 0 < v)(hj : j < N)(hr : R = Q.map aE)(hl : R.length = N)(hQ : Dg Q)(hun : un = u % (bp (j + 1) * v))(hq : aq (Q.drop (j + 1)) = ((u / (bp (j + 1) * v) : Nat) : Int)) :
  R.set j [.int .u32 ((un / (bp j * v) : Nat) : Int)] = (Q.set j ((un / (bp j * v) : Nat) : Int)).map aE∧(R.set j [.int .u32 ((un / (bp j * v) : Nat) : Int)]).length = N∧Dg (Q.set j ((un / (bp j * v) : Nat) : Int))∧un % (bp j * v) = u % (bp j * v) ∧
  aq ((Q.set j ((un / (bp j * v) : Nat) : Int)).drop j) = ((u / (bp j * v) : Nat) : Int):=by
 have hQl : Q.length = N:=jq hr hl
 have hp:=BD j
 have hM : 0 < bp j * v:=Nat.mul_pos hp hv
 have e : bp (j + 1) * v = bp j * v * 4294967296:=by rw [pN,Nat.mul_right_comm]
 rw [e] at hun hq
 generalize bp j * v = M at *
 have hlt : un < M * 4294967296:=by rw [hun]; exact Nat.mod_lt _ (by omega)
 have hd : un / M < 4294967296:=Nat.div_lt_of_lt_mul hlt
 have e1 : un % M = u % M:=by rw [hun,Nat.mod_mul_right_mod]
 have e2 : u / M = un / M + 4294967296 * (u / (M * 4294967296)):=by
  rw [hun,Nat.mod_mul_right_div_self,← Nat.div_div_eq_div_mul]
  omega
 refine ⟨eL hr,by simpa using hl,hQ.set (by clear hun e1 e2; generalize un / M = z at hd ⊢; omega),e1,?_⟩
 rw [aO (l:=Q.set j _) (by simp; omega),lQ (by omega),List.drop_set_of_lt (by omega)]
 simp only [aq,hq,e2]
 omega
end Go.Proofs.YtpejdgkaapnekaaGreat
namespace Go.Proofs.YtpejdgkaapnekaaGreat
open Go Go.Abs
def rsX(x s : Int) : Int:=x.fdiv (2 ^ min s.toNat IntKind.u32.bits)
theorem Ew{x y : Int}{s : Nat}(hs : s≤31)(hx : 0≤x∧x < 4294967296)(hy : 0≤y∧y < 4294967296) :
  rsX x s = x / 2 ^ s∧0≤x / 2 ^ s∧x / 2 ^ s < 4294967296∧shO (rsX x s) (shV y (32 - (s : Int))) = x / 2 ^ s + y % 2 ^ s * 2 ^ (32 - s)∧0≤x / 2 ^ s + y % 2 ^ s * 2 ^ (32 - s)∧x / 2 ^ s + y % 2 ^ s * 2 ^ (32 - s) < 4294967296:=by
 obtain ⟨a,rfl⟩:=Int.eq_ofNat_of_zero_le hx.1
 obtain ⟨b,rfl⟩:=Int.eq_ofNat_of_zero_le hy.1
 have h2 : ∀ k : Nat,(2 : Int) ^ k = ((2 ^ k : Nat) : Int):=fun k=>by simp
 have ha : a < 4294967296:=by omega
 have hb : b < 4294967296:=by omega
 have hsp : 4294967296 = 2 ^ (32 - s) * 2 ^ s:=by rw [← Nat.pow_add,show 32 - s + s = 32 by omega]
 have hX : rsX (a : Int) s = ((a / 2 ^ s : Nat) : Int):=by
  unfold rsX
  have hm : min ((s : Int)).toNat IntKind.u32.bits = s:=by show min s 32 = s; omega
  rw [hm,h2,Int.fdiv_eq_ediv_of_nonneg _ (Int.natCast_nonneg _)]; exact (Int.natCast_ediv _ _).symm
 have hp : 2 ^ (32 - s)≤4294967296:=by
  have:=Nat.pow_le_pow_right (n:=2) (by omega) (show 32 - s≤32 by omega)
  exact this
 have hV : shV (b : Int) (32 - (s : Int)) = ((b * 2 ^ (32 - s) : Nat) : Int):=by
  unfold shV
  have hm : min (32 - (s : Int)).toNat IntKind.u64.bits = 32 - s:=by show min (32 - (s : Int)).toNat 64 = 32 - s; omega
  have hbd : b * 2 ^ (32 - s)≤4294967295 * 4294967296:=Nat.mul_le_mul (by omega) hp
  rw [c3 (v:=(b : Int)) (by omega) (by omega),hm,h2,← Int.natCast_mul,c3 (by omega) (by omega)]
 have hlo : b * 2 ^ (32 - s) % 4294967296 = (b % 2 ^ s) * 2 ^ (32 - s):=by
  rw [hsp,Nat.mul_comm (2 ^ (32 - s)) (2 ^ s),Nat.mul_mod_mul_right]
 have hxs : a / 2 ^ s < 2 ^ (32 - s):=Nat.div_lt_of_lt_mul (by rw [Nat.mul_comm]; omega)
 have hbl : (b % 2 ^ s) * 2 ^ (32 - s) + 2 ^ (32 - s)≤4294967296:=by
  have h1 : b % 2 ^ s + 1≤2 ^ s:=Nat.mod_lt _ (Nat.two_pow_pos _)
  have h3:=Nat.mul_le_mul_right (2 ^ (32 - s)) h1
  rw [Nat.mul_comm (2 ^ s),← hsp,Nat.add_mul,Nat.one_mul] at h3
  exact h3
 have hO : shO (rsX (a : Int) s) (shV (b : Int) (32 - (s : Int))) = ((a / 2 ^ s + b % 2 ^ s * 2 ^ (32 - s) : Nat) : Int):=by
  rw [hX,hV]
  unfold shO
  generalize b * 2 ^ (32 - s) = v at hlo ⊢
  generalize a / 2 ^ s = x' at hxs ⊢
  simp only [ip]
  have e1 : (BitVec.ofInt 32 (x' : Int)).toNat = x':=by rw [BitVec.toNat_ofInt]; simp; omega
  have e2 : (BitVec.ofInt 32 ((v : Int) % 4294967296)).toNat = v % 4294967296:=by rw [BitVec.toNat_ofInt]; simp; omega
  have e3 : (BitVec.ofInt 32 (x' : Int) ||| BitVec.ofInt 32 ((v : Int) % 4294967296)).toNat = x' + v % 4294967296:=by
   rw [BitVec.toNat_or,e1,e2,hlo,Bs hxs]
  rw [show ((BitVec.ofInt IntKind.u32.bits (x' : Int) ||| BitVec.ofInt IntKind.u32.bits ((v : Int) % 4294967296)).toNat) = x' + v % 4294967296 from e3]
  rw [hlo]; omega
 have hq : (a : Int) / 2 ^ s = ((a / 2 ^ s : Nat) : Int):=by rw [h2]; exact (Int.natCast_ediv _ _).symm
 have hr : (b : Int) % 2 ^ s * 2 ^ (32 - s) = ((b % 2 ^ s * 2 ^ (32 - s) : Nat) : Int):=by rw [h2,h2,Int.natCast_mul,Int.natCast_emod]
 rw [hO,hX,hq,hr]
 generalize a / 2 ^ s = x' at *
 generalize b % 2 ^ s * 2 ^ (32 - s) = y' at *
 exact ⟨rfl,by omega,by omega,by omega,by omega,by omega⟩
theorem wp{l : List Int}{k : Nat}(hz : ∀ t,k≤t→at_ l t = 0) : aq (l.take k) = aq l:=by
 have e : aq l = aq (l.take k) + pw (l.take k).length * aq (l.drop k):=by rw [← jA,List.take_append_drop]
 have e2 : ∀ (m : List Int),(∀ t,at_ m t = 0)→aq m = 0:=by
  intro m
  induction m with
  | nil=>intro _; rfl
  | cons d r ih =>
    intro hm
    have h0 : d = 0:=hm 0
    have h1:=ih (fun t=>hm (t + 1))
    simp only [aq,h0,h1]; rfl
 rw [e2 (l.drop k) (fun t=>by
  have:=hz (k + t) (by omega)
  simp only [at_,List.getD_eq_getElem?_getD,List.getElem?_drop] at this ⊢
  exact this)] at e
 omega
def RsI(A : List Int)(s W i : Nat)(Q : List Int)(R : List (List D)) : Prop :=
 R = Q.map aE∧R.length = W∧Dg Q∧(∀ t,i≤t→at_ Q t = at_ A t)∧aq (Q.take i) * 2 ^ s = aq (A.take i) - at_ A 0 % 2 ^ s + pw i * (at_ A i % 2 ^ s)
theorem Ex{A Q : List Int}{s i : Nat}{g g0 : Int}(hs : s≤31)(hA : i < A.length)(hQl : Q.length = A.length)(hv : aq (Q.take i) * 2 ^ s = aq (A.take i) - at_ A 0 % 2 ^ s + pw i * (at_ A i % 2 ^ s))(hAd : Dg A)
  (hg : g = at_ A i / 2 ^ s + at_ A (i + 1) % 2 ^ s * 2 ^ (32 - s)) : aq (((Q.set i g0).set i g).take (i + 1)) * 2 ^ s = aq (A.take (i + 1)) - at_ A 0 % 2 ^ s + pw (i + 1) * (at_ A (i + 1) % 2 ^ s):=by
 rw [bV (l:=(Q.set i g0).set i g) (by simp; omega),List.take_set_of_le (Nat.le_refl _),List.take_set_of_le (Nat.le_refl _),lQ (by simp; omega),bV hA,Int.add_mul,hv,hg,dx]
 have e1 : (2 : Int) ^ (32 - s) * 2 ^ s = 4294967296:=by rw [← Int.pow_add,show 32 - s + s = 32 by omega]; rfl
 have e2:=Int.mul_ediv_add_emod (at_ A i) (2 ^ s)
 generalize at_ A i / 2 ^ s = x at *
 generalize at_ A i % 2 ^ s = y at *
 generalize at_ A (i + 1) % 2 ^ s = z at *
 rw [← e2]
 have e3 : pw i * (x + z * 2 ^ (32 - s)) * 2 ^ s = pw i * (2 ^ s * x) + 4294967296 * pw i * z:=by
  rw [Int.mul_add,Int.add_mul,Int.mul_assoc (pw i) x,Int.mul_comm x,Int.mul_assoc (pw i) (z * _),Int.mul_assoc z,e1,Int.mul_comm z,← Int.mul_assoc (pw i) 4294967296,Int.mul_comm (pw i) 4294967296]
 rw [e3,Int.mul_add]
 omega
theorem Dn{A Q : List Int}{R : List (List D)}{s W i : Nat}(hs : s≤31)(hA : A.length = W)(hi : i + 1 < W)(hAd : Dg A)(h : RsI A s W i Q R) :
  RsI A s W (i + 1) ((Q.set i (rsX (at_ Q i) s)).set i (shO (at_ (Q.set i (rsX (at_ Q i) s)) i) (shV (at_ (Q.set i (rsX (at_ Q i) s)) (i + 1)) (32 - (s : Int))))) ((R.set i [.int .u32 (rsX (at_ Q i) s)]).set i [.int .u32 (shO (at_ (Q.set i (rsX (at_ Q i) s)) i) (shV (at_ (Q.set i (rsX (at_ Q i) s)) (i + 1)) (32 - (s : Int))))]):=by
 obtain ⟨hr,hl,hQ,he,hv⟩:=h
 have hQl : Q.length = W:=jq hr hl
 rw [lQ (by omega),ep (by omega),he i (Nat.le_refl _),he (i + 1) (by omega)]
 obtain ⟨r1,r2,r3,r4,r5,r6⟩:=Ew (x:=at_ A i) (y:=at_ A (i + 1)) hs (hAd.at (by omega)) (hAd.at (by omega))
 rw [r4]
 rw [r1]
 refine ⟨eL (eL hr),by simpa using hl,(hQ.set ⟨r2,r3⟩).set ⟨r5,r6⟩,fun t ht=>by rw [ep (by omega),ep (by omega)]; exact he t (by omega),Ex hs (by omega) (by omega) hv hAd rfl⟩
theorem zQ{l : List Int}{i : Nat}{x : Int} : (l.set i x).set i x = l.set i x:=by simp
theorem Do{A Q : List Int}{R : List (List D)}{s W i : Nat}(hs : s≤31)(hA : A.length = W)(hi : i < W)(hAd : Dg A)(hz : at_ A (i + 1) = 0)(h : RsI A s W i Q R) :
  RsI A s W (i + 1) (Q.set i (rsX (at_ Q i) s)) (R.set i [.int .u32 (rsX (at_ Q i) s)]):=by
 obtain ⟨hr,hl,hQ,he,hv⟩:=h
 have hQl : Q.length = W:=jq hr hl
 rw [he i (Nat.le_refl _)]
 obtain ⟨r1,r2,r3,r4,r5,r6⟩:=Ew (x:=at_ A i) (y:=0) hs (hAd.at (by omega)) (by omega)
 rw [r1]
 have hg:=Ex (g:=at_ A i / 2 ^ s) (g0:=at_ A i / 2 ^ s) hs (by omega) (by omega) hv hAd (by rw [hz,Int.zero_emod,Int.zero_mul,Int.add_zero])
 rw [zQ] at hg
 exact ⟨eL hr,by simpa using hl,hQ.set ⟨r2,r3⟩,fun t ht=>by rw [ep (by omega)]; exact he t (by omega),hg⟩
theorem Gx{Q : List Int}{R : List (List D)}{s W i r a : Nat}(ha : a = r * 2 ^ s)(hs : s≤31)(haW : a < bp W)(hi : i = (dig a).length)(hiW : i≤W)(h : RsI (wid W a) s W i Q R) : R.take i = (Q.take i).map aE∧Dg (Q.take i)∧(aq (Q.take i)).toNat = r:=by
 obtain ⟨hr,hl,hQ,he,hv⟩:=h
 have hA:=iy W a
 have hn:=jL W a haW
 have hz : ∀ t,i≤t→at_ (wid W a) t = 0:=kG hA (by rw [hn,pwc,hi]; have:=mO a; omega)
 rw [wp hz,hn,hz i (Nat.le_refl _),Int.zero_emod,Int.mul_zero,Int.add_zero] at hv
 have h0 : at_ (wid W a) 0 % 2 ^ s = 0:=by
  cases W with
  | zero=>show (0 : Int) % 2 ^ s = 0; exact Int.zero_emod _
  | succ W =>
    show ((a % 4294967296 : Nat) : Int) % 2 ^ s = 0
    have e : a % 4294967296 % 2 ^ s = 0:=by
     rw [Nat.mod_mod_of_dvd _ ⟨2 ^ (32 - s),by rw [← Nat.pow_add,show s + (32 - s) = 32 by omega]⟩,ha,Nat.mul_mod_left]
    rw [show (2 : Int) ^ s = ((2 ^ s : Nat) : Int) by simp,← Int.natCast_emod,e]; rfl
 rw [h0,Int.sub_zero,ha,Int.natCast_mul,show ((2 ^ s : Nat) : Int) = (2 : Int) ^ s by simp] at hv
 have:=Int.eq_of_mul_eq_mul_right (Int.ne_of_gt (Int.pow_pos (by omega))) hv
 exact ⟨by rw [hr,List.map_take],hQ.take i,by rw [this]; rfl⟩
end Go.Proofs.YtpejdgkaapnekaaGreat
namespace Go.Abs
open Go
theorem BE{V : Env}{st : St}{o : Oper}{t ty : TypeId}{x y : Operand}{k k' : IntKind}{a b : Int}(ho : o.op = .binOp .shl t x y ty)
  (hx : ev st x = some (.one (.d (.int k a)))) (hy : ev st y = some (.one (.d (.int k' b)))) (h0 : 0≤b) : bw V st o 0 = some ⟨.one (.d (.int k (k.wrap (a * 2 ^ min b.toNat k.bits)))),[],[]⟩:=by
 have e : ¬ b < 0:=by omega
 simp only [bw,de,cy,ho,hx,hy,nf,iR,cond_true,qT,cX,kA,ji,tF,e,decide_false,Bool.not_false,Bool.and_self]
 cases o.dst <;> simp [gq]
section
variable {P : Program} {V : Env} {T : Tab} {fr : List (Nat×AV)} {sto : Sto} {w0 : World} {σ0 : Sig} {φ0 : Pl} {M : Nat→Prop} {nn : Nat} {rd : Option Nat} {mk : List Deferred} {ops : Array Oper} {o : Oper} {rest : List Oper} {K : St→Prop}
theorem Dl(hV : EnvOk P V){d : Nat}{t e : TypeId}{x y z : Operand}{id m k k' b b' lo n : Nat}{ik ik' : IntKind}{l h : Int}{xs : List (List D)}{zv : List D}(ho : o.op = .slice t x (some y) (some z) none)(hg : o.guard = none)(hdst : o.dst = some d)(hd : Nat.blt d nn = true)(ht : bz V.T t = some (e,k',b',zv))(hx : ev ⟨fr,sto⟩ x = some (.one (.own id m)))
  (hy : ev ⟨fr,sto⟩ y = some (.one (.d (.int ik l)))) (hz : ev ⟨fr,sto⟩ z = some (.one (.d (.int ik' h)))) (hl : look sto id = some (.row k b xs)) (hk : Nat.beq k k' = true) (h0 : l = (lo : Int)) (h1 : h = (lo : Int) + (n : Int)) (hm : lo + n≤m) (hxs : m≤xs.length)
  (hk2 : ao P ⟨w0,σ0,φ0,M,nn,rd,mk⟩ ops rest ⟨(d,.one (.sub id lo n))::fr,sto⟩ K) : ao P ⟨w0,σ0,φ0,M,nn,rd,mk⟩ ops (o::rest) ⟨fr,sto⟩ K:=by
 subst h0; subst h1
 have e1 : Nat.ble lo (lo + n) = true:=Nat.ble_eq.mpr (by omega)
 have e2 : Nat.ble (lo + n) xs.length = true:=Nat.ble_eq.mpr (by omega)
 have e3 : Nat.ble (lo + n) m = true:=Nat.ble_eq.mpr hm
 have e4 : (0 : Int)≤(lo : Int):=Int.natCast_nonneg _
 have e5 : (0 : Int)≤(lo : Int) + (n : Int):=by omega
 have e6 : ((lo : Int) + (n : Int)).toNat = lo + n:=by omega
 cases hb : Nat.beq lo 0 with
 | false =>
   refine s_e hV hg hdst hd ?_ hk2
   simp only [bw,de,cy,ho,cX,fZ,hx,hy,hz,e4,e5,decide_true,cond_true,gd,ht,hl,hk,Int.toNat_natCast,e6,e1,e2,e3,hb,Bool.and_self,Bool.false_and,cond_false,Nat.add_sub_cancel_left]
 | true =>
   have hlo : lo = 0:=Nat.eq_of_beq_eq_true hb
   refine s_e (v:=.one (.own id (lo + n))) hV hg hdst hd ?_ (eo ?_ hk2)
   ·simp only [bw,de,cy,ho,cX,fZ,hx,hy,hz,e4,e5,decide_true,cond_true,gd,ht,hl,hk,Int.toNat_natCast,e6,e1,e2,e3,hb,Bool.and_self,Bool.true_and,Bool.or_true]
   ·subst hlo
    rw [Nat.zero_add]
    intro a w σ φ hr
    refine ⟨σ,φ,⟨hr.le,hr.fresh,hr.inv,hr.mine,fun s v hv=>?_,hr.defers,hr.size,hr.fra,hr.pin⟩⟩
    rcases aB hv with ⟨rfl,rfl⟩ | ⟨hne,hv⟩
    ·obtain ⟨u,h1,h2⟩:=hr.slot s (.one (.own id n)) (by simp [look])
     exact ⟨u,h1,Fj hr.inv (by simp only [bQ,hl]) h2⟩
    ·have e7 : Nat.beq d s = false:=by
      cases h7 : Nat.beq d s with
      | false=>rfl
      | true=>exact absurd (Nat.eq_of_beq_eq_true h7).symm hne
     exact hr.slot s v (by simp only [look,e7,cond_false]; exact hv)
end
theorem Cc{P : Program}{c : Ctx}{o : Oper}{st : St}{fop : Operand}{args : Array Operand}{ats : Array TypeId}{f : FuncId}{caps : List D}{rav : AV}(k : Nat){id m kk b b' : Nat}{xs ys : List (List D)}
  (ho : o.op = .call { callee:=.value fop,args:=args,argTypes:=ats }) (hd : bu c.n o.dst = true) (hl : look st.sto id = some (.row kk b xs)) (hf : ev st fop = some (.one (.d (.fn f caps))))
  (ha : evL st args.toList = some [.one (.own id m)]) (hC : CallA P f ([.one (.own 1000000 m)] ++ caps.map fun x=>.one (.d x)) [(1000000,.row kk b xs)] rav [(1000000,.row kk b ys)]) (hys : xs.length = ys.length)
  (hk : (fm [(1000000,id)] && ij [(1000000,id)] && fX [(1000000,AObj.row kk b xs)] [(1000000,id)] && fG [(1000000,id)] && cW [(1000000,id)] [(1000000,AObj.row kk b ys)] && dD [(1000000,AObj.row kk b xs)] ([AV.one (.own 1000000 m)] ++ caps.map fun x=>.one (.d x)) && bL [(1000000,AObj.row kk b xs)] [(1000000,AObj.row kk b xs)] && dr [(1000000,AObj.row kk b ys)] rav && bL [(1000000,AObj.row kk b ys)] [(1000000,AObj.row kk b ys)] && Nat.ble (k + 16) 1000000) = true)
  (hrn : da (rn k [(1000000,id)]) [AV.one (.own 1000000 m)] = [.one (.own id m)]) (hrv : dO (rn k [(1000000,id)]) rav = rav) : Loc P c o st ⟨rav,[(id,none)],[id],rng k 16⟩:=by
 intro st2 hs hri hnew ops rest K h
 have he : ∀ {x : Operand},x∈o.op.operands.toList→ev st2 x = ev st x:=fun hx=>eK hs hx
 rw [ho] at he
 have hl2 : look st2.sto id = some (.row kk b xs):=(hri id List.mem_cons_self).trans hl
 have ha2 : evL st2 args.toList = some (da (rn k [(1000000,id)]) [AV.one (.own 1000000 m)]):=by
  rw [hrn,← ha]
  refine iH fun x hx=>he (by simp [Op.operands,Call.operands]; exact .inr (by simpa using hx))
 have hf2 : ev st2 fop = some (.one (.d (.fn f caps))):=(he (x:=fop) (by simp [Op.operands,Call.operands])).trans hf
 refine jZ (o:={ o with guard:=none }) k [(1000000,id)] ho rfl hd hf2 ha2 hC ⟨⟨id,by simp [look],hl2⟩,trivial⟩ ⟨fun i e h1 h2=>?_,trivial⟩ hk (fun i h3 h4=>?_) ?_
 ·simp [look] at h1; subst h1
  rw [hl2] at h2; cases h2
  exact ⟨rfl,rfl,Nat.le_of_eq hys⟩
 ·exact hnew i (rng_mem.2 ⟨h3,h4⟩)
 ·rw [hrv]
  refine eo (fun a w σ φ hr=>⟨σ,φ,hr.dropTo fun i e hi=>?_⟩) h
  have hi : look (del id st2.sto) i = some e:=hi
  obtain ⟨hne,hi2⟩:=dF hi
  have hr0 : rn k [(1000000,id)] 1000000 = id:=by simpa [da,dO,gG] using hrn
  show look (cL (rn k [(1000000,id)] 1000000) _ (del id st2.sto)) i = some e
  rw [hr0]
  have e7 : Nat.beq id i = false:=by
   cases h7 : Nat.beq id i with
   | false=>rfl
   | true=>exact absurd (Nat.eq_of_beq_eq_true h7).symm hne
  simp only [dg,look,e7,cond_false]
  exact hi
theorem Fy{P : Program}{c : Ctx}{fr : List (Nat×AV)}{sto : Sto}{ops : Array Oper}{o : Oper}{rest : List Oper}{K : St→Prop}{st0 : St}{acc : List Tr}{d : Nat}{fop : Operand}{args : Array Operand}{ats : Array TypeId}{f : FuncId}{caps : List D}{rav : AV}(k : Nat){id m kk b : Nat}{xs ys : List (List D)}
  (ho : o.op = .call { callee:=.value fop,args:=args,argTypes:=ats }) (hg : o.guard = none) (hdst : o.dst = some d) (hd : Nat.blt d c.n = true) (hl : look sto id = some (.row kk b xs)) (hf : ev ⟨fr,sto⟩ fop = some (.one (.d (.fn f caps))))
  (ha : evL ⟨fr,sto⟩ args.toList = some [.one (.own id m)]) (hC : CallA P f ([.one (.own 1000000 m)] ++ caps.map fun x=>.one (.d x)) [(1000000,.row kk b xs)] rav [(1000000,.row kk b ys)]) (hys : xs.length = ys.length)
  (hk : (fm [(1000000,id)] && ij [(1000000,id)] && fX [(1000000,AObj.row kk b xs)] [(1000000,id)] && fG [(1000000,id)] && cW [(1000000,id)] [(1000000,AObj.row kk b ys)] && dD [(1000000,AObj.row kk b xs)] ([AV.one (.own 1000000 m)] ++ caps.map fun x=>.one (.d x)) && bL [(1000000,AObj.row kk b xs)] [(1000000,AObj.row kk b xs)] && dr [(1000000,AObj.row kk b ys)] rav && bL [(1000000,AObj.row kk b ys)] [(1000000,AObj.row kk b ys)] && Nat.ble (k + 16) 1000000) = true)
  (hrn : da (rn k [(1000000,id)]) [AV.one (.own 1000000 m)] = [.one (.own id m)]) (hrv : dO (rn k [(1000000,id)]) rav = rav)
  (h : aU P c ops st0 rest ⟨(d,rav)::fr,del id sto⟩ (⟨rav,[(id,none)],[id],rng k 16⟩::acc) K) : aU P c ops st0 (o::rest) ⟨fr,sto⟩ acc K:=by
 refine lH hg (Cc k (b':=0) ho (by rw [hdst]; exact hd) hl hf ha hC hys hk hrn hrv) ?_
 rw [hdst]; exact h
end Go.Abs
namespace Go.Abs
open Go Go.Shelf Go.Proofs
variable {P : Program}
theorem zH {f : FuncId} {x : Int} {k : IntKind} {y : D} {yv : Value} (hfn : ∃ fn, P.funcs[f]? = some fn ∧ (fn.name == "runtime.NumGoroutine") = false ∧ fn.body.isSome = true)
  (hC : ∀ w,Calls P f #[.int k x] w fun e w'=>e = .returned yv∧w' = w) (hy : ∀ σ,Rep σ y yv) : CallA P f [.one (.d (.int k x))] [] (.one (.d y)) []:=by
 refine ⟨hfn,fun w σ φ vs hI hA=>?_⟩
 match vs,hA with
 | [v0],hA =>
   obtain ⟨hv0,_⟩:=hA
   have hv0 : RepC σ φ _ (.d (.int k x)) v0:=hv0
   replace hv0:=hv0.d_inv
   cases hv0
   refine (hC w).mono ?_
   rintro e w' ⟨rfl,rfl⟩
   exact ⟨_,σ,φ,rfl,Sig.le_refl _,fun b hb=>.inl hb,hI,.d (hy σ),fun i e p h1 h2=>(nomatch h1),fun _ _=>rfl,⟨rfl,rfl,rfl,Nat.le_refl _,Nat.le_refl _,fun _ _ _=>rfl⟩⟩
end Go.Abs
namespace Go.Proofs.YtpejdgkaapnekaaGreat
open Go Go.Proofs Go.Shelf Go.Abs
def CW : Go.Shelf.Ren:=⟨fun | 133=>372 | 128=>261 | n=>n,fun | 51=>251 | 3=>3 | 4=>4 | 46=>192 | 5=>5 | 9=>9 | n=>n,fun | n=>n⟩
theorem Jk : Go.Proofs.Lays.n133 Tryz.prog CW:={
 mixed:=by kernel_rfl
 f128:=Tryz.func261.trans (congrArg some (by kernel_rfl))
 f133:=Tryz.func372.trans (congrArg some (by kernel_rfl))
 t3:=Tryz.underlying3
 a3:=Tryz.isAgg3
 z3:=Tryz.sizeOf3
 v3:=Tryz.zeroValue3
 t4:=Tryz.underlying4
 a4:=Tryz.isAgg4
 z4:=Tryz.sizeOf4
 v4:=Tryz.zeroValue4
 t5:=Tryz.underlying5
 a5:=Tryz.isAgg5
 z5:=Tryz.sizeOf5
 v5:=Tryz.zeroValue5
 t9:=Tryz.underlying9
 a9:=Tryz.isAgg9
 z9:=Tryz.sizeOf9
 v9:=Tryz.zeroValue9
 t46:=Tryz.underlying192
 a46:=Tryz.isAgg192
 z46:=Tryz.sizeOf192
 v46:=Tryz.zeroValue192
 t51:=Tryz.underlying251
 a51:=Tryz.isAgg251
 z51:=Tryz.sizeOf251
 v51:=Tryz.zeroValue251 }
theorem Jl(x : Nat)(hx : x < 4294967296) : CallA Tryz.prog 372 [.one (.d (.int .u32 x))] [] (.one (.d (.int .i64 (32 - (Lib.bitLen x : Int))))) []:=by
 refine zH (yv:=.int .i64 (32 - (Lib.bitLen x : Int))) ⟨Tryz.f372,Tryz.func372,by kernel_rfl,by kernel_rfl⟩ (fun w=>?_) (fun σ=>.int ?_)
 ·exact Any.bits_LeadingZeros32 Jk (x : Int) w (by omega) (by omega)
 ·have h:=Any.bitLen_le32 (x : Int) (by omega) (by omega)
  rw [Int.toNat_natCast] at h
  simp only [inR,IntKind.min,IntKind.max,IntKind.signed,IntKind.bits,if_true]
  omega
end Go.Proofs.YtpejdgkaapnekaaGreat
