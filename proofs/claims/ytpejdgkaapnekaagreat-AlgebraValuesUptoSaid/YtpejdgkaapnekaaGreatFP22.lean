import Derived.Test.YtpejdgkaapnekaaGreatFP21
import Derived.Test.YtpejdgkaapnekaaGreatFP20
import Derived.Test.YtpejdgkaapnekaaGreatFP3
set_option linter.unusedVariables false
set_option linter.unusedSimpArgs false
set_option maxHeartbeats 1000000
namespace Go.Proofs.YtpejdgkaapnekaaGreat
open Go Go.Abs
attribute [local irreducible] ao OkC aU bg aV bA
set_option maxRecDepth 10000
def wid : Nat→Nat→List Int
 | 0,_=>[]
 | w + 1,n=>((n % 4294967296 : Nat) : Int)::wid w (n / 4294967296)
theorem fa : ∀ (w n : Nat),(wid w n).length = w
 | 0,_=>rfl
 | w + 1,n=>by simp [wid,fa w]
theorem lb : ∀ {l : List Int},Dg l→wid l.length (aq l).toNat = l
 | [],_=>rfl
 | d::r,h=>by
   obtain ⟨h1,h2⟩:=h.cons
   have hb:=(dH h2).1
   have ih:=lb h2
   simp only [List.length_cons,wid,aq]
   rw [show (d + 4294967296 * aq r).toNat / 4294967296 = (aq r).toNat by omega,ih,show (((d + 4294967296 * aq r).toNat % 4294967296 : Nat) : Int) = d by omega]
def shV(d s : Int) : Int:=IntKind.u64.wrap (IntKind.u64.wrap d * 2 ^ min s.toNat IntKind.u64.bits)
def shO(o v : Int) : Int:=IntKind.u32.wrap ((BitVec.ofInt IntKind.u32.bits o ||| BitVec.ofInt IntKind.u32.bits (IntKind.u32.wrap v)).toNat : Int)
theorem eL{L : List Int}{R : List (List D)}{k : Nat}{x : Int}(hr : R = L.map aE) : R.set k [.int .u32 x] = (L.set k x).map aE:=by rw [hr,List.map_set]; rfl
theorem Bs{a b s : Nat}(ha : a < 2 ^ s) : a ||| b * 2 ^ s = a + b * 2 ^ s:=by
 have h:=Nat.shiftLeft_add_eq_or_of_lt ha b
 rw [Nat.shiftLeft_eq] at h
 rw [Nat.or_comm,← h,Nat.add_comm]
theorem HZ{o d : Int}{s : Nat}(hs : s≤31)(ho : 0≤o∧o < 2 ^ s)(hd : 0≤d∧d < 4294967296) :
  shV d s = d * 2 ^ s∧0≤shV d s∧(shV d s).fdiv (2 ^ min (Int.toNat 32) IntKind.u64.bits) = d * 2 ^ s / 4294967296∧d * 2 ^ s / 4294967296 < 2 ^ s∧0≤d * 2 ^ s / 4294967296 ∧
  shO o (shV d s) = o + d * 2 ^ s % 4294967296∧0≤o + d * 2 ^ s % 4294967296∧o + d * 2 ^ s % 4294967296 < 4294967296:=by
 obtain ⟨a,rfl⟩:=Int.eq_ofNat_of_zero_le ho.1
 obtain ⟨b,rfl⟩:=Int.eq_ofNat_of_zero_le hd.1
 have h2 : (2 : Int) ^ s = ((2 ^ s : Nat) : Int):=by simp
 have ha : a < 2 ^ s:=by have:=ho.2; rw [h2] at this; omega
 have hb : b < 4294967296:=by omega
 have hp : 2 ^ s≤2147483648:=Nat.pow_le_pow_right (by omega) hs
 have hv : shV (b : Int) s = ((b * 2 ^ s : Nat) : Int):=by
  unfold shV
  have hm : min ((s : Int)).toNat IntKind.u64.bits = s:=by
   show min s 64 = s; omega
  have hbd : b * 2 ^ s≤4294967295 * 2147483648:=Nat.mul_le_mul (by omega) hp
  rw [c3 (v:=(b : Int)) (by omega) (by omega),hm,h2,← Int.natCast_mul,c3 (by omega) (by omega)]
 have hsp : 2 ^ 32 = 2 ^ (32 - s) * 2 ^ s:=by rw [← Nat.pow_add]; congr 1; omega
 have hlo : b * 2 ^ s % 4294967296 = (b % 2 ^ (32 - s)) * 2 ^ s:=by
  rw [show (4294967296 : Nat) = 2 ^ (32 - s) * 2 ^ s from hsp,Nat.mul_mod_mul_right]
 have hhi : b * 2 ^ s / 4294967296 = b / 2 ^ (32 - s):=by
  rw [show (4294967296 : Nat) = 2 ^ (32 - s) * 2 ^ s from hsp,Nat.mul_div_mul_right _ _ (Nat.two_pow_pos s)]
 have hhl : b / 2 ^ (32 - s) < 2 ^ s:=by
  refine Nat.div_lt_of_lt_mul ?_
  rw [← hsp]; omega
 have hlb : (b % 2 ^ (32 - s)) * 2 ^ s + 2 ^ s≤4294967296:=by
  have h1 : b % 2 ^ (32 - s) + 1≤2 ^ (32 - s):=Nat.mod_lt _ (Nat.two_pow_pos _)
  have h3:=Nat.mul_le_mul_right (2 ^ s) h1
  rw [← hsp,Nat.add_mul,Nat.one_mul] at h3
  exact h3
 have hO : shO (a : Int) (shV (b : Int) s) = ((a + b * 2 ^ s % 4294967296 : Nat) : Int):=by
  unfold shO
  rw [hv]
  generalize b * 2 ^ s = v at hlo ⊢
  simp only [ip]
  have e1 : (BitVec.ofInt 32 (a : Int)).toNat = a:=by rw [BitVec.toNat_ofInt]; simp; omega
  have e2 : (BitVec.ofInt 32 ((v : Int) % 4294967296)).toNat = v % 4294967296:=by rw [BitVec.toNat_ofInt]; simp; omega
  have e3 : (BitVec.ofInt 32 (a : Int) ||| BitVec.ofInt 32 ((v : Int) % 4294967296)).toNat = a + v % 4294967296:=by
   rw [BitVec.toNat_or,e1,e2,hlo,Bs ha]
  rw [show ((BitVec.ofInt IntKind.u32.bits (a : Int) ||| BitVec.ofInt IntKind.u32.bits ((v : Int) % 4294967296)).toNat) = a + v % 4294967296 from e3]
  rw [hlo]; omega
 rw [hO,hv,wg,h2,← Int.natCast_mul]
 refine ⟨rfl,by omega,by omega,?_,by omega,by omega,by omega,?_⟩
 ·rw [show ((b * 2 ^ s : Nat) : Int) / 4294967296 = ((b * 2 ^ s / 4294967296 : Nat) : Int) by omega,hhi]; omega
 ·rw [show ((b * 2 ^ s : Nat) : Int) % 4294967296 = ((b * 2 ^ s % 4294967296 : Nat) : Int) by omega,hlo]; omega
theorem yB{X L : List Int}{R : List (List D)}{k s : Nat}(hX : Dg X)(hs : s≤31)(hk : k < X.length)(hr : R = L.map aE)(hl : R.length = X.length + 1)(hL : Dg L)(ho : at_ L k < 2 ^ s)(hv : aq (L.take k) + pw k * at_ L k = aq (X.take k) * 2 ^ s) :
  k + 1≤X.length∧(R.set k [.int .u32 (shO (at_ L k) (shV (at_ X k) s))]).set (k + 1) [.int .u32 (IntKind.u32.wrap ((shV (at_ X k) s).fdiv (2 ^ min (Int.toNat 32) IntKind.u64.bits)))] = ((L.set k (shO (at_ L k) (shV (at_ X k) s))).set (k + 1) (IntKind.u32.wrap ((shV (at_ X k) s).fdiv (2 ^ min (Int.toNat 32) IntKind.u64.bits)))).map aE ∧
  ((R.set k [.int .u32 (shO (at_ L k) (shV (at_ X k) s))]).set (k + 1) [.int .u32 (IntKind.u32.wrap ((shV (at_ X k) s).fdiv (2 ^ min (Int.toNat 32) IntKind.u64.bits)))]).length = X.length + 1 ∧
  Dg ((L.set k (shO (at_ L k) (shV (at_ X k) s))).set (k + 1) (IntKind.u32.wrap ((shV (at_ X k) s).fdiv (2 ^ min (Int.toNat 32) IntKind.u64.bits)))) ∧
  at_ ((L.set k (shO (at_ L k) (shV (at_ X k) s))).set (k + 1) (IntKind.u32.wrap ((shV (at_ X k) s).fdiv (2 ^ min (Int.toNat 32) IntKind.u64.bits)))) (k + 1) < 2 ^ s ∧
  aq (((L.set k (shO (at_ L k) (shV (at_ X k) s))).set (k + 1) (IntKind.u32.wrap ((shV (at_ X k) s).fdiv (2 ^ min (Int.toNat 32) IntKind.u64.bits)))).take (k + 1)) + pw (k + 1) * at_ ((L.set k (shO (at_ L k) (shV (at_ X k) s))).set (k + 1) (IntKind.u32.wrap ((shV (at_ X k) s).fdiv (2 ^ min (Int.toNat 32) IntKind.u64.bits)))) (k + 1) = aq (X.take (k + 1)) * 2 ^ s:=by
 have hLl : L.length = X.length + 1:=by rw [hr] at hl; simpa using hl
 have hkL : k < L.length:=by omega
 obtain ⟨a1,a2,a3,a4,a5,a6,a7,a8⟩:=HZ (o:=at_ L k) (d:=at_ X k) hs ⟨(hL.at hkL).1,ho⟩ (hX.at hk)
 have hp : (2 : Int) ^ s≤2147483648:=by
  have:=Nat.pow_le_pow_right (n:=2) (by omega) hs
  have h2 : (2 : Int) ^ s = ((2 ^ s : Nat) : Int):=by simp
  omega
 have ew : IntKind.u32.wrap ((shV (at_ X k) s).fdiv (2 ^ min (Int.toNat 32) IntKind.u64.bits)) = at_ X k * 2 ^ s / 4294967296:=by rw [ip,a3]; omega
 rw [ew,a6]
 have e1 : at_ ((L.set k (at_ L k + at_ X k * 2 ^ s % 4294967296)).set (k + 1) (at_ X k * 2 ^ s / 4294967296)) (k + 1) = at_ X k * 2 ^ s / 4294967296:=by
  have : k + 1 < L.length:=by omega
  simp [at_,this]
 rw [e1]
 refine ⟨hk,by rw [hr]; simp only [List.map_set]; rfl,by simpa using hl,(hL.set ⟨a7,a8⟩).set ⟨a5,by omega⟩,a4,?_⟩
 have hs2 : k < (L.set k (at_ L k + at_ X k * 2 ^ s % 4294967296)).length:=by simpa using hkL
 rw [List.take_set_of_le (Nat.le_refl _),bV hs2,List.take_set_of_le (Nat.le_refl _),bV hk,dx]
 have e2 : at_ (L.set k (at_ L k + at_ X k * 2 ^ s % 4294967296)) k = at_ L k + at_ X k * 2 ^ s % 4294967296:=by simp [at_,hkL]
 rw [e2,Int.add_mul,← hv,Int.mul_assoc (pw k) (at_ X k)]
 generalize at_ X k * 2 ^ s = v
 have e3 : v % 4294967296 + 4294967296 * (v / 4294967296) = v:=by omega
 have e4 : pw k * (v % 4294967296) + 4294967296 * pw k * (v / 4294967296) = pw k * v:=by
  conv=>rhs; rw [← e3]
  rw [Int.mul_add,Int.mul_comm 4294967296 (pw k),Int.mul_assoc]
 rw [Int.mul_add]
 omega
set_option maxHeartbeats 1000000 in
theorem H0(X : List Int)(s : Nat)(hX : Dg X)(hn : X.length≤400)(hs : s≤31) : CallA Tryz.prog 373 [.one (.d (cY X)),.one (.d (.int .i64 s))] [] (.one (.d (cY (wid (X.length + 1) (aq X * 2 ^ s).toNat)))) []:=by
 refine enter ab Tryz.func373 rfl (by decide +kernel) rfl fun hok w0 σ0 φ0 M=>?_
 clear hok
 repeat' (first|(refine h6H ?_; first|(refine ma ?_; refine cj aa 10 J J J (cK (n:=X.length + 1) J J J J J (by simp) (by simp) (by omega) (Nat.le_of_ble_eq_true J)) J J ?_)|(refine Ge ?_; refine aI aa J J (bO J J J J J J J J J (cg (eL hr) (by simp only [List.length_set,Int.toNat_natCast]; first|omega|(simp at h; omega))) J) ?_)|refine ac ?_|refine ah ab J J J J J ?_|(refine h1H ?_; first|refine s_e aa J J J (aL J J J J (aN (by omega) (by omega))) ?_|refine s_e aa J J J (aL J J J J (aN (by first|omega|((try simp only [a0A,a1A,a2A,a3A,a4A,a5A,a6A,a7A,a8A,a9A,au,av] at *); omega)) (by first|omega|((try simp only [a0A,a1A,a2A,a3A,a4A,a5A,a6A,a7A,a8A,a9A,au,av] at *); omega)))) ?_)|(refine fH ?_; refine dk ab J J J J ?_)|(refine h3H ?_; first|refine s_e aa J J J (b4 J J J J J J (by omega) (by omega)) ?_|refine s_e aa J J J (b4 J J J J J J (by first|omega|((try simp only [a0A,a1A,a2A,a3A,a4A,a5A,a6A,a7A,a8A,a9A,au,av] at *); omega)) (by first|omega|((try simp only [a0A,a1A,a2A,a3A,a4A,a5A,a6A,a7A,a8A,a9A,au,av] at *); omega))) ?_|refine s_e aa J J J (ar J J J J J (by first|omega|((try simp only [a0A,a1A,a2A,a3A,a4A,a5A,a6A,a7A,a8A,a9A,au,av] at *); omega)) (aJ (by first|omega|((try simp only [a0A,a1A,a2A,a3A,a4A,a5A,a6A,a7A,a8A,a9A,au,av] at *); omega)))) ?_)|(refine ot ?_; refine s_e aa J J J (cu J J J J (cg (by assumption) (by omega)) J) ?_)|refine aI aa J J (bO J J J J J J J J J (cg (by assumption) (by omega)) J) ?_|refine s_e aa J J J J ?_)|(refine h7H ?_; first|refine dI (fT (dl:=[10]) J) (am ?_)|refine al ?_|refine ae ?_|refine ay ?_|refine aw ?_|refine aW ?_|refine aA J (fun h=>?_) (fun h=>?_)|refine cR 3 J [(1,_),(5,_),(13,_),(14,_)] (q4Q J J J J) (fun (p : Nat×List Int×List (List D))=>[(15,.one (.d (.int .i64 (p.1 : Int))))]) (fun (p : Nat×List Int×List (List D))=>[(10,.row 1 4 p.2.2)]) (fun (p : Nat×List Int×List (List D))=>p.1≤X.length∧p.2.2 = p.2.1.map aE∧p.2.2.length = X.length + 1∧Dg p.2.1∧at_ p.2.1 p.1 < 2 ^ s∧aq (p.2.1.take p.1) + pw p.1 * at_ p.2.1 p.1 = aq (X.take p.1) * 2 ^ s) (fun (p : Nat×List Int×List (List D))=>X.length - p.1) (0,List.replicate (X.length + 1) 0,List.replicate (X.length + 1) [.int .u32 0]) (q1Q J) (by (repeat' first|exact ap|refine af J ?_); done) ?_ (fun p ⟨hk,hr,hl2,hL,ho,hv⟩=>?_))|(show Exists _; refine Exists.intro ((p.1 + 1,(p.2.1.set p.1 (shO (at_ p.2.1 p.1) (shV (at_ X p.1) s))).set (p.1 + 1) (IntKind.u32.wrap ((shV (at_ X p.1) s).fdiv (2 ^ min (Int.toNat 32) IntKind.u64.bits))),(p.2.2.set p.1 [.int .u32 (shO (at_ p.2.1 p.1) (shV (at_ X p.1) s))]).set (p.1 + 1) [.int .u32 (IntKind.u32.wrap ((shV (at_ X p.1) s).fdiv (2 ^ min (Int.toNat 32) IntKind.u64.bits)))])) ⟨?_,?_,(by (repeat' first|exact ap|refine af J ?_); done),(q1Q J),(q4Q J J J J)⟩)|refine ak ?_|refine bd ?_|refine aG ?_|refine aX J ?_|refine ai (.inl J) J J ?_)
 ·have hp : (0 : Int) < 2 ^ s:=Int.pow_pos (by omega)
  have e0 : at_ (List.replicate (X.length + 1) (0 : Int)) 0 = 0:=by simp [at_]
  exact ⟨Nat.zero_le _,by simp [aE],by simp,Dg.zeros _,by show at_ (List.replicate (X.length + 1) (0 : Int)) 0 < 2 ^ s; rw [e0]; exact hp,by
   show aq ((List.replicate (X.length + 1) (0 : Int)).take 0) + pw 0 * at_ (List.replicate (X.length + 1) (0 : Int)) 0 = aq (X.take 0) * 2 ^ s
   rw [e0]; simp [aq]⟩
 ·exact yB hX hs (by simpa using h) hr hl2 hL ho hv
 ·have hlt : p.1 < X.length:=by simpa using h
  show X.length - (p.1 + 1) < X.length - p.1
  omega
 ·have hge : X.length≤p.1:=by simpa using h
  have e : p.1 = X.length:=by omega
  have hLl : p.2.1.length = X.length + 1:=by rw [hr] at hl2; simpa using hl2
  rw [e,List.take_of_length_le (Nat.le_refl _),← bV (by omega),List.take_of_length_le (by omega)] at hv
  show AV.one (.d (.sl 1 4 (p.2.2.take (X.length + 1)))) = _
  rw [← hv,← hLl,lb hL,List.take_of_length_le (by omega),hr]; rfl
theorem Jp(n s : Nat)(hn : (dig n).length≤400)(hs : s≤31) : CallA Tryz.prog 373 [.one (.d (bU n)),.one (.d (.int .i64 s))] [] (.one (.d (cY (wid ((dig n).length + 1) (n * 2 ^ s))))) []:=by
 obtain ⟨a1,a2,a3⟩:=cP n
 have:=H0 (dig n) s a1 hn hs
 rwa [a2,show ((n : Int) * 2 ^ s).toNat = n * 2 ^ s by
  rw [show ((n : Int) * 2 ^ s) = ((n * 2 ^ s : Nat) : Int) by simp]; rfl] at this
end Go.Proofs.YtpejdgkaapnekaaGreat
namespace Go.Proofs.YtpejdgkaapnekaaGreat
open Go Go.Abs
attribute [local irreducible] ao OkC aU bg aV bA
set_option maxRecDepth 10000
set_option maxHeartbeats 1000000 in
theorem HX(X : List Int)(s : Nat)(hX : Dg X)(hn : X.length≤400)(hs : s≤31) : CallA Tryz.prog 373 [.one (.d (cY X)),.one (.d (.int .i64 s))] [] (.one (.own 10 (X.length + 1))) [(10,.row 1 4 ((wid (X.length + 1) (aq X * 2 ^ s).toNat).map aE))]:=by
 refine enter ab Tryz.func373 rfl (by decide +kernel) rfl fun hok w0 σ0 φ0 M=>?_
 clear hok
 repeat' (first|(refine h6H ?_; first|(refine ma ?_; refine cj aa 10 J J J (cK (n:=X.length + 1) J J J J J (by simp) (by simp) (by omega) (Nat.le_of_ble_eq_true J)) J J ?_)|(refine Ge ?_; refine aI aa J J (bO J J J J J J J J J (cg (eL hr) (by simp only [List.length_set,Int.toNat_natCast]; first|omega|(simp at h; omega))) J) ?_)|refine ac ?_|refine ah ab J J J J J ?_|(refine h1H ?_; first|refine s_e aa J J J (aL J J J J (aN (by omega) (by omega))) ?_|refine s_e aa J J J (aL J J J J (aN (by first|omega|((try simp only [a0A,a1A,a2A,a3A,a4A,a5A,a6A,a7A,a8A,a9A,au,av] at *); omega)) (by first|omega|((try simp only [a0A,a1A,a2A,a3A,a4A,a5A,a6A,a7A,a8A,a9A,au,av] at *); omega)))) ?_)|(refine fH ?_; refine dk ab J J J J ?_)|(refine h3H ?_; first|refine s_e aa J J J (b4 J J J J J J (by omega) (by omega)) ?_|refine s_e aa J J J (b4 J J J J J J (by first|omega|((try simp only [a0A,a1A,a2A,a3A,a4A,a5A,a6A,a7A,a8A,a9A,au,av] at *); omega)) (by first|omega|((try simp only [a0A,a1A,a2A,a3A,a4A,a5A,a6A,a7A,a8A,a9A,au,av] at *); omega))) ?_|refine s_e aa J J J (ar J J J J J (by first|omega|((try simp only [a0A,a1A,a2A,a3A,a4A,a5A,a6A,a7A,a8A,a9A,au,av] at *); omega)) (aJ (by first|omega|((try simp only [a0A,a1A,a2A,a3A,a4A,a5A,a6A,a7A,a8A,a9A,au,av] at *); omega)))) ?_)|(refine ot ?_; refine s_e aa J J J (cu J J J J (cg (by assumption) (by omega)) J) ?_)|refine aI aa J J (bO J J J J J J J J J (cg (by assumption) (by omega)) J) ?_|refine s_e aa J J J J ?_)|(refine h7H ?_; first|refine al ?_|refine ae ?_|refine ay ?_|refine aw ?_|refine am ?_|refine aW ?_|refine aA J (fun h=>?_) (fun h=>?_)|refine cR 3 J [(1,_),(5,_),(13,_),(14,_)] (q4Q J J J J) (fun (p : Nat×List Int×List (List D))=>[(15,.one (.d (.int .i64 (p.1 : Int))))]) (fun (p : Nat×List Int×List (List D))=>[(10,.row 1 4 p.2.2)]) (fun (p : Nat×List Int×List (List D))=>p.1≤X.length∧p.2.2 = p.2.1.map aE∧p.2.2.length = X.length + 1∧Dg p.2.1∧at_ p.2.1 p.1 < 2 ^ s∧aq (p.2.1.take p.1) + pw p.1 * at_ p.2.1 p.1 = aq (X.take p.1) * 2 ^ s) (fun (p : Nat×List Int×List (List D))=>X.length - p.1) (0,List.replicate (X.length + 1) 0,List.replicate (X.length + 1) [.int .u32 0]) (q1Q J) (by (repeat' first|exact ap|refine af J ?_); done) ?_ (fun p ⟨hk,hr,hl2,hL,ho,hv⟩=>?_))|(show Exists _; refine Exists.intro ((p.1 + 1,(p.2.1.set p.1 (shO (at_ p.2.1 p.1) (shV (at_ X p.1) s))).set (p.1 + 1) (IntKind.u32.wrap ((shV (at_ X p.1) s).fdiv (2 ^ min (Int.toNat 32) IntKind.u64.bits))),(p.2.2.set p.1 [.int .u32 (shO (at_ p.2.1 p.1) (shV (at_ X p.1) s))]).set (p.1 + 1) [.int .u32 (IntKind.u32.wrap ((shV (at_ X p.1) s).fdiv (2 ^ min (Int.toNat 32) IntKind.u64.bits)))])) ⟨?_,?_,(by (repeat' first|exact ap|refine af J ?_); done),(q1Q J),(q4Q J J J J)⟩)|refine ak ?_|refine bd ?_|refine aG ?_|refine aX J ?_)
 ·have hp : (0 : Int) < 2 ^ s:=Int.pow_pos (by omega)
  have e0 : at_ (List.replicate (X.length + 1) (0 : Int)) 0 = 0:=by simp [at_]
  exact ⟨Nat.zero_le _,by simp [aE],by simp,Dg.zeros _,by show at_ (List.replicate (X.length + 1) (0 : Int)) 0 < 2 ^ s; rw [e0]; exact hp,by
   show aq ((List.replicate (X.length + 1) (0 : Int)).take 0) + pw 0 * at_ (List.replicate (X.length + 1) (0 : Int)) 0 = aq (X.take 0) * 2 ^ s
   rw [e0]; simp [aq]⟩
 ·exact yB hX hs (by simpa using h) hr hl2 hL ho hv
 ·have hlt : p.1 < X.length:=by simpa using h
  show X.length - (p.1 + 1) < X.length - p.1
  omega
 ·have hge : X.length≤p.1:=by simpa using h
  have e : p.1 = X.length:=by omega
  have hLl : p.2.1.length = X.length + 1:=by rw [hr] at hl2; simpa using hl2
  rw [e,List.take_of_length_le (Nat.le_refl _),← bV (by omega),List.take_of_length_le (by omega)] at hv
  have e2 : wid (X.length + 1) (aq X * 2 ^ s).toNat = p.2.1:=by rw [← hv,← hLl,lb hL]
  rw [e2]
  exact iL (.inl rfl) rfl rfl rfl (af (congrArg (fun x=>some (AObj.row 1 4 x)) hr) ap)
theorem rD{l : List Int}{k : Nat}(h : Dg l)(hk : k≤l.length)(hl : k = 0∨at_ l (k - 1)≠0) : dig (aq (l.take k)).toNat = l.take k:=by
 refine qH (h.take k) ?_
 rcases Nat.eq_zero_or_pos k with h0 | h0
 ·exact .inl (by rw [h0,List.take_zero])
 ·refine .inr ?_
  have e : (l.take k).length = k:=by simp; omega
  rw [e]
  have e2 : at_ (l.take k) (k - 1) = at_ l (k - 1):=by
   simp only [at_,List.getD_eq_getElem?_getD]
   rw [List.getElem?_take_of_lt (by omega)]
  rw [e2]
  exact hl.resolve_left (by omega)
theorem HY(l : List Int)(n : Nat)(hn : n≤l.length)(h : Dg l)(hl : l.length≤1000) : CallA Tryz.prog 374 [.one (.own 1000000 n)] [(1000000,.row 1 4 (l.map aE))] (.one (.own 1000000 (dig (aq (l.take n)).toNat).length)) [(1000000,.row 1 4 (l.map aE))]:=by
 refine enter ab Tryz.func374 rfl (by decide +kernel) rfl fun hok w0 σ0 φ0 M=>?_
 clear hok
 repeat' (first|(refine h6H ?_; first|(refine CO ?_; refine s_e aa J J J (eZ J J J J J J (by first|omega|((try simp only [a0A,a1A,a2A,a3A,a4A,a5A,a6A,a7A,a8A,a9A,au,av] at *); omega)) (by first|omega|((try simp only [a0A,a1A,a2A,a3A,a4A,a5A,a6A,a7A,a8A,a9A,au,av] at *); omega)) (by simp; omega)) ?_)|(refine h3H ?_; refine s_e aa J J J (b4 J J J J J J (by first|omega|((try simp only [a0A,a1A,a2A,a3A,a4A,a5A,a6A,a7A,a8A,a9A,au,av] at *); omega)) (by first|omega|((try simp only [a0A,a1A,a2A,a3A,a4A,a5A,a6A,a7A,a8A,a9A,au,av] at *); omega))) ?_)|(refine ot ?_; refine s_e aa J J J (cu J J J J (aJ (show ((k : Int) - 1).toNat < l.length from (by first|omega|((try simp only [a0A,a1A,a2A,a3A,a4A,a5A,a6A,a7A,a8A,a9A,au,av] at *); omega)))) J) ?_)|refine ac ?_|refine ah ab J J J J J ?_|(refine h0H ?_; first|refine aT J J (by first|assumption|rfl) ?_|refine bH J J (by first|assumption|rfl) J J ?_|refine bn J J J J (fun h=>?_) (fun h=>?_))|(refine fY ?_; refine s_e aa J J J (bW J J J J (aN (by omega) (by omega))) ?_)|(refine h2H ?_; first|refine s_e aa J J J (aF J J (by first|rfl|assumption) J) ?_|refine s_e aa J J J (az J J (by first|rfl|assumption) J) ?_))|(refine h7H ?_; first|refine al ?_|refine ae ?_|refine ay ?_|refine aw ?_|refine am ?_|refine aW ?_|refine bm J ?_|refine aA J (fun h=>?_) (fun h=>?_)|refine cR 1 J [] ap (fun (k : Nat)=>[(0,.one (.own 1000000 k))]) (fun (k : Nat)=>[(1000000,.row 1 4 (l.map aE))]) (fun (k : Nat)=>k≤n∧aq (l.take k) = aq (l.take n)) (fun (k : Nat)=>k) n (q1Q J) (by (repeat' first|exact ap|refine af J ?_); done) ?_ (fun k ⟨hk,hv⟩=>?_))|(show Exists _; refine Exists.intro (((k : Int) - 1).toNat) ⟨?_,?_,(by (repeat' first|exact ap|refine af J ?_); done),(q1Q J),ap⟩)|refine ak ?_|refine bd ?_|refine aG ?_|refine aX J ?_|refine iL (.inl J) J J ?_ (by first|exact (q1Q J)|exact (q2Q J J)))
 ·exact ⟨Nat.le_refl _,rfl⟩
 ·have h0 : (0 : Int) < (k : Int):=of_decide_eq_true ‹decide (_ < _) = true›
  have e : ((k : Int) - 1).toNat = k - 1:=by omega
  rw [e]
  have hz:=ub (l:=l) (k:=k - 1) (by omega) (by rw [← e]; simpa using h)
  rw [show k - 1 + 1 = k by omega] at hz
  exact ⟨by omega,by rw [← hz,hv]⟩
 ·have h0 : (0 : Int) < (k : Int):=of_decide_eq_true ‹decide (_ < _) = true›
  omega
 ·have e : ((k : Int) - 1).toNat = k - 1:=by omega
  rw [← hv,rD ‹Dg l› (by omega) (.inr (by rw [← e]; simpa using h)),List.length_take,Nat.min_eq_left (by omega)]
 ·have h0 : ¬ (0 : Int) < (k : Int):=of_decide_eq_false (by simpa using h)
  rw [← hv,rD ‹Dg l› (by omega) (.inl (by omega)),List.length_take,Nat.min_eq_left (by omega)]
end Go.Proofs.YtpejdgkaapnekaaGreat
namespace Go.Proofs.YtpejdgkaapnekaaGreat
open Go Go.Abs
theorem Gb{q v u V U E v' u' : Nat}(hv : v = V * E + v')(hu : u = U * E + u')(hu' : u' < E)(h : q * v≤u) : q * V≤U:=by
 have h1 : q * V * E≤q * v:=by rw [hv,Nat.mul_add,Nat.mul_assoc]; omega
 have h2 : u < (U + 1) * E:=by rw [hu,Nat.add_mul,Nat.one_mul]; omega
 have h3 : q * V * E < (U + 1) * E:=by omega
 have:=Nat.lt_of_mul_lt_mul_right h3
 omega
theorem Gc{x v u V U E v' u' : Nat}(hv : v = V * E + v')(hv' : v' < E)(hu : u = U * E + u')(h : x * (V + 1)≤U) : x * v≤u:=by
 have h1 : x * v≤x * ((V + 1) * E):=Nat.mul_le_mul_left x (by rw [hv,Nat.add_mul,Nat.one_mul]; omega)
 have h2 : x * ((V + 1) * E)≤U * E:=by rw [← Nat.mul_assoc]; exact Nat.mul_le_mul_right E h
 omega
structure Guess (t v1 v2 u2 q qh rh : Nat) : Prop where
 eq : qh * v1 + rh = t
 ge : q≤qh
theorem yw{t v1 v2 u2 q B : Nat}(hB : 0 < B)(h1 : 0 < v1)(h2 : v2 < B)(h3 : u2 < B)(h : q * (v1 * B + v2)≤t * B + u2) : Guess t v1 v2 u2 q (t / v1) (t % v1):=by
 refine ⟨by rw [Nat.mul_comm]; exact Nat.div_add_mod t v1,(Nat.le_div_iff_mul_le h1).2 ?_⟩
 have h4 : q * v1 * B≤t * B + u2:=Nat.le_trans (by rw [Nat.mul_add,Nat.mul_assoc]; omega) h
 have h5 : q * v1 * B < (t + 1) * B:=by rw [Nat.add_mul,Nat.one_mul]; omega
 have:=Nat.lt_of_mul_lt_mul_right h5
 omega
theorem AW{t v1 v2 u2 q qh rh B : Nat}(g : Guess t v1 v2 u2 q qh rh)(hq : q < B)(h : q * (v1 * B + v2)≤t * B + u2)(ht : B≤qh∨rh * B + u2 < qh * v2) : q < qh∧Guess t v1 v2 u2 q (qh - 1) (rh + v1):=by
 have hlt : q < qh:=by
  refine Nat.lt_of_le_of_ne g.ge fun e=>?_
  rcases ht with ht | ht
  ·omega
  ·subst e
   have e1 : q * (v1 * B + v2) = q * v1 * B + q * v2:=by rw [Nat.mul_add,Nat.mul_assoc]
   have e2 : t * B = q * v1 * B + rh * B:=by rw [← g.eq,Nat.add_mul]
   omega
 refine ⟨hlt,?_,by omega⟩
 have:=g.eq
 obtain ⟨k,rfl⟩ : ∃ k,qh = k + 1:=⟨qh - 1,by omega⟩
 rw [Nat.add_mul,Nat.one_mul] at this
 rw [Nat.add_sub_cancel]
 omega
theorem AX{t v1 v2 u2 q qh rh B : Nat}(g : Guess t v1 v2 u2 q qh rh)(hB : 0 < B)(h1 : 0 < v1)(hqB : qh < B)(ht : qh * v2≤rh * B + u2) : (qh - 1) * (v1 * B + v2 + 1)≤t * B + u2:=by
 rcases Nat.eq_zero_or_pos qh with h0 | h0
 ·subst h0; simp
 ·obtain ⟨k,rfl⟩ : ∃ k,qh = k + 1:=⟨qh - 1,by omega⟩
  have e:=g.eq
  rw [Nat.add_sub_cancel]
  have e1 : k * (v1 * B + v2 + 1) = k * v1 * B + k * v2 + k:=by rw [Nat.mul_add,Nat.mul_add,Nat.mul_assoc,Nat.mul_one]
  have e2 : t * B = k * v1 * B + v1 * B + rh * B:=by rw [← e,Nat.add_mul,Nat.add_mul,Nat.add_mul,Nat.one_mul]
  have e3 : (k + 1) * v2 = k * v2 + v2:=by rw [Nat.add_mul,Nat.one_mul]
  have e4 : B≤v1 * B:=Nat.le_mul_of_pos_left B h1
  omega
theorem AY{t v1 v2 u2 q qh rh B : Nat}(g : Guess t v1 v2 u2 q qh rh)(h2 : v2 < B)(hqB : qh≤B)(hr : B≤rh) : qh * (v1 * B + v2 + 1)≤t * B + u2:=by
 have e:=g.eq
 have e1 : qh * (v1 * B + v2 + 1) = qh * v1 * B + qh * (v2 + 1):=by rw [Nat.add_assoc,Nat.mul_add,Nat.mul_assoc]
 have e2 : t * B = qh * v1 * B + rh * B:=by rw [← e,Nat.add_mul]
 have e3 : qh * (v2 + 1)≤qh * B:=Nat.mul_le_mul_left qh h2
 have e4 : qh * B≤B * B:=Nat.mul_le_mul_right B hqB
 have e5 : B * B≤rh * B:=Nat.mul_le_mul_right B hr
 omega
theorem Bh{u0 u1 v1 B : Nat}(h1 : 0 < v1)(hu0 : u0≤v1)(hu1 : u1 < B)(hn : B≤2 * v1) : (u0 * B + u1) / v1≤B + 1:=by
 refine Nat.le_of_lt_succ ((Nat.div_lt_iff_lt_mul h1).2 ?_)
 have e1 : u0 * B≤v1 * B:=Nat.mul_le_mul_right B hu0
 have e2 : (B + 1).succ * v1 = v1 * B + 2 * v1:=by rw [Nat.succ_mul,Nat.add_mul,Nat.mul_comm B v1]; omega
 omega
end Go.Proofs.YtpejdgkaapnekaaGreat
namespace Go.Proofs.YtpejdgkaapnekaaGreat
open Go Go.Abs
def mdT(c g y : Int) : Int:=IntKind.u64.wrap (c + IntKind.u64.wrap (g * IntKind.u64.wrap y))
theorem Hv{c x y : Int}(hc : 0≤c∧c < 4294967296)(hx : 0≤x∧x < 4294967296)(hy : 0≤y∧y < 4294967296) : mdT c x y = c + x * y∧0≤c + x * y∧c + x * y≤18446744073709551615:=by
 have h:=xb hx hy
 unfold mdT
 rw [c3 hy.1 (by omega),c3 h.1 (by omega),c3 (by omega) (by omega)]
 omega
theorem lQ{l : List Int}{k : Nat}{x : Int}(h : k < l.length) : at_ (l.set k x) k = x:=by simp [at_,h]
theorem ze{l : List Int}{k : Nat}(h : Dg l)(hz : ∀ t,k≤t→at_ l t = 0) : aq l < pw k:=by
 have e : aq l = aq (l.take k) + pw (l.take k).length * aq (l.drop k):=by rw [← jA,List.take_append_drop]
 have e2 : ∀ (m : List Int),(∀ t,at_ m t = 0)→aq m = 0:=by
  intro m
  induction m with
  | nil=>intro _; rfl
  | cons d r ih =>
    intro hm
    have h0 : d = 0:=hm 0
    have h1:=ih (fun t=>hm (t + 1))
    simp only [aq,h0,h1]; rfl
 rw [e2 (l.drop k) (fun t=>by
  have:=hz (k + t) (by omega)
  simp only [at_,List.getD_eq_getElem?_getD,List.getElem?_drop] at this ⊢
  exact this)] at e
 have h1:=(dH (h.take k)).2
 have h2 : pw (l.take k).length≤pw k:=by
  obtain ⟨m,hm⟩ : ∃ m,k = (l.take k).length + m:=⟨k - (l.take k).length,by simp; omega⟩
  have hp:=eQ m
  conv=>rhs; rw [hm,gE]
  have:=Int.mul_le_mul_of_nonneg_left (show 1≤pw m by omega) (Int.le_of_lt (eQ (l.take k).length))
  omega
 omega
theorem FC{V L : List Int}{R : List (List D)}{N : Nat}{lo j n : Nat}{qh b c K : Int}(hV : Dg V)(hq : 0≤qh∧qh < 4294967296)(hn : V.length = n)(hj : j < n)(hlo : lo + n + 1≤N)(hr : R = L.map aE)(hl : R.length = N)(hL : Dg L)(hb : 0≤b∧b≤1)(hc : 0≤c∧c < 4294967296)
  (hz : ∀ t,lo + n + 1≤t→at_ L t = 0) (hv : aq L + pw lo * (qh * aq (V.take j)) = K + pw (lo + j) * (b + c)) :
  j + 1≤n∧R.set (lo + j) [.int .u32 ((at_ L (lo + j) - IntKind.u32.wrap (mdT c qh (at_ V j)) - b) % 4294967296)] = (L.set (lo + j) ((at_ L (lo + j) - IntKind.u32.wrap (mdT c qh (at_ V j)) - b) % 4294967296)).map aE ∧
  (R.set (lo + j) [.int .u32 ((at_ L (lo + j) - IntKind.u32.wrap (mdT c qh (at_ V j)) - b) % 4294967296)]).length = N∧Dg (L.set (lo + j) ((at_ L (lo + j) - IntKind.u32.wrap (mdT c qh (at_ V j)) - b) % 4294967296)) ∧
  (0≤(if at_ L (lo + j) < IntKind.u32.wrap (mdT c qh (at_ V j)) + b then (1 : Int) else 0)∧(if at_ L (lo + j) < IntKind.u32.wrap (mdT c qh (at_ V j)) + b then (1 : Int) else 0)≤1) ∧
  (0≤(mdT c qh (at_ V j)).fdiv (2 ^ min (Int.toNat 32) IntKind.u64.bits)∧(mdT c qh (at_ V j)).fdiv (2 ^ min (Int.toNat 32) IntKind.u64.bits) < 4294967296) ∧
  (∀ t,lo + n + 1≤t→at_ (L.set (lo + j) ((at_ L (lo + j) - IntKind.u32.wrap (mdT c qh (at_ V j)) - b) % 4294967296)) t = 0) ∧
  aq (L.set (lo + j) ((at_ L (lo + j) - IntKind.u32.wrap (mdT c qh (at_ V j)) - b) % 4294967296)) + pw lo * (qh * aq (V.take (j + 1))) = K + pw (lo + (j + 1)) * ((if at_ L (lo + j) < IntKind.u32.wrap (mdT c qh (at_ V j)) + b then (1 : Int) else 0) + (mdT c qh (at_ V j)).fdiv (2 ^ min (Int.toNat 32) IntKind.u64.bits)):=by
 have hLl : L.length = N:=by rw [hr] at hl; simpa using hl
 have hk : lo + j < L.length:=by omega
 obtain ⟨e,h0,h1⟩:=Hv hc hq (hV.at (i:=j) (by omega))
 have hx:=hL.at hk
 rw [ip,wg]
 refine ⟨hj,eL hr,by simpa using hl,hL.set (by omega),by split <;> omega,by omega,fun t ht=>by rw [ep (by omega)]; exact hz t ht,?_⟩
 rw [jU hk,bV (by omega),show lo + (j + 1) = (lo + j) + 1 by omega,dx]
 generalize mdT c qh (at_ V j) = T at e ⊢
 have e1 : (at_ L (lo + j) - T % 4294967296 - b) % 4294967296 = at_ L (lo + j) - T % 4294967296 - b + 4294967296 * (if at_ L (lo + j) < T % 4294967296 + b then (1 : Int) else 0):=by split <;> omega
 rw [e1]
 generalize (if at_ L (lo + j) < T % 4294967296 + b then (1 : Int) else 0) = b'
 have e3 : T % 4294967296 + 4294967296 * (T / 4294967296) = T:=by omega
 generalize T % 4294967296 = r at e3 ⊢
 generalize T / 4294967296 = q at e3 ⊢
 have e5 : pw lo * (qh * (aq (V.take j) + pw j * at_ V j)) = pw lo * (qh * aq (V.take j)) + pw (lo + j) * (qh * at_ V j):=by
  rw [Int.mul_add,Int.mul_add,gE,Int.mul_assoc (pw lo) (pw j),Int.mul_left_comm qh (pw j)]
 have e6 : qh * at_ V j = r + 4294967296 * q - c:=by omega
 rw [e5,e6]
 generalize pw (lo + j) = P at hv ⊢
 generalize at_ L (lo + j) = x
 rw [show x - r - b + 4294967296 * b' - x = 4294967296 * b' - (r + b) by omega,show r + 4294967296 * q - c = 4294967296 * q + (r - c) by omega]
 have e7 : P * (4294967296 * b' - (r + b)) = 4294967296 * P * b' - P * (r + b):=by rw [Int.mul_sub,← Int.mul_assoc,Int.mul_comm P 4294967296]
 have e8 : P * (4294967296 * q + (r - c)) = 4294967296 * P * q + P * (r - c):=by rw [Int.mul_add,← Int.mul_assoc,Int.mul_comm P 4294967296]
 have e9 : 4294967296 * P * (b' + q) = 4294967296 * P * b' + 4294967296 * P * q:=Int.mul_add _ _ _
 rw [e7,e8,e9]
 simp only [Int.mul_add,Int.mul_sub] at hv ⊢
 omega
theorem Hw{V L : List Int}{R : List (List D)}{N : Nat}{lo n : Nat}{qh b c K : Int}(hn : V.length = n)(hlo : lo + n + 1≤N)(hr : R = L.map aE)(hl : R.length = N)(hL : Dg L)(hb : 0≤b∧b≤1)(hc : 0≤c∧c < 4294967296)
  (hz : ∀ t,lo + n + 1≤t→at_ L t = 0) (hv : aq L + pw lo * (qh * aq (V.take n)) = K + pw (lo + n) * (b + c)) :
  R.set (lo + n) [.int .u32 ((at_ L (lo + n) - c - b) % 4294967296)] = (L.set (lo + n) ((at_ L (lo + n) - c - b) % 4294967296)).map aE ∧
  (R.set (lo + n) [.int .u32 ((at_ L (lo + n) - c - b) % 4294967296)]).length = N∧Dg (L.set (lo + n) ((at_ L (lo + n) - c - b) % 4294967296)) ∧
  (∀ t,lo + n + 1≤t→at_ (L.set (lo + n) ((at_ L (lo + n) - c - b) % 4294967296)) t = 0) ∧
  aq (L.set (lo + n) ((at_ L (lo + n) - c - b) % 4294967296)) + pw lo * (qh * aq V) = K + pw (lo + n + 1) * (if at_ L (lo + n) < c + b then (1 : Int) else 0):=by
 have hLl : L.length = N:=by rw [hr] at hl; simpa using hl
 have hk : lo + n < L.length:=by omega
 have hx:=hL.at hk
 refine ⟨eL hr,by simpa using hl,hL.set (by omega),fun t ht=>by rw [ep (by omega)]; exact hz t ht,?_⟩
 rw [List.take_of_length_le (by omega)] at hv
 rw [jU hk,dx]
 have e1 : (at_ L (lo + n) - c - b) % 4294967296 = at_ L (lo + n) - c - b + 4294967296 * (if at_ L (lo + n) < c + b then (1 : Int) else 0):=by split <;> omega
 rw [e1]
 generalize (if at_ L (lo + n) < c + b then (1 : Int) else 0) = b'
 generalize pw (lo + n) = P at hv ⊢
 generalize at_ L (lo + n) = x
 rw [show x - c - b + 4294967296 * b' - x = 4294967296 * b' - (b + c) by omega]
 have e7 : P * (4294967296 * b' - (b + c)) = 4294967296 * P * b' - P * (b + c):=by rw [Int.mul_sub,← Int.mul_assoc,Int.mul_comm P 4294967296]
 rw [e7]
 omega
theorem FD{V L : List Int}{R : List (List D)}{N : Nat}{lo j n : Nat}{s K : Int}(hV : Dg V)(hn : V.length = n)(hj : j < n)(hlo : lo + n + 1≤N)(hr : R = L.map aE)(hl : R.length = N)(hL : Dg L)(hs : 0≤s∧s≤1)
  (hz : ∀ t,lo + n + 1≤t→at_ L t = 0) (hv : aq L + pw (lo + j) * s = K + pw lo * aq (V.take j)) :
  j + 1≤n∧R.set (lo + j) [.int .u32 ((at_ L (lo + j) + at_ V j + s) % 4294967296)] = (L.set (lo + j) ((at_ L (lo + j) + at_ V j + s) % 4294967296)).map aE ∧
  (R.set (lo + j) [.int .u32 ((at_ L (lo + j) + at_ V j + s) % 4294967296)]).length = N∧Dg (L.set (lo + j) ((at_ L (lo + j) + at_ V j + s) % 4294967296)) ∧
  (0≤(at_ L (lo + j) + at_ V j + s) / 4294967296∧(at_ L (lo + j) + at_ V j + s) / 4294967296≤1)∧(∀ t,lo + n + 1≤t→at_ (L.set (lo + j) ((at_ L (lo + j) + at_ V j + s) % 4294967296)) t = 0) ∧
  aq (L.set (lo + j) ((at_ L (lo + j) + at_ V j + s) % 4294967296)) + pw (lo + (j + 1)) * ((at_ L (lo + j) + at_ V j + s) / 4294967296) = K + pw lo * aq (V.take (j + 1)):=by
 have hLl : L.length = N:=by rw [hr] at hl; simpa using hl
 have hk : lo + j < L.length:=by omega
 have hx:=hL.at hk
 have hy:=hV.at (i:=j) (by omega)
 refine ⟨hj,eL hr,by simpa using hl,hL.set (by omega),by omega,fun t ht=>by rw [ep (by omega)]; exact hz t ht,?_⟩
 rw [jU hk,bV (by omega),show lo + (j + 1) = (lo + j) + 1 by omega,dx,Int.mul_add (pw lo),← Int.mul_assoc (pw lo),← gE]
 have e3 : (at_ L (lo + j) + at_ V j + s) % 4294967296 - at_ L (lo + j) = at_ V j + s - 4294967296 * ((at_ L (lo + j) + at_ V j + s) / 4294967296):=by omega
 rw [e3]
 generalize (at_ L (lo + j) + at_ V j + s) / 4294967296 = q
 generalize pw (lo + j) = P at hv ⊢
 have e7 : P * (at_ V j + s - 4294967296 * q) = P * at_ V j + P * s - 4294967296 * P * q:=by rw [Int.mul_sub,Int.mul_add,← Int.mul_assoc,Int.mul_comm P 4294967296]
 rw [e7]
 omega
theorem Hx{V L : List Int}{R : List (List D)}{N : Nat}{lo n : Nat}{s K : Int}(hn : V.length = n)(hlo : lo + n + 1≤N)(hr : R = L.map aE)(hl : R.length = N)(hL : Dg L)(hs : 0≤s∧s≤1)
  (hz : ∀ t,lo + n + 1≤t→at_ L t = 0) (hv : aq L + pw (lo + n) * s = K + pw lo * aq (V.take n)) :
  R.set (lo + n) [.int .u32 (IntKind.u32.wrap (at_ L (lo + n) + s))] = (L.set (lo + n) (IntKind.u32.wrap (at_ L (lo + n) + s))).map aE∧(L.set (lo + n) (IntKind.u32.wrap (at_ L (lo + n) + s))).length = N ∧
  Dg (L.set (lo + n) (IntKind.u32.wrap (at_ L (lo + n) + s)))∧(∀ t,lo + n + 1≤t→at_ (L.set (lo + n) (IntKind.u32.wrap (at_ L (lo + n) + s))) t = 0) ∧
  ∃ k : Int,0≤k∧k≤1∧aq (L.set (lo + n) (IntKind.u32.wrap (at_ L (lo + n) + s))) + pw (lo + n + 1) * k = K + pw lo * aq V:=by
 have hLl : L.length = N:=by rw [hr] at hl; simpa using hl
 have hk : lo + n < L.length:=by omega
 have hx:=hL.at hk
 rw [ip]
 refine ⟨eL hr,by simpa using hLl,hL.set (by omega),fun t ht=>by rw [ep (by omega)]; exact hz t ht,(at_ L (lo + n) + s) / 4294967296,by omega,by omega,?_⟩
 rw [List.take_of_length_le (by omega)] at hv
 rw [jU hk,dx]
 have e3 : (at_ L (lo + n) + s) % 4294967296 - at_ L (lo + n) = s - 4294967296 * ((at_ L (lo + n) + s) / 4294967296):=by omega
 rw [e3]
 generalize (at_ L (lo + n) + s) / 4294967296 = q
 generalize pw (lo + n) = P at hv ⊢
 have e7 : P * (s - 4294967296 * q) = P * s - 4294967296 * P * q:=by rw [Int.mul_sub,← Int.mul_assoc,Int.mul_comm P 4294967296]
 rw [e7]
 omega
theorem DV{N M L P q qh : Int}(hM : 0 < M)(hq : q = N / M)(h1 : q≤qh)(hL : 0≤L)(hv : L + qh * M = N) : qh = q∧L = N % M:=by
 have h2 : qh≤N / M:=(Int.le_ediv_iff_mul_le hM).2 (by omega)
 have e : qh = q:=by omega
 have:=Int.emod_def N M
 refine ⟨e,?_⟩
 rw [this,← hq,← e,Int.mul_comm M qh]; omega
theorem FE{N M L P q qh : Int}(hM : 0 < M)(hq : q = N / M)(h2 : qh≤q + 1)(h1 : q≤qh)(hL : L < P)(hv : L + qh * M = N + P) : qh = q + 1:=by
 refine Classical.byContradiction fun hc=>?_
 have e : qh = q:=by omega
 have h3:=Int.ediv_mul_le N (b:=M) (by omega)
 rw [← hq,← e] at h3
 omega
theorem FF{N M L L2 P q qh k : Int}(hM : 0 < M)(hP : M≤P)(hq : q = N / M)(h1 : qh = q + 1)(hv : L + qh * M = N + P)(hk : 0≤k∧k≤1)(hL2 : 0≤L2∧L2 < P)(hv2 : L2 + P * k = L + M) : L2 = N % M:=by
 have e:=Int.emod_def N M
 rw [← hq,Int.mul_comm] at e
 have b1:=Int.emod_nonneg N (show M≠0 by omega)
 have b2:=Int.emod_lt_of_pos N hM
 rw [h1,Int.add_mul,Int.one_mul] at hv
 have hk' : k = 0∨k = 1:=by omega
 rcases hk' with rfl | rfl
 ·rw [Int.mul_zero] at hv2; omega
 ·rw [Int.mul_one] at hv2; omega
end Go.Proofs.YtpejdgkaapnekaaGreat
namespace Go.Abs
open Go
variable {P : Program} {V : Env} {T : Tab} {st : St} {o : Oper} {σ : Sig} {φ : Pl} {sto : Sto}
theorem lr{t e : TypeId}{x y : Operand}{id lo m k k' b b' : Nat}{ik : IntKind}{i : Int}{xs : List (List D)}{z : List D}(ho : o.op = .indexAddr t x y)(ht : bz V.T t = some (e,k',b',z))(hx : ev st x = some (.one (.sub id lo m)))
  (hl : look st.sto id = some (.row k b xs)) (hk : Nat.beq k k' = true) (hy : ev st y = some (.one (.d (.int ik i)))) (h0 : 0≤i) (hm : i < (m : Int)) : bw V st o 0 = some ⟨.one (.rref id (lo + i.toNat) 0),[],[]⟩:=by
 simp only [bw,de,cy,ho,cX,nz,hx,hy,ht,hl,hk,h0,hm,decide_true,cond_true,Bool.and_self]
theorem Fj{w : World}(hI : HInv σ φ sto w){id n : Nat}{v : Value}(hin : bQ sto id = true)(h : RepC σ φ sto (.own id n) v) : RepC σ φ sto (.sub id 0 n) v:=by
 cases h with
 | ownNil h hp=>exact RepC.sub h (Nat.zero_le _) (Nat.le_refl _) (fun hc=>absurd hc (by omega))
 | own h hn hp =>
   rcases hI.obj _ _ h with ⟨h1,h2⟩ | ⟨B',cap',arr,t,vs,h1,_,_,h2,_⟩
   ·rw [h2] at hp; cases hp
   ·rw [hp] at h1; cases h1
    exact RepC.sub h (by omega) (by omega) (fun _=>⟨_,_,hp,by simp⟩)
 | dead hx _=>simp [ci,hin] at hx
end Go.Abs
namespace Go.Proofs.YtpejdgkaapnekaaGreat
open Go Go.Abs
attribute [local irreducible] ao OkC aU bg aV bA
set_option maxRecDepth 10000
theorem kY{t w1 w2 x2 qq : Nat}{p : Int×Int}(hp1 : 0≤p.1∧p.1≤4294967297)(hp2 : 0≤p.2∧p.2 < 4294967296)(hG : Guess t w1 w2 x2 qq p.1.toNat p.2.toNat)(hqB : qq < 4294967296)(hle : qq * (w1 * 4294967296 + w2)≤t * 4294967296 + x2)
  (ht : 4294967296≤p.1∨p.2 * 4294967296 + x2 < p.1 * w2) : (qq : Int) < p.1∧Guess t w1 w2 x2 qq (p.1 - 1).toNat (p.2 + w1).toNat:=by
 obtain ⟨a,b⟩:=p
 obtain ⟨m,rfl⟩:=Int.eq_ofNat_of_zero_le hp1.1
 obtain ⟨k,rfl⟩:=Int.eq_ofNat_of_zero_le hp2.1
 simp only [Int.toNat_natCast] at hG ht ⊢
 have:=AW hG hqB hle (by
  rcases ht with ht | ht
  ·exact .inl (by omega)
  ·refine .inr ?_
   rw [show (m : Int) * (w2 : Int) = ((m * w2 : Nat) : Int) by simp] at ht
   omega)
 rw [show ((m : Int) - 1).toNat = m - 1 by omega,show ((k : Int) + (w1 : Int)).toNat = k + w1 by omega]
 exact ⟨by omega,this.2⟩
theorem zl{t w1 w2 x2 qq : Nat}{p : Int×Int}(hp1 : 0≤p.1∧p.1≤4294967297)(h : (qq : Int) < p.1∧Guess t w1 w2 x2 qq (p.1 - 1).toNat (p.2 + w1).toNat)(hp2 : 0≤p.2)(hlt : p.2 + w1 < 4294967296) :
  (0≤p.1 - 1∧p.1 - 1≤4294967297)∧(0≤p.2 + w1∧p.2 + w1 < 4294967296)∧Guess t w1 w2 x2 qq (p.1 - 1).toNat (p.2 + w1).toNat:=⟨by omega,by omega,h.2⟩
theorem ifb{c : Prop}[Decidable c](h : ((if c then (1 : Int) else 0) == 0) = false) : (if c then (1 : Int) else 0) = 1:=by
 by_cases hc : c
 ·simp [hc]
 ·simp [hc] at h
def Hid(p : Prop) : Prop:=p
def tR(qq : Nat)(qh : Int) : Prop:=(qq : Int)≤qh∧qh≤qq + 1∧0≤qh∧qh < 4294967296
theorem zm{t w1 w2 x2 qq : Nat}{p : Int×Int}(hp1 : 0≤p.1∧p.1≤4294967297)(h : (qq : Int) < p.1∧Guess t w1 w2 x2 qq (p.1 - 1).toNat (p.2 + w1).toNat)(hw2 : w2 < 4294967296)(hge : 4294967296≤p.2 + w1)(hqB : qq < 4294967296)
  (hup : ∀ x,x * (w1 * 4294967296 + w2 + 1)≤t * 4294967296 + x2→x≤qq) : tR qq (p.1 - 1):=by
 have:=hup _ (AY h.2 hw2 (by omega) (by omega))
 have:=h.2.ge
 unfold tR
 omega
theorem F2{t w1 w2 x2 qq : Nat}{p : Int×Int}(hp1 : 0≤p.1∧p.1≤4294967297)(hp2 : 0≤p.2∧p.2 < 4294967296)(hG : Guess t w1 w2 x2 qq p.1.toNat p.2.toNat)(hw1 : 0 < w1)(hlt : p.1 < 4294967296)(hle : p.1 * w2≤p.2 * 4294967296 + x2)
  (hup : ∀ x,x * (w1 * 4294967296 + w2 + 1)≤t * 4294967296 + x2→x≤qq) : tR qq p.1:=by
 obtain ⟨a,b⟩:=p
 obtain ⟨m,rfl⟩:=Int.eq_ofNat_of_zero_le hp1.1
 obtain ⟨k,rfl⟩:=Int.eq_ofNat_of_zero_le hp2.1
 simp only [Int.toNat_natCast] at hG hlt hle ⊢
 have:=hup _ (AX hG (by omega) hw1 (by omega) (by
   rw [show (m : Int) * (w2 : Int) = ((m * w2 : Nat) : Int) by simp] at hle
   omega))
 have:=hG.ge
 unfold tR
 omega
theorem Ma(v : Int) : 0≤IntKind.u32.wrap v∧IntKind.u32.wrap v < 4294967296:=by rw [ip]; omega
theorem jq{L : List Int}{R : List (List D)}{N : Nat}(hr : R = L.map aE)(hl : R.length = N) : L.length = N:=by rw [hr] at hl; simpa using hl
theorem kG{l : List Int}{k : Nat}(h : Dg l)(hv : aq l < pw k) : ∀ t,k≤t→at_ l t = 0:=by
 intro t ht
 by_cases hl : t < l.length
 ·have h1:=bV hl
  have h2:=(dH (h.take t)).1
  have h3:=h.at hl
  have e : aq l = aq (l.take (t + 1)) + pw (l.take (t + 1)).length * aq (l.drop (t + 1)):=by rw [← jA,List.take_append_drop]
  have h4:=(dH (h.drop (t + 1))).1
  have h5:=Int.mul_nonneg (Int.le_of_lt (eQ (l.take (t + 1)).length)) h4
  refine Classical.byContradiction fun hc=>?_
  have h6:=Int.mul_le_mul_of_nonneg_left (show 1≤at_ l t by omega) (Int.le_of_lt (eQ t))
  have h7 : pw k≤pw t:=by
   obtain ⟨m,rfl⟩ : ∃ m,t = k + m:=⟨t - k,by omega⟩
   rw [gE]
   have:=Int.mul_le_mul_of_nonneg_left (show 1≤pw m by have:=eQ m; omega) (Int.le_of_lt (eQ k))
   omega
  omega
 ·exact iz (Nat.le_of_not_lt hl)
theorem F3{V L R : List Int}{W : List (List D)}{N : Nat}{lo n qq : Nat}{qh M : Int}(hM : M = pw lo * aq V)(hM0 : 0 < M)(hqq : (qq : Int) = aq R / M)(ho : tR qq qh)(hr : W = L.map aE)(hl : W.length = R.length)(hL : Dg L){b : Int}
  (hb : b = 0) (hv : aq L + pw lo * (qh * aq V) = aq R + pw (lo + n + 1) * b) : IntKind.u32.wrap qh = qq∧W = (wid R.length (aq R % M).toNat).map aE:=by
 subst hb
 have e : pw lo * (qh * aq V) = qh * M:=by rw [hM,Int.mul_left_comm]
 rw [Int.mul_zero,Int.add_zero,e] at hv
 have h:=DV (P:=0) hM0 hqq ho.1 (dH hL).1 hv
 have hq:=ho.2.2
 refine ⟨by rw [ip,← h.1]; omega,?_⟩
 rw [hr,← h.2,← jq hr hl,lb hL]
theorem F4{V L L2 R : List Int}{W W2 : List (List D)}{N : Nat}{lo n qq : Nat}{qh M k : Int}(hM : M = pw lo * aq V)(hM0 : 0 < M)(hMP : M≤pw (lo + n + 1))(hqq : (qq : Int) = aq R / M)(ho : tR qq qh)(hL : Dg L)(hz : ∀ t,lo + n + 1≤t→at_ L t = 0){b : Int}
  (hb : b = 1) (hv : aq L + pw lo * (qh * aq V) = aq R + pw (lo + n + 1) * b) (hr2 : W2 = L2.map aE) (hl2 : L2.length = R.length) (hL2 : Dg L2) (hz2 : ∀ t,lo + n + 1≤t→at_ L2 t = 0) (hk : 0≤k∧k≤1) (hv2 : aq L2 + pw (lo + n + 1) * k = aq L + pw lo * aq V) :
  IntKind.u32.wrap (IntKind.u32.wrap qh - 1) = qq∧W2 = (wid R.length (aq R % M).toNat).map aE:=by
 subst hb
 have e : pw lo * (qh * aq V) = qh * M:=by rw [hM,Int.mul_left_comm]
 rw [Int.mul_one,e] at hv
 rw [← hM] at hv2
 have h1:=FE hM0 hqq ho.2.1 ho.1 (ze hL hz) hv
 have h2:=FF hM0 hMP hqq h1 hv hk ⟨(dH hL2).1,ze hL2 hz2⟩ hv2
 have hq:=ho.2.2
 refine ⟨by simp only [ip]; omega,?_⟩
 rw [hr2,← h2,← hl2,lb hL2]
set_option maxHeartbeats 2000000 in
theorem HW(V R : List Int)(VR : List (List D))(lo : Nat)(hVR : VR = V.map aE)(hn : VR.length = V.length)(hn2 : 2≤VR.length)(hn3 : VR.length≤400)(hlo : lo + VR.length + 1≤R.length)(hR : R.length≤1000)(hV : Dg V)(hRd : Dg R)(t w1 w2 x2 qq : Nat)
  (E1 : IntKind.u64.wrap (at_ V ((VR.length : Int) - 1).toNat) = (w1 : Int)) (E2 : IntKind.u64.wrap (at_ V ((VR.length : Int) - 2).toNat) = (w2 : Int)) (E3h : Hid (at_ R (lo + ((VR.length : Int) - 2).toNat) = (x2 : Int))) (hw1 : 0 < w1) (hw1b : w1 < 4294967296) (hw2 : w2 < 4294967296) (hx2 : x2 < 4294967296) (htop : t / w1≤4294967297)
  (E4 : smT (IntKind.u64.wrap (at_ R (lo + VR.length))) (at_ R (lo + ((VR.length : Int) - 1).toNat)) = (t : Int)) (hqB : qq < 4294967296) (hle : qq * (w1 * 4294967296 + w2)≤t * 4294967296 + x2) (hup : ∀ x,x * (w1 * 4294967296 + w2 + 1)≤t * 4294967296 + x2→x≤qq)
  (MM : Int) (hM : MM = pw lo * aq V) (hM0 : 0 < MM) (hMP : MM≤pw (lo + VR.length + 1)) (hqq : (qq : Int) = aq R / MM) (hzR : ∀ t,lo + VR.length + 1≤t→at_ R t = 0) :
  CallA Tryz.prog 375 [.one (.sub 1000000 lo (VR.length + 1)),.one (.d (.sl 1 4 VR))] [(1000000,.row 1 4 (R.map aE))] (.one (.d (.int .u32 qq))) [(1000000,.row 1 4 ((wid R.length (aq R % MM).toNat).map aE))]:=by
 have hv1 : 0 < IntKind.u64.wrap (at_ V ((VR.length : Int) - 1).toNat):=by rw [E1]; omega
 have hq0 : 0≤smT (IntKind.u64.wrap (at_ R (lo + VR.length))) (at_ R (lo + ((VR.length : Int) - 1).toNat)):=by rw [E4]; omega
 have htw : (t : Int) / (w1 : Int) = ((t / w1 : Nat) : Int):=(Int.natCast_ediv t w1).symm
 have htm : (t : Int) % (w1 : Int) = ((t % w1 : Nat) : Int):=(Int.natCast_emod t w1).symm
 have hqw : IntKind.u64.wrap (smT (IntKind.u64.wrap (at_ R (lo + VR.length))) (at_ R (lo + ((VR.length : Int) - 1).toNat)) / IntKind.u64.wrap (at_ V ((VR.length : Int) - 1).toNat)) = smT (IntKind.u64.wrap (at_ R (lo + VR.length))) (at_ R (lo + ((VR.length : Int) - 1).toNat)) / IntKind.u64.wrap (at_ V ((VR.length : Int) - 1).toNat):=by
  rw [E1,E4,htw]; exact c3 (Int.natCast_nonneg _) (by have h:=htop; generalize t / w1 = a at h ⊢; omega)
 have hv1b : IntKind.u64.wrap (at_ V ((VR.length : Int) - 1).toNat) < 4294967296:=by rw [E1]; omega
 refine enter ab Tryz.func375 rfl (by decide +kernel) rfl fun hok w0 σ0 φ0 M=>?_
 clear hok
 have htest : ∀ {p : Int×Int} {b : Bool},0≤p.1→0≤p.2∧p.2 < 4294967296→decide (4294967296≤p.1) = false→decide (smT p.2 (at_ R (lo + ((VR.length : Int) - 2).toNat)) < IntKind.u64.wrap (p.1 * IntKind.u64.wrap (at_ V ((VR.length : Int) - 2).toNat))) = b→decide (p.2 * 4294967296 + x2 < p.1 * w2) = b:=by
  intro p b h0 hp h1 h2
  have h1:=of_decide_eq_false h1
  have hm:=xb (x:=p.1) (y:=(w2 : Int)) (by omega) (by omega)
  have E3 : at_ R (lo + ((VR.length : Int) - 2).toNat) = (x2 : Int):=E3h
  rw [E2,E3,rA hp (by omega),c3 hm.1 (by omega)] at h2
  exact h2
 repeat' (first|(refine h6H ?_; first|(refine h3H ?_; refine s_e aa J J J (ar J J J J J (by omega) (cg hVR (by omega))) ?_)|refine ac ?_|refine ah ab J J J J J ?_|(refine h1H ?_; refine s_e aa J J J (aL J J J J (cJ (by omega) (by omega))) ?_)|(refine fY ?_; first|refine s_e aa J J J (bW J J J J (aN (by omega) (by omega))) ?_|refine s_e aa J J J (bW J J J J (cJ (by first|omega|((try simp only [a0A,a1A,a2A,a3A,a4A,a5A,a6A,a7A,a8A,a9A,au,av] at *); omega)) (by first|omega|((try simp only [a0A,a1A,a2A,a3A,a4A,a5A,a6A,a7A,a8A,a9A,au,av] at *); omega)))) ?_|refine dk ab J J J J ?_)|(refine fH ?_; refine dk ab J J J J ?_))|(refine h7H ?_; first|refine al ?_|refine ae ?_|refine ay ?_|refine aw ?_|refine aW ?_|refine bc J ?_|refine aA J (fun h=>?_) (fun h=>?_)|refine aR progOk.mo ?_|refine cR 4 J [(0,_),(1,_),(5,_)] (q3Q J J J) (fun (p : Int×Int)=>[(7,.one (.d (.int .u64 p.1))),(8,.one (.d (.int .u64 p.2)))]) (fun (p : Int×Int)=>[(1000000,.row 1 4 (R.map aE))]) (fun (p : Int×Int)=>(0≤p.1∧p.1≤4294967297)∧(0≤p.2∧p.2 < 4294967296)∧Guess t w1 w2 x2 qq p.1.toNat p.2.toNat) (fun (p : Int×Int)=>p.1.toNat) (smT (IntKind.u64.wrap (at_ R (lo + VR.length))) (at_ R (lo + ((VR.length : Int) - 1).toNat)) / IntKind.u64.wrap (at_ V ((VR.length : Int) - 1).toNat),smT (IntKind.u64.wrap (at_ R (lo + VR.length))) (at_ R (lo + ((VR.length : Int) - 1).toNat)) % IntKind.u64.wrap (at_ V ((VR.length : Int) - 1).toNat)) (q2Q J J) (by first|(repeat' first|exact ap|refine af J ?_) <;> fail) ?_ (fun p ⟨hp1,hp2,hG⟩=>?_))|(refine bP ?_; first|(refine h8H ?_; refine d_e aa J J J (lr J J J J J J (by omega) (by omega)) ?_)|(refine h8H ?_; refine d_e aa J J J (ar J J J J J (by omega) (cg hVR (by omega))) ?_)|(refine zO ?_; refine d_e aa J J J (cu J J J J (aJ (by omega)) J) ?_)|(refine JX ?_; refine d_e aa J J J (fg J J J J hq0 hv1 hqw) ?_)|(refine GJ ?_; refine d_e aa J J J (f8 J J J J hq0 hv1) ?_)|refine bG (by kernel_rfl) ?_|refine d_e aa J J J (aK J J) ?_|(refine qO ?_; first|refine jH J J (by first|assumption|rfl) ?_|refine nv J J (by first|assumption|rfl) J J ?_|refine kV J J (fun h=>?_) (fun h=>?_))|(refine sP ?_; refine d_e aa J J J (bW J J J J (aN (by omega) (by omega))) ?_)|(refine GK ?_; refine d_e aa J J J (eI J) ?_)|(refine Dm ?_; refine d_e aa J J J (eI J) ?_)|(refine qP ?_; first|refine d_e aa J J J (aF J J (by first|rfl|assumption) J) ?_|refine d_e aa J J J (az J J (by first|rfl|assumption) J) ?_)|refine d_e aa J J J J ?_)|(show Exists _; first|refine Exists.intro (((p.1 - 1),p.2 + IntKind.u64.wrap (at_ V ((VR.length : Int) - 1).toNat))) ⟨?_,?_,(by first|(repeat' first|exact ap|refine af J ?_) <;> fail),(q2Q J J),(q3Q J J J)⟩|refine Exists.intro ((IntKind.u64.wrap (p.1 - 1),p.2 + IntKind.u64.wrap (at_ V ((VR.length : Int) - 1).toNat))) ⟨?_,?_,(by first|(repeat' first|exact ap|refine af J ?_) <;> fail),(q2Q J J),(q3Q J J J)⟩)|refine ak ?_|refine bd ?_|refine aG ?_|refine aX J ?_|refine FJ J ?_)
 ·show (0≤_ / _∧_ / _≤_)∧(0≤_ % _∧_ % _ < _)∧Guess t w1 w2 x2 qq (Int.toNat (_ / _)) (Int.toNat (_ % _))
  rw [E1,E4,htw,htm]
  have h1 : t % w1 < w1:=Nat.mod_lt _ hw1
  refine ⟨by generalize t / w1 = a at htop ⊢; omega,by generalize t % w1 = a at h1 ⊢; omega,yw (B:=4294967296) (by omega) hw1 hw2 hx2 hle⟩
 rename_i h1 h2
 have st:=kY hp1 hp2 hG hqB hle (.inr (of_decide_eq_true (htest hp1.1 hp2 h1 h2)))
 have out:=zm hp1 st hw2 (by have h:=of_decide_eq_true h; rw [E1] at h; exact h) hqB hup
 have e : IntKind.u64.wrap (p.1 - 1) = p.1 - 1:=c3 (by omega) (by omega)
 rw [← e] at out
 generalize IntKind.u64.wrap (p.1 - 1) = qh at out ⊢
 clear h1 h2 h e st
 rotate_left
 ·rename_i h1 h2
  have st:=kY hp1 hp2 hG hqB hle (.inr (of_decide_eq_true (htest hp1.1 hp2 h1 h2)))
  have e : IntKind.u64.wrap (p.1 - 1) = p.1 - 1:=c3 (by omega) (by omega)
  show (0≤_∧_≤_)∧(0≤p.2 + IntKind.u64.wrap _∧p.2 + IntKind.u64.wrap _ < _)∧Guess t w1 w2 x2 qq (IntKind.u64.wrap (p.1 - 1)).toNat (p.2 + IntKind.u64.wrap _).toNat
  have h:=of_decide_eq_false h
  rw [E1] at h ⊢
  rw [e]
  exact zl hp1 st hp2.1 (by omega)
 ·rename_i h1 h2
  have st:=kY hp1 hp2 hG hqB hle (.inr (of_decide_eq_true (htest hp1.1 hp2 h1 h2)))
  have e : IntKind.u64.wrap (p.1 - 1) = p.1 - 1:=c3 (by omega) (by omega)
  show (IntKind.u64.wrap (p.1 - 1)).toNat < p.1.toNat
  omega
 rename_i h1
 have out:=F2 hp1 hp2 hG hw1 (by have:=of_decide_eq_false h1; omega) (by have:=of_decide_eq_false (htest hp1.1 hp2 h1 h); omega) hup
 generalize p.1 = qh at out ⊢
 clear h1 h
 rotate_left
 rename_i h1
 have st:=kY hp1 hp2 hG hqB hle (.inl (by simpa using h1))
 have out:=zm hp1 st hw2 (by have h:=of_decide_eq_true h; rw [E1] at h; exact h) hqB hup
 generalize p.1 - 1 = qh at out ⊢
 clear h1 h st
 rotate_left
 ·rename_i h1
  have st:=kY hp1 hp2 hG hqB hle (.inl (by simpa using h1))
  show (0≤_∧_≤_)∧(0≤p.2 + IntKind.u64.wrap _∧p.2 + IntKind.u64.wrap _ < _)∧Guess t w1 w2 x2 qq (p.1 - 1).toNat (p.2 + IntKind.u64.wrap _).toNat
  have h:=of_decide_eq_false h
  rw [E1] at h ⊢
  exact zl hp1 st hp2.1 (by omega)
 ·rename_i h1
  have st:=kY hp1 hp2 hG hqB hle (.inl (by simpa using h1))
  show (p.1 - 1).toNat < p.1.toNat
  omega
 all_goals clear hp1 hp2 hG htest hq0 hqw hv1 hv1b
 all_goals have top : ∀ r : Nat×Int×Int×List Int×List (List D),r.1≤VR.length→VR.length≤r.1→r.2.2.2.2 = r.2.2.2.1.map aE→r.2.2.2.2.length = R.length→Dg r.2.2.2.1→(0≤r.2.1∧r.2.1≤1)→(0≤r.2.2.1∧r.2.2.1 < 4294967296)→(∀ t,lo + VR.length + 1≤t→at_ r.2.2.2.1 t = 0)→aq r.2.2.2.1 + pw lo * (qh * aq (V.take r.1)) = aq R + pw (lo + r.1) * (r.2.1 + r.2.2.1)→_ :=
  fun r h1 h2 hr hl hL hb hc hz hv=>Hw hn.symm hlo hr hl hL hb hc hz (by rw [show r.1 = VR.length from Nat.le_antisymm h1 h2] at hv; exact hv)
 repeat' (first|(refine h6H ?_; first|(refine h3H ?_; refine s_e aa J J J (lr J J J J J J (by omega) (by omega)) ?_)|(refine h3H ?_; refine s_e aa J J J (ar J J J J J (by first|omega|((try simp only [a0A,a1A,a2A,a3A,a4A,a5A,a6A,a7A,a8A,a9A,au,av] at *); omega)) (cg hVR (by first|omega|((try simp only [a0A,a1A,a2A,a3A,a4A,a5A,a6A,a7A,a8A,a9A,au,av] at *); omega)))) ?_)|refine ac ?_|refine ah ab J J J J J ?_|(refine h1H ?_; first|refine s_e aa J J J (aL J J J J (aN (by omega) (by omega))) ?_|refine dk ab J J J J ?_)|(refine fY ?_; refine dk ab J J J J ?_)|(refine s9 ?_; refine dk ab J J J J ?_)|(refine fH ?_; first|refine s_e aa J J J (c7 J J J J (iZ (by omega) (by omega))) ?_|refine dk ab J J J J ?_)|(refine ot ?_; refine s_e aa J J J (cu J J J J (cg (by assumption) (by omega)) J) ?_)|(refine h4H ?_; first|refine ag J J J J J J J J (zP _ _ _ (hL.at (Nat.lt_of_lt_of_le (show lo + r.1 < R.length from (by omega)) (Nat.le_of_eq (jq hr hl).symm))) (Ma _) hb) J ?_|refine ag J J J J J J J J (zP _ _ _ (hL.at (Nat.lt_of_lt_of_le (show lo + VR.length < R.length from (by omega)) (Nat.le_of_eq (jq hr hl).symm))) hc hb) J ?_)|refine aI aa J J (bO J J J J J J J J J (cg (by assumption) (by omega)) J) ?_|refine s_e aa J J J J ?_)|(refine h7H ?_; first|refine al ?_|refine ae ?_|refine ay ?_|refine aw ?_|refine am ?_|refine aW ?_|refine aA J (fun h=>?_) (fun h=>?_)|refine aR progOk.mo ?_|refine cR 21 J [(0,_),(1,_),(5,_),(7,_),(127,_)] (q5Q J J J J J) (fun (w : Nat×Int×List Int×List (List D))=>[(128,.one (.d (.int .i64 (w.1 : Int)))),(12,.one (.d (.int .u32 w.2.1)))]) (fun (w : Nat×Int×List Int×List (List D))=>[(1000000,.row 1 4 w.2.2.2)]) (fun (w : Nat×Int×List Int×List (List D))=>w.1≤VR.length∧w.2.2.2 = w.2.2.1.map aE∧w.2.2.2.length = R.length∧Dg w.2.2.1∧(0≤w.2.1∧w.2.1≤1)∧(∀ t,lo + VR.length + 1≤t→at_ w.2.2.1 t = 0)∧aq w.2.2.1 + pw (lo + w.1) * w.2.1 = aq (r.2.2.2.1.set (lo + VR.length) ((at_ r.2.2.2.1 (lo + VR.length) - r.2.2.1 - r.2.1) % 4294967296)) + pw lo * aq (V.take w.1)) (fun (w : Nat×Int×List Int×List (List D))=>VR.length - w.1) (0,0,r.2.2.2.1.set (lo + VR.length) ((at_ r.2.2.2.1 (lo + VR.length) - r.2.2.1 - r.2.1) % 4294967296),r.2.2.2.2.set (lo + VR.length) [.int .u32 ((at_ r.2.2.2.1 (lo + VR.length) - r.2.2.1 - r.2.1) % 4294967296)]) (q2Q J J) (by first|(repeat' first|exact ap|refine af J ?_) <;> fail) ?_ (fun w ⟨hj4,hr4,hl4,hL4,hb4,hz4,hv4⟩=>?_)|refine cR 10 J [(0,_),(1,_),(5,_),(7,_),(79,_)] (q5Q J J J J J) (fun (r : Nat×Int×Int×List Int×List (List D))=>[(80,.one (.d (.int .i64 (r.1 : Int)))),(9,.one (.d (.int .u32 r.2.1))),(10,.one (.d (.int .u64 r.2.2.1)))]) (fun (r : Nat×Int×Int×List Int×List (List D))=>[(1000000,.row 1 4 r.2.2.2.2)]) (fun (r : Nat×Int×Int×List Int×List (List D))=>r.1≤VR.length∧r.2.2.2.2 = r.2.2.2.1.map aE∧r.2.2.2.2.length = R.length∧Dg r.2.2.2.1∧(0≤r.2.1∧r.2.1≤1)∧(0≤r.2.2.1∧r.2.2.1 < 4294967296)∧(∀ t,lo + VR.length + 1≤t→at_ r.2.2.2.1 t = 0)∧aq r.2.2.2.1 + pw lo * (qh * aq (V.take r.1)) = aq R + pw (lo + r.1) * (r.2.1 + r.2.2.1)) (fun (r : Nat×Int×Int×List Int×List (List D))=>VR.length - r.1) (0,0,0,R,R.map aE) (q3Q J J J) (by first|(repeat' first|exact ap|refine af J ?_) <;> fail) ?_ (fun r ⟨hj,hr,hl,hL,hb,hc,hz,hv⟩=>?_))|(refine bP ?_; first|(refine h8H ?_; refine d_e aa J J J (lr J J J J J J (by omega) (by omega)) ?_)|(refine h8H ?_; refine d_e aa J J J (ar J J J J J (by first|omega|((try simp only [a0A,a1A,a2A,a3A,a4A,a5A,a6A,a7A,a8A,a9A,au,av] at *); omega)) (cg hVR (by first|omega|((try simp only [a0A,a1A,a2A,a3A,a4A,a5A,a6A,a7A,a8A,a9A,au,av] at *); omega)))) ?_)|refine bG (by kernel_rfl) ?_|refine d_e aa J J J (aK J J) ?_|(refine zO ?_; refine d_e aa J J J (cu J J J J (cg (by assumption) (by omega)) J) ?_)|(refine h9H ?_; refine d_l J J (bj J J J J J J (wt _ _ _ (hL4.at (Nat.lt_of_lt_of_le (show lo + w.1 < R.length from (by first|omega|((try simp only [a0A,a1A,a2A,a3A,a4A,a5A,a6A,a7A,a8A,a9A,au,av] at *); omega))) (Nat.le_of_eq (jq hr4 hl4).symm))) (hV.at (Nat.lt_of_lt_of_le (show w.1 < VR.length from (by first|omega|((try simp only [a0A,a1A,a2A,a3A,a4A,a5A,a6A,a7A,a8A,a9A,au,av] at *); omega))) (Nat.le_of_eq hn))) hb4) J) ?_)|refine ca aa J J (bO J J J J J J J J J (cg (by assumption) (by omega)) J) ?_)|(show Exists _; first|refine Exists.intro ((r.1 + 1,(if at_ r.2.2.2.1 (lo + r.1) < IntKind.u32.wrap (mdT r.2.2.1 qh (at_ V r.1)) + r.2.1 then 1 else 0),(mdT r.2.2.1 qh (at_ V r.1)).fdiv (2 ^ min (Int.toNat 32) IntKind.u64.bits),r.2.2.2.1.set (lo + r.1) ((at_ r.2.2.2.1 (lo + r.1) - IntKind.u32.wrap (mdT r.2.2.1 qh (at_ V r.1)) - r.2.1) % 4294967296),r.2.2.2.2.set (lo + r.1) [.int .u32 ((at_ r.2.2.2.1 (lo + r.1) - IntKind.u32.wrap (mdT r.2.2.1 qh (at_ V r.1)) - r.2.1) % 4294967296)])) ⟨?_,?_,(by first|(repeat' first|exact ap|refine af J ?_) <;> fail),(q3Q J J J),(q5Q J J J J J)⟩|refine Exists.intro ((w.1 + 1,(at_ w.2.2.1 (lo + w.1) + at_ V w.1 + w.2.1) / 4294967296,w.2.2.1.set (lo + w.1) ((at_ w.2.2.1 (lo + w.1) + at_ V w.1 + w.2.1) % 4294967296),w.2.2.2.set (lo + w.1) [.int .u32 ((at_ w.2.2.1 (lo + w.1) + at_ V w.1 + w.2.1) % 4294967296)])) ⟨?_,?_,(by first|(repeat' first|exact ap|refine af J ?_) <;> fail),(q2Q J J),(q5Q J J J J J)⟩)|refine ak ?_|refine aC ?_|refine bd ?_|refine aG ?_|refine aX J ?_)
 all_goals first
  | exact ⟨Nat.zero_le _,rfl,by simp,hRd,⟨Int.le_refl _,by show (0 : Int)≤1; omega⟩,⟨Int.le_refl _,by show (0 : Int) < 4294967296; omega⟩,hzR,by
    show aq R + pw lo * (qh * aq (V.take 0)) = aq R + pw (lo + 0) * (0 + 0)
    rw [List.take_zero]; simp [aq]⟩
  | exact FC hV out.2.2 hn.symm (by simpa using h) hlo hr hl hL hb hc hz hv
  | (have hlt : r.1 < VR.length:=by simpa using h
     show VR.length - (r.1 + 1) < VR.length - r.1
     omega)
  | (obtain ⟨t1,t2,t3,t4,t5⟩:=top r hj (by simpa using ‹decide ((r.1 : Int) < (VR.length : Int)) = false›) hr hl hL hb hc hz hv
     exact ⟨Nat.zero_le _,t1,t2,t3,⟨Int.le_refl _,by show (0 : Int)≤1; omega⟩,t4,by
      show _ + pw (lo + 0) * 0 = _ + pw lo * aq (V.take 0)
      rw [List.take_zero]; simp [aq]⟩)
  | exact FD hV hn.symm (by simpa using h) hlo hr4 hl4 hL4 hb4 hz4 hv4
  | (have hlt : w.1 < VR.length:=by simpa using h
     show VR.length - (w.1 + 1) < VR.length - w.1
     omega)
  | (obtain ⟨t1,t2,t3,t4,t5⟩:=top r hj (by simpa using ‹decide ((r.1 : Int) < (VR.length : Int)) = false›) hr hl hL hb hc hz hv
     obtain ⟨f1,f2⟩:=F3 (N:=0) hM hM0 hqq out t1 t2 t3 (eq_of_beq ‹((if at_ r.2.2.2.1 (lo + (VR.length : Int).toNat) < r.2.2.1 + r.2.1 then (1 : Int) else 0) == 0) = true›) t5
     exact iL (.inl rfl) rfl rfl (congrArg (fun x=>AV.one (.d (.int .u32 x))) f1) (af (congrArg (fun x=>some (AObj.row 1 4 x)) f2) ap))
  | (obtain ⟨t1,t2,t3,t4,t5⟩:=top r hj (by simpa using ‹decide ((r.1 : Int) < (VR.length : Int)) = false›) hr hl hL hb hc hz hv
     have ew : w.1 = VR.length:=Nat.le_antisymm hj4 (by simpa using h)
     rw [ew] at hv4
     obtain ⟨u1,u2,u3,u4,k,u5,u6,u7⟩:=Hx hn.symm hlo hr4 hl4 hL4 hb4 hz4 hv4
     obtain ⟨f1,f2⟩:=F4 (W:=[]) (N:=0) hM hM0 hMP hqq out t3 t4 (ifb ‹((if at_ r.2.2.2.1 (lo + (VR.length : Int).toNat) < r.2.2.1 + r.2.1 then (1 : Int) else 0) == 0) = false›) t5 u1 u2 u3 u4 ⟨u5,u6⟩ u7
     exact iL (.inl rfl) rfl rfl (congrArg (fun x=>AV.one (.d (.int .u32 x))) f1) (af (congrArg (fun x=>some (AObj.row 1 4 x)) f2) ap))
  | skip
end Go.Proofs.YtpejdgkaapnekaaGreat
