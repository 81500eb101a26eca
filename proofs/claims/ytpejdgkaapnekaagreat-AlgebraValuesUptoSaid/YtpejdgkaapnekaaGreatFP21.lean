import Derived.Test.YtpejdgkaapnekaaGreatFP20
set_option linter.unusedVariables false
set_option linter.unusedSimpArgs false
set_option maxHeartbeats 1000000
namespace Go.Proofs.YtpejdgkaapnekaaGreat
open Go Go.Abs
attribute [local irreducible] ao OkC aU bg aV bA
set_option maxRecDepth 10000
def aE(d : Int) : List D:=[.int .u32 d]
def cY(l : List Int) : D:=.sl 1 4 (l.map aE)
def bU(n : Nat) : D:=cY (dig n)
theorem xl{l : List Int}{p2 : List (List D)}{k j : Nat}(hr : p2 = (l.map aE).take k)(hk : k≤l.length)(hj : j < k) : p2[j]? = some (aE (at_ l j)):=by
 rw [hr,List.getElem?_take_of_lt hj]; exact aJ (by omega)
theorem Gu(l : List Int)(h : Dg l) : CallA Tryz.prog 374 [.one (.d (cY l))] [] (.one (.d (bU (aq l).toNat))) []:=by
 refine enter ab Tryz.func374 rfl (by decide +kernel) rfl fun hok w0 σ0 φ0 M=>?_
 have h1:=(OkD.sl hok.1).1
 clear hok
 simp only [List.length_map] at h1
 repeat' (first|(refine h6H ?_; first|(refine CO ?_; refine s_e aa J J J (mG J J J J J (by first|omega|((try simp only [a0A,a1A,a2A,a3A,a4A,a5A,a6A,a7A,a8A,a9A,au,av] at *); omega)) (by first|omega|((try simp only [a0A,a1A,a2A,a3A,a4A,a5A,a6A,a7A,a8A,a9A,au,av] at *); omega))) ?_)|(refine h3H ?_; refine s_e aa J J J (ar J J J J J (by first|omega|((try simp only [a0A,a1A,a2A,a3A,a4A,a5A,a6A,a7A,a8A,a9A,au,av] at *); omega)) (xl hr hk (by first|omega|((try simp only [a0A,a1A,a2A,a3A,a4A,a5A,a6A,a7A,a8A,a9A,au,av] at *); omega)))) ?_)|refine ac ?_|refine ah ab J J J J J ?_|(refine h0H ?_; first|refine aT J J (by first|assumption|rfl) ?_|refine bH J J (by first|assumption|rfl) J J ?_|refine bn J J J J (fun h=>?_) (fun h=>?_))|(refine fY ?_; refine s_e aa J J J (bW J J J J (aN (by omega) (by omega))) ?_)|(refine h2H ?_; first|refine s_e aa J J J (aF J J (by first|rfl|assumption) J) ?_|refine s_e aa J J J (az J J (by first|rfl|assumption) J) ?_))|(refine h7H ?_; first|refine al ?_|refine ae ?_|refine ay ?_|refine aw ?_|refine am ?_|refine aW ?_|refine bm J ?_|refine aA J (fun h=>?_) (fun h=>?_)|refine bk 1 J [] ap (fun (p : Nat×List (List D))=>[(0,.one (.d (.sl 1 4 p.2)))]) (fun (p : Nat×List (List D))=>p.1≤l.length∧p.2.length = p.1∧p.2 = (l.map aE).take p.1∧aq (l.take p.1) = aq l) (fun (p : Nat×List (List D))=>p.1) (l.length,l.map aE) (q1Q J) ?_ (fun p ⟨hk,hq,hr,hv⟩=>?_))|(show Exists _; refine Exists.intro ((p.1 - 1,p.2.take (Int.toNat ((p.2.length : Int) - 1)))) ⟨?_,?_,(by (repeat' first|exact ap|refine af J ?_); done),(q1Q J),ap⟩)|refine ak ?_|refine bd ?_|refine aG ?_|refine aX J ?_|refine ai (.inl J) J J ?_)
 ·exact ⟨Nat.le_refl _,by simp,(List.take_of_length_le (by simp)).symm,by simp⟩
 ·have e : ((p.2.length : Int) - 1).toNat = p.1 - 1:=by omega
  have h0 : (0 : Int) < (p.2.length : Int):=of_decide_eq_true ‹decide (_ < _) = true›
  have hz:=ub (l:=l) (k:=p.1 - 1) (by omega) (by rw [← e]; simpa using h)
  rw [show p.1 - 1 + 1 = p.1 by omega] at hz
  refine ⟨by show p.1 - 1≤_; omega,?_,?_,?_⟩
  ·show (p.2.take _).length = p.1 - 1
   rw [e]; simp; omega
  ·show p.2.take _ = (l.map aE).take (p.1 - 1)
   rw [e,hr,List.take_take,Nat.min_eq_left (by omega)]
  ·show aq (l.take (p.1 - 1)) = _
   rw [← hz,hv]
 ·have h0 : (0 : Int) < (p.2.length : Int):=of_decide_eq_true ‹decide (_ < _) = true›
  show p.1 - 1 < p.1
  omega
 ·have e : ((p.2.length : Int) - 1).toNat = p.1 - 1:=by omega
  show AV.one (.d (.sl 1 4 p.2)) = AV.one (.d (.sl 1 4 ((dig (aq l).toNat).map aE)))
  rw [wP ‹Dg l› hk hv (.inr (by rw [← e]; simpa using h)),hr,List.map_take]
 ·have h0 : ¬ (0 : Int) < (p.2.length : Int):=of_decide_eq_false (by simpa using h)
  show AV.one (.d (.sl 1 4 p.2)) = AV.one (.d (.sl 1 4 ((dig (aq l).toNat).map aE)))
  rw [wP ‹Dg l› hk hv (.inl (by omega)),hr,List.map_take]
theorem tL : dig 1 = [1]:=by rw [jT (by omega)]; simp [fw]
theorem LR(n : Nat) : CallA Tryz.prog 379 [.one (.d (bU n))] [] (.one (.d (.bool (n == 1)))) []:=by
 obtain ⟨hD,hv,hl⟩:=cP n
 refine enter ab Tryz.func379 rfl (by decide +kernel) rfl fun hok w0 σ0 φ0 M=>?_
 clear hok
 repeat' (first|(refine h6H ?_; first|refine ac ?_|refine ah ab J J J J J ?_|(refine h0H ?_; first|refine aT J J (by first|assumption|rfl) ?_|refine bH J J (by first|assumption|rfl) J J ?_|refine bn J J J J (fun h=>?_) (fun h=>?_))|(refine h2H ?_; first|refine s_e aa J J J (aF J J (by first|rfl|assumption) J) ?_|refine s_e aa J J J (az J J (by first|rfl|assumption) J) ?_)|(refine h3H ?_; refine s_e aa J J J (ar J J J J J (by first|omega|((try simp only [a0A,a1A,a2A,a3A,a4A,a5A,a6A,a7A,a8A,a9A,au,av] at *); omega)) (aJ (by first|omega|((try simp only [a0A,a1A,a2A,a3A,a4A,a5A,a6A,a7A,a8A,a9A,au,av] at *); omega)))) ?_))|(refine h7H ?_; first|refine al ?_|refine ae ?_|refine am ?_)|refine ak ?_|refine ai (.inl J) J J ?_)
 ·have hlen : (dig n).length = 1:=by simp at h; omega
  match hd : dig n,hlen with
  | [d],_ =>
    rw [hd] at hv
    simp only [aq] at hv
    show AV.one (.d (.bool (d == 1))) = _
    have e : (d == 1) = (n == 1):=by
     rw [Bool.eq_iff_iff]; simp only [beq_iff_eq]; omega
    rw [e]
 ·have hlen : (dig n).length≠1:=fun e=>by simp [e] at h
  have e : (n == 1) = false:=by
   refine beq_false_of_ne fun hn=>hlen ?_
   rw [hn,tL]; rfl
  rw [e]
theorem l5{m n : Nat}(h : (dig m).length < (dig n).length) : m < n:=by
 obtain ⟨a1,a2,a3⟩:=cP m
 obtain ⟨b1,b2,b3⟩:=cP n
 have:=wR a1 b1 b3 h
 omega
theorem zi{m n : Nat}{k : Nat}(hl : (dig m).length = (dig n).length)(hk : k < (dig m).length)(he : ∀ i,k < i→i < (dig m).length→at_ (dig m) i = at_ (dig n) i)(h : at_ (dig m) k < at_ (dig n) k) : m < n:=by
 obtain ⟨a1,a2,a3⟩:=cP m
 obtain ⟨b1,b2,b3⟩:=cP n
 have:=yU a1 b1 hl hk he h
 omega
theorem D6{m n : Nat}(hl : (dig m).length = (dig n).length)(he : ∀ i,i < (dig m).length→at_ (dig m) i = at_ (dig n) i) : m = n:=by
 have e : dig m = dig n:=List.ext_getElem hl fun i h1 h2=>by
  have:=he i h1
  simpa [at_,h1,h2] using this
 have a:=(cP m).2.1
 have b:=(cP n).2.1
 rw [e] at a
 omega
def gR(m n : Nat) : Int:=if m < n then -1 else if n < m then 1 else 0
theorem hJ{m n : Nat}(h : m < n) : gR m n = -1:=if_pos h
theorem hU{m n : Nat}(h : n < m) : gR m n = 1:=by unfold gR; rw [if_neg (by omega),if_pos h]
theorem jK{m n : Nat}(h : m = n) : gR m n = 0:=by unfold gR; rw [if_neg (by omega),if_neg (by omega)]
theorem mW{a b : List Int}(h : (((a.map aE).length : Int) != ((b.map aE).length : Int)) = false) : a.length = b.length:=by simp at h; omega
theorem Ci{a b : List Int}(h : (((a.map aE).length : Int) != ((b.map aE).length : Int)) = true) : a.length≠b.length:=fun e=>by simp [e] at h
theorem Ch{a b : List Int}(h : decide (((a.map aE).length : Int) < ((b.map aE).length : Int)) = true) : a.length < b.length:=by simpa using h
theorem Cj{a b : List Int}(h : decide (((a.map aE).length : Int) < ((b.map aE).length : Int)) = false) : b.length≤a.length:=by simpa using h
theorem ta(m n : Nat) : CallA Tryz.prog 369 [.one (.d (bU m)),.one (.d (bU n))] [] (.one (.d (.int .i64 (gR m n)))) []:=by
 refine enter ab Tryz.func369 rfl (by decide +kernel) rfl fun hok w0 σ0 φ0 M=>?_
 have h1:=(OkD.sl hok.1).1
 clear hok
 simp only [List.length_map] at h1
 repeat' (first|(refine h6H ?_; first|refine ac ?_|refine ah ab J J J J J ?_|(refine fY ?_; first|refine s_e aa J J J (bW J J J J (aN (by omega) (by omega))) ?_|refine s_e aa J J J (bW J J J J (aN (by first|omega|((try simp only [a0A,a1A,a2A,a3A,a4A,a5A,a6A,a7A,a8A,a9A,au,av] at *); omega)) (by first|omega|((try simp only [a0A,a1A,a2A,a3A,a4A,a5A,a6A,a7A,a8A,a9A,au,av] at *); omega)))) ?_))|(refine h7H ?_; first|refine al ?_|refine ae ?_|refine ay ?_|refine aw ?_|refine am ?_|refine aW ?_|refine aA J (fun h=>?_) (fun h=>?_)|refine aR progOk.mo ?_|refine bk 6 J [(0,_),(1,_)] (q2Q J J) (fun (p : Int)=>[(5,.one (.d (.int .i64 p)))]) (fun (p : Int)=>-1≤p∧p < ((dig m).length : Int)∧(∀ i : Nat,p < (i : Int)→i < (dig m).length→at_ (dig m) i = at_ (dig n) i)) (fun (p : Int)=>(p + 1).toNat) ((((dig m).map aE).length : Int) - 1) (q1Q J) ?_ (fun p ⟨hk,hk2,hs⟩=>?_))|(refine bP ?_; first|refine bG (by kernel_rfl) ?_|refine d_e aa J J J (aK J J) ?_|(refine h8H ?_; refine d_e aa J J J (ar J J J J J (by first|omega|((try simp only [a0A,a1A,a2A,a3A,a4A,a5A,a6A,a7A,a8A,a9A,au,av] at *); omega)) (aJ (by first|omega|((try simp only [a0A,a1A,a2A,a3A,a4A,a5A,a6A,a7A,a8A,a9A,au,av] at *); omega)))) ?_))|(show Exists _; refine Exists.intro ((p - 1)) ⟨?_,?_,(by (repeat' first|exact ap|refine af J ?_); done),(q1Q J),(q2Q J J)⟩)|refine ak ?_|refine aC ?_|refine bd ?_|refine aG ?_|refine aP ?_|refine aX J ?_|refine ai (.inl J) J J ?_)
 ·rw [hJ (l5 (Ch h))]
 ·rw [hU (l5 (by
   have h2:=Ci ‹_›
   have:=Cj h; omega))]
 ·simp only [List.length_map]; exact ⟨by omega,by omega,fun i h2 h3=>by omega⟩
 ·have hl:=mW ‹_›
  have h0 : 0≤p:=of_decide_eq_true ‹decide (0≤p) = true›
  rw [hJ (zi hl (k:=p.toNat) (by omega) (fun i h2 h3=>hs i (by omega) h3) (of_decide_eq_true h))]
 ·have hl:=mW ‹_›
  have h0 : 0≤p:=of_decide_eq_true ‹decide (0≤p) = true›
  have hne : at_ (dig m) p.toNat≠at_ (dig n) p.toNat:=by simpa using ‹(at_ (dig m) p.toNat != at_ (dig n) p.toNat) = true›
  have hle:=of_decide_eq_false h
  rw [hU (zi hl.symm (k:=p.toNat) (by omega) (fun i h2 h3=>(hs i (by omega) (by omega)).symm) (by omega))]
 ·have h0 : 0≤p:=of_decide_eq_true ‹decide (0≤p) = true›
  have he : at_ (dig m) p.toNat = at_ (dig n) p.toNat:=by simpa using h
  refine ⟨by omega,by omega,fun i h2 h3=>?_⟩
  rcases Int.lt_or_le p (i : Int) with h4 | h4
  ·exact hs i h4 h3
  ·have : i = p.toNat:=by omega
   rw [this,he]
 ·have h0 : 0≤p:=of_decide_eq_true ‹decide (0≤p) = true›
  omega
 ·have hl:=mW ‹_›
  have h0 : ¬ 0≤p:=of_decide_eq_false h
  rw [jK (D6 hl fun i h3=>hs i (by omega) h3)]
end Go.Proofs.YtpejdgkaapnekaaGreat
namespace Go.Proofs.YtpejdgkaapnekaaGreat
open Go Go.Abs
attribute [local irreducible] ao OkC aU bg aV bA
set_option maxRecDepth 10000
def Ev(a b : Int) : AV:=.tup [(false,[.d (.int .u32 a)]),(false,[.d (.int .u32 b)])]
theorem ip(v : Int) : IntKind.u32.wrap v = v % 4294967296:=rfl
theorem wg(v : Int) : v.fdiv (2 ^ min (Int.toNat 32) IntKind.u64.bits) = v / 4294967296:=Int.fdiv_eq_ediv_of_nonneg v (by decide)
theorem JQ(v : Int) : v.fdiv (2 ^ min (Int.toNat 31) IntKind.u32.bits) = v / 2147483648:=Int.fdiv_eq_ediv_of_nonneg v (by decide)
theorem bkm(v : BitVec IntKind.u32.bits) : BitVec.ofInt IntKind.u32.bits ((v.toNat : Int) % 4294967296) = v:=by
 have h : v.toNat < 4294967296:=v.isLt
 rw [show ((v.toNat : Int) % 4294967296) = (v.toNat : Int) by omega,BitVec.ofInt_natCast,BitVec.ofNat_toNat,BitVec.setWidth_eq]
theorem JR(v : BitVec 32) : (v.toNat : Int) % 4294967296 / 2147483648 = if v.msb = true then 1 else 0:=by
 have h : v.toNat < 4294967296:=v.isLt
 rw [BitVec.msb_eq_decide]
 split
 ·rename_i h2
  have:=of_decide_eq_true h2
  simp at this; omega
 ·rename_i h2
  have : ¬ _:=fun hh=>h2 (decide_eq_true hh)
  simp at this; omega
theorem BF{x : Int}(hx : 0≤x∧x < 4294967296) : ((BitVec.ofInt 32 x).toNat : Int) = x:=by
 rw [BitVec.toNat_ofInt]; simp; omega
theorem te{x : Int}(hx : 0≤x∧x < 4294967296) : (BitVec.ofInt 32 x).msb = decide (2147483648≤x):=by
 have h:=BF hx
 rw [BitVec.msb_eq_decide,Bool.eq_iff_iff]
 simp only [decide_eq_true_eq]
 simp
 omega
theorem yi(X Y E : BitVec 32) : (((((BitVec.ofInt 32 4294967295 ^^^ X) &&& Y) ||| ((BitVec.ofInt 32 4294967295 ^^^ (X ^^^ Y)) &&& E)).toNat : Int)) % 4294967296 / 2147483648 = if ((!X.msb && Y.msb) || (!(X.msb ^^ Y.msb) && E.msb)) = true then 1 else 0:=by
 rw [JR]
 have h : (BitVec.ofInt 32 4294967295).msb = true:=by decide
 simp only [BitVec.msb_or,BitVec.msb_and,BitVec.msb_xor,h,Bool.true_xor]
theorem wt(x y c : Int)(hx : 0≤x∧x < 4294967296)(hy : 0≤y∧y < 4294967296)(hc : 0≤c∧c≤1) : CallA Tryz.prog 376 [.one (.d (.int .u32 x)),.one (.d (.int .u32 y)),.one (.d (.int .u32 c))] [] (Ev ((x + y + c) % 4294967296) ((x + y + c) / 4294967296)) []:=by
 refine enter ab Tryz.func376 rfl (by decide +kernel) rfl fun hok w0 σ0 φ0 M=>?_
 clear hok
 repeat' (first|(refine h6H ?_; first|refine ac ?_|refine ah ab J J J J J ?_|(refine h1H ?_; refine s_e aa J J J (aL J J J J (cJ (by omega) (by omega))) ?_)|(refine fH ?_; first|refine s_e aa J J J (c7 J J J J (cJ (by omega) (by omega))) ?_|refine dk ab J J J J ?_)|refine s_e aa J J J J ?_)|(refine h7H ?_; first|refine al ?_|refine ae ?_|refine am ?_)|refine ak ?_|refine ai (.inl J) J J ?_)
 rw [ip,ip,wg,show (x + y + c) / 4294967296 % 4294967296 = (x + y + c) / 4294967296 by omega]
 rfl
theorem zP(x y c : Int)(hx : 0≤x∧x < 4294967296)(hy : 0≤y∧y < 4294967296)(hc : 0≤c∧c≤1) : CallA Tryz.prog 384 [.one (.d (.int .u32 x)),.one (.d (.int .u32 y)),.one (.d (.int .u32 c))] [] (Ev ((x - y - c) % 4294967296) (if x < y + c then 1 else 0)) []:=by
 refine enter ab Tryz.func384 rfl (by decide +kernel) rfl fun hok w0 σ0 φ0 M=>?_
 clear hok
 repeat' (first|(refine h6H ?_; first|refine ac ?_|refine ah ab J J J J J ?_|(refine fY ?_; refine dk ab J J J J ?_)|refine s_e aa J J J J ?_)|(refine h7H ?_; first|refine al ?_|refine ae ?_|refine am ?_)|refine ak ?_|refine ai (.inl J) J J ?_)
 simp only [ip,JQ,bkm]
 have hd : (((x - y) % 4294967296 - c) % 4294967296) = (x - y - c) % 4294967296:=by omega
 rw [hd]
 have hb:=yi (BitVec.ofInt 32 x) (BitVec.ofInt 32 y) (BitVec.ofInt 32 ((x - y - c) % 4294967296))
 rw [te hx,te hy,te (by omega)] at hb
 refine congrArg (fun b=>AV.tup [(false,[.d (.int .u32 ((x - y - c) % 4294967296))]),(false,[.d (.int .u32 b)])]) (hb.trans ?_)
 by_cases h1 : 2147483648≤x <;> by_cases h2 : 2147483648≤y <;> by_cases h3 : 2147483648≤(x - y - c) % 4294967296 <;> by_cases h4 : x < y + c <;> simp [h1,h2,h3,h4] <;> omega
theorem lO(ys : List (List D))(l : List Int)(m : Nat)(hy : ys = l.map aE)(h : Dg l)(hm : (aq l).toNat = m) : CallA Tryz.prog 374 [.one (.d (.sl 1 4 ys))] [] (.one (.d (bU m))) []:=by
 subst hy; subst hm; exact Gu l h
theorem Gz{a b : Int}(ha : 0≤a∧a < 4294967296)(hb : 0≤b∧b < 4294967296) : Dg [a,b]:=fun d hd=>by
 rcases List.mem_cons.1 hd with rfl | hd
 ·exact ha
 ·rw [List.mem_singleton.1 hd]; exact hb
theorem Gs(n : Nat)(hn : n < 18446744073709551616) : CallA Tryz.prog 370 [.one (.d (.int .u64 n))] [] (.one (.d (bU n))) []:=by
 have hD : Dg [IntKind.u32.wrap (n : Int),IntKind.u32.wrap ((n : Int).fdiv (2 ^ min (Int.toNat 32) IntKind.u64.bits))]:=Gz (by rw [ip]; omega) (by rw [ip]; omega)
 have hN : (aq [IntKind.u32.wrap (n : Int),IntKind.u32.wrap ((n : Int).fdiv (2 ^ min (Int.toNat 32) IntKind.u64.bits))]).toNat = n:=by
  simp only [aq,ip,wg]; omega
 refine enter ab Tryz.func370 rfl (by decide +kernel) rfl fun hok w0 σ0 φ0 M=>?_
 clear hok
 repeat' (first|(refine h6H ?_; first|(refine h4H ?_; refine dL 16 [0] J J J J J J J J J (lO _ [IntKind.u32.wrap (n : Int),IntKind.u32.wrap ((n : Int).fdiv (2 ^ min (Int.toNat 32) IntKind.u64.bits))] n J hD hN) J J J ?_)|refine ac ?_|refine ah ab J J J J J ?_|(refine fH ?_; refine dk ab J J J J ?_)|refine s_e aa J J J J ?_|refine cj aa 0 J J J J J J ?_)|(refine h7H ?_; first|refine al ?_|refine ae ?_|refine am ?_)|refine ak ?_|refine ai (.inl J) J J ?_)
 all_goals rfl
theorem BG{X Y L : List Int}{k : Nat}{c : Int}(hX : k < X.length)(hL : k < L.length)(h : aq (L.take k) + pw k * c = aq (X.take k) + aq (Y.take k)) :
  aq ((L.set k ((at_ X k + at_ Y k + c) % 4294967296)).take (k + 1)) + pw (k + 1) * ((at_ X k + at_ Y k + c) / 4294967296) = aq (X.take (k + 1)) + aq (Y.take (k + 1)):=by
 have hs : k < (L.set k ((at_ X k + at_ Y k + c) % 4294967296)).length:=by simpa using hL
 rw [bV hs,bV hX,List.take_set_of_le (Nat.le_refl _),dx]
 have e1 : at_ (L.set k ((at_ X k + at_ Y k + c) % 4294967296)) k = (at_ X k + at_ Y k + c) % 4294967296:=by simp [at_,hL]
 have e2 : aq (Y.take (k + 1)) = aq (Y.take k) + pw k * at_ Y k:=by
  by_cases hY : k < Y.length
  ·exact bV hY
  ·have : at_ Y k = 0:=by simp [at_,List.getD_eq_getElem?_getD,List.getElem?_eq_none (Nat.le_of_not_lt hY)]
   rw [this,List.take_of_length_le (by omega),List.take_of_length_le (by omega)]; simp
 rw [e1,e2]
 have e3 : (at_ X k + at_ Y k + c) % 4294967296 + 4294967296 * ((at_ X k + at_ Y k + c) / 4294967296) = at_ X k + at_ Y k + c:=by omega
 generalize (at_ X k + at_ Y k + c) % 4294967296 = r at e3 ⊢
 generalize (at_ X k + at_ Y k + c) / 4294967296 = q at e3 ⊢
 have e4 : pw k * r + 4294967296 * pw k * q = pw k * (at_ X k + at_ Y k + c):=by
  rw [← e3,Int.mul_add,Int.mul_comm 4294967296 (pw k),Int.mul_assoc]
 simp only [Int.mul_add] at e4 h ⊢
 omega
theorem iz{l : List Int}{k : Nat}(h : l.length≤k) : at_ l k = 0:=by simp [at_,List.getD_eq_getElem?_getD,List.getElem?_eq_none h]
theorem nF{X Y L : List Int}{k : Nat}{c b : Int}{R : List (List D)}(hX : Dg X)(hlt : k < X.length)(hb : at_ Y k = b)(hb2 : 0≤b∧b < 4294967296)(hr : R = L.map aE)(hl2 : R.length = X.length + 1)(hL : Dg L)(hc : 0≤c∧c≤1)
  (hv : aq (L.take k) + pw k * c = aq (X.take k) + aq (Y.take k)) :
  k + 1≤X.length∧R.set k [.int .u32 ((at_ X k + b + c) % 4294967296)] = (L.set k ((at_ X k + b + c) % 4294967296)).map aE∧(R.set k [.int .u32 ((at_ X k + b + c) % 4294967296)]).length = X.length + 1∧Dg (L.set k ((at_ X k + b + c) % 4294967296)) ∧
  (0≤(at_ X k + b + c) / 4294967296∧(at_ X k + b + c) / 4294967296≤1)∧aq ((L.set k ((at_ X k + b + c) % 4294967296)).take (k + 1)) + pw (k + 1) * ((at_ X k + b + c) / 4294967296) = aq (X.take (k + 1)) + aq (Y.take (k + 1)):=by
 have hLl : L.length = X.length + 1:=by rw [hr] at hl2; simpa using hl2
 have h1:=hX.at hlt
 subst hb
 refine ⟨hlt,?_,by simpa using hl2,hL.set (by omega),by omega,BG hlt (by omega) hv⟩
 rw [hr,List.map_set]; rfl
theorem yK{X L : List Int}{c : Int}{R : List (List D)}(hr : R = L.map aE)(hl2 : R.length = X.length + 1) : (R.set (((X.map aE).length : Int).toNat) [.int .u32 c]).take (X.length + 1) = (L.set X.length c).map aE:=by
 rw [List.take_of_length_le (by simp; omega),List.length_map,Int.toNat_natCast,hr,List.map_set]; rfl
theorem pF{X Y L : List Int}{k : Nat}{c : Int}(hk : X.length≤k)(hk2 : k≤X.length)(hxy : Y.length≤X.length)(hLl : L.length = X.length + 1)(hL : Dg L)(hc : 0≤c∧c≤1)(hv : aq (L.take k) + pw k * c = aq (X.take k) + aq (Y.take k)) :
  Dg (L.set X.length c)∧(aq (L.set X.length c)).toNat = (aq X + aq Y).toNat:=by
 have e : k = X.length:=by omega
 subst e
 refine ⟨hL.set (by omega),?_⟩
 have hs : X.length < (L.set X.length c).length:=by simp; omega
 have h1:=bV hs
 rw [List.take_of_length_le (by simp; omega),List.take_set_of_le (Nat.le_refl _)] at h1
 have e1 : at_ (L.set X.length c) X.length = c:=by simp [at_,hLl]
 rw [e1,hv,List.take_of_length_le (Nat.le_refl _),List.take_of_length_le hxy] at h1
 rw [h1]
theorem Id(X Y : List Int)(hX : Dg X)(hY : Dg Y)(hn : X.length≤400)(hxy : Y.length≤X.length) : CallA Tryz.prog 356 [.one (.d (cY X)),.one (.d (cY Y))] [] (.one (.d (bU (aq X + aq Y).toNat))) []:=by
 have zr : (0 : Int)≤0∧(0 : Int) < 4294967296:=⟨by omega,by omega⟩
 have hsw : decide (((X.map aE).length : Int) < ((Y.map aE).length : Int)) = false:=by simpa using hxy
 refine enter ab Tryz.func356 rfl (by decide +kernel) rfl fun hok w0 σ0 φ0 M=>?_
 clear hok
 repeat' (first|(refine h6H ?_; first|(refine ma ?_; refine cj aa 10 J J J (cK (n:=X.length + 1) J J J J J (by simp) (by simp) (by omega) (Nat.le_of_ble_eq_true J)) J J ?_)|(refine h4H ?_; refine dL 40 [10] J J J J J J J J J (lO _ (p.2.2.1.set X.length p.2.1) _ (yK hr hl2) (pF (by simpa using h) hk hxy (by rw [hr] at hl2; simpa using hl2) hL hc hv).1 (pF (by simpa using h) hk hxy (by rw [hr] at hl2; simpa using hl2) hL hc hv).2) J J J ?_)|refine ac ?_|refine ah ab J J J J J ?_|(refine h1H ?_; first|refine s_e aa J J J (aL J J J J (aN (by omega) (by omega))) ?_|refine s_e aa J J J (aL J J J J (aN (by first|omega|((try simp only [a0A,a1A,a2A,a3A,a4A,a5A,a6A,a7A,a8A,a9A,au,av] at *); omega)) (by first|omega|((try simp only [a0A,a1A,a2A,a3A,a4A,a5A,a6A,a7A,a8A,a9A,au,av] at *); omega)))) ?_)|(refine h3H ?_; first|refine s_e aa J J J (b4 J J J J J J (by omega) (by omega)) ?_|refine s_e aa J J J (b4 J J J J J J (by first|omega|((try simp only [a0A,a1A,a2A,a3A,a4A,a5A,a6A,a7A,a8A,a9A,au,av] at *); omega)) (by first|omega|((try simp only [a0A,a1A,a2A,a3A,a4A,a5A,a6A,a7A,a8A,a9A,au,av] at *); omega))) ?_|refine s_e aa J J J (ar J J J J J (by first|omega|((try simp only [a0A,a1A,a2A,a3A,a4A,a5A,a6A,a7A,a8A,a9A,au,av] at *); omega)) (aJ (by first|omega|((try simp only [a0A,a1A,a2A,a3A,a4A,a5A,a6A,a7A,a8A,a9A,au,av] at *); omega)))) ?_)|(refine h4H ?_; first|refine ag J J J J J J J J (wt _ _ _ (hX.at (by first|omega|((try simp only [a0A,a1A,a2A,a3A,a4A,a5A,a6A,a7A,a8A,a9A,au,av] at *); omega))) (hY.at (by first|omega|((try simp only [a0A,a1A,a2A,a3A,a4A,a5A,a6A,a7A,a8A,a9A,au,av] at *); omega))) hc) J ?_|refine ag J J J J J J J J (wt _ _ _ (hX.at (by first|omega|((try simp only [a0A,a1A,a2A,a3A,a4A,a5A,a6A,a7A,a8A,a9A,au,av] at *); omega))) zr hc) J ?_)|refine aI aa J J (bO J J J J J J J J J (cg (by assumption) (by omega)) J) ?_|refine aI aa J J (bO J J J J J J J J J (cg (by assumption) (by first|omega|((try simp only [a0A,a1A,a2A,a3A,a4A,a5A,a6A,a7A,a8A,a9A,au,av] at *); omega))) J) ?_)|(refine h7H ?_; first|refine al ?_|refine ae ?_|refine ay ?_|refine aw ?_|refine am ?_|refine aW ?_|refine aZ J (by assumption) ?_|refine aA J (fun h=>?_) (fun h=>?_)|refine cR 6 J [(0,_),(1,_),(5,_),(21,_)] (q4Q J J J J) (fun (p : Nat×Int×List Int×List (List D))=>[(22,.one (.d (.int .i64 (p.1 : Int)))),(6,.one (.d (.int .u32 p.2.1)))]) (fun (p : Nat×Int×List Int×List (List D))=>[(10,.row 1 4 p.2.2.2)]) (fun (p : Nat×Int×List Int×List (List D))=>p.1≤X.length∧p.2.2.2 = p.2.2.1.map aE∧p.2.2.2.length = X.length + 1∧Dg p.2.2.1∧(0≤p.2.1∧p.2.1≤1)∧aq (p.2.2.1.take p.1) + pw p.1 * p.2.1 = aq (X.take p.1) + aq (Y.take p.1)) (fun (p : Nat×Int×List Int×List (List D))=>X.length - p.1) (0,0,List.replicate (X.length + 1) 0,List.replicate (X.length + 1) [.int .u32 0]) (q2Q J J) (by first|(repeat' first|exact ap|refine af J ?_) <;> fail) ?_ (fun p ⟨hk,hr,hl2,hL,hc,hv⟩=>?_))|(show Exists _; first|refine Exists.intro ((p.1 + 1,(at_ X p.1 + at_ Y p.1 + p.2.1) / 4294967296,p.2.2.1.set p.1 ((at_ X p.1 + at_ Y p.1 + p.2.1) % 4294967296),p.2.2.2.set p.1 [.int .u32 ((at_ X p.1 + at_ Y p.1 + p.2.1) % 4294967296)])) ⟨?_,?_,(by first|(repeat' first|exact ap|refine af J ?_) <;> fail),(q2Q J J),(q4Q J J J J)⟩|refine Exists.intro ((p.1 + 1,(at_ X p.1 + 0 + p.2.1) / 4294967296,p.2.2.1.set p.1 ((at_ X p.1 + 0 + p.2.1) % 4294967296),p.2.2.2.set p.1 [.int .u32 ((at_ X p.1 + 0 + p.2.1) % 4294967296)])) ⟨?_,?_,(by first|(repeat' first|exact ap|refine af J ?_) <;> fail),(q2Q J J),(q4Q J J J J)⟩)|refine ak ?_|refine bd ?_|refine aG ?_|refine aX J ?_|refine ai (.inl J) J J ?_)
 ·exact ⟨Nat.zero_le _,by simp [aE],by simp,Dg.zeros _,⟨Int.le_refl _,Int.zero_le_ofNat 1⟩,by simp [aq]⟩
 ·exact nF hX (by simpa using ‹decide ((p.1 : Int) < ((X.map aE).length : Int)) = true›) rfl (hY.at (by simpa using h)) hr hl2 hL hc hv
 ·have hlt : p.1 < X.length:=by simpa using ‹decide ((p.1 : Int) < ((X.map aE).length : Int)) = true›
  show X.length - (p.1 + 1) < X.length - p.1
  omega
 ·exact nF hX (by simpa using ‹decide ((p.1 : Int) < ((X.map aE).length : Int)) = true›) (iz (by simpa using h)) zr hr hl2 hL hc hv
 ·have hlt : p.1 < X.length:=by simpa using ‹decide ((p.1 : Int) < ((X.map aE).length : Int)) = true›
  show X.length - (p.1 + 1) < X.length - p.1
  omega
 ·rfl
theorem Ie(X Y : List Int)(hY : Dg Y)(hX : Dg X)(hn : Y.length≤400)(hlt0 : X.length < Y.length) : CallA Tryz.prog 356 [.one (.d (cY X)),.one (.d (cY Y))] [] (.one (.d (bU (aq Y + aq X).toNat))) []:=by
 have zr : (0 : Int)≤0∧(0 : Int) < 4294967296:=⟨by omega,by omega⟩
 have hxy : X.length≤Y.length:=by omega
 have hsw : decide (((X.map aE).length : Int) < ((Y.map aE).length : Int)) = true:=by simpa using hlt0
 refine enter ab Tryz.func356 rfl (by decide +kernel) rfl fun hok w0 σ0 φ0 M=>?_
 clear hok
 repeat' (first|(refine h6H ?_; first|(refine ma ?_; refine cj aa 10 J J J (cK (n:=Y.length + 1) J J J J J (by simp) (by simp) (by omega) (Nat.le_of_ble_eq_true J)) J J ?_)|(refine h4H ?_; refine dL 40 [10] J J J J J J J J J (lO _ (p.2.2.1.set Y.length p.2.1) _ (yK hr hl2) (pF (by simpa using h) hk hxy (by rw [hr] at hl2; simpa using hl2) hL hc hv).1 (pF (by simpa using h) hk hxy (by rw [hr] at hl2; simpa using hl2) hL hc hv).2) J J J ?_)|refine ac ?_|refine ah ab J J J J J ?_|(refine h1H ?_; first|refine s_e aa J J J (aL J J J J (aN (by omega) (by omega))) ?_|refine s_e aa J J J (aL J J J J (aN (by first|omega|((try simp only [a0A,a1A,a2A,a3A,a4A,a5A,a6A,a7A,a8A,a9A,au,av] at *); omega)) (by first|omega|((try simp only [a0A,a1A,a2A,a3A,a4A,a5A,a6A,a7A,a8A,a9A,au,av] at *); omega)))) ?_)|(refine h3H ?_; first|refine s_e aa J J J (b4 J J J J J J (by omega) (by omega)) ?_|refine s_e aa J J J (b4 J J J J J J (by first|omega|((try simp only [a0A,a1A,a2A,a3A,a4A,a5A,a6A,a7A,a8A,a9A,au,av] at *); omega)) (by first|omega|((try simp only [a0A,a1A,a2A,a3A,a4A,a5A,a6A,a7A,a8A,a9A,au,av] at *); omega))) ?_|refine s_e aa J J J (ar J J J J J (by first|omega|((try simp only [a0A,a1A,a2A,a3A,a4A,a5A,a6A,a7A,a8A,a9A,au,av] at *); omega)) (aJ (by first|omega|((try simp only [a0A,a1A,a2A,a3A,a4A,a5A,a6A,a7A,a8A,a9A,au,av] at *); omega)))) ?_)|(refine h4H ?_; first|refine ag J J J J J J J J (wt _ _ _ (hY.at (by first|omega|((try simp only [a0A,a1A,a2A,a3A,a4A,a5A,a6A,a7A,a8A,a9A,au,av] at *); omega))) (hX.at (by first|omega|((try simp only [a0A,a1A,a2A,a3A,a4A,a5A,a6A,a7A,a8A,a9A,au,av] at *); omega))) hc) J ?_|refine ag J J J J J J J J (wt _ _ _ (hY.at (by first|omega|((try simp only [a0A,a1A,a2A,a3A,a4A,a5A,a6A,a7A,a8A,a9A,au,av] at *); omega))) zr hc) J ?_)|refine aI aa J J (bO J J J J J J J J J (cg (by assumption) (by omega)) J) ?_|refine aI aa J J (bO J J J J J J J J J (cg (by assumption) (by first|omega|((try simp only [a0A,a1A,a2A,a3A,a4A,a5A,a6A,a7A,a8A,a9A,au,av] at *); omega))) J) ?_)|(refine h7H ?_; first|refine al ?_|refine ae ?_|refine ay ?_|refine aw ?_|refine am ?_|refine aW ?_|refine bv J (by assumption) ?_|refine aA J (fun h=>?_) (fun h=>?_)|refine cR 6 J [(0,_),(1,_),(5,_),(21,_)] (q4Q J J J J) (fun (p : Nat×Int×List Int×List (List D))=>[(22,.one (.d (.int .i64 (p.1 : Int)))),(6,.one (.d (.int .u32 p.2.1)))]) (fun (p : Nat×Int×List Int×List (List D))=>[(10,.row 1 4 p.2.2.2)]) (fun (p : Nat×Int×List Int×List (List D))=>p.1≤Y.length∧p.2.2.2 = p.2.2.1.map aE∧p.2.2.2.length = Y.length + 1∧Dg p.2.2.1∧(0≤p.2.1∧p.2.1≤1)∧aq (p.2.2.1.take p.1) + pw p.1 * p.2.1 = aq (Y.take p.1) + aq (X.take p.1)) (fun (p : Nat×Int×List Int×List (List D))=>Y.length - p.1) (0,0,List.replicate (Y.length + 1) 0,List.replicate (Y.length + 1) [.int .u32 0]) (q2Q J J) (by first|(repeat' first|exact ap|refine af J ?_) <;> fail) ?_ (fun p ⟨hk,hr,hl2,hL,hc,hv⟩=>?_))|(show Exists _; first|refine Exists.intro ((p.1 + 1,(at_ Y p.1 + at_ X p.1 + p.2.1) / 4294967296,p.2.2.1.set p.1 ((at_ Y p.1 + at_ X p.1 + p.2.1) % 4294967296),p.2.2.2.set p.1 [.int .u32 ((at_ Y p.1 + at_ X p.1 + p.2.1) % 4294967296)])) ⟨?_,?_,(by first|(repeat' first|exact ap|refine af J ?_) <;> fail),(q2Q J J),(q4Q J J J J)⟩|refine Exists.intro ((p.1 + 1,(at_ Y p.1 + 0 + p.2.1) / 4294967296,p.2.2.1.set p.1 ((at_ Y p.1 + 0 + p.2.1) % 4294967296),p.2.2.2.set p.1 [.int .u32 ((at_ Y p.1 + 0 + p.2.1) % 4294967296)])) ⟨?_,?_,(by first|(repeat' first|exact ap|refine af J ?_) <;> fail),(q2Q J J),(q4Q J J J J)⟩)|refine ak ?_|refine bd ?_|refine aG ?_|refine aX J ?_|refine ai (.inl J) J J ?_)
 ·exact ⟨Nat.zero_le _,by simp [aE],by simp,Dg.zeros _,⟨Int.le_refl _,Int.zero_le_ofNat 1⟩,by simp [aq]⟩
 ·exact nF hY (by simpa using ‹decide ((p.1 : Int) < ((Y.map aE).length : Int)) = true›) rfl (hX.at (by simpa using h)) hr hl2 hL hc hv
 ·have hlt : p.1 < Y.length:=by simpa using ‹decide ((p.1 : Int) < ((Y.map aE).length : Int)) = true›
  show Y.length - (p.1 + 1) < Y.length - p.1
  omega
 ·exact nF hY (by simpa using ‹decide ((p.1 : Int) < ((Y.map aE).length : Int)) = true›) (iz (by simpa using h)) zr hr hl2 hL hc hv
 ·have hlt : p.1 < Y.length:=by simpa using ‹decide ((p.1 : Int) < ((Y.map aE).length : Int)) = true›
  show Y.length - (p.1 + 1) < Y.length - p.1
  omega
 ·rfl
theorem GA(m n : Nat)(hm : (dig m).length≤400)(hn : (dig n).length≤400) : CallA Tryz.prog 356 [.one (.d (bU m)),.one (.d (bU n))] [] (.one (.d (bU (m + n)))) []:=by
 obtain ⟨a1,a2,a3⟩:=cP m
 obtain ⟨b1,b2,b3⟩:=cP n
 rcases Nat.lt_or_ge (dig m).length (dig n).length with h | h
 ·have:=Ie (dig m) (dig n) b1 a1 hn h
  rwa [a2,b2,show ((n : Int) + (m : Int)).toNat = m + n by omega] at this
 ·have:=Id (dig m) (dig n) a1 b1 hm h
  rwa [a2,b2,show ((m : Int) + (n : Int)).toNat = m + n by omega] at this
end Go.Proofs.YtpejdgkaapnekaaGreat
namespace Go.Proofs.YtpejdgkaapnekaaGreat
open Go Go.Abs
attribute [local irreducible] ao OkC aU bg aV bA
set_option maxRecDepth 10000
theorem xW{X Y L : List Int}{k : Nat}{c b : Int}{R : List (List D)}(hX : Dg X)(hlt : k < X.length)(hb : at_ Y k = b)(hb2 : 0≤b∧b < 4294967296)(hr : R = L.map aE)(hl2 : R.length = X.length)(hL : Dg L)(hc : 0≤c∧c≤1)
  (hv : aq (L.take k) = aq (X.take k) - aq (Y.take k) + pw k * c) :
  k + 1≤X.length∧R.set k [.int .u32 ((at_ X k - b - c) % 4294967296)] = (L.set k ((at_ X k - b - c) % 4294967296)).map aE∧(R.set k [.int .u32 ((at_ X k - b - c) % 4294967296)]).length = X.length∧Dg (L.set k ((at_ X k - b - c) % 4294967296)) ∧
  (0≤(if at_ X k < b + c then (1 : Int) else 0)∧(if at_ X k < b + c then (1 : Int) else 0)≤1)∧aq ((L.set k ((at_ X k - b - c) % 4294967296)).take (k + 1)) = aq (X.take (k + 1)) - aq (Y.take (k + 1)) + pw (k + 1) * (if at_ X k < b + c then (1 : Int) else 0):=by
 have hLl : L.length = X.length:=by rw [hr] at hl2; simpa using hl2
 have h1:=hX.at hlt
 subst hb
 refine ⟨hlt,?_,by simpa using hl2,hL.set (by omega),by split <;> omega,?_⟩
 ·rw [hr,List.map_set]; rfl
 have hs : k < (L.set k ((at_ X k - at_ Y k - c) % 4294967296)).length:=by simp; omega
 have hLk : k < L.length:=by omega
 rw [bV hs,bV hlt,List.take_set_of_le (Nat.le_refl _),dx]
 have e1 : at_ (L.set k ((at_ X k - at_ Y k - c) % 4294967296)) k = (at_ X k - at_ Y k - c) % 4294967296:=by simp [at_,hLk]
 have e2 : aq (Y.take (k + 1)) = aq (Y.take k) + pw k * at_ Y k:=by
  by_cases hY : k < Y.length
  ·exact bV hY
  ·rw [iz (Nat.le_of_not_lt hY),List.take_of_length_le (by omega),List.take_of_length_le (by omega)]; simp
 rw [e1,e2,hv]
 have e3 : (at_ X k - at_ Y k - c) % 4294967296 = at_ X k - at_ Y k - c + 4294967296 * (if at_ X k < at_ Y k + c then (1 : Int) else 0):=by split <;> omega
 rw [e3]
 generalize (if at_ X k < at_ Y k + c then (1 : Int) else 0) = q
 have e4 : pw k * (at_ X k - at_ Y k - c + 4294967296 * q) = pw k * at_ X k - pw k * at_ Y k - pw k * c + 4294967296 * pw k * q:=by
  simp only [Int.mul_add,Int.mul_sub]
  rw [← Int.mul_assoc,Int.mul_comm (pw k) 4294967296]
 rw [e4]
 omega
theorem F7{X Y L : List Int}{k : Nat}{c : Int}(hk : X.length≤k)(hk2 : k≤X.length)(hxy : Y.length≤X.length)(hle : aq Y≤aq X)(hLl : L.length = X.length)(hX : Dg X)(hL : Dg L)(hc : 0≤c∧c≤1)(hv : aq (L.take k) = aq (X.take k) - aq (Y.take k) + pw k * c) : (aq L).toNat = (aq X - aq Y).toNat:=by
 have e : k = X.length:=by omega
 subst e
 rw [List.take_of_length_le (by omega),List.take_of_length_le (Nat.le_refl _),List.take_of_length_le hxy] at hv
 have h1:=dH hL
 rw [hLl] at h1
 have hc' : c = 0∨c = 1:=by omega
 rcases hc' with rfl | rfl
 ·rw [hv]; simp
 ·exfalso; rw [Int.mul_one] at hv; omega
theorem F8{X L : List Int}{R : List (List D)}(hr : R = L.map aE)(hl2 : R.length = X.length) : R.take X.length = L.map aE:=by
 rw [List.take_of_length_le (by omega),hr]
theorem IR(X Y : List Int)(hX : Dg X)(hY : Dg Y)(hn : X.length≤400)(hxy : Y.length≤X.length)(hle : aq Y≤aq X) : CallA Tryz.prog 377 [.one (.d (cY X)),.one (.d (cY Y))] [] (.one (.d (bU (aq X - aq Y).toNat))) []:=by
 have zr : (0 : Int)≤0∧(0 : Int) < 4294967296:=⟨by omega,by omega⟩
 refine enter ab Tryz.func377 rfl (by decide +kernel) rfl fun hok w0 σ0 φ0 M=>?_
 clear hok
 repeat' (first|(refine h6H ?_; first|(refine ma ?_; refine cj aa 10 J J J (cK (n:=X.length) J J J J J (by simp) (by simp) (by omega) (Nat.le_of_ble_eq_true J)) J J ?_)|(refine h4H ?_; refine dL 40 [10] J J J J J J J J J (lO _ p.2.2.1 _ (F8 hr hl2) hL (F7 (by simpa using h) hk hxy hle (by rw [hr] at hl2; simpa using hl2) hX hL hc hv)) J J J ?_)|refine ac ?_|refine ah ab J J J J J ?_|(refine h1H ?_; refine s_e aa J J J (aL J J J J (aN (by omega) (by omega))) ?_)|(refine h3H ?_; first|refine s_e aa J J J (b4 J J J J J J (by first|omega|((try simp only [a0A,a1A,a2A,a3A,a4A,a5A,a6A,a7A,a8A,a9A,au,av] at *); omega)) (by first|omega|((try simp only [a0A,a1A,a2A,a3A,a4A,a5A,a6A,a7A,a8A,a9A,au,av] at *); omega))) ?_|refine s_e aa J J J (ar J J J J J (by first|omega|((try simp only [a0A,a1A,a2A,a3A,a4A,a5A,a6A,a7A,a8A,a9A,au,av] at *); omega)) (aJ (by first|omega|((try simp only [a0A,a1A,a2A,a3A,a4A,a5A,a6A,a7A,a8A,a9A,au,av] at *); omega)))) ?_)|(refine h4H ?_; first|refine ag J J J J J J J J (zP _ _ _ (hX.at (by first|omega|((try simp only [a0A,a1A,a2A,a3A,a4A,a5A,a6A,a7A,a8A,a9A,au,av] at *); omega))) (hY.at (by first|omega|((try simp only [a0A,a1A,a2A,a3A,a4A,a5A,a6A,a7A,a8A,a9A,au,av] at *); omega))) hc) J ?_|refine ag J J J J J J J J (zP _ _ _ (hX.at (by first|omega|((try simp only [a0A,a1A,a2A,a3A,a4A,a5A,a6A,a7A,a8A,a9A,au,av] at *); omega))) zr hc) J ?_)|refine aI aa J J (bO J J J J J J J J J (cg (by assumption) (by first|omega|((try simp only [a0A,a1A,a2A,a3A,a4A,a5A,a6A,a7A,a8A,a9A,au,av] at *); omega))) J) ?_)|(refine h7H ?_; first|refine al ?_|refine ae ?_|refine ay ?_|refine aw ?_|refine am ?_|refine aW ?_|refine aA J (fun h=>?_) (fun h=>?_)|refine cR 4 J [(0,_),(1,_),(5,_),(13,_)] (q4Q J J J J) (fun (p : Nat×Int×List Int×List (List D))=>[(14,.one (.d (.int .i64 (p.1 : Int)))),(6,.one (.d (.int .u32 p.2.1)))]) (fun (p : Nat×Int×List Int×List (List D))=>[(10,.row 1 4 p.2.2.2)]) (fun (p : Nat×Int×List Int×List (List D))=>p.1≤X.length∧p.2.2.2 = p.2.2.1.map aE∧p.2.2.2.length = X.length∧Dg p.2.2.1∧(0≤p.2.1∧p.2.1≤1)∧aq (p.2.2.1.take p.1) = aq (X.take p.1) - aq (Y.take p.1) + pw p.1 * p.2.1) (fun (p : Nat×Int×List Int×List (List D))=>X.length - p.1) (0,0,List.replicate X.length 0,List.replicate X.length [.int .u32 0]) (q2Q J J) (by first|(repeat' first|exact ap|refine af J ?_) <;> fail) ?_ (fun p ⟨hk,hr,hl2,hL,hc,hv⟩=>?_))|(show Exists _; first|refine Exists.intro ((p.1 + 1,(if at_ X p.1 < at_ Y p.1 + p.2.1 then 1 else 0),p.2.2.1.set p.1 ((at_ X p.1 - at_ Y p.1 - p.2.1) % 4294967296),p.2.2.2.set p.1 [.int .u32 ((at_ X p.1 - at_ Y p.1 - p.2.1) % 4294967296)])) ⟨?_,?_,(by first|(repeat' first|exact ap|refine af J ?_) <;> fail),(q2Q J J),(q4Q J J J J)⟩|refine Exists.intro ((p.1 + 1,(if at_ X p.1 < 0 + p.2.1 then 1 else 0),p.2.2.1.set p.1 ((at_ X p.1 - 0 - p.2.1) % 4294967296),p.2.2.2.set p.1 [.int .u32 ((at_ X p.1 - 0 - p.2.1) % 4294967296)])) ⟨?_,?_,(by first|(repeat' first|exact ap|refine af J ?_) <;> fail),(q2Q J J),(q4Q J J J J)⟩)|refine ak ?_|refine bd ?_|refine aG ?_|refine aX J ?_|refine ai (.inl J) J J ?_)
 ·exact ⟨Nat.zero_le _,by simp [aE],by simp,Dg.zeros _,⟨Int.le_refl _,Int.zero_le_ofNat 1⟩,by simp [aq]⟩
 ·exact xW hX (by simpa using ‹decide ((p.1 : Int) < ((X.map aE).length : Int)) = true›) rfl (hY.at (by simpa using h)) hr hl2 hL hc hv
 ·have hlt : p.1 < X.length:=by simpa using ‹decide ((p.1 : Int) < ((X.map aE).length : Int)) = true›
  show X.length - (p.1 + 1) < X.length - p.1
  omega
 ·exact xW hX (by simpa using ‹decide ((p.1 : Int) < ((X.map aE).length : Int)) = true›) (iz (by simpa using h)) zr hr hl2 hL hc hv
 ·have hlt : p.1 < X.length:=by simpa using ‹decide ((p.1 : Int) < ((X.map aE).length : Int)) = true›
  show X.length - (p.1 + 1) < X.length - p.1
  omega
 ·rfl
theorem HM(m n : Nat)(hm : (dig m).length≤400)(h : n≤m) : CallA Tryz.prog 377 [.one (.d (bU m)),.one (.d (bU n))] [] (.one (.d (bU (m - n)))) []:=by
 obtain ⟨a1,a2,a3⟩:=cP m
 obtain ⟨b1,b2,b3⟩:=cP n
 have hl : (dig n).length≤(dig m).length:=by
  refine Nat.le_of_not_lt fun hc=>?_
  have:=l5 hc; omega
 have:=IR (dig m) (dig n) a1 b1 hm hl (by omega)
 rwa [a2,b2,show ((m : Int) - (n : Int)).toNat = m - n by omega] at this
end Go.Proofs.YtpejdgkaapnekaaGreat
namespace Go.Proofs.YtpejdgkaapnekaaGreat
open Go Go.Abs
attribute [local irreducible] ao OkC aU bg aV bA
set_option maxRecDepth 10000
def tK(c x y o : Int) : Int:=IntKind.u64.wrap (c + IntKind.u64.wrap (IntKind.u64.wrap (IntKind.u64.wrap x * IntKind.u64.wrap y) + IntKind.u64.wrap o))
theorem xb{x y : Int}(hx : 0≤x∧x < 4294967296)(hy : 0≤y∧y < 4294967296) : 0≤x * y∧x * y≤18446744065119617025:=by
 have h1 : x≤4294967295:=by omega
 have h2 : y≤4294967295:=by omega
 exact ⟨Int.mul_nonneg hx.1 hy.1,Int.le_trans (Int.mul_le_mul h1 h2 hy.1 (by omega)) (by decide)⟩
theorem c3{v : Int}(h0 : 0≤v)(h1 : v≤18446744073709551615) : IntKind.u64.wrap v = v:=by
 show v % 18446744073709551616 = v
 omega
theorem fSx{c x y o : Int}(hc : 0≤c∧c < 4294967296)(hx : 0≤x∧x < 4294967296)(hy : 0≤y∧y < 4294967296)(ho : 0≤o∧o < 4294967296) : tK c x y o = c + x * y + o∧0≤c + x * y + o∧c + x * y + o≤18446744073709551615:=by
 have h:=xb hx hy
 unfold tK
 rw [c3 hx.1 (by omega),c3 hy.1 (by omega),c3 ho.1 (by omega),c3 h.1 (by omega),c3 (v:=x * y + o) (by omega) (by omega),c3 (by omega) (by omega)]
 omega
theorem ep{l : List Int}{k t : Nat}{x : Int}(h : t≠k) : at_ (l.set k x) t = at_ l t:=by
 simp [at_,List.getD_eq_getElem?_getD,List.getElem?_set,Ne.symm h]
theorem D5{X Y L : List Int}{R : List (List D)}{i j : Nat}{c V T : Int}(hT : T = tK c (at_ X i) (at_ Y j) (at_ L (i + j)))(hX : Dg X)(hY : Dg Y)(hi : i < X.length)(hj : j < Y.length)(hr : R = L.map aE)(hl : R.length = X.length + Y.length)(hL : Dg L)(hc : 0≤c∧c < 4294967296)
  (hz : ∀ t,i + Y.length≤t→at_ L t = 0) (hv : aq L + pw (i + j) * c = V + pw i * (at_ X i * aq (Y.take j))) :
  j + 1≤Y.length∧R.set (i + j) [.int .u32 (IntKind.u32.wrap T)] = (L.set (i + j) (IntKind.u32.wrap T)).map aE∧(R.set (i + j) [.int .u32 (IntKind.u32.wrap T)]).length = X.length + Y.length∧Dg (L.set (i + j) (IntKind.u32.wrap T)) ∧
  (0≤T.fdiv (2 ^ min (Int.toNat 32) IntKind.u64.bits)∧T.fdiv (2 ^ min (Int.toNat 32) IntKind.u64.bits) < 4294967296)∧(∀ t,i + Y.length≤t→at_ (L.set (i + j) (IntKind.u32.wrap T)) t = 0) ∧
  aq (L.set (i + j) (IntKind.u32.wrap T)) + pw (i + (j + 1)) * T.fdiv (2 ^ min (Int.toNat 32) IntKind.u64.bits) = V + pw i * (at_ X i * aq (Y.take (j + 1))):=by
 have hLl : L.length = X.length + Y.length:=by rw [hr] at hl; simpa using hl
 have hk : i + j < L.length:=by omega
 obtain ⟨e,h0,h1⟩:=fSx hc (hX.at hi) (hY.at hj) (hL.at hk)
 rw [← hT] at e
 rw [ip,wg]
 refine ⟨hj,by rw [hr,List.map_set]; rfl,by simpa using hl,hL.set (by omega),by omega,fun t ht=>by rw [ep (by omega)]; exact hz t ht,?_⟩
 rw [jU hk,bV hj,show i + (j + 1) = (i + j) + 1 by omega,dx]
 have e3 : T % 4294967296 + 4294967296 * (T / 4294967296) = T:=by omega
 generalize T % 4294967296 = r at e3 ⊢
 generalize T / 4294967296 = q at e3 ⊢
 have e4 : pw (i + j) * r + 4294967296 * pw (i + j) * q = pw (i + j) * c + pw (i + j) * (at_ X i * at_ Y j) + pw (i + j) * at_ L (i + j):=by
  rw [← Int.mul_add,← Int.mul_add,← e,← e3,Int.mul_add,Int.mul_comm 4294967296 (pw (i + j)),Int.mul_assoc]
 have e5 : pw i * (at_ X i * (aq (Y.take j) + pw j * at_ Y j)) = pw i * (at_ X i * aq (Y.take j)) + pw (i + j) * (at_ X i * at_ Y j):=by
  rw [Int.mul_add,Int.mul_add,gE,Int.mul_assoc (pw i) (pw j),Int.mul_left_comm (at_ X i) (pw j)]
 rw [e5,Int.mul_sub]
 omega
theorem FT{X Y L : List Int}{R : List (List D)}{i j : Nat}{c V : Int}(hX : Dg X)(hY : Dg Y)(hi : i < X.length)(hj : j≤Y.length)(hj2 : Y.length≤j)(hr : R = L.map aE)(hl : R.length = X.length + Y.length)(hL : Dg L)(hc : 0≤c∧c < 4294967296)
  (hz : ∀ t,i + Y.length≤t→at_ L t = 0) (hV : V = aq (X.take i) * aq Y) (hv : aq L + pw (i + j) * c = V + pw i * (at_ X i * aq (Y.take j))) :
  i + 1≤X.length∧R.set (i + (Y.map aE).length) [.int .u32 c] = (L.set (i + Y.length) c).map aE∧(R.set (i + (Y.map aE).length) [.int .u32 c]).length = X.length + Y.length∧Dg (L.set (i + Y.length) c) ∧
  (∀ t,i + 1 + Y.length≤t→at_ (L.set (i + Y.length) c) t = 0)∧aq (L.set (i + Y.length) c) = aq (X.take (i + 1)) * aq Y:=by
 have hLl : L.length = X.length + Y.length:=by rw [hr] at hl; simpa using hl
 have e : j = Y.length:=by omega
 subst e
 rw [List.length_map]
 refine ⟨hi,by rw [hr,List.map_set]; rfl,by simpa using hl,hL.set hc,fun t ht=>by rw [ep (by omega)]; exact hz t (by omega),?_⟩
 rw [jU (by omega),hz _ (Nat.le_refl _),bV hi,Int.sub_zero,hv,hV,List.take_of_length_le (Nat.le_refl _),Int.add_mul,Int.mul_assoc]
theorem tc{n : Nat}{L : List Int}{R : List (List D)}(hr : R = L.map aE)(hl : R.length = n) : R.take n = L.map aE:=by rw [List.take_of_length_le (by omega),hr]
theorem FU{X Y L : List Int}{k : Nat}(hv : aq L = aq (X.take k) * aq Y)(hk : k≤X.length)(h : X.length≤k) : (aq L).toNat = (aq X * aq Y).toNat:=by
 rw [hv,List.take_of_length_le h]
set_option maxHeartbeats 1000000 in
theorem IF(X Y : List Int)(hX : Dg X)(hY : Dg Y)(hn : X.length≤400)(hm : Y.length≤400) : CallA Tryz.prog 361 [.one (.d (cY X)),.one (.d (cY Y))] [] (.one (.d (bU (aq X * aq Y).toNat))) []:=by
 refine enter ab Tryz.func361 rfl (by decide +kernel) rfl fun hok w0 σ0 φ0 M=>?_
 clear hok
 repeat' (first|(refine h6H ?_; first|(refine ma ?_; refine cj aa 10 J J J (cK (n:=X.length + Y.length) J J J J J (by simp) (by simp) (by omega) (Nat.le_of_ble_eq_true J)) J J ?_)|(refine h4H ?_; refine dL 40 [10] J J J J J J J J J (lO _ p.2.1 _ (tc hr hl2) hL (FU hv hk (by simpa using h))) J J J ?_)|refine ac ?_|refine ah ab J J J J J ?_|(refine h1H ?_; first|refine s_e aa J J J (aL J J J J (aN (by omega) (by omega))) ?_|refine s_e aa J J J (aL J J J J (aN (by first|omega|((try simp only [a0A,a1A,a2A,a3A,a4A,a5A,a6A,a7A,a8A,a9A,au,av] at *); omega)) (by first|omega|((try simp only [a0A,a1A,a2A,a3A,a4A,a5A,a6A,a7A,a8A,a9A,au,av] at *); omega)))) ?_|refine dk ab J J J J ?_)|(refine s9 ?_; refine dk ab J J J J ?_)|(refine fH ?_; first|refine s_e aa J J J (c7 J J J J (iZ (by omega) (by omega))) ?_|refine dk ab J J J J ?_)|(refine h3H ?_; first|refine s_e aa J J J (b4 J J J J J J (by first|omega|((try simp only [a0A,a1A,a2A,a3A,a4A,a5A,a6A,a7A,a8A,a9A,au,av] at *); omega)) (by first|omega|((try simp only [a0A,a1A,a2A,a3A,a4A,a5A,a6A,a7A,a8A,a9A,au,av] at *); omega))) ?_|refine s_e aa J J J (ar J J J J J (by first|omega|((try simp only [a0A,a1A,a2A,a3A,a4A,a5A,a6A,a7A,a8A,a9A,au,av] at *); omega)) (aJ (by first|omega|((try simp only [a0A,a1A,a2A,a3A,a4A,a5A,a6A,a7A,a8A,a9A,au,av] at *); omega)))) ?_)|(refine ot ?_; refine s_e aa J J J (cu J J J J (cg (by assumption) (by first|omega|((try simp only [a0A,a1A,a2A,a3A,a4A,a5A,a6A,a7A,a8A,a9A,au,av] at *); omega))) J) ?_)|refine aI aa J J (bO J J J J J J J J J (cg (by assumption) (by first|omega|((try simp only [a0A,a1A,a2A,a3A,a4A,a5A,a6A,a7A,a8A,a9A,au,av] at *); omega))) J) ?_|refine s_e aa J J J J ?_)|(refine h7H ?_; first|refine al ?_|refine ae ?_|refine ay ?_|refine aw ?_|refine am ?_|refine aW ?_|refine aA J (fun h=>?_) (fun h=>?_)|refine cR 7 J [(1,_),(5,_),(6,_),(7,_),(17,_),(18,_),(19,_),(24,_),(25,_)] (q9Q J J J J J J J J J) (fun (q : Nat×Int×List Int×List (List D))=>[(26,.one (.d (.int .i64 (q.1 : Int)))),(8,.one (.d (.int .u64 q.2.1)))]) (fun (q : Nat×Int×List Int×List (List D))=>[(10,.row 1 4 q.2.2.2)]) (fun (q : Nat×Int×List Int×List (List D))=>q.1≤Y.length∧q.2.2.2 = q.2.2.1.map aE∧q.2.2.2.length = X.length + Y.length∧Dg q.2.2.1∧(0≤q.2.1∧q.2.1 < 4294967296)∧(∀ t,p.1 + Y.length≤t→at_ q.2.2.1 t = 0)∧aq q.2.2.1 + pw (p.1 + q.1) * q.2.1 = aq p.2.1 + pw p.1 * (at_ X p.1 * aq (Y.take q.1))) (fun (q : Nat×Int×List Int×List (List D))=>Y.length - q.1) (0,0,p.2.1,p.2.2) (q2Q J J) (by first|(repeat' first|exact ap|refine af J ?_) <;> fail) ?_ (fun q ⟨hqk,hqr,hql,hqL,hqc,hqz,hqv⟩=>?_)|refine cR 3 J [(1,_),(5,_),(17,_),(18,_)] (q4Q J J J J) (fun (p : Nat×List Int×List (List D))=>[(19,.one (.d (.int .i64 (p.1 : Int))))]) (fun (p : Nat×List Int×List (List D))=>[(10,.row 1 4 p.2.2)]) (fun (p : Nat×List Int×List (List D))=>p.1≤X.length∧p.2.2 = p.2.1.map aE∧p.2.2.length = X.length + Y.length∧Dg p.2.1∧(∀ t,p.1 + Y.length≤t→at_ p.2.1 t = 0)∧aq p.2.1 = aq (X.take p.1) * aq Y) (fun (p : Nat×List Int×List (List D))=>X.length - p.1) (0,List.replicate (X.length + Y.length) 0,List.replicate (X.length + Y.length) [.int .u32 0]) (q1Q J) (by first|(repeat' first|exact ap|refine af J ?_) <;> fail) ?_ (fun p ⟨hk,hr,hl2,hL,hz,hv⟩=>?_))|(show Exists _; first|refine Exists.intro ((p.1 + 1,q.2.2.1.set (p.1 + Y.length) q.2.1,q.2.2.2.set (p.1 + (Y.map aE).length) [.int .u32 q.2.1])) ⟨?_,?_,(by first|(repeat' first|exact ap|refine af J ?_) <;> fail),(q1Q J),(q4Q J J J J)⟩|refine Exists.intro ((q.1 + 1,(tK q.2.1 (at_ X p.1) (at_ Y q.1) (at_ q.2.2.1 (p.1 + q.1))).fdiv (2 ^ min (Int.toNat 32) IntKind.u64.bits),q.2.2.1.set (p.1 + q.1) (IntKind.u32.wrap (tK q.2.1 (at_ X p.1) (at_ Y q.1) (at_ q.2.2.1 (p.1 + q.1)))),q.2.2.2.set (p.1 + q.1) [.int .u32 (IntKind.u32.wrap (tK q.2.1 (at_ X p.1) (at_ Y q.1) (at_ q.2.2.1 (p.1 + q.1))))])) ⟨?_,?_,(by first|(repeat' first|exact ap|refine af J ?_) <;> fail),(q2Q J J),(q9Q J J J J J J J J J)⟩)|refine ak ?_|refine bd ?_|refine aG ?_|refine aX J ?_|refine ai (.inl J) J J ?_)
 ·exact ⟨Nat.zero_le _,by simp [aE],by simp,Dg.zeros _,fun t _=>by
   show at_ (List.replicate _ (0 : Int)) t = 0
   simp only [at_,List.getD_eq_getElem?_getD,List.getElem?_replicate]
   split <;> rfl,by
   show aq (List.replicate _ (0 : Int)) = aq (X.take 0) * aq Y
   rw [Ax,List.take_zero]; simp [aq]⟩
 ·exact ⟨Nat.zero_le _,hr,hl2,hL,⟨Int.le_refl _,by show (0 : Int) < 4294967296; omega⟩,hz,by
   show aq p.2.1 + pw (p.1 + 0) * 0 = aq p.2.1 + pw p.1 * (at_ X p.1 * aq (Y.take 0))
   rw [List.take_zero]; simp [aq]⟩
 ·exact D5 rfl hX hY (by simpa using ‹decide ((p.1 : Int) < ((X.map aE).length : Int)) = true›) (by simpa using h) hqr hql hqL hqc hqz hqv
 ·have hlt : q.1 < Y.length:=by simpa using h
  show Y.length - (q.1 + 1) < Y.length - q.1
  omega
 ·exact FT hX hY (by simpa using ‹decide ((p.1 : Int) < ((X.map aE).length : Int)) = true›) hqk (by simpa using h) hqr hql hqL hqc hqz hv hqv
 ·have hlt : p.1 < X.length:=by simpa using ‹decide ((p.1 : Int) < ((X.map aE).length : Int)) = true›
  show X.length - (p.1 + 1) < X.length - p.1
  omega
 ·rfl
theorem wH(m n : Nat)(hm : (dig m).length≤400)(hn : (dig n).length≤400) : CallA Tryz.prog 361 [.one (.d (bU m)),.one (.d (bU n))] [] (.one (.d (bU (m * n)))) []:=by
 obtain ⟨a1,a2,a3⟩:=cP m
 obtain ⟨b1,b2,b3⟩:=cP n
 have:=IF (dig m) (dig n) a1 b1 hm hn
 rwa [a2,b2,show ((m : Int) * (n : Int)).toNat = m * n by rw [← Int.natCast_mul]; rfl] at this
end Go.Proofs.YtpejdgkaapnekaaGreat
namespace Go.Proofs.YtpejdgkaapnekaaGreat
open Go Go.Abs
attribute [local irreducible] ao OkC aU bg aV bA
set_option maxRecDepth 10000
def smT(r x : Int) : Int:=IntKind.u64.wrap ((BitVec.ofInt IntKind.u64.bits (IntKind.u64.wrap (r * 2 ^ min (Int.toNat 32) IntKind.u64.bits)) ||| BitVec.ofInt IntKind.u64.bits (IntKind.u64.wrap x)).toNat : Int)
theorem tI{a b : Nat}(ha : a < 4294967296)(hb : b < 4294967296) : ((BitVec.ofInt 64 ((a : Int) * 4294967296) ||| BitVec.ofInt 64 (b : Int)).toNat) = a * 4294967296 + b:=by
 rw [BitVec.toNat_or]
 have e1 : (BitVec.ofInt 64 ((a : Int) * 4294967296)).toNat = a * 4294967296:=by rw [BitVec.toNat_ofInt]; simp; omega
 have e2 : (BitVec.ofInt 64 (b : Int)).toNat = b:=by rw [BitVec.toNat_ofInt]; simp; omega
 rw [e1,e2]
 have h:=Nat.shiftLeft_add_eq_or_of_lt (i:=32) (b:=b) (by omega) a
 rw [Nat.shiftLeft_eq] at h
 exact h.symm
theorem rA{r x : Int}(hr : 0≤r∧r < 4294967296)(hx : 0≤x∧x < 4294967296) : smT r x = r * 4294967296 + x:=by
 obtain ⟨a,rfl⟩:=Int.eq_ofNat_of_zero_le hr.1
 obtain ⟨b,rfl⟩:=Int.eq_ofNat_of_zero_le hx.1
 unfold smT
 rw [show ((a : Int) * 2 ^ min (Int.toNat 32) IntKind.u64.bits) = (a : Int) * 4294967296 from rfl,c3 (v:=(a : Int) * 4294967296) (by omega) (by omega),c3 (v:=(b : Int)) (by omega) (by omega)]
 have h:=tI (a:=a) (b:=b) (by omega) (by omega)
 rw [show ((BitVec.ofInt IntKind.u64.bits ((a : Int) * 4294967296) ||| BitVec.ofInt IntKind.u64.bits (b : Int)).toNat) = a * 4294967296 + b from h]
 rw [c3 (by omega) (by omega)]
 omega
theorem vA{r x d : Int}(hd : 0 < d∧d < 4294967296)(hr : 0≤r∧r < d)(hx : 0≤x∧x < 4294967296) : 0≤smT r x∧IntKind.u64.wrap (smT r x / d) = smT r x / d∧0≤smT r x / d∧smT r x / d < 4294967296:=by
 have e:=rA (r:=r) (x:=x) ⟨hr.1,by omega⟩ hx
 have h0 : 0≤smT r x:=by omega
 have h1 : 0≤smT r x / d:=Int.ediv_nonneg h0 (by omega)
 have h2 : smT r x / d < 4294967296:=by
  refine Int.ediv_lt_of_lt_mul hd.1 ?_
  rw [e]
  have : (r + 1) * 4294967296≤d * 4294967296:=Int.mul_le_mul_of_nonneg_right (by omega) (by omega)
  have e2 : 4294967296 * d = d * 4294967296:=Int.mul_comm _ _
  omega
 exact ⟨h0,c3 h1 (by omega),h1,h2⟩
theorem F9{X L : List Int}{R : List (List D)}{i : Int}{r d : Int}(hX : Dg X)(hd : 0 < d∧d < 4294967296)(h0 : 0≤i)(h1 : i < (X.length : Int))(hr : R = L.map aE)(hl : R.length = X.length)(hL : Dg L)(hc : 0≤r∧r < d)
  (hv : aq (X.drop (i + 1).toNat) = aq (L.drop (i + 1).toNat) * d + r) :
  -1≤i - 1∧i - 1 < (X.length : Int)∧R.set i.toNat [.int .u32 (IntKind.u32.wrap (smT r (at_ X i.toNat) / d))] = (L.set i.toNat (IntKind.u32.wrap (smT r (at_ X i.toNat) / d))).map aE∧(R.set i.toNat [.int .u32 (IntKind.u32.wrap (smT r (at_ X i.toNat) / d))]).length = X.length ∧
  Dg (L.set i.toNat (IntKind.u32.wrap (smT r (at_ X i.toNat) / d)))∧(0≤smT r (at_ X i.toNat) % d∧smT r (at_ X i.toNat) % d < d) ∧
  aq (X.drop (i - 1 + 1).toNat) = aq ((L.set i.toNat (IntKind.u32.wrap (smT r (at_ X i.toNat) / d))).drop (i - 1 + 1).toNat) * d + smT r (at_ X i.toNat) % d:=by
 have hLl : L.length = X.length:=by rw [hr] at hl; simpa using hl
 obtain ⟨k,rfl⟩:=Int.eq_ofNat_of_zero_le h0
 simp only [Int.toNat_natCast]
 have hk : k < X.length:=by omega
 have hkL : k < L.length:=by omega
 obtain ⟨a1,a2,a3,a4⟩:=vA hd hc (hX.at hk)
 have ew : IntKind.u32.wrap (smT r (at_ X k) / d) = smT r (at_ X k) / d:=by rw [ip]; omega
 rw [ew]
 refine ⟨by omega,by omega,by rw [hr,List.map_set]; rfl,by simpa using hl,hL.set ⟨a3,a4⟩,⟨Int.emod_nonneg _ (by omega),Int.emod_lt_of_pos _ hd.1⟩,?_⟩
 rw [show ((k : Int) - 1 + 1).toNat = k by omega,aO hk,aO (l:=L.set k _) (by simpa using hkL)]
 rw [show ((k : Int) + 1).toNat = k + 1 by omega] at hv
 have e1 : at_ (L.set k (smT r (at_ X k) / d)) k = smT r (at_ X k) / d:=by simp [at_,hkL]
 rw [e1,List.drop_set_of_lt (by omega)]
 simp only [aq]
 rw [hv]
 have e2:=rA (r:=r) (x:=at_ X k) ⟨hc.1,by omega⟩ (hX.at hk)
 have e3:=Int.mul_ediv_add_emod (smT r (at_ X k)) d
 generalize smT r (at_ X k) = T at e2 e3 ⊢
 generalize T / d = q at e3 ⊢
 generalize T % d = m at e3 ⊢
 generalize aq (L.drop (k + 1)) = N
 have e4 : (q + 4294967296 * N) * d = d * q + 4294967296 * (N * d):=by rw [Int.add_mul,Int.mul_comm q d,Int.mul_assoc]
 rw [e4,Int.mul_add]
 omega
theorem CF{X L : List Int}{i r d : Int}(hd : 0 < d)(h0 : ¬ 0≤i)(h1 : -1≤i)(hc : 0≤r∧r < d)(hv : aq (X.drop (i + 1).toNat) = aq (L.drop (i + 1).toNat) * d + r) : aq L = aq X / d∧r = aq X % d:=by
 rw [show (i + 1).toNat = 0 by omega,List.drop_zero,List.drop_zero] at hv
 have:=Int.ediv_emod_unique (a:=aq X) (b:=d) (q:=aq L) (r:=r) hd
 have h:=this.2 ⟨by rw [hv,Int.mul_comm d]; omega,hc.1,hc.2⟩
 exact ⟨h.1.symm,h.2.symm⟩
set_option maxHeartbeats 1000000 in
theorem IS(X : List Int)(d : Int)(hX : Dg X)(hn : X.length≤400)(hd : 0 < d∧d < 4294967296) : CallA Tryz.prog 371 [.one (.d (cY X)),.one (.d (.int .u32 d))] [] (.tup [(false,[.d (bU (aq X / d).toNat)]),(false,[.d (.int .u32 (aq X % d))])]) []:=by
 refine enter ab Tryz.func371 rfl (by decide +kernel) rfl fun hok w0 σ0 φ0 M=>?_
 clear hok
 repeat' (first|(refine h6H ?_; first|(refine ma ?_; refine cj aa 10 J J J (cK (n:=X.length) J J J J J (by simp) (by simp) (by omega) (Nat.le_of_ble_eq_true J)) J J ?_)|(refine qW ?_; refine s_e aa J J J (fg J J J J (vA hd hc (hX.at (show p.1.toNat < X.length from (by first|omega|((try simp only [a0A,a1A,a2A,a3A,a4A,a5A,a6A,a7A,a8A,a9A,au,av] at *); omega))))).1 hd.1 (vA hd hc (hX.at (show p.1.toNat < X.length from (by first|omega|((try simp only [a0A,a1A,a2A,a3A,a4A,a5A,a6A,a7A,a8A,a9A,au,av] at *); omega))))).2.1) ?_)|(refine tG ?_; refine s_e aa J J J (f8 J J J J (vA hd hc (hX.at (show p.1.toNat < X.length from (by first|omega|((try simp only [a0A,a1A,a2A,a3A,a4A,a5A,a6A,a7A,a8A,a9A,au,av] at *); omega))))).1 hd.1) ?_)|(refine h4H ?_; refine dL 40 [10] J J J J J J J J J (lO _ p.2.2.1 _ (tc hr hl2) hL (congrArg Int.toNat (CF hd.1 (of_decide_eq_false h) hk hc hv).1)) J J J ?_)|refine ac ?_|refine ah ab J J J J J ?_|(refine fY ?_; first|refine s_e aa J J J (bW J J J J (aN (by omega) (by omega))) ?_|refine s_e aa J J J (bW J J J J (aN (by first|omega|((try simp only [a0A,a1A,a2A,a3A,a4A,a5A,a6A,a7A,a8A,a9A,au,av] at *); omega)) (by first|omega|((try simp only [a0A,a1A,a2A,a3A,a4A,a5A,a6A,a7A,a8A,a9A,au,av] at *); omega)))) ?_)|(refine fH ?_; first|refine s_e aa J J J (c7 J J J J (cJ (by omega) (by omega))) ?_|refine s_e aa J J J (c7 J J J J (iZ (by omega) (by omega))) ?_|refine dk ab J J J J ?_)|(refine h3H ?_; first|refine s_e aa J J J (b4 J J J J J J (by first|omega|((try simp only [a0A,a1A,a2A,a3A,a4A,a5A,a6A,a7A,a8A,a9A,au,av] at *); omega)) (by first|omega|((try simp only [a0A,a1A,a2A,a3A,a4A,a5A,a6A,a7A,a8A,a9A,au,av] at *); omega))) ?_|refine s_e aa J J J (ar J J J J J (by first|omega|((try simp only [a0A,a1A,a2A,a3A,a4A,a5A,a6A,a7A,a8A,a9A,au,av] at *); omega)) (aJ (by first|omega|((try simp only [a0A,a1A,a2A,a3A,a4A,a5A,a6A,a7A,a8A,a9A,au,av] at *); omega)))) ?_)|refine aI aa J J (bO J J J J J J J J J (cg (by assumption) (by first|omega|((try simp only [a0A,a1A,a2A,a3A,a4A,a5A,a6A,a7A,a8A,a9A,au,av] at *); omega))) J) ?_|refine s_e aa J J J J ?_)|(refine h7H ?_; first|refine al ?_|refine ae ?_|refine ay ?_|refine aw ?_|refine am ?_|refine aW ?_|refine aA J (fun h=>?_) (fun h=>?_)|refine cR 4 J [(0,_),(1,_),(6,_)] (q3Q J J J) (fun (p : Int×Int×List Int×List (List D))=>[(8,.one (.d (.int .i64 p.1))),(7,.one (.d (.int .u64 p.2.1)))]) (fun (p : Int×Int×List Int×List (List D))=>[(10,.row 1 4 p.2.2.2)]) (fun (p : Int×Int×List Int×List (List D))=>-1≤p.1∧p.1 < (X.length : Int)∧p.2.2.2 = p.2.2.1.map aE∧p.2.2.2.length = X.length∧Dg p.2.2.1∧(0≤p.2.1∧p.2.1 < d)∧aq (X.drop (p.1 + 1).toNat) = aq (p.2.2.1.drop (p.1 + 1).toNat) * d + p.2.1) (fun (p : Int×Int×List Int×List (List D))=>(p.1 + 1).toNat) ((((X.map aE).length : Int) - 1),0,List.replicate X.length 0,List.replicate X.length [.int .u32 0]) (q2Q J J) (by (repeat' first|exact ap|refine af J ?_); done) ?_ (fun p ⟨hk,hk2,hr,hl2,hL,hc,hv⟩=>?_))|(show Exists _; refine Exists.intro (((p.1 - 1),smT p.2.1 (at_ X p.1.toNat) % d,p.2.2.1.set p.1.toNat (IntKind.u32.wrap (smT p.2.1 (at_ X p.1.toNat) / d)),p.2.2.2.set p.1.toNat [.int .u32 (IntKind.u32.wrap (smT p.2.1 (at_ X p.1.toNat) / d))])) ⟨?_,?_,(by (repeat' first|exact ap|refine af J ?_); done),(q2Q J J),(q3Q J J J)⟩)|refine ak ?_|refine bd ?_|refine aG ?_|refine aX J ?_|refine ai (.inl J) J J ?_)
 ·refine ⟨by simp; omega,by simp; omega,by simp [aE],by simp,Dg.zeros _,⟨Int.le_refl _,hd.1⟩,?_⟩
  show aq (X.drop ((((X.map aE).length : Int) - 1 + 1).toNat)) = aq ((List.replicate X.length 0).drop ((((X.map aE).length : Int) - 1 + 1).toNat)) * d + 0
  rw [List.length_map,show ((X.length : Int) - 1 + 1).toNat = X.length by omega,List.drop_length,List.drop_eq_nil_of_le (by simp)]
  simp [aq]
 ·exact F9 hX hd (of_decide_eq_true h) hk2 hr hl2 hL hc hv
 ·have h0 : 0≤p.1:=of_decide_eq_true h
  show (p.1 - 1 + 1).toNat < (p.1 + 1).toNat
  omega
 ·show AV.tup [(false,[.d (bU (aq X / d).toNat)]),(false,[.d (.int .u32 p.2.1)])] = _
  rw [(CF hd.1 (of_decide_eq_false h) hk hc hv).2]
theorem JE(n d : Nat)(hn : (dig n).length≤400)(hd : 0 < d∧d < 4294967296) : CallA Tryz.prog 371 [.one (.d (bU n)),.one (.d (.int .u32 d))] [] (.tup [(false,[.d (bU (n / d))]),(false,[.d (.int .u32 (n % d : Nat))])]) []:=by
 obtain ⟨a1,a2,a3⟩:=cP n
 have:=IS (dig n) d a1 hn (by omega)
 rwa [a2,show ((n : Int) / (d : Int)).toNat = n / d by rw [← Int.natCast_ediv]; rfl,show ((n : Int) % (d : Int)) = ((n % d : Nat) : Int) from (Int.natCast_emod n d).symm] at this
end Go.Proofs.YtpejdgkaapnekaaGreat
