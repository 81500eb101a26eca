import Derived.Test.YtpejdgkaapnekaaGreatFP35
set_option linter.unusedVariables false
set_option linter.unusedSimpArgs false
set_option linter.unnecessarySimpa false
set_option maxHeartbeats 1000000
namespace Go.Proofs.YtpejdgkaapnekaaGreat
open Go Go.Abs
attribute [local irreducible] ao OkC aU bg aV bA
set_option maxRecDepth 10000
def dwl(n : Nat) : Nat:=(dw n).length
theorem iX{m n : Nat}(h : m≤n) : dwl m≤dwl n:=by
 refine Nat.le_of_not_lt fun hc=>?_
 have:=nH hc; omega
theorem If{y : Nat} : dwl (y * 1000000000)≤dwl y + 1:=by
 unfold dwl
 by_cases h : y = 0
 ·subst h; simp [eN]
 ·rw [gf (n:=y * 1000000000) (by omega),show y * 1000000000 / 1000000000 = y by omega]; simp
theorem GF{r y : Nat}(h : r≤y * 1000000000)(hy : dwl y≤300) : dwl r≤400:=by
 have:=iX h
 have:=If (y:=y)
 omega
theorem zU{n : Nat}(h : n < 1000000000000000000) : (dw n).length≤400:=by
 rw [← iY h]; have:=qV (z:=(n : Int)); omega
def rsW(X : List Int)(i : Int)(r : Nat) : Nat:=(at_ X i.toNat).toNat + 1000000000 * r
theorem tg{X : List Int}{i : Int}{r : Nat}{ys : List (List D)}(hX : Dw X)(hy : ys = [.int .u32 (at_ X i.toNat)]::(dw r).map aE) : ys = (at_ X i.toNat::dw r).map aE∧Dw (at_ X i.toNat::dw r)∧(aS (at_ X i.toNat::dw r)).toNat = rsW X i r:=by
 obtain ⟨h1,h2,_⟩:=fz r
 have hx:=hX.at' i.toNat
 refine ⟨hy,fun d hd=>?_,?_⟩
 ·rcases List.mem_cons.1 hd with rfl | hd
  ·exact hx
  ·exact h1 d hd
 ·simp only [aS,h2,rsW]; omega
theorem BI{X : List Int}{i : Int}{r y : Nat}(hX : Dw X)(hr : r < y) : rsW X i r < y * 1000000000:=by
 have hx:=hX.at' i.toNat
 unfold rsW; omega
theorem tk1(x : List D)(l : List (List D)) : List.take (1 + l.length) (List.take 1 [x] ++ l) = x::l:=(List.take_of_length_le (Nat.le_of_eq (by simp [Nat.add_comm]))).trans rfl
structure Hlv (y r : Nat) (q : Int×Int) : Prop where
 b : 0≤q.1∧q.1≤q.2∧q.2≤999999999
 lo : y * q.1.toNat≤r
 hi : r < y * (q.2.toNat + 1)
theorem BJ{y r : Nat}{q : Int×Int}(h : Hlv y r q)(hlt : q.1 < q.2)(hc : y * ((q.1 + q.2 + 1) / 2).toNat≤r) : Hlv y r ((q.1 + q.2 + 1) / 2,q.2):=⟨by have:=h.b; show 0≤(q.1 + q.2 + 1) / 2∧_; omega,hc,h.hi⟩
theorem BK{y r : Nat}{q : Int×Int}(h : Hlv y r q)(hlt : q.1 < q.2)(hc : r < y * ((q.1 + q.2 + 1) / 2).toNat) : Hlv y r (q.1,(q.1 + q.2 + 1) / 2 - 1):=by
 have:=h.b
 refine ⟨by show _∧q.1≤(q.1 + q.2 + 1) / 2 - 1∧(q.1 + q.2 + 1) / 2 - 1≤_; omega,h.lo,?_⟩
 show r < y * (((q.1 + q.2 + 1) / 2 - 1).toNat + 1)
 rw [show ((q.1 + q.2 + 1) / 2 - 1).toNat + 1 = ((q.1 + q.2 + 1) / 2).toNat by omega]; exact hc
theorem Fb{y r : Nat}{q : Int×Int}(h : Hlv y r q)(hge : ¬ q.1 < q.2)(hy : 0 < y) : q.1.toNat = r / y∧r - y * q.1.toNat = r % y:=by
 have hb:=h.b
 have e : q.2.toNat = q.1.toNat:=by omega
 have h1:=h.hi
 rw [e] at h1
 have h2:=h.lo
 have e2 : r / y = q.1.toNat:=by
  refine Nat.le_antisymm ?_ ((Nat.le_div_iff_mul_le hy).2 (by rw [Nat.mul_comm]; exact h2))
  exact Nat.le_of_lt_succ ((Nat.div_lt_iff_lt_mul hy).2 (by rw [Nat.mul_comm]; exact h1))
 refine ⟨e2.symm,?_⟩
 rw [← e2]
 have:=Nat.mod_add_div r y
 omega
theorem Fc{X Q : List Int}{R : List (List D)}{i : Int}{r y N : Nat}{q : Int×Int}(hX : Dw X)(hy : 0 < y)(h : Hlv y (rsW X i r) q)(hge : ¬ q.1 < q.2)(h0 : 0≤i)(h1 : i < (X.length : Int))(hN : N = X.length)(hr : R = Q.map aE)(hl : R.length = N)(hQ : Dw Q)(hry : r < y)
  (hv : aS (X.drop (i + 1).toNat) = aS (Q.drop (i + 1).toNat) * (y : Int) + (r : Int)) :
  -1≤i - 1∧i - 1 < (X.length : Int)∧R.set i.toNat [.int .u32 q.1] = (Q.set i.toNat q.1).map aE∧(R.set i.toNat [.int .u32 q.1]).length = N∧Dw (Q.set i.toNat q.1)∧rsW X i r - y * q.1.toNat < y∧(dwl y≤300→(dw (rsW X i r - y * q.1.toNat)).length≤400) ∧
  aS (X.drop (i - 1 + 1).toNat) = aS ((Q.set i.toNat q.1).drop (i - 1 + 1).toNat) * (y : Int) + ((rsW X i r - y * q.1.toNat : Nat) : Int):=by
 have hQl : Q.length = N:=jq hr hl
 obtain ⟨e1,e2⟩:=Fb h hge hy
 obtain ⟨k,rfl⟩:=Int.eq_ofNat_of_zero_le h0
 have hb:=h.b
 have hk : k < X.length:=by omega
 have hlo:=h.lo
 refine ⟨by omega,by omega,eL hr,by simpa using hl,hQ.set (by omega),by rw [e2]; exact Nat.mod_lt _ hy,fun h3=>by rw [e2]; exact Nat.le_trans (iX (Nat.le_of_lt (Nat.mod_lt _ hy))) (by omega),?_⟩
 rw [show ((k : Int) - 1 + 1).toNat = k by omega]
 rw [show ((k : Int) + 1).toNat = k + 1 by omega] at hv
 rw [Int.toNat_natCast]
 rw [aO hk,aO (l:=Q.set k q.1) (by simpa [hQl,hN] using hk),lQ (by omega),List.drop_set_of_lt (by omega)]
 simp only [aS,hv]
 have hx:=hX.at' k
 have e3 : ((rsW X (k : Int) r - y * q.1.toNat : Nat) : Int) = at_ X k + 1000000000 * (r : Int) - (y : Int) * q.1:=by
  rw [Int.ofNat_sub hlo]
  have e4 : ((y * q.1.toNat : Nat) : Int) = (y : Int) * q.1:=by rw [Int.natCast_mul,Int.toNat_of_nonneg hb.1]
  rw [e4]
  unfold rsW
  rw [Int.toNat_natCast]
  omega
 rw [e3,Int.add_mul,Int.mul_comm q.1 (y : Int),Int.mul_assoc]
 generalize aS (Q.drop (k + 1)) * (y : Int) = Z
 omega
theorem BL{X Q : List Int}{i : Int}{r y : Nat}(h0 : ¬ 0≤i)(h1 : -1≤i)(hry : r < y)(hQ : Dw Q)(hX : Dw X)(hv : aS (X.drop (i + 1).toNat) = aS (Q.drop (i + 1).toNat) * (y : Int) + (r : Int)) : (aS Q).toNat = (aS X).toNat / y∧r = (aS X).toNat % y:=by
 rw [show (i + 1).toNat = 0 by omega,List.drop_zero,List.drop_zero] at hv
 obtain ⟨a,ha⟩:=Int.eq_ofNat_of_zero_le (jO hQ).1
 rw [ha] at hv ⊢
 have e : (aS X).toNat = a * y + r:=by
  have : aS X = ((a * y + r : Nat) : Int):=by rw [hv,Int.natCast_add,Int.natCast_mul]
  rw [this]; rfl
 rw [e,Int.toNat_natCast]
 have hy : 0 < y:=by omega
 constructor
 ·rw [Nat.mul_comm,Nat.mul_add_div hy,Nat.div_eq_of_lt hry,Nat.add_zero]
 ·rw [Nat.mul_comm,Nat.mul_add_mod,Nat.mod_eq_of_lt hry]
theorem Ig(x y : Nat)(hx : x < 1000000000000000000)(hy0 : 0 < y)(hy : y < 1000000000000000000) : CallA Tryz.prog 287 [.one (.d (b8 x)),.one (.d (b8 y))] [] (.tup [(false,[.d (b8 (x / y))]),(false,[.d (b8 (x % y))])]) []:=by
 have:=GG (x : Int) (y : Int) (by omega) (by omega) (by omega) (by omega)
 have h1 : x / y < 1000000000000000000:=Nat.lt_of_le_of_lt (Nat.div_le_self _ _) hx
 have h2 : x % y < 1000000000000000000:=Nat.lt_of_le_of_lt (Nat.mod_le _ _) hx
 rw [iY hx,iY hy,← Int.natCast_ediv,← Int.natCast_emod,iY h1,iY h2] at this
 exact this
theorem BM{m n : Nat}(h : decide (gR m n≤0) = true) : m≤n:=by
 refine Nat.le_of_not_lt fun hc=>?_
 have:=of_decide_eq_true h
 rw [hU hc] at this; omega
theorem BN{m n : Nat}(h : decide (gR m n≤0) = false) : n < m:=by
 refine Nat.lt_of_not_le fun hc=>?_
 have:=of_decide_eq_false h
 rcases Nat.lt_or_ge m n with h2 | h2
 ·rw [hJ h2] at this; omega
 ·rw [jK (by omega)] at this; omega
theorem Ih : b8 0 = .sl 1 4 []:=by unfold b8 cY; rw [eN]; rfl
theorem DA{c : Ctx}{fr : List (Nat×AV)}{sto : Sto}(s : Nat)(hl : Abs.look fr s = some (.one (.d .nil))) : Imp c ⟨fr,sto⟩ ⟨(s,.one (.d (b8 0)))::fr,sto⟩:=by rw [Ih]; exact sQ hl
set_option maxHeartbeats 2000000 in
theorem Ii(X : List Int)(y : Nat)(hX : Dw X)(hn : X.length≤300)(hy0 : 0 < y)(hy3 : dwl y≤300)(hy400 : (dw y).length≤400)(hbig : (decide (((X.map aE).length : Int)≤2) && decide ((((dw y).map aE).length : Int)≤2)) = false) : CallA Tryz.prog 287 [.one (.d (cY X)),.one (.d (b8 y))] [] (.tup [(false,[.d (b8 ((aS X).toNat / y))]),(false,[.d (b8 ((aS X).toNat % y))])]) []:=by
 refine enter ab Tryz.func287 rfl (by decide +kernel) rfl fun hok w0 σ0 φ0 M=>?_
 clear hok
 repeat' (first|(refine h6H ?_; first|(refine ma ?_; refine cj aa 10 J J J (cK (n:=X.length) J J J J J (by simp) (by simp) (by omega) (Nat.le_of_ble_eq_true J)) J J ?_)|(refine h4H ?_; refine dL 40 [0] J J J J J J J J J (rR _ (at_ X p.1.toNat::dw p.2.1) (rsW X p.1 p.2.1) (tg hX (tk1 _ _)).1 (tg (ys:=[.int .u32 (at_ X p.1.toNat)]::(dw p.2.1).map aE) hX J).2.1 (tg (ys:=[.int .u32 (at_ X p.1.toNat)]::(dw p.2.1).map aE) hX J).2.2) J J J ?_)|(refine h4H ?_; refine dL 40 [10] J J J J J J J J J (rR _ p.2.2.1 _ (ww hr hl2) hL (BL (of_decide_eq_false h) hk1 hry hL hX hv).1) J J J ?_)|(refine h4H ?_; refine dY ab J J J J J J J J J J J J J (by first|omega|((try simp only [a0A,a1A,a5A,nI,nJ,oM,oN,oO,nC] at *); omega)) (by first|exact Nat.le_of_ble_eq_true rfl|omega|((try simp only [a0A,a1A,a5A,nI,nJ,oM,oN,oO,nC] at *); omega)) (Nat.le_of_ble_eq_true J) ?_)|refine ac ?_|refine ah ab J J J J J ?_|(refine h0H ?_; first|refine aT J J (by first|assumption|rfl) ?_|refine bH J J (by first|assumption|rfl) J J ?_|refine bn J J J J (fun h=>?_) (fun h=>?_))|(refine h1H ?_; refine s_e aa J J J (aL J J J J (cJ (by omega) (by omega))) ?_)|(refine fY ?_; first|refine s_e aa J J J (bW J J J J (aN (by omega) (by omega))) ?_|refine s_e aa J J J (bW J J J J (aN (by first|omega|((try simp only [a0A,a1A,a2A,a3A,a4A,a5A,a6A,a7A,a8A,a9A,au,av] at *); omega)) (by first|omega|((try simp only [a0A,a1A,a2A,a3A,a4A,a5A,a6A,a7A,a8A,a9A,au,av] at *); omega)))) ?_|refine s_e aa J J J (bW J J J J (cJ (by first|omega|((try simp only [a0A,a1A,a2A,a3A,a4A,a5A,a6A,a7A,a8A,a9A,au,av] at *); omega)) (by first|omega|((try simp only [a0A,a1A,a2A,a3A,a4A,a5A,a6A,a7A,a8A,a9A,au,av] at *); omega)))) ?_)|(refine qW ?_; refine s_e aa J J J (fg J J J J (by omega) (by omega) (cJ (by omega) (by omega))) ?_)|(refine fH ?_; refine s_e aa J J J (c7 J J J J (iZ (by omega) (by omega))) ?_)|(refine h2H ?_; first|refine s_e aa J J J (aF J J (by first|rfl|assumption) J) ?_|refine s_e aa J J J (az J J (by first|rfl|assumption) J) ?_)|(refine h3H ?_; first|refine s_e aa J J J (b4 J J J J J J (by first|omega|((try simp only [a0A,a1A,a2A,a3A,a4A,a5A,a6A,a7A,a8A,a9A,au,av] at *); omega)) (by first|omega|((try simp only [a0A,a1A,a2A,a3A,a4A,a5A,a6A,a7A,a8A,a9A,au,av] at *); omega))) ?_|refine s_e aa J J J (ar J J J J J (by first|omega|((try simp only [a0A,a1A,a2A,a3A,a4A,a5A,a6A,a7A,a8A,a9A,au,av] at *); omega)) (aJ (by first|omega|((try simp only [a0A,a1A,a2A,a3A,a4A,a5A,a6A,a7A,a8A,a9A,au,av] at *); omega)))) ?_)|(refine h4H ?_; first|refine ag J J J J J J J J (vk _ _) J ?_|refine ba 16 J J J J J J J J (Ey _ q.1.toNat (by omega) (by omega)) J J J ?_|refine ba 16 J J J J J J J J (Ey _ (((q.1 + q.2 + 1) / 2).toNat) (by omega) (by omega)) J J J ?_|refine ba 16 J J J J J J J J (tk y (((q.1 + q.2 + 1) / 2).toNat) hy400 (zU (by omega))) J J J ?_|refine ba 16 J J J J J J J J (tk y q.1.toNat hy400 (zU (by omega))) J J J ?_|refine ba 16 J J J J J J J J (DB _ _ (GF (Nat.le_of_lt (BI hX hry)) hy3) hH.lo) J J J ?_)|refine aI aa J J (bO J J J J J J J J J (cg (by assumption) (by first|omega|((try simp only [a0A,a1A,a2A,a3A,a4A,a5A,a6A,a7A,a8A,a9A,au,av] at *); omega))) J) ?_|refine cj aa 0 J J J J J J ?_)|(refine h7H ?_; first|refine dI (DA 7 J) ?_|refine al ?_|refine ae ?_|refine ay ?_|refine aw ?_|refine am ?_|refine aW ?_|refine bm J ?_|refine aA J (fun h=>?_) (fun h=>?_)|refine cR 10 J [(0,_),(1,_),(6,_),(7,_),(8,_)] (q5Q J J J J J) (fun (q : Int×Int)=>[(9,.one (.d (.int .u64 q.1))),(10,.one (.d (.int .u64 q.2)))]) (fun (q : Int×Int)=>[(10,.row 1 4 p.2.2.2)]) (fun (q : Int×Int)=>(0≤q.1∧q.1≤q.2∧q.2≤999999999)∧Hlv y (rsW X p.1 p.2.1) q) (fun (q : Int×Int)=>(q.2 - q.1).toNat) (0,999999999) (q2Q J J) (by first|(repeat' first|exact ap|refine af J ?_) <;> fail|fail) ?_ (fun q ⟨hqb,hH⟩=>?_)|refine cR 6 J [(0,_),(1,_),(6,_)] (q3Q J J J) (fun (p : Int×Nat×List Int×List (List D))=>[(7,.one (.d (b8 p.2.1))),(8,.one (.d (.int .i64 p.1)))]) (fun (p : Int×Nat×List Int×List (List D))=>[(10,.row 1 4 p.2.2.2)]) (fun (p : Int×Nat×List Int×List (List D))=>-1≤p.1∧p.1 < (X.length : Int)∧p.2.2.2 = p.2.2.1.map aE∧p.2.2.2.length = X.length∧Dw p.2.2.1∧p.2.1 < y∧(dw p.2.1).length≤400∧aS (X.drop (p.1 + 1).toNat) = aS (p.2.2.1.drop (p.1 + 1).toNat) * (y : Int) + (p.2.1 : Int)) (fun (p : Int×Nat×List Int×List (List D))=>(p.1 + 1).toNat) ((((X.map aE).length : Int) - 1),0,List.replicate X.length 0,List.replicate X.length [.int .u32 0]) (q2Q J J) (by first|(repeat' first|exact ap|refine af J ?_) <;> fail|fail) ?_ (fun p ⟨hk1,hk2,hr,hl2,hL,hry,hrl,hv⟩=>?_))|(show Exists _; first|refine Exists.intro (((p.1 - 1),rsW X p.1 p.2.1 - y * q.1.toNat,p.2.2.1.set p.1.toNat q.1,p.2.2.2.set p.1.toNat [.int .u32 q.1])) ⟨?_,?_,(by first|(repeat' first|exact ap|refine af J ?_) <;> fail|fail),(q2Q J J),(q3Q J J J)⟩|refine Exists.intro (((q.1 + q.2 + 1) / 2,q.2)) ⟨?_,?_,(by first|(repeat' first|exact ap|refine af J ?_) <;> fail|fail),(q2Q J J),(q5Q J J J J J)⟩|refine Exists.intro ((q.1,(q.1 + q.2 + 1) / 2 - 1)) ⟨?_,?_,(by first|(repeat' first|exact ap|refine af J ?_) <;> fail|fail),(q2Q J J),(q5Q J J J J J)⟩)|refine ak ?_|refine bd ?_|refine aG ?_|refine aX J ?_|refine ai (.inl J) J J ?_)
 ·exfalso; rw [h,‹decide (((X.map aE).length : Int)≤2) = true›] at hbig; cases hbig
 all_goals first
  | (refine ⟨?_,?_,by simp [aE],by simp,Dw.zeros _,hy0,by rw [eN]; simp,?_⟩
     ·simp only [List.length_map]; omega
     ·simp only [List.length_map]; omega
     ·show aS (X.drop ((((X.map aE).length : Int) - 1 + 1).toNat)) = aS ((List.replicate X.length 0).drop ((((X.map aE).length : Int) - 1 + 1).toNat)) * (y : Int) + ((0 : Nat) : Int)
      rw [List.length_map,show ((X.length : Int) - 1 + 1).toNat = X.length by omega,List.drop_length,List.drop_eq_nil_of_le (by simp)]
      simp [aS])
  | exact ⟨⟨Int.le_refl _,by show (0 : Int)≤999999999; omega,Int.le_refl _⟩,⟨⟨Int.le_refl _,by show (0 : Int)≤999999999; omega,Int.le_refl _⟩,by show y * 0≤_; omega,BI hX hry⟩⟩
  | exact ⟨(BJ hH (of_decide_eq_true ‹decide (q.1 < q.2) = true›) (BM h)).b,BJ hH (of_decide_eq_true ‹decide (q.1 < q.2) = true›) (BM h)⟩
  | exact ⟨(BK hH (of_decide_eq_true ‹decide (q.1 < q.2) = true›) (BN h)).b,BK hH (of_decide_eq_true ‹decide (q.1 < q.2) = true›) (BN h)⟩
  | (have hlt:=of_decide_eq_true ‹decide (q.1 < q.2) = true›
     show (q.2 - (q.1 + q.2 + 1) / 2).toNat < (q.2 - q.1).toNat
     omega)
  | (have hlt:=of_decide_eq_true ‹decide (q.1 < q.2) = true›
     show ((q.1 + q.2 + 1) / 2 - 1 - q.1).toNat < (q.2 - q.1).toNat
     omega)
  | (obtain ⟨o1,o2,o3,o4,o5,o6,o7,o8⟩:=Fc hX hy0 hH (of_decide_eq_false h) (of_decide_eq_true ‹decide (0≤p.1) = true›) hk2 rfl hr hl2 hL hry hv
     exact ⟨o1,o2,o3,o4,o5,o6,o7 hy3,o8⟩)
  | (have h0:=of_decide_eq_true ‹decide (0≤p.1) = true›
     show (p.1 - 1 + 1).toNat < (p.1 + 1).toNat
     omega)
  | (have e:=(BL (of_decide_eq_false h) hk1 hry hL hX hv).2
     rw [← e]; rfl)
  | skip
theorem vm(x y : Nat)(hx : dwl x≤300)(hy0 : 0 < y)(hy : dwl y≤300) : CallA Tryz.prog 287 [.one (.d (b8 x)),.one (.d (b8 y))] [] (.tup [(false,[.d (b8 (x / y))]),(false,[.d (b8 (x % y))])]) []:=by
 by_cases hs : x < 1000000000000000000∧y < 1000000000000000000
 ·exact Ig x y hs.1 hy0 hs.2
 ·obtain ⟨h1,h2,_⟩:=fz x
  have hb : (decide ((((dw x).map aE).length : Int)≤2) && decide ((((dw y).map aE).length : Int)≤2)) = false:=by
   have sm : ∀ {n : Nat},(dw n).length≤2→n < 1000000000000000000:=by
    intro n hn
    obtain ⟨g1,g2,_⟩:=fz n
    have hb:=(jO g1).2
    rw [g2] at hb
    have hle : pu (dw n).length≤pu 2:=by
     obtain ⟨m,hm⟩ : ∃ m,2 = (dw n).length + m:=⟨2 - (dw n).length,by omega⟩
     rw [hm,wx]
     have:=Int.mul_le_mul_of_nonneg_left (show 1≤pu m by have:=oP m; omega) (Int.le_of_lt (oP (dw n).length))
     omega
    have h2 : pu 2 = 1000000000000000000:=by decide
    omega
   rw [Bool.and_eq_false_iff]
   simp only [decide_eq_false_iff_not,List.length_map]
   refine Classical.byContradiction fun hc=>hs ⟨sm ?_,sm ?_⟩
   ·omega
   ·omega
  have:=Ii (dw x) y h1 hx hy0 hy (Nat.le_trans hy (by omega)) hb
  rw [h2] at this
  exact this
end Go.Proofs.YtpejdgkaapnekaaGreat
namespace Go.Proofs.YtpejdgkaapnekaaGreat
open Go Go.Abs
attribute [local irreducible] ao OkC aU bg aV bA
set_option maxRecDepth 10000
theorem kX{n : Nat} : decide ((0 : Int) < (((dw n).map aE).length : Int)) = decide (n≠0):=by
 by_cases h : n = 0
 ·subst h; simp [eN]
 ·rw [gf h]; simp [h]
theorem nR{b : Nat}(h : decide ((0 : Int) < (((dw b).map aE).length : Int)) = true) : b≠0:=by rw [kX] at h; exact of_decide_eq_true h
theorem uz{b : Nat}(h : decide ((0 : Int) < (((dw b).map aE).length : Int)) = false) : b = 0:=by rw [kX] at h; exact Decidable.not_not.1 (of_decide_eq_false h)
theorem Io(m n : Nat)(hm : dwl m≤300)(hn : dwl n≤300) : CallA Tryz.prog 266 [.one (.d (b8 m)),.one (.d (b8 n))] [] (.one (.d (b8 (Nat.gcd m n)))) []:=by
 refine enter ab Tryz.func266 rfl (by decide +kernel) rfl fun hok w0 σ0 φ0 M=>?_
 clear hok
 repeat' (first|(refine h6H ?_; first|refine ac ?_|refine ah ab J J J J J ?_|(refine h4H ?_; refine ba 16 J J J J J J J J (vm _ _ hb1 (Nat.pos_of_ne_zero (nR h)) hb2) J J J ?_))|(refine h7H ?_; first|refine al ?_|refine ae ?_|refine ay ?_|refine aw ?_|refine am ?_|refine aW ?_|refine aA J (fun h=>?_) (fun h=>?_)|refine bk 1 J [] ap (fun (p : Nat×Nat)=>[(0,.one (.d (b8 p.1))),(1,.one (.d (b8 p.2)))]) (fun (p : Nat×Nat)=>Nat.gcd p.1 p.2 = Nat.gcd m n∧dwl p.1≤300∧dwl p.2≤300) (fun (p : Nat×Nat)=>p.2) (m,n) (q2Q J J) ?_ (fun p ⟨hg,hb1,hb2⟩=>?_))|(show Exists _; refine Exists.intro ((p.2,p.1 % p.2)) ⟨?_,?_,(by (repeat' first|exact ap|refine af J ?_); done),(q2Q J J),ap⟩)|refine ak ?_|refine bd ?_|refine aG ?_|refine aX J ?_|refine ai (.inl J) J J ?_)
 ·exact ⟨rfl,hm,hn⟩
 ·have hp : p.2≠0:=nR h
  refine ⟨?_,hb2,Nat.le_trans (iX (Nat.le_of_lt (Nat.mod_lt _ (Nat.pos_of_ne_zero hp)))) hb2⟩
  show Nat.gcd p.2 (p.1 % p.2) = _
  rw [← hg,Nat.gcd_comm p.1 p.2]
  conv=>rhs; rw [Nat.gcd_rec,Nat.gcd_comm]
 ·exact Nat.mod_lt _ (Nat.pos_of_ne_zero (nR h))
 ·have e:=uz h
  rw [← hg,e,Nat.gcd_zero_right]
def cA(t : Bool×Nat×Nat) : AV:=.agg [.d (.bool t.1),.d (b8 t.2.1),.d (b8 t.2.2)]
theorem DF(neg : Bool)(m n : Nat)(hm : dwl m≤300)(hn : dwl n≤300)(hn0 : n≠0) : CallA Tryz.prog 348 [.one (.d (.bool neg)),.one (.d (b8 m)),.one (.d (b8 n))] [] (cA (gu neg m n)) []:=by
 have hg : 0 < Nat.gcd m n:=Nat.gcd_pos_of_pos_right m (Nat.pos_of_ne_zero hn0)
 have hgl : dwl (Nat.gcd m n)≤300:=Nat.le_trans (iX (Nat.le_of_dvd (Nat.pos_of_ne_zero hn0) (Nat.gcd_dvd_right m n))) hn
 refine enter ab Tryz.func348 rfl (by decide +kernel) rfl fun hok w0 σ0 φ0 M=>?_
 clear hok
 repeat' (first|(refine h6H ?_; first|refine ac ?_|refine ah ab J J J J J ?_|(refine h0H ?_; first|refine aT J J (by first|assumption|rfl) ?_|refine bH J J (by first|assumption|rfl) J J ?_|refine bn J J J J (fun h=>?_) (fun h=>?_))|(refine h2H ?_; first|refine s_e aa J J J (aF J J (by first|rfl|assumption) J) ?_|refine s_e aa J J J (az J J (by first|rfl|assumption) J) ?_)|(refine h4H ?_; first|refine ba 16 J J J J J J J J (Io _ _ hm hn) J J J ?_|refine ba 16 J J J J J J J J (vm _ _ hm hg hgl) J J J ?_|refine ba 16 J J J J J J J J (vm _ _ hn hg hgl) J J J ?_)|(refine h5H ?_; refine ax ab 0 J J J J J ?_)|refine aI aa J J J ?_)|(refine h7H ?_; first|refine al ?_|refine ae ?_|refine am ?_)|refine ak ?_|refine ai (.inl J) J J ?_)
 ·show AV.agg [.d (.bool (decide ((0 : Int) < (((dw (m / Nat.gcd m n)).map aE).length : Int)))),.d (b8 (m / Nat.gcd m n)),.d (b8 (n / Nat.gcd m n))] = _
  rw [kX,wI]
  have h' : neg = true:=h
  subst h'; unfold gu; rw [Bool.true_and]; rfl
 ·have h' : neg = false:=h
  subst h'; rfl
theorem BT{n : Nat}(h : n < 1000000000000000000000000000000000000) : dwl n≤4:=by
 refine Nat.le_trans (iX (show n≤999999999999999999999999999999999999 by omega)) ?_
 unfold dwl
 rw [gf (by omega),show (999999999999999999999999999999999999 : Nat) / 1000000000 = 999999999999999999999999999 from rfl,gf (by omega),show (999999999999999999999999999 : Nat) / 1000000000 = 999999999999999999 from rfl,
  gf (by omega),show (999999999999999999 : Nat) / 1000000000 = 999999999 from rfl,gf (by omega),show (999999999 : Nat) / 1000000000 = 0 from rfl,eN]
 exact Nat.le_refl _
structure RatW (a1 b1 a2 b2 : Nat) : Prop where
 h1 : 1≤b1∧b1≤1099511627776
 h2 : 1≤b2∧b2≤1099511627776
 l1 : a1≤1099511627776
 l2 : a2≤1099511627776
theorem RatW.len{a1 b1 a2 b2 : Nat}(h : RatW a1 b1 a2 b2) : ((dw a1).length≤400∧(dw b1).length≤400∧(dw a2).length≤400∧(dw b2).length≤400)∧(dw (a1 * b2)).length≤300∧(dw (a2 * b1)).length≤300∧(dw (b1 * b2)).length≤300∧(dw (a1 * b2 + a2 * b1)).length≤300∧(dw (a1 * b2 - a2 * b1)).length≤300∧(dw (a2 * b1 - a1 * b2)).length≤300∧(dw (a1 * a2)).length≤300∧(dw (b1 * a2)).length≤300:=by
 have hm : ∀ {x y : Nat},x≤1099511627776→y≤1099511627776→x * y≤1208925819614629174706176:=fun hx hy=>Nat.mul_le_mul hx hy
 have d : ∀ {x : Nat},x≤1099511627776→(dw x).length≤400:=fun hx=>Nat.le_trans (BT (Nat.lt_of_le_of_lt hx (Nat.lt_of_lt_of_le (Nat.lt_succ_self _) (Nat.le_of_ble_eq_true rfl)))) (by omega)
 have p : ∀ {x : Nat},x≤2417851639229258349412352→(dw x).length≤300:=fun hx=>Nat.le_trans (BT (Nat.lt_of_le_of_lt hx (Nat.lt_of_lt_of_le (Nat.lt_succ_self _) (Nat.le_of_ble_eq_true rfl)))) (by omega)
 have p1:=hm h.l1 h.h2.2
 have p2:=hm h.l2 h.h1.2
 have p3:=hm h.h1.2 h.h2.2
 have p5:=hm h.l1 h.l2
 have p6:=hm h.h1.2 h.l2
 exact ⟨⟨d h.l1,d h.h1.2,d h.l2,d h.h2.2⟩,p (by omega),p (by omega),p (by omega),p (by omega),p (by omega),p (by omega),p (by omega),p (by omega)⟩
theorem Fk{s1 s2 : Bool}{a1 b1 a2 b2 : Nat}(h : (s1 == s2) = true) : gu s1 (a1 * b2 + a2 * b1) (b1 * b2) = dP s1 a1 b1 s2 a2 b2 false:=by cases s1 <;> cases s2 <;> simp_all [dP]
theorem Fl{s1 s2 : Bool}{a1 b1 a2 b2 : Nat}(h : (s1 == s2) = false)(h2 : a2 * b1≤a1 * b2) : gu s1 (a1 * b2 - a2 * b1) (b1 * b2) = dP s1 a1 b1 s2 a2 b2 false:=by cases s1 <;> cases s2 <;> simp_all [dP]
theorem Fm{s1 s2 : Bool}{a1 b1 a2 b2 : Nat}(h : (s1 == s2) = false)(h2 : a1 * b2 < a2 * b1) : gu s2 (a2 * b1 - a1 * b2) (b1 * b2) = dP s1 a1 b1 s2 a2 b2 false:=by
 have h3 : ¬ a2 * b1≤a1 * b2:=by omega
 unfold dP
 rw [if_neg (by cases s1 <;> cases s2 <;> simp_all),if_neg h3]
 cases s2 <;> rfl
set_option maxHeartbeats 1000000 in
theorem GT(s1 : Bool)(a1 b1 : Nat)(s2 : Bool)(a2 b2 : Nat)(hR : RatW a1 b1 a2 b2) : CallA Tryz.prog 290 [cA (s1,a1,b1),cA (s2,a2,b2)] [] (cA (dP s1 a1 b1 s2 a2 b2 false)) []:=by
 obtain ⟨⟨l1,l2,l3,l4⟩,m1,m2,m3,m4,m5,m6,m7,m8⟩:=hR.len
 have k3 : dwl (b1 * b2)≤300:=m3
 have k4 : dwl (a1 * b2 + a2 * b1)≤300:=m4
 have k5 : dwl (a1 * b2 - a2 * b1)≤300:=m5
 have k6 : dwl (a2 * b1 - a1 * b2)≤300:=m6
 have hb12 : b1 * b2≠0:=Nat.mul_ne_zero (by have:=hR.h1; omega) (by have:=hR.h2; omega)
 unfold cA
 refine enter ab Tryz.func290 rfl (by decide +kernel) rfl fun hok w0 σ0 φ0 M=>?_
 clear hok
 repeat' (first|(refine h6H ?_; first|refine ac ?_|refine ah ab J J J J J ?_|(refine h4H ?_; first|refine ag J J J J J J J J (vk _ _) J ?_|refine ba 16 J J J J J J J J (tk _ _ (by omega) (by omega)) J J J ?_)|(refine bC ?_; first|refine aM 0 J J J J J J ?_|refine aM 1 J J J J J J ?_)|(refine h5H ?_; refine ax ab 2 J J J J J ?_))|(refine h7H ?_; first|refine al ?_|refine ae ?_|refine aw ?_|refine am ?_|refine aA J (fun h=>?_) (fun h=>?_)|refine aR progOk.mo ?_)|(refine bP ?_; first|refine bG (by kernel_rfl) ?_|refine d_e aa J J J (aK J J) ?_|(refine h9H ?_; first|refine b6 16 J J J J J J J J (tk _ _ (by omega) (by omega)) J J ?_|refine b6 16 J J J J J J J J (GU _ _ (by first|omega|((try simp only [a0A,a1A,a2A,a3A,a4A,a5A,a6A,a7A,a8A,a9A,au,av] at *); omega)) (by first|omega|((try simp only [a0A,a1A,a2A,a3A,a4A,a5A,a6A,a7A,a8A,a9A,au,av] at *); omega))) J J ?_|refine b6 16 J J J J J J J J (DB _ _ (by first|omega|((try simp only [a0A,a1A,a2A,a3A,a4A,a5A,a6A,a7A,a8A,a9A,au,av] at *); omega)) (rX h)) J J ?_|refine b6 16 J J J J J J J J (DB _ _ (by first|omega|((try simp only [a0A,a1A,a2A,a3A,a4A,a5A,a6A,a7A,a8A,a9A,au,av] at *); omega)) (Nat.le_of_lt (rY h))) J J ?_|refine b6 16 J J J J J J J J (DF _ _ _ (by omega) (by omega) hb12) J J ?_)|refine ca aa J J J ?_)|refine ak ?_|refine aC ?_|refine ai (.inl J) J J ?_)
 ·exact congrArg cA (Fk h)
 ·exact congrArg cA (Fl ‹((s1,a1,b1).1 == (s2,a2,b2).1) = false› (rX h))
 ·exact congrArg cA (Fm ‹((s1,a1,b1).1 == (s2,a2,b2).1) = false› (rY h))
theorem Ke(s1 : Bool)(a1 b1 : Nat)(s2 : Bool)(a2 b2 : Nat)(hR : RatW a1 b1 a2 b2) : CallA Tryz.prog 292 [cA (s1,a1,b1),cA (s2,a2,b2)] [] (cA (gu (s1 != s2) (a1 * a2) (b1 * b2))) []:=by
 obtain ⟨⟨l1,l2,l3,l4⟩,m1,m2,m3,m4,m5,m6,m7,m8⟩:=hR.len
 have k3 : dwl (b1 * b2)≤300:=m3
 have k7 : dwl (a1 * a2)≤300:=m7
 have hb12 : b1 * b2≠0:=Nat.mul_ne_zero (by have:=hR.h1; omega) (by have:=hR.h2; omega)
 unfold cA
 refine enter ab Tryz.func292 rfl (by decide +kernel) rfl fun hok w0 σ0 φ0 M=>?_
 clear hok
 repeat' (first|(refine h6H ?_; first|refine ac ?_|(refine bC ?_; first|refine aM 0 J J J J J J ?_|refine aM 1 J J J J J J ?_)|(refine h5H ?_; refine ax ab 2 J J J J J ?_))|(refine h7H ?_; first|refine al ?_|refine ae ?_|refine am ?_|refine aR progOk.mo ?_)|(refine bP ?_; first|refine bG (by kernel_rfl) ?_|refine d_e aa J J J (aK J J) ?_|(refine h9H ?_; first|refine b6 16 J J J J J J J J (tk _ _ (by omega) (by omega)) J J ?_|refine b6 16 J J J J J J J J (DF _ _ _ (by omega) (by omega) hb12) J J ?_)|refine ca aa J J J ?_)|refine ak ?_|refine ai (.inl J) J J ?_)
 all_goals rfl
theorem Kf(s1 : Bool)(a1 b1 : Nat)(s2 : Bool)(a2 b2 : Nat)(hR : RatW a1 b1 a2 b2)(h0 : a2≠0) : CallA Tryz.prog 293 [cA (s1,a1,b1),cA (s2,a2,b2)] [] (.tup [(true,[.d (.bool (gu (s1 != s2) (a1 * b2) (b1 * a2)).1),.d (b8 (gu (s1 != s2) (a1 * b2) (b1 * a2)).2.1),.d (b8 (gu (s1 != s2) (a1 * b2) (b1 * a2)).2.2)]),(false,[.d (.int .i64 0)])]) []:=by
 obtain ⟨⟨l1,l2,l3,l4⟩,m1,m2,m3,m4,m5,m6,m7,m8⟩:=hR.len
 have k1 : dwl (a1 * b2)≤300:=m1
 have k8 : dwl (b1 * a2)≤300:=m8
 have hb12 : b1 * a2≠0:=Nat.mul_ne_zero (by have:=hR.h1; omega) h0
 have hz : ((((dw (s2,a2,b2).2.1).map aE).length : Int) == 0) = false:=by
  rw [gf h0]; simp; omega
 unfold cA
 refine enter ab Tryz.func293 rfl (by decide +kernel) rfl fun hok w0 σ0 φ0 M=>?_
 clear hok
 repeat' (first|(refine h6H ?_; first|refine ac ?_|refine ah ab J J J J J ?_|(refine bC ?_; first|refine aM 0 J J J J J J ?_|refine aM 1 J J J J J J ?_)|(refine h5H ?_; refine ax ab 2 J J J J J ?_))|(refine h7H ?_; first|refine al ?_|refine ae ?_|refine aw ?_|refine am ?_|refine aZ J (by assumption) ?_|refine aR progOk.mo ?_)|(refine bP ?_; first|refine bG (by kernel_rfl) ?_|refine d_e aa J J J (aK J J) ?_|(refine h9H ?_; first|refine b6 16 J J J J J J J J (tk _ _ (by omega) (by omega)) J J ?_|refine b6 16 J J J J J J J J (DF _ _ _ (by omega) (by omega) hb12) J J ?_)|refine ca aa J J J ?_)|refine ak ?_|refine ai (.inl J) J J ?_)
 all_goals first | rfl | skip
theorem Ip(s1 : Bool)(a1 b1 : Nat)(s2 : Bool)(a2 b2 : Nat)(h0 : a2 = 0) : CallA Tryz.prog 293 [cA (s1,a1,b1),cA (s2,a2,b2)] [] (.tup [(true,[.d (.bool false),.d .nil,.d .nil]),(false,[.d (.int .i64 2)])]) []:=by
 have hz : ((((dw (s2,a2,b2).2.1).map aE).length : Int) == 0) = true:=by
  rw [h0,eN]; rfl
 unfold cA
 refine enter ab Tryz.func293 rfl (by decide +kernel) rfl fun hok w0 σ0 φ0 M=>?_
 clear hok
 repeat' (first|(refine h6H ?_; first|refine ac ?_|refine ah ab J J J J J ?_|(refine bC ?_; first|refine aM 0 J J J J J J ?_|refine aM 1 J J J J J J ?_)|(refine h5H ?_; refine ax ab 2 J J J J J ?_)|refine aI aa J J J ?_)|(refine h7H ?_; first|refine al ?_|refine ae ?_|refine am ?_|refine bv J (by assumption) ?_)|refine ak ?_|refine aC ?_|refine ai (.inl J) J J ?_)
 all_goals first | rfl | skip
theorem DG{n : Nat} : ((((dw n).map aE).length : Int) == 0) = decide (n = 0):=by
 by_cases h : n = 0
 ·subst h; simp [eN]
 ·rw [gf h]; simp [h]; omega
theorem Kg(t : Bool×Nat×Nat) : CallA Tryz.prog 347 [cA t] [] (.one (.d (.int .i64 (if t.2.1 = 0 then 0 else if t.1 = true then -1 else 1)))) []:=by
 unfold cA
 refine enter ab Tryz.func347 rfl (by decide +kernel) rfl fun hok w0 σ0 φ0 M=>?_
 clear hok
 repeat' (first|(refine h6H ?_; first|refine ac ?_|refine ah ab J J J J J ?_|(refine bC ?_; refine aM 0 J J J J J J ?_))|(refine h7H ?_; first|refine al ?_|refine ae ?_|refine aw ?_|refine am ?_|refine aA J (fun h=>?_) (fun h=>?_))|refine ak ?_|refine aC ?_|refine ai (.inl J) J J ?_)
 ·rw [DG] at h; rw [if_pos (of_decide_eq_true h)]
 ·have h2:=‹((((dw t.2.1).map aE).length : Int) == 0) = false›
  rw [DG] at h2; rw [if_neg (of_decide_eq_false h2),if_pos h]
 ·have h2:=‹((((dw t.2.1).map aE).length : Int) == 0) = false›
  rw [DG] at h2; rw [if_neg (of_decide_eq_false h2),if_neg (by rw [h]; simp)]
def tu(t : Bool×Nat×Nat) : Bool×Nat×Nat:=(!t.1 && decide (t.2.1≠0),t.2.1,t.2.2)
theorem GV(t : Bool×Nat×Nat) : CallA Tryz.prog 239 [cA t] [] (cA (tu t)) []:=by
 unfold cA
 refine enter ab Tryz.func239 rfl (by decide +kernel) rfl fun hok w0 σ0 φ0 M=>?_
 clear hok
 repeat' (first|(refine h6H ?_; first|refine ac ?_|refine ah ab J J J J J ?_|(refine h0H ?_; first|refine aT J J (by first|assumption|rfl) ?_|refine bH J J (by first|assumption|rfl) J J ?_|refine bn J J J J (fun h=>?_) (fun h=>?_))|(refine h2H ?_; first|refine s_e aa J J J (aF J J (by first|rfl|assumption) J) ?_|refine s_e aa J J J (az J J (by first|rfl|assumption) J) ?_)|(refine bC ?_; refine aM 0 J J J J J J ?_)|(refine h5H ?_; refine ax ab 1 J J J J J ?_)|refine aI aa J J J ?_)|(refine h7H ?_; first|refine al ?_|refine ae ?_|refine am ?_)|refine ak ?_|refine ai (.inl J) J J ?_)
 ·unfold tu; rw [h,Bool.true_and,kX]
 ·have h' : (!t.1) = false:=h
  unfold tu; rw [h',Bool.false_and]
theorem DH{s1 s2 : Bool}{a1 b1 a2 b2 : Nat} : dP s1 a1 b1 (!s2 && decide (a2≠0)) a2 b2 false = dP s1 a1 b1 s2 a2 b2 true:=by
 by_cases h : a2 = 0
 ·subst h
  unfold dP gu
  cases s1 <;> cases s2 <;> simp
 ·have e : (!s2 && decide (a2≠0)) = !s2:=by simp [h]
  rw [e]
  unfold dP
  cases s1 <;> cases s2 <;> rfl
theorem GW(s1 : Bool)(a1 b1 : Nat)(s2 : Bool)(a2 b2 : Nat)(hR : RatW a1 b1 a2 b2) : CallA Tryz.prog 291 [cA (s1,a1,b1),cA (s2,a2,b2)] [] (cA (dP s1 a1 b1 s2 a2 b2 true)) []:=by
 have hadd:=GT s1 a1 b1 (!s2 && decide (a2≠0)) a2 b2 hR
 rw [DH] at hadd
 unfold cA at hadd ⊢
 refine enter ab Tryz.func291 rfl (by decide +kernel) rfl fun hok w0 σ0 φ0 M=>?_
 clear hok
 repeat' (first|(refine h6H ?_; first|refine ac ?_|(refine bC ?_; first|refine aM 0 J J J J J J ?_|refine aM 1 J J J J J J ?_)|(refine h5H ?_; refine ax ab 2 J J J J J ?_))|(refine h7H ?_; first|refine al ?_|refine ae ?_|refine am ?_|refine aR progOk.mo ?_)|(refine bP ?_; first|refine bG (by kernel_rfl) ?_|refine d_e aa J J J (aK J J) ?_|(refine h9H ?_; first|refine b6 16 J J J J J J J J (GV _) J J ?_|refine b6 16 J J J J J J J J (hadd) J J ?_)|refine ca aa J J J ?_)|refine ak ?_|refine ai (.inl J) J J ?_)
 all_goals first | rfl | skip
theorem DI{t : Bool×Nat×Nat}(h : t.2.2≠0) : (if t.2.1 = 0 then (0 : Int) else if t.1 = true then -1 else 1) = lL t:=by
 unfold lL
 by_cases h2 : t.2.1 = 0
 ·rw [if_pos h2,if_pos (.inr h2)]
 ·simp [h,h2]
theorem Kh(s1 : Bool)(a1 b1 : Nat)(s2 : Bool)(a2 b2 : Nat)(hR : RatW a1 b1 a2 b2) : CallA Tryz.prog 289 [cA (s1,a1,b1),cA (s2,a2,b2)] [] (.one (.d (.int .i64 (lL (dP s1 a1 b1 s2 a2 b2 true))))) []:=by
 rw [← DI (ra (by have:=hR.h1; omega) (by have:=hR.h2; omega))]
 unfold cA
 refine enter ab Tryz.func289 rfl (by decide +kernel) rfl fun hok w0 σ0 φ0 M=>?_
 clear hok
 repeat' (first|(refine h6H ?_; first|refine ac ?_|refine ah ab J J J J J ?_|(refine h4H ?_; first|refine ag J J J J J J J J (Kg _) J ?_|refine ba 16 J J J J J J J J (GW _ _ _ _ _ _ hR) J J J ?_)|(refine bC ?_; first|refine aM 0 J J J J J J ?_|refine aM 1 J J J J J J ?_))|(refine h7H ?_; first|refine al ?_|refine ae ?_|refine am ?_)|refine ak ?_|refine ai (.inl J) J J ?_)
 all_goals first | rfl | skip
theorem zY(r : Int) : CallA Tryz.prog 286 [.one (.d (.int .i64 r))] [] (bD ⟨0,r,0,[]⟩) []:=by
 refine enter ab Tryz.func286 rfl (by decide +kernel) rfl fun hok w0 σ0 φ0 M=>?_
 clear hok
 repeat' (first|(refine h6H ?_; first|refine ac ?_|refine ah ab J J J J J ?_|(refine h5H ?_; refine ax ab 0 J J J J J ?_)|refine aI aa J J J ?_)|(refine h7H ?_; first|refine al ?_|refine ae ?_|refine am ?_)|refine ak ?_|refine ai (.inl J) J J ?_)
 all_goals rfl
theorem kx(b : Bool) : CallA Tryz.prog 237 [.one (.d (.bool b))] [] (bD (aY b)) []:=by
 refine enter ab Tryz.func237 rfl (by decide +kernel) rfl fun hok w0 σ0 φ0 M=>?_
 clear hok
 repeat' (first|(refine h6H ?_; first|refine ac ?_|refine ah ab J J J J J ?_|(refine h5H ?_; refine ax ab 0 J J J J J ?_)|refine aI aa J J J ?_)|(refine h7H ?_; first|refine al ?_|refine ae ?_|refine aw ?_|refine am ?_|refine aA J (fun h=>?_) (fun h=>?_))|refine ak ?_|refine aC ?_|refine ai (.inl J) J J ?_)
 all_goals first | rfl | (simp_all [bD,aY]; done)
end Go.Proofs.YtpejdgkaapnekaaGreat
namespace Go.Proofs.YtpejdgkaapnekaaGreat
open Go Go.Abs
attribute [local irreducible] ao OkC aU bg aV bA
set_option maxRecDepth 10000
theorem IM(n : Int)(h0 : -1099511627776≤n)(h1 : n≤1099511627776) : CallA Tryz.prog 267 [.one (.d (.int .i64 n))] [] (.one (.d (b8 n.natAbs))) []:=by
 have:=GD n h0 h1
 rw [show max n (-n) = ((n.natAbs : Nat) : Int) by omega,iY (by omega)] at this
 exact this
theorem EJ : CallA Tryz.prog 268 [.one (.d (.int .u64 1099511627776))] [] (.one (.d (b8 1099511627776))) []:=AH 1099511627776 (by omega)
theorem vw(n : Nat)(h : n≤1099511627776) : CallA Tryz.prog 285 [.one (.d (b8 n))] [] (.tup [(false,[.d (.int .i64 n)]),(false,[.d (.bool true)])]) []:=by
 have hc : decide (0 < gR n 1099511627776) = false:=by
  rcases Nat.lt_or_ge n 1099511627776 with h2 | h2
  ·rw [hJ h2]; rfl
  ·rw [jK (by omega)]; rfl
 have hd:=yL (z:=(n : Int)) (by omega) (by omega)
 rw [iY (by omega)] at hd
 obtain ⟨q1,q2,q3,q4,q5⟩:=hd
 have q6 : at_ (dw n) 1≤1100:=by omega
 refine enter ab Tryz.func285 rfl (by decide +kernel) rfl fun hok w0 σ0 φ0 M=>?_
 clear hok
 repeat' (first|(refine h6H ?_; first|refine ac ?_|refine ah ab J J J J J ?_|(refine h1H ?_; refine s_e aa J J J (aL J J J J (cJ (by first|omega|((try simp only [a0A,a1A,a2A,a3A,a4A,a5A,a6A,a7A,a8A,a9A,au,av] at *); omega)) (by first|omega|((try simp only [a0A,a1A,a2A,a3A,a4A,a5A,a6A,a7A,a8A,a9A,au,av] at *); omega)))) ?_)|(refine s9 ?_; refine s_e aa J J J (lM J J J J (cJ (by first|omega|((try simp only [a0A,a1A,a2A,a3A,a4A,a5A,a6A,a7A,a8A,a9A,au,av] at *); omega)) (by first|omega|((try simp only [a0A,a1A,a2A,a3A,a4A,a5A,a6A,a7A,a8A,a9A,au,av] at *); omega)))) ?_)|(refine fH ?_; refine s_e aa J J J (c7 J J J J (aN (by first|omega|((try simp only [a0A,a1A,a2A,a3A,a4A,a5A,a6A,a7A,a8A,a9A,au,av] at *); omega)) (by first|omega|((try simp only [a0A,a1A,a2A,a3A,a4A,a5A,a6A,a7A,a8A,a9A,au,av] at *); omega)))) ?_)|(refine h4H ?_; first|refine ag J J J J J J J J (vk _ _) J ?_|refine ag J J J J J J J J (pQ _ _ (fz n).1) J ?_|refine ba 16 J J J J J J J J (EJ) J J J ?_))|(refine h7H ?_; first|refine al ?_|refine ae ?_|refine aw ?_|refine am ?_|refine aZ J (by assumption) ?_)|refine ak ?_|refine ai (.inl J) J J ?_)
 all_goals (rw [q1])
theorem vz(n : Nat)(h : ¬ n≤1099511627776) : CallA Tryz.prog 285 [.one (.d (b8 n))] [] (.tup [(false,[.d (.int .i64 0)]),(false,[.d (.bool false)])]) []:=by
 have hc : decide (0 < gR n 1099511627776) = true:=by
  rw [hU (by omega)]; rfl
 refine enter ab Tryz.func285 rfl (by decide +kernel) rfl fun hok w0 σ0 φ0 M=>?_
 clear hok
 repeat' (first|(refine h6H ?_; first|refine ac ?_|refine ah ab J J J J J ?_|(refine h4H ?_; first|refine ag J J J J J J J J (vk _ _) J ?_|refine ba 16 J J J J J J J J (EJ) J J J ?_))|(refine h7H ?_; first|refine al ?_|refine ae ?_|refine am ?_|refine bv J (by assumption) ?_)|refine ak ?_|refine aC ?_|refine ai (.inl J) J J ?_)
 all_goals rfl
theorem D7(t : Bool×Nat×Nat) : CallA Tryz.prog 238 [cA t] [] (bD (vP3 t)) []:=by
 obtain ⟨s,a,b⟩:=t
 unfold cA vP3 vP
 simp only
 by_cases ha : a≤1099511627776
 ·by_cases hb : b≤1099511627776
  ·rw [if_pos ⟨ha,hb⟩]
   refine enter ab Tryz.func238 rfl (by decide +kernel) rfl fun hok w0 σ0 φ0 M=>?_
   clear hok
   repeat' (first|(refine h6H ?_; first|refine ac ?_|refine ah ab J J J J J ?_|(refine h0H ?_; refine aT J J (by first|assumption|rfl) ?_)|(refine rb ?_; refine s_e aa J J J (o9 J J (aN (by omega) (by omega))) ?_)|(refine h2H ?_; refine s_e aa J J J (az J J (by first|rfl|assumption) J) ?_)|(refine h4H ?_; first|refine ag J J J J J J J J (vw _ ha) J ?_|refine ag J J J J J J J J (vw _ hb) J ?_)|(refine bC ?_; refine aM 0 J J J J J J ?_)|(refine h5H ?_; refine ax ab 1 J J J J J ?_)|refine aI aa J J J ?_)|(refine h7H ?_; first|refine al ?_|refine ae ?_|refine aw ?_|refine am ?_|refine bm J ?_|refine aA J (fun h=>?_) (fun h=>?_))|refine ak ?_|refine ai (.inl J) J J ?_)
   ·rw [if_pos h,Int.zero_sub]; rfl
   ·rw [if_neg (by rw [h]; simp)]; rfl
  ·rw [if_neg (fun h=>hb h.2)]
   refine enter ab Tryz.func238 rfl (by decide +kernel) rfl fun hok w0 σ0 φ0 M=>?_
   clear hok
   repeat' (first|(refine h6H ?_; first|refine ac ?_|refine ah ab J J J J J ?_|(refine h0H ?_; refine aT J J (by first|assumption|rfl) ?_)|(refine h2H ?_; refine s_e aa J J J (az J J (by first|rfl|assumption) J) ?_)|(refine h4H ?_; first|refine ag J J J J J J J J (vw _ ha) J ?_|refine ag J J J J J J J J (vz _ hb) J ?_|refine ag J J J J J J J J (zY _) J ?_)|(refine bC ?_; refine aM 0 J J J J J J ?_)|(refine h5H ?_; refine ax ab 1 J J J J J ?_)|refine aI aa J J J ?_)|(refine h7H ?_; first|refine al ?_|refine ae ?_|refine am ?_|refine bc J ?_)|refine ak ?_|refine aC ?_|refine ai (.inl J) J J ?_)
   all_goals rfl
 ·rw [if_neg (fun h=>ha h.1)]
  by_cases hb : b≤1099511627776
  ·refine enter ab Tryz.func238 rfl (by decide +kernel) rfl fun hok w0 σ0 φ0 M=>?_
   clear hok
   repeat' (first|(refine h6H ?_; first|refine ac ?_|refine ah ab J J J J J ?_|(refine h0H ?_; refine bH J J (by first|assumption|rfl) J J ?_)|(refine h2H ?_; refine s_e aa J J J (aF J J (by first|rfl|assumption) J) ?_)|(refine h4H ?_; first|refine ag J J J J J J J J (vw _ hb) J ?_|refine ag J J J J J J J J (vz _ ha) J ?_|refine ag J J J J J J J J (zY _) J ?_)|(refine bC ?_; refine aM 0 J J J J J J ?_)|(refine h5H ?_; refine ax ab 1 J J J J J ?_)|refine aI aa J J J ?_)|(refine h7H ?_; first|refine al ?_|refine ae ?_|refine am ?_|refine bc J ?_)|refine ak ?_|refine aC ?_|refine ai (.inl J) J J ?_)
   all_goals rfl
  ·refine enter ab Tryz.func238 rfl (by decide +kernel) rfl fun hok w0 σ0 φ0 M=>?_
   clear hok
   repeat' (first|(refine h6H ?_; first|refine ac ?_|refine ah ab J J J J J ?_|(refine h0H ?_; refine bH J J (by first|assumption|rfl) J J ?_)|(refine h2H ?_; refine s_e aa J J J (aF J J (by first|rfl|assumption) J) ?_)|(refine h4H ?_; first|refine ag J J J J J J J J (vz _ ha) J ?_|refine ag J J J J J J J J (vz _ hb) J ?_|refine ag J J J J J J J J (zY _) J ?_)|(refine bC ?_; refine aM 0 J J J J J J ?_)|(refine h5H ?_; refine ax ab 1 J J J J J ?_)|refine aI aa J J J ?_)|(refine h7H ?_; first|refine al ?_|refine ae ?_|refine am ?_|refine bc J ?_)|refine ak ?_|refine aC ?_|refine ai (.inl J) J J ?_)
   all_goals rfl
theorem IN : CallA Tryz.prog 268 [.one (.d (.int .u64 1))] [] (.one (.d (b8 1))) []:=AH 1 (by omega)
theorem Kl(t : Bool×Nat×Nat)(q : Nat)(hqe : q = if t.1 = true∧t.2.1 % t.2.2≠0 then t.2.1 / t.2.2 + 1 else t.2.1 / t.2.2)(hb : 0 < t.2.2)(hm : dwl t.2.1≤300)(hn : dwl t.2.2≤300)(hq : (dw (t.2.1 / t.2.2)).length≤400) : CallA Tryz.prog 240 [cA t] [] (cA (t.1 && decide (q≠0),q,1)) []:=by
 have h1 : (dw 1).length≤400:=zU (by omega)
 unfold cA
 refine enter ab Tryz.func240 rfl (by decide +kernel) rfl fun hok w0 σ0 φ0 M=>?_
 clear hok
 repeat' (first|(refine h6H ?_; first|refine ac ?_|refine ah ab J J J J J ?_|(refine h0H ?_; first|refine aT J J (by first|assumption|rfl) ?_|refine bH J J (by first|assumption|rfl) J J ?_|refine bn J J J J (fun h=>?_) (fun h=>?_))|(refine h2H ?_; first|refine s_e aa J J J (aF J J (by first|rfl|assumption) J) ?_|refine s_e aa J J J (az J J (by first|rfl|assumption) J) ?_)|(refine h4H ?_; first|refine ba 16 J J J J J J J J (vm _ _ hm hb hn) J J J ?_|refine ba 16 J J J J J J J J (GU _ _ (by omega) h1) J J J ?_|refine ba 16 J J J J J J J J (IN) J J J ?_)|(refine bC ?_; refine aM 0 J J J J J J ?_)|(refine h5H ?_; refine ax ab 1 J J J J J ?_)|refine aI aa J J J ?_)|(refine h7H ?_; first|refine al ?_|refine ae ?_|refine aw ?_|refine am ?_|refine bm J ?_|refine aA J (fun h=>?_) (fun h=>?_))|refine ak ?_|refine ai (.inl J) J J ?_)
 ·rw [if_pos ⟨‹t.1 = true›,nR h⟩] at hqe
  subst hqe
  rw [kX,‹t.1 = true›,Bool.true_and]; rfl
 ·rw [if_neg (fun hc=>hc.2 (uz h))] at hqe
  subst hqe
  rw [kX,‹t.1 = true›,Bool.true_and]; rfl
 ·have h' : t.1 = false:=h
  rw [if_neg (fun hc=>by rw [h'] at hc; cases hc.1)] at hqe
  subst hqe
  rw [h']; rfl
def c8(v : Val) : Bool×Nat×Nat:=(ngV v,naV v,dnV v)
theorem sI(v : Val)(h : aH v = true) : CallA Tryz.prog 227 [bD v] [] (.one (.d (.int .i64 0))) []:=by
 have:=zN v.kind v.num v.den v.str
 have h' : dU v.kind v.num v.den v.str = true:=h
 rw [if_pos h'] at this; exact this
theorem eU(v : Val)(hr : aH v = true)(hk : v.kind = 2) : CallA Tryz.prog 236 [bD v] [] (.tup [(true,[.d (.bool (ngV v)),.d (b8 (naV v)),.d (b8 (dnV v))]),(false,[.d (.bool true)])]) []:=by
 obtain ⟨q1,q2,q3,q4⟩:=i6 hr hk
 have q5 : -1099511627776≤v.num∧v.num≤1099511627776:=by unfold naV at q1; omega
 have hk2 : (v.kind != 2) = false:=by simp [hk]
 have hcall:=sI v hr
 unfold bD at hcall ⊢
 refine enter ab Tryz.func236 rfl (by decide +kernel) rfl fun hok w0 σ0 φ0 M=>?_
 clear hok
 repeat' (first|(refine h6H ?_; first|refine ac ?_|refine ah ab J J J J J ?_|(refine h0H ?_; refine aT J J (by first|assumption|rfl) ?_)|(refine h2H ?_; refine s_e aa J J J (az J J (by first|rfl|assumption) J) ?_)|(refine h4H ?_; refine ag J J J J J J J J (sI v hr) J ?_)|(refine bC ?_; refine aM 0 J J J J J J ?_)|(refine h5H ?_; refine ax ab 1 J J J J J ?_))|(refine h7H ?_; first|refine al ?_|refine ae ?_|refine aw ?_|refine am ?_|refine aZ J (by assumption) ?_|refine aR progOk.mo ?_)|(refine bP ?_; first|refine bG (by kernel_rfl) ?_|refine d_e aa J J J (aK J J) ?_|(refine h9H ?_; refine b6 16 J J J J J J J J (IM _ (by omega) (by omega)) J J ?_)|refine ca aa J J J ?_)|refine ak ?_|refine ai (.inl J) J J ?_)
 all_goals rfl
theorem kF(v : Val)(hr : aH v = true)(hk : v.kind≠2) : CallA Tryz.prog 236 [bD v] [] (.tup [(true,[.d (.bool false),.d .nil,.d .nil]),(false,[.d (.bool false)])]) []:=by
 have hk2 : (v.kind != 2) = true:=by simp [hk]
 unfold bD
 refine enter ab Tryz.func236 rfl (by decide +kernel) rfl fun hok w0 σ0 φ0 M=>?_
 clear hok
 repeat' (first|(refine h6H ?_; first|refine ac ?_|refine ah ab J J J J J ?_|(refine h0H ?_; refine aT J J (by first|assumption|rfl) ?_)|(refine h2H ?_; refine s_e aa J J J (az J J (by first|rfl|assumption) J) ?_)|(refine h4H ?_; refine ag J J J J J J J J (sI v hr) J ?_)|(refine bC ?_; refine aM 0 J J J J J J ?_)|(refine h5H ?_; refine ax ab 1 J J J J J ?_)|refine aI aa J J J ?_)|(refine h7H ?_; first|refine al ?_|refine ae ?_|refine am ?_|refine bv J (by assumption) ?_)|refine ak ?_|refine aC ?_|refine ai (.inl J) J J ?_)
 all_goals first | rfl | skip
theorem NumOk.w{x y : Val}(h : NumOk x)(h' : NumOk y) : RatW (naV x) (dnV x) (naV y) (dnV y):=⟨h.b,h'.b,h.a,h'.a⟩
theorem gV{v : Val}(hr : aH v = true)(hk : v.kind = 2) : NumOk v:=by
 obtain ⟨q1,q2,q3,_⟩:=i6 hr hk
 exact ⟨q1,q2,q3⟩
theorem tS{a b : Int}(h : a = b) : ¬ sgF a b≠0:=by subst h; simp [sgF]
theorem A4{a b : Int}(h : a < b) : sgF a b = -1:=if_pos h
theorem A5{a b : Int}(h : b < a) : sgF a b = 1:=by unfold sgF; rw [if_neg (by omega),if_pos h]
theorem iOx{a b : Int}(h : a = b) : sgF a b = 0:=by subst h; simp [sgF]
theorem F5{a b : Val}(hk : a.kind = b.kind)(h2 : a.kind = 2) : lL (dP (ngV a) (naV a) (dnV a) (ngV b) (naV b) (dnV b) true) = gD a b:=by unfold gD; rw [if_neg (tS hk),if_pos h2]
theorem tT{a b : Val}(hk : a.kind = b.kind)(h3 : a.kind = 3) : kH a.str b.str = gD a b:=by unfold gD; rw [if_neg (tS hk),if_neg (by omega),if_pos h3]
theorem tU{a b : Val}(hk : a.kind = b.kind)(h2 : ¬ a.kind = 2)(h3 : ¬ a.kind = 3) : sgF a.num b.num = gD a b:=by unfold gD; rw [if_neg (tS hk),if_neg h2,if_neg h3]
theorem xP{a b : Val}(hk : ¬ a.kind = b.kind) : sgF a.kind b.kind = gD a b:=by
 have h : sgF a.kind b.kind≠0:=by
  rcases Int.lt_or_lt_of_ne hk with h | h
  ·rw [A4 h]; decide
  ·rw [A5 h]; decide
 unfold gD; rw [if_pos h]
theorem sL(a b : Val)(hra : aH a = true)(hrb : aH b = true) : CallA Tryz.prog 241 [bD a,bD b] [] (.one (.d (.int .i64 (gD a b)))) []:=by
 unfold bD
 refine enter ab Tryz.func241 rfl (by decide +kernel) rfl fun hok w0 σ0 φ0 M=>?_
 clear hok
 repeat' (first|(refine h6H ?_; first|refine ac ?_|refine ah ab J J J J J ?_|(refine h0H ?_; refine aT J J (by first|assumption|rfl) ?_)|(refine h2H ?_; refine s_e aa J J J (az J J (by first|rfl|assumption) J) ?_)|(refine h4H ?_; first|refine ag J J J J J J J J (sI a hra) J ?_|refine ag J J J J J J J J (sI b hrb) J ?_|refine ag J J J J J J J J (Kh _ _ _ _ _ _ (NumOk.w (gV hra (by simpa using ‹(a.kind == 2) = true›)) (gV hrb (by simp_all)))) J ?_|refine ba 16 J J J J J J J J (eU a hra (by simpa using ‹(a.kind == 2) = true›)) J J J ?_|refine ba 16 J J J J J J J J (eU b hrb (by simp_all)) J J J ?_)|(refine bC ?_; first|refine aM 0 J J J J J J ?_|refine aM 1 J J J J J J ?_)|(refine h5H ?_; first|refine ax ab 2 J J J J J ?_|refine ax ab 3 J J J J J ?_)|refine aI aa J J J ?_)|(refine h7H ?_; first|refine al ?_|refine ae ?_|refine ay ?_|refine aw ?_|refine am ?_|refine bm J ?_|refine aA J (fun h=>?_) (fun h=>?_)|refine aR progOk.mo ?_)|(refine bP ?_; first|refine bG (by kernel_rfl) ?_|refine d_e aa J J J (aK J J) ?_)|refine ak ?_|refine aC ?_|refine aG ?_|refine aP ?_|refine ai (.inl J) J J ?_)
 ·exact congrArg (fun x=>AV.one (.d (.int .i64 x))) (F5 (by simpa using ‹(a.kind == b.kind) = true›) (by simpa using h))
 ·rw [← tT (by simpa using ‹(a.kind == b.kind) = true›) (by simpa using ‹(a.kind == 3) = true›)]
  unfold kH; rw [if_pos h]
 ·rw [← tT (by simpa using ‹(a.kind == b.kind) = true›) (by simpa using ‹(a.kind == 3) = true›)]
  unfold kH; rw [if_neg (by rw [‹Op.bytesLess a.str b.str = false›]; simp),if_pos h]
 ·rw [← tT (by simpa using ‹(a.kind == b.kind) = true›) (by simpa using ‹(a.kind == 3) = true›)]
  unfold kH; rw [if_neg (by rw [‹Op.bytesLess a.str b.str = false›]; simp),if_neg (by rw [h]; simp)]
 ·rw [← tU (by simpa using ‹(a.kind == b.kind) = true›) (by simpa using ‹(a.kind == 2) = false›) (by simpa using ‹(a.kind == 3) = false›),A4 (of_decide_eq_true h)]
 ·rw [← tU (by simpa using ‹(a.kind == b.kind) = true›) (by simpa using ‹(a.kind == 2) = false›) (by simpa using ‹(a.kind == 3) = false›),A5 (of_decide_eq_true h)]
 ·have h1:=of_decide_eq_false ‹decide (a.num < b.num) = false›
  have h2:=of_decide_eq_false h
  rw [← tU (by simpa using ‹(a.kind == b.kind) = true›) (by simpa using ‹(a.kind == 2) = false›) (by simpa using ‹(a.kind == 3) = false›),iOx (by omega)]
 ·rw [← xP (by simpa using ‹(a.kind == b.kind) = false›),A4 (of_decide_eq_true h)]
 ·rw [← xP (by simpa using ‹(a.kind == b.kind) = false›),A5 (of_decide_eq_true h)]
 ·have h1:=of_decide_eq_false ‹decide (a.kind < b.kind) = false›
  have h2:=of_decide_eq_false h
  have h3 : ¬ a.kind = b.kind:=by simpa using ‹(a.kind == b.kind) = false›
  omega
def arW(op : Int)(x y : Bool×Nat×Nat) : Bool×Nat×Nat:=if op = 9 then dP x.1 x.2.1 x.2.2 y.1 y.2.1 y.2.2 false else if op = 10 then dP x.1 x.2.1 x.2.2 y.1 y.2.1 y.2.2 true else if op = 11 then gu (x.1 != y.1) (x.2.1 * y.2.1) (x.2.2 * y.2.2) else gu (x.1 != y.1) (x.2.1 * y.2.2) (x.2.2 * y.2.1)
theorem Mb{op : Int}(hop : 9≤op∧op≤12)(h1 : (op == 9) = false)(h2 : (op == 10) = false)(h3 : (op == 11) = false) : op = 12:=by
 have h1 : op≠9:=by simpa using h1
 have h2 : op≠10:=by simpa using h2
 have h3 : op≠11:=by simpa using h3
 omega
theorem z7(op : Int)(x y : Bool×Nat×Nat)(hop : 9≤op∧op≤12)(hR : RatW x.2.1 x.2.2 y.2.1 y.2.2)(h0 : op = 12→y.2.1≠0) : CallA Tryz.prog 242 [.one (.d (.int .i64 op)),cA x,cA y] [] (bD (vP3 (arW op x y))) []:=by
 unfold cA
 refine enter ab Tryz.func242 rfl (by decide +kernel) rfl fun hok w0 σ0 φ0 M=>?_
 clear hok
 repeat' (first|(refine h6H ?_; first|refine ac ?_|refine ah ab J J J J J ?_|(refine h4H ?_; first|refine ag J J J J J J J J (D7 _) J ?_|refine ba 16 J J J J J J J J (GT _ _ _ _ _ _ hR) J J J ?_|refine ba 16 J J J J J J J J (GW _ _ _ _ _ _ hR) J J J ?_|refine ba 16 J J J J J J J J (Ke _ _ _ _ _ _ hR) J J J ?_|refine ba 16 J J J J J J J J (Kf _ _ _ _ _ _ hR (h0 (Mb hop ‹(op == 9) = false› ‹(op == 10) = false› ‹(op == 11) = false›))) J J J ?_)|(refine bC ?_; first|refine aM 0 J J J J J J ?_|refine aM 1 J J J J J J ?_)|(refine h5H ?_; first|refine ax ab 2 J J J J J ?_|refine ax ab 3 J J J J J ?_)|refine aI aa J J J ?_)|(refine h7H ?_; first|refine al ?_|refine ae ?_|refine ay ?_|refine aw ?_|refine am ?_|refine bm J ?_|refine aA J (fun h=>?_) (fun h=>?_))|refine ak ?_|refine aC ?_|refine aG ?_|refine aP ?_|refine ai (.inl J) J J ?_)
 ·unfold arW; rw [if_pos (by simpa using h)]; rfl
 ·unfold arW; rw [if_neg (by simpa using ‹(op == 9) = false›),if_pos (by simpa using h)]; rfl
 ·unfold arW; rw [if_neg (by simpa using ‹(op == 9) = false›),if_neg (by simpa using ‹(op == 10) = false›),if_pos (by simpa using h)]; rfl
 ·unfold arW; rw [if_neg (by simpa using ‹(op == 9) = false›),if_neg (by simpa using ‹(op == 10) = false›),if_neg (by simpa using h)]; rfl
theorem Is(x y : Bool×Nat×Nat)(h0 : y.2.1 = 0) : CallA Tryz.prog 242 [.one (.d (.int .i64 12)),cA x,cA y] [] (bD ⟨0,3,0,[]⟩) []:=by
 unfold cA
 refine enter ab Tryz.func242 rfl (by decide +kernel) rfl fun hok w0 σ0 φ0 M=>?_
 clear hok
 repeat' (first|(refine h6H ?_; first|refine ac ?_|refine ah ab J J J J J ?_|(refine h4H ?_; first|refine ag J J J J J J J J (Ip _ _ _ _ _ _ h0) J ?_|refine ag J J J J J J J J (zY _) J ?_)|(refine bC ?_; first|refine aM 0 J J J J J J ?_|refine aM 1 J J J J J J ?_)|(refine h5H ?_; first|refine ax ab 2 J J J J J ?_|refine ax ab 3 J J J J J ?_)|refine aI aa J J J ?_)|(refine h7H ?_; first|refine al ?_|refine ae ?_|refine ay ?_|refine aw ?_|refine am ?_|refine bc J ?_|refine bm J ?_)|refine ak ?_|refine aC ?_|refine aG ?_|refine ai (.inl J) J J ?_)
 all_goals rfl
theorem DR(v : Val)(k : Int) : CallA Tryz.prog 283 [bD v,.one (.d (.int .i64 k))] [] (.one (.d (.bool (isV v k)))) []:=by
 unfold bD
 refine enter ab Tryz.func283 rfl (by decide +kernel) rfl fun hok w0 σ0 φ0 M=>?_
 clear hok
 repeat' (first|(refine h6H ?_; first|refine ac ?_|refine ah ab J J J J J ?_|(refine h0H ?_; first|refine aT J J (by first|assumption|rfl) ?_|refine bH J J (by first|assumption|rfl) J J ?_|refine bn J J J J (fun h=>?_) (fun h=>?_))|(refine h2H ?_; first|refine s_e aa J J J (aF J J (by first|rfl|assumption) J) ?_|refine s_e aa J J J (az J J (by first|rfl|assumption) J) ?_)|(refine bC ?_; refine aM 0 J J J J J J ?_))|(refine h7H ?_; first|refine al ?_|refine ae ?_|refine am ?_)|refine ak ?_|refine ai (.inl J) J J ?_)
 all_goals first | rfl | (simp_all [isV]; done)
def sJ(a b : Val) : Bool:=a.kind == 0 || (b.kind == 0 || a.kind == b.kind)
theorem Ht(a b : Val) : CallA Tryz.prog 284 [bD a,bD b] [] (.one (.d (.bool (sJ a b)))) []:=by
 unfold bD
 refine enter ab Tryz.func284 rfl (by decide +kernel) rfl fun hok w0 σ0 φ0 M=>?_
 clear hok
 repeat' (first|(refine h6H ?_; first|refine ac ?_|refine ah ab J J J J J ?_|(refine h0H ?_; first|refine aT J J (by first|assumption|rfl) ?_|refine bH J J (by first|assumption|rfl) J J ?_|refine bn J J J J (fun h=>?_) (fun h=>?_))|(refine h2H ?_; first|refine s_e aa J J J (aF J J (by first|rfl|assumption) J) ?_|refine s_e aa J J J (az J J (by first|rfl|assumption) J) ?_)|(refine bC ?_; first|refine aM 0 J J J J J J ?_|refine aM 1 J J J J J J ?_))|(refine h7H ?_; first|refine al ?_|refine ae ?_|refine am ?_)|refine ak ?_|refine ai (.inl J) J J ?_)
 all_goals first | rfl | (refine congrArg (fun x=>AV.one (.d (.bool x))) ?_; rw [Bool.eq_iff_iff]; simp_all [sJ]; done)
theorem rl{a b : Val} : sJ a b = gc a b:=by
 unfold sJ gc isV
 rw [Bool.eq_iff_iff]
 simp
 omega
end Go.Proofs.YtpejdgkaapnekaaGreat
