import Derived.Shelf.Small.Strs
import Derived.Test.YtpejdgkaapnekaaGreatFP23
import Derived.Test.YtpejdgkaapnekaaGreatFP14
import Derived.Test.YtpejdgkaapnekaaGreatFP20
import Derived.Test.YtpejdgkaapnekaaGreatFTab
set_option linter.unusedVariables false
set_option linter.unusedSimpArgs false
set_option maxHeartbeats 1000000
namespace Go.Proofs.YtpejdgkaapnekaaGreat
open Go Go.Abs
attribute [local irreducible] ao OkC aU bg aV bA
set_option maxRecDepth 10000
theorem H4(m n : Nat)(h : m < n) : CallA Tryz.prog 355 [.one (.d (bU m)),.one (.d (bU n))] [] (.tup [(false,[.d (bU (m / n))]),(false,[.d (bU (m % n))])]) []:=by
 have hc : decide (gR m n < 0) = true:=by rw [hJ h]; rfl
 rw [Nat.div_eq_of_lt h,Nat.mod_eq_of_lt h,show bU 0 = .sl 1 4 [] by unfold bU cY; rw [fw]; rfl]
 refine enter ab Tryz.func355 rfl (by decide +kernel) rfl fun hok w0 σ0 φ0 M=>?_
 clear hok
 repeat' (first|(refine h6H ?_; first|refine ac ?_|refine ah ab J J J J J ?_|(refine h4H ?_; refine ag J J J J J J J J (ta _ _) J ?_))|(refine h7H ?_; first|refine dI (sQ (s:=4) (k:=1) (b:=4) J) (am ?_)|refine al ?_|refine ae ?_|refine bv J (by assumption) ?_)|refine ak ?_|refine aC ?_|refine ai (.inl J) J J ?_)
 all_goals rfl
theorem yH{m n : Nat}(h : n≤m) : decide (gR m n < 0) = false:=by
 rcases Nat.lt_or_ge n m with h2 | h2
 ·rw [hU h2]; rfl
 ·rw [jK (by omega)]; rfl
theorem JD{n : Nat}(h : (dig n).length = 1) : at_ (dig n) 0 = (n : Int)∧0 < n∧n < 4294967296:=by
 obtain ⟨h1,h2,h3⟩:=cP n
 match hd : dig n,h with
 | [d],_ =>
   rw [hd] at h1 h2 h3
   simp only [aq] at h2
   have h4:=h1 d List.mem_cons_self
   have h5 : d≠0:=by
    rcases h3 with h3 | h3
    ·cases h3
    ·exact h3
   show d = _∧_
   omega
theorem H5(m n : Nat)(d : Int)(hd : d = (n : Int))(hm : (dig m).length≤400)(hn : 0 < n∧n < 4294967296) : CallA Tryz.prog 371 [.one (.d (bU m)),.one (.d (.int .u32 d))] [] (.tup [(false,[.d (bU (m / n))]),(false,[.d (.int .u32 (m % n : Nat))])]) []:=by
 subst hd; exact JE m n hm hn
theorem H6(m n : Nat)(h : n≤m)(hl : (dig n).length = 1)(hm : (dig m).length≤400) : CallA Tryz.prog 355 [.one (.d (bU m)),.one (.d (bU n))] [] (.tup [(false,[.d (bU (m / n))]),(false,[.d (bU (m % n))])]) []:=by
 have hc:=yH h
 obtain ⟨e1,en⟩:=JD hl
 have hlr : ((dig n).map aE).length = 1:=by simpa using hl
 have hb : ((((dig n).map aE).length : Int) == 1) = true:=by rw [hlr]; rfl
 have hmod : m % n < 4294967296:=Nat.lt_trans (Nat.mod_lt _ en.1) en.2
 refine enter ab Tryz.func355 rfl (by decide +kernel) rfl fun hok w0 σ0 φ0 M=>?_
 clear hok
 repeat' (first|(refine h6H ?_; first|refine ac ?_|refine ah ab J J J J J ?_|(refine fH ?_; refine s_e aa J J J (c7 J J J J (cJ (by omega) (by omega))) ?_)|(refine h3H ?_; refine s_e aa J J J (ar J J J J J (by omega) (aJ (by omega))) ?_)|(refine h4H ?_; first|refine ag J J J J J J J J (ta _ _) J ?_|refine ba 16 J J J J J J J J (H5 _ n _ e1 hm en) J J J ?_|refine ba 16 J J J J J J J J (Gs _ (by omega)) J J J ?_))|(refine h7H ?_; first|refine al ?_|refine ae ?_|refine aw ?_|refine am ?_|refine bv J (by assumption) ?_|refine aZ J (by assumption) ?_)|refine ak ?_|refine aC ?_|refine ai (.inl J) J J ?_)
 all_goals rfl
theorem H7(v : Int)(s : Nat)(hv : 0≤v∧v < 4294967296)(hs : 32 - (Lib.bitLen v.toNat : Int) = (s : Int)) : CallA Tryz.prog 372 [.one (.d (.int .u32 v))] [] (.one (.d (.int .i64 (s : Int)))) []:=by
 obtain ⟨x,rfl⟩:=Int.eq_ofNat_of_zero_le hv.1
 have:=Jl x (by omega)
 rw [Int.toNat_natCast] at hs
 rwa [hs] at this
theorem Gt(m s : Nat)(hm : (dig m).length≤400)(hs : s≤31) : CallA Tryz.prog 373 [.one (.d (bU m)),.one (.d (.int .i64 s))] [] (.one (.own 10 ((dig m).length + 1))) [(10,.row 1 4 ((wid ((dig m).length + 1) (m * 2 ^ s)).map aE))]:=by
 obtain ⟨a1,a2,a3⟩:=cP m
 have:=HX (dig m) s a1 hm hs
 rwa [a2,show ((m : Int) * 2 ^ s).toNat = m * 2 ^ s by
  rw [show ((m : Int) * 2 ^ s) = ((m * 2 ^ s : Nat) : Int) by simp]; rfl] at this
theorem H8(w a : Nat)(h : a < bp w) : CallA Tryz.prog 374 [.one (.d (cY (wid w a)))] [] (.one (.d (bU a))) []:=by
 have:=Gu (wid w a) (iy w a)
 rwa [jL w a h] at this
theorem H9(W a n : Nat)(hn : n≤W)(hW : W≤1000)(ha : a < bp n) : CallA Tryz.prog 374 [.one (.own 1000000 n)] [(1000000,.row 1 4 ((wid W a).map aE))] (.one (.own 1000000 (dig a).length)) [(1000000,.row 1 4 ((wid W a).map aE))]:=by
 have hw:=jL W a (Nat.lt_of_lt_of_le ha (iT hn))
 have:=HY (wid W a) n (by rw [fa]; exact hn) (iy W a) (by rw [fa]; exact hW)
 rwa [wp (kG (iy W a) (by rw [hw,pwc]; omega)),hw] at this
theorem Gv{st : St}{ρ : List (Nat×Nat)}{j i0 : Nat}{o0 o : AObj}(h0 : Abs.look ρ j = some i0)(h1 : Abs.look st.sto i0 = some o0)(hc : compat o0 o) : ∀ i e,Abs.look ρ j = some i→Abs.look st.sto i = some e→compat e o:=fun i e h2 h3=>by
 rw [h0] at h2; cases h2
 rw [h1] at h3; cases h3
 exact hc
theorem Ia{u v un : Nat}{j : Int}(h0 : decide (0≤j) = true)(hv : 0 < v)(hun : un = u % (bp (j + 1).toNat * v)) : un < bp (j.toNat + 1) * v:=by
 have h0:=of_decide_eq_true h0
 rw [hun,show (j + 1).toNat = j.toNat + 1 by omega]
 exact Nat.mod_lt _ (Nat.mul_pos (BD _) hv)
theorem E9{v u un : Nat}{j : Int}{Q : List Int}{R : List (List D)}{N : Nat}(hv : 0 < v)(h0 : decide (0≤j) = true)(hj : j < (N : Int))(hr : R = Q.map aE)(hl : R.length = N)(hQ : Dg Q)(hun : un = u % (bp (j + 1).toNat * v))(hq : aq (Q.drop (j + 1).toNat) = ((u / (bp (j + 1).toNat * v) : Nat) : Int)) :
  -1≤j - 1∧j - 1 < (N : Int)∧R.set j.toNat [.int .u32 ((un / (bp j.toNat * v) : Nat) : Int)] = (Q.set j.toNat ((un / (bp j.toNat * v) : Nat) : Int)).map aE∧(R.set j.toNat [.int .u32 ((un / (bp j.toNat * v) : Nat) : Int)]).length = N∧Dg (Q.set j.toNat ((un / (bp j.toNat * v) : Nat) : Int))∧un % (bp j.toNat * v) = u % (bp (j - 1 + 1).toNat * v) ∧
  aq ((Q.set j.toNat ((un / (bp j.toNat * v) : Nat) : Int)).drop (j - 1 + 1).toNat) = ((u / (bp (j - 1 + 1).toNat * v) : Nat) : Int):=by
 have h0:=of_decide_eq_true h0
 obtain ⟨i,rfl⟩:=Int.eq_ofNat_of_zero_le h0
 rw [show ((i : Int) + 1).toNat = i + 1 by omega] at hun hq
 rw [show ((i : Int) - 1 + 1).toNat = i by omega,Int.toNat_natCast]
 exact ⟨by omega,by omega,Di (W:=0) hv (by omega) hr hl hQ hun hq⟩
theorem mM{m n s un : Nat}{j : Int}{Q : List Int}(h0 : decide (0≤j) = false)(h1 : -1≤j)(hun : un = (m * 2 ^ s) % (bp (j + 1).toNat * (n * 2 ^ s)))(hq : aq (Q.drop (j + 1).toNat) = (((m * 2 ^ s) / (bp (j + 1).toNat * (n * 2 ^ s)) : Nat) : Int)) : (aq Q).toNat = m / n∧un = m % n * 2 ^ s:=by
 have h0:=of_decide_eq_false h0
 rw [show (j + 1).toNat = 0 by omega,tb,Nat.one_mul] at hun hq
 rw [List.drop_zero,Nat.mul_div_mul_right _ _ (Nat.two_pow_pos s)] at hq
 rw [Nat.mul_mod_mul_right] at hun
 exact ⟨by rw [hq]; rfl,hun⟩
theorem vi{m n s un k : Nat}(hn : 0 < n)(h : un = m % n * 2 ^ s)(hv : n * 2 ^ s < bp (k + 2)) : un < bp (k + 2):=by
 have : m % n * 2 ^ s < n * 2 ^ s:=Nat.mul_lt_mul_of_pos_right (Nat.mod_lt _ hn) (Nat.two_pow_pos s)
 omega
theorem Eu{a w : Nat}(h : a < bp w) : (dig a).length≤w:=by
 refine Nat.le_of_not_lt fun hc=>?_
 obtain ⟨k,hk⟩ : ∃ k,(dig a).length = k + 1:=⟨(dig a).length - 1,by omega⟩
 obtain ⟨g1,g2,_⟩:=rQ hk
 have h3:=iT (show w≤k by omega)
 have h4:=(cP a).1.at (i:=k) (by omega)
 have h5 : (1 : Int) * (bp k : Int)≤at_ (dig a) k * (bp k : Int):=Int.mul_le_mul_of_nonneg_right (by omega) (by omega)
 omega
theorem Gw{Q : List Int}{R : List (List D)}{s W i r a : Nat}(ha : a = r * 2 ^ s)(hs : s≤31)(haW : a < bp W)(hi : i≤(dig a).length)(h0 : decide ((i : Int) < ((dig a).length : Int)) = false)(hiW : (dig a).length≤W)(h : RsI (wid W a) s W i Q R) : R.take (dig a).length = (Q.take (dig a).length).map aE∧Dg (Q.take (dig a).length)∧(aq (Q.take (dig a).length)).toNat = r:=by
 have e : i = (dig a).length:=by have:=of_decide_eq_false h0; omega
 rw [← e]
 exact Gx ha hs haW e (by omega) h
set_option maxHeartbeats 2000000 in
theorem Ib(m n k : Nat)(h : n≤m)(hl : (dig n).length = k + 2)(hm : (dig m).length≤400)(hn0 : 0 < n) : CallA Tryz.prog 355 [.one (.d (bU m)),.one (.d (bU n))] [] (.tup [(false,[.d (bU (m / n))]),(false,[.d (bU (m % n))])]) []:=by
 have hc:=yH h
 have hnm : (dig n).length≤(dig m).length:=iU h
 obtain ⟨s,hs,hs0,hs1,hvb⟩:=Dj hl
 obtain ⟨hvl,hvt⟩:=Dk hs1 hvb
 obtain ⟨hu1,hu2⟩:=Fa (m:=m) (k:=k) hs hs1 (by omega)
 have hv0 : 0 < n * 2 ^ s:=Nat.mul_pos hn0 (Nat.two_pow_pos s)
 have hlr : ((dig n).map aE).length = k + 2:=by simpa using hl
 have hvr : ((dig (n * 2 ^ s)).map aE).length = k + 2:=by simpa using hvl
 have hvN : (((dig (n * 2 ^ s)).map aE).length : Int).toNat = k + 2:=by rw [hvr]; rfl
 have hb : ((((dig n).map aE).length : Int) == 1) = false:=by rw [hlr]; exact beq_false_of_ne (by omega)
 have ei : ((((dig n).map aE).length : Int) - 1).toNat = k + 1:=by rw [hlr]; omega
 have hd5 : 0≤at_ (dig n) ((((dig n).map aE).length : Int) - 1).toNat∧at_ (dig n) ((((dig n).map aE).length : Int) - 1).toNat < 4294967296:=by rw [ei]; exact (cP n).1.at (by omega)
 have hs5 : 32 - (Lib.bitLen (at_ (dig n) ((((dig n).map aE).length : Int) - 1).toNat).toNat : Int) = (s : Int):=by rw [ei]; exact hs0
 have hv5 : n * 2 ^ s < bp ((dig n).length + 1):=Nat.lt_of_lt_of_le hvb (iT (by omega))
 have hfin : ∀ (q : Nat×List Int×List (List D)) (p : Int×Nat×List Int×List (List D)),decide ((q.1 : Int) < ((dig p.2.1).length : Int)) = false→decide (0≤p.1) = false→-1≤p.1→p.2.1 = (m * 2 ^ s) % (bp (p.1 + 1).toNat * (n * 2 ^ s))→aq (p.2.2.1.drop (p.1 + 1).toNat) = (((m * 2 ^ s) / (bp (p.1 + 1).toNat * (n * 2 ^ s)) : Nat) : Int)→q.1≤(dig p.2.1).length→(dig p.2.1).length≤(dig m).length + 1→RsI (wid ((dig m).length + 1) p.2.1) s ((dig m).length + 1) q.1 q.2.1 q.2.2 →
   q.2.2.take (dig p.2.1).length = (q.2.1.take (dig p.2.1).length).map aE∧Dg (q.2.1.take (dig p.2.1).length)∧(aq (q.2.1.take (dig p.2.1).length)).toNat = m % n :=
  fun q p h1 h2 h3 h4 h5 h6 h7 h8=>Gw (mM h2 h3 h4 h5).2 hs (Nat.lt_of_lt_of_le (vi hn0 (mM h2 h3 h4 h5).2 hvb) (iT (by omega))) h6 h1 h7 h8
 refine enter ab Tryz.func355 rfl (by decide +kernel) rfl fun hok w0 σ0 φ0 M=>?_
 clear hok
 repeat' (first|(refine h6H ?_; first|(refine h4H ?_; refine ba 60 J J J J J J J J (Jp n s (by omega) hs) J J J ?_)|(refine h4H ?_; refine ba 60 J J J J J J J J (H8 _ _ hv5) J J J ?_)|(refine ma ?_; refine cj aa 10 J J J (cK (n:=(dig m).length + 1 - (k + 2)) J J J J J (by omega) (by omega) (by omega) (Nat.le_of_ble_eq_true J)) J J ?_)|(refine h4H ?_; refine mN 10 [] (rav':=.one (.own 20 ((dig m).length + 1))) (Gt m s hm hs) J J J J J J trivial mg J J J J ?_)|(refine JF ?_; refine Dl aa (lo:=p.1.toNat) (n:=(dig (n * 2 ^ s)).length + 1) J J J J J J J J J J (by first|omega|((try simp only [a0A,a1A,a2A,a3A,a4A,a5A,a6A,a7A,a8A,a9A,au,av] at *); omega)) (by first|omega|((try simp only [a0A,a1A,a2A,a3A,a4A,a5A,a6A,a7A,a8A,a9A,au,av] at *); omega)) (by first|omega|((try simp only [a0A,a1A,a2A,a3A,a4A,a5A,a6A,a7A,a8A,a9A,au,av] at *); omega)) (by simp [fa]) ?_)|(refine h4H ?_; refine mN 40 [(1000000,20)] (rav':=.one (.d (.int .u32 ((p.2.1 / (bp p.1.toNat * (n * 2 ^ s)) : Nat) : Int)))) (Ic (n * 2 ^ s) k p.1.toNat ((dig m).length + 1) p.2.1 hvl hvt (by omega) (by omega) (by omega) (Ia h hv0 hun)) J J J J J J ⟨⟨20,rfl,rfl⟩,trivial⟩ ⟨Gv (i0:=20) J J ⟨rfl,rfl,by simp [fa]⟩,trivial⟩ J J J J ?_)|(refine JG ?_; refine s_e aa J J J (eZ J J J J J J (by omega) (by omega) (by simp [fa])) ?_)|(refine h4H ?_; refine mN 40 [(1000000,20)] (rav':=.one (.own 20 (dig p.2.1).length)) (H9 ((dig m).length + 1) p.2.1 (((dig (n * 2 ^ s)).map aE).length : Int).toNat (by omega) (by omega) (by rw [hvN]; exact vi hn0 (mM h hk1 hun hq).2 hvb)) J J J J J J ⟨⟨20,rfl,rfl⟩,trivial⟩ ⟨Gv (i0:=20) J J ⟨rfl,rfl,Nat.le_refl _⟩,trivial⟩ J J J J ?_)|(refine h4H ?_; refine dL 60 [10] J J J J J J J J J (lO _ p.2.2.1 (m / n) (tc hr hl2) hL (mM ‹decide (0≤p.1) = false› hk1 hun hq).1) J J J ?_)|(refine h4H ?_; refine dL 80 [20] J J J J J J J J J (lO _ _ (m % n) (hfin q p h ‹decide (0≤p.1) = false› hk1 hun hq hq1 hLW ⟨hR1,hR2,hR3,hR4,hR5⟩).1 (hfin q p h ‹decide (0≤p.1) = false› hk1 hun hq hq1 hLW ⟨hR1,hR2,hR3,hR4,hR5⟩).2.1 (hfin q p h ‹decide (0≤p.1) = false› hk1 hun hq hq1 hLW ⟨hR1,hR2,hR3,hR4,hR5⟩).2.2) J J J ?_)|refine ac ?_|refine ah ab J J J J J ?_|(refine h1H ?_; refine s_e aa J J J (aL J J J J (aN (by omega) (by omega))) ?_)|(refine fY ?_; refine s_e aa J J J (bW J J J J (aN (by omega) (by omega))) ?_)|(refine h3H ?_; first|refine s_e aa J J J (b4 J J J J J J (by first|omega|((try simp only [a0A,a1A,a2A,a3A,a4A,a5A,a6A,a7A,a8A,a9A,au,av] at *); omega)) (by first|omega|((try simp only [a0A,a1A,a2A,a3A,a4A,a5A,a6A,a7A,a8A,a9A,au,av] at *); omega))) ?_|refine s_e aa J J J (ar J J J J J (by omega) (aJ (by omega))) ?_)|(refine ot ?_; refine s_e aa J J J (cu J J J J (cg (by assumption) (by first|omega|((try simp only [a0A,a1A,a2A,a3A,a4A,a5A,a6A,a7A,a8A,a9A,au,av] at *); omega))) J) ?_)|(refine h4H ?_; first|refine ag J J J J J J J J (ta _ _) J ?_|refine ag J J J J J J J J (H7 _ s hd5 hs5) J ?_)|refine aI aa J J (bO J J J J J J J J J (cg (by assumption) (by omega)) J) ?_|refine aI aa J J (bO J J J J J J J J J (cg (by assumption) (by first|omega|((try simp only [a0A,a1A,a2A,a3A,a4A,a5A,a6A,a7A,a8A,a9A,au,av] at *); omega))) J) ?_|refine s_e aa J J J J ?_)|(refine h7H ?_; first|refine al ?_|refine ae ?_|refine ay ?_|refine aw ?_|refine am ?_|refine aW ?_|refine aZ J (by assumption) ?_|refine aA J (fun h=>?_) (fun h=>?_)|refine aR progOk.mo ?_|refine cR 16 J [(8,_),(12,_),(14,_),(83,_)] (q4Q J J J J) (fun (q : Nat×List Int×List (List D))=>[(84,.one (.d (.int .i64 (q.1 : Int))))]) (fun (q : Nat×List Int×List (List D))=>[(20,.row 1 4 q.2.2),(10,.row 1 4 p.2.2.2)]) (fun (q : Nat×List Int×List (List D))=>q.1≤(dig p.2.1).length∧(dig p.2.1).length≤(dig m).length + 1∧RsI (wid ((dig m).length + 1) p.2.1) s ((dig m).length + 1) q.1 q.2.1 q.2.2) (fun (q : Nat×List Int×List (List D))=>(dig p.2.1).length - q.1) (0,wid ((dig m).length + 1) p.2.1,(wid ((dig m).length + 1) p.2.1).map aE) (q1Q J) (by first|(repeat' first|exact ap|refine af J ?_) <;> fail|fail) ?_ (fun q ⟨hq1,hLW,hR1,hR2,hR3,hR4,hR5⟩=>?_)|refine cR 11 J [(8,_),(9,_),(10,_),(11,_),(12,_)] (q5Q J J J J J) (fun (p : Int×Nat×List Int×List (List D))=>[(13,.one (.d (.int .i64 p.1)))]) (fun (p : Int×Nat×List Int×List (List D))=>[(20,.row 1 4 ((wid ((dig m).length + 1) p.2.1).map aE)),(10,.row 1 4 p.2.2.2)]) (fun (p : Int×Nat×List Int×List (List D))=>-1≤p.1∧p.1 < (((dig m).length + 1 - (k + 2) : Nat) : Int)∧p.2.2.2 = p.2.2.1.map aE∧p.2.2.2.length = (dig m).length + 1 - (k + 2)∧Dg p.2.2.1∧p.2.1 = (m * 2 ^ s) % (bp (p.1 + 1).toNat * (n * 2 ^ s))∧aq (p.2.2.1.drop (p.1 + 1).toNat) = (((m * 2 ^ s) / (bp (p.1 + 1).toNat * (n * 2 ^ s)) : Nat) : Int)) (fun (p : Int×Nat×List Int×List (List D))=>(p.1 + 1).toNat) ((((dig m).length + 1 : Nat) : Int) - (((dig (n * 2 ^ s)).map aE).length : Int) - 1,m * 2 ^ s,List.replicate ((dig m).length + 1 - (k + 2)) 0,List.replicate ((dig m).length + 1 - (k + 2)) [.int .u32 0]) (q1Q J) (by first|(repeat' first|exact ap|refine af J ?_) <;> fail|fail) ?_ (fun p ⟨hk1,hk2,hr,hl2,hL,hun,hq⟩=>?_))|(refine bP ?_; first|(refine JH ?_; refine d_e aa J J J (BE J J J (by omega)) ?_)|(refine zO ?_; refine d_e aa J J J (cu J J J J (cg (eL hR1) (by simp only [List.length_set]; have:=of_decide_eq_true h; omega)) J) ?_)|refine bG (by kernel_rfl) ?_|refine d_e aa J J J (aK J J) ?_|(refine Gy ?_; refine d_e aa J J J (aL J J J J (aN (by omega) (by omega))) ?_)|(refine sP ?_; refine d_e aa J J J (bW J J J J (aN (by omega) (by omega))) ?_)|(refine Dm ?_; refine d_e aa J J J (eI J) ?_)|(refine h8H ?_; refine d_e aa J J J (b4 J J J J J J (by first|omega|((try simp only [a0A,a1A,a2A,a3A,a4A,a5A,a6A,a7A,a8A,a9A,au,av] at *); omega)) (by first|omega|((try simp only [a0A,a1A,a2A,a3A,a4A,a5A,a6A,a7A,a8A,a9A,au,av] at *); omega))) ?_)|refine ca aa J J (bO J J J J J J J J J (yI (by first|omega|((try simp only [a0A,a1A,a2A,a3A,a4A,a5A,a6A,a7A,a8A,a9A,au,av] at *); omega))) J) ?_)|(show Exists _; first|refine Exists.intro (((p.1 - 1),p.2.1 % (bp p.1.toNat * (n * 2 ^ s)),p.2.2.1.set p.1.toNat ((p.2.1 / (bp p.1.toNat * (n * 2 ^ s)) : Nat) : Int),p.2.2.2.set p.1.toNat [.int .u32 ((p.2.1 / (bp p.1.toNat * (n * 2 ^ s)) : Nat) : Int)])) ⟨?_,?_,(by first|(repeat' first|exact ap|refine af J ?_) <;> fail|fail),(q1Q J),(q5Q J J J J J)⟩|refine Exists.intro ((q.1 + 1,(q.2.1.set q.1 (rsX (at_ q.2.1 q.1) s)).set q.1 (shO (at_ (q.2.1.set q.1 (rsX (at_ q.2.1 q.1) s)) q.1) (shV (at_ (q.2.1.set q.1 (rsX (at_ q.2.1 q.1) s)) (q.1 + 1)) (32 - (s : Int)))),(q.2.2.set q.1 [.int .u32 (rsX (at_ q.2.1 q.1) s)]).set q.1 [.int .u32 (shO (at_ (q.2.1.set q.1 (rsX (at_ q.2.1 q.1) s)) q.1) (shV (at_ (q.2.1.set q.1 (rsX (at_ q.2.1 q.1) s)) (q.1 + 1)) (32 - (s : Int))))])) ⟨?_,?_,(by first|(repeat' first|exact ap|refine af J ?_) <;> fail|fail),(q1Q J),(q4Q J J J J)⟩|refine Exists.intro ((q.1 + 1,q.2.1.set q.1 (rsX (at_ q.2.1 q.1) s),q.2.2.set q.1 [.int .u32 (rsX (at_ q.2.1 q.1) s)])) ⟨?_,?_,(by first|(repeat' first|exact ap|refine af J ?_) <;> fail|fail),(q1Q J),(q4Q J J J J)⟩)|refine ak ?_|refine bd ?_|refine aG ?_|refine aX J ?_|refine ai (.inl J) J J ?_)
 ·show -1≤(((dig m).length + 1 : Nat) : Int) - (((dig (n * 2 ^ s)).map aE).length : Int) - 1∧(((dig m).length + 1 : Nat) : Int) - (((dig (n * 2 ^ s)).map aE).length : Int) - 1 < _∧_∧_∧_∧m * 2 ^ s = _ % (bp ((((dig m).length + 1 : Nat) : Int) - (((dig (n * 2 ^ s)).map aE).length : Int) - 1 + 1).toNat * _)∧aq ((List.replicate _ (0 : Int)).drop ((((dig m).length + 1 : Nat) : Int) - (((dig (n * 2 ^ s)).map aE).length : Int) - 1 + 1).toNat) = ((_ / (bp ((((dig m).length + 1 : Nat) : Int) - (((dig (n * 2 ^ s)).map aE).length : Int) - 1 + 1).toNat * _) : Nat) : Int)
  rw [hvr,show ((((dig m).length + 1 : Nat) : Int) - ((k + 2 : Nat) : Int) - 1 + 1).toNat = (dig m).length + 1 - (k + 2) by omega]
  refine ⟨by omega,by omega,by simp [aE],by simp,Dg.zeros _,(Nat.mod_eq_of_lt hu1).symm,?_⟩
  rw [Nat.div_eq_of_lt hu1,List.drop_eq_nil_of_le (by simp)]; rfl
 ·exact E9 hv0 h hk2 hr hl2 hL hun hq
 ·have h0:=of_decide_eq_true h
  show (p.1 - 1 + 1).toNat < (p.1 + 1).toNat
  omega
 ·have hun2:=(mM h hk1 hun hq).2
  have hul:=Eu (vi hn0 hun2 hvb)
  exact ⟨Nat.zero_le _,by omega,rfl,by simp [fa],iy _ _,fun t _=>rfl,by
   show aq ((wid ((dig m).length + 1) p.2.1).take 0) * 2 ^ s = aq ((wid ((dig m).length + 1) p.2.1).take 0) - _ + pw 0 * _
   rw [List.take_zero,kW]; simp only [aq]; rw [Int.zero_mul]; omega⟩
 ·have hlt:=of_decide_eq_true h
  exact ⟨by show q.1 + 1≤_; omega,hLW,Dn hs (fa _ _) (by omega) (iy _ _) ⟨hR1,hR2,hR3,hR4,hR5⟩⟩
 ·have hlt:=of_decide_eq_true h
  show (dig p.2.1).length - (q.1 + 1) < (dig p.2.1).length - q.1
  omega
 ·have hlt:=of_decide_eq_true ‹decide ((q.1 : Int) < ((dig p.2.1).length : Int)) = true›
  have hge:=of_decide_eq_false h
  have hun2:=(mM ‹decide (0≤p.1) = false› hk1 hun hq).2
  have hul:=Nat.lt_of_lt_of_le (vi hn0 hun2 hvb) (iT (show k + 2≤(dig m).length + 1 by omega))
  have hz:=kG (k:=(dig p.2.1).length) (iy ((dig m).length + 1) p.2.1) (by rw [jL _ _ hul,pwc]; have:=mO p.2.1; omega) (q.1 + 1) (by omega)
  exact ⟨by show q.1 + 1≤_; omega,hLW,Do hs (fa _ _) (by omega) (iy _ _) hz ⟨hR1,hR2,hR3,hR4,hR5⟩⟩
 ·have hlt:=of_decide_eq_true ‹decide ((q.1 : Int) < ((dig p.2.1).length : Int)) = true›
  show (dig p.2.1).length - (q.1 + 1) < (dig p.2.1).length - q.1
  omega
 ·rfl
theorem sW : ln:=fun m n hn hm hd=>by
 unfold dl at hm hd
 rcases Nat.lt_or_ge m n with h | h
 ·exact H4 m n h
 ·have hne : (dig n).length≠0:=fun e=>by
   have:=mO n
   rw [e,tb] at this; omega
  by_cases h1 : (dig n).length = 1
  ·exact H6 m n h h1 (by omega)
  ·exact Ib m n ((dig n).length - 2) h (by omega) (by omega) (by omega)
end Go.Proofs.YtpejdgkaapnekaaGreat
namespace Go.Proofs.YtpejdgkaapnekaaGreat
open Go Go.Abs
attribute [local irreducible] ao OkC aU bg aV bA
set_option maxRecDepth 10000
structure RatOk (a1 b1 a2 b2 : Nat) : Prop where
 h1 : b1≠0
 h2 : b2≠0
 l1 : (dig a1).length≤400
 l2 : (dig b1).length≤400
 l3 : (dig a2).length≤400
 l4 : (dig b2).length≤400
 m1 : dl (a1 * b2)≤100
 m2 : dl (a2 * b1)≤100
 m3 : dl (b1 * b2)≤100
 m4 : dl (a1 * b2 + a2 * b1)≤100
 m5 : dl (a1 * a2)≤100
 m6 : dl (b1 * a2)≤100
theorem RatOk.add(hD : ln){a1 b1 a2 b2 : Nat}(h : RatOk a1 b1 a2 b2)(s1 s2 minus : Bool) : CallA Tryz.prog 359 [.one (.d (cN s1 a1 b1)),.one (.d (cN s2 a2 b2)),.one (.d (.bool minus))] [] (.one (.d (nP s1 a1 b1 s2 a2 b2 minus))) [] :=
 Ka hD s1 a1 b1 s2 a2 b2 minus h.h1 h.h2 h.l1 h.l2 h.l3 h.l4 (Nat.le_trans h.m1 (by omega)) (Nat.le_trans h.m2 (by omega)) h.m3 h.m4 (Nat.le_trans (iU (Nat.sub_le _ _)) h.m1) (Nat.le_trans (iU (Nat.sub_le _ _)) h.m2)
theorem Kb(hD : ln)(s1 : Bool)(a1 b1 : Nat)(s2 : Bool)(a2 b2 : Nat)(hR : RatOk a1 b1 a2 b2) : CallA Tryz.prog 321 [.one (.d (cN s1 a1 b1)),.one (.d (cN s2 a2 b2))] [] (.one (.d (nP s1 a1 b1 s2 a2 b2 false))) []:=by
 refine enter ab Tryz.func321 rfl (by decide +kernel) rfl fun hok w0 σ0 φ0 M=>?_
 clear hok
 repeat' (first|(refine h6H ?_; first|refine ac ?_|refine ah ab J J J J J ?_|(refine h4H ?_; refine ba 16 J J J J J J J J (hR.add hD _ _ _) J J J ?_))|(refine h7H ?_; first|refine al ?_|refine ae ?_|refine am ?_)|refine ak ?_|refine ai (.inl J) J J ?_)
 all_goals rfl
theorem GS(hD : ln)(s1 : Bool)(a1 b1 : Nat)(s2 : Bool)(a2 b2 : Nat)(hR : RatOk a1 b1 a2 b2) : CallA Tryz.prog 322 [.one (.d (cN s1 a1 b1)),.one (.d (cN s2 a2 b2))] [] (.one (.d (nP s1 a1 b1 s2 a2 b2 true))) []:=by
 refine enter ab Tryz.func322 rfl (by decide +kernel) rfl fun hok w0 σ0 φ0 M=>?_
 clear hok
 repeat' (first|(refine h6H ?_; first|refine ac ?_|refine ah ab J J J J J ?_|(refine h4H ?_; refine ba 16 J J J J J J J J (hR.add hD _ _ _) J J J ?_))|(refine h7H ?_; first|refine al ?_|refine ae ?_|refine am ?_)|refine ak ?_|refine ai (.inl J) J J ?_)
 all_goals rfl
set_option maxHeartbeats 1000000 in
theorem Kc(hD : ln)(s1 : Bool)(a1 b1 : Nat)(s2 : Bool)(a2 b2 : Nat)(hR : RatOk a1 b1 a2 b2) : CallA Tryz.prog 323 [.one (.d (cN s1 a1 b1)),.one (.d (cN s2 a2 b2))] [] (.one (.d (wG (s1 != s2) (a1 * a2) (b1 * b2)))) []:=by
 obtain ⟨h1,h2,l1,l2,l3,l4,m1,m2,m3,m4,m5,m6⟩:=hR
 have hb12 : b1 * b2≠0:=Nat.mul_ne_zero h1 h2
 have v1 : decide (b1≠0) = true:=by simp [h1]
 have v2 : decide (b2≠0) = true:=by simp [h2]
 refine enter ab Tryz.func323 rfl (by decide +kernel) rfl fun hok w0 σ0 φ0 M=>?_
 clear hok
 repeat' (first|(refine h6H ?_; first|refine ac ?_|refine ah ab J J J J J ?_|(refine h0H ?_; first|refine aT J J (by first|assumption|rfl) ?_|refine bH J J (by first|assumption|rfl) J J ?_|refine bn J J J J (fun h=>?_) (fun h=>?_))|(refine h2H ?_; first|refine s_e aa J J J (aF J J (by first|rfl|assumption) J) ?_|refine s_e aa J J J (az J J (by first|rfl|assumption) J) ?_)|(refine h4H ?_; refine ag J J J J J J J J (nQ _ _ _) J ?_))|(refine h7H ?_; first|refine al ?_|refine ae ?_|refine aw ?_|refine am ?_|refine bc J ?_|refine aA J (fun h=>?_) (fun h=>?_)|refine aR progOk.mo ?_)|(refine bP ?_; first|refine bG (by kernel_rfl) ?_|refine d_e aa J J J (aK J J) ?_|(refine h9H ?_; first|refine b6 16 J J J J J J J J (wH _ _ l1 l3) J J ?_|refine b6 16 J J J J J J J J (wH _ _ l2 l4) J J ?_|refine b6 16 J J J J J J J J (zX hD _ _ _ m5 m3 hb12) J J ?_))|refine ak ?_|refine aC ?_|refine ai (.inl J) J J ?_)
 all_goals first
  | rfl
  | (exfalso; simp_all; done)
  | skip
set_option maxHeartbeats 1000000 in
theorem Kd(hD : ln)(s1 : Bool)(a1 b1 : Nat)(s2 : Bool)(a2 b2 : Nat)(hR : RatOk a1 b1 a2 b2)(h0 : a2≠0) : CallA Tryz.prog 362 [.one (.d (cN s1 a1 b1)),.one (.d (cN s2 a2 b2))] [] (.tup [(false,[.d (wG (s1 != s2) (a1 * b2) (b1 * a2))]),(false,[.d (.int .i64 0)])]) []:=by
 obtain ⟨h1,h2,l1,l2,l3,l4,m1,m2,m3,m4,m5,m6⟩:=hR
 have hb12 : b1 * a2≠0:=Nat.mul_ne_zero h1 h0
 have v1 : decide (b1≠0) = true:=by simp [h1]
 have v2 : decide (b2≠0) = true:=by simp [h2]
 have v3 : ((((dig a2).map aE).length : Int) == 0) = false:=by rw [oV]; simp [h0]
 refine enter ab Tryz.func362 rfl (by decide +kernel) rfl fun hok w0 σ0 φ0 M=>?_
 clear hok
 repeat' (first|(refine h6H ?_; first|refine ac ?_|refine ah ab J J J J J ?_|(refine h0H ?_; first|refine aT J J (by first|assumption|rfl) ?_|refine bH J J (by first|assumption|rfl) J J ?_|refine bn J J J J (fun h=>?_) (fun h=>?_))|(refine h2H ?_; first|refine s_e aa J J J (aF J J (by first|rfl|assumption) J) ?_|refine s_e aa J J J (az J J (by first|rfl|assumption) J) ?_)|(refine h4H ?_; refine ag J J J J J J J J (nQ _ _ _) J ?_))|(refine h7H ?_; first|refine al ?_|refine ae ?_|refine ay ?_|refine aw ?_|refine am ?_|refine bc J ?_|refine aZ J (by assumption) ?_|refine aA J (fun h=>?_) (fun h=>?_)|refine aR progOk.mo ?_)|(refine bP ?_; first|refine bG (by kernel_rfl) ?_|refine d_e aa J J J (aK J J) ?_|(refine h9H ?_; first|refine b6 16 J J J J J J J J (wH _ _ l1 l4) J J ?_|refine b6 16 J J J J J J J J (wH _ _ l2 l3) J J ?_|refine b6 16 J J J J J J J J (zX hD _ _ _ m1 m6 hb12) J J ?_))|refine ak ?_|refine aC ?_|refine aG ?_|refine aP ?_|refine ai (.inl J) J J ?_)
 all_goals first
  | rfl
  | (exfalso; simp_all; done)
  | skip
set_option maxHeartbeats 1000000 in
theorem In(s1 : Bool)(a1 b1 : Nat)(s2 : Bool)(b2 : Nat)(h1 : b1≠0)(h2 : b2≠0) : CallA Tryz.prog 362 [.one (.d (cN s1 a1 b1)),.one (.d (cN s2 0 b2))] [] (.tup [(false,[.d (.raw (.pointer none))]),(false,[.d (.int .i64 2)])]) []:=by
 have v1 : decide (b1≠0) = true:=by simp [h1]
 have v2 : decide (b2≠0) = true:=by simp [h2]
 have v3 : ((((dig 0).map aE).length : Int) == 0) = true:=by rw [oV]; simp
 refine enter ab Tryz.func362 rfl (by decide +kernel) rfl fun hok w0 σ0 φ0 M=>?_
 clear hok
 repeat' (first|(refine h6H ?_; first|refine ac ?_|refine ah ab J J J J J ?_|(refine h0H ?_; first|refine aT J J (by first|assumption|rfl) ?_|refine bH J J (by first|assumption|rfl) J J ?_|refine bn J J J J (fun h=>?_) (fun h=>?_))|(refine h2H ?_; first|refine s_e aa J J J (aF J J (by first|rfl|assumption) J) ?_|refine s_e aa J J J (az J J (by first|rfl|assumption) J) ?_)|(refine h4H ?_; refine ag J J J J J J J J (nQ _ _ _) J ?_))|(refine h7H ?_; first|refine al ?_|refine ae ?_|refine ay ?_|refine am ?_|refine bc J ?_|refine bv J (by assumption) ?_|refine aA J (fun h=>?_) (fun h=>?_))|refine ak ?_|refine aC ?_|refine aP ?_|refine ai (.inl J) J J ?_)
 all_goals first
  | rfl
  | (exfalso; simp_all; done)
  | skip
end Go.Proofs.YtpejdgkaapnekaaGreat
namespace Go.Proofs.YtpejdgkaapnekaaGreat
open Go Go.Abs
attribute [local irreducible] ao OkC aU bg aV bA
set_option maxRecDepth 10000
def gU(n : Nat) : Int×Bool:=if n≤1099511627776 then (n,true) else (0,false)
theorem z0(n : Nat) : CallA Tryz.prog 352 [.one (.d (bU n))] [] (.tup [(false,[.d (.int .i64 (gU n).1)]),(false,[.d (.bool (gU n).2)])]) []:=by
 unfold gU
 by_cases h : n≤1099511627776
 ·rw [if_pos h]; exact Iq n h
 ·rw [if_neg h]; exact Ir n h
def z1(k num den : Int) : AV:=.agg [.d (.int .i64 k),.d (.int .i64 num),.d (.int .i64 den),.d (.str [])]
theorem DK(r : Int) : CallA Tryz.prog 353 [.one (.d (.int .i64 r))] [] (z1 0 r 0) []:=by
 refine enter ab Tryz.func353 rfl (by decide +kernel) rfl fun hok w0 σ0 φ0 M=>?_
 clear hok
 repeat' (first|(refine h6H ?_; first|refine ac ?_|refine ah ab J J J J J ?_|(refine h5H ?_; refine ax ab 0 J J J J J ?_)|refine aI aa J J J ?_)|(refine h7H ?_; first|refine al ?_|refine ae ?_|refine am ?_)|refine ak ?_|refine ai (.inl J) J J ?_)
 all_goals rfl
def z6(neg : Bool)(a b : Nat) : AV:=if a≤1099511627776∧b≤1099511627776 then z1 2 (if neg = true then -(a : Int) else a) b else z1 0 2 0
theorem Kj(neg : Bool)(a b : Nat)(hb : b≠0) : CallA Tryz.prog 313 [.one (.d (cN neg a b))] [] (z6 neg a b) []:=by
 have v1 : decide (b≠0) = true:=by simp [hb]
 have hsp : (a≤1099511627776∧b≤1099511627776∧(gU a).2 = true∧(gU a).1 = a∧(gU b).2 = true∧(gU b).1 = b)∨(¬ a≤1099511627776∧(gU a).2 = false)∨(a≤1099511627776∧¬ b≤1099511627776∧(gU a).2 = true∧(gU b).2 = false):=by
  unfold gU
  by_cases h1 : a≤1099511627776 <;> by_cases h2 : b≤1099511627776 <;> simp [h1,h2]
 unfold z6
 rcases hsp with ⟨h1,h2,e1,e2,e3,e4⟩ | ⟨h1,e1⟩ | ⟨h1,h2,e1,e2⟩
 ·rw [if_pos ⟨h1,h2⟩]
  have hc:=z0 a
  have hc2:=z0 b
  rw [e1,e2] at hc
  rw [e3,e4] at hc2
  refine enter ab Tryz.func313 rfl (by decide +kernel) rfl fun hok w0 σ0 φ0 M=>?_
  clear hok
  repeat' (first|(refine h6H ?_; first|refine ac ?_|refine ah ab J J J J J ?_|(refine h0H ?_; refine aT J J (by first|assumption|rfl) ?_)|(refine rb ?_; refine s_e aa J J J (o9 J J (aN (by omega) (by omega))) ?_)|(refine h2H ?_; refine s_e aa J J J (az J J (by first|rfl|assumption) J) ?_)|(refine h4H ?_; first|refine ag J J J J J J J J (nQ _ _ _) J ?_|refine ag J J J J J J J J (hc) J ?_|refine ag J J J J J J J J (hc2) J ?_)|(refine h5H ?_; refine ax ab 0 J J J J J ?_)|refine aI aa J J J ?_)|(refine h7H ?_; first|refine al ?_|refine ae ?_|refine aw ?_|refine am ?_|refine bm J ?_|refine aA J (fun h=>?_) (fun h=>?_))|refine ak ?_|refine aC ?_|refine ai (.inl J) J J ?_)
  all_goals first
   | (exfalso; simp_all; done)
   | (simp only [*,if_true,if_false,Bool.false_eq_true]; rfl)
   | (rw [if_pos h,Int.zero_sub]; rfl)
   | skip
 ·rw [if_neg (fun h=>h1 h.1)]
  refine enter ab Tryz.func313 rfl (by decide +kernel) rfl fun hok w0 σ0 φ0 M=>?_
  clear hok
  repeat' (first|(refine h6H ?_; first|refine ac ?_|refine ah ab J J J J J ?_|(refine h0H ?_; first|refine aT J J (by first|assumption|rfl) ?_|refine bH J J (by first|assumption|rfl) J J ?_|refine bn J J J J (fun h=>?_) (fun h=>?_))|(refine rb ?_; refine dk ab J J J J ?_)|(refine h2H ?_; first|refine s_e aa J J J (aF J J (by first|rfl|assumption) J) ?_|refine s_e aa J J J (az J J (by first|rfl|assumption) J) ?_)|(refine h4H ?_; first|refine ag J J J J J J J J (nQ _ _ _) J ?_|refine ag J J J J J J J J (z0 _) J ?_|refine ag J J J J J J J J (DK _) J ?_)|(refine h5H ?_; refine ax ab 0 J J J J J ?_)|refine aI aa J J J ?_)|(refine h7H ?_; first|refine al ?_|refine ae ?_|refine aw ?_|refine am ?_|refine bc J ?_|refine aA J (fun h=>?_) (fun h=>?_))|refine ak ?_|refine aC ?_|refine ai (.inl J) J J ?_)
  all_goals first
   | rfl
   | (exfalso; simp_all; done)
   | skip
 ·rw [if_neg (fun h=>h2 h.2)]
  refine enter ab Tryz.func313 rfl (by decide +kernel) rfl fun hok w0 σ0 φ0 M=>?_
  clear hok
  repeat' (first|(refine h6H ?_; first|refine ac ?_|refine ah ab J J J J J ?_|(refine h0H ?_; first|refine aT J J (by first|assumption|rfl) ?_|refine bH J J (by first|assumption|rfl) J J ?_|refine bn J J J J (fun h=>?_) (fun h=>?_))|(refine rb ?_; refine dk ab J J J J ?_)|(refine h2H ?_; first|refine s_e aa J J J (aF J J (by first|rfl|assumption) J) ?_|refine s_e aa J J J (az J J (by first|rfl|assumption) J) ?_)|(refine h4H ?_; first|refine ag J J J J J J J J (nQ _ _ _) J ?_|refine ag J J J J J J J J (z0 _) J ?_|refine ag J J J J J J J J (DK _) J ?_)|(refine h5H ?_; refine ax ab 0 J J J J J ?_)|refine aI aa J J J ?_)|(refine h7H ?_; first|refine al ?_|refine ae ?_|refine aw ?_|refine am ?_|refine bc J ?_|refine aA J (fun h=>?_) (fun h=>?_))|refine ak ?_|refine aC ?_|refine ai (.inl J) J J ?_)
  all_goals first
   | rfl
   | (exfalso; simp_all; done)
   | skip
end Go.Proofs.YtpejdgkaapnekaaGreat
namespace Go.Proofs.YtpejdgkaapnekaaGreat
open Go Go.Abs
attribute [local irreducible] ao OkC aU bg aV bA
set_option maxRecDepth 10000
def bD(v : Val) : AV:=.agg [.d (.int .i64 v.kind),.d (.int .i64 v.num),.d (.int .i64 v.den),.d (.str v.str)]
def aY(b : Bool) : Val:=⟨1,if b then 1 else 0,0,[]⟩
def isV(v : Val)(k : Int) : Bool:=v.kind == 0 || v.kind == k
def gc(a b : Val) : Bool:=a.kind == 0 || isV b a.kind
def sgF(a b : Int) : Int:=if a < b then -1 else if b < a then 1 else 0
theorem vN(b : Bool) : CallA Tryz.prog 310 [.one (.d (.bool b))] [] (bD (aY b)) []:=by
 refine enter ab Tryz.func310 rfl (by decide +kernel) rfl fun hok w0 σ0 φ0 M=>?_
 clear hok
 repeat' (first|(refine h6H ?_; first|refine ac ?_|refine ah ab J J J J J ?_|(refine h5H ?_; first|refine ax ab 0 J J J J J ?_|refine ax ab 1 J J J J J ?_)|refine aI aa J J J ?_)|(refine h7H ?_; first|refine al ?_|refine ae ?_|refine aw ?_|refine am ?_|refine aA J (fun h=>?_) (fun h=>?_))|refine ak ?_|refine ai (.inl J) J J ?_)
 all_goals first | rfl | (simp_all [bD,aY,isV]; done)
theorem CP(v : Val)(k : Int) : CallA Tryz.prog 336 [bD v,.one (.d (.int .i64 k))] [] (.one (.d (.bool (isV v k)))) []:=by
 unfold bD
 refine enter ab Tryz.func336 rfl (by decide +kernel) rfl fun hok w0 σ0 φ0 M=>?_
 clear hok
 repeat' (first|(refine h6H ?_; first|refine ac ?_|refine ah ab J J J J J ?_|(refine h0H ?_; first|refine aT J J (by first|assumption|rfl) ?_|refine bH J J (by first|assumption|rfl) J J ?_|refine bn J J J J (fun h=>?_) (fun h=>?_))|(refine h2H ?_; first|refine s_e aa J J J (aF J J (by first|rfl|assumption) J) ?_|refine s_e aa J J J (az J J (by first|rfl|assumption) J) ?_)|(refine bC ?_; refine aM 0 J J J J J J ?_))|(refine h7H ?_; first|refine al ?_|refine ae ?_|refine am ?_)|refine ak ?_|refine ai (.inl J) J J ?_)
 all_goals first | rfl | (simp_all [bD,aY,isV]; done)
theorem Gf(l : D) : CallA Tryz.prog 316 [.one (.d l)] [] (.one (.d (.bool true))) []:=by
 refine enter ab Tryz.func316 rfl (by decide +kernel) rfl fun hok w0 σ0 φ0 M=>?_
 clear hok
 repeat' (first|(refine h6H ?_; first|refine ac ?_|refine ah ab J J J J J ?_)|(refine h7H ?_; first|refine al ?_|refine ae ?_|refine am ?_)|refine ak ?_|refine ai (.inl J) J J ?_)
 all_goals first | rfl | (simp_all [bD,aY,isV]; done)
theorem I4(a b : Int) : CallA Tryz.prog 380 [.one (.d (.int .i64 a)),.one (.d (.int .i64 b))] [] (.one (.d (.int .i64 (sgF a b)))) []:=by
 refine enter ab Tryz.func380 rfl (by decide +kernel) rfl fun hok w0 σ0 φ0 M=>?_
 clear hok
 repeat' (first|(refine h6H ?_; first|refine ac ?_|refine ah ab J J J J J ?_)|(refine h7H ?_; first|refine al ?_|refine ae ?_|refine ay ?_|refine aw ?_|refine am ?_|refine aA J (fun h=>?_) (fun h=>?_))|refine ak ?_|refine aC ?_|refine aG ?_|refine aP ?_|refine ai (.inl J) J J ?_)
 all_goals (refine congrArg (fun x=>AV.one (.d (.int .i64 x))) ?_; simp only [decide_eq_true_eq,decide_eq_false_iff_not] at *; unfold sgF; first | (rw [if_pos (by assumption)]; done) | (rw [if_neg (by omega),if_pos (by omega)]; done) | (rw [if_neg (by omega),if_neg (by omega)]; done))
theorem I5(a b : Int) : CallA Tryz.prog 383 [.one (.d (.int .i64 a)),.one (.d (.int .i64 b))] [] (.one (.d (.int .i64 (sgF a b)))) []:=by
 refine enter ab Tryz.func383 rfl (by decide +kernel) rfl fun hok w0 σ0 φ0 M=>?_
 clear hok
 repeat' (first|(refine h6H ?_; first|refine ac ?_|refine ah ab J J J J J ?_)|(refine h7H ?_; first|refine al ?_|refine ae ?_|refine ay ?_|refine aw ?_|refine am ?_|refine aA J (fun h=>?_) (fun h=>?_))|refine ak ?_|refine aC ?_|refine aG ?_|refine aP ?_|refine ai (.inl J) J J ?_)
 all_goals (refine congrArg (fun x=>AV.one (.d (.int .i64 x))) ?_; simp only [decide_eq_true_eq,decide_eq_false_iff_not] at *; unfold sgF; first | (rw [if_pos (by assumption)]; done) | (rw [if_neg (by omega),if_pos (by omega)]; done) | (rw [if_neg (by omega),if_neg (by omega)]; done))
theorem I6(o : Int) : CallA Tryz.prog 326 [.one (.d (.int .i64 o))] [] (.one (.d (.bool (o == 0)))) []:=by
 refine enter ab Tryz.func326 rfl (by decide +kernel) rfl fun hok w0 σ0 φ0 M=>?_
 clear hok
 repeat' (first|(refine h6H ?_; first|refine ac ?_|refine ah ab J J J J J ?_)|(refine h7H ?_; first|refine al ?_|refine ae ?_|refine am ?_)|refine ak ?_|refine ai (.inl J) J J ?_)
 all_goals rfl
theorem I7(o : Int) : CallA Tryz.prog 327 [.one (.d (.int .i64 o))] [] (.one (.d (.bool (o != 0)))) []:=by
 refine enter ab Tryz.func327 rfl (by decide +kernel) rfl fun hok w0 σ0 φ0 M=>?_
 clear hok
 repeat' (first|(refine h6H ?_; first|refine ac ?_|refine ah ab J J J J J ?_)|(refine h7H ?_; first|refine al ?_|refine ae ?_|refine am ?_)|refine ak ?_|refine ai (.inl J) J J ?_)
 all_goals rfl
theorem I8(o : Int) : CallA Tryz.prog 328 [.one (.d (.int .i64 o))] [] (.one (.d (.bool (decide (o < 0))))) []:=by
 refine enter ab Tryz.func328 rfl (by decide +kernel) rfl fun hok w0 σ0 φ0 M=>?_
 clear hok
 repeat' (first|(refine h6H ?_; first|refine ac ?_|refine ah ab J J J J J ?_)|(refine h7H ?_; first|refine al ?_|refine ae ?_|refine am ?_)|refine ak ?_|refine ai (.inl J) J J ?_)
 all_goals rfl
theorem I9(o : Int) : CallA Tryz.prog 329 [.one (.d (.int .i64 o))] [] (.one (.d (.bool (decide (o≤0))))) []:=by
 refine enter ab Tryz.func329 rfl (by decide +kernel) rfl fun hok w0 σ0 φ0 M=>?_
 clear hok
 repeat' (first|(refine h6H ?_; first|refine ac ?_|refine ah ab J J J J J ?_)|(refine h7H ?_; first|refine al ?_|refine ae ?_|refine am ?_)|refine ak ?_|refine ai (.inl J) J J ?_)
 all_goals rfl
theorem Ja(o : Int) : CallA Tryz.prog 330 [.one (.d (.int .i64 o))] [] (.one (.d (.bool (decide (0 < o))))) []:=by
 refine enter ab Tryz.func330 rfl (by decide +kernel) rfl fun hok w0 σ0 φ0 M=>?_
 clear hok
 repeat' (first|(refine h6H ?_; first|refine ac ?_|refine ah ab J J J J J ?_)|(refine h7H ?_; first|refine al ?_|refine ae ?_|refine am ?_)|refine ak ?_|refine ai (.inl J) J J ?_)
 all_goals rfl
theorem Jb(o : Int) : CallA Tryz.prog 331 [.one (.d (.int .i64 o))] [] (.one (.d (.bool (decide (0≤o))))) []:=by
 refine enter ab Tryz.func331 rfl (by decide +kernel) rfl fun hok w0 σ0 φ0 M=>?_
 clear hok
 repeat' (first|(refine h6H ?_; first|refine ac ?_|refine ah ab J J J J J ?_)|(refine h7H ?_; first|refine al ?_|refine ae ?_|refine am ?_)|refine ak ?_|refine ai (.inl J) J J ?_)
 all_goals rfl
theorem Jc(l : List Val)(hl : 1≤l.length) : CallA Tryz.prog 309 [.one (.d (bf l))] [] (bD (aY ((at_ l 0).num == 0))) []:=by
 refine enter ab Tryz.func309 rfl (by decide +kernel) rfl fun hok w0 σ0 φ0 M=>?_
 clear hok
 repeat' (first|(refine h6H ?_; first|refine ac ?_|refine ah ab J J J J J ?_|(refine h3H ?_; refine s_e aa J J J (ar J J J J J (by omega) (aJ (by omega))) ?_)|(refine h4H ?_; refine ag J J J J J J J J (vN _) J ?_)|(refine h5H ?_; refine ax ab 0 J J J J J ?_)|refine aI aa J J J ?_)|(refine h7H ?_; first|refine al ?_|refine ae ?_|refine am ?_)|refine ak ?_|refine ai (.inl J) J J ?_)
 all_goals rfl
theorem Jd(l : List Val)(hl : 1≤l.length) : CallA Tryz.prog 318 [.one (.d (bf l))] [] (bD (aY ((at_ l 0).kind == 0))) []:=by
 refine enter ab Tryz.func318 rfl (by decide +kernel) rfl fun hok w0 σ0 φ0 M=>?_
 clear hok
 repeat' (first|(refine h6H ?_; first|refine ac ?_|refine ah ab J J J J J ?_|(refine h3H ?_; refine s_e aa J J J (ar J J J J J (by omega) (aJ (by omega))) ?_)|(refine h4H ?_; refine ag J J J J J J J J (vN _) J ?_)|(refine h5H ?_; refine ax ab 0 J J J J J ?_)|refine aI aa J J J ?_)|(refine h7H ?_; first|refine al ?_|refine ae ?_|refine am ?_)|refine ak ?_|refine ai (.inl J) J J ?_)
 all_goals rfl
theorem Je(l : List Val)(hl : 1≤l.length) : CallA Tryz.prog 319 [.one (.d (bf l))] [] (bD ⟨2,if (at_ l 0).kind == 0 then (at_ l 0).num else 0,1,[]⟩) []:=by
 refine enter ab Tryz.func319 rfl (by decide +kernel) rfl fun hok w0 σ0 φ0 M=>?_
 clear hok
 repeat' (first|(refine h6H ?_; first|refine ac ?_|refine ah ab J J J J J ?_|(refine h3H ?_; refine s_e aa J J J (ar J J J J J (by omega) (aJ (by omega))) ?_)|(refine h5H ?_; first|refine ax ab 0 J J J J J ?_|refine ax ab 1 J J J J J ?_)|refine aI aa J J J ?_)|(refine h7H ?_; first|refine al ?_|refine ae ?_|refine aw ?_|refine am ?_|refine aA J (fun h=>?_) (fun h=>?_))|refine ak ?_|refine ai (.inl J) J J ?_)
 all_goals first | rfl | (simp_all [bD,aY,isV]; done)
theorem Jf(l : List Val)(hl : 2≤l.length) : CallA Tryz.prog 334 [.one (.d (bf l))] [] (bD (if (at_ l 0).kind == 0 then at_ l 1 else at_ l 0)) []:=by
 refine enter ab Tryz.func334 rfl (by decide +kernel) rfl fun hok w0 σ0 φ0 M=>?_
 clear hok
 repeat' (first|(refine h6H ?_; first|refine ac ?_|refine ah ab J J J J J ?_|(refine h3H ?_; refine s_e aa J J J (ar J J J J J (by omega) (aJ (by omega))) ?_)|(refine h5H ?_; refine ax ab 0 J J J J J ?_)|refine aI aa J J J ?_)|(refine h7H ?_; first|refine al ?_|refine ae ?_|refine aw ?_|refine am ?_|refine aA J (fun h=>?_) (fun h=>?_))|refine ak ?_|refine aC ?_|refine ai (.inl J) J J ?_)
 all_goals first | rfl | (simp_all [bD,aY,isV]; done)
theorem Jg(l : List Val)(hl : 3≤l.length) : CallA Tryz.prog 337 [.one (.d (bf l))] [] (bD (if (at_ l 0).kind == 0 then at_ l 0 else if (at_ l 0).num == 1 then at_ l 1 else at_ l 2)) []:=by
 refine enter ab Tryz.func337 rfl (by decide +kernel) rfl fun hok w0 σ0 φ0 M=>?_
 clear hok
 repeat' (first|(refine h6H ?_; first|refine ac ?_|refine ah ab J J J J J ?_|(refine h3H ?_; refine s_e aa J J J (ar J J J J J (by omega) (aJ (by omega))) ?_)|(refine h5H ?_; refine ax ab 0 J J J J J ?_)|refine aI aa J J J ?_)|(refine h7H ?_; first|refine al ?_|refine ae ?_|refine ay ?_|refine aw ?_|refine am ?_|refine aA J (fun h=>?_) (fun h=>?_))|refine ak ?_|refine aC ?_|refine aG ?_|refine aP ?_|refine ai (.inl J) J J ?_)
 all_goals first | rfl | (simp_all [bD,aY,isV]; done)
theorem ou(l : List Val)(hl : 2≤l.length) : CallA Tryz.prog 333 [.one (.d (bf l))] [] (.one (.d (.bool (gc (at_ l (l.length - 2)) (at_ l (l.length - 1)))))) []:=by
 refine enter ab Tryz.func333 rfl (by decide +kernel) rfl fun hok w0 σ0 φ0 M=>?_
 have h1:=hok.1.sl.1; clear hok; simp only [List.length_map] at h1
 have e1 : (((l.map aj).length : Int) - 2).toNat = l.length - 2:=by rw [List.length_map]; omega
 have e2 : (((l.map aj).length : Int) - 1).toNat = l.length - 1:=by rw [List.length_map]; omega
 repeat' (first|(refine h6H ?_; first|refine ac ?_|refine ah ab J J J J J ?_|(refine h0H ?_; first|refine aT J J (by first|assumption|rfl) ?_|refine bH J J (by first|assumption|rfl) J J ?_|refine bn J J J J (fun h=>?_) (fun h=>?_))|(refine h2H ?_; first|refine s_e aa J J J (aF J J (by first|rfl|assumption) J) ?_|refine s_e aa J J J (az J J (by first|rfl|assumption) J) ?_)|(refine h4H ?_; refine ag J J J J J J J J (CP _ _) J ?_))|(refine h7H ?_; first|refine al ?_|refine ae ?_|refine am ?_|refine aR progOk.mo ?_)|(refine bP ?_; first|refine bG (by kernel_rfl) ?_|refine d_e aa J J J (aK J J) ?_|(refine sP ?_; refine d_e aa J J J (bW J J J J (aN (by omega) (by omega))) ?_)|(refine h8H ?_; refine d_e aa J J J (ar J J J J J (by omega) (aJ (by omega))) ?_)|refine j4 aa 0 J J J J J J ?_|refine j4 aa 1 J J J J J J ?_|refine ca aa J J J ?_)|refine ak ?_|refine ai (.inl J) J J ?_)
 all_goals first | (rw [e1,e2]; rw [e1] at h; simp [gc,h]; done) | (rw [e1] at h; simp [gc,h]; done)
theorem Jh(l : List Val)(hl : 3≤l.length) : CallA Tryz.prog 335 [.one (.d (bf l))] [] (.one (.d (.bool (isV (at_ l 0) 1 && gc (at_ l (l.length - 2)) (at_ l (l.length - 1)))))) []:=by
 refine enter ab Tryz.func335 rfl (by decide +kernel) rfl fun hok w0 σ0 φ0 M=>?_
 clear hok
 repeat' (first|(refine h6H ?_; first|refine ac ?_|refine ah ab J J J J J ?_|(refine h0H ?_; first|refine aT J J (by first|assumption|rfl) ?_|refine bH J J (by first|assumption|rfl) J J ?_|refine bn J J J J (fun h=>?_) (fun h=>?_))|(refine h2H ?_; first|refine s_e aa J J J (aF J J (by first|rfl|assumption) J) ?_|refine s_e aa J J J (az J J (by first|rfl|assumption) J) ?_)|(refine h3H ?_; refine s_e aa J J J (ar J J J J J (by omega) (aJ (by omega))) ?_)|(refine h4H ?_; first|refine ag J J J J J J J J (CP _ _) J ?_|refine ag J J J J J J J J (ou _ (by omega)) J ?_))|(refine h7H ?_; first|refine al ?_|refine ae ?_|refine am ?_)|refine ak ?_|refine ai (.inl J) J J ?_)
 all_goals first | rfl | (simp_all; done)
theorem nl(l : List Val)(kd : Int) : CallA Tryz.prog 350 [.one (.d (bf l)),.one (.d (.ptr [.int .i64 kd]))] [] (.one (.d (.bool (l.all fun v=>isV v kd)))) []:=by
 refine enter ab Tryz.func350 rfl (by decide +kernel) rfl fun hok w0 σ0 φ0 M=>?_
 have h1:=hok.1.sl.1; clear hok; simp only [List.length_map] at h1
 repeat' (first|(refine h6H ?_; first|refine ac ?_|refine ah ab J J J J J ?_|(refine h1H ?_; refine s_e aa J J J (aL J J J J (aN (by omega) (by omega))) ?_)|(refine h3H ?_; refine s_e aa J J J (ar J J J J J (by first|omega|((try simp only [a0A,a1A,a2A,a3A,a4A,a5A,a6A,a7A,a8A,a9A,au,av] at *); omega)) (aJ (by first|omega|((try simp only [a0A,a1A,a2A,a3A,a4A,a5A,a6A,a7A,a8A,a9A,au,av] at *); omega)))) ?_)|(refine h4H ?_; refine ag J J J J J J J J (CP _ _) J ?_)|(refine h5H ?_; refine ax ab 0 J J J J J ?_)|refine aI aa J J J ?_)|(refine h7H ?_; first|refine al ?_|refine ae ?_|refine ay ?_|refine aw ?_|refine am ?_|refine aW ?_|refine aA J (fun h=>?_) (fun h=>?_)|refine bk 2 J [(1,_),(6,_),(7,_)] (q3Q J J J) (fun (k : Nat)=>[(8,.one (.d (.int .i64 (k : Int))))]) (fun (k : Nat)=>k≤l.length∧l.all (fun v=>isV v kd) = (l.drop k).all (fun v=>isV v kd)) (fun (k : Nat)=>l.length - k) 0 (q1Q J) ?_ (fun k ⟨hk,hq⟩=>?_))|(show Exists _; refine Exists.intro (k + 1) ⟨?_,?_,(by (repeat' first|exact ap|refine af J ?_); done),(q1Q J),(q3Q J J J)⟩)|refine ak ?_|refine aC ?_|refine bd ?_|refine aG ?_|refine aP ?_|refine aX J ?_|refine ai (.inl J) J J ?_)
 all_goals (try (((simp_all [aO,List.drop_eq_nil_of_le]) <;> first | omega | (rw [Bool.eq_iff_iff]; simp; omega) | grind); done))
end Go.Proofs.YtpejdgkaapnekaaGreat
namespace Go.Proofs.YtpejdgkaapnekaaGreat
open Go Go.Abs
attribute [local irreducible] ao OkC aU bg aV bA
set_option maxRecDepth 10000
def gu(neg : Bool)(m n : Nat) : Bool×Nat×Nat:=(neg && decide (m≠0),m / Nat.gcd m n,n / Nat.gcd m n)
def dP(s1 : Bool)(a1 b1 : Nat)(s2 : Bool)(a2 b2 : Nat)(minus : Bool) : Bool×Nat×Nat :=
 if (s1 == (!(s2 == minus))) = true then gu (!(s2 == minus)) (a1 * b2 + a2 * b1) (b1 * b2) else if a2 * b1≤a1 * b2 then gu s1 (a1 * b2 - a2 * b1) (b1 * b2) else gu (!(s2 == minus)) (a2 * b1 - a1 * b2) (b1 * b2)
theorem xk{s1 : Bool}{a1 b1 : Nat}{s2 : Bool}{a2 b2 : Nat}{minus : Bool} : nP s1 a1 b1 s2 a2 b2 minus = cN (dP s1 a1 b1 s2 a2 b2 minus).1 (dP s1 a1 b1 s2 a2 b2 minus).2.1 (dP s1 a1 b1 s2 a2 b2 minus).2.2:=by
 unfold nP dP
 split
 ·rfl
 ·split
  ·rfl
  ·rfl
def lL(t : Bool×Nat×Nat) : Int:=if t.2.2 = 0∨t.2.1 = 0 then 0 else if t.1 = true then -1 else 1
theorem IC(hD : ln)(s1 : Bool)(a1 b1 : Nat)(s2 : Bool)(a2 b2 : Nat)(hR : RatOk a1 b1 a2 b2) : CallA Tryz.prog 322 [.one (.d (cN s1 a1 b1)),.one (.d (cN s2 a2 b2))] [] (.one (.d (cN (dP s1 a1 b1 s2 a2 b2 true).1 (dP s1 a1 b1 s2 a2 b2 true).2.1 (dP s1 a1 b1 s2 a2 b2 true).2.2))) []:=by
 rw [← xk]; exact GS hD s1 a1 b1 s2 a2 b2 hR
theorem Jq(hD : ln)(s1 : Bool)(a1 b1 : Nat)(s2 : Bool)(a2 b2 : Nat)(hR : RatOk a1 b1 a2 b2) : CallA Tryz.prog 381 [.one (.d (cN s1 a1 b1)),.one (.d (cN s2 a2 b2))] [] (.one (.d (.int .i64 (lL (dP s1 a1 b1 s2 a2 b2 true))))) []:=by
 refine enter ab Tryz.func381 rfl (by decide +kernel) rfl fun hok w0 σ0 φ0 M=>?_
 clear hok
 repeat' (first|(refine h6H ?_; first|refine ac ?_|refine ah ab J J J J J ?_|(refine h4H ?_; first|refine ag J J J J J J J J (LN _ _ _) J ?_|refine ba 16 J J J J J J J J (IC hD _ _ _ _ _ _ hR) J J J ?_))|(refine h7H ?_; first|refine al ?_|refine ae ?_|refine am ?_)|refine ak ?_|refine ai (.inl J) J J ?_)
 all_goals rfl
end Go.Proofs.YtpejdgkaapnekaaGreat
namespace Go.Proofs.YtpejdgkaapnekaaGreat
open Go Go.Abs
attribute [local irreducible] ao OkC aU bg aV bA
set_option maxRecDepth 10000
def lh(v : Val) : D:=cN (decide (v.num < 0)) v.num.natAbs v.den.natAbs
theorem rK(v : Val) : CallA Tryz.prog 314 [bD v] [] (.one (.d (lh v))) []:=LQ _ _ _ _
def vP(neg : Bool)(a b : Nat) : Val:=if a≤1099511627776∧b≤1099511627776 then ⟨2,if neg = true then -(a : Int) else a,b,[]⟩ else ⟨0,2,0,[]⟩
theorem AT(neg : Bool)(a b : Nat)(hb : b≠0) : CallA Tryz.prog 313 [.one (.d (cN neg a b))] [] (bD (vP neg a b)) []:=by
 have h:=Kj neg a b hb
 have e : bD (vP neg a b) = z6 neg a b:=by
  unfold z6 vP
  by_cases hc : a≤1099511627776∧b≤1099511627776
  ·rw [if_pos hc,if_pos hc]; rfl
  ·rw [if_neg hc,if_neg hc]; rfl
 rwa [e]
theorem LV(l : List Val)(hl : 2≤l.length)(f : FuncId)(neg : Bool)(a b : Nat)(hb : b≠0)(hf : CallA Tryz.prog f [.one (.d (lh (at_ l 0))),.one (.d (lh (at_ l 1)))] [] (.one (.d (cN neg a b))) []) :
  CallA Tryz.prog 358 [.one (.d (bf l)),.one (.d (.ptr [.fn f []]))] [] (bD (vP neg a b)) []:=by
 refine enter ab Tryz.func358 rfl (by decide +kernel) rfl fun hok w0 σ0 φ0 M=>?_
 clear hok
 repeat' (first|(refine h6H ?_; first|refine ac ?_|(refine h5H ?_; refine ax ab 0 J J J J J ?_))|(refine h7H ?_; first|refine al ?_|refine ae ?_|refine am ?_|refine aR progOk.mo ?_)|(refine bP ?_; first|refine bG (by kernel_rfl) ?_|refine d_e aa J J J (aK J J) ?_|(refine h8H ?_; refine d_e aa J J J (ar J J J J J (by omega) (aJ (by omega))) ?_)|(refine h9H ?_; first|refine d_l J J (bj J J J J J J (AT _ _ _ hb) J) ?_|refine b6 16 J J J J J J J J (rK _) J J ?_|refine b6 16 J J J J J J J J (hf) J J ?_)|refine ca aa J J J ?_)|refine ak ?_|refine ai (.inl J) J J ?_)
 all_goals first | rfl | skip
theorem IH(l : List Val)(hl : 2≤l.length)(neg : Bool)(a b : Nat)(hb : b≠0)(hf : CallA Tryz.prog 362 [.one (.d (lh (at_ l 0))),.one (.d (lh (at_ l 1)))] [] (.tup [(false,[.d (cN neg a b)]),(false,[.d (.int .i64 0)])]) []) :
  CallA Tryz.prog 324 [.one (.d (bf l))] [] (bD (vP neg a b)) []:=by
 refine enter ab Tryz.func324 rfl (by decide +kernel) rfl fun hok w0 σ0 φ0 M=>?_
 clear hok
 repeat' (first|(refine h6H ?_; first|refine ac ?_|refine ah ab J J J J J ?_|(refine h4H ?_; refine ag J J J J J J J J (AT _ _ _ hb) J ?_)|(refine h5H ?_; refine ax ab 0 J J J J J ?_)|refine aI aa J J J ?_)|(refine h7H ?_; first|refine al ?_|refine ae ?_|refine aw ?_|refine am ?_|refine bm J ?_|refine aR progOk.mo ?_)|(refine bP ?_; first|refine bG (by kernel_rfl) ?_|refine d_e aa J J J (aK J J) ?_|(refine h8H ?_; refine d_e aa J J J (ar J J J J J (by omega) (aJ (by omega))) ?_)|(refine h9H ?_; first|refine b6 16 J J J J J J J J (rK _) J J ?_|refine b6 16 J J J J J J J J (hf) J J ?_))|refine ak ?_|refine ai (.inl J) J J ?_)
 all_goals first | rfl | skip
theorem IG(l : List Val)(hl : 2≤l.length)(hf : CallA Tryz.prog 362 [.one (.d (lh (at_ l 0))),.one (.d (lh (at_ l 1)))] [] (.tup [(false,[.d (.raw (.pointer none))]),(false,[.d (.int .i64 2)])]) []) :
  CallA Tryz.prog 324 [.one (.d (bf l))] [] (bD ⟨0,3,0,[]⟩) []:=by
 refine enter ab Tryz.func324 rfl (by decide +kernel) rfl fun hok w0 σ0 φ0 M=>?_
 clear hok
 repeat' (first|(refine h6H ?_; first|refine ac ?_|refine ah ab J J J J J ?_|(refine h4H ?_; refine ag J J J J J J J J (DK _) J ?_)|(refine h5H ?_; refine ax ab 0 J J J J J ?_)|refine aI aa J J J ?_)|(refine h7H ?_; first|refine al ?_|refine ae ?_|refine am ?_|refine bc J ?_|refine aR progOk.mo ?_)|(refine bP ?_; first|refine bG (by kernel_rfl) ?_|refine d_e aa J J J (aK J J) ?_|(refine h8H ?_; refine d_e aa J J J (ar J J J J J (by omega) (aJ (by omega))) ?_)|(refine h9H ?_; first|refine d_l J J (bj J J J J J J (hf) J) ?_|refine b6 16 J J J J J J J J (rK _) J J ?_))|refine ak ?_|refine aC ?_|refine ai (.inl J) J J ?_)
 all_goals first | rfl | skip
theorem n9 : bU 1 = .sl 1 4 [[.int .u32 1]]:=by unfold bU cY; rw [tL]; rfl
theorem IL(m : Nat)(hm : (dig m).length≤400) : CallA Tryz.prog 356 [.one (.d (bU m)),.one (.d (.sl 1 4 [[.int .u32 1]]))] [] (.one (.d (bU (m + 1)))) []:=by
 have:=GA m 1 hm (by rw [tL]; simp)
 rwa [n9] at this
theorem L8(neg : Bool)(a b : Nat)(hb : b≠0)(hm : dl a≤100)(hn : dl b≤100)(hq : (dig (a / b)).length≤400) : CallA Tryz.prog 315 [.one (.d (cN neg a b))] [] (.one (.d (cN neg (if neg = true∧a % b≠0 then a / b + 1 else a / b) 1))) []:=by
 have v1 : decide (b≠0) = true:=by simp [hb]
 refine enter ab Tryz.func315 rfl (by decide +kernel) rfl fun hok w0 σ0 φ0 M=>?_
 clear hok
 repeat' (first|(refine h6H ?_; first|(refine h4H ?_; refine dL 40 [0] J J J J J J J J J (IL _ hq) J J J ?_)|refine ac ?_|refine ah ab J J J J J ?_|(refine h0H ?_; first|refine aT J J (by first|assumption|rfl) ?_|refine bH J J (by first|assumption|rfl) J J ?_|refine bn J J J J (fun h=>?_) (fun h=>?_))|(refine h2H ?_; first|refine s_e aa J J J (aF J J (by first|rfl|assumption) J) ?_|refine s_e aa J J J (az J J (by first|rfl|assumption) J) ?_)|(refine h4H ?_; refine ag J J J J J J J J (nQ _ _ _) J ?_)|(refine bC ?_; first|refine aM 1 J J J J J J ?_|refine aM 2 J J J J J J ?_)|refine cj aa 0 J J J J J J ?_|refine cj aa 1 J J J J J J ?_)|(refine h7H ?_; first|refine dI (fT (dl:=[1,2]) J) (am ?_)|refine dI (fT (dl:=[0,1]) J) (am ?_)|refine al ?_|refine ae ?_|refine aw ?_|refine am ?_|refine bm J ?_|refine aA J (fun h=>?_) (fun h=>?_)|refine aR progOk.mo ?_)|(refine bP ?_; first|refine bG (by kernel_rfl) ?_|refine d_e aa J J J (aK J J) ?_|(refine h9H ?_; refine b6 16 J J J J J J J J (sW _ _ hb hm hn) J J ?_))|refine ak ?_|refine aC ?_|refine ai (.inl J) J J ?_)
 ·exact absurd ‹(!decide (b≠0)) = true› (by rw [v1]; simp)
 ·rw [if_pos ⟨‹neg = true›,pT h⟩]; unfold cN; rw [n9]; rfl
 ·rw [if_neg (fun hc=>hc.2 (xu h))]; unfold cN; rw [n9]; rfl
 ·rw [if_neg (fun hc=>by have h' : neg = false:=h; rw [h'] at hc; cases hc.1)]; unfold cN; rw [n9]; rfl
theorem LX(l : List Val)(hl : 1≤l.length)(hb : (at_ l 0).den.natAbs≠0)(hm : dl (at_ l 0).num.natAbs≤100)(hn : dl (at_ l 0).den.natAbs≤100)(hq : (dig ((at_ l 0).num.natAbs / (at_ l 0).den.natAbs)).length≤400) :
  CallA Tryz.prog 312 [.one (.d (bf l))] [] (bD (vP (decide ((at_ l 0).num < 0)) (if (decide ((at_ l 0).num < 0)) = true∧(at_ l 0).num.natAbs % (at_ l 0).den.natAbs≠0 then (at_ l 0).num.natAbs / (at_ l 0).den.natAbs + 1 else (at_ l 0).num.natAbs / (at_ l 0).den.natAbs) 1)) []:=by
 refine enter ab Tryz.func312 rfl (by decide +kernel) rfl fun hok w0 σ0 φ0 M=>?_
 clear hok
 repeat' (first|(refine h6H ?_; first|refine ac ?_|refine ah ab J J J J J ?_|(refine h3H ?_; refine s_e aa J J J (ar J J J J J (by omega) (aJ (by omega))) ?_)|(refine h4H ?_; first|refine ag J J J J J J J J (AT _ _ _ (by omega)) J ?_|refine ba 16 J J J J J J J J (rK _) J J J ?_|refine ba 16 J J J J J J J J (L8 _ _ _ hb hm hn hq) J J J ?_)|(refine h5H ?_; refine ax ab 0 J J J J J ?_)|refine aI aa J J J ?_)|(refine h7H ?_; first|refine al ?_|refine ae ?_|refine am ?_)|refine ak ?_|refine ai (.inl J) J J ?_)
 all_goals first | rfl | skip
def n4(v : Val) : Val:=⟨v.kind,IntKind.i64.wrap (0 - v.num),v.den,v.str⟩
theorem LL(l : List Val)(hl : 1≤l.length) :
  CallA Tryz.prog 311 [.one (.own 1000000 l.length)] [(1000000,.row 4 40 (l.map aj))] (bD (n4 (at_ l 0))) [(1000000,.row 4 40 ((l.set 0 (n4 (at_ l 0))).map aj))]:=by
 refine enter ab Tryz.func311 rfl (by decide +kernel) rfl fun hok w0 σ0 φ0 M=>?_
 clear hok
 repeat' (first|(refine h6H ?_; first|refine ac ?_|refine ah ab J J J J J ?_|(refine rb ?_; refine dk ab J J J J ?_)|(refine h3H ?_; refine s_e aa J J J (b4 J J J J J J (by omega) (by omega)) ?_)|(refine ot ?_; first|refine s_e aa J J J (cu J J J J (aJ (by omega)) J) ?_|refine s_e aa J J J (cu J J J J (yI (by first|omega|((try simp only [a0A,a1A,a2A,a3A,a4A,a5A,a6A,a7A,a8A,a9A,au,av] at *); omega))) J) ?_)|(refine h5H ?_; refine ax ab 0 J J J J J ?_)|refine aI aa J J (bO J J J J J J J J J (aJ (by omega)) J) ?_|refine aI aa J J J ?_)|(refine h7H ?_; first|refine al ?_|refine ae ?_|refine am ?_)|refine ak ?_)
 exact iL (.inl rfl) rfl rfl rfl (af (congrArg (fun x=>some (AObj.row 4 40 x)) (List.map_set (f:=aj) (l:=l) (i:=0) (a:=n4 (at_ l 0))).symm) ap)
end Go.Proofs.YtpejdgkaapnekaaGreat
namespace Go.Abs
open Go Go.Shelf Go.Proofs
variable {P : Program}
theorem vK {f : FuncId} {a b : List UInt8} {y : D} {yv : Value} (hfn : ∃ fn, P.funcs[f]? = some fn ∧ (fn.name == "runtime.NumGoroutine") = false ∧ fn.body.isSome = true)
  (hC : ∀ w,Calls P f #[.string ⟨a.toArray⟩,.string ⟨b.toArray⟩] w fun e w'=>e = .returned yv∧w' = w) (hy : ∀ σ,Rep σ y yv) : CallA P f [.one (.d (.str a)),.one (.d (.str b))] [] (.one (.d y)) []:=by
 refine ⟨hfn,fun w σ φ vs hI hA=>?_⟩
 match vs,hA with
 | [v0,v1],hA =>
   obtain ⟨hv0,hv1,_⟩:=hA
   have hv0 : RepC σ φ _ (.d (.str a)) v0:=hv0
   have hv1 : RepC σ φ _ (.d (.str b)) v1:=hv1
   replace hv0:=hv0.d_inv
   replace hv1:=hv1.d_inv
   cases hv0
   cases hv1
   refine (hC w).mono ?_
   rintro e w' ⟨rfl,rfl⟩
   exact ⟨_,σ,φ,rfl,Sig.le_refl _,fun b hb=>.inl hb,hI,.d (hy σ),fun i e p h1 h2=>(nomatch h1),fun _ _=>rfl,⟨rfl,rfl,rfl,Nat.le_refl _,Nat.le_refl _,fun _ _ _=>rfl⟩⟩
theorem yA : ∀ (a b : List UInt8),Lib.compareBytes a b = if Op.bytesLess a b = true then -1 else if (!(Op.bytesLess a b || a == b)) = true then 1 else 0
 | [],[]=>rfl
 | [],_::_=>rfl
 | _::_,[]=>rfl
 | x::a,y::b=>by
   have ih:=yA a b
   unfold Lib.compareBytes
   rw [ih]
   rw [show Op.bytesLess (x::a) (y::b) = (decide (x < y) || (x == y && Op.bytesLess a b)) from rfl]
   by_cases h1 : x < y
   ·simp [h1]
   ·by_cases h2 : y < x
    ·have : x≠y:=fun e=>by subst e; exact absurd h2 h1
     simp [h1,h2,this]
    ·have e : x = y:=by
      have h3 : ¬ x.toNat < y.toNat:=h1
      have h4 : ¬ y.toNat < x.toNat:=h2
      exact UInt8.toNat_inj.1 (by omega)
     subst e
     simp [h1]
end Go.Abs
namespace Go.Proofs.YtpejdgkaapnekaaGreat
open Go Go.Proofs Go.Shelf Go.Abs
def CN : Go.Shelf.Ren:=⟨fun | 106=>382 | 213=>386 | 265=>387 | n=>n,fun | 3=>3 | 9=>9 | n=>n,fun | n=>n⟩
theorem I2 : Go.Proofs.Lays.n106 Tryz.prog CN:={
 mixed:=by kernel_rfl
 f106:=Tryz.func382.trans (congrArg some (by kernel_rfl))
 f213:=Tryz.func386.trans (congrArg some (by kernel_rfl))
 f265:=Tryz.func387.trans (congrArg some (by kernel_rfl))
 t3:=Tryz.underlying3
 a3:=Tryz.isAgg3
 z3:=Tryz.sizeOf3
 v3:=Tryz.zeroValue3
 t9:=Tryz.underlying9
 a9:=Tryz.isAgg9
 z9:=Tryz.sizeOf9
 v9:=Tryz.zeroValue9 }
def kH(a b : List UInt8) : Int:=if Op.bytesLess a b = true then -1 else if (!(Op.bytesLess a b || a == b)) = true then 1 else 0
theorem I3(a b : List UInt8) : CallA Tryz.prog 382 [.one (.d (.str a)),.one (.d (.str b))] [] (.one (.d (.int .i64 (kH a b)))) []:=by
 refine vK (yv:=.int .i64 (kH a b)) ⟨Tryz.f382,Tryz.func382,by kernel_rfl,by kernel_rfl⟩ (fun w=>?_) (fun σ=>.int ?_)
 ·have:=Any.strings_Compare I2 ⟨a.toArray⟩ ⟨b.toArray⟩ w
  rw [List.toList_toArray,List.toList_toArray,yA] at this
  exact this
 ·unfold kH
  simp only [inR,IntKind.min,IntKind.max,IntKind.signed,IntKind.bits,if_true]
  split
  ·omega
  ·split <;> omega
end Go.Proofs.YtpejdgkaapnekaaGreat
