import Derived.Shelf.Small.Strs
import Derived.Test.YtpejdgkaapnekaaGreatWP23
import Derived.Test.YtpejdgkaapnekaaGreatWP14
import Derived.Test.YtpejdgkaapnekaaGreatWP20
import Derived.Test.YtpejdgkaapnekaaGreatWTab
set_option linter.unusedVariables false
set_option linter.unusedSimpArgs false
set_option linter.unnecessarySimpa false
set_option maxHeartbeats 1000000
namespace Go.Proofs.YtpejdgkaapnekaaGreat
open Go Go.Abs
attribute [local irreducible] aa OkC aj av al aB
set_option maxRecDepth 10000
theorem Kl(m n : Nat)(h : m < n) : CallA Tryz.prog 355 [.one (.d (bj m)),.one (.d (bj n))] [] (.tup [(false,[.d (bj (m / n))]),(false,[.d (bj (m % n))])]) []:=by
 have hc : decide (kU m n < 0) = true:=by rw [nr h]; rfl
 rw [Nat.div_eq_of_lt h,Nat.mod_eq_of_lt h,show bj 0 = .sl 1 4 [] by unfold bj dY; rw [fe]; rfl]
 refine enter af Tryz.func355 rfl (by decide +kernel) rfl fun hok w0 σ0 φ0 M=>?_
 clear hok
 repeat' (first|(refine h1H ?_; (refine h0H ?_; refine ab J J J J J J J J (ue _ _) J ?_))|(refine h5H ?_; refine bO (lB (s:=4) (k:=1) (b:=4) J) (dg ?_))|refine wG ?_)
 all_goals rfl
theorem Ah{m n : Nat}(h : n≤m) : decide (kU m n < 0) = false:=by
 rcases Nat.lt_or_ge n m with h2 | h2
 ·rw [nt h2]; rfl
 ·rw [qx (by omega)]; rfl
theorem Mj{n : Nat}(h : (dig n).length = 1) : at_ (dig n) 0 = (n : Int)∧0 < n∧n < 4294967296:=by
 obtain ⟨h1,h2,h3⟩:=cq n
 match hd : dig n,h with
 | [d],_ =>
   rw [hd] at h1 h2 h3
   simp only [ae] at h2
   have h4:=h1 d List.mem_cons_self
   have h5 : d≠0:=by
    rcases h3 with h3 | h3
    ·cases h3
    ·exact h3
   show d = _∧_
   omega
theorem Km(m n : Nat)(d : Int)(hd : d = (n : Int))(hm : (dig m).length≤400)(hn : 0 < n∧n < 4294967296) : CallA Tryz.prog 371 [.one (.d (bj m)),.one (.d (.int .u32 d))] [] (.tup [(false,[.d (bj (m / n))]),(false,[.d (.int .u32 (m % n : Nat))])]) []:=by
 subst hd; exact Mk m n hm hn
theorem Ko(m n : Nat)(h : n≤m)(hl : (dig n).length = 1)(hm : (dig m).length≤400) : CallA Tryz.prog 355 [.one (.d (bj m)),.one (.d (bj n))] [] (.tup [(false,[.d (bj (m / n))]),(false,[.d (bj (m % n))])]) []:=by
 have hc:=Ah h
 obtain ⟨e1,en⟩:=Mj hl
 have hlr : ((dig n).map ar).length = 1:=by simpa using hl
 have hb : ((((dig n).map ar).length : Int) == 1) = true:=by rw [hlr]; rfl
 have hmod : m % n < 4294967296:=Nat.lt_trans (Nat.mod_lt _ en.1) en.2
 refine enter af Tryz.func355 rfl (by decide +kernel) rfl fun hok w0 σ0 φ0 M=>?_
 clear hok
 repeat' (first|(refine h1H ?_; (refine h0H ?_; first|refine ab J J J J J J J J (ue _ _) J ?_|refine aZ 16 J J J J J J J J (Km _ n _ e1 hm en) J J J ?_|refine aZ 16 J J J J J J J J (IJ _ (by omega)) J J J ?_))|refine wG ?_)
 all_goals rfl
theorem Kp(v : Int)(s : Nat)(hv : 0≤v∧v < 4294967296)(hs : 32 - (Lib.bitLen v.toNat : Int) = (s : Int)) : CallA Tryz.prog 372 [.one (.d (.int .u32 v))] [] (.one (.d (.int .i64 (s : Int)))) []:=by
 obtain ⟨x,rfl⟩:=Int.eq_ofNat_of_zero_le hv.1
 have:=LQ x (by omega)
 rw [Int.toNat_natCast] at hs
 rwa [hs] at this
theorem IK(m s : Nat)(hm : (dig m).length≤400)(hs : s≤31) : CallA Tryz.prog 373 [.one (.d (bj m)),.one (.d (.int .i64 s))] [] (.one (.own 10 ((dig m).length + 1))) [(10,.row 1 4 ((wid ((dig m).length + 1) (m * 2 ^ s)).map ar))]:=by
 obtain ⟨a1,a2,a3⟩:=cq m
 have:=Ke (dig m) s a1 hm hs
 rwa [a2,show ((m : Int) * 2 ^ s).toNat = m * 2 ^ s by
  rw [show ((m : Int) * 2 ^ s) = ((m * 2 ^ s : Nat) : Int) by simp]; rfl] at this
theorem Kq(w a : Nat)(h : a < bp w) : CallA Tryz.prog 374 [.one (.d (dY (wid w a)))] [] (.one (.d (bj a))) []:=by
 have:=IL (wid w a) (iF w a)
 rwa [jX w a h] at this
theorem Kr(W a n : Nat)(hn : n≤W)(hW : W≤1000)(ha : a < bp n) : CallA Tryz.prog 374 [.one (.own 1000000 n)] [(1000000,.row 1 4 ((wid W a).map ar))] (.one (.own 1000000 (dig a).length)) [(1000000,.row 1 4 ((wid W a).map ar))]:=by
 have hw:=jX W a (Nat.lt_of_lt_of_le ha (jb hn))
 have:=Kf (wid W a) n (by rw [eK]; exact hn) (iF W a) (by rw [eK]; exact hW)
 rwa [xL (kY (iF W a) (by rw [hw,pwc]; omega)),hw] at this
theorem IM{st : St}{ρ : List (Nat×Nat)}{j i0 : Nat}{o0 o : AObj}(h0 : Abs.look ρ j = some i0)(h1 : Abs.look st.sto i0 = some o0)(hc : compat o0 o) : ∀ i e,Abs.look ρ j = some i→Abs.look st.sto i = some e→compat e o:=fun i e h2 h3=>by
 rw [h0] at h2; cases h2
 rw [h1] at h3; cases h3
 exact hc
theorem Ks{u v un : Nat}{j : Int}(h0 : decide (0≤j) = true)(hv : 0 < v)(hun : un = u % (bp (j + 1).toNat * v)) : un < bp (j.toNat + 1) * v:=by
 have h0:=of_decide_eq_true h0
 rw [hun,show (j + 1).toNat = j.toNat + 1 by omega]
 exact Nat.mod_lt _ (Nat.mul_pos (DG _) hv)
theorem Hd{v u un : Nat}{j : Int}{Q : List Int}{R : List (List D)}{N : Nat}(hv : 0 < v)(h0 : decide (0≤j) = true)(hj : j < (N : Int))(hr : R = Q.map ar)(hl : R.length = N)(hQ : Dg Q)(hun : un = u % (bp (j + 1).toNat * v))(hq : ae (Q.drop (j + 1).toNat) = ((u / (bp (j + 1).toNat * v) : Nat) : Int)) :
  -1≤j - 1∧j - 1 < (N : Int)∧R.set j.toNat [.int .u32 ((un / (bp j.toNat * v) : Nat) : Int)] = (Q.set j.toNat ((un / (bp j.toNat * v) : Nat) : Int)).map ar∧(R.set j.toNat [.int .u32 ((un / (bp j.toNat * v) : Nat) : Int)]).length = N∧Dg (Q.set j.toNat ((un / (bp j.toNat * v) : Nat) : Int))∧un % (bp j.toNat * v) = u % (bp (j - 1 + 1).toNat * v) ∧
  ae ((Q.set j.toNat ((un / (bp j.toNat * v) : Nat) : Int)).drop (j - 1 + 1).toNat) = ((u / (bp (j - 1 + 1).toNat * v) : Nat) : Int):=by
 have h0:=of_decide_eq_true h0
 obtain ⟨i,rfl⟩:=Int.eq_ofNat_of_zero_le h0
 rw [show ((i : Int) + 1).toNat = i + 1 by omega] at hun hq
 rw [show ((i : Int) - 1 + 1).toNat = i by omega,Int.toNat_natCast]
 exact ⟨by omega,by omega,Fi (W:=0) hv (by omega) hr hl hQ hun hq⟩
theorem nu{m n s un : Nat}{j : Int}{Q : List Int}(h0 : decide (0≤j) = false)(h1 : -1≤j)(hun : un = (m * 2 ^ s) % (bp (j + 1).toNat * (n * 2 ^ s)))(hq : ae (Q.drop (j + 1).toNat) = (((m * 2 ^ s) / (bp (j + 1).toNat * (n * 2 ^ s)) : Nat) : Int)) : (ae Q).toNat = m / n∧un = m % n * 2 ^ s:=by
 have h0:=of_decide_eq_false h0
 rw [show (j + 1).toNat = 0 by omega,uf,Nat.one_mul] at hun hq
 rw [List.drop_zero,Nat.mul_div_mul_right _ _ (Nat.two_pow_pos s)] at hq
 rw [Nat.mul_mod_mul_right] at hun
 exact ⟨by rw [hq]; rfl,hun⟩
theorem wP{m n s un k : Nat}(hn : 0 < n)(h : un = m % n * 2 ^ s)(hv : n * 2 ^ s < bp (k + 2)) : un < bp (k + 2):=by
 have : m % n * 2 ^ s < n * 2 ^ s:=Nat.mul_lt_mul_of_pos_right (Nat.mod_lt _ hn) (Nat.two_pow_pos s)
 omega
theorem GD{a w : Nat}(h : a < bp w) : (dig a).length≤w:=by
 refine Nat.le_of_not_lt fun hc=>?_
 obtain ⟨k,hk⟩ : ∃ k,(dig a).length = k + 1:=⟨(dig a).length - 1,by omega⟩
 obtain ⟨g1,g2,_⟩:=sT hk
 have h3:=jb (show w≤k by omega)
 have h4:=(cq a).1.at (i:=k) (by omega)
 have h5 : (1 : Int) * (bp k : Int)≤at_ (dig a) k * (bp k : Int):=Int.mul_le_mul_of_nonneg_right (by omega) (by omega)
 omega
theorem IN{Q : List Int}{R : List (List D)}{s W i r a : Nat}(ha : a = r * 2 ^ s)(hs : s≤31)(haW : a < bp W)(hi : i≤(dig a).length)(h0 : decide ((i : Int) < ((dig a).length : Int)) = false)(hiW : (dig a).length≤W)(h : RsI (wid W a) s W i Q R) : R.take (dig a).length = (Q.take (dig a).length).map ar∧Dg (Q.take (dig a).length)∧(ae (Q.take (dig a).length)).toNat = r:=by
 have e : i = (dig a).length:=by have:=of_decide_eq_false h0; omega
 rw [← e]
 exact IP ha hs haW e (by omega) h
set_option maxHeartbeats 2000000 in
theorem Kt(m n k : Nat)(h : n≤m)(hl : (dig n).length = k + 2)(hm : (dig m).length≤400)(hn0 : 0 < n) : CallA Tryz.prog 355 [.one (.d (bj m)),.one (.d (bj n))] [] (.tup [(false,[.d (bj (m / n))]),(false,[.d (bj (m % n))])]) []:=by
 have hc:=Ah h
 have hnm : (dig n).length≤(dig m).length:=jc h
 obtain ⟨s,hs,hs0,hs1,hvb⟩:=Fj hl
 obtain ⟨hvl,hvt⟩:=Fk hs1 hvb
 obtain ⟨hu1,hu2⟩:=He (m:=m) (k:=k) hs hs1 (by omega)
 have hv0 : 0 < n * 2 ^ s:=Nat.mul_pos hn0 (Nat.two_pow_pos s)
 have hlr : ((dig n).map ar).length = k + 2:=by simpa using hl
 have hvr : ((dig (n * 2 ^ s)).map ar).length = k + 2:=by simpa using hvl
 have hvN : (((dig (n * 2 ^ s)).map ar).length : Int).toNat = k + 2:=by rw [hvr]; rfl
 have hb : ((((dig n).map ar).length : Int) == 1) = false:=by rw [hlr]; exact beq_false_of_ne (by omega)
 have ei : ((((dig n).map ar).length : Int) - 1).toNat = k + 1:=by rw [hlr]; omega
 have hd5 : 0≤at_ (dig n) ((((dig n).map ar).length : Int) - 1).toNat∧at_ (dig n) ((((dig n).map ar).length : Int) - 1).toNat < 4294967296:=by rw [ei]; exact (cq n).1.at (by omega)
 have hs5 : 32 - (Lib.bitLen (at_ (dig n) ((((dig n).map ar).length : Int) - 1).toNat).toNat : Int) = (s : Int):=by rw [ei]; exact hs0
 have hv5 : n * 2 ^ s < bp ((dig n).length + 1):=Nat.lt_of_lt_of_le hvb (jb (by omega))
 have hfin : ∀ (q : Nat×List Int×List (List D)) (p : Int×Nat×List Int×List (List D)),decide ((q.1 : Int) < ((dig p.2.1).length : Int)) = false→decide (0≤p.1) = false→-1≤p.1→p.2.1 = (m * 2 ^ s) % (bp (p.1 + 1).toNat * (n * 2 ^ s))→ae (p.2.2.1.drop (p.1 + 1).toNat) = (((m * 2 ^ s) / (bp (p.1 + 1).toNat * (n * 2 ^ s)) : Nat) : Int)→q.1≤(dig p.2.1).length→(dig p.2.1).length≤(dig m).length + 1→RsI (wid ((dig m).length + 1) p.2.1) s ((dig m).length + 1) q.1 q.2.1 q.2.2 →
   q.2.2.take (dig p.2.1).length = (q.2.1.take (dig p.2.1).length).map ar∧Dg (q.2.1.take (dig p.2.1).length)∧(ae (q.2.1.take (dig p.2.1).length)).toNat = m % n :=
  fun q p h1 h2 h3 h4 h5 h6 h7 h8=>IN (nu h2 h3 h4 h5).2 hs (Nat.lt_of_lt_of_le (wP hn0 (nu h2 h3 h4 h5).2 hvb) (jb (by omega))) h6 h1 h7 h8
 refine enter af Tryz.func355 rfl (by decide +kernel) rfl fun hok w0 σ0 φ0 M=>?_
 clear hok
 repeat' (first|(refine h1H ?_; (refine h0H ?_; first|refine aZ 60 J J J J J J J J (LV n s (by omega) hs) J J J ?_|refine aZ 60 J J J J J J J J (Kq _ _ hv5) J J J ?_))|(refine h1H ?_; (refine h7H ?_; refine gy ao 10 J J J (cV (n:=(dig m).length + 1 - (k + 2)) J J J J J (by omega) (by omega) (by omega) (Nat.le_of_ble_eq_true J)) J J ?_))|(refine h1H ?_; (refine h0H ?_; refine jO 10 [] (rav':=.one (.own 20 ((dig m).length + 1))) (IK m s hm hs) J J J J J J trivial kn J J J J ?_))|(refine h1H ?_; (refine Ml ?_; refine Fl ao (lo:=p.1.toNat) (n:=(dig (n * 2 ^ s)).length + 1) J J J J J J J J J J wB wB wB (by simp [eK]) ?_))|(refine h1H ?_; (refine h0H ?_; refine jO 40 [(1000000,20)] (rav':=.one (.d (.int .u32 ((p.2.1 / (bp p.1.toNat * (n * 2 ^ s)) : Nat) : Int)))) (Ku (n * 2 ^ s) k p.1.toNat ((dig m).length + 1) p.2.1 hvl hvt (by omega) (by omega) (by omega) (Ks h hv0 hun)) J J J J J J ⟨⟨20,rfl,rfl⟩,trivial⟩ ⟨IM (i0:=20) J J ⟨rfl,rfl,by simp [eK]⟩,trivial⟩ J J J J ?_))|(refine h1H ?_; (refine Mm ?_; refine s_e ao J J J (eJ J J J J J J (by omega) (by omega) (by simp [eK])) ?_))|(refine h1H ?_; (refine h0H ?_; first|refine jO 40 [(1000000,20)] (rav':=.one (.own 20 (dig p.2.1).length)) (Kr ((dig m).length + 1) p.2.1 (((dig (n * 2 ^ s)).map ar).length : Int).toNat (by omega) (by omega) (by rw [hvN]; exact wP hn0 (nu h hk1 hun hq).2 hvb)) J J J J J J ⟨⟨20,rfl,rfl⟩,trivial⟩ ⟨IM (i0:=20) J J ⟨rfl,rfl,Nat.le_refl _⟩,trivial⟩ J J J J ?_|refine eo 60 [10] J J J J J J J J J (ml _ p.2.2.1 (m / n) (ug hr hl2) hL (nu ‹decide (0≤p.1) = false› hk1 hun hq).1) J J J ?_|refine eo 80 [20] J J J J J J J J J (ml _ _ (m % n) (hfin q p h ‹decide (0≤p.1) = false› hk1 hun hq hq1 hLW ⟨hR1,hR2,hR3,hR4,hR5⟩).1 (hfin q p h ‹decide (0≤p.1) = false› hk1 hun hq hq1 hLW ⟨hR1,hR2,hR3,hR4,hR5⟩).2.1 (hfin q p h ‹decide (0≤p.1) = false› hk1 hun hq hq1 hLW ⟨hR1,hR2,hR3,hR4,hR5⟩).2.2) J J J ?_|refine ab J J J J J J J J (ue _ _) J ?_|refine ab J J J J J J J J (Kp _ s hd5 hs5) J ?_))|(refine h3H ?_; (refine Mn ?_; refine d_e ao J J J (DH J J J (by omega)) ?_))|(refine h3H ?_; (refine Mo ?_; refine d_e ao J J J (c8 J J J J (fp (fq hR1) (by simp only [List.length_set]; have:=of_decide_eq_true h; omega)) J) ?_))|refine wG ?_|(refine h5H ?_; first|refine ai J (fun h=>?_) (fun h=>?_)|refine bG 16 J [(8,_),(12,_),(14,_),(83,_)] (q4Q J J J J) (fun (q : Nat×List Int×List (List D))=>[(84,.one (.d (.int .i64 (q.1 : Int))))]) (fun (q : Nat×List Int×List (List D))=>[(20,.row 1 4 q.2.2),(10,.row 1 4 p.2.2.2)]) (fun (q : Nat×List Int×List (List D))=>q.1≤(dig p.2.1).length∧(dig p.2.1).length≤(dig m).length + 1∧RsI (wid ((dig m).length + 1) p.2.1) s ((dig m).length + 1) q.1 q.2.1 q.2.2) (fun (q : Nat×List Int×List (List D))=>(dig p.2.1).length - q.1) (0,wid ((dig m).length + 1) p.2.1,(wid ((dig m).length + 1) p.2.1).map ar) (q1Q J) wK ?_ (fun q ⟨hq1,hLW,hR1,hR2,hR3,hR4,hR5⟩=>?_)|refine bG 11 J [(8,_),(9,_),(10,_),(11,_),(12,_)] (q5Q J J J J J) (fun (p : Int×Nat×List Int×List (List D))=>[(13,.one (.d (.int .i64 p.1)))]) (fun (p : Int×Nat×List Int×List (List D))=>[(20,.row 1 4 ((wid ((dig m).length + 1) p.2.1).map ar)),(10,.row 1 4 p.2.2.2)]) (fun (p : Int×Nat×List Int×List (List D))=>-1≤p.1∧p.1 < (((dig m).length + 1 - (k + 2) : Nat) : Int)∧p.2.2.2 = p.2.2.1.map ar∧p.2.2.2.length = (dig m).length + 1 - (k + 2)∧Dg p.2.2.1∧p.2.1 = (m * 2 ^ s) % (bp (p.1 + 1).toNat * (n * 2 ^ s))∧ae (p.2.2.1.drop (p.1 + 1).toNat) = (((m * 2 ^ s) / (bp (p.1 + 1).toNat * (n * 2 ^ s)) : Nat) : Int)) (fun (p : Int×Nat×List Int×List (List D))=>(p.1 + 1).toNat) ((((dig m).length + 1 : Nat) : Int) - (((dig (n * 2 ^ s)).map ar).length : Int) - 1,m * 2 ^ s,List.replicate ((dig m).length + 1 - (k + 2)) 0,List.replicate ((dig m).length + 1 - (k + 2)) [.int .u32 0]) (q1Q J) wK ?_ (fun p ⟨hk1,hk2,hr,hl2,hL,hun,hq⟩=>?_))|(show Exists _; first|refine Exists.intro (((p.1 - 1),p.2.1 % (bp p.1.toNat * (n * 2 ^ s)),p.2.2.1.set p.1.toNat ((p.2.1 / (bp p.1.toNat * (n * 2 ^ s)) : Nat) : Int),p.2.2.2.set p.1.toNat [.int .u32 ((p.2.1 / (bp p.1.toNat * (n * 2 ^ s)) : Nat) : Int)])) ⟨?_,?_,wK,(q1Q J),(q5Q J J J J J)⟩|refine Exists.intro ((q.1 + 1,(q.2.1.set q.1 (rsX (at_ q.2.1 q.1) s)).set q.1 (shO (at_ (q.2.1.set q.1 (rsX (at_ q.2.1 q.1) s)) q.1) (shV (at_ (q.2.1.set q.1 (rsX (at_ q.2.1 q.1) s)) (q.1 + 1)) (32 - (s : Int)))),(q.2.2.set q.1 [.int .u32 (rsX (at_ q.2.1 q.1) s)]).set q.1 [.int .u32 (shO (at_ (q.2.1.set q.1 (rsX (at_ q.2.1 q.1) s)) q.1) (shV (at_ (q.2.1.set q.1 (rsX (at_ q.2.1 q.1) s)) (q.1 + 1)) (32 - (s : Int))))])) ⟨?_,?_,wK,(q1Q J),(q4Q J J J J)⟩|refine Exists.intro ((q.1 + 1,q.2.1.set q.1 (rsX (at_ q.2.1 q.1) s),q.2.2.set q.1 [.int .u32 (rsX (at_ q.2.1 q.1) s)])) ⟨?_,?_,wK,(q1Q J),(q4Q J J J J)⟩))
 ·show -1≤(((dig m).length + 1 : Nat) : Int) - (((dig (n * 2 ^ s)).map ar).length : Int) - 1∧(((dig m).length + 1 : Nat) : Int) - (((dig (n * 2 ^ s)).map ar).length : Int) - 1 < _∧_∧_∧_∧m * 2 ^ s = _ % (bp ((((dig m).length + 1 : Nat) : Int) - (((dig (n * 2 ^ s)).map ar).length : Int) - 1 + 1).toNat * _)∧ae ((List.replicate _ (0 : Int)).drop ((((dig m).length + 1 : Nat) : Int) - (((dig (n * 2 ^ s)).map ar).length : Int) - 1 + 1).toNat) = ((_ / (bp ((((dig m).length + 1 : Nat) : Int) - (((dig (n * 2 ^ s)).map ar).length : Int) - 1 + 1).toNat * _) : Nat) : Int)
  rw [hvr,show ((((dig m).length + 1 : Nat) : Int) - ((k + 2 : Nat) : Int) - 1 + 1).toNat = (dig m).length + 1 - (k + 2) by omega]
  refine ⟨by omega,by omega,by simp [ar],by simp,Dg.zeros _,(Nat.mod_eq_of_lt hu1).symm,?_⟩
  rw [Nat.div_eq_of_lt hu1,List.drop_eq_nil_of_le (by simp)]; rfl
 ·exact Hd hv0 h hk2 hr hl2 hL hun hq
 ·have h0:=of_decide_eq_true h
  show (p.1 - 1 + 1).toNat < (p.1 + 1).toNat
  omega
 ·have hun2:=(nu h hk1 hun hq).2
  have hul:=GD (wP hn0 hun2 hvb)
  exact ⟨Nat.zero_le _,by omega,rfl,by simp [eK],iF _ _,fun t _=>rfl,by
   show ae ((wid ((dig m).length + 1) p.2.1).take 0) * 2 ^ s = ae ((wid ((dig m).length + 1) p.2.1).take 0) - _ + pw 0 * _
   rw [List.take_zero,lC]; simp only [ae]; rw [Int.zero_mul]; omega⟩
 ·have hlt:=of_decide_eq_true h
  exact ⟨by show q.1 + 1≤_; omega,hLW,Fm hs (eK _ _) (by omega) (iF _ _) ⟨hR1,hR2,hR3,hR4,hR5⟩⟩
 ·have hlt:=of_decide_eq_true h
  show (dig p.2.1).length - (q.1 + 1) < (dig p.2.1).length - q.1
  omega
 ·have hlt:=of_decide_eq_true ‹decide ((q.1 : Int) < ((dig p.2.1).length : Int)) = true›
  have hge:=of_decide_eq_false h
  have hun2:=(nu ‹decide (0≤p.1) = false› hk1 hun hq).2
  have hul:=Nat.lt_of_lt_of_le (wP hn0 hun2 hvb) (jb (show k + 2≤(dig m).length + 1 by omega))
  have hz:=kY (k:=(dig p.2.1).length) (iF ((dig m).length + 1) p.2.1) (by rw [jX _ _ hul,pwc]; have:=nv p.2.1; omega) (q.1 + 1) (by omega)
  exact ⟨by show q.1 + 1≤_; omega,hLW,Fo hs (eK _ _) (by omega) (iF _ _) hz ⟨hR1,hR2,hR3,hR4,hR5⟩⟩
 ·have hlt:=of_decide_eq_true ‹decide ((q.1 : Int) < ((dig p.2.1).length : Int)) = true›
  show (dig p.2.1).length - (q.1 + 1) < (dig p.2.1).length - q.1
  omega
 ·rfl
theorem ua : lS:=fun m n hn hm hd=>by
 unfold dl at hm hd
 rcases Nat.lt_or_ge m n with h | h
 ·exact Kl m n h
 ·have hne : (dig n).length≠0:=fun e=>by
   have:=nv n
   rw [e,uf] at this; omega
  by_cases h1 : (dig n).length = 1
  ·exact Ko m n h h1 (by omega)
  ·exact Kt m n ((dig n).length - 2) h (by omega) (by omega) (by omega)
structure RatOk (a1 b1 a2 b2 : Nat) : Prop where
 h1 : b1≠0
 h2 : b2≠0
 l1 : (dig a1).length≤400
 l2 : (dig b1).length≤400
 l3 : (dig a2).length≤400
 l4 : (dig b2).length≤400
 m1 : dl (a1 * b2)≤100
 m2 : dl (a2 * b1)≤100
 m3 : dl (b1 * b2)≤100
 m4 : dl (a1 * b2 + a2 * b1)≤100
 m5 : dl (a1 * a2)≤100
 m6 : dl (b1 * a2)≤100
theorem RatOk.add(hD : lS){a1 b1 a2 b2 : Nat}(h : RatOk a1 b1 a2 b2)(s1 s2 minus : Bool) : CallA Tryz.prog 359 [.one (.d (cg s1 a1 b1)),.one (.d (cg s2 a2 b2)),.one (.d (.bool minus))] [] (.one (.d (oF s1 a1 b1 s2 a2 b2 minus))) [] :=
 MV hD s1 a1 b1 s2 a2 b2 minus h.h1 h.h2 h.l1 h.l2 h.l3 h.l4 (Nat.le_trans h.m1 (by omega)) (Nat.le_trans h.m2 (by omega)) h.m3 h.m4 (Nat.le_trans (jc (Nat.sub_le _ _)) h.m1) (Nat.le_trans (jc (Nat.sub_le _ _)) h.m2)
theorem MW(hD : lS)(s1 : Bool)(a1 b1 : Nat)(s2 : Bool)(a2 b2 : Nat)(hR : RatOk a1 b1 a2 b2) : CallA Tryz.prog 321 [.one (.d (cg s1 a1 b1)),.one (.d (cg s2 a2 b2))] [] (.one (.d (oF s1 a1 b1 s2 a2 b2 false))) []:=by
 refine enter af Tryz.func321 rfl (by decide +kernel) rfl fun hok w0 σ0 φ0 M=>?_
 clear hok
 repeat' (first|(refine h1H ?_; (refine h0H ?_; refine aZ 16 J J J J J J J J (hR.add hD _ _ _) J J J ?_))|refine wG ?_)
 all_goals rfl
theorem I6(hD : lS)(s1 : Bool)(a1 b1 : Nat)(s2 : Bool)(a2 b2 : Nat)(hR : RatOk a1 b1 a2 b2) : CallA Tryz.prog 322 [.one (.d (cg s1 a1 b1)),.one (.d (cg s2 a2 b2))] [] (.one (.d (oF s1 a1 b1 s2 a2 b2 true))) []:=by
 refine enter af Tryz.func322 rfl (by decide +kernel) rfl fun hok w0 σ0 φ0 M=>?_
 clear hok
 repeat' (first|(refine h1H ?_; (refine h0H ?_; refine aZ 16 J J J J J J J J (hR.add hD _ _ _) J J J ?_))|refine wG ?_)
 all_goals rfl
set_option maxHeartbeats 1000000 in
theorem MX(hD : lS)(s1 : Bool)(a1 b1 : Nat)(s2 : Bool)(a2 b2 : Nat)(hR : RatOk a1 b1 a2 b2) : CallA Tryz.prog 323 [.one (.d (cg s1 a1 b1)),.one (.d (cg s2 a2 b2))] [] (.one (.d (yj (s1 != s2) (a1 * a2) (b1 * b2)))) []:=by
 obtain ⟨h1,h2,l1,l2,l3,l4,m1,m2,m3,m4,m5,m6⟩:=hR
 have hb12 : b1 * b2≠0:=Nat.mul_ne_zero h1 h2
 have v1 : decide (b1≠0) = true:=by simp [h1]
 have v2 : decide (b2≠0) = true:=by simp [h2]
 refine enter af Tryz.func323 rfl (by decide +kernel) rfl fun hok w0 σ0 φ0 M=>?_
 clear hok
 repeat' (first|(refine h1H ?_; (refine h0H ?_; refine ab J J J J J J J J (oG _ _ _) J ?_))|(refine h3H ?_; (refine h2H ?_; first|refine cr 16 J J J J J J J J (yk _ _ l1 l3) J J ?_|refine cr 16 J J J J J J J J (yk _ _ l2 l4) J J ?_|refine cr 16 J J J J J J J J (BS hD _ _ _ m5 m3 hb12) J J ?_))|refine wG ?_|(refine h1H ?_; (refine h4H ?_; refine aG J J J J (fun h=>?_) (fun h=>?_)))|(refine h5H ?_; refine ai J (fun h=>?_) (fun h=>?_)))
 all_goals first
  | rfl
  | (exfalso; simp_all; done)
  | skip
set_option maxHeartbeats 1000000 in
theorem MY(hD : lS)(s1 : Bool)(a1 b1 : Nat)(s2 : Bool)(a2 b2 : Nat)(hR : RatOk a1 b1 a2 b2)(h0 : a2≠0) : CallA Tryz.prog 362 [.one (.d (cg s1 a1 b1)),.one (.d (cg s2 a2 b2))] [] (.tup [(false,[.d (yj (s1 != s2) (a1 * b2) (b1 * a2))]),(false,[.d (.int .i64 0)])]) []:=by
 obtain ⟨h1,h2,l1,l2,l3,l4,m1,m2,m3,m4,m5,m6⟩:=hR
 have hb12 : b1 * a2≠0:=Nat.mul_ne_zero h1 h0
 have v1 : decide (b1≠0) = true:=by simp [h1]
 have v2 : decide (b2≠0) = true:=by simp [h2]
 have v3 : ((((dig a2).map ar).length : Int) == 0) = false:=by rw [pF]; simp [h0]
 refine enter af Tryz.func362 rfl (by decide +kernel) rfl fun hok w0 σ0 φ0 M=>?_
 clear hok
 repeat' (first|(refine h1H ?_; (refine h0H ?_; refine ab J J J J J J J J (oG _ _ _) J ?_))|(refine h3H ?_; (refine h2H ?_; first|refine cr 16 J J J J J J J J (yk _ _ l1 l4) J J ?_|refine cr 16 J J J J J J J J (yk _ _ l2 l3) J J ?_|refine cr 16 J J J J J J J J (BS hD _ _ _ m1 m6 hb12) J J ?_))|refine wG ?_|(refine h1H ?_; (refine h4H ?_; refine aG J J J J (fun h=>?_) (fun h=>?_)))|(refine h5H ?_; refine ai J (fun h=>?_) (fun h=>?_)))
 all_goals first
  | rfl
  | (exfalso; simp_all; done)
  | skip
set_option maxHeartbeats 1000000 in
theorem KB(s1 : Bool)(a1 b1 : Nat)(s2 : Bool)(b2 : Nat)(h1 : b1≠0)(h2 : b2≠0) : CallA Tryz.prog 362 [.one (.d (cg s1 a1 b1)),.one (.d (cg s2 0 b2))] [] (.tup [(false,[.d (.raw (.pointer none))]),(false,[.d (.int .i64 2)])]) []:=by
 have v1 : decide (b1≠0) = true:=by simp [h1]
 have v2 : decide (b2≠0) = true:=by simp [h2]
 have v3 : ((((dig 0).map ar).length : Int) == 0) = true:=by rw [pF]; simp
 refine enter af Tryz.func362 rfl (by decide +kernel) rfl fun hok w0 σ0 φ0 M=>?_
 clear hok
 repeat' (first|(refine h1H ?_; (refine h0H ?_; refine ab J J J J J J J J (oG _ _ _) J ?_))|refine wG ?_|(refine h1H ?_; (refine h4H ?_; refine aG J J J J (fun h=>?_) (fun h=>?_)))|(refine h5H ?_; refine ai J (fun h=>?_) (fun h=>?_)))
 all_goals first
  | rfl
  | (exfalso; simp_all; done)
  | skip
def gV(n : Nat) : Int×Bool:=if n≤1099511627776 then (n,true) else (0,false)
theorem BV(n : Nat) : CallA Tryz.prog 352 [.one (.d (bj n))] [] (.tup [(false,[.d (.int .i64 (gV n).1)]),(false,[.d (.bool (gV n).2)])]) []:=by
 unfold gV
 by_cases h : n≤1099511627776
 ·rw [if_pos h]; exact KC n h
 ·rw [if_neg h]; exact KD n h
def BW(k num den : Int) : AV:=.agg [.d (.int .i64 k),.d (.int .i64 num),.d (.int .i64 den),.d (.str [])]
theorem FI(r : Int) : CallA Tryz.prog 353 [.one (.d (.int .i64 r))] [] (BW 0 r 0) []:=by
 refine enter af Tryz.func353 rfl (by decide +kernel) rfl fun hok w0 σ0 φ0 M=>?_
 clear hok
 repeat' (first|refine wG ?_)
 all_goals rfl
def BX(neg : Bool)(a b : Nat) : AV:=if a≤1099511627776∧b≤1099511627776 then BW 2 (if neg = true then -(a : Int) else a) b else BW 0 2 0
theorem M4(neg : Bool)(a b : Nat)(hb : b≠0) : CallA Tryz.prog 313 [.one (.d (cg neg a b))] [] (BX neg a b) []:=by
 have v1 : decide (b≠0) = true:=by simp [hb]
 have hsp : (a≤1099511627776∧b≤1099511627776∧(gV a).2 = true∧(gV a).1 = a∧(gV b).2 = true∧(gV b).1 = b)∨(¬ a≤1099511627776∧(gV a).2 = false)∨(a≤1099511627776∧¬ b≤1099511627776∧(gV a).2 = true∧(gV b).2 = false):=by
  unfold gV
  by_cases h1 : a≤1099511627776 <;> by_cases h2 : b≤1099511627776 <;> simp [h1,h2]
 unfold BX
 rcases hsp with ⟨h1,h2,e1,e2,e3,e4⟩ | ⟨h1,e1⟩ | ⟨h1,h2,e1,e2⟩
 ·rw [if_pos ⟨h1,h2⟩]
  have hc:=BV a
  have hc2:=BV b
  rw [e1,e2] at hc
  rw [e3,e4] at hc2
  refine enter af Tryz.func313 rfl (by decide +kernel) rfl fun hok w0 σ0 φ0 M=>?_
  clear hok
  repeat' (first|(refine h1H ?_; (refine h0H ?_; first|refine ab J J J J J J J J (oG _ _ _) J ?_|refine ab J J J J J J J J (hc) J ?_|refine ab J J J J J J J J (hc2) J ?_))|refine wG ?_|(refine h5H ?_; refine ai J (fun h=>?_) (fun h=>?_)))
  all_goals first
   | (exfalso; simp_all; done)
   | (simp only [*,if_true,if_false,Bool.false_eq_true]; rfl)
   | (rw [if_pos h,Int.zero_sub]; rfl)
   | skip
 ·rw [if_neg (fun h=>h1 h.1)]
  refine enter af Tryz.func313 rfl (by decide +kernel) rfl fun hok w0 σ0 φ0 M=>?_
  clear hok
  repeat' (first|(refine h1H ?_; (refine h0H ?_; first|refine ab J J J J J J J J (oG _ _ _) J ?_|refine ab J J J J J J J J (BV _) J ?_|refine ab J J J J J J J J (FI _) J ?_))|refine wG ?_|(refine h1H ?_; (refine h4H ?_; refine aG J J J J (fun h=>?_) (fun h=>?_)))|(refine h5H ?_; refine ai J (fun h=>?_) (fun h=>?_)))
  all_goals first
   | rfl
   | (exfalso; simp_all; done)
   | skip
 ·rw [if_neg (fun h=>h2 h.2)]
  refine enter af Tryz.func313 rfl (by decide +kernel) rfl fun hok w0 σ0 φ0 M=>?_
  clear hok
  repeat' (first|(refine h1H ?_; (refine h0H ?_; first|refine ab J J J J J J J J (oG _ _ _) J ?_|refine ab J J J J J J J J (BV _) J ?_|refine ab J J J J J J J J (FI _) J ?_))|refine wG ?_|(refine h1H ?_; (refine h4H ?_; refine aG J J J J (fun h=>?_) (fun h=>?_)))|(refine h5H ?_; refine ai J (fun h=>?_) (fun h=>?_)))
  all_goals first
   | rfl
   | (exfalso; simp_all; done)
   | skip
def bz(v : Val) : AV:=.agg [.d (.int .i64 v.kind),.d (.int .i64 v.num),.d (.int .i64 v.den),.d (.str v.str)]
def cj(b : Bool) : Val:=⟨1,if b then 1 else 0,0,[]⟩
def isV(v : Val)(k : Int) : Bool:=v.kind == 0 || v.kind == k
def fu(a b : Val) : Bool:=a.kind == 0 || isV b a.kind
def sgF(a b : Int) : Int:=if a < b then -1 else if b < a then 1 else 0
theorem xi(b : Bool) : CallA Tryz.prog 310 [.one (.d (.bool b))] [] (bz (cj b)) []:=by
 refine enter af Tryz.func310 rfl (by decide +kernel) rfl fun hok w0 σ0 φ0 M=>?_
 clear hok
 repeat' (first|refine wG ?_|(refine h5H ?_; refine ai J (fun h=>?_) (fun h=>?_)))
 all_goals first | rfl | (simp_all [bz,cj,isV]; done)
theorem EY(v : Val)(k : Int) : CallA Tryz.prog 336 [bz v,.one (.d (.int .i64 k))] [] (.one (.d (.bool (isV v k)))) []:=by
 unfold bz
 refine enter af Tryz.func336 rfl (by decide +kernel) rfl fun hok w0 σ0 φ0 M=>?_
 clear hok
 repeat' (first|refine wG ?_|(refine h1H ?_; (refine h4H ?_; refine aG J J J J (fun h=>?_) (fun h=>?_))))
 all_goals first | rfl | (simp_all [bz,cj,isV]; done)
theorem Ir(l : D) : CallA Tryz.prog 316 [.one (.d l)] [] (.one (.d (.bool true))) []:=by
 refine enter af Tryz.func316 rfl (by decide +kernel) rfl fun hok w0 σ0 φ0 M=>?_
 clear hok
 repeat' (first|refine wG ?_)
 all_goals first | rfl | (simp_all [bz,cj,isV]; done)
theorem Lw(a b : Int) : CallA Tryz.prog 380 [.one (.d (.int .i64 a)),.one (.d (.int .i64 b))] [] (.one (.d (.int .i64 (sgF a b)))) []:=by
 refine enter af Tryz.func380 rfl (by decide +kernel) rfl fun hok w0 σ0 φ0 M=>?_
 clear hok
 repeat' (first|refine wG ?_|(refine h5H ?_; refine ai J (fun h=>?_) (fun h=>?_)))
 all_goals (refine congrArg (fun x=>AV.one (.d (.int .i64 x))) ?_; simp only [decide_eq_true_eq,decide_eq_false_iff_not] at *; unfold sgF; first | (rw [if_pos (by assumption)]; done) | (rw [if_neg (by omega),if_pos (by omega)]; done) | (rw [if_neg (by omega),if_neg (by omega)]; done))
theorem Lx(a b : Int) : CallA Tryz.prog 383 [.one (.d (.int .i64 a)),.one (.d (.int .i64 b))] [] (.one (.d (.int .i64 (sgF a b)))) []:=by
 refine enter af Tryz.func383 rfl (by decide +kernel) rfl fun hok w0 σ0 φ0 M=>?_
 clear hok
 repeat' (first|refine wG ?_|(refine h5H ?_; refine ai J (fun h=>?_) (fun h=>?_)))
 all_goals (refine congrArg (fun x=>AV.one (.d (.int .i64 x))) ?_; simp only [decide_eq_true_eq,decide_eq_false_iff_not] at *; unfold sgF; first | (rw [if_pos (by assumption)]; done) | (rw [if_neg (by omega),if_pos (by omega)]; done) | (rw [if_neg (by omega),if_neg (by omega)]; done))
theorem Ly(o : Int) : CallA Tryz.prog 326 [.one (.d (.int .i64 o))] [] (.one (.d (.bool (o == 0)))) []:=by
 refine enter af Tryz.func326 rfl (by decide +kernel) rfl fun hok w0 σ0 φ0 M=>?_
 clear hok
 repeat' (first|refine wG ?_)
 all_goals rfl
theorem LA(o : Int) : CallA Tryz.prog 327 [.one (.d (.int .i64 o))] [] (.one (.d (.bool (o != 0)))) []:=by
 refine enter af Tryz.func327 rfl (by decide +kernel) rfl fun hok w0 σ0 φ0 M=>?_
 clear hok
 repeat' (first|refine wG ?_)
 all_goals rfl
theorem LB(o : Int) : CallA Tryz.prog 328 [.one (.d (.int .i64 o))] [] (.one (.d (.bool (decide (o < 0))))) []:=by
 refine enter af Tryz.func328 rfl (by decide +kernel) rfl fun hok w0 σ0 φ0 M=>?_
 clear hok
 repeat' (first|refine wG ?_)
 all_goals rfl
theorem LC(o : Int) : CallA Tryz.prog 329 [.one (.d (.int .i64 o))] [] (.one (.d (.bool (decide (o≤0))))) []:=by
 refine enter af Tryz.func329 rfl (by decide +kernel) rfl fun hok w0 σ0 φ0 M=>?_
 clear hok
 repeat' (first|refine wG ?_)
 all_goals rfl
theorem LD(o : Int) : CallA Tryz.prog 330 [.one (.d (.int .i64 o))] [] (.one (.d (.bool (decide (0 < o))))) []:=by
 refine enter af Tryz.func330 rfl (by decide +kernel) rfl fun hok w0 σ0 φ0 M=>?_
 clear hok
 repeat' (first|refine wG ?_)
 all_goals rfl
theorem LF(o : Int) : CallA Tryz.prog 331 [.one (.d (.int .i64 o))] [] (.one (.d (.bool (decide (0≤o))))) []:=by
 refine enter af Tryz.func331 rfl (by decide +kernel) rfl fun hok w0 σ0 φ0 M=>?_
 clear hok
 repeat' (first|refine wG ?_)
 all_goals rfl
theorem LG(l : List Val)(hl : 1≤l.length) : CallA Tryz.prog 309 [.one (.d (aP l))] [] (bz (cj ((at_ l 0).num == 0))) []:=by
 refine enter af Tryz.func309 rfl (by decide +kernel) rfl fun hok w0 σ0 φ0 M=>?_
 clear hok
 repeat' (first|(refine h1H ?_; (refine h0H ?_; refine ab J J J J J J J J (xi _) J ?_))|refine wG ?_)
 all_goals rfl
theorem LH(l : List Val)(hl : 1≤l.length) : CallA Tryz.prog 318 [.one (.d (aP l))] [] (bz (cj ((at_ l 0).kind == 0))) []:=by
 refine enter af Tryz.func318 rfl (by decide +kernel) rfl fun hok w0 σ0 φ0 M=>?_
 clear hok
 repeat' (first|(refine h1H ?_; (refine h0H ?_; refine ab J J J J J J J J (xi _) J ?_))|refine wG ?_)
 all_goals rfl
theorem LJ(l : List Val)(hl : 1≤l.length) : CallA Tryz.prog 319 [.one (.d (aP l))] [] (bz ⟨2,if (at_ l 0).kind == 0 then (at_ l 0).num else 0,1,[]⟩) []:=by
 refine enter af Tryz.func319 rfl (by decide +kernel) rfl fun hok w0 σ0 φ0 M=>?_
 clear hok
 repeat' (first|refine wG ?_|(refine h5H ?_; refine ai J (fun h=>?_) (fun h=>?_)))
 all_goals first | rfl | (simp_all [bz,cj,isV]; done)
theorem LK(l : List Val)(hl : 2≤l.length) : CallA Tryz.prog 334 [.one (.d (aP l))] [] (bz (if (at_ l 0).kind == 0 then at_ l 1 else at_ l 0)) []:=by
 refine enter af Tryz.func334 rfl (by decide +kernel) rfl fun hok w0 σ0 φ0 M=>?_
 clear hok
 repeat' (first|refine wG ?_|(refine h5H ?_; refine ai J (fun h=>?_) (fun h=>?_)))
 all_goals first | rfl | (simp_all [bz,cj,isV]; done)
theorem LL(l : List Val)(hl : 3≤l.length) : CallA Tryz.prog 337 [.one (.d (aP l))] [] (bz (if (at_ l 0).kind == 0 then at_ l 0 else if (at_ l 0).num == 1 then at_ l 1 else at_ l 2)) []:=by
 refine enter af Tryz.func337 rfl (by decide +kernel) rfl fun hok w0 σ0 φ0 M=>?_
 clear hok
 repeat' (first|refine wG ?_|(refine h5H ?_; refine ai J (fun h=>?_) (fun h=>?_)))
 all_goals first | rfl | (simp_all [bz,cj,isV]; done)
theorem pb(l : List Val)(hl : 2≤l.length) : CallA Tryz.prog 333 [.one (.d (aP l))] [] (.one (.d (.bool (fu (at_ l (l.length - 2)) (at_ l (l.length - 1)))))) []:=by
 refine enter af Tryz.func333 rfl (by decide +kernel) rfl fun hok w0 σ0 φ0 M=>?_
 have h1:=hok.1.sl.1; clear hok; simp only [List.length_map] at h1
 have e1 : (((l.map az).length : Int) - 2).toNat = l.length - 2:=by rw [List.length_map]; omega
 have e2 : (((l.map az).length : Int) - 1).toNat = l.length - 1:=by rw [List.length_map]; omega
 repeat' (first|(refine h1H ?_; (refine h0H ?_; refine ab J J J J J J J J (EY _ _) J ?_))|refine wG ?_|(refine h1H ?_; (refine h4H ?_; refine aG J J J J (fun h=>?_) (fun h=>?_))))
 all_goals first | (rw [e1,e2]; rw [e1] at h; simp [fu,h]; done) | (rw [e1] at h; simp [fu,h]; done)
theorem LM(l : List Val)(hl : 3≤l.length) : CallA Tryz.prog 335 [.one (.d (aP l))] [] (.one (.d (.bool (isV (at_ l 0) 1 && fu (at_ l (l.length - 2)) (at_ l (l.length - 1)))))) []:=by
 refine enter af Tryz.func335 rfl (by decide +kernel) rfl fun hok w0 σ0 φ0 M=>?_
 clear hok
 repeat' (first|(refine h1H ?_; (refine h0H ?_; first|refine ab J J J J J J J J (EY _ _) J ?_|refine ab J J J J J J J J (pb _ (by omega)) J ?_))|refine wG ?_|(refine h1H ?_; (refine h4H ?_; refine aG J J J J (fun h=>?_) (fun h=>?_))))
 all_goals first | rfl | (simp_all; done)
theorem oa(l : List Val)(kd : Int) : CallA Tryz.prog 350 [.one (.d (aP l)),.one (.d (.ptr [.int .i64 kd]))] [] (.one (.d (.bool (l.all fun v=>isV v kd)))) []:=by
 refine enter af Tryz.func350 rfl (by decide +kernel) rfl fun hok w0 σ0 φ0 M=>?_
 have h1:=hok.1.sl.1; clear hok; simp only [List.length_map] at h1
 repeat' (first|(refine h1H ?_; (refine h0H ?_; refine ab J J J J J J J J (EY _ _) J ?_))|refine wG ?_|(refine h5H ?_; first|refine ai J (fun h=>?_) (fun h=>?_)|refine bg 2 J [(1,_),(6,_),(7,_)] (q3Q J J J) (fun (k : Nat)=>[(8,.one (.d (.int .i64 (k : Int))))]) (fun (k : Nat)=>k≤l.length∧l.all (fun v=>isV v kd) = (l.drop k).all (fun v=>isV v kd)) (fun (k : Nat)=>l.length - k) 0 (q1Q J) ?_ (fun k ⟨hk,hq⟩=>?_))|(show Exists _; refine Exists.intro (k + 1) ⟨?_,?_,wK,(q1Q J),(q3Q J J J)⟩))
 all_goals (try (((simp_all [ak,List.drop_eq_nil_of_le]) <;> exact wL); done))
def sj(neg : Bool)(m n : Nat) : Bool×Nat×Nat:=(neg && decide (m≠0),m / Nat.gcd m n,n / Nat.gcd m n)
def iz(s1 : Bool)(a1 b1 : Nat)(s2 : Bool)(a2 b2 : Nat)(minus : Bool) : Bool×Nat×Nat :=
 if (s1 == (!(s2 == minus))) = true then sj (!(s2 == minus)) (a1 * b2 + a2 * b1) (b1 * b2) else if a2 * b1≤a1 * b2 then sj s1 (a1 * b2 - a2 * b1) (b1 * b2) else sj (!(s2 == minus)) (a2 * b1 - a1 * b2) (b1 * b2)
theorem yW{s1 : Bool}{a1 b1 : Nat}{s2 : Bool}{a2 b2 : Nat}{minus : Bool} : oF s1 a1 b1 s2 a2 b2 minus = cg (iz s1 a1 b1 s2 a2 b2 minus).1 (iz s1 a1 b1 s2 a2 b2 minus).2.1 (iz s1 a1 b1 s2 a2 b2 minus).2.2:=by
 unfold oF iz
 split
 ·rfl
 ·split
  ·rfl
  ·rfl
def wN(t : Bool×Nat×Nat) : Int:=if t.2.2 = 0∨t.2.1 = 0 then 0 else if t.1 = true then -1 else 1
theorem KP(hD : lS)(s1 : Bool)(a1 b1 : Nat)(s2 : Bool)(a2 b2 : Nat)(hR : RatOk a1 b1 a2 b2) : CallA Tryz.prog 322 [.one (.d (cg s1 a1 b1)),.one (.d (cg s2 a2 b2))] [] (.one (.d (cg (iz s1 a1 b1 s2 a2 b2 true).1 (iz s1 a1 b1 s2 a2 b2 true).2.1 (iz s1 a1 b1 s2 a2 b2 true).2.2))) []:=by
 rw [← yW]; exact I6 hD s1 a1 b1 s2 a2 b2 hR
theorem LW(hD : lS)(s1 : Bool)(a1 b1 : Nat)(s2 : Bool)(a2 b2 : Nat)(hR : RatOk a1 b1 a2 b2) : CallA Tryz.prog 381 [.one (.d (cg s1 a1 b1)),.one (.d (cg s2 a2 b2))] [] (.one (.d (.int .i64 (wN (iz s1 a1 b1 s2 a2 b2 true))))) []:=by
 refine enter af Tryz.func381 rfl (by decide +kernel) rfl fun hok w0 σ0 φ0 M=>?_
 clear hok
 repeat' (first|(refine h1H ?_; (refine h0H ?_; first|refine ab J J J J J J J J (Pr _ _ _) J ?_|refine aZ 16 J J J J J J J J (KP hD _ _ _ _ _ _ hR) J J J ?_))|refine wG ?_)
 all_goals rfl
def lN(v : Val) : D:=cg (decide (v.num < 0)) v.num.natAbs v.den.natAbs
theorem sN(v : Val) : CallA Tryz.prog 314 [bz v] [] (.one (.d (lN v))) []:=Pu _ _ _ _
def vP(neg : Bool)(a b : Nat) : Val:=if a≤1099511627776∧b≤1099511627776 then ⟨2,if neg = true then -(a : Int) else a,b,[]⟩ else ⟨0,2,0,[]⟩
theorem CH(neg : Bool)(a b : Nat)(hb : b≠0) : CallA Tryz.prog 313 [.one (.d (cg neg a b))] [] (bz (vP neg a b)) []:=by
 have h:=M4 neg a b hb
 have e : bz (vP neg a b) = BX neg a b:=by
  unfold BX vP
  by_cases hc : a≤1099511627776∧b≤1099511627776
  ·rw [if_pos hc,if_pos hc]; rfl
  ·rw [if_neg hc,if_neg hc]; rfl
 rwa [e]
theorem PB(l : List Val)(hl : 2≤l.length)(f : FuncId)(neg : Bool)(a b : Nat)(hb : b≠0)(hf : CallA Tryz.prog f [.one (.d (lN (at_ l 0))),.one (.d (lN (at_ l 1)))] [] (.one (.d (cg neg a b))) []) :
  CallA Tryz.prog 358 [.one (.d (aP l)),.one (.d (.ptr [.fn f []]))] [] (bz (vP neg a b)) []:=by
 refine enter af Tryz.func358 rfl (by decide +kernel) rfl fun hok w0 σ0 φ0 M=>?_
 clear hok
 repeat' (first|(refine h3H ?_; (refine h2H ?_; first|refine d_l J J (bo J J J J J J (CH _ _ _ hb) J) ?_|refine cr 16 J J J J J J J J (sN _) J J ?_|refine cr 16 J J J J J J J J (hf) J J ?_))|refine wG ?_)
 all_goals first | rfl | skip
theorem KU(l : List Val)(hl : 2≤l.length)(neg : Bool)(a b : Nat)(hb : b≠0)(hf : CallA Tryz.prog 362 [.one (.d (lN (at_ l 0))),.one (.d (lN (at_ l 1)))] [] (.tup [(false,[.d (cg neg a b)]),(false,[.d (.int .i64 0)])]) []) :
  CallA Tryz.prog 324 [.one (.d (aP l))] [] (bz (vP neg a b)) []:=by
 refine enter af Tryz.func324 rfl (by decide +kernel) rfl fun hok w0 σ0 φ0 M=>?_
 clear hok
 repeat' (first|(refine h1H ?_; (refine h0H ?_; refine ab J J J J J J J J (CH _ _ _ hb) J ?_))|(refine h3H ?_; (refine h2H ?_; first|refine cr 16 J J J J J J J J (sN _) J J ?_|refine cr 16 J J J J J J J J (hf) J J ?_))|refine wG ?_)
 all_goals first | rfl | skip
theorem KT(l : List Val)(hl : 2≤l.length)(hf : CallA Tryz.prog 362 [.one (.d (lN (at_ l 0))),.one (.d (lN (at_ l 1)))] [] (.tup [(false,[.d (.raw (.pointer none))]),(false,[.d (.int .i64 2)])]) []) :
  CallA Tryz.prog 324 [.one (.d (aP l))] [] (bz ⟨0,3,0,[]⟩) []:=by
 refine enter af Tryz.func324 rfl (by decide +kernel) rfl fun hok w0 σ0 φ0 M=>?_
 clear hok
 repeat' (first|(refine h1H ?_; (refine h0H ?_; refine ab J J J J J J J J (FI _) J ?_))|(refine h3H ?_; (refine h2H ?_; first|refine d_l J J (bo J J J J J J (hf) J) ?_|refine cr 16 J J J J J J J J (sN _) J J ?_))|refine wG ?_)
 all_goals first | rfl | skip
theorem oW : bj 1 = .sl 1 4 [[.int .u32 1]]:=by unfold bj dY; rw [uP]; rfl
theorem KY(m : Nat)(hm : (dig m).length≤400) : CallA Tryz.prog 356 [.one (.d (bj m)),.one (.d (.sl 1 4 [[.int .u32 1]]))] [] (.one (.d (bj (m + 1)))) []:=by
 have:=IS m 1 hm (by rw [uP]; simp)
 rwa [oW] at this
theorem PK(neg : Bool)(a b : Nat)(hb : b≠0)(hm : dl a≤100)(hn : dl b≤100)(hq : (dig (a / b)).length≤400) : CallA Tryz.prog 315 [.one (.d (cg neg a b))] [] (.one (.d (cg neg (if neg = true∧a % b≠0 then a / b + 1 else a / b) 1))) []:=by
 have v1 : decide (b≠0) = true:=by simp [hb]
 refine enter af Tryz.func315 rfl (by decide +kernel) rfl fun hok w0 σ0 φ0 M=>?_
 clear hok
 repeat' (first|(refine h1H ?_; (refine h0H ?_; first|refine eo 40 [0] J J J J J J J J J (KY _ hq) J J J ?_|refine ab J J J J J J J J (oG _ _ _) J ?_))|(refine h5H ?_; first|refine bO (cU (dl:=[1,2]) J) (dg ?_)|refine bO (cU (dl:=[0,1]) J) (dg ?_))|(refine h3H ?_; (refine h2H ?_; refine cr 16 J J J J J J J J (ua _ _ hb hm hn) J J ?_))|refine wG ?_|(refine h1H ?_; (refine h4H ?_; refine aG J J J J (fun h=>?_) (fun h=>?_)))|(refine h5H ?_; refine ai J (fun h=>?_) (fun h=>?_)))
 ·exact absurd ‹(!decide (b≠0)) = true› (by rw [v1]; simp)
 ·rw [if_pos ⟨‹neg = true›,qM h⟩]; unfold cg; rw [oW]; rfl
 ·rw [if_neg (fun hc=>hc.2 (y5 h))]; unfold cg; rw [oW]; rfl
 ·rw [if_neg (fun hc=>by have h' : neg = false:=h; rw [h'] at hc; cases hc.1)]; unfold cg; rw [oW]; rfl
theorem PD(l : List Val)(hl : 1≤l.length)(hb : (at_ l 0).den.natAbs≠0)(hm : dl (at_ l 0).num.natAbs≤100)(hn : dl (at_ l 0).den.natAbs≤100)(hq : (dig ((at_ l 0).num.natAbs / (at_ l 0).den.natAbs)).length≤400) :
  CallA Tryz.prog 312 [.one (.d (aP l))] [] (bz (vP (decide ((at_ l 0).num < 0)) (if (decide ((at_ l 0).num < 0)) = true∧(at_ l 0).num.natAbs % (at_ l 0).den.natAbs≠0 then (at_ l 0).num.natAbs / (at_ l 0).den.natAbs + 1 else (at_ l 0).num.natAbs / (at_ l 0).den.natAbs) 1)) []:=by
 refine enter af Tryz.func312 rfl (by decide +kernel) rfl fun hok w0 σ0 φ0 M=>?_
 clear hok
 repeat' (first|(refine h1H ?_; (refine h0H ?_; first|refine ab J J J J J J J J (CH _ _ _ (by omega)) J ?_|refine aZ 16 J J J J J J J J (sN _) J J J ?_|refine aZ 16 J J J J J J J J (PK _ _ _ hb hm hn hq) J J J ?_))|refine wG ?_)
 all_goals first | rfl | skip
def sk(v : Val) : Val:=⟨v.kind,IntKind.i64.wrap (0 - v.num),v.den,v.str⟩
theorem OK(l : List Val)(hl : 1≤l.length) :
  CallA Tryz.prog 311 [.one (.own 1000000 l.length)] [(1000000,.row 4 40 (l.map az))] (bz (sk (at_ l 0))) [(1000000,.row 4 40 ((l.set 0 (sk (at_ l 0))).map az))]:=by
 refine enter af Tryz.func311 rfl (by decide +kernel) rfl fun hok w0 σ0 φ0 M=>?_
 clear hok
 repeat' (first|refine wG ?_)
 exact iS (.inl rfl) rfl rfl rfl (ag (congrArg (fun x=>some (AObj.row 4 40 x)) (List.map_set (f:=az) (l:=l) (i:=0) (a:=sk (at_ l 0))).symm) aU)
end Go.Proofs.YtpejdgkaapnekaaGreat
namespace Go.Abs
open Go Go.Shelf Go.Proofs
variable {P : Program}
theorem xf {f : FuncId} {a b : List UInt8} {y : D} {yv : Value} (hfn : ∃ fn, P.funcs[f]? = some fn ∧ (fn.name == "runtime.NumGoroutine") = false ∧ fn.body.isSome = true)
  (hC : ∀ w,Calls P f #[.string ⟨a.toArray⟩,.string ⟨b.toArray⟩] w fun e w'=>e = .returned yv∧w' = w) (hy : ∀ σ,Rep σ y yv) : CallA P f [.one (.d (.str a)),.one (.d (.str b))] [] (.one (.d y)) []:=by
 refine ⟨hfn,fun w σ φ vs hI hA=>?_⟩
 match vs,hA with
 | [v0,v1],hA =>
   obtain ⟨hv0,hv1,_⟩:=hA
   have hv0 : RepC σ φ _ (.d (.str a)) v0:=hv0
   have hv1 : RepC σ φ _ (.d (.str b)) v1:=hv1
   replace hv0:=hv0.d_inv
   replace hv1:=hv1.d_inv
   cases hv0
   cases hv1
   refine (hC w).mono ?_
   rintro e w' ⟨rfl,rfl⟩
   exact ⟨_,σ,φ,rfl,Sig.le_refl _,fun b hb=>.inl hb,hI,.d (hy σ),fun i e p h1 h2=>(nomatch h1),fun _ _=>rfl,⟨rfl,rfl,rfl,Nat.le_refl _,Nat.le_refl _,fun _ _ _=>rfl⟩⟩
theorem Aa : ∀ (a b : List UInt8),Lib.compareBytes a b = if Op.bytesLess a b = true then -1 else if (!(Op.bytesLess a b || a == b)) = true then 1 else 0
 | [],[]=>rfl
 | [],_::_=>rfl
 | _::_,[]=>rfl
 | x::a,y::b=>by
   have ih:=Aa a b
   unfold Lib.compareBytes
   rw [ih]
   rw [show Op.bytesLess (x::a) (y::b) = (decide (x < y) || (x == y && Op.bytesLess a b)) from rfl]
   by_cases h1 : x < y
   ·simp [h1]
   ·by_cases h2 : y < x
    ·have : x≠y:=fun e=>by subst e; exact absurd h2 h1
     simp [h1,h2,this]
    ·have e : x = y:=by
      have h3 : ¬ x.toNat < y.toNat:=h1
      have h4 : ¬ y.toNat < x.toNat:=h2
      exact UInt8.toNat_inj.1 (by omega)
     subst e
     simp [h1]
end Go.Abs
namespace Go.Proofs.YtpejdgkaapnekaaGreat
open Go Go.Proofs Go.Shelf Go.Abs
def EX : Go.Shelf.Ren:=⟨fun | 106=>382 | 213=>386 | 265=>387 | n=>n,fun | 3=>3 | 9=>9 | n=>n,fun | n=>n⟩
theorem Lu : Go.Proofs.Lays.n106 Tryz.prog EX:={
 mixed:=by kernel_rfl
 f106:=Tryz.func382.trans (congrArg some (by kernel_rfl))
 f213:=Tryz.func386.trans (congrArg some (by kernel_rfl))
 f265:=Tryz.func387.trans (congrArg some (by kernel_rfl))
 t3:=Tryz.underlying3
 a3:=Tryz.isAgg3
 z3:=Tryz.sizeOf3
 v3:=Tryz.zeroValue3
 t9:=Tryz.underlying9
 a9:=Tryz.isAgg9
 z9:=Tryz.sizeOf9
 v9:=Tryz.zeroValue9 }
def sD(a b : List UInt8) : Int:=if Op.bytesLess a b = true then -1 else if (!(Op.bytesLess a b || a == b)) = true then 1 else 0
theorem Lv(a b : List UInt8) : CallA Tryz.prog 382 [.one (.d (.str a)),.one (.d (.str b))] [] (.one (.d (.int .i64 (sD a b)))) []:=by
 refine xf (yv:=.int .i64 (sD a b)) ⟨Tryz.f382,Tryz.func382,by kernel_rfl,by kernel_rfl⟩ (fun w=>?_) (fun σ=>.int ?_)
 ·have:=Any.strings_Compare Lu ⟨a.toArray⟩ ⟨b.toArray⟩ w
  rw [List.toList_toArray,List.toList_toArray,Aa] at this
  exact this
 ·unfold sD
  simp only [inR,IntKind.min,IntKind.max,IntKind.signed,IntKind.bits,if_true]
  split
  ·omega
  ·split <;> omega
end Go.Proofs.YtpejdgkaapnekaaGreat
namespace Go.Proofs.YtpejdgkaapnekaaGreat
open Go Go.Abs
attribute [local irreducible] aa OkC aj av al aB
set_option maxRecDepth 10000
theorem Ki(a b : Val)(hR : RatOk a.num.natAbs a.den.natAbs b.num.natAbs b.den.natAbs) : CallA Tryz.prog 381 [.one (.d (lN a)),.one (.d (lN b))] [] (.one (.d (.int .i64 (wN (iz (decide (a.num < 0)) a.num.natAbs a.den.natAbs (decide (b.num < 0)) b.num.natAbs b.den.natAbs true))))) [] :=
 LW ua _ _ _ _ _ _ hR
def ub(a b : Val) : Int:=if sgF a.kind b.kind≠0 then sgF a.kind b.kind else if a.kind = 2 then wN (iz (decide (a.num < 0)) a.num.natAbs a.den.natAbs (decide (b.num < 0)) b.num.natAbs b.den.natAbs true) else if a.kind = 3 then sD a.str b.str else sgF a.num b.num
theorem LX(a b : Val)(hR : a.kind = 2→RatOk a.num.natAbs a.den.natAbs b.num.natAbs b.den.natAbs) : CallA Tryz.prog 365 [bz a,bz b] [] (.one (.d (.int .i64 (ub a b)))) []:=by
 unfold bz
 refine enter af Tryz.func365 rfl (by decide +kernel) rfl fun hok w0 σ0 φ0 M=>?_
 clear hok
 repeat' (first|(refine h1H ?_; (refine h0H ?_; first|refine ab J J J J J J J J (Lw _ _) J ?_|refine ab J J J J J J J J (Lx _ _) J ?_|refine ab J J J J J J J J (Lv _ _) J ?_))|(refine h3H ?_; (refine h2H ?_; first|refine d_l J J (bo J J J J J J (Ki _ _ (hR (by simpa using ‹(a.kind == 2) = true›))) J) ?_|refine cr 16 J J J J J J J J (sN _) J J ?_))|refine wG ?_|(refine h5H ?_; refine ai J (fun h=>?_) (fun h=>?_)))
 all_goals refine congrArg (fun x=>AV.one (.d (.int .i64 x))) ?_
 ·have h' : sgF a.kind b.kind≠0:=by simpa using h
  unfold ub; rw [if_pos h']
 ·have h1 : ¬ sgF a.kind b.kind≠0:=by simpa using ‹(sgF a.kind b.kind != 0) = false›
  have h2 : a.kind = 2:=by simpa using h
  unfold ub; rw [if_neg h1,if_pos h2]
 ·have h1 : ¬ sgF a.kind b.kind≠0:=by simpa using ‹(sgF a.kind b.kind != 0) = false›
  have h2 : ¬ a.kind = 2:=by simpa using ‹(a.kind == 2) = false›
  have h3 : a.kind = 3:=by simpa using h
  unfold ub; rw [if_neg h1,if_neg h2,if_pos h3]
 ·have h1 : ¬ sgF a.kind b.kind≠0:=by simpa using ‹(sgF a.kind b.kind != 0) = false›
  have h2 : ¬ a.kind = 2:=by simpa using ‹(a.kind == 2) = false›
  have h3 : ¬ a.kind = 3:=by simpa using h
  unfold ub; rw [if_neg h1,if_neg h2,if_neg h3]
theorem LY(l : List Val)(f : FuncId)(g : Int→Bool)(hl : 2≤l.length)(hR : (at_ l 0).kind = 2→RatOk (at_ l 0).num.natAbs (at_ l 0).den.natAbs (at_ l 1).num.natAbs (at_ l 1).den.natAbs)
  (hf : ∀ o : Int,CallA Tryz.prog f [.one (.d (.int .i64 o))] [] (.one (.d (.bool (g o)))) []) : CallA Tryz.prog 364 [.one (.d (aP l)),.one (.d (.ptr [.fn f []]))] [] (bz (cj (g (ub (at_ l 0) (at_ l 1))))) []:=by
 refine enter af Tryz.func364 rfl (by decide +kernel) rfl fun hok w0 σ0 φ0 M=>?_
 clear hok
 repeat' (first|(refine h3H ?_; (refine h2H ?_; first|refine d_l J J (bo J J J J J J (xi _) J) ?_|refine d_l J J (bo J J J J J J (LX _ _ hR) J) ?_|refine d_l J J (bo J J J J J J (hf _) J) ?_))|refine wG ?_)
 all_goals first | rfl | skip
def bZ(l : List Val) : Option Val:=l.find? fun v=>v.kind == 0
def lO(b : Bool)(l : List Val) : Val:=if iJ (at_ l 0) (cj b) = true∨iJ (at_ l 1) (cj b) = true then cj b else (bZ l).getD (cj (!b))
theorem Iw{b : Bool}{l : List Val}(h : (iJ (at_ l 0) (cj b) == true) = true) : lO b l = cj b:=by unfold lO; rw [if_pos (.inl (by simpa using h))]
theorem Ix{b : Bool}{l : List Val}(h : (iJ (at_ l 1) (cj b) == true) = true) : lO b l = cj b:=by unfold lO; rw [if_pos (.inr (by simpa using h))]
theorem Dv{b : Bool}{l : List Val}(h : (iJ (at_ l 0) (cj b) == true) = false)(h2 : (iJ (at_ l 1) (cj b) == true) = false) : lO b l = (bZ l).getD (cj (!b)):=by
 unfold lO; rw [if_neg]; rintro (e | e)
 ·rw [e] at h; cases h
 ·rw [e] at h2; cases h2
theorem rR{l : List Val}{k : Nat}(hk : k < l.length)(h : ((at_ l k).kind == 0) = true) : bZ (l.drop k) = some (at_ l k):=by
 rw [ak hk]; unfold bZ; rw [List.find?_cons,h]
theorem rS{l : List Val}{k : Nat}(hk : k < l.length)(h : ((at_ l k).kind == 0) = false) : bZ (l.drop k) = bZ (l.drop (k + 1)):=by
 rw [ak hk]; unfold bZ; rw [List.find?_cons,h]
theorem xA{l : List Val}{k : Nat}(hk : l.length≤k) : bZ (l.drop k) = none:=by
 rw [List.drop_eq_nil_of_le hk]; rfl
theorem Iy(l : List Val)(b : Bool)(hl : 2≤l.length) : CallA Tryz.prog 367 [.one (.d (aP l)),.one (.d (.ptr [.bool b]))] [] (bz (lO b l)) []:=by
 refine enter af Tryz.func367 rfl (by decide +kernel) rfl fun hok w0 σ0 φ0 M=>?_
 have h1:=hok.1.sl.1; clear hok; simp only [List.length_map] at h1
 repeat' (first|(refine h1H ?_; (refine h0H ?_; refine ab J J J J J J J J (xi _) J ?_))|(refine h3H ?_; (refine h2H ?_; refine d_l J J (bo J J J J J J (xi _) J) ?_))|refine wG ?_|(refine h5H ?_; first|refine ai J (fun h=>?_) (fun h=>?_)|refine bg 4 J [(1,_),(3,_),(22,_),(23,_)] (q4Q J J J J) (fun (k : Nat)=>[(24,.one (.d (.int .i64 (k : Int))))]) (fun (k : Nat)=>k≤l.length∧bZ l = bZ (l.drop k)) (fun (k : Nat)=>l.length - k) 0 (q1Q J) ?_ (fun k ⟨hk,hq⟩=>?_))|(refine h3H ?_; (refine xB ?_; refine nk J J (fun h=>?_) (fun h=>?_)))|(show Exists _; refine Exists.intro (k + 1) ⟨?_,?_,wK,(q1Q J),(q4Q J J J J)⟩))
 ·exact (congrArg bz (Ix h)).symm
 ·exact ⟨Nat.zero_le _,rfl⟩
 ·have hlt : k < l.length:=by simpa using ‹decide ((k : Int) < ((l.map az).length : Int)) = true›
  rename_i h5 h6 _ _
  rw [Dv h5 h6,hq,rR hlt h]; rfl
 ·have hlt : k < l.length:=by simpa using ‹decide ((k : Int) < ((l.map az).length : Int)) = true›
  exact ⟨hlt,hq.trans (rS hlt h)⟩
 ·have hlt : k < l.length:=by simpa using ‹decide ((k : Int) < ((l.map az).length : Int)) = true›
  omega
 ·have hge : l.length≤k:=by simpa using h
  rename_i h5 h6 _
  rw [Dv h5 h6,hq,xA hge]; rfl
 ·exact (congrArg bz (Iw h)).symm
end Go.Proofs.YtpejdgkaapnekaaGreat
