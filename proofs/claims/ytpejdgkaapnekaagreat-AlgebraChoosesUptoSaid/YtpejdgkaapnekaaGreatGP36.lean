import Derived.Test.YtpejdgkaapnekaaGreatGP35
set_option linter.unusedVariables false
set_option linter.unusedSimpArgs false
set_option linter.unnecessarySimpa false
set_option maxHeartbeats 1000000
namespace Go.Proofs.YtpejdgkaapnekaaGreat
open Go Go.Abs
attribute [local irreducible] ac OkC ao ax ap aJ
set_option maxRecDepth 10000
theorem lL{n : Nat} : decide ((0 : Int) < (((dw n).map ak).length : Int)) = decide (n≠0):=by
 by_cases h : n = 0
 ·subst h; simp [ep]
 ·rw [gd h]; simp [h]
theorem oK{b : Nat}(h : decide ((0 : Int) < (((dw b).map ak).length : Int)) = true) : b≠0:=by rw [lL] at h; exact of_decide_eq_true h
theorem wa{b : Nat}(h : decide ((0 : Int) < (((dw b).map ak).length : Int)) = false) : b = 0:=by rw [lL] at h; exact Decidable.not_not.1 (of_decide_eq_false h)
theorem Lv(m n : Nat)(hm : dwl m≤300)(hn : dwl n≤300) : CallA Tryz.prog 266 [.one (.d (bz m)),.one (.d (bz n))] [] (.one (.d (bz (Nat.gcd m n)))) []:=by
 refine enter ae Tryz.func266 rfl (by decide +kernel) rfl fun hok w0 σ0 φ0 M=>?_
 clear hok
 repeat' (first|(refine h1H ?_; (refine h0H ?_; refine aw 16 J J J J J J J J (wX _ _ hb1 (Nat.pos_of_ne_zero (oK h)) hb2) J J J ?_))|refine wG ?_|(refine h4H ?_; first|refine ag J (fun h=>?_) (fun h=>?_)|refine aB 1 J [] aT (fun (p : Nat×Nat)=>[(0,.one (.d (bz p.1))),(1,.one (.d (bz p.2)))]) (fun (p : Nat×Nat)=>Nat.gcd p.1 p.2 = Nat.gcd m n∧dwl p.1≤300∧dwl p.2≤300) (fun (p : Nat×Nat)=>p.2) (m,n) (q2Q J J) ?_ (fun p ⟨hg,hb1,hb2⟩=>?_))|(show Exists _; refine Exists.intro ((p.2,p.1 % p.2)) ⟨?_,?_,wK,(q2Q J J),aT⟩))
 ·exact ⟨rfl,hm,hn⟩
 ·have hp : p.2≠0:=oK h
  refine ⟨?_,hb2,Nat.le_trans (jm (Nat.le_of_lt (Nat.mod_lt _ (Nat.pos_of_ne_zero hp)))) hb2⟩
  show Nat.gcd p.2 (p.1 % p.2) = _
  rw [← hg,Nat.gcd_comm p.1 p.2]
  conv=>rhs; rw [Nat.gcd_rec,Nat.gcd_comm]
 ·exact Nat.mod_lt _ (Nat.pos_of_ne_zero (oK h))
 ·have e:=wa h
  rw [← hg,e,Nat.gcd_zero_right]
def bW(t : Bool×Nat×Nat) : AV:=.agg [.d (.bool t.1),.d (bz t.2.1),.d (bz t.2.2)]
theorem F8(neg : Bool)(m n : Nat)(hm : dwl m≤300)(hn : dwl n≤300)(hn0 : n≠0) : CallA Tryz.prog 348 [.one (.d (.bool neg)),.one (.d (bz m)),.one (.d (bz n))] [] (bW (gu neg m n)) []:=by
 have hg : 0 < Nat.gcd m n:=Nat.gcd_pos_of_pos_right m (Nat.pos_of_ne_zero hn0)
 have hgl : dwl (Nat.gcd m n)≤300:=Nat.le_trans (jm (Nat.le_of_dvd (Nat.pos_of_ne_zero hn0) (Nat.gcd_dvd_right m n))) hn
 refine enter ae Tryz.func348 rfl (by decide +kernel) rfl fun hok w0 σ0 φ0 M=>?_
 clear hok
 repeat' (first|(refine h1H ?_; (refine h0H ?_; first|refine aw 16 J J J J J J J J (Lv _ _ hm hn) J J J ?_|refine aw 16 J J J J J J J J (wX _ _ hm hg hgl) J J J ?_|refine aw 16 J J J J J J J J (wX _ _ hn hg hgl) J J J ?_))|refine wG ?_|(refine h1H ?_; (refine h5H ?_; refine aG J J J J (fun h=>?_) (fun h=>?_))))
 ·show AV.agg [.d (.bool (decide ((0 : Int) < (((dw (m / Nat.gcd m n)).map ak).length : Int)))),.d (bz (m / Nat.gcd m n)),.d (bz (n / Nat.gcd m n))] = _
  rw [lL,yx]
  have h' : neg = true:=h
  subst h'; unfold gu; rw [Bool.true_and]; rfl
 ·have h' : neg = false:=h
  subst h'; rfl
theorem Eg{n : Nat}(h : n < 1000000000000000000000000000000000000) : dwl n≤4:=by
 refine Nat.le_trans (jm (show n≤999999999999999999999999999999999999 by omega)) ?_
 unfold dwl
 rw [gd (by omega),show (999999999999999999999999999999999999 : Nat) / 1000000000 = 999999999999999999999999999 from rfl,gd (by omega),show (999999999999999999999999999 : Nat) / 1000000000 = 999999999999999999 from rfl,
  gd (by omega),show (999999999999999999 : Nat) / 1000000000 = 999999999 from rfl,gd (by omega),show (999999999 : Nat) / 1000000000 = 0 from rfl,ep]
 exact Nat.le_refl _
structure RatW (a1 b1 a2 b2 : Nat) : Prop where
 h1 : 1≤b1∧b1≤1099511627776
 h2 : 1≤b2∧b2≤1099511627776
 l1 : a1≤1099511627776
 l2 : a2≤1099511627776
theorem RatW.len{a1 b1 a2 b2 : Nat}(h : RatW a1 b1 a2 b2) : ((dw a1).length≤400∧(dw b1).length≤400∧(dw a2).length≤400∧(dw b2).length≤400)∧(dw (a1 * b2)).length≤300∧(dw (a2 * b1)).length≤300∧(dw (b1 * b2)).length≤300∧(dw (a1 * b2 + a2 * b1)).length≤300∧(dw (a1 * b2 - a2 * b1)).length≤300∧(dw (a2 * b1 - a1 * b2)).length≤300∧(dw (a1 * a2)).length≤300∧(dw (b1 * a2)).length≤300:=by
 have hm : ∀ {x y : Nat},x≤1099511627776→y≤1099511627776→x * y≤1208925819614629174706176:=fun hx hy=>Nat.mul_le_mul hx hy
 have d : ∀ {x : Nat},x≤1099511627776→(dw x).length≤400:=fun hx=>Nat.le_trans (Eg (Nat.lt_of_le_of_lt hx (Nat.lt_of_lt_of_le (Nat.lt_succ_self _) (Nat.le_of_ble_eq_true rfl)))) (by omega)
 have p : ∀ {x : Nat},x≤2417851639229258349412352→(dw x).length≤300:=fun hx=>Nat.le_trans (Eg (Nat.lt_of_le_of_lt hx (Nat.lt_of_lt_of_le (Nat.lt_succ_self _) (Nat.le_of_ble_eq_true rfl)))) (by omega)
 have p1:=hm h.l1 h.h2.2
 have p2:=hm h.l2 h.h1.2
 have p3:=hm h.h1.2 h.h2.2
 have p5:=hm h.l1 h.l2
 have p6:=hm h.h1.2 h.l2
 exact ⟨⟨d h.l1,d h.h1.2,d h.l2,d h.h2.2⟩,p (by omega),p (by omega),p (by omega),p (by omega),p (by omega),p (by omega),p (by omega),p (by omega)⟩
theorem HW{s1 s2 : Bool}{a1 b1 a2 b2 : Nat}(h : (s1 == s2) = true) : gu s1 (a1 * b2 + a2 * b1) (b1 * b2) = dt s1 a1 b1 s2 a2 b2 false:=by cases s1 <;> cases s2 <;> simp_all [dt]
theorem HX{s1 s2 : Bool}{a1 b1 a2 b2 : Nat}(h : (s1 == s2) = false)(h2 : a2 * b1≤a1 * b2) : gu s1 (a1 * b2 - a2 * b1) (b1 * b2) = dt s1 a1 b1 s2 a2 b2 false:=by cases s1 <;> cases s2 <;> simp_all [dt]
theorem HY{s1 s2 : Bool}{a1 b1 a2 b2 : Nat}(h : (s1 == s2) = false)(h2 : a1 * b2 < a2 * b1) : gu s2 (a2 * b1 - a1 * b2) (b1 * b2) = dt s1 a1 b1 s2 a2 b2 false:=by
 have h3 : ¬ a2 * b1≤a1 * b2:=by omega
 unfold dt
 rw [if_neg (by cases s1 <;> cases s2 <;> simp_all),if_neg h3]
 cases s2 <;> rfl
set_option maxHeartbeats 1000000 in
theorem JN(s1 : Bool)(a1 b1 : Nat)(s2 : Bool)(a2 b2 : Nat)(hR : RatW a1 b1 a2 b2) : CallA Tryz.prog 290 [bW (s1,a1,b1),bW (s2,a2,b2)] [] (bW (dt s1 a1 b1 s2 a2 b2 false)) []:=by
 obtain ⟨⟨l1,l2,l3,l4⟩,m1,m2,m3,m4,m5,m6,m7,m8⟩:=hR.len
 have k3 : dwl (b1 * b2)≤300:=m3
 have k4 : dwl (a1 * b2 + a2 * b1)≤300:=m4
 have k5 : dwl (a1 * b2 - a2 * b1)≤300:=m5
 have k6 : dwl (a2 * b1 - a1 * b2)≤300:=m6
 have hb12 : b1 * b2≠0:=Nat.mul_ne_zero (by have:=hR.h1; omega) (by have:=hR.h2; omega)
 unfold bW
 refine enter ae Tryz.func290 rfl (by decide +kernel) rfl fun hok w0 σ0 φ0 M=>?_
 clear hok
 repeat' (first|(refine h1H ?_; (refine h0H ?_; first|refine aa J J J J J J J J (wW _ _) J ?_|refine aw 16 J J J J J J J J (uC _ _ (by omega) (by omega)) J J J ?_))|(refine h3H ?_; (refine h2H ?_; first|refine bh 16 J J J J J J J J (uC _ _ (by omega) (by omega)) J J ?_|refine bh 16 J J J J J J J J (JO _ _ wB wB) J J ?_|refine bh 16 J J J J J J J J (FZ _ _ wB (tx h)) J J ?_|refine bh 16 J J J J J J J J (FZ _ _ wB (Nat.le_of_lt (tz h))) J J ?_|refine bh 16 J J J J J J J J (F8 _ _ _ (by omega) (by omega) hb12) J J ?_))|refine wG ?_|(refine h4H ?_; refine ag J (fun h=>?_) (fun h=>?_)))
 ·exact congrArg bW (HW h)
 ·exact congrArg bW (HX ‹((s1,a1,b1).1 == (s2,a2,b2).1) = false› (tx h))
 ·exact congrArg bW (HY ‹((s1,a1,b1).1 == (s2,a2,b2).1) = false› (tz h))
theorem Ol(s1 : Bool)(a1 b1 : Nat)(s2 : Bool)(a2 b2 : Nat)(hR : RatW a1 b1 a2 b2) : CallA Tryz.prog 292 [bW (s1,a1,b1),bW (s2,a2,b2)] [] (bW (gu (s1 != s2) (a1 * a2) (b1 * b2))) []:=by
 obtain ⟨⟨l1,l2,l3,l4⟩,m1,m2,m3,m4,m5,m6,m7,m8⟩:=hR.len
 have k3 : dwl (b1 * b2)≤300:=m3
 have k7 : dwl (a1 * a2)≤300:=m7
 have hb12 : b1 * b2≠0:=Nat.mul_ne_zero (by have:=hR.h1; omega) (by have:=hR.h2; omega)
 unfold bW
 refine enter ae Tryz.func292 rfl (by decide +kernel) rfl fun hok w0 σ0 φ0 M=>?_
 clear hok
 repeat' (first|(refine h3H ?_; (refine h2H ?_; first|refine bh 16 J J J J J J J J (uC _ _ (by omega) (by omega)) J J ?_|refine bh 16 J J J J J J J J (F8 _ _ _ (by omega) (by omega) hb12) J J ?_))|refine wG ?_)
 all_goals rfl
theorem Om(s1 : Bool)(a1 b1 : Nat)(s2 : Bool)(a2 b2 : Nat)(hR : RatW a1 b1 a2 b2)(h0 : a2≠0) : CallA Tryz.prog 293 [bW (s1,a1,b1),bW (s2,a2,b2)] [] (.tup [(true,[.d (.bool (gu (s1 != s2) (a1 * b2) (b1 * a2)).1),.d (bz (gu (s1 != s2) (a1 * b2) (b1 * a2)).2.1),.d (bz (gu (s1 != s2) (a1 * b2) (b1 * a2)).2.2)]),(false,[.d (.int .i64 0)])]) []:=by
 obtain ⟨⟨l1,l2,l3,l4⟩,m1,m2,m3,m4,m5,m6,m7,m8⟩:=hR.len
 have k1 : dwl (a1 * b2)≤300:=m1
 have k8 : dwl (b1 * a2)≤300:=m8
 have hb12 : b1 * a2≠0:=Nat.mul_ne_zero (by have:=hR.h1; omega) h0
 have hz : ((((dw (s2,a2,b2).2.1).map ak).length : Int) == 0) = false:=by
  rw [gd h0]; simp; omega
 unfold bW
 refine enter ae Tryz.func293 rfl (by decide +kernel) rfl fun hok w0 σ0 φ0 M=>?_
 clear hok
 repeat' (first|(refine h3H ?_; (refine h2H ?_; first|refine bh 16 J J J J J J J J (uC _ _ (by omega) (by omega)) J J ?_|refine bh 16 J J J J J J J J (F8 _ _ _ (by omega) (by omega) hb12) J J ?_))|refine wG ?_)
 all_goals first | rfl | skip
theorem Lw(s1 : Bool)(a1 b1 : Nat)(s2 : Bool)(a2 b2 : Nat)(h0 : a2 = 0) : CallA Tryz.prog 293 [bW (s1,a1,b1),bW (s2,a2,b2)] [] (.tup [(true,[.d (.bool false),.d .nil,.d .nil]),(false,[.d (.int .i64 2)])]) []:=by
 have hz : ((((dw (s2,a2,b2).2.1).map ak).length : Int) == 0) = true:=by
  rw [h0,ep]; rfl
 unfold bW
 refine enter ae Tryz.func293 rfl (by decide +kernel) rfl fun hok w0 σ0 φ0 M=>?_
 clear hok
 repeat' (first|refine wG ?_)
 all_goals first | rfl | skip
theorem F9{n : Nat} : ((((dw n).map ak).length : Int) == 0) = decide (n = 0):=by
 by_cases h : n = 0
 ·subst h; simp [ep]
 ·rw [gd h]; simp [h]; omega
theorem On(t : Bool×Nat×Nat) : CallA Tryz.prog 347 [bW t] [] (.one (.d (.int .i64 (if t.2.1 = 0 then 0 else if t.1 = true then -1 else 1)))) []:=by
 unfold bW
 refine enter ae Tryz.func347 rfl (by decide +kernel) rfl fun hok w0 σ0 φ0 M=>?_
 clear hok
 repeat' (first|refine wG ?_|(refine h4H ?_; refine ag J (fun h=>?_) (fun h=>?_)))
 ·rw [F9] at h; rw [if_pos (of_decide_eq_true h)]
 ·have h2:=‹((((dw t.2.1).map ak).length : Int) == 0) = false›
  rw [F9] at h2; rw [if_neg (of_decide_eq_false h2),if_pos h]
 ·have h2:=‹((((dw t.2.1).map ak).length : Int) == 0) = false›
  rw [F9] at h2; rw [if_neg (of_decide_eq_false h2),if_neg (by rw [h]; simp)]
def uK(t : Bool×Nat×Nat) : Bool×Nat×Nat:=(!t.1 && decide (t.2.1≠0),t.2.1,t.2.2)
theorem JP(t : Bool×Nat×Nat) : CallA Tryz.prog 239 [bW t] [] (bW (uK t)) []:=by
 unfold bW
 refine enter ae Tryz.func239 rfl (by decide +kernel) rfl fun hok w0 σ0 φ0 M=>?_
 clear hok
 repeat' (first|refine wG ?_|(refine h1H ?_; (refine h5H ?_; refine aG J J J J (fun h=>?_) (fun h=>?_))))
 ·unfold uK; rw [h,Bool.true_and,lL]
 ·have h' : (!t.1) = false:=h
  unfold uK; rw [h',Bool.false_and]
theorem Ga{s1 s2 : Bool}{a1 b1 a2 b2 : Nat} : dt s1 a1 b1 (!s2 && decide (a2≠0)) a2 b2 false = dt s1 a1 b1 s2 a2 b2 true:=by
 by_cases h : a2 = 0
 ·subst h
  unfold dt gu
  cases s1 <;> cases s2 <;> simp
 ·have e : (!s2 && decide (a2≠0)) = !s2:=by simp [h]
  rw [e]
  unfold dt
  cases s1 <;> cases s2 <;> rfl
theorem JQ(s1 : Bool)(a1 b1 : Nat)(s2 : Bool)(a2 b2 : Nat)(hR : RatW a1 b1 a2 b2) : CallA Tryz.prog 291 [bW (s1,a1,b1),bW (s2,a2,b2)] [] (bW (dt s1 a1 b1 s2 a2 b2 true)) []:=by
 have hadd:=JN s1 a1 b1 (!s2 && decide (a2≠0)) a2 b2 hR
 rw [Ga] at hadd
 unfold bW at hadd ⊢
 refine enter ae Tryz.func291 rfl (by decide +kernel) rfl fun hok w0 σ0 φ0 M=>?_
 clear hok
 repeat' (first|(refine h3H ?_; (refine h2H ?_; first|refine bh 16 J J J J J J J J (JP _) J J ?_|refine bh 16 J J J J J J J J (hadd) J J ?_))|refine wG ?_)
 all_goals first | rfl | skip
theorem Gb{t : Bool×Nat×Nat}(h : t.2.2≠0) : (if t.2.1 = 0 then (0 : Int) else if t.1 = true then -1 else 1) = mE t:=by
 unfold mE
 by_cases h2 : t.2.1 = 0
 ·rw [if_pos h2,if_pos (.inr h2)]
 ·simp [h,h2]
theorem Oo(s1 : Bool)(a1 b1 : Nat)(s2 : Bool)(a2 b2 : Nat)(hR : RatW a1 b1 a2 b2) : CallA Tryz.prog 289 [bW (s1,a1,b1),bW (s2,a2,b2)] [] (.one (.d (.int .i64 (mE (dt s1 a1 b1 s2 a2 b2 true))))) []:=by
 rw [← Gb (su (by have:=hR.h1; omega) (by have:=hR.h2; omega))]
 unfold bW
 refine enter ae Tryz.func289 rfl (by decide +kernel) rfl fun hok w0 σ0 φ0 M=>?_
 clear hok
 repeat' (first|(refine h1H ?_; (refine h0H ?_; first|refine aa J J J J J J J J (On _) J ?_|refine aw 16 J J J J J J J J (JQ _ _ _ _ _ _ hR) J J J ?_))|refine wG ?_)
 all_goals first | rfl | skip
theorem B0(r : Int) : CallA Tryz.prog 286 [.one (.d (.int .i64 r))] [] (aW ⟨0,r,0,[]⟩) []:=by
 refine enter ae Tryz.func286 rfl (by decide +kernel) rfl fun hok w0 σ0 φ0 M=>?_
 clear hok
 repeat' (first|refine wG ?_)
 all_goals rfl
theorem lc(b : Bool) : CallA Tryz.prog 237 [.one (.d (.bool b))] [] (aW (ay b)) []:=by
 refine enter ae Tryz.func237 rfl (by decide +kernel) rfl fun hok w0 σ0 φ0 M=>?_
 clear hok
 repeat' (first|refine wG ?_|(refine h4H ?_; refine ag J (fun h=>?_) (fun h=>?_)))
 all_goals first | rfl | (simp_all [aW,ay]; done)
theorem Ma(n : Int)(h0 : -1099511627776≤n)(h1 : n≤1099511627776) : CallA Tryz.prog 267 [.one (.d (.int .i64 n))] [] (.one (.d (bz n.natAbs))) []:=by
 have:=Jt n h0 h1
 rw [show max n (-n) = ((n.natAbs : Nat) : Int) by omega,jn (by omega)] at this
 exact this
theorem Hm : CallA Tryz.prog 268 [.one (.d (.int .u64 1099511627776))] [] (.one (.d (bz 1099511627776))) []:=CI 1099511627776 (by omega)
theorem xc(n : Nat)(h : n≤1099511627776) : CallA Tryz.prog 285 [.one (.d (bz n))] [] (.tup [(false,[.d (.int .i64 n)]),(false,[.d (.bool true)])]) []:=by
 have hc : decide (0 < gU n 1099511627776) = false:=by
  rcases Nat.lt_or_ge n 1099511627776 with h2 | h2
  ·rw [iu h2]; rfl
  ·rw [kc (by omega)]; rfl
 have hd:=As (z:=(n : Int)) (by omega) (by omega)
 rw [jn (by omega)] at hd
 obtain ⟨q1,q2,q3,q4,q5⟩:=hd
 have q6 : at_ (dw n) 1≤1100:=by omega
 refine enter ae Tryz.func285 rfl (by decide +kernel) rfl fun hok w0 σ0 φ0 M=>?_
 clear hok
 repeat' (first|(refine h1H ?_; (refine h0H ?_; first|refine aa J J J J J J J J (wW _ _) J ?_|refine aa J J J J J J J J (qR _ _ (fm n).1) J ?_|refine aw 16 J J J J J J J J (Hm) J J J ?_))|refine wG ?_)
 all_goals (rw [q1])
theorem xd(n : Nat)(h : ¬ n≤1099511627776) : CallA Tryz.prog 285 [.one (.d (bz n))] [] (.tup [(false,[.d (.int .i64 0)]),(false,[.d (.bool false)])]) []:=by
 have hc : decide (0 < gU n 1099511627776) = true:=by
  rw [iv (by omega)]; rfl
 refine enter ae Tryz.func285 rfl (by decide +kernel) rfl fun hok w0 σ0 φ0 M=>?_
 clear hok
 repeat' (first|(refine h1H ?_; (refine h0H ?_; first|refine aa J J J J J J J J (wW _ _) J ?_|refine aw 16 J J J J J J J J (Hm) J J J ?_))|refine wG ?_)
 all_goals rfl
theorem GC(t : Bool×Nat×Nat) : CallA Tryz.prog 238 [bW t] [] (aW (vP3 t)) []:=by
 obtain ⟨s,a,b⟩:=t
 unfold bW vP3 vP
 simp only
 by_cases ha : a≤1099511627776
 ·by_cases hb : b≤1099511627776
  ·rw [if_pos ⟨ha,hb⟩]
   refine enter ae Tryz.func238 rfl (by decide +kernel) rfl fun hok w0 σ0 φ0 M=>?_
   clear hok
   repeat' (first|(refine h1H ?_; (refine h0H ?_; first|refine aa J J J J J J J J (xc _ ha) J ?_|refine aa J J J J J J J J (xc _ hb) J ?_))|refine wG ?_|(refine h4H ?_; refine ag J (fun h=>?_) (fun h=>?_)))
   ·rw [if_pos h,Int.zero_sub]; rfl
   ·rw [if_neg (by rw [h]; simp)]; rfl
  ·rw [if_neg (fun h=>hb h.2)]
   refine enter ae Tryz.func238 rfl (by decide +kernel) rfl fun hok w0 σ0 φ0 M=>?_
   clear hok
   repeat' (first|(refine h1H ?_; (refine h0H ?_; first|refine aa J J J J J J J J (xc _ ha) J ?_|refine aa J J J J J J J J (xd _ hb) J ?_|refine aa J J J J J J J J (B0 _) J ?_))|refine wG ?_)
   all_goals rfl
 ·rw [if_neg (fun h=>ha h.1)]
  by_cases hb : b≤1099511627776
  ·refine enter ae Tryz.func238 rfl (by decide +kernel) rfl fun hok w0 σ0 φ0 M=>?_
   clear hok
   repeat' (first|(refine h1H ?_; (refine h0H ?_; first|refine aa J J J J J J J J (xc _ hb) J ?_|refine aa J J J J J J J J (xd _ ha) J ?_|refine aa J J J J J J J J (B0 _) J ?_))|refine wG ?_)
   all_goals rfl
  ·refine enter ae Tryz.func238 rfl (by decide +kernel) rfl fun hok w0 σ0 φ0 M=>?_
   clear hok
   repeat' (first|(refine h1H ?_; (refine h0H ?_; first|refine aa J J J J J J J J (xd _ ha) J ?_|refine aa J J J J J J J J (xd _ hb) J ?_|refine aa J J J J J J J J (B0 _) J ?_))|refine wG ?_)
   all_goals rfl
theorem Mb : CallA Tryz.prog 268 [.one (.d (.int .u64 1))] [] (.one (.d (bz 1))) []:=CI 1 (by omega)
theorem Ox(t : Bool×Nat×Nat)(q : Nat)(hqe : q = if t.1 = true∧t.2.1 % t.2.2≠0 then t.2.1 / t.2.2 + 1 else t.2.1 / t.2.2)(hb : 0 < t.2.2)(hm : dwl t.2.1≤300)(hn : dwl t.2.2≤300)(hq : (dw (t.2.1 / t.2.2)).length≤400) : CallA Tryz.prog 240 [bW t] [] (bW (t.1 && decide (q≠0),q,1)) []:=by
 have h1 : (dw 1).length≤400:=BT (by omega)
 unfold bW
 refine enter ae Tryz.func240 rfl (by decide +kernel) rfl fun hok w0 σ0 φ0 M=>?_
 clear hok
 repeat' (first|(refine h1H ?_; (refine h0H ?_; first|refine aw 16 J J J J J J J J (wX _ _ hm hb hn) J J J ?_|refine aw 16 J J J J J J J J (JO _ _ (by omega) h1) J J J ?_|refine aw 16 J J J J J J J J (Mb) J J J ?_))|refine wG ?_|(refine h1H ?_; (refine h5H ?_; refine aG J J J J (fun h=>?_) (fun h=>?_)))|(refine h4H ?_; refine ag J (fun h=>?_) (fun h=>?_)))
 ·rw [if_pos ⟨‹t.1 = true›,oK h⟩] at hqe
  subst hqe
  rw [lL,‹t.1 = true›,Bool.true_and]; rfl
 ·rw [if_neg (fun hc=>hc.2 (wa h))] at hqe
  subst hqe
  rw [lL,‹t.1 = true›,Bool.true_and]; rfl
 ·have h' : t.1 = false:=h
  rw [if_neg (fun hc=>by rw [h'] at hc; cases hc.1)] at hqe
  subst hqe
  rw [h']; rfl
def cH(v : Val) : Bool×Nat×Nat:=(ngV v,naV v,dnV v)
theorem ue(v : Val)(h : al v = true) : CallA Tryz.prog 227 [aW v] [] (.one (.d (.int .i64 0))) []:=by
 have:=BM v.kind v.num v.den v.str
 have h' : dm v.kind v.num v.den v.str = true:=h
 rw [if_pos h'] at this; exact this
theorem eG(v : Val)(hr : al v = true)(hk : v.kind = 2) : CallA Tryz.prog 236 [aW v] [] (.tup [(true,[.d (.bool (ngV v)),.d (bz (naV v)),.d (bz (dnV v))]),(false,[.d (.bool true)])]) []:=by
 obtain ⟨q1,q2,q3,q4⟩:=jq hr hk
 have q5 : -1099511627776≤v.num∧v.num≤1099511627776:=by unfold naV at q1; omega
 have hk2 : (v.kind != 2) = false:=by simp [hk]
 have hcall:=ue v hr
 unfold aW at hcall ⊢
 refine enter ae Tryz.func236 rfl (by decide +kernel) rfl fun hok w0 σ0 φ0 M=>?_
 clear hok
 repeat' (first|(refine h1H ?_; (refine h0H ?_; refine aa J J J J J J J J (ue v hr) J ?_))|(refine h3H ?_; (refine h2H ?_; refine bh 16 J J J J J J J J (Ma _ (by omega) (by omega)) J J ?_))|refine wG ?_)
 all_goals rfl
theorem ln(v : Val)(hr : al v = true)(hk : v.kind≠2) : CallA Tryz.prog 236 [aW v] [] (.tup [(true,[.d (.bool false),.d .nil,.d .nil]),(false,[.d (.bool false)])]) []:=by
 have hk2 : (v.kind != 2) = true:=by simp [hk]
 unfold aW
 refine enter ae Tryz.func236 rfl (by decide +kernel) rfl fun hok w0 σ0 φ0 M=>?_
 clear hok
 repeat' (first|(refine h1H ?_; (refine h0H ?_; refine aa J J J J J J J J (ue v hr) J ?_))|refine wG ?_)
 all_goals first | rfl | skip
theorem NumOk.w{x y : Val}(h : NumOk x)(h' : NumOk y) : RatW (naV x) (dnV x) (naV y) (dnV y):=⟨h.b,h'.b,h.a,h'.a⟩
theorem ia{v : Val}(hr : al v = true)(hk : v.kind = 2) : NumOk v:=by
 obtain ⟨q1,q2,q3,_⟩:=jq hr hk
 exact ⟨q1,q2,q3⟩
theorem vk{a b : Int}(h : a = b) : ¬ sgF a b≠0:=by subst h; simp [sgF]
theorem C9{a b : Int}(h : a < b) : sgF a b = -1:=if_pos h
theorem Dh{a b : Int}(h : b < a) : sgF a b = 1:=by unfold sgF; rw [if_neg (by omega),if_pos h]
theorem Mc{a b : Int}(h : a = b) : sgF a b = 0:=by subst h; simp [sgF]
theorem IR{a b : Val}(hk : a.kind = b.kind)(h2 : a.kind = 2) : mE (dt (ngV a) (naV a) (dnV a) (ngV b) (naV b) (dnV b) true) = gE a b:=by unfold gE; rw [if_neg (vk hk),if_pos h2]
theorem vm{a b : Val}(hk : a.kind = b.kind)(h3 : a.kind = 3) : lr a.str b.str = gE a b:=by unfold gE; rw [if_neg (vk hk),if_neg (by omega),if_pos h3]
theorem vn{a b : Val}(hk : a.kind = b.kind)(h2 : ¬ a.kind = 2)(h3 : ¬ a.kind = 3) : sgF a.num b.num = gE a b:=by unfold gE; rw [if_neg (vk hk),if_neg h2,if_neg h3]
theorem zD{a b : Val}(hk : ¬ a.kind = b.kind) : sgF a.kind b.kind = gE a b:=by
 have h : sgF a.kind b.kind≠0:=by
  rcases Int.lt_or_lt_of_ne hk with h | h
  ·rw [C9 h]; decide
  ·rw [Dh h]; decide
 unfold gE; rw [if_pos h]
theorem uh(a b : Val)(hra : al a = true)(hrb : al b = true) : CallA Tryz.prog 241 [aW a,aW b] [] (.one (.d (.int .i64 (gE a b)))) []:=by
 unfold aW
 refine enter ae Tryz.func241 rfl (by decide +kernel) rfl fun hok w0 σ0 φ0 M=>?_
 clear hok
 repeat' (first|(refine h1H ?_; (refine h0H ?_; first|refine aa J J J J J J J J (ue a hra) J ?_|refine aa J J J J J J J J (ue b hrb) J ?_|refine aa J J J J J J J J (Oo _ _ _ _ _ _ (NumOk.w (ia hra (by simpa using ‹(a.kind == 2) = true›)) (ia hrb (by simp_all)))) J ?_|refine aw 16 J J J J J J J J (eG a hra (by simpa using ‹(a.kind == 2) = true›)) J J J ?_|refine aw 16 J J J J J J J J (eG b hrb (by simp_all)) J J J ?_))|refine wG ?_|(refine h4H ?_; refine ag J (fun h=>?_) (fun h=>?_)))
 ·exact congrArg (fun x=>AV.one (.d (.int .i64 x))) (IR (by simpa using ‹(a.kind == b.kind) = true›) (by simpa using h))
 ·rw [← vm (by simpa using ‹(a.kind == b.kind) = true›) (by simpa using ‹(a.kind == 3) = true›)]
  unfold lr; rw [if_pos h]
 ·rw [← vm (by simpa using ‹(a.kind == b.kind) = true›) (by simpa using ‹(a.kind == 3) = true›)]
  unfold lr; rw [if_neg (by rw [‹Op.bytesLess a.str b.str = false›]; simp),if_pos h]
 ·rw [← vm (by simpa using ‹(a.kind == b.kind) = true›) (by simpa using ‹(a.kind == 3) = true›)]
  unfold lr; rw [if_neg (by rw [‹Op.bytesLess a.str b.str = false›]; simp),if_neg (by rw [h]; simp)]
 ·rw [← vn (by simpa using ‹(a.kind == b.kind) = true›) (by simpa using ‹(a.kind == 2) = false›) (by simpa using ‹(a.kind == 3) = false›),C9 (of_decide_eq_true h)]
 ·rw [← vn (by simpa using ‹(a.kind == b.kind) = true›) (by simpa using ‹(a.kind == 2) = false›) (by simpa using ‹(a.kind == 3) = false›),Dh (of_decide_eq_true h)]
 ·have h1:=of_decide_eq_false ‹decide (a.num < b.num) = false›
  have h2:=of_decide_eq_false h
  rw [← vn (by simpa using ‹(a.kind == b.kind) = true›) (by simpa using ‹(a.kind == 2) = false›) (by simpa using ‹(a.kind == 3) = false›),Mc (by omega)]
 ·rw [← zD (by simpa using ‹(a.kind == b.kind) = false›),C9 (of_decide_eq_true h)]
 ·rw [← zD (by simpa using ‹(a.kind == b.kind) = false›),Dh (of_decide_eq_true h)]
 ·have h1:=of_decide_eq_false ‹decide (a.kind < b.kind) = false›
  have h2:=of_decide_eq_false h
  have h3 : ¬ a.kind = b.kind:=by simpa using ‹(a.kind == b.kind) = false›
  omega
def arW(op : Int)(x y : Bool×Nat×Nat) : Bool×Nat×Nat:=if op = 9 then dt x.1 x.2.1 x.2.2 y.1 y.2.1 y.2.2 false else if op = 10 then dt x.1 x.2.1 x.2.2 y.1 y.2.1 y.2.2 true else if op = 11 then gu (x.1 != y.1) (x.2.1 * y.2.1) (x.2.2 * y.2.2) else gu (x.1 != y.1) (x.2.1 * y.2.2) (x.2.2 * y.2.1)
theorem QP{op : Int}(hop : 9≤op∧op≤12)(h1 : (op == 9) = false)(h2 : (op == 10) = false)(h3 : (op == 11) = false) : op = 12:=by
 have h1 : op≠9:=by simpa using h1
 have h2 : op≠10:=by simpa using h2
 have h3 : op≠11:=by simpa using h3
 omega
theorem B6(op : Int)(x y : Bool×Nat×Nat)(hop : 9≤op∧op≤12)(hR : RatW x.2.1 x.2.2 y.2.1 y.2.2)(h0 : op = 12→y.2.1≠0) : CallA Tryz.prog 242 [.one (.d (.int .i64 op)),bW x,bW y] [] (aW (vP3 (arW op x y))) []:=by
 unfold bW
 refine enter ae Tryz.func242 rfl (by decide +kernel) rfl fun hok w0 σ0 φ0 M=>?_
 clear hok
 repeat' (first|(refine h1H ?_; (refine h0H ?_; first|refine aa J J J J J J J J (GC _) J ?_|refine aw 16 J J J J J J J J (JN _ _ _ _ _ _ hR) J J J ?_|refine aw 16 J J J J J J J J (JQ _ _ _ _ _ _ hR) J J J ?_|refine aw 16 J J J J J J J J (Ol _ _ _ _ _ _ hR) J J J ?_|refine aw 16 J J J J J J J J (Om _ _ _ _ _ _ hR (h0 (QP hop ‹(op == 9) = false› ‹(op == 10) = false› ‹(op == 11) = false›))) J J J ?_))|refine wG ?_|(refine h4H ?_; refine ag J (fun h=>?_) (fun h=>?_)))
 ·unfold arW; rw [if_pos (by simpa using h)]; rfl
 ·unfold arW; rw [if_neg (by simpa using ‹(op == 9) = false›),if_pos (by simpa using h)]; rfl
 ·unfold arW; rw [if_neg (by simpa using ‹(op == 9) = false›),if_neg (by simpa using ‹(op == 10) = false›),if_pos (by simpa using h)]; rfl
 ·unfold arW; rw [if_neg (by simpa using ‹(op == 9) = false›),if_neg (by simpa using ‹(op == 10) = false›),if_neg (by simpa using h)]; rfl
theorem LA(x y : Bool×Nat×Nat)(h0 : y.2.1 = 0) : CallA Tryz.prog 242 [.one (.d (.int .i64 12)),bW x,bW y] [] (aW ⟨0,3,0,[]⟩) []:=by
 unfold bW
 refine enter ae Tryz.func242 rfl (by decide +kernel) rfl fun hok w0 σ0 φ0 M=>?_
 clear hok
 repeat' (first|(refine h1H ?_; (refine h0H ?_; first|refine aa J J J J J J J J (Lw _ _ _ _ _ _ h0) J ?_|refine aa J J J J J J J J (B0 _) J ?_))|refine wG ?_)
 all_goals rfl
theorem Gk(v : Val)(k : Int) : CallA Tryz.prog 283 [aW v,.one (.d (.int .i64 k))] [] (.one (.d (.bool (isV v k)))) []:=by
 unfold aW
 refine enter ae Tryz.func283 rfl (by decide +kernel) rfl fun hok w0 σ0 φ0 M=>?_
 clear hok
 repeat' (first|refine wG ?_|(refine h1H ?_; (refine h5H ?_; refine aG J J J J (fun h=>?_) (fun h=>?_))))
 all_goals first | rfl | (simp_all [isV]; done)
def uf(a b : Val) : Bool:=a.kind == 0 || (b.kind == 0 || a.kind == b.kind)
theorem Ki(a b : Val) : CallA Tryz.prog 284 [aW a,aW b] [] (.one (.d (.bool (uf a b)))) []:=by
 unfold aW
 refine enter ae Tryz.func284 rfl (by decide +kernel) rfl fun hok w0 σ0 φ0 M=>?_
 clear hok
 repeat' (first|refine wG ?_|(refine h1H ?_; (refine h5H ?_; refine aG J J J J (fun h=>?_) (fun h=>?_))))
 all_goals first | rfl | (refine congrArg (fun x=>AV.one (.d (.bool x))) ?_; rw [Bool.eq_iff_iff]; simp_all [uf]; done)
theorem sB{a b : Val} : uf a b = gb a b:=by
 unfold uf gb isV
 rw [Bool.eq_iff_iff]
 simp
 omega
theorem Kg{op : Int}(h : 4≤op∧op≤8) : op = 4∨op = 5∨op = 6∨op = 7∨op = 8:=by omega
theorem Kh{op : Int}(h : 9≤op∧op≤21) : op = 9∨op = 10∨op = 11∨op = 12∨op = 13∨op = 14∨op = 15∨op = 16∨op = 17∨op = 18∨op = 19∨op = 20∨op = 21:=by omega
theorem JT(op : Int)(hop : 4≤op∧op≤8)(a : Val) : CallA Tryz.prog 234 [.one (.d (.int .i64 op)),.one (.d (az [a]))] [] (.one (.d (.bool (kdF op [a])))) []:=by
 rcases Kg hop with rfl | rfl | rfl | rfl | rfl
 all_goals refine enter ae Tryz.func234 rfl (by decide +kernel) rfl fun hok w0 σ0 φ0 M=>?_
 all_goals clear hok
 repeat' (first|(refine h1H ?_; (refine h0H ?_; refine aa J J J J J J J J (Gk _ _) J ?_))|refine wG ?_)
 all_goals refine congrArg (fun x=>AV.one (.d (.bool x))) ?_
 all_goals first | rfl | (simp [kdF]; done)
theorem JU(op : Int)(hop : 9≤op∧op≤21)(a b : Val) : CallA Tryz.prog 234 [.one (.d (.int .i64 op)),.one (.d (az [a,b]))] [] (.one (.d (.bool (kdF op [a,b])))) []:=by
 rcases Kh hop with rfl | rfl | rfl | rfl | rfl | rfl | rfl | rfl | rfl | rfl | rfl | rfl | rfl
 all_goals refine enter ae Tryz.func234 rfl (by decide +kernel) rfl fun hok w0 σ0 φ0 M=>?_
 all_goals clear hok
 repeat' (first|(refine h1H ?_; (refine h0H ?_; refine aa J J J J J J J J (Gk _ _) J ?_))|(refine h3H ?_; (refine h2H ?_; refine d_l J J (aA J J J J J J (Ki _ _) J) ?_))|refine wG ?_|(refine h1H ?_; (refine h5H ?_; refine aG J J J J (fun h=>?_) (fun h=>?_))))
 all_goals refine congrArg (fun x=>AV.one (.d (.bool x))) ?_
 all_goals first | (rw [sB]; rfl) | (simp_all [kdF,sB]; done)
theorem JW(a b c : Val) : CallA Tryz.prog 234 [.one (.d (.int .i64 22)),.one (.d (az [a,b,c]))] [] (.one (.d (.bool (kdF 22 [a,b,c])))) []:=by
 have e : kdF 22 [a,b,c] = (isV a 1 && gb b c):=rfl
 rw [e]
 refine enter ae Tryz.func234 rfl (by decide +kernel) rfl fun hok w0 σ0 φ0 M=>?_
 clear hok
 repeat' (first|(refine h3H ?_; (refine h2H ?_; first|refine d_l J J (aA J J J J J J (Gk _ _) J) ?_|refine d_l J J (aA J J J J J J (Ki _ _) J) ?_))|refine wG ?_|(refine h3H ?_; (refine r7 ?_; refine j9 J J (fun h=>?_) (fun h=>?_))))
 ·have h' : isV a 1 = true:=h
  rw [h',Bool.true_and,← sB]
 ·have h' : isV a 1 = false:=h
  rw [h',Bool.false_and]
def mF(op : Int)(l : List Val) : Val×Bool :=
 if op = 7∨op = 8∨op = 21 then (rvF op l,true) else if op = 22 then (if (at_ l 0).kind == 0 then at_ l 0 else if br (at_ l 0) (ay true) == true then at_ l 1 else at_ l 2,true)
 else if op = 19 then (ay false,br (at_ l 0) (ay false) || br (at_ l 1) (ay false)) else if op = 20 then (ay true,br (at_ l 0) (ay true) || br (at_ l 1) (ay true)) else (km,false)
def lk(p : Val×Bool) : AV:=.tup [(true,[.d (.int .i64 p.1.kind),.d (.int .i64 p.1.num),.d (.int .i64 p.1.den),.d (.str p.1.str)]),(false,[.d (.bool p.2)])]
theorem LF{b : Bool}{l : List Val}(h : (br (at_ l 0) (ay b) == true) = false) : (ay b,(br (at_ l 1) (ay b) == true)) = (ay b,br (at_ l 0) (ay b) || br (at_ l 1) (ay b)):=by
 have h' : br (at_ l 0) (ay b) = false:=by simpa using h
 rw [h',Bool.false_or]; simp
theorem LG{b : Bool}{l : List Val}(h : (br (at_ l 0) (ay b) == true) = true) : (ay b,true) = (ay b,br (at_ l 0) (ay b) || br (at_ l 1) (ay b)):=by
 have h' : br (at_ l 0) (ay b) = true:=by simpa using h
 rw [h',Bool.true_or]
theorem CA{α : Type}{b : Bool}{x y : α}(h : b = true) : x = if b = true then x else y:=(if_pos h).symm
theorem yN{α : Type}{b : Bool}{x y : α}(h : b = false) : y = if b = true then x else y:=(if_neg (by rw [h]; simp)).symm
theorem p4(op : Int)(hop : 4≤op∧op≤8)(l : List Val)(hl : l.length = 1) : CallA Tryz.prog 235 [.one (.d (.int .i64 op)),.one (.d (az l))] [] (lk (mF op l)) []:=by
 rcases Kg hop with rfl | rfl | rfl | rfl | rfl
 all_goals refine enter ae Tryz.func235 rfl (by decide +kernel) rfl fun hok w0 σ0 φ0 M=>?_
 all_goals clear hok
 repeat' (first|(refine h1H ?_; (refine h0H ?_; refine aa J J J J J J J J (lc _) J ?_))|refine wG ?_|(refine h4H ?_; refine ag J (fun h=>?_) (fun h=>?_)))
 all_goals first
  | rfl
  | exact congrArg (fun x=>lk (⟨2,x,1,[]⟩,true)) (CA h)
  | exact congrArg (fun x=>lk (⟨2,x,1,[]⟩,true)) (yN h)
theorem fw(op : Int)(hop : 9≤op∧op≤21)(l : List Val)(hl : l.length = 2) : CallA Tryz.prog 235 [.one (.d (.int .i64 op)),.one (.d (az l))] [] (lk (mF op l)) []:=by
 rcases Kh hop with rfl | rfl | rfl | rfl | rfl | rfl | rfl | rfl | rfl | rfl | rfl | rfl | rfl
 all_goals refine enter ae Tryz.func235 rfl (by decide +kernel) rfl fun hok w0 σ0 φ0 M=>?_
 all_goals clear hok
 repeat' (first|(refine h3H ?_; (refine h2H ?_; refine d_l J J (aA J J J J J J (lc _) J) ?_))|refine wG ?_|(refine h4H ?_; refine ag J (fun h=>?_) (fun h=>?_))|(refine h3H ?_; (refine r7 ?_; refine j9 J J (fun h=>?_) (fun h=>?_))))
 all_goals first
  | rfl
  | exact congrArg lk (LF h)
  | exact congrArg lk (LG h)
  | exact congrArg (fun x=>lk (x,true)) (CA h)
  | exact congrArg (fun x=>lk (x,true)) (yN h)
theorem Kj(l : List Val)(hl : l.length = 3) : CallA Tryz.prog 235 [.one (.d (.int .i64 22)),.one (.d (az l))] [] (lk (mF 22 l)) []:=by
 refine enter ae Tryz.func235 rfl (by decide +kernel) rfl fun hok w0 σ0 φ0 M=>?_
 clear hok
 repeat' (first|(refine h3H ?_; (refine h2H ?_; refine d_l J J (aA J J J J J J (lc _) J) ?_))|refine wG ?_|(refine h4H ?_; refine ag J (fun h=>?_) (fun h=>?_)))
 ·exact congrArg (fun x=>lk (x,true)) (CA h)
 ·exact congrArg (fun x=>lk (x,true)) ((CA (y:=at_ l 2) h).trans (yN ‹((at_ l (Int.toNat 0)).kind == 0) = false›))
 ·exact congrArg (fun x=>lk (x,true)) ((yN (x:=at_ l 1) h).trans (yN ‹((at_ l (Int.toNat 0)).kind == 0) = false›))
theorem Gl{v : Val}(hr : al v = true)(hk : v.kind = 1) : (v.num = 0∨v.num = 1)∧v.den = 0∧v.str = []:=by
 unfold al dm at hr
 rw [hk] at hr
 simp [lV] at hr
 exact ⟨hr.2,hr.1⟩
theorem yR{v : Val}{b : Bool}(hr : al v = true)(hk : v.kind = 1) : br v (ay b) = (v.num == (ay b).num):=by
 obtain ⟨h1,h2,h3⟩:=Gl hr hk
 rw [Bool.eq_iff_iff,wk]
 constructor
 ·intro e; rw [e]; simp
 ·intro e
  have e2 : v.num = (ay b).num:=by simpa using e
  clear e h1 hr
  obtain ⟨k,n,d,s⟩:=v
  simp only at hk h2 h3 e2
  rw [hk,h2,h3,e2]; rfl
theorem Gm{v : Val}(hr : al v = true)(hk : v.kind = 1) : ay (br v (ay false) == true) = ay (v.num == 0):=by
 rw [yR hr hk]; simp [ay]
theorem Ic{v : Val}(hr : al v = true)(hk : v.kind = 2) : v.str = []:=by
 unfold al dm at hr
 rw [hk] at hr
 simp at hr
 exact hr.1
theorem Gn{v : Val}(hr : al v = true)(hk : v.kind = 2) : vP3 (uK (cH v)) = oV v:=by
 obtain ⟨q1,q2,q3,q4⟩:=jq hr hk
 have h1:=Ic hr hk
 unfold vP3 uK cH vP oV
 simp only
 rw [if_pos ⟨q1,q3⟩,hk,h1,← q4]
 congr 1
 have hw : IntKind.i64.wrap (0 - v.num) = -v.num:=by
  rw [Int.zero_sub]
  have : naV v = v.num.natAbs:=rfl
  exact gf (by omega) (by omega)
 rw [hw]
 unfold ngV naV
 by_cases h0 : v.num = 0
 ·rw [h0]; simp
 ·by_cases hn : v.num < 0
  ·simp [hn]; omega
  ·have : ¬ v.num < 0:=hn
   simp [this]; omega
theorem Id{s : Bool}{q b : Nat} : vP (s && decide (q≠0)) q b = vP s q b:=by
 unfold vP
 by_cases h : q = 0
 ·subst h; simp
 ·simp [h]
theorem CC{v : Val} : vP3 (ngV v && decide ((if ngV v = true∧naV v % dnV v≠0 then naV v / dnV v + 1 else naV v / dnV v)≠0),(if ngV v = true∧naV v % dnV v≠0 then naV v / dnV v + 1 else naV v / dnV v),1) = yS v:=by
 unfold vP3 yS; exact Id
theorem xU{b : Bool}{l : List Val}(h : (br (at_ l 0) (ay b) || br (at_ l 1) (ay b)) = true) : ay b = iH b l:=by
 unfold iH; rw [if_pos (by simpa using h)]
theorem pA{b : Bool}{l : List Val}(h : (br (at_ l 0) (ay b) || br (at_ l 1) (ay b)) = false) : (aD l).getD (ay (!b)) = iH b l:=by
 unfold iH; rw [if_neg (by
  intro hc
  have : (br (at_ l 0) (ay b) || br (at_ l 1) (ay b)) = true:=by simpa using hc
  rw [this] at h; cases h)]
theorem Ie{l : List Val}(hl : l.length = 3)(hr : l.all al = true)(hk : kdF 22 l = true) : (mF 22 l).1 = rvF 22 l:=by
 show (if (at_ l 0).kind == 0 then at_ l 0 else if br (at_ l 0) (ay true) == true then at_ l 1 else at_ l 2) = (if (at_ l 0).kind == 0 then at_ l 0 else if (at_ l 0).num == 1 then at_ l 1 else at_ l 2)
 by_cases h0 : ((at_ l 0).kind == 0) = true
 ·rw [if_pos h0,if_pos h0]
 ·rw [if_neg h0,if_neg h0]
  have h1 : isV (at_ l 0) 1 = true:=by
   have : (isV (at_ l 0) 1 && gb (at_ l (l.length - 2)) (at_ l (l.length - 1))) = true:=hk
   simp at this; exact this.1
  have hk1:=qL h1 (by simpa using h0)
  rw [yR (c7 hr (i:=0) (by omega)) hk1]
  simp [ay]
theorem ne2{b : Bool} : ((if b = true then (0 : Int) else 2) != 0) = !b:=by cases b <;> rfl
theorem d9(v : Val) : CallA Tryz.prog 227 [aW v] [] (.one (.d (.int .i64 (if al v = true then 0 else 2)))) []:=BM v.kind v.num v.den v.str
theorem pU(op : Int)(hop : 4≤op∧op≤8)(l : List Val)(hl : l.length = 1) : CallA Tryz.prog 234 [.one (.d (.int .i64 op)),.one (.d (az l))] [] (.one (.d (.bool (kdF op l)))) []:=by
 match l,hl with
 | [a],_=>exact JT op hop a
theorem fu(op : Int)(hop : 9≤op∧op≤21)(l : List Val)(hl : l.length = 2) : CallA Tryz.prog 234 [.one (.d (.int .i64 op)),.one (.d (az l))] [] (.one (.d (.bool (kdF op l)))) []:=by
 match l,hl with
 | [a,b],_=>exact JU op hop a b
theorem JV(l : List Val)(hl : l.length = 3) : CallA Tryz.prog 234 [.one (.d (.int .i64 22)),.one (.d (az l))] [] (.one (.d (.bool (kdF 22 l)))) []:=by
 match l,hl with
 | [a,b,c],_=>exact JW a b c
theorem xT{a : Int}(h : a = 1) : a≠2:=by omega
theorem kd1{op : Int}{l : List Val}{k : Int}(hr : l.all al = true)(hk : l.all (fun v=>isV v k) = true)(hm : aD l = none){i : Nat}(hi : i < l.length) : al (at_ l i) = true∧(at_ l i).kind = k:=⟨c7 hr hi,qL (c7 hk hi) (mO hm hi)⟩
theorem ey{op : Int}{l : List Val}{rv : Val}(hall : l.all al = true)(hk : (!kdF op l) = false)(hm : frF op = true∨aD l = none)(h : rv = rvF op l) : cI (rv,0) = cI (doF op l):=by
 unfold doF doG
 rw [if_pos hall,if_pos (by simpa using hk)]
 rcases hm with hm | hm
 ·rw [if_pos hm,h]
 ·rw [hm,← h]; split <;> rfl
theorem fS{op : Int}{l : List Val}(hall : ¬ l.all al = true) : cI (km,2) = cI (doF op l):=by unfold doF; rw [B7 hall]
theorem fT{op : Int}{l : List Val}(hall : l.all al = true)(hk : (!kdF op l) = true) : cI (km,12) = cI (doF op l):=by unfold doF; rw [B8 hall hk]
theorem iZ{op : Int}{l : List Val}{k : Nat}(hall : l.all al = true)(hk : (!kdF op l) = false)(hf : frF op = false)(hq : aD l = aD (l.drop k))(hlt : k < l.length)(h : ((at_ l k).kind == 0) = true) : cI (at_ l k,0) = cI (doF op l):=by
 unfold doF; rw [tD hall hk (by rw [hf]; rfl),hq,lZ hlt h]; rfl
theorem DS{b : Bool}{op : Int}{l : List Val}{k : Nat}(hop : op = 19∧b = false∨op = 20∧b = true)(hall : l.all al = true)(hk : (!kdF op l) = false)(hs : (br (at_ l 0) (ay b) || br (at_ l 1) (ay b)) = false)(hq : aD l = aD (l.drop k))(hlt : k < l.length)(h : ((at_ l k).kind == 0) = true) : cI (at_ l k,0) = cI (doF op l):=by
 refine ey hall hk (.inl ?_) ?_
 ·rcases hop with ⟨rfl,_⟩ | ⟨rfl,_⟩ <;> rfl
 ·have e:=pA hs
  rw [hq,lZ hlt h] at e
  have e2 : at_ l k = iH b l:=e
  rcases hop with ⟨rfl,rfl⟩ | ⟨rfl,rfl⟩ <;> exact e2
def flT(v : Val) : Bool×Nat×Nat:=(ngV v && decide ((if ngV v = true∧naV v % dnV v≠0 then naV v / dnV v + 1 else naV v / dnV v)≠0),(if ngV v = true∧naV v % dnV v≠0 then naV v / dnV v + 1 else naV v / dnV v),1)
theorem LB(v : Val)(hr : al v = true)(hk : v.kind = 2) : CallA Tryz.prog 240 [bW (cH v)] [] (bW (flT v)) []:=by
 have n:=ia hr hk
 have r:=(n.w n).len
 exact Ox (cH v) _ rfl n.b.1 (Nat.le_trans (jm (Nat.le_mul_of_pos_right _ n.b.1)) r.2.1) (Nat.le_trans (jm (Nat.le_mul_of_pos_right _ n.b.1)) r.2.2.2.1) (Nat.le_trans (jm (Nat.div_le_self _ _)) r.1.1)
set_option maxHeartbeats 2000000 in
theorem JA(l : List Val)(hl : l.length = 1) : CallA Tryz.prog 187 [.one (.d (.int .i64 4)),.one (.d (az l))] [] (cI (doF 4 l)) []:=by
 have h228 : CallA Tryz.prog 228 [.one (.d (.int .i64 4))] [] (.one (.d (.int .i64 1))) []:=fq 4
 have hlen : (((l.map ab).length : Int) != 1) = false:=by rw [List.length_map,hl]; rfl
 have hkc:=pU 4 ⟨by omega,by omega⟩ l hl
 have hsc:=p4 4 ⟨by omega,by omega⟩ l hl
 have hx : l.all al = true→kdF 4 l = true→aD l = none→al (at_ l 0) = true∧(at_ l 0).kind = 1:=fun hr hk hm=>kd1 (op:=0) hr hk hm (by omega)
 all_goals refine enter ae Tryz.func187 rfl (by decide +kernel) rfl fun hok w0 σ0 φ0 M=>?_
 all_goals clear hok
 repeat' (first|(refine h1H ?_; (refine h0H ?_; first|refine aa J J J J J J J J (h228) J ?_|refine aa J J J J J J J J (d9 _) J ?_|refine aa J J J J J J J J (hkc) J ?_|refine aa J J J J J J J J (hsc) J ?_|refine aa J J J J J J J J (ln _ (hx (aj hq ‹decide ((k : Int) < ((l.map ab).length : Int)) = false›) (by simpa using ‹(!kdF 4 l) = false›) (ar hq1 h)).1 (xT (hx (aj hq ‹decide ((k : Int) < ((l.map ab).length : Int)) = false›) (by simpa using ‹(!kdF 4 l) = false›) (ar hq1 h)).2)) J ?_))|(refine h3H ?_; (refine h2H ?_; refine d_l J J (aA J J J J J J (lc _) J) ?_))|refine wG ?_|(refine h4H ?_; first|refine ag J (fun h=>?_) (fun h=>?_)|refine aB 4 J [(0,_),(1,_),(4,_)] (q3Q J J J) (fun (k : Nat)=>[(6,.one (.d (.int .i64 (k : Int))))]) (fun (k : Nat)=>k≤l.length∧l.all al = (l.drop k).all al) (fun (k : Nat)=>l.length - k) 0 (q1Q J) ?_ (fun k ⟨hk0,hq⟩=>?_)|refine aB 14 J [(0,_),(1,_),(4,_)] (q3Q J J J) (fun (j : Nat)=>[(9,.one (.d (.int .i64 (j : Int))))]) (fun (j : Nat)=>j≤l.length∧aD l = aD (l.drop j)) (fun (j : Nat)=>l.length - j) 0 (q1Q J) ?_ (fun j ⟨hk1,hq1⟩=>?_))|(show Exists _; first|refine Exists.intro (j + 1) ⟨?_,?_,wK,(q1Q J),(q3Q J J J)⟩|refine Exists.intro (k + 1) ⟨?_,?_,wK,(q1Q J),(q3Q J J J)⟩))
 all_goals first
  | exact ⟨Nat.zero_le _,rfl⟩
  | exact fS (dM hq (by simpa using ‹decide ((k : Int) < ((l.map ab).length : Int)) = true›) (by rw [← ne2]; exact h))
  | (have hlt : k < l.length:=by simpa using ‹decide ((k : Int) < ((l.map ab).length : Int)) = true›
     exact ⟨hlt,dN hq hlt (by rw [← ne2]; exact h)⟩)
  | (have hlt : k < l.length:=by simpa using ‹decide ((k : Int) < ((l.map ab).length : Int)) = true›
     show l.length - (k + 1) < l.length - k
     omega)
  | exact fT (aj hq ‹decide ((k : Int) < ((l.map ab).length : Int)) = false›) h
  | exact ey (rv:=ay (br (at_ l 0) (ay false) == true)) (aj hq ‹decide ((k : Int) < ((l.map ab).length : Int)) = false›) ‹(!kdF 4 l) = false› (.inr (ar hq1 h)) (Gm (hx (aj hq ‹decide ((k : Int) < ((l.map ab).length : Int)) = false›) (by simpa using ‹(!kdF 4 l) = false›) (ar hq1 h)).1 (hx (aj hq ‹decide ((k : Int) < ((l.map ab).length : Int)) = false›) (by simpa using ‹(!kdF 4 l) = false›) (ar hq1 h)).2)
  | exact iZ (aj hq ‹decide ((k : Int) < ((l.map ab).length : Int)) = false›) ‹(!kdF 4 l) = false› rfl hq1 (by simpa using ‹decide ((j : Int) < ((l.map ab).length : Int)) = true›) h
  | (have hlt : j < l.length:=by simpa using ‹decide ((j : Int) < ((l.map ab).length : Int)) = true›
     exact ⟨hlt,hq1.trans (cA hlt h)⟩)
  | (have hlt : j < l.length:=by simpa using ‹decide ((j : Int) < ((l.map ab).length : Int)) = true›
     show l.length - (j + 1) < l.length - j
     omega)
  | skip
set_option maxHeartbeats 2000000 in
theorem JB(l : List Val)(hl : l.length = 1) : CallA Tryz.prog 187 [.one (.d (.int .i64 5)),.one (.d (az l))] [] (cI (doF 5 l)) []:=by
 have h228 : CallA Tryz.prog 228 [.one (.d (.int .i64 5))] [] (.one (.d (.int .i64 1))) []:=fq 5
 have hlen : (((l.map ab).length : Int) != 1) = false:=by rw [List.length_map,hl]; rfl
 have hkc:=pU 5 ⟨by omega,by omega⟩ l hl
 have hsc:=p4 5 ⟨by omega,by omega⟩ l hl
 have hx : l.all al = true→kdF 5 l = true→aD l = none→al (at_ l 0) = true∧(at_ l 0).kind = 2:=fun hr hk hm=>kd1 (op:=0) hr hk hm (by omega)
 all_goals refine enter ae Tryz.func187 rfl (by decide +kernel) rfl fun hok w0 σ0 φ0 M=>?_
 all_goals clear hok
 repeat' (first|(refine h1H ?_; (refine h0H ?_; first|refine aa J J J J J J J J (h228) J ?_|refine aa J J J J J J J J (d9 _) J ?_|refine aa J J J J J J J J (hkc) J ?_|refine aa J J J J J J J J (hsc) J ?_|refine aa J J J J J J J J (GC _) J ?_|refine aw 16 J J J J J J J J (eG _ (hx (aj hq ‹decide ((k : Int) < ((l.map ab).length : Int)) = false›) (by simpa using ‹(!kdF 5 l) = false›) (ar hq1 h)).1 (hx (aj hq ‹decide ((k : Int) < ((l.map ab).length : Int)) = false›) (by simpa using ‹(!kdF 5 l) = false›) (ar hq1 h)).2) J J J ?_|refine aw 16 J J J J J J J J (JP (cH (at_ l 0))) J J J ?_))|refine wG ?_|(refine h4H ?_; first|refine ag J (fun h=>?_) (fun h=>?_)|refine aB 4 J [(0,_),(1,_),(4,_)] (q3Q J J J) (fun (k : Nat)=>[(6,.one (.d (.int .i64 (k : Int))))]) (fun (k : Nat)=>k≤l.length∧l.all al = (l.drop k).all al) (fun (k : Nat)=>l.length - k) 0 (q1Q J) ?_ (fun k ⟨hk0,hq⟩=>?_)|refine aB 14 J [(0,_),(1,_),(4,_)] (q3Q J J J) (fun (j : Nat)=>[(9,.one (.d (.int .i64 (j : Int))))]) (fun (j : Nat)=>j≤l.length∧aD l = aD (l.drop j)) (fun (j : Nat)=>l.length - j) 0 (q1Q J) ?_ (fun j ⟨hk1,hq1⟩=>?_))|(show Exists _; first|refine Exists.intro (j + 1) ⟨?_,?_,wK,(q1Q J),(q3Q J J J)⟩|refine Exists.intro (k + 1) ⟨?_,?_,wK,(q1Q J),(q3Q J J J)⟩))
 all_goals first
  | exact ⟨Nat.zero_le _,rfl⟩
  | exact fS (dM hq (by simpa using ‹decide ((k : Int) < ((l.map ab).length : Int)) = true›) (by rw [← ne2]; exact h))
  | (have hlt : k < l.length:=by simpa using ‹decide ((k : Int) < ((l.map ab).length : Int)) = true›
     exact ⟨hlt,dN hq hlt (by rw [← ne2]; exact h)⟩)
  | (have hlt : k < l.length:=by simpa using ‹decide ((k : Int) < ((l.map ab).length : Int)) = true›
     show l.length - (k + 1) < l.length - k
     omega)
  | exact fT (aj hq ‹decide ((k : Int) < ((l.map ab).length : Int)) = false›) h
  | exact ey (rv:=vP3 (uK (cH (at_ l 0)))) (aj hq ‹decide ((k : Int) < ((l.map ab).length : Int)) = false›) ‹(!kdF 5 l) = false› (.inr (ar hq1 h)) (Gn (hx (aj hq ‹decide ((k : Int) < ((l.map ab).length : Int)) = false›) (by simpa using ‹(!kdF 5 l) = false›) (ar hq1 h)).1 (hx (aj hq ‹decide ((k : Int) < ((l.map ab).length : Int)) = false›) (by simpa using ‹(!kdF 5 l) = false›) (ar hq1 h)).2)
  | exact iZ (aj hq ‹decide ((k : Int) < ((l.map ab).length : Int)) = false›) ‹(!kdF 5 l) = false› rfl hq1 (by simpa using ‹decide ((j : Int) < ((l.map ab).length : Int)) = true›) h
  | (have hlt : j < l.length:=by simpa using ‹decide ((j : Int) < ((l.map ab).length : Int)) = true›
     exact ⟨hlt,hq1.trans (cA hlt h)⟩)
  | (have hlt : j < l.length:=by simpa using ‹decide ((j : Int) < ((l.map ab).length : Int)) = true›
     show l.length - (j + 1) < l.length - j
     omega)
  | skip
set_option maxHeartbeats 2000000 in
theorem JC(l : List Val)(hl : l.length = 1) : CallA Tryz.prog 187 [.one (.d (.int .i64 6)),.one (.d (az l))] [] (cI (doF 6 l)) []:=by
 have h228 : CallA Tryz.prog 228 [.one (.d (.int .i64 6))] [] (.one (.d (.int .i64 1))) []:=fq 6
 have hlen : (((l.map ab).length : Int) != 1) = false:=by rw [List.length_map,hl]; rfl
 have hkc:=pU 6 ⟨by omega,by omega⟩ l hl
 have hsc:=p4 6 ⟨by omega,by omega⟩ l hl
 have hx : l.all al = true→kdF 6 l = true→aD l = none→al (at_ l 0) = true∧(at_ l 0).kind = 2:=fun hr hk hm=>kd1 (op:=0) hr hk hm (by omega)
 all_goals refine enter ae Tryz.func187 rfl (by decide +kernel) rfl fun hok w0 σ0 φ0 M=>?_
 all_goals clear hok
 repeat' (first|(refine h1H ?_; (refine h0H ?_; first|refine aa J J J J J J J J (h228) J ?_|refine aa J J J J J J J J (d9 _) J ?_|refine aa J J J J J J J J (hkc) J ?_|refine aa J J J J J J J J (hsc) J ?_|refine aa J J J J J J J J (GC _) J ?_|refine aw 16 J J J J J J J J (eG _ (hx (aj hq ‹decide ((k : Int) < ((l.map ab).length : Int)) = false›) (by simpa using ‹(!kdF 6 l) = false›) (ar hq1 h)).1 (hx (aj hq ‹decide ((k : Int) < ((l.map ab).length : Int)) = false›) (by simpa using ‹(!kdF 6 l) = false›) (ar hq1 h)).2) J J J ?_|refine aw 16 J J J J J J J J (LB _ (hx (aj hq ‹decide ((k : Int) < ((l.map ab).length : Int)) = false›) (by simpa using ‹(!kdF 6 l) = false›) (ar hq1 h)).1 (hx (aj hq ‹decide ((k : Int) < ((l.map ab).length : Int)) = false›) (by simpa using ‹(!kdF 6 l) = false›) (ar hq1 h)).2) J J J ?_))|refine wG ?_|(refine h4H ?_; first|refine ag J (fun h=>?_) (fun h=>?_)|refine aB 4 J [(0,_),(1,_),(4,_)] (q3Q J J J) (fun (k : Nat)=>[(6,.one (.d (.int .i64 (k : Int))))]) (fun (k : Nat)=>k≤l.length∧l.all al = (l.drop k).all al) (fun (k : Nat)=>l.length - k) 0 (q1Q J) ?_ (fun k ⟨hk0,hq⟩=>?_)|refine aB 14 J [(0,_),(1,_),(4,_)] (q3Q J J J) (fun (j : Nat)=>[(9,.one (.d (.int .i64 (j : Int))))]) (fun (j : Nat)=>j≤l.length∧aD l = aD (l.drop j)) (fun (j : Nat)=>l.length - j) 0 (q1Q J) ?_ (fun j ⟨hk1,hq1⟩=>?_))|(show Exists _; first|refine Exists.intro (j + 1) ⟨?_,?_,wK,(q1Q J),(q3Q J J J)⟩|refine Exists.intro (k + 1) ⟨?_,?_,wK,(q1Q J),(q3Q J J J)⟩))
 all_goals first
  | exact ⟨Nat.zero_le _,rfl⟩
  | exact fS (dM hq (by simpa using ‹decide ((k : Int) < ((l.map ab).length : Int)) = true›) (by rw [← ne2]; exact h))
  | (have hlt : k < l.length:=by simpa using ‹decide ((k : Int) < ((l.map ab).length : Int)) = true›
     exact ⟨hlt,dN hq hlt (by rw [← ne2]; exact h)⟩)
  | (have hlt : k < l.length:=by simpa using ‹decide ((k : Int) < ((l.map ab).length : Int)) = true›
     show l.length - (k + 1) < l.length - k
     omega)
  | exact fT (aj hq ‹decide ((k : Int) < ((l.map ab).length : Int)) = false›) h
  | exact ey (rv:=vP3 (flT (at_ l 0))) (aj hq ‹decide ((k : Int) < ((l.map ab).length : Int)) = false›) ‹(!kdF 6 l) = false› (.inr (ar hq1 h)) CC
  | exact iZ (aj hq ‹decide ((k : Int) < ((l.map ab).length : Int)) = false›) ‹(!kdF 6 l) = false› rfl hq1 (by simpa using ‹decide ((j : Int) < ((l.map ab).length : Int)) = true›) h
  | (have hlt : j < l.length:=by simpa using ‹decide ((j : Int) < ((l.map ab).length : Int)) = true›
     exact ⟨hlt,hq1.trans (cA hlt h)⟩)
  | (have hlt : j < l.length:=by simpa using ‹decide ((j : Int) < ((l.map ab).length : Int)) = true›
     show l.length - (j + 1) < l.length - j
     omega)
  | skip
set_option maxHeartbeats 2000000 in
theorem JD(l : List Val)(hl : l.length = 1) : CallA Tryz.prog 187 [.one (.d (.int .i64 7)),.one (.d (az l))] [] (cI (doF 7 l)) []:=by
 have h228 : CallA Tryz.prog 228 [.one (.d (.int .i64 7))] [] (.one (.d (.int .i64 1))) []:=fq 7
 have hlen : (((l.map ab).length : Int) != 1) = false:=by rw [List.length_map,hl]; rfl
 have hkc:=pU 7 ⟨by omega,by omega⟩ l hl
 have hsc:=p4 7 ⟨by omega,by omega⟩ l hl
 all_goals refine enter ae Tryz.func187 rfl (by decide +kernel) rfl fun hok w0 σ0 φ0 M=>?_
 all_goals clear hok
 repeat' (first|(refine h1H ?_; (refine h0H ?_; first|refine aa J J J J J J J J (h228) J ?_|refine aa J J J J J J J J (d9 _) J ?_|refine aa J J J J J J J J (hkc) J ?_|refine aa J J J J J J J J (hsc) J ?_))|refine wG ?_|(refine h4H ?_; first|refine ag J (fun h=>?_) (fun h=>?_)|refine aB 4 J [(0,_),(1,_),(4,_)] (q3Q J J J) (fun (k : Nat)=>[(6,.one (.d (.int .i64 (k : Int))))]) (fun (k : Nat)=>k≤l.length∧l.all al = (l.drop k).all al) (fun (k : Nat)=>l.length - k) 0 (q1Q J) ?_ (fun k ⟨hk0,hq⟩=>?_))|(show Exists _; refine Exists.intro (k + 1) ⟨?_,?_,wK,(q1Q J),(q3Q J J J)⟩))
 all_goals first
  | exact ⟨Nat.zero_le _,rfl⟩
  | exact fS (dM hq (by simpa using ‹decide ((k : Int) < ((l.map ab).length : Int)) = true›) (by rw [← ne2]; exact h))
  | (have hlt : k < l.length:=by simpa using ‹decide ((k : Int) < ((l.map ab).length : Int)) = true›
     exact ⟨hlt,dN hq hlt (by rw [← ne2]; exact h)⟩)
  | (have hlt : k < l.length:=by simpa using ‹decide ((k : Int) < ((l.map ab).length : Int)) = true›
     show l.length - (k + 1) < l.length - k
     omega)
  | exact fT (aj hq ‹decide ((k : Int) < ((l.map ab).length : Int)) = false›) h
  | exact ey (rv:=(mF 7 l).1) (aj hq ‹decide ((k : Int) < ((l.map ab).length : Int)) = false›) rfl (.inl rfl) rfl
  | skip
set_option maxHeartbeats 2000000 in
theorem JE(l : List Val)(hl : l.length = 1) : CallA Tryz.prog 187 [.one (.d (.int .i64 8)),.one (.d (az l))] [] (cI (doF 8 l)) []:=by
 have h228 : CallA Tryz.prog 228 [.one (.d (.int .i64 8))] [] (.one (.d (.int .i64 1))) []:=fq 8
 have hlen : (((l.map ab).length : Int) != 1) = false:=by rw [List.length_map,hl]; rfl
 have hkc:=pU 8 ⟨by omega,by omega⟩ l hl
 have hsc:=p4 8 ⟨by omega,by omega⟩ l hl
 all_goals refine enter ae Tryz.func187 rfl (by decide +kernel) rfl fun hok w0 σ0 φ0 M=>?_
 all_goals clear hok
 repeat' (first|(refine h1H ?_; (refine h0H ?_; first|refine aa J J J J J J J J (h228) J ?_|refine aa J J J J J J J J (d9 _) J ?_|refine aa J J J J J J J J (hkc) J ?_|refine aa J J J J J J J J (hsc) J ?_))|refine wG ?_|(refine h4H ?_; first|refine ag J (fun h=>?_) (fun h=>?_)|refine aB 4 J [(0,_),(1,_),(4,_)] (q3Q J J J) (fun (k : Nat)=>[(6,.one (.d (.int .i64 (k : Int))))]) (fun (k : Nat)=>k≤l.length∧l.all al = (l.drop k).all al) (fun (k : Nat)=>l.length - k) 0 (q1Q J) ?_ (fun k ⟨hk0,hq⟩=>?_))|(show Exists _; refine Exists.intro (k + 1) ⟨?_,?_,wK,(q1Q J),(q3Q J J J)⟩))
 all_goals first
  | exact ⟨Nat.zero_le _,rfl⟩
  | exact fS (dM hq (by simpa using ‹decide ((k : Int) < ((l.map ab).length : Int)) = true›) (by rw [← ne2]; exact h))
  | (have hlt : k < l.length:=by simpa using ‹decide ((k : Int) < ((l.map ab).length : Int)) = true›
     exact ⟨hlt,dN hq hlt (by rw [← ne2]; exact h)⟩)
  | (have hlt : k < l.length:=by simpa using ‹decide ((k : Int) < ((l.map ab).length : Int)) = true›
     show l.length - (k + 1) < l.length - k
     omega)
  | exact fT (aj hq ‹decide ((k : Int) < ((l.map ab).length : Int)) = false›) h
  | exact ey (rv:=(mF 8 l).1) (aj hq ‹decide ((k : Int) < ((l.map ab).length : Int)) = false›) rfl (.inl rfl) rfl
  | skip
end Go.Proofs.YtpejdgkaapnekaaGreat
