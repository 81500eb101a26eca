import Derived.Lib.ItoaNum
import Derived.Test.YtpejdgkaapnekaaGreatGP22
set_option linter.unusedVariables false
set_option linter.unusedSimpArgs false
set_option linter.unnecessarySimpa false
set_option maxHeartbeats 1000000
namespace Go.Proofs.YtpejdgkaapnekaaGreat
open Go Go.Abs
attribute [local irreducible] ac OkC ao ax ap aJ
set_option maxRecDepth 10000
theorem lM{t w1 w2 x2 qq : Nat}{p : Int×Int}(hp1 : 0≤p.1∧p.1≤4294967297)(hp2 : 0≤p.2∧p.2 < 4294967296)(hG : Guess t w1 w2 x2 qq p.1.toNat p.2.toNat)(hqB : qq < 4294967296)(hle : qq * (w1 * 4294967296 + w2)≤t * 4294967296 + x2)
  (ht : 4294967296≤p.1∨p.2 * 4294967296 + x2 < p.1 * w2) : (qq : Int) < p.1∧Guess t w1 w2 x2 qq (p.1 - 1).toNat (p.2 + w1).toNat:=by
 obtain ⟨a,b⟩:=p
 obtain ⟨m,rfl⟩:=Int.eq_ofNat_of_zero_le hp1.1
 obtain ⟨k,rfl⟩:=Int.eq_ofNat_of_zero_le hp2.1
 simp only [Int.toNat_natCast] at hG ht ⊢
 have:=CX hG hqB hle (by
  rcases ht with ht | ht
  ·exact .inl (by omega)
  ·refine .inr ?_
   rw [show (m : Int) * (w2 : Int) = ((m * w2 : Nat) : Int) by simp] at ht
   omega)
 rw [show ((m : Int) - 1).toNat = m - 1 by omega,show ((k : Int) + (w1 : Int)).toNat = k + w1 by omega]
 exact ⟨by omega,this.2⟩
theorem Bh{t w1 w2 x2 qq : Nat}{p : Int×Int}(hp1 : 0≤p.1∧p.1≤4294967297)(h : (qq : Int) < p.1∧Guess t w1 w2 x2 qq (p.1 - 1).toNat (p.2 + w1).toNat)(hp2 : 0≤p.2)(hlt : p.2 + w1 < 4294967296) :
  (0≤p.1 - 1∧p.1 - 1≤4294967297)∧(0≤p.2 + w1∧p.2 + w1 < 4294967296)∧Guess t w1 w2 x2 qq (p.1 - 1).toNat (p.2 + w1).toNat:=⟨by omega,by omega,h.2⟩
theorem ifb{c : Prop}[Decidable c](h : ((if c then (1 : Int) else 0) == 0) = false) : (if c then (1 : Int) else 0) = 1:=by
 by_cases hc : c
 ·simp [hc]
 ·simp [hc] at h
def Hid(p : Prop) : Prop:=p
def vj(qq : Nat)(qh : Int) : Prop:=(qq : Int)≤qh∧qh≤qq + 1∧0≤qh∧qh < 4294967296
theorem Bi{t w1 w2 x2 qq : Nat}{p : Int×Int}(hp1 : 0≤p.1∧p.1≤4294967297)(h : (qq : Int) < p.1∧Guess t w1 w2 x2 qq (p.1 - 1).toNat (p.2 + w1).toNat)(hw2 : w2 < 4294967296)(hge : 4294967296≤p.2 + w1)(hqB : qq < 4294967296)
  (hup : ∀ x,x * (w1 * 4294967296 + w2 + 1)≤t * 4294967296 + x2→x≤qq) : vj qq (p.1 - 1):=by
 have:=hup _ (CZ h.2 hw2 (by omega) (by omega))
 have:=h.2.ge
 unfold vj
 omega
theorem iOx{t w1 w2 x2 qq : Nat}{p : Int×Int}(hp1 : 0≤p.1∧p.1≤4294967297)(hp2 : 0≤p.2∧p.2 < 4294967296)(hG : Guess t w1 w2 x2 qq p.1.toNat p.2.toNat)(hw1 : 0 < w1)(hlt : p.1 < 4294967296)(hle : p.1 * w2≤p.2 * 4294967296 + x2)
  (hup : ∀ x,x * (w1 * 4294967296 + w2 + 1)≤t * 4294967296 + x2→x≤qq) : vj qq p.1:=by
 obtain ⟨a,b⟩:=p
 obtain ⟨m,rfl⟩:=Int.eq_ofNat_of_zero_le hp1.1
 obtain ⟨k,rfl⟩:=Int.eq_ofNat_of_zero_le hp2.1
 simp only [Int.toNat_natCast] at hG hlt hle ⊢
 have:=hup _ (CY hG (by omega) hw1 (by omega) (by
   rw [show (m : Int) * (w2 : Int) = ((m * w2 : Nat) : Int) by simp] at hle
   omega))
 have:=hG.ge
 unfold vj
 omega
theorem QO(v : Int) : 0≤IntKind.u32.wrap v∧IntKind.u32.wrap v < 4294967296:=by rw [iG]; omega
theorem jK{L : List Int}{R : List (List D)}{N : Nat}(hr : R = L.map ak)(hl : R.length = N) : L.length = N:=by rw [hr] at hl; simpa using hl
theorem lq{l : List Int}{k : Nat}(h : Dg l)(hv : af l < pw k) : ∀ t,k≤t→at_ l t = 0:=by
 intro t ht
 by_cases hl : t < l.length
 ·have h1:=bm hl
  have h2:=(dh (h.take t)).1
  have h3:=h.at hl
  have e : af l = af (l.take (t + 1)) + pw (l.take (t + 1)).length * af (l.drop (t + 1)):=by rw [← jT,List.take_append_drop]
  have h4:=(dh (h.drop (t + 1))).1
  have h5:=Int.mul_nonneg (Int.le_of_lt (ez (l.take (t + 1)).length)) h4
  refine Classical.byContradiction fun hc=>?_
  have h6:=Int.mul_le_mul_of_nonneg_left (show 1≤at_ l t by omega) (Int.le_of_lt (ez t))
  have h7 : pw k≤pw t:=by
   obtain ⟨m,rfl⟩ : ∃ m,t = k + m:=⟨t - k,by omega⟩
   rw [gF]
   have:=Int.mul_le_mul_of_nonneg_left (show 1≤pw m by have:=ez m; omega) (Int.le_of_lt (ez k))
   omega
  omega
 ·exact iQ (Nat.le_of_not_lt hl)
theorem IP{V L R : List Int}{W : List (List D)}{N : Nat}{lo n qq : Nat}{qh M : Int}(hM : M = pw lo * af V)(hM0 : 0 < M)(hqq : (qq : Int) = af R / M)(ho : vj qq qh)(hr : W = L.map ak)(hl : W.length = R.length)(hL : Dg L){b : Int}
  (hb : b = 0) (hv : af L + pw lo * (qh * af V) = af R + pw (lo + n + 1) * b) : IntKind.u32.wrap qh = qq∧W = (wid R.length (af R % M).toNat).map ak:=by
 subst hb
 have e : pw lo * (qh * af V) = qh * M:=by rw [hM,Int.mul_left_comm]
 rw [Int.mul_zero,Int.add_zero,e] at hv
 have h:=Gp (P:=0) hM0 hqq ho.1 (dh hL).1 hv
 have hq:=ho.2.2
 refine ⟨by rw [iG,← h.1]; omega,?_⟩
 rw [hr,← h.2,← jK hr hl,lR hL]
theorem IQ{V L L2 R : List Int}{W W2 : List (List D)}{N : Nat}{lo n qq : Nat}{qh M k : Int}(hM : M = pw lo * af V)(hM0 : 0 < M)(hMP : M≤pw (lo + n + 1))(hqq : (qq : Int) = af R / M)(ho : vj qq qh)(hL : Dg L)(hz : ∀ t,lo + n + 1≤t→at_ L t = 0){b : Int}
  (hb : b = 1) (hv : af L + pw lo * (qh * af V) = af R + pw (lo + n + 1) * b) (hr2 : W2 = L2.map ak) (hl2 : L2.length = R.length) (hL2 : Dg L2) (hz2 : ∀ t,lo + n + 1≤t→at_ L2 t = 0) (hk : 0≤k∧k≤1) (hv2 : af L2 + pw (lo + n + 1) * k = af L + pw lo * af V) :
  IntKind.u32.wrap (IntKind.u32.wrap qh - 1) = qq∧W2 = (wid R.length (af R % M).toNat).map ak:=by
 subst hb
 have e : pw lo * (qh * af V) = qh * M:=by rw [hM,Int.mul_left_comm]
 rw [Int.mul_one,e] at hv
 rw [← hM] at hv2
 have h1:=Ih hM0 hqq ho.2.1 ho.1 (A8 hL hz) hv
 have h2:=Ii hM0 hMP hqq h1 hv hk ⟨(dh hL2).1,A8 hL2 hz2⟩ hv2
 have hq:=ho.2.2
 refine ⟨by simp only [iG]; omega,?_⟩
 rw [hr2,← h2,← hl2,lR hL2]
set_option maxHeartbeats 2000000 in
theorem KT(V R : List Int)(VR : List (List D))(lo : Nat)(hVR : VR = V.map ak)(hn : VR.length = V.length)(hn2 : 2≤VR.length)(hn3 : VR.length≤400)(hlo : lo + VR.length + 1≤R.length)(hR : R.length≤1000)(hV : Dg V)(hRd : Dg R)(t w1 w2 x2 qq : Nat)
  (E1 : IntKind.u64.wrap (at_ V ((VR.length : Int) - 1).toNat) = (w1 : Int)) (E2 : IntKind.u64.wrap (at_ V ((VR.length : Int) - 2).toNat) = (w2 : Int)) (E3h : Hid (at_ R (lo + ((VR.length : Int) - 2).toNat) = (x2 : Int))) (hw1 : 0 < w1) (hw1b : w1 < 4294967296) (hw2 : w2 < 4294967296) (hx2 : x2 < 4294967296) (htop : t / w1≤4294967297)
  (E4 : smT (IntKind.u64.wrap (at_ R (lo + VR.length))) (at_ R (lo + ((VR.length : Int) - 1).toNat)) = (t : Int)) (hqB : qq < 4294967296) (hle : qq * (w1 * 4294967296 + w2)≤t * 4294967296 + x2) (hup : ∀ x,x * (w1 * 4294967296 + w2 + 1)≤t * 4294967296 + x2→x≤qq)
  (MM : Int) (hM : MM = pw lo * af V) (hM0 : 0 < MM) (hMP : MM≤pw (lo + VR.length + 1)) (hqq : (qq : Int) = af R / MM) (hzR : ∀ t,lo + VR.length + 1≤t→at_ R t = 0) :
  CallA Tryz.prog 375 [.one (.sub 1000000 lo (VR.length + 1)),.one (.d (.sl 1 4 VR))] [(1000000,.row 1 4 (R.map ak))] (.one (.d (.int .u32 qq))) [(1000000,.row 1 4 ((wid R.length (af R % MM).toNat).map ak))]:=by
 have hv1 : 0 < IntKind.u64.wrap (at_ V ((VR.length : Int) - 1).toNat):=by rw [E1]; omega
 have hq0 : 0≤smT (IntKind.u64.wrap (at_ R (lo + VR.length))) (at_ R (lo + ((VR.length : Int) - 1).toNat)):=by rw [E4]; omega
 have htw : (t : Int) / (w1 : Int) = ((t / w1 : Nat) : Int):=(Int.natCast_ediv t w1).symm
 have htm : (t : Int) % (w1 : Int) = ((t % w1 : Nat) : Int):=(Int.natCast_emod t w1).symm
 have hqw : IntKind.u64.wrap (smT (IntKind.u64.wrap (at_ R (lo + VR.length))) (at_ R (lo + ((VR.length : Int) - 1).toNat)) / IntKind.u64.wrap (at_ V ((VR.length : Int) - 1).toNat)) = smT (IntKind.u64.wrap (at_ R (lo + VR.length))) (at_ R (lo + ((VR.length : Int) - 1).toNat)) / IntKind.u64.wrap (at_ V ((VR.length : Int) - 1).toNat):=by
  rw [E1,E4,htw]; exact cB (Int.natCast_nonneg _) (by have h:=htop; generalize t / w1 = a at h ⊢; omega)
 have hv1b : IntKind.u64.wrap (at_ V ((VR.length : Int) - 1).toNat) < 4294967296:=by rw [E1]; omega
 refine enter ae Tryz.func375 rfl (by decide +kernel) rfl fun hok w0 σ0 φ0 M=>?_
 clear hok
 have htest : ∀ {p : Int×Int} {b : Bool},0≤p.1→0≤p.2∧p.2 < 4294967296→decide (4294967296≤p.1) = false→decide (smT p.2 (at_ R (lo + ((VR.length : Int) - 2).toNat)) < IntKind.u64.wrap (p.1 * IntKind.u64.wrap (at_ V ((VR.length : Int) - 2).toNat))) = b→decide (p.2 * 4294967296 + x2 < p.1 * w2) = b:=by
  intro p b h0 hp h1 h2
  have h1:=of_decide_eq_false h1
  have hm:=yT (x:=p.1) (y:=(w2 : Int)) (by omega) (by omega)
  have E3 : at_ R (lo + ((VR.length : Int) - 2).toNat) = (x2 : Int):=E3h
  rw [E2,E3,sP hp (by omega),cB hm.1 (by omega)] at h2
  exact h2
 repeat' (first|(refine h1H ?_; (refine xL ?_; refine s_e aq J J J (c3 J J J J J (by omega) (dJ hVR (by omega))) ?_))|(refine h3H ?_; (refine Fz ?_; first|refine d_e aq J J J (mb J J J J J J (by omega) (by omega)) ?_|refine d_e aq J J J (c3 J J J J J (by omega) (dJ hVR (by omega))) ?_))|(refine h3H ?_; (refine NW ?_; refine d_e aq J J J (ec J J J J hq0 hv1 hqw) ?_))|(refine h3H ?_; (refine Jz ?_; refine d_e aq J J J (fZ J J J J hq0 hv1) ?_))|refine wG ?_|(refine h4H ?_; first|refine ag J (fun h=>?_) (fun h=>?_)|refine b0 4 J [(0,_),(1,_),(5,_)] (q3Q J J J) (fun (p : Int×Int)=>[(7,.one (.d (.int .u64 p.1))),(8,.one (.d (.int .u64 p.2)))]) (fun (p : Int×Int)=>[(1000000,.row 1 4 (R.map ak))]) (fun (p : Int×Int)=>(0≤p.1∧p.1≤4294967297)∧(0≤p.2∧p.2 < 4294967296)∧Guess t w1 w2 x2 qq p.1.toNat p.2.toNat) (fun (p : Int×Int)=>p.1.toNat) (smT (IntKind.u64.wrap (at_ R (lo + VR.length))) (at_ R (lo + ((VR.length : Int) - 1).toNat)) / IntKind.u64.wrap (at_ V ((VR.length : Int) - 1).toNat),smT (IntKind.u64.wrap (at_ R (lo + VR.length))) (at_ R (lo + ((VR.length : Int) - 1).toNat)) % IntKind.u64.wrap (at_ V ((VR.length : Int) - 1).toNat)) (q2Q J J) wK ?_ (fun p ⟨hp1,hp2,hG⟩=>?_))|(refine h3H ?_; (refine r7 ?_; refine j9 J J (fun h=>?_) (fun h=>?_)))|(show Exists _; first|refine Exists.intro (((p.1 - 1),p.2 + IntKind.u64.wrap (at_ V ((VR.length : Int) - 1).toNat))) ⟨?_,?_,wK,(q2Q J J),(q3Q J J J)⟩|refine Exists.intro ((IntKind.u64.wrap (p.1 - 1),p.2 + IntKind.u64.wrap (at_ V ((VR.length : Int) - 1).toNat))) ⟨?_,?_,wK,(q2Q J J),(q3Q J J J)⟩))
 ·show (0≤_ / _∧_ / _≤_)∧(0≤_ % _∧_ % _ < _)∧Guess t w1 w2 x2 qq (Int.toNat (_ / _)) (Int.toNat (_ % _))
  rw [E1,E4,htw,htm]
  have h1 : t % w1 < w1:=Nat.mod_lt _ hw1
  refine ⟨by generalize t / w1 = a at htop ⊢; omega,by generalize t % w1 = a at h1 ⊢; omega,Ad (B:=4294967296) (by omega) hw1 hw2 hx2 hle⟩
 rename_i h1 h2
 have st:=lM hp1 hp2 hG hqB hle (.inr (of_decide_eq_true (htest hp1.1 hp2 h1 h2)))
 have out:=Bi hp1 st hw2 (by have h:=of_decide_eq_true h; rw [E1] at h; exact h) hqB hup
 have e : IntKind.u64.wrap (p.1 - 1) = p.1 - 1:=cB (by omega) (by omega)
 rw [← e] at out
 generalize IntKind.u64.wrap (p.1 - 1) = qh at out ⊢
 clear h1 h2 h e st
 rotate_left
 ·rename_i h1 h2
  have st:=lM hp1 hp2 hG hqB hle (.inr (of_decide_eq_true (htest hp1.1 hp2 h1 h2)))
  have e : IntKind.u64.wrap (p.1 - 1) = p.1 - 1:=cB (by omega) (by omega)
  show (0≤_∧_≤_)∧(0≤p.2 + IntKind.u64.wrap _∧p.2 + IntKind.u64.wrap _ < _)∧Guess t w1 w2 x2 qq (IntKind.u64.wrap (p.1 - 1)).toNat (p.2 + IntKind.u64.wrap _).toNat
  have h:=of_decide_eq_false h
  rw [E1] at h ⊢
  rw [e]
  exact Bh hp1 st hp2.1 (by omega)
 ·rename_i h1 h2
  have st:=lM hp1 hp2 hG hqB hle (.inr (of_decide_eq_true (htest hp1.1 hp2 h1 h2)))
  have e : IntKind.u64.wrap (p.1 - 1) = p.1 - 1:=cB (by omega) (by omega)
  show (IntKind.u64.wrap (p.1 - 1)).toNat < p.1.toNat
  omega
 rename_i h1
 have out:=iOx hp1 hp2 hG hw1 (by have:=of_decide_eq_false h1; omega) (by have:=of_decide_eq_false (htest hp1.1 hp2 h1 h); omega) hup
 generalize p.1 = qh at out ⊢
 clear h1 h
 rotate_left
 rename_i h1
 have st:=lM hp1 hp2 hG hqB hle (.inl (by simpa using h1))
 have out:=Bi hp1 st hw2 (by have h:=of_decide_eq_true h; rw [E1] at h; exact h) hqB hup
 generalize p.1 - 1 = qh at out ⊢
 clear h1 h st
 rotate_left
 ·rename_i h1
  have st:=lM hp1 hp2 hG hqB hle (.inl (by simpa using h1))
  show (0≤_∧_≤_)∧(0≤p.2 + IntKind.u64.wrap _∧p.2 + IntKind.u64.wrap _ < _)∧Guess t w1 w2 x2 qq (p.1 - 1).toNat (p.2 + IntKind.u64.wrap _).toNat
  have h:=of_decide_eq_false h
  rw [E1] at h ⊢
  exact Bh hp1 st hp2.1 (by omega)
 ·rename_i h1
  have st:=lM hp1 hp2 hG hqB hle (.inl (by simpa using h1))
  show (p.1 - 1).toNat < p.1.toNat
  omega
 all_goals clear hp1 hp2 hG htest hq0 hqw hv1 hv1b
 all_goals have top : ∀ r : Nat×Int×Int×List Int×List (List D),r.1≤VR.length→VR.length≤r.1→r.2.2.2.2 = r.2.2.2.1.map ak→r.2.2.2.2.length = R.length→Dg r.2.2.2.1→(0≤r.2.1∧r.2.1≤1)→(0≤r.2.2.1∧r.2.2.1 < 4294967296)→(∀ t,lo + VR.length + 1≤t→at_ r.2.2.2.1 t = 0)→af r.2.2.2.1 + pw lo * (qh * af (V.take r.1)) = af R + pw (lo + r.1) * (r.2.1 + r.2.2.1)→_ :=
  fun r h1 h2 hr hl hL hb hc hz hv=>Kl hn.symm hlo hr hl hL hb hc hz (by rw [show r.1 = VR.length from Nat.le_antisymm h1 h2] at hv; exact hv)
 repeat' (first|(refine h1H ?_; (refine xL ?_; first|refine s_e aq J J J (mb J J J J J J (by omega) (by omega)) ?_|refine s_e aq J J J (c3 J J J J J wB (dJ hVR wB)) ?_))|(refine h1H ?_; (refine h0H ?_; first|refine aa J J J J J J J J (BN _ _ _ (hL.at (Nat.lt_of_lt_of_le (show lo + r.1 < R.length from (by omega)) (Nat.le_of_eq (jK hr hl).symm))) (QO _) hb) J ?_|refine aa J J J J J J J J (BN _ _ _ (hL.at (Nat.lt_of_lt_of_le (show lo + VR.length < R.length from (by omega)) (Nat.le_of_eq (jK hr hl).symm))) hc hb) J ?_))|(refine h3H ?_; (refine Fz ?_; first|refine d_e aq J J J (mb J J J J J J (by omega) (by omega)) ?_|refine d_e aq J J J (c3 J J J J J wB (dJ hVR wB)) ?_))|(refine h3H ?_; (refine h2H ?_; refine d_l J J (aA J J J J J J (xZ _ _ _ (hL4.at (Nat.lt_of_lt_of_le (show lo + w.1 < R.length from wB) (Nat.le_of_eq (jK hr4 hl4).symm))) (hV.at (Nat.lt_of_lt_of_le (show w.1 < VR.length from wB) (Nat.le_of_eq hn))) hb4) J) ?_))|refine wG ?_|(refine h4H ?_; first|refine ag J (fun h=>?_) (fun h=>?_)|refine b0 21 J [(0,_),(1,_),(5,_),(7,_),(127,_)] (q5Q J J J J J) (fun (w : Nat×Int×List Int×List (List D))=>[(128,.one (.d (.int .i64 (w.1 : Int)))),(12,.one (.d (.int .u32 w.2.1)))]) (fun (w : Nat×Int×List Int×List (List D))=>[(1000000,.row 1 4 w.2.2.2)]) (fun (w : Nat×Int×List Int×List (List D))=>w.1≤VR.length∧w.2.2.2 = w.2.2.1.map ak∧w.2.2.2.length = R.length∧Dg w.2.2.1∧(0≤w.2.1∧w.2.1≤1)∧(∀ t,lo + VR.length + 1≤t→at_ w.2.2.1 t = 0)∧af w.2.2.1 + pw (lo + w.1) * w.2.1 = af (r.2.2.2.1.set (lo + VR.length) ((at_ r.2.2.2.1 (lo + VR.length) - r.2.2.1 - r.2.1) % 4294967296)) + pw lo * af (V.take w.1)) (fun (w : Nat×Int×List Int×List (List D))=>VR.length - w.1) (0,0,r.2.2.2.1.set (lo + VR.length) ((at_ r.2.2.2.1 (lo + VR.length) - r.2.2.1 - r.2.1) % 4294967296),r.2.2.2.2.set (lo + VR.length) [.int .u32 ((at_ r.2.2.2.1 (lo + VR.length) - r.2.2.1 - r.2.1) % 4294967296)]) (q2Q J J) wK ?_ (fun w ⟨hj4,hr4,hl4,hL4,hb4,hz4,hv4⟩=>?_)|refine b0 10 J [(0,_),(1,_),(5,_),(7,_),(79,_)] (q5Q J J J J J) (fun (r : Nat×Int×Int×List Int×List (List D))=>[(80,.one (.d (.int .i64 (r.1 : Int)))),(9,.one (.d (.int .u32 r.2.1))),(10,.one (.d (.int .u64 r.2.2.1)))]) (fun (r : Nat×Int×Int×List Int×List (List D))=>[(1000000,.row 1 4 r.2.2.2.2)]) (fun (r : Nat×Int×Int×List Int×List (List D))=>r.1≤VR.length∧r.2.2.2.2 = r.2.2.2.1.map ak∧r.2.2.2.2.length = R.length∧Dg r.2.2.2.1∧(0≤r.2.1∧r.2.1≤1)∧(0≤r.2.2.1∧r.2.2.1 < 4294967296)∧(∀ t,lo + VR.length + 1≤t→at_ r.2.2.2.1 t = 0)∧af r.2.2.2.1 + pw lo * (qh * af (V.take r.1)) = af R + pw (lo + r.1) * (r.2.1 + r.2.2.1)) (fun (r : Nat×Int×Int×List Int×List (List D))=>VR.length - r.1) (0,0,0,R,R.map ak) (q3Q J J J) wK ?_ (fun r ⟨hj,hr,hl,hL,hb,hc,hz,hv⟩=>?_))|(show Exists _; first|refine Exists.intro ((r.1 + 1,(if at_ r.2.2.2.1 (lo + r.1) < IntKind.u32.wrap (mdT r.2.2.1 qh (at_ V r.1)) + r.2.1 then 1 else 0),(mdT r.2.2.1 qh (at_ V r.1)).fdiv (2 ^ min (Int.toNat 32) IntKind.u64.bits),r.2.2.2.1.set (lo + r.1) ((at_ r.2.2.2.1 (lo + r.1) - IntKind.u32.wrap (mdT r.2.2.1 qh (at_ V r.1)) - r.2.1) % 4294967296),r.2.2.2.2.set (lo + r.1) [.int .u32 ((at_ r.2.2.2.1 (lo + r.1) - IntKind.u32.wrap (mdT r.2.2.1 qh (at_ V r.1)) - r.2.1) % 4294967296)])) ⟨?_,?_,wK,(q3Q J J J),(q5Q J J J J J)⟩|refine Exists.intro ((w.1 + 1,(at_ w.2.2.1 (lo + w.1) + at_ V w.1 + w.2.1) / 4294967296,w.2.2.1.set (lo + w.1) ((at_ w.2.2.1 (lo + w.1) + at_ V w.1 + w.2.1) % 4294967296),w.2.2.2.set (lo + w.1) [.int .u32 ((at_ w.2.2.1 (lo + w.1) + at_ V w.1 + w.2.1) % 4294967296)])) ⟨?_,?_,wK,(q2Q J J),(q5Q J J J J J)⟩))
 all_goals first
  | exact ⟨Nat.zero_le _,rfl,by simp,hRd,⟨Int.le_refl _,by show (0 : Int)≤1; omega⟩,⟨Int.le_refl _,by show (0 : Int) < 4294967296; omega⟩,hzR,by
    show af R + pw lo * (qh * af (V.take 0)) = af R + pw (lo + 0) * (0 + 0)
    rw [List.take_zero]; simp [af]⟩
  | exact If hV out.2.2 hn.symm (by simpa using h) hlo hr hl hL hb hc hz hv
  | (have hlt : r.1 < VR.length:=by simpa using h
     show VR.length - (r.1 + 1) < VR.length - r.1
     omega)
  | (obtain ⟨t1,t2,t3,t4,t5⟩:=top r hj (by simpa using ‹decide ((r.1 : Int) < (VR.length : Int)) = false›) hr hl hL hb hc hz hv
     exact ⟨Nat.zero_le _,t1,t2,t3,⟨Int.le_refl _,by show (0 : Int)≤1; omega⟩,t4,by
      show _ + pw (lo + 0) * 0 = _ + pw lo * af (V.take 0)
      rw [List.take_zero]; simp [af]⟩)
  | exact Ig hV hn.symm (by simpa using h) hlo hr4 hl4 hL4 hb4 hz4 hv4
  | (have hlt : w.1 < VR.length:=by simpa using h
     show VR.length - (w.1 + 1) < VR.length - w.1
     omega)
  | (obtain ⟨t1,t2,t3,t4,t5⟩:=top r hj (by simpa using ‹decide ((r.1 : Int) < (VR.length : Int)) = false›) hr hl hL hb hc hz hv
     obtain ⟨f1,f2⟩:=IP (N:=0) hM hM0 hqq out t1 t2 t3 (eq_of_beq ‹((if at_ r.2.2.2.1 (lo + (VR.length : Int).toNat) < r.2.2.1 + r.2.1 then (1 : Int) else 0) == 0) = true›) t5
     exact ja (.inl rfl) rfl rfl (congrArg (fun x=>AV.one (.d (.int .u32 x))) f1) (ai (congrArg (fun x=>some (AObj.row 1 4 x)) f2) aT))
  | (obtain ⟨t1,t2,t3,t4,t5⟩:=top r hj (by simpa using ‹decide ((r.1 : Int) < (VR.length : Int)) = false›) hr hl hL hb hc hz hv
     have ew : w.1 = VR.length:=Nat.le_antisymm hj4 (by simpa using h)
     rw [ew] at hv4
     obtain ⟨u1,u2,u3,u4,k,u5,u6,u7⟩:=Km hn.symm hlo hr4 hl4 hL4 hb4 hz4 hv4
     obtain ⟨f1,f2⟩:=IQ (W:=[]) (N:=0) hM hM0 hMP hqq out t3 t4 (ifb ‹((if at_ r.2.2.2.1 (lo + (VR.length : Int).toNat) < r.2.2.1 + r.2.1 then (1 : Int) else 0) == 0) = false›) t5 u1 u2 u3 u4 ⟨u5,u6⟩ u7
     exact ja (.inl rfl) rfl rfl (congrArg (fun x=>AV.one (.d (.int .u32 x))) f1) (ai (congrArg (fun x=>some (AObj.row 1 4 x)) f2) aT))
  | skip
end Go.Proofs.YtpejdgkaapnekaaGreat
namespace Go.Proofs.YtpejdgkaapnekaaGreat
open Go Go.Abs
theorem Dr{V : List Int}{n : Nat}(hn : V.length = n + 2) : af V = af (V.take n) + pw n * (at_ V n + 4294967296 * at_ V (n + 1)):=by
 have h1:=bm (l:=V) (k:=n + 1) (by omega)
 have h2:=bm (l:=V) (k:=n) (by omega)
 rw [show n + 1 + 1 = V.length by omega,List.take_length,h2,c5] at h1
 rw [h1,Int.mul_add,← Int.mul_assoc,Int.mul_comm (pw n) 4294967296]
 omega
theorem Ds{R : List Int}{k : Nat}(h : k + 2 < R.length)(hz : ∀ t,k + 3≤t→at_ R t = 0) : af R = af (R.take k) + pw k * (at_ R k + 4294967296 * (at_ R (k + 1) + 4294967296 * at_ R (k + 2))):=by
 have h0 : af R = af (R.take (k + 3)):=by
  have e : af R = af (R.take (k + 3)) + pw (R.take (k + 3)).length * af (R.drop (k + 3)):=by rw [← jT,List.take_append_drop]
  have e2 : ∀ (m : List Int),(∀ t,at_ m t = 0)→af m = 0:=by
   intro m
   induction m with
   | nil=>intro _; rfl
   | cons d r ih =>
     intro hm
     have h0 : d = 0:=hm 0
     have h1:=ih (fun t=>hm (t + 1))
     simp only [af,h0,h1]; rfl
  rw [e2 (R.drop (k + 3)) (fun t=>by
   have:=hz (k + 3 + t) (by omega)
   simp only [at_,List.getD_eq_getElem?_getD,List.getElem?_drop] at this ⊢
   exact this)] at e
  omega
 have h1:=bm (l:=R) (k:=k + 2) (by omega)
 have h2:=bm (l:=R) (k:=k + 1) (by omega)
 have h3:=bm (l:=R) (k:=k) (by omega)
 rw [show k + 2 + 1 = k + 3 by omega] at h1
 rw [show k + 1 + 1 = k + 2 by omega] at h2
 rw [h0,h1,h2,h3,show pw (k + 2) = 4294967296 * (4294967296 * pw k) by rw [c5,c5],c5 k,Int.mul_add,Int.mul_add,Int.mul_add]
 have e1 : 4294967296 * pw k * at_ R (k + 1) = pw k * (4294967296 * at_ R (k + 1)):=by rw [Int.mul_comm 4294967296 (pw k),Int.mul_assoc]
 have e2 : 4294967296 * (4294967296 * pw k) * at_ R (k + 2) = pw k * (4294967296 * (4294967296 * at_ R (k + 2))):=by
  rw [← Int.mul_assoc 4294967296 4294967296,Int.mul_comm _ (pw k),Int.mul_assoc,← Int.mul_assoc 4294967296 4294967296]
 rw [e1,e2]
 omega
theorem KS{a b : Nat}(h : a≤b) : pw a≤pw b:=by
 obtain ⟨m,rfl⟩ : ∃ m,b = a + m:=⟨b - a,by omega⟩
 rw [gF]
 have:=Int.mul_le_mul_of_nonneg_left (show 1≤pw m by have:=ez m; omega) (Int.le_of_lt (ez a))
 omega
theorem Mp(V R : List Int)(lo m : Nat)(hn : V.length = m + 2)(hn3 : V.length≤400)(hlo : lo + V.length + 1≤R.length)(hR : R.length≤1000)(hV : Dg V)(hRd : Dg R)(htop : 2147483648≤at_ V (m + 1))(hlt : af R < pw (lo + 1) * af V) :
  CallA Tryz.prog 375 [.one (.sub 1000000 lo (V.length + 1)),.one (.d (cy V))] [(1000000,.row 1 4 (R.map ak))] (.one (.d (.int .u32 (af R / (pw lo * af V))))) [(1000000,.row 1 4 ((wid R.length (af R % (pw lo * af V)).toNat).map ak))]:=by
 have hVb:=dh hV
 have hv2:=Dr hn
 have hRb:=dh hRd
 have hw1:=hV.at (i:=m + 1) (by omega)
 have hw2:=hV.at (i:=m) (by omega)
 have hlt2 : af R < pw (lo + V.length + 1):=by
  refine Int.lt_of_lt_of_le hlt ?_
  rw [show lo + V.length + 1 = (lo + 1) + V.length by omega,gF (lo + 1)]
  exact Int.mul_le_mul_of_nonneg_left (Int.le_of_lt hVb.2) (Int.le_of_lt (ez _))
 have hzR:=lq hRd hlt2
 have hr3:=Ds (R:=R) (k:=lo + m) (by omega) (fun t ht=>hzR t (by omega))
 have hu0:=hRd.at (i:=lo + m + 2) (by omega)
 have hu1:=hRd.at (i:=lo + m + 1) (by omega)
 have hx2:=hRd.at (i:=lo + m) (by omega)
 have hR':=dh (hRd.take (lo + m))
 have hV':=dh (hV.take m)
 rw [show (R.take (lo + m)).length = lo + m by simp; omega] at hR'
 rw [show (V.take m).length = m by simp; omega] at hV'
 have hpm:=ez m
 have hpl:=ez lo
 have hMe : pw lo * af V = pw lo * af (V.take m) + pw (lo + m) * (at_ V m + 4294967296 * at_ V (m + 1)):=by rw [hv2,Int.mul_add,gF,Int.mul_assoc]
 have hMl : pw lo * af (V.take m) < pw (lo + m):=by rw [gF]; exact Int.mul_lt_mul_of_pos_left hV'.2 hpl
 have hMl0:=Int.mul_nonneg (Int.le_of_lt hpl) hV'.1
 have hlt3 : af R < pw lo * af V * 4294967296:=by rw [c5] at hlt; rw [Int.mul_comm (pw lo * af V),← Int.mul_assoc]; exact hlt
 have hP:=ez (lo + m)
 -- whole numbers
 generalize hd1 : at_ V (m + 1) = d1 at *
 generalize hd2 : at_ V m = d2 at *
 generalize hd3 : at_ R (lo + m) = d3 at *
 generalize hd4 : at_ R (lo + m + 1) = d4 at *
 generalize hd5 : at_ R (lo + m + 2) = d5 at *
 obtain ⟨w1,rfl⟩:=Int.eq_ofNat_of_zero_le hw1.1
 obtain ⟨w2,rfl⟩:=Int.eq_ofNat_of_zero_le hw2.1
 obtain ⟨x2,rfl⟩:=Int.eq_ofNat_of_zero_le hx2.1
 obtain ⟨u1,rfl⟩:=Int.eq_ofNat_of_zero_le hu1.1
 obtain ⟨u0,rfl⟩:=Int.eq_ofNat_of_zero_le hu0.1
 have hM0 : 0 < pw lo * af V:=by
  have:=Int.mul_le_mul_of_nonneg_left (show 1≤(w2 : Int) + 4294967296 * (w1 : Int) by omega) (Int.le_of_lt hP)
  omega
 have hMP : pw lo * af V≤pw (lo + V.length + 1):=by
  rw [show lo + V.length + 1 = lo + (V.length + 1) by omega,gF]
  exact Int.mul_le_mul_of_nonneg_left (Int.le_trans (Int.le_of_lt hVb.2) (KS (by omega))) (Int.le_of_lt hpl)
 obtain ⟨E,hE⟩:=Int.eq_ofNat_of_zero_le (Int.le_of_lt hP)
 obtain ⟨a,ha⟩:=Int.eq_ofNat_of_zero_le hMl0
 obtain ⟨b,hb⟩:=Int.eq_ofNat_of_zero_le hR'.1
 obtain ⟨MM,hMM⟩:=Int.eq_ofNat_of_zero_le (Int.le_of_lt hM0)
 obtain ⟨NN,hNN⟩:=Int.eq_ofNat_of_zero_le hRb.1
 have hMn : MM = (w1 * 4294967296 + w2) * E + a:=by
  have : (MM : Int) = (((w1 * 4294967296 + w2) * E + a : Nat) : Int):=by
   rw [← hMM,hMe,ha,hE]
   simp only [Int.natCast_add,Int.natCast_mul,show ((4294967296 : Nat) : Int) = 4294967296 from rfl]
   rw [Int.mul_comm (E : Int),Int.mul_comm 4294967296 (w1 : Int),Int.add_comm (w2 : Int)]
   omega
  exact Int.ofNat_inj.1 this
 have hNn : NN = ((u0 * 4294967296 + u1) * 4294967296 + x2) * E + b:=by
  have : (NN : Int) = ((((u0 * 4294967296 + u1) * 4294967296 + x2) * E + b : Nat) : Int):=by
   rw [← hNN,hr3,hb,hE]
   simp only [Int.natCast_add,Int.natCast_mul,show ((4294967296 : Nat) : Int) = 4294967296 from rfl]
   rw [Int.mul_comm (E : Int),show ((x2 : Int) + 4294967296 * ((u1 : Int) + 4294967296 * (u0 : Int))) = (((u0 : Int) * 4294967296 + (u1 : Int)) * 4294967296 + (x2 : Int)) by omega]
   omega
  exact Int.ofNat_inj.1 this
 have hEa : a < E:=by rw [ha,hE] at hMl; omega
 have hEb : b < E:=by rw [hb,hE] at hR'; omega
 have hMp : 0 < MM:=by rw [hMM] at hM0; omega
 have hNM : NN < MM * 4294967296:=by rw [hNN,hMM] at hlt3; omega
 have hqB : NN / MM < 4294967296:=Nat.div_lt_of_lt_mul hNM
 have hq1 : NN / MM * (w1 * 4294967296 + w2)≤(u0 * 4294967296 + u1) * 4294967296 + x2:=IX hMn hNn hEb (Nat.div_mul_le_self NN MM)
 have hup : ∀ x,x * (w1 * 4294967296 + w2 + 1)≤(u0 * 4294967296 + u1) * 4294967296 + x2→x≤NN / MM:=fun x hx=>(Nat.le_div_iff_mul_le hMp).2 (IY hMn hEa hNn hx)
 have hu0w : u0≤w1:=by
  refine Nat.le_of_not_lt fun hc=>?_
  have h1 : MM < (w1 + 1) * 4294967296 * E:=by
   have : (w1 * 4294967296 + w2 + 1) * E≤(w1 + 1) * 4294967296 * E:=Nat.mul_le_mul_right E (by omega)
   rw [Nat.add_mul _ 1,Nat.one_mul] at this
   omega
  have h2 : u0 * 4294967296 * 4294967296 * E≤NN:=by
   have : u0 * 4294967296 * 4294967296 * E≤((u0 * 4294967296 + u1) * 4294967296 + x2) * E:=Nat.mul_le_mul_right E (by omega)
   omega
  have h3 : (w1 + 1) * 4294967296 * 4294967296 * E≤u0 * 4294967296 * 4294967296 * E:=Nat.mul_le_mul_right E (Nat.mul_le_mul_right _ (Nat.mul_le_mul_right _ hc))
  have h4 : (w1 + 1) * 4294967296 * 4294967296 * E = (w1 + 1) * 4294967296 * E * 4294967296:=by rw [Nat.mul_right_comm]
  omega
 have hqe : (af R / (pw lo * af V)) = ((NN / MM : Nat) : Int):=by rw [hNN,hMM]; exact (Int.natCast_ediv _ _).symm
 have:=KT V R (V.map ak) lo rfl (by simp) (by simp; omega) (by simpa using hn3) (by simpa using hlo) hR hV hRd (u0 * 4294967296 + u1) w1 w2 x2 (NN / MM)
  (by rw [List.length_map,show ((V.length : Int) - 1).toNat = m + 1 by omega,hd1]; exact cB (by omega) (by omega))
  (by rw [List.length_map,show ((V.length : Int) - 2).toNat = m by omega,hd2]; exact cB (by omega) (by omega))
  (by show at_ R _ = _; rw [List.length_map,show ((V.length : Int) - 2).toNat = m by omega,hd3])
  (by omega) (by omega) (by omega) (by omega) (Dt (B:=4294967296) (by omega) hu0w (by omega) (by omega))
  (by rw [List.length_map,show ((V.length : Int) - 1).toNat = m + 1 by omega,← Nat.add_assoc,hd4,show lo + V.length = lo + m + 2 by omega,hd5,cB (v:=(u0 : Int)) (by omega) (by omega),sP (by omega) (by omega),Int.natCast_add,Int.natCast_mul]; rfl)
  hqB hq1 hup (pw lo * af V) rfl hM0 (by simpa using hMP) hqe.symm (by simpa using hzR)
 rw [hqe]
 rw [List.length_map] at this
 exact this
end Go.Proofs.YtpejdgkaapnekaaGreat
namespace Go.Proofs.YtpejdgkaapnekaaGreat
open Go Go.Abs
attribute [local irreducible] ac OkC ao ax ap aJ
set_option maxRecDepth 10000
theorem w7(v : Int)(m : Nat)(hv : v = (m : Int))(hm : m < 18446744073709551616) : CallA Tryz.prog 370 [.one (.d (.int .u64 v))] [] (.one (.d (bk m))) []:=by
 subst hv; exact Jj m hm
def cg(neg : Bool)(a b : Nat) : D:=.ptr [.bool neg,bk a,bk b]
theorem ml{b : Nat} : (decide ((0 : Int) < (((dig b).map ak).length : Int))) = decide (b≠0):=by
 by_cases h : b = 0
 ·subst h; simp [fg]
 ·rw [kn h]; simp [h]
theorem pL{b : Nat} : ((((dig b).map ak).length : Int) == 0) = decide (b = 0):=by
 by_cases h : b = 0
 ·subst h; simp [fg]
 ·rw [kn h]; simp [h]; omega
theorem Ix{v : Int}(hr : -9223372036854775808≤v∧v≤9223372036854775807)(h : v < 0) : IntKind.u64.wrap (0 - IntKind.u64.wrap v) = (v.natAbs : Int):=by
 show (0 - v % 18446744073709551616) % 18446744073709551616 = _
 omega
theorem Iy{v : Int}(h : ¬ v < 0) : v = (v.natAbs : Int):=by omega
theorem Qw(v : Int) : CallA Tryz.prog 354 [.one (.d (.int .i64 v))] [] (.one (.d (bk v.natAbs))) []:=by
 refine enter ae Tryz.func354 rfl (by decide +kernel) rfl fun hok w0 σ0 φ0 M=>?_
 have hr:=OkD.i64 hok.1
 have hb : v.natAbs < 18446744073709551616:=by omega
 clear hok
 repeat' (first|(refine h1H ?_; (refine h0H ?_; first|refine aw 16 J J J J J J J J (w7 _ v.natAbs (Ix hr (of_decide_eq_true h)) hb) J J J ?_|refine aw 16 J J J J J J J J (w7 _ v.natAbs (Iy (of_decide_eq_false h)) hb) J J J ?_))|refine wG ?_|(refine h4H ?_; refine ag J (fun h=>?_) (fun h=>?_)))
 all_goals rfl
theorem oJ(neg : Bool)(a b : Nat) : CallA Tryz.prog 351 [.one (.d (cg neg a b))] [] (.one (.d (.bool (decide (b≠0))))) []:=by
 refine enter ae Tryz.func351 rfl (by decide +kernel) rfl fun hok w0 σ0 φ0 M=>?_
 clear hok
 repeat' (first|refine wG ?_)
 all_goals rw [ml]
theorem Qu(neg : Bool)(a b : Nat) : CallA Tryz.prog 385 [.one (.d (cg neg a b))] [] (.one (.d (.int .i64 (if b = 0∨a = 0 then 0 else if neg then -1 else 1)))) []:=by
 refine enter ae Tryz.func385 rfl (by decide +kernel) rfl fun hok w0 σ0 φ0 M=>?_
 clear hok
 repeat' (first|(refine h1H ?_; (refine h0H ?_; refine aa J J J J J J J J (oJ _ _ _) J ?_))|refine wG ?_|(refine h1H ?_; (refine h5H ?_; refine aG J J J J (fun h=>?_) (fun h=>?_)))|(refine h4H ?_; refine ag J (fun h=>?_) (fun h=>?_)))
 all_goals (try rw [pL] at *)
 all_goals simp_all
theorem Qx(k num den : Int)(str : List UInt8) : CallA Tryz.prog 314 [.agg [.d (.int .i64 k),.d (.int .i64 num),.d (.int .i64 den),.d (.str str)]] [] (.one (.d (cg (decide (num < 0)) num.natAbs den.natAbs))) []:=by
 refine enter ae Tryz.func314 rfl (by decide +kernel) rfl fun hok w0 σ0 φ0 M=>?_
 clear hok
 repeat' (first|(refine h4H ?_; refine bu (bR (dl:=[1]) J) (cv ?_))|(refine h3H ?_; (refine h2H ?_; refine bh 16 J J J J J J J J (Qw _) J J ?_))|refine wG ?_)
 all_goals rfl
theorem Iz{n : Nat}(h : n < 18446744073709551616) : (dig n).length≤2:=by
 by_cases h0 : n = 0
 ·subst h0; simp [fg]
 ·rw [kn h0]
  by_cases h1 : n / 4294967296 = 0
  ·rw [h1,fg]; simp
  ·rw [kn h1,show n / 4294967296 / 4294967296 = 0 by omega,fg]; simp
def uX(a d : Int)(k : Nat) : Int:=IntKind.u64.wrap ((BitVec.ofInt IntKind.u64.bits a ||| BitVec.ofInt IntKind.u64.bits (IntKind.u64.wrap (IntKind.u64.wrap d * 2 ^ min (32 * (k : Int)).toNat IntKind.u64.bits))).toNat : Int)
theorem Kz{d : Int}(hd : 0≤d∧d < 4294967296) : uX 0 d 0 = d:=by
 obtain ⟨b,rfl⟩:=Int.eq_ofNat_of_zero_le hd.1
 unfold uX
 rw [show (IntKind.u64.wrap (b : Int) * 2 ^ min (32 * ((0 : Nat) : Int)).toNat IntKind.u64.bits) = IntKind.u64.wrap (b : Int) * 1 from rfl,Int.mul_one,cB (v:=(b : Int)) (by omega) (by omega),cB (v:=(b : Int)) (by omega) (by omega)]
 have h:=uY (a:=0) (b:=b) (by omega) (by omega)
 simp only [Int.natCast_zero,Int.zero_mul,Nat.zero_mul,Nat.zero_add] at h
 rw [show ((BitVec.ofInt IntKind.u64.bits 0 ||| BitVec.ofInt IntKind.u64.bits (b : Int)).toNat) = b from h,cB (by omega) (by omega)]
theorem KA{a d : Int}(ha : 0≤a∧a < 4294967296)(hd : 0≤d∧d < 4294967296) : uX a d 1 = a + 4294967296 * d:=by
 obtain ⟨b,rfl⟩:=Int.eq_ofNat_of_zero_le hd.1
 obtain ⟨c,rfl⟩:=Int.eq_ofNat_of_zero_le ha.1
 unfold uX
 rw [show (IntKind.u64.wrap (b : Int) * 2 ^ min (32 * ((1 : Nat) : Int)).toNat IntKind.u64.bits) = IntKind.u64.wrap (b : Int) * 4294967296 from rfl,cB (v:=(b : Int)) (by omega) (by omega),cB (v:=(b : Int) * 4294967296) (by omega) (by omega)]
 have h:=uY (a:=b) (b:=c) (by omega) (by omega)
 rw [BitVec.or_comm] at h
 rw [show ((BitVec.ofInt IntKind.u64.bits (c : Int) ||| BitVec.ofInt IntKind.u64.bits ((b : Int) * 4294967296)).toNat) = b * 4294967296 + c from h,cB (by omega) (by omega)]
 omega
theorem Lx(n : Nat)(hn : n≤1099511627776) : CallA Tryz.prog 352 [.one (.d (bk n))] [] (.tup [(false,[.d (.int .i64 n)]),(false,[.d (.bool true)])]) []:=by
 have hl:=Iz (n:=n) (by omega)
 have hc : decide ((0 : Int) < gU n 1099511627776) = false:=by
  refine decide_eq_false ?_
  rcases Nat.lt_or_ge n 1099511627776 with h | h
  ·rw [iu h]; omega
  ·rw [kc (by omega)]; omega
 refine enter ae Tryz.func352 rfl (by decide +kernel) rfl fun hok w0 σ0 φ0 M=>?_
 clear hok
 repeat' (first|(refine h1H ?_; (refine h0H ?_; first|refine aa J J J J J J J J (uu _ _) J ?_|refine aw 16 J J J J J J J J (w7 1099511627776 1099511627776 J (by omega)) J J J ?_))|refine wG ?_|(refine h4H ?_; first|refine ag J (fun h=>?_) (fun h=>?_)|refine aB 5 J [(11,_),(12,_)] (q2Q J J) (fun (p : Nat×Int)=>[(13,.one (.d (.int .i64 (p.1 : Int)))),(4,.one (.d (.int .u64 p.2)))]) (fun (p : Nat×Int)=>p.1≤(dig n).length∧p.2 = af ((dig n).take p.1)) (fun (p : Nat×Int)=>(dig n).length - p.1) (0,0) (q2Q J J) ?_ (fun p ⟨hk,hv⟩=>?_))|(show Exists _; refine Exists.intro ((p.1 + 1,uX p.2 (at_ (dig n) p.1) p.1)) ⟨?_,?_,wK,(q2Q J J),(q2Q J J)⟩))
 ·exact ⟨Nat.zero_le _,by simp [af]⟩
 ·have hlt : p.1 < (dig n).length:=by simpa using h
  refine ⟨hlt,?_⟩
  obtain ⟨hD,hV,_⟩:=cm n
  show uX p.2 (at_ (dig n) p.1) p.1 = af ((dig n).take (p.1 + 1))
  rw [bm hlt]
  have hc01 : p.1 = 0∨p.1 = 1:=by omega
  obtain ⟨k,a⟩:=p
  rcases hc01 with e | e
  ·subst e
   simp only at hv ⊢
   rw [hv,List.take_zero]
   simp only [af]
   rw [Kz (hD.at hlt),lK]
   show at_ (dig n) 0 = 0 + 1 * at_ (dig n) 0
   omega
  ·subst e
   simp only at hv ⊢
   have h0 : 0 < (dig n).length:=Nat.lt_trans Nat.zero_lt_one hlt
   have e1 : af ((dig n).take 1) = at_ (dig n) 0:=by
    rw [bm h0,List.take_zero,lK]; simp [af]
   rw [hv,e1,KA (hD.at h0) (hD.at hlt)]
   rfl
 ·have hlt : p.1 < (dig n).length:=by simpa using h
  show (dig n).length - (p.1 + 1) < (dig n).length - p.1
  omega
 ·have hge : (dig n).length≤p.1:=by simpa using h
  rw [List.take_of_length_le hge,(cm n).2.1] at hv
  rw [hv,gf (by omega) (by omega)]
theorem Ly(n : Nat)(hn : ¬ n≤1099511627776) : CallA Tryz.prog 352 [.one (.d (bk n))] [] (.tup [(false,[.d (.int .i64 0)]),(false,[.d (.bool false)])]) []:=by
 have hc : decide ((0 : Int) < gU n 1099511627776) = true:=by
  refine decide_eq_true ?_
  rw [iv (by omega)]; omega
 refine enter ae Tryz.func352 rfl (by decide +kernel) rfl fun hok w0 σ0 φ0 M=>?_
 clear hok
 repeat' (first|(refine h1H ?_; (refine h0H ?_; first|refine aa J J J J J J J J (uu _ _) J ?_|refine aw 16 J J J J J J J J (w7 1099511627776 1099511627776 J (by omega)) J J J ?_))|refine wG ?_)
 all_goals rfl
def dl(n : Nat) : Nat:=(dig n).length
theorem jj{m n : Nat}(h : m≤n) : dl m≤dl n:=by
 refine Nat.le_of_not_lt fun hc=>?_
 have:=mT hc; omega
def l7 : Prop:=∀ m n : Nat,n≠0→dl m≤100→dl n≤100→CallA Tryz.prog 355 [.one (.d (bk m)),.one (.d (bk n))] [] (.tup [(false,[.d (bk (m / n))]),(false,[.d (bk (m % n))])]) []
theorem qU{b : Nat}(h : decide ((0 : Int) < (((dig b).map ak).length : Int)) = true) : b≠0:=by rw [ml] at h; exact of_decide_eq_true h
theorem zh{b : Nat}(h : decide ((0 : Int) < (((dig b).map ak).length : Int)) = false) : b = 0:=by rw [ml] at h; exact Decidable.not_not.1 (of_decide_eq_false h)
theorem QB(hD : l7)(m n : Nat)(hm : dl m≤100)(hn : dl n≤100) : CallA Tryz.prog 378 [.one (.d (bk m)),.one (.d (bk n))] [] (.one (.d (bk (Nat.gcd m n)))) []:=by
 refine enter ae Tryz.func378 rfl (by decide +kernel) rfl fun hok w0 σ0 φ0 M=>?_
 clear hok
 repeat' (first|(refine h1H ?_; (refine h0H ?_; refine aw 16 J J J J J J J J (hD _ _ (qU h) hb1 hb2) J J J ?_))|refine wG ?_|(refine h4H ?_; first|refine ag J (fun h=>?_) (fun h=>?_)|refine aB 1 J [] aT (fun (p : Nat×Nat)=>[(0,.one (.d (bk p.1))),(1,.one (.d (bk p.2)))]) (fun (p : Nat×Nat)=>Nat.gcd p.1 p.2 = Nat.gcd m n∧dl p.1≤100∧dl p.2≤100) (fun (p : Nat×Nat)=>p.2) (m,n) (q2Q J J) ?_ (fun p ⟨hg,hb1,hb2⟩=>?_))|(show Exists _; refine Exists.intro ((p.2,p.1 % p.2)) ⟨?_,?_,wK,(q2Q J J),aT⟩))
 ·exact ⟨rfl,hm,hn⟩
 ·have hp : p.2≠0:=qU h
  refine ⟨?_,hb2,Nat.le_trans (jj (Nat.le_of_lt (Nat.mod_lt _ (Nat.pos_of_ne_zero hp)))) hb2⟩
  show Nat.gcd p.2 (p.1 % p.2) = _
  rw [← hg,Nat.gcd_comm p.1 p.2]
  conv=>rhs; rw [Nat.gcd_rec,Nat.gcd_comm]
 ·exact Nat.mod_lt _ (Nat.pos_of_ne_zero (qU h))
 ·have e:=zh h
  rw [← hg,e,Nat.gcd_zero_right]
theorem yx{m n : Nat} : decide (m / Nat.gcd m n≠0) = decide (m≠0):=by
 by_cases h : m = 0
 ·subst h; simp
 ·have hp:=Nat.pos_of_ne_zero h
  have hd : m / Nat.gcd m n≠0:=Nat.ne_of_gt (Nat.div_pos (Nat.le_of_dvd hp (Nat.gcd_dvd_left m n)) (Nat.gcd_pos_of_pos_left n hp))
  simp [h,hd]
theorem BZ(hD : l7)(neg : Bool)(m n : Nat)(hm : dl m≤100)(hn : dl n≤100)(hn0 : n≠0) : CallA Tryz.prog 360 [.one (.d (.bool neg)),.one (.d (bk m)),.one (.d (bk n))] [] (.one (.d (cg (neg && decide (m≠0)) (m / Nat.gcd m n) (n / Nat.gcd m n)))) []:=by
 have hg0 : Nat.gcd m n≠0:=fun h=>hn0 (Nat.eq_zero_of_gcd_eq_zero_right h)
 have hgb : dl (Nat.gcd m n)≤100:=Nat.le_trans (jj (Nat.le_of_dvd (Nat.pos_of_ne_zero hn0) (Nat.gcd_dvd_right m n))) hn
 refine enter ae Tryz.func360 rfl (by decide +kernel) rfl fun hok w0 σ0 φ0 M=>?_
 clear hok
 repeat' (first|(refine h1H ?_; (refine h0H ?_; first|refine aa J J J J J J J J (Qy _) J ?_|refine aw 16 J J J J J J J J (QB hD _ _ hm hn) J J J ?_|refine aw 16 J J J J J J J J (hD _ _ hg0 hm hgb) J J J ?_|refine aw 16 J J J J J J J J (hD _ _ hg0 hn hgb) J J J ?_))|(refine h4H ?_; refine bu (bR (dl:=[0]) J) (cv ?_))|refine wG ?_|(refine h1H ?_; (refine h5H ?_; refine aG J J J J (fun h=>?_) (fun h=>?_)))|(refine h4H ?_; refine ag J (fun h=>?_) (fun h=>?_)))
 ·show AV.one (.d (cg (decide ((0 : Int) < (((dig (m / Nat.gcd m n)).map ak).length : Int))) (m / Nat.gcd m n) (n / Nat.gcd m n))) = _
  rw [ml,h,Bool.true_and,yx]
 ·have h' : neg = false:=h
  subst h'; rfl
 ·have hg1 : Nat.gcd m n = 1:=by simpa using ‹(!Nat.gcd m n == 1) = false›
  show AV.one (.d (cg (decide ((0 : Int) < (((dig m).map ak).length : Int))) m n)) = _
  rw [ml,h,Bool.true_and,hg1,Nat.div_one,Nat.div_one]
 ·have hg1 : Nat.gcd m n = 1:=by simpa using ‹(!Nat.gcd m n == 1) = false›
  have h' : neg = false:=h
  subst h'
  rw [hg1,Nat.div_one,Nat.div_one]; rfl
def yu(neg : Bool)(m n : Nat) : D:=cg (neg && decide (m≠0)) (m / Nat.gcd m n) (n / Nat.gcd m n)
def oI(s1 : Bool)(a1 b1 : Nat)(s2 : Bool)(a2 b2 : Nat)(minus : Bool) : D :=
 if (s1 == (!(s2 == minus))) = true then yu (!(s2 == minus)) (a1 * b2 + a2 * b1) (b1 * b2) else if a2 * b1≤a1 * b2 then yu s1 (a1 * b2 - a2 * b1) (b1 * b2) else yu (!(s2 == minus)) (a2 * b1 - a1 * b2) (b1 * b2)
theorem tx{m n : Nat}(h : decide ((0 : Int)≤gU m n) = true) : n≤m:=by
 refine Nat.le_of_not_lt fun hc=>?_
 have:=of_decide_eq_true h
 rw [iu hc] at this; omega
theorem tz{m n : Nat}(h : decide ((0 : Int)≤gU m n) = false) : m < n:=by
 refine Nat.lt_of_not_le fun hc=>?_
 have:=of_decide_eq_false h
 rcases Nat.lt_or_ge n m with h2 | h2
 ·rw [iv h2] at this; omega
 ·rw [kc (by omega)] at this; omega
set_option maxHeartbeats 1000000 in
theorem Og(hD : l7)(s1 : Bool)(a1 b1 : Nat)(s2 : Bool)(a2 b2 : Nat)(minus : Bool)(h1 : b1≠0)(h2 : b2≠0)(l1 : (dig a1).length≤400)(l2 : (dig b1).length≤400)(l3 : (dig a2).length≤400)(l4 : (dig b2).length≤400)
  (m1 : (dig (a1 * b2)).length≤400) (m2 : (dig (a2 * b1)).length≤400) (m3 : dl (b1 * b2)≤100) (m4 : dl (a1 * b2 + a2 * b1)≤100) (m5 : dl (a1 * b2 - a2 * b1)≤100) (m6 : dl (a2 * b1 - a1 * b2)≤100) :
  CallA Tryz.prog 359 [.one (.d (cg s1 a1 b1)),.one (.d (cg s2 a2 b2)),.one (.d (.bool minus))] [] (.one (.d (oI s1 a1 b1 s2 a2 b2 minus))) []:=by
 have hb12 : b1 * b2≠0:=Nat.mul_ne_zero h1 h2
 have v1 : decide (b1≠0) = true:=by simp [h1]
 have v2 : decide (b2≠0) = true:=by simp [h2]
 refine enter ae Tryz.func359 rfl (by decide +kernel) rfl fun hok w0 σ0 φ0 M=>?_
 clear hok
 repeat' (first|(refine h1H ?_; (refine h0H ?_; first|refine aa J J J J J J J J (oJ _ _ _) J ?_|refine aa J J J J J J J J (uu _ _) J ?_|refine aw 16 J J J J J J J J (Jq _ _ (by omega) (by omega)) J J J ?_|refine aw 16 J J J J J J J J (KI _ _ (by omega) (Nat.le_of_lt (tz h))) J J J ?_|refine aw 16 J J J J J J J J (BZ hD _ _ _ (by omega) (by omega) hb12) J J J ?_))|(refine h3H ?_; (refine h2H ?_; first|refine bh 16 J J J J J J J J (yw _ _ (by omega) (by omega)) J J ?_|refine bh 16 J J J J J J J J (KI _ _ (by omega) (tx h)) J J ?_|refine bh 16 J J J J J J J J (BZ hD _ _ _ (by omega) (by omega) hb12) J J ?_))|refine wG ?_|(refine h1H ?_; (refine h5H ?_; refine aG J J J J (fun h=>?_) (fun h=>?_)))|(refine h4H ?_; refine ag J (fun h=>?_) (fun h=>?_)))
 all_goals first
  | (exfalso; simp_all; done)
  | skip
 ·unfold oI; rw [if_pos h]; rfl
 ·have hs:=‹(s1 == !s2 == minus) = false›
  unfold oI; rw [if_neg (by rw [hs]; simp),if_pos (tx h)]; rfl
 ·have hs:=‹(s1 == !s2 == minus) = false›
  unfold oI; rw [if_neg (by rw [hs]; simp),if_neg (Nat.not_le_of_lt (tz h))]; rfl
end Go.Proofs.YtpejdgkaapnekaaGreat
namespace Go.Proofs.YtpejdgkaapnekaaGreat
open Go Go.Abs
def bp(k : Nat) : Nat:=4294967296 ^ k
theorem pwc(k : Nat) : pw k = ((bp k : Nat) : Int):=by
 unfold pw bp
 induction k with
 | zero=>rfl
 | succ k ih=>rw [Int.pow_succ,Nat.pow_succ,Int.natCast_mul,ih]; rfl
theorem DU(k : Nat) : 0 < bp k:=Nat.pow_pos (by omega)
theorem qO(k : Nat) : bp (k + 1) = bp k * 4294967296:=by unfold bp; rw [Nat.pow_succ]
theorem Eo(a b : Nat) : bp (a + b) = bp a * bp b:=by unfold bp; rw [Nat.pow_add]
theorem uv : bp 0 = 1:=rfl
theorem ji{a b : Nat}(h : a≤b) : bp a≤bp b:=Nat.pow_le_pow_right (by omega) h
theorem iP : ∀ (w n : Nat),Dg (wid w n)
 | 0,_=>fun d hd=>by simp [wid] at hd
 | w + 1,n=>fun d hd=>by
   rcases List.mem_cons.1 hd with rfl | hd
   ·omega
   ·exact iP w _ d hd
theorem ke : ∀ (w n : Nat),n < bp w→af (wid w n) = n
 | 0,n,h=>by
   have : n = 0:=by rw [uv] at h; omega
   subst this; rfl
 | w + 1,n,h=>by
   simp only [wid,af]
   rw [ke w (n / 4294967296) (by rw [qO] at h; exact Nat.div_lt_of_lt_mul (by rw [Nat.mul_comm]; exact h))]
   omega
theorem nG(n : Nat) : n < bp (dig n).length:=by
 obtain ⟨h1,h2,_⟩:=cm n
 have:=(dh h1).2
 rw [h2,pwc] at this
 omega
theorem tk{n k : Nat}(h : (dig n).length = k + 1) : at_ (dig n) k≠0∧at_ (dig n) k * bp k≤n∧(n : Int) < (at_ (dig n) k + 1) * bp k:=by
 obtain ⟨h1,h2,h3⟩:=cm n
 have e:=bm (l:=dig n) (k:=k) (by omega)
 rw [show k + 1 = (dig n).length by omega,List.take_length,h2] at e
 have hb:=dh (h1.take k)
 rw [show ((dig n).take k).length = k by simp; omega] at hb
 have hne : at_ (dig n) k≠0:=by
  rcases h3 with h3 | h3
  ·rw [h3] at h; cases h
  ·rwa [h] at h3
 rw [pwc,Int.mul_comm] at e
 rw [pwc] at hb
 rw [Int.add_mul,Int.one_mul]
 exact ⟨hne,by omega,by omega⟩
theorem FK{v k : Nat}(h1 : 2147483648 * bp (k + 1)≤v)(h2 : v < bp (k + 2)) : (dig v).length = k + 2∧2147483648≤at_ (dig v) (k + 1):=by
 have hl : (dig v).length = k + 2:=by
  rcases Nat.lt_trichotomy (dig v).length (k + 2) with h | h | h
  ·have:=nG v
   have h3:=ji (show (dig v).length≤k + 1 by omega)
   omega
  ·exact h
  ·obtain ⟨m,hm⟩ : ∃ m,(dig v).length = m + 1:=⟨(dig v).length - 1,by omega⟩
   obtain ⟨g1,g2,_⟩:=tk hm
   have h3:=ji (show k + 2≤m by omega)
   have h4:=(cm v).1.at (i:=m) (by omega)
   have h5 : (1 : Int) * (bp m : Int)≤at_ (dig v) m * (bp m : Int):=Int.mul_le_mul_of_nonneg_right (by omega) (by omega)
   omega
 refine ⟨hl,?_⟩
 obtain ⟨g1,g2,g3⟩:=tk hl
 refine Classical.byContradiction fun hc=>?_
 have h5 : (at_ (dig v) (k + 1) + 1) * (bp (k + 1) : Int)≤2147483648 * (bp (k + 1) : Int):=Int.mul_le_mul_of_nonneg_right (by omega) (by omega)
 omega
theorem FJ{n k : Nat}(hl : (dig n).length = k + 2) : ∃ s : Nat,s≤31∧32 - (Lib.bitLen (at_ (dig n) (k + 1)).toNat : Int) = (s : Int)∧2147483648 * bp (k + 1)≤n * 2 ^ s∧n * 2 ^ s < bp (k + 2):=by
 obtain ⟨g1,g2,g3⟩:=tk hl
 have h4:=(cm n).1.at (i:=k + 1) (by omega)
 obtain ⟨t,ht⟩:=Int.eq_ofNat_of_zero_le h4.1
 rw [ht] at g1 g2 g3 h4 ⊢
 rw [Int.toNat_natCast]
 have hb:=Lib.bitLenAux_bounds 64 t (by omega) (by omega)
 have hle:=Lib.bitLen_le t 32 (by omega) (by omega)
 change 1≤Lib.bitLen t∧2 ^ (Lib.bitLen t - 1)≤t∧t < 2 ^ Lib.bitLen t at hb
 obtain ⟨b1,b2,b3⟩:=hb
 generalize Lib.bitLen t = b at *
 refine ⟨32 - b,by omega,by omega,?_,?_⟩
 ·have e : (2147483648 : Nat) = 2 ^ (b - 1) * 2 ^ (32 - b):=by rw [← Nat.pow_add,show b - 1 + (32 - b) = 31 by omega]
  have h5 : 2 ^ (b - 1) * 2 ^ (32 - b) * bp (k + 1)≤t * 2 ^ (32 - b) * bp (k + 1):=Nat.mul_le_mul_right _ (Nat.mul_le_mul_right _ b2)
  have h6 : t * bp (k + 1) * 2 ^ (32 - b)≤n * 2 ^ (32 - b):=Nat.mul_le_mul_right _ (by omega)
  rw [Nat.mul_right_comm] at h6
  rw [e]; omega
 ·have e : (4294967296 : Nat) = 2 ^ b * 2 ^ (32 - b):=by rw [← Nat.pow_add,show b + (32 - b) = 32 by omega]
  have h5 : n < (t + 1) * bp (k + 1):=by
   have : (n : Int) < (((t + 1) * bp (k + 1) : Nat) : Int):=by rw [Int.natCast_mul,Int.natCast_add]; exact g3
   omega
  have h6 : n * 2 ^ (32 - b) < (t + 1) * bp (k + 1) * 2 ^ (32 - b):=Nat.mul_lt_mul_of_pos_right h5 (Nat.two_pow_pos _)
  have h7 : (t + 1) * 2 ^ (32 - b) * bp (k + 1)≤2 ^ b * 2 ^ (32 - b) * bp (k + 1):=Nat.mul_le_mul_right _ (Nat.mul_le_mul_right _ b3)
  rw [Nat.mul_right_comm] at h6
  rw [← e] at h7
  rw [qO (k + 1),Nat.mul_comm (bp (k + 1))]
  omega
theorem HL{m v k s : Nat}(hs : s≤31)(hv : 2147483648 * bp (k + 1)≤v)(hl : k + 2≤(dig m).length) : m * 2 ^ s < bp ((dig m).length + 1 - (k + 2)) * v∧m * 2 ^ s < bp ((dig m).length + 1):=by
 have h1:=nG m
 have hp : 2 ^ s≤2147483648:=Nat.pow_le_pow_right (by omega) hs
 have h2 : m * 2 ^ s < bp (dig m).length * 2147483648:=Nat.lt_of_lt_of_le (Nat.mul_lt_mul_of_pos_right h1 (Nat.two_pow_pos s)) (Nat.mul_le_mul_left _ hp)
 constructor
 ·have h3:=Nat.mul_le_mul_left (bp ((dig m).length + 1 - (k + 2))) hv
  have e : bp ((dig m).length + 1 - (k + 2)) * (2147483648 * bp (k + 1)) = bp (dig m).length * 2147483648:=by
   rw [Nat.mul_left_comm,← Eo,show (dig m).length + 1 - (k + 2) + (k + 1) = (dig m).length by omega,Nat.mul_comm]
  omega
 ·rw [qO]
  exact Nat.lt_of_lt_of_le h2 (Nat.mul_le_mul_left _ (Nat.le_of_ble_eq_true rfl))
theorem Lg(v k j W un : Nat)(hl : (dig v).length = k + 2)(ht : 2147483648≤at_ (dig v) (k + 1))(hk : k + 2≤400)(hW : W≤1000)(hj : j + (k + 2) + 1≤W)(hu : un < bp (j + 1) * v) :
  CallA Tryz.prog 375 [.one (.sub 1000000 j ((dig v).length + 1)),.one (.d (bk v))] [(1000000,.row 1 4 ((wid W un).map ak))] (.one (.d (.int .u32 ((un / (bp j * v) : Nat) : Int)))) [(1000000,.row 1 4 ((wid W (un % (bp j * v))).map ak))]:=by
 obtain ⟨h1,h2,_⟩:=cm v
 have hvb:=nG v
 have hub : un < bp W:=by
  refine Nat.lt_of_lt_of_le hu (Nat.le_trans (Nat.mul_le_mul_left _ (Nat.le_of_lt hvb)) ?_)
  rw [← Eo]; exact ji (by omega)
 have hn:=ke W un hub
 have:=Mp (dig v) (wid W un) j k hl (by omega) (by rw [eN]; omega) (by rw [eN]; omega) h1 (iP W un) ht (by
  rw [hn,h2,pwc,← Int.natCast_mul]; omega)
 rw [hn,h2,pwc,← Int.natCast_mul,← Int.natCast_ediv,← Int.natCast_emod,Int.toNat_natCast,eN] at this
 exact this
theorem FI{v j u un W : Nat}{Q : List Int}{R : List (List D)}{N : Nat}(hv : 0 < v)(hj : j < N)(hr : R = Q.map ak)(hl : R.length = N)(hQ : Dg Q)(hun : un = u % (bp (j + 1) * v))(hq : af (Q.drop (j + 1)) = ((u / (bp (j + 1) * v) : Nat) : Int)) :
  R.set j [.int .u32 ((un / (bp j * v) : Nat) : Int)] = (Q.set j ((un / (bp j * v) : Nat) : Int)).map ak∧(R.set j [.int .u32 ((un / (bp j * v) : Nat) : Int)]).length = N∧Dg (Q.set j ((un / (bp j * v) : Nat) : Int))∧un % (bp j * v) = u % (bp j * v) ∧
  af ((Q.set j ((un / (bp j * v) : Nat) : Int)).drop j) = ((u / (bp j * v) : Nat) : Int):=by
 have hQl : Q.length = N:=jK hr hl
 have hp:=DU j
 have hM : 0 < bp j * v:=Nat.mul_pos hp hv
 have e : bp (j + 1) * v = bp j * v * 4294967296:=by rw [qO,Nat.mul_right_comm]
 rw [e] at hun hq
 generalize bp j * v = M at *
 have hlt : un < M * 4294967296:=by rw [hun]; exact Nat.mod_lt _ (by omega)
 have hd : un / M < 4294967296:=Nat.div_lt_of_lt_mul hlt
 have e1 : un % M = u % M:=by rw [hun,Nat.mod_mul_right_mod]
 have e2 : u / M = un / M + 4294967296 * (u / (M * 4294967296)):=by
  rw [hun,Nat.mod_mul_right_div_self,← Nat.div_div_eq_div_mul]
  omega
 refine ⟨ej hr,by simpa using hl,hQ.set (by clear hun e1 e2; generalize un / M = z at hd ⊢; omega),e1,?_⟩
 rw [am (l:=Q.set j _) (by simp; omega),mI (by omega),List.drop_set_of_lt (by omega)]
 simp only [af,hq,e2]
 omega
def rsX(x s : Int) : Int:=x.fdiv (2 ^ min s.toNat IntKind.u32.bits)
theorem G5{x y : Int}{s : Nat}(hs : s≤31)(hx : 0≤x∧x < 4294967296)(hy : 0≤y∧y < 4294967296) :
  rsX x s = x / 2 ^ s∧0≤x / 2 ^ s∧x / 2 ^ s < 4294967296∧shO (rsX x s) (shV y (32 - (s : Int))) = x / 2 ^ s + y % 2 ^ s * 2 ^ (32 - s)∧0≤x / 2 ^ s + y % 2 ^ s * 2 ^ (32 - s)∧x / 2 ^ s + y % 2 ^ s * 2 ^ (32 - s) < 4294967296:=by
 obtain ⟨a,rfl⟩:=Int.eq_ofNat_of_zero_le hx.1
 obtain ⟨b,rfl⟩:=Int.eq_ofNat_of_zero_le hy.1
 have h2 : ∀ k : Nat,(2 : Int) ^ k = ((2 ^ k : Nat) : Int):=fun k=>by simp
 have ha : a < 4294967296:=by omega
 have hb : b < 4294967296:=by omega
 have hsp : 4294967296 = 2 ^ (32 - s) * 2 ^ s:=by rw [← Nat.pow_add,show 32 - s + s = 32 by omega]
 have hX : rsX (a : Int) s = ((a / 2 ^ s : Nat) : Int):=by
  unfold rsX
  have hm : min ((s : Int)).toNat IntKind.u32.bits = s:=by show min s 32 = s; omega
  rw [hm,h2,Int.fdiv_eq_ediv_of_nonneg _ (Int.natCast_nonneg _)]; exact (Int.natCast_ediv _ _).symm
 have hp : 2 ^ (32 - s)≤4294967296:=by
  have:=Nat.pow_le_pow_right (n:=2) (by omega) (show 32 - s≤32 by omega)
  exact this
 have hV : shV (b : Int) (32 - (s : Int)) = ((b * 2 ^ (32 - s) : Nat) : Int):=by
  unfold shV
  have hm : min (32 - (s : Int)).toNat IntKind.u64.bits = 32 - s:=by show min (32 - (s : Int)).toNat 64 = 32 - s; omega
  have hbd : b * 2 ^ (32 - s)≤4294967295 * 4294967296:=Nat.mul_le_mul (by omega) hp
  rw [cB (v:=(b : Int)) (by omega) (by omega),hm,h2,← Int.natCast_mul,cB (by omega) (by omega)]
 have hlo : b * 2 ^ (32 - s) % 4294967296 = (b % 2 ^ s) * 2 ^ (32 - s):=by
  rw [hsp,Nat.mul_comm (2 ^ (32 - s)) (2 ^ s),Nat.mul_mod_mul_right]
 have hxs : a / 2 ^ s < 2 ^ (32 - s):=Nat.div_lt_of_lt_mul (by rw [Nat.mul_comm]; omega)
 have hbl : (b % 2 ^ s) * 2 ^ (32 - s) + 2 ^ (32 - s)≤4294967296:=by
  have h1 : b % 2 ^ s + 1≤2 ^ s:=Nat.mod_lt _ (Nat.two_pow_pos _)
  have h3:=Nat.mul_le_mul_right (2 ^ (32 - s)) h1
  rw [Nat.mul_comm (2 ^ s),← hsp,Nat.add_mul,Nat.one_mul] at h3
  exact h3
 have hO : shO (rsX (a : Int) s) (shV (b : Int) (32 - (s : Int))) = ((a / 2 ^ s + b % 2 ^ s * 2 ^ (32 - s) : Nat) : Int):=by
  rw [hX,hV]
  unfold shO
  generalize b * 2 ^ (32 - s) = v at hlo ⊢
  generalize a / 2 ^ s = x' at hxs ⊢
  simp only [iG]
  have e1 : (BitVec.ofInt 32 (x' : Int)).toNat = x':=by rw [BitVec.toNat_ofInt]; simp; omega
  have e2 : (BitVec.ofInt 32 ((v : Int) % 4294967296)).toNat = v % 4294967296:=by rw [BitVec.toNat_ofInt]; simp; omega
  have e3 : (BitVec.ofInt 32 (x' : Int) ||| BitVec.ofInt 32 ((v : Int) % 4294967296)).toNat = x' + v % 4294967296:=by
   rw [BitVec.toNat_or,e1,e2,hlo,DI hxs]
  rw [show ((BitVec.ofInt IntKind.u32.bits (x' : Int) ||| BitVec.ofInt IntKind.u32.bits ((v : Int) % 4294967296)).toNat) = x' + v % 4294967296 from e3]
  rw [hlo]; omega
 have hq : (a : Int) / 2 ^ s = ((a / 2 ^ s : Nat) : Int):=by rw [h2]; exact (Int.natCast_ediv _ _).symm
 have hr : (b : Int) % 2 ^ s * 2 ^ (32 - s) = ((b % 2 ^ s * 2 ^ (32 - s) : Nat) : Int):=by rw [h2,h2,Int.natCast_mul,Int.natCast_emod]
 rw [hO,hX,hq,hr]
 generalize a / 2 ^ s = x' at *
 generalize b % 2 ^ s * 2 ^ (32 - s) = y' at *
 exact ⟨rfl,by omega,by omega,by omega,by omega,by omega⟩
theorem xW{l : List Int}{k : Nat}(hz : ∀ t,k≤t→at_ l t = 0) : af (l.take k) = af l:=by
 have e : af l = af (l.take k) + pw (l.take k).length * af (l.drop k):=by rw [← jT,List.take_append_drop]
 have e2 : ∀ (m : List Int),(∀ t,at_ m t = 0)→af m = 0:=by
  intro m
  induction m with
  | nil=>intro _; rfl
  | cons d r ih =>
    intro hm
    have h0 : d = 0:=hm 0
    have h1:=ih (fun t=>hm (t + 1))
    simp only [af,h0,h1]; rfl
 rw [e2 (l.drop k) (fun t=>by
  have:=hz (k + t) (by omega)
  simp only [at_,List.getD_eq_getElem?_getD,List.getElem?_drop] at this ⊢
  exact this)] at e
 omega
def RsI(A : List Int)(s W i : Nat)(Q : List Int)(R : List (List D)) : Prop :=
 R = Q.map ak∧R.length = W∧Dg Q∧(∀ t,i≤t→at_ Q t = at_ A t)∧af (Q.take i) * 2 ^ s = af (A.take i) - at_ A 0 % 2 ^ s + pw i * (at_ A i % 2 ^ s)
theorem G6{A Q : List Int}{s i : Nat}{g g0 : Int}(hs : s≤31)(hA : i < A.length)(hQl : Q.length = A.length)(hv : af (Q.take i) * 2 ^ s = af (A.take i) - at_ A 0 % 2 ^ s + pw i * (at_ A i % 2 ^ s))(hAd : Dg A)
  (hg : g = at_ A i / 2 ^ s + at_ A (i + 1) % 2 ^ s * 2 ^ (32 - s)) : af (((Q.set i g0).set i g).take (i + 1)) * 2 ^ s = af (A.take (i + 1)) - at_ A 0 % 2 ^ s + pw (i + 1) * (at_ A (i + 1) % 2 ^ s):=by
 rw [bm (l:=(Q.set i g0).set i g) (by simp; omega),List.take_set_of_le (Nat.le_refl _),List.take_set_of_le (Nat.le_refl _),mI (by simp; omega),bm hA,Int.add_mul,hv,hg,c5]
 have e1 : (2 : Int) ^ (32 - s) * 2 ^ s = 4294967296:=by rw [← Int.pow_add,show 32 - s + s = 32 by omega]; rfl
 have e2:=Int.mul_ediv_add_emod (at_ A i) (2 ^ s)
 generalize at_ A i / 2 ^ s = x at *
 generalize at_ A i % 2 ^ s = y at *
 generalize at_ A (i + 1) % 2 ^ s = z at *
 rw [← e2]
 have e3 : pw i * (x + z * 2 ^ (32 - s)) * 2 ^ s = pw i * (2 ^ s * x) + 4294967296 * pw i * z:=by
  rw [Int.mul_add,Int.add_mul,Int.mul_assoc (pw i) x,Int.mul_comm x,Int.mul_assoc (pw i) (z * _),Int.mul_assoc z,e1,Int.mul_comm z,← Int.mul_assoc (pw i) 4294967296,Int.mul_comm (pw i) 4294967296]
 rw [e3,Int.mul_add]
 omega
theorem FM{A Q : List Int}{R : List (List D)}{s W i : Nat}(hs : s≤31)(hA : A.length = W)(hi : i + 1 < W)(hAd : Dg A)(h : RsI A s W i Q R) :
  RsI A s W (i + 1) ((Q.set i (rsX (at_ Q i) s)).set i (shO (at_ (Q.set i (rsX (at_ Q i) s)) i) (shV (at_ (Q.set i (rsX (at_ Q i) s)) (i + 1)) (32 - (s : Int))))) ((R.set i [.int .u32 (rsX (at_ Q i) s)]).set i [.int .u32 (shO (at_ (Q.set i (rsX (at_ Q i) s)) i) (shV (at_ (Q.set i (rsX (at_ Q i) s)) (i + 1)) (32 - (s : Int))))]):=by
 obtain ⟨hr,hl,hQ,he,hv⟩:=h
 have hQl : Q.length = W:=jK hr hl
 rw [mI (by omega),dV (by omega),he i (Nat.le_refl _),he (i + 1) (by omega)]
 obtain ⟨r1,r2,r3,r4,r5,r6⟩:=G5 (x:=at_ A i) (y:=at_ A (i + 1)) hs (hAd.at (by omega)) (hAd.at (by omega))
 rw [r4]
 rw [r1]
 refine ⟨ej (ej hr),by simpa using hl,(hQ.set ⟨r2,r3⟩).set ⟨r5,r6⟩,fun t ht=>by rw [dV (by omega),dV (by omega)]; exact he t (by omega),G6 hs (by omega) (by omega) hv hAd rfl⟩
theorem BO{l : List Int}{i : Nat}{x : Int} : (l.set i x).set i x = l.set i x:=by simp
theorem FN{A Q : List Int}{R : List (List D)}{s W i : Nat}(hs : s≤31)(hA : A.length = W)(hi : i < W)(hAd : Dg A)(hz : at_ A (i + 1) = 0)(h : RsI A s W i Q R) :
  RsI A s W (i + 1) (Q.set i (rsX (at_ Q i) s)) (R.set i [.int .u32 (rsX (at_ Q i) s)]):=by
 obtain ⟨hr,hl,hQ,he,hv⟩:=h
 have hQl : Q.length = W:=jK hr hl
 rw [he i (Nat.le_refl _)]
 obtain ⟨r1,r2,r3,r4,r5,r6⟩:=G5 (x:=at_ A i) (y:=0) hs (hAd.at (by omega)) (by omega)
 rw [r1]
 have hg:=G6 (g:=at_ A i / 2 ^ s) (g0:=at_ A i / 2 ^ s) hs (by omega) (by omega) hv hAd (by rw [hz,Int.zero_emod,Int.zero_mul,Int.add_zero])
 rw [BO] at hg
 exact ⟨ej hr,by simpa using hl,hQ.set ⟨r2,r3⟩,fun t ht=>by rw [dV (by omega)]; exact he t (by omega),hg⟩
theorem Jo{Q : List Int}{R : List (List D)}{s W i r a : Nat}(ha : a = r * 2 ^ s)(hs : s≤31)(haW : a < bp W)(hi : i = (dig a).length)(hiW : i≤W)(h : RsI (wid W a) s W i Q R) : R.take i = (Q.take i).map ak∧Dg (Q.take i)∧(af (Q.take i)).toNat = r:=by
 obtain ⟨hr,hl,hQ,he,hv⟩:=h
 have hA:=iP W a
 have hn:=ke W a haW
 have hz : ∀ t,i≤t→at_ (wid W a) t = 0:=lq hA (by rw [hn,pwc,hi]; have:=nG a; omega)
 rw [xW hz,hn,hz i (Nat.le_refl _),Int.zero_emod,Int.mul_zero,Int.add_zero] at hv
 have h0 : at_ (wid W a) 0 % 2 ^ s = 0:=by
  cases W with
  | zero=>show (0 : Int) % 2 ^ s = 0; exact Int.zero_emod _
  | succ W =>
    show ((a % 4294967296 : Nat) : Int) % 2 ^ s = 0
    have e : a % 4294967296 % 2 ^ s = 0:=by
     rw [Nat.mod_mod_of_dvd _ ⟨2 ^ (32 - s),by rw [← Nat.pow_add,show s + (32 - s) = 32 by omega]⟩,ha,Nat.mul_mod_left]
    rw [show (2 : Int) ^ s = ((2 ^ s : Nat) : Int) by simp,← Int.natCast_emod,e]; rfl
 rw [h0,Int.sub_zero,ha,Int.natCast_mul,show ((2 ^ s : Nat) : Int) = (2 : Int) ^ s by simp] at hv
 have:=Int.eq_of_mul_eq_mul_right (Int.ne_of_gt (Int.pow_pos (by omega))) hv
 exact ⟨by rw [hr,List.map_take],hQ.take i,by rw [this]; rfl⟩
end Go.Proofs.YtpejdgkaapnekaaGreat
