import Derived.Test.YtpejdgkaapnekaaGreatXP31
set_option linter.unusedVariables false
set_option linter.unusedSimpArgs false
set_option maxHeartbeats 1000000
namespace Go.Proofs.YtpejdgkaapnekaaGreat
open Go Go.Abs
attribute [local irreducible] ae OkC ar aA av aN
set_option maxRecDepth 10000
theorem Oz(n : Int)(h0 : -1099511627776≤n)(h1 : n≤1099511627776) : CallA Tryz.prog 267 [.one (.d (.int .i64 n))] [] (.one (.d (bK n.natAbs))) []:=by
 have:=Lm n h0 h1
 rw [show max n (-n) = ((n.natAbs : Nat) : Int) by omega,jT (by omega)] at this
 exact this
theorem I2 : CallA Tryz.prog 268 [.one (.d (.int .u64 1099511627776))] [] (.one (.d (bK 1099511627776))) []:=Et 1099511627776 (by omega)
theorem yE(n : Nat)(h : n≤1099511627776) : CallA Tryz.prog 285 [.one (.d (bK n))] [] (.tup [(false,[.d (.int .i64 n)]),(false,[.d (.bool true)])]) []:=by
 have hc : decide (0 < iE n 1099511627776) = false:=by
  rcases Nat.lt_or_ge n 1099511627776 with h2 | h2
  ·rw [iT h2]; rfl
  ·rw [kS (by omega)]; rfl
 have hd:=BY (z:=(n : Int)) (by omega) (by omega)
 rw [jT (by omega)] at hd
 obtain ⟨q1,q2,q3,q4,q5⟩:=hd
 have q6 : at_ (dw n) 1≤1100:=by omega
 refine enter af Tryz.func285 rfl (by decide +kernel) rfl fun hok w0 σ0 φ0 M=>?_
 clear hok
 repeat' (first|(refine h1H ?_; (refine h0H ?_; first|refine aa J J J J J J J J (yt _ _) J ?_|refine aa J J J J J J J J (sh _ _ (fO n).1) J ?_|refine az 16 J J J J J J J J (I2) J J J ?_))|refine wG ?_)
 all_goals (rw [q1])
theorem yF(n : Nat)(h : ¬ n≤1099511627776) : CallA Tryz.prog 285 [.one (.d (bK n))] [] (.tup [(false,[.d (.int .i64 0)]),(false,[.d (.bool false)])]) []:=by
 have hc : decide (0 < iE n 1099511627776) = true:=by
  rw [iU (by omega)]; rfl
 refine enter af Tryz.func285 rfl (by decide +kernel) rfl fun hok w0 σ0 φ0 M=>?_
 clear hok
 repeat' (first|(refine h1H ?_; (refine h0H ?_; first|refine aa J J J J J J J J (yt _ _) J ?_|refine az 16 J J J J J J J J (I2) J J J ?_))|refine wG ?_)
 all_goals rfl
theorem Ij(t : Bool×Nat×Nat) : CallA Tryz.prog 238 [b9 t] [] (bc (vP3 t)) []:=by
 obtain ⟨s,a,b⟩:=t
 unfold b9 vP3 vP
 simp only
 by_cases ha : a≤1099511627776
 ·by_cases hb : b≤1099511627776
  ·rw [if_pos ⟨ha,hb⟩]
   refine enter af Tryz.func238 rfl (by decide +kernel) rfl fun hok w0 σ0 φ0 M=>?_
   clear hok
   repeat' (first|(refine h1H ?_; (refine h0H ?_; first|refine aa J J J J J J J J (yE _ ha) J ?_|refine aa J J J J J J J J (yE _ hb) J ?_))|refine wG ?_|(refine h4H ?_; refine ah J (fun h=>?_) (fun h=>?_)))
   ·rw [if_pos h,Int.zero_sub]; rfl
   ·rw [if_neg (by rw [h]; simp)]; rfl
  ·rw [if_neg (fun h=>hb h.2)]
   refine enter af Tryz.func238 rfl (by decide +kernel) rfl fun hok w0 σ0 φ0 M=>?_
   clear hok
   repeat' (first|(refine h1H ?_; (refine h0H ?_; first|refine aa J J J J J J J J (yE _ ha) J ?_|refine aa J J J J J J J J (yF _ hb) J ?_|refine aa J J J J J J J J (DL _) J ?_))|refine wG ?_)
   all_goals rfl
 ·rw [if_neg (fun h=>ha h.1)]
  by_cases hb : b≤1099511627776
  ·refine enter af Tryz.func238 rfl (by decide +kernel) rfl fun hok w0 σ0 φ0 M=>?_
   clear hok
   repeat' (first|(refine h1H ?_; (refine h0H ?_; first|refine aa J J J J J J J J (yE _ hb) J ?_|refine aa J J J J J J J J (yF _ ha) J ?_|refine aa J J J J J J J J (DL _) J ?_))|refine wG ?_)
   all_goals rfl
  ·refine enter af Tryz.func238 rfl (by decide +kernel) rfl fun hok w0 σ0 φ0 M=>?_
   clear hok
   repeat' (first|(refine h1H ?_; (refine h0H ?_; first|refine aa J J J J J J J J (yF _ ha) J ?_|refine aa J J J J J J J J (yF _ hb) J ?_|refine aa J J J J J J J J (DL _) J ?_))|refine wG ?_)
   all_goals rfl
theorem OA : CallA Tryz.prog 268 [.one (.d (.int .u64 1))] [] (.one (.d (bK 1))) []:=Et 1 (by omega)
theorem QJ(t : Bool×Nat×Nat)(q : Nat)(hqe : q = if t.1 = true∧t.2.1 % t.2.2≠0 then t.2.1 / t.2.2 + 1 else t.2.1 / t.2.2)(hb : 0 < t.2.2)(hm : dwl t.2.1≤300)(hn : dwl t.2.2≤300)(hq : (dw (t.2.1 / t.2.2)).length≤400) : CallA Tryz.prog 240 [b9 t] [] (b9 (t.1 && decide (q≠0),q,1)) []:=by
 have h1 : (dw 1).length≤400:=DE (by omega)
 unfold b9
 refine enter af Tryz.func240 rfl (by decide +kernel) rfl fun hok w0 σ0 φ0 M=>?_
 clear hok
 repeat' (first|(refine h1H ?_; (refine h0H ?_; first|refine az 16 J J J J J J J J (yu _ _ hm hb hn) J J J ?_|refine az 16 J J J J J J J J (LH _ _ (by omega) h1) J J J ?_|refine az 16 J J J J J J J J (OA) J J J ?_))|refine wG ?_|(refine h1H ?_; (refine h5H ?_; refine aJ J J J J (fun h=>?_) (fun h=>?_)))|(refine h4H ?_; refine ah J (fun h=>?_) (fun h=>?_)))
 ·rw [if_pos ⟨‹t.1 = true›,pP h⟩] at hqe
  subst hqe
  rw [mA,‹t.1 = true›,Bool.true_and]; rfl
 ·rw [if_neg (fun hc=>hc.2 (xu h))] at hqe
  subst hqe
  rw [mA,‹t.1 = true›,Bool.true_and]; rfl
 ·have h' : t.1 = false:=h
  rw [if_neg (fun hc=>by rw [h'] at hc; cases hc.1)] at hqe
  subst hqe
  rw [h']; rfl
def cV(v : Val) : Bool×Nat×Nat:=(ngV v,naV v,dnV v)
theorem vq(v : Val)(h : aq v = true) : CallA Tryz.prog 227 [bc v] [] (.one (.d (.int .i64 0))) []:=by
 have:=Dx v.kind v.num v.den v.str
 have h' : dK v.kind v.num v.den v.str = true:=h
 rw [if_pos h'] at this; exact this
theorem fg(v : Val)(hr : aq v = true)(hk : v.kind = 2) : CallA Tryz.prog 236 [bc v] [] (.tup [(true,[.d (.bool (ngV v)),.d (bK (naV v)),.d (bK (dnV v))]),(false,[.d (.bool true)])]) []:=by
 obtain ⟨q1,q2,q3,q4⟩:=jW hr hk
 have q5 : -1099511627776≤v.num∧v.num≤1099511627776:=by unfold naV at q1; omega
 have hk2 : (v.kind != 2) = false:=by simp [hk]
 have hcall:=vq v hr
 unfold bc at hcall ⊢
 refine enter af Tryz.func236 rfl (by decide +kernel) rfl fun hok w0 σ0 φ0 M=>?_
 clear hok
 repeat' (first|(refine h1H ?_; (refine h0H ?_; refine aa J J J J J J J J (vq v hr) J ?_))|(refine h3H ?_; (refine h2H ?_; refine bh 16 J J J J J J J J (Oz _ (by omega) (by omega)) J J ?_))|refine wG ?_)
 all_goals rfl
theorem l7(v : Val)(hr : aq v = true)(hk : v.kind≠2) : CallA Tryz.prog 236 [bc v] [] (.tup [(true,[.d (.bool false),.d .nil,.d .nil]),(false,[.d (.bool false)])]) []:=by
 have hk2 : (v.kind != 2) = true:=by simp [hk]
 unfold bc
 refine enter af Tryz.func236 rfl (by decide +kernel) rfl fun hok w0 σ0 φ0 M=>?_
 clear hok
 repeat' (first|(refine h1H ?_; (refine h0H ?_; refine aa J J J J J J J J (vq v hr) J ?_))|refine wG ?_)
 all_goals first | rfl | skip
theorem NumOk.w{x y : Val}(h : NumOk x)(h' : NumOk y) : RatW (naV x) (dnV x) (naV y) (dnV y):=⟨h.b,h'.b,h.a,h'.a⟩
theorem iI{v : Val}(hr : aq v = true)(hk : v.kind = 2) : NumOk v:=by
 obtain ⟨q1,q2,q3,_⟩:=jW hr hk
 exact ⟨q1,q2,q3⟩
theorem wJ{a b : Int}(h : a = b) : ¬ sgF a b≠0:=by subst h; simp [sgF]
theorem EN{a b : Int}(h : a < b) : sgF a b = -1:=if_pos h
theorem EO{a b : Int}(h : b < a) : sgF a b = 1:=by unfold sgF; rw [if_neg (by omega),if_pos h]
theorem OB{a b : Int}(h : a = b) : sgF a b = 0:=by subst h; simp [sgF]
theorem Kw{a b : Val}(hk : a.kind = b.kind)(h2 : a.kind = 2) : nz (dE (ngV a) (naV a) (dnV a) (ngV b) (naV b) (dnV b) true) = ic a b:=by unfold ic; rw [if_neg (wJ hk),if_pos h2]
theorem wM{a b : Val}(hk : a.kind = b.kind)(h3 : a.kind = 3) : l9 a.str b.str = ic a b:=by unfold ic; rw [if_neg (wJ hk),if_neg (by omega),if_pos h3]
theorem wN{a b : Val}(hk : a.kind = b.kind)(h2 : ¬ a.kind = 2)(h3 : ¬ a.kind = 3) : sgF a.num b.num = ic a b:=by unfold ic; rw [if_neg (wJ hk),if_neg h2,if_neg h3]
theorem Bc{a b : Val}(hk : ¬ a.kind = b.kind) : sgF a.kind b.kind = ic a b:=by
 have h : sgF a.kind b.kind≠0:=by
  rcases Int.lt_or_lt_of_ne hk with h | h
  ·rw [EN h]; decide
  ·rw [EO h]; decide
 unfold ic; rw [if_pos h]
theorem vu(a b : Val)(hra : aq a = true)(hrb : aq b = true) : CallA Tryz.prog 241 [bc a,bc b] [] (.one (.d (.int .i64 (ic a b)))) []:=by
 unfold bc
 refine enter af Tryz.func241 rfl (by decide +kernel) rfl fun hok w0 σ0 φ0 M=>?_
 clear hok
 repeat' (first|(refine h1H ?_; (refine h0H ?_; first|refine aa J J J J J J J J (vq a hra) J ?_|refine aa J J J J J J J J (vq b hrb) J ?_|refine aa J J J J J J J J (QC _ _ _ _ _ _ (NumOk.w (iI hra (by simpa using ‹(a.kind == 2) = true›)) (iI hrb (by simp_all)))) J ?_|refine az 16 J J J J J J J J (fg a hra (by simpa using ‹(a.kind == 2) = true›)) J J J ?_|refine az 16 J J J J J J J J (fg b hrb (by simp_all)) J J J ?_))|refine wG ?_|(refine h4H ?_; refine ah J (fun h=>?_) (fun h=>?_)))
 ·exact congrArg (fun x=>AV.one (.d (.int .i64 x))) (Kw (by simpa using ‹(a.kind == b.kind) = true›) (by simpa using h))
 ·rw [← wM (by simpa using ‹(a.kind == b.kind) = true›) (by simpa using ‹(a.kind == 3) = true›)]
  unfold l9; rw [if_pos h]
 ·rw [← wM (by simpa using ‹(a.kind == b.kind) = true›) (by simpa using ‹(a.kind == 3) = true›)]
  unfold l9; rw [if_neg (by rw [‹Op.bytesLess a.str b.str = false›]; simp),if_pos h]
 ·rw [← wM (by simpa using ‹(a.kind == b.kind) = true›) (by simpa using ‹(a.kind == 3) = true›)]
  unfold l9; rw [if_neg (by rw [‹Op.bytesLess a.str b.str = false›]; simp),if_neg (by rw [h]; simp)]
 ·rw [← wN (by simpa using ‹(a.kind == b.kind) = true›) (by simpa using ‹(a.kind == 2) = false›) (by simpa using ‹(a.kind == 3) = false›),EN (of_decide_eq_true h)]
 ·rw [← wN (by simpa using ‹(a.kind == b.kind) = true›) (by simpa using ‹(a.kind == 2) = false›) (by simpa using ‹(a.kind == 3) = false›),EO (of_decide_eq_true h)]
 ·have h1:=of_decide_eq_false ‹decide (a.num < b.num) = false›
  have h2:=of_decide_eq_false h
  rw [← wN (by simpa using ‹(a.kind == b.kind) = true›) (by simpa using ‹(a.kind == 2) = false›) (by simpa using ‹(a.kind == 3) = false›),OB (by omega)]
 ·rw [← Bc (by simpa using ‹(a.kind == b.kind) = false›),EN (of_decide_eq_true h)]
 ·rw [← Bc (by simpa using ‹(a.kind == b.kind) = false›),EO (of_decide_eq_true h)]
 ·have h1:=of_decide_eq_false ‹decide (a.kind < b.kind) = false›
  have h2:=of_decide_eq_false h
  have h3 : ¬ a.kind = b.kind:=by simpa using ‹(a.kind == b.kind) = false›
  omega
def arW(op : Int)(x y : Bool×Nat×Nat) : Bool×Nat×Nat:=if op = 9 then dE x.1 x.2.1 x.2.2 y.1 y.2.1 y.2.2 false else if op = 10 then dE x.1 x.2.1 x.2.2 y.1 y.2.1 y.2.2 true else if op = 11 then gW (x.1 != y.1) (x.2.1 * y.2.1) (x.2.2 * y.2.2) else gW (x.1 != y.1) (x.2.1 * y.2.2) (x.2.2 * y.2.1)
theorem TA{op : Int}(hop : 9≤op∧op≤12)(h1 : (op == 9) = false)(h2 : (op == 10) = false)(h3 : (op == 11) = false) : op = 12:=by
 have h1 : op≠9:=by simpa using h1
 have h2 : op≠10:=by simpa using h2
 have h3 : op≠11:=by simpa using h3
 omega
theorem DR(op : Int)(x y : Bool×Nat×Nat)(hop : 9≤op∧op≤12)(hR : RatW x.2.1 x.2.2 y.2.1 y.2.2)(h0 : op = 12→y.2.1≠0) : CallA Tryz.prog 242 [.one (.d (.int .i64 op)),b9 x,b9 y] [] (bc (vP3 (arW op x y))) []:=by
 unfold b9
 refine enter af Tryz.func242 rfl (by decide +kernel) rfl fun hok w0 σ0 φ0 M=>?_
 clear hok
 repeat' (first|(refine h1H ?_; (refine h0H ?_; first|refine aa J J J J J J J J (Ij _) J ?_|refine az 16 J J J J J J J J (LG _ _ _ _ _ _ hR) J J J ?_|refine az 16 J J J J J J J J (LK _ _ _ _ _ _ hR) J J J ?_|refine az 16 J J J J J J J J (Qz _ _ _ _ _ _ hR) J J J ?_|refine az 16 J J J J J J J J (QA _ _ _ _ _ _ hR (h0 (TA hop ‹(op == 9) = false› ‹(op == 10) = false› ‹(op == 11) = false›))) J J J ?_))|refine wG ?_|(refine h4H ?_; refine ah J (fun h=>?_) (fun h=>?_)))
 ·unfold arW; rw [if_pos (by simpa using h)]; rfl
 ·unfold arW; rw [if_neg (by simpa using ‹(op == 9) = false›),if_pos (by simpa using h)]; rfl
 ·unfold arW; rw [if_neg (by simpa using ‹(op == 9) = false›),if_neg (by simpa using ‹(op == 10) = false›),if_pos (by simpa using h)]; rfl
 ·unfold arW; rw [if_neg (by simpa using ‹(op == 9) = false›),if_neg (by simpa using ‹(op == 10) = false›),if_neg (by simpa using h)]; rfl
theorem N3(x y : Bool×Nat×Nat)(h0 : y.2.1 = 0) : CallA Tryz.prog 242 [.one (.d (.int .i64 12)),b9 x,b9 y] [] (bc ⟨0,3,0,[]⟩) []:=by
 unfold b9
 refine enter af Tryz.func242 rfl (by decide +kernel) rfl fun hok w0 σ0 φ0 M=>?_
 clear hok
 repeat' (first|(refine h1H ?_; (refine h0H ?_; first|refine aa J J J J J J J J (NZ _ _ _ _ _ _ h0) J ?_|refine aa J J J J J J J J (DL _) J ?_))|refine wG ?_)
 all_goals rfl
theorem HY(v : Val)(k : Int) : CallA Tryz.prog 283 [bc v,.one (.d (.int .i64 k))] [] (.one (.d (.bool (isV v k)))) []:=by
 unfold bc
 refine enter af Tryz.func283 rfl (by decide +kernel) rfl fun hok w0 σ0 φ0 M=>?_
 clear hok
 repeat' (first|refine wG ?_|(refine h1H ?_; (refine h5H ?_; refine aJ J J J J (fun h=>?_) (fun h=>?_))))
 all_goals first | rfl | (simp_all [isV]; done)
def vr(a b : Val) : Bool:=a.kind == 0 || (b.kind == 0 || a.kind == b.kind)
theorem Mo(a b : Val) : CallA Tryz.prog 284 [bc a,bc b] [] (.one (.d (.bool (vr a b)))) []:=by
 unfold bc
 refine enter af Tryz.func284 rfl (by decide +kernel) rfl fun hok w0 σ0 φ0 M=>?_
 clear hok
 repeat' (first|refine wG ?_|(refine h1H ?_; (refine h5H ?_; refine aJ J J J J (fun h=>?_) (fun h=>?_))))
 all_goals first | rfl | (refine congrArg (fun x=>AV.one (.d (.bool x))) ?_; rw [Bool.eq_iff_iff]; simp_all [vr]; done)
theorem tR{a b : Val} : vr a b = gG a b:=by
 unfold vr gG isV
 rw [Bool.eq_iff_iff]
 simp
 omega
theorem Mm{op : Int}(h : 4≤op∧op≤8) : op = 4∨op = 5∨op = 6∨op = 7∨op = 8:=by omega
theorem Mn{op : Int}(h : 9≤op∧op≤21) : op = 9∨op = 10∨op = 11∨op = 12∨op = 13∨op = 14∨op = 15∨op = 16∨op = 17∨op = 18∨op = 19∨op = 20∨op = 21:=by omega
theorem LO(op : Int)(hop : 4≤op∧op≤8)(a : Val) : CallA Tryz.prog 234 [.one (.d (.int .i64 op)),.one (.d (aG [a]))] [] (.one (.d (.bool (kdF op [a])))) []:=by
 rcases Mm hop with rfl | rfl | rfl | rfl | rfl
 all_goals refine enter af Tryz.func234 rfl (by decide +kernel) rfl fun hok w0 σ0 φ0 M=>?_
 all_goals clear hok
 repeat' (first|(refine h1H ?_; (refine h0H ?_; refine aa J J J J J J J J (HY _ _) J ?_))|refine wG ?_)
 all_goals refine congrArg (fun x=>AV.one (.d (.bool x))) ?_
 all_goals first | rfl | (simp [kdF]; done)
theorem LP(op : Int)(hop : 9≤op∧op≤21)(a b : Val) : CallA Tryz.prog 234 [.one (.d (.int .i64 op)),.one (.d (aG [a,b]))] [] (.one (.d (.bool (kdF op [a,b])))) []:=by
 rcases Mn hop with rfl | rfl | rfl | rfl | rfl | rfl | rfl | rfl | rfl | rfl | rfl | rfl | rfl
 all_goals refine enter af Tryz.func234 rfl (by decide +kernel) rfl fun hok w0 σ0 φ0 M=>?_
 all_goals clear hok
 repeat' (first|(refine h1H ?_; (refine h0H ?_; refine aa J J J J J J J J (HY _ _) J ?_))|(refine h3H ?_; (refine h2H ?_; refine d_l J J (aB J J J J J J (Mo _ _) J) ?_))|refine wG ?_|(refine h1H ?_; (refine h5H ?_; refine aJ J J J J (fun h=>?_) (fun h=>?_))))
 all_goals refine congrArg (fun x=>AV.one (.d (.bool x))) ?_
 all_goals first | (rw [tR]; rfl) | (simp_all [kdF,tR]; done)
theorem LR(a b c : Val) : CallA Tryz.prog 234 [.one (.d (.int .i64 22)),.one (.d (aG [a,b,c]))] [] (.one (.d (.bool (kdF 22 [a,b,c])))) []:=by
 have e : kdF 22 [a,b,c] = (isV a 1 && gG b c):=rfl
 rw [e]
 refine enter af Tryz.func234 rfl (by decide +kernel) rfl fun hok w0 σ0 φ0 M=>?_
 clear hok
 repeat' (first|(refine h3H ?_; (refine h2H ?_; first|refine d_l J J (aB J J J J J J (HY _ _) J) ?_|refine d_l J J (aB J J J J J J (Mo _ _) J) ?_))|refine wG ?_|(refine h3H ?_; (refine tu ?_; refine kN J J (fun h=>?_) (fun h=>?_))))
 ·have h' : isV a 1 = true:=h
  rw [h',Bool.true_and,← tR]
 ·have h' : isV a 1 = false:=h
  rw [h',Bool.false_and]
def nA(op : Int)(l : List Val) : Val×Bool :=
 if op = 7∨op = 8∨op = 21 then (rvF op l,true) else if op = 22 then (if (at_ l 0).kind == 0 then at_ l 0 else if bB (at_ l 0) (aC true) == true then at_ l 1 else at_ l 2,true)
 else if op = 19 then (aC false,bB (at_ l 0) (aC false) || bB (at_ l 1) (aC false)) else if op = 20 then (aC true,bB (at_ l 0) (aC true) || bB (at_ l 1) (aC true)) else (lg,false)
def l0(p : Val×Bool) : AV:=.tup [(true,[.d (.int .i64 p.1.kind),.d (.int .i64 p.1.num),.d (.int .i64 p.1.den),.d (.str p.1.str)]),(false,[.d (.bool p.2)])]
theorem N8{b : Bool}{l : List Val}(h : (bB (at_ l 0) (aC b) == true) = false) : (aC b,(bB (at_ l 1) (aC b) == true)) = (aC b,bB (at_ l 0) (aC b) || bB (at_ l 1) (aC b)):=by
 have h' : bB (at_ l 0) (aC b) = false:=by simpa using h
 rw [h',Bool.false_or]; simp
theorem N9{b : Bool}{l : List Val}(h : (bB (at_ l 0) (aC b) == true) = true) : (aC b,true) = (aC b,bB (at_ l 0) (aC b) || bB (at_ l 1) (aC b)):=by
 have h' : bB (at_ l 0) (aC b) = true:=by simpa using h
 rw [h',Bool.true_or]
theorem Ek{α : Type}{b : Bool}{x y : α}(h : b = true) : x = if b = true then x else y:=(if_pos h).symm
theorem Ai{α : Type}{b : Bool}{x y : α}(h : b = false) : y = if b = true then x else y:=(if_neg (by rw [h]; simp)).symm
theorem ry(op : Int)(hop : 4≤op∧op≤8)(l : List Val)(hl : l.length = 1) : CallA Tryz.prog 235 [.one (.d (.int .i64 op)),.one (.d (aG l))] [] (l0 (nA op l)) []:=by
 rcases Mm hop with rfl | rfl | rfl | rfl | rfl
 all_goals refine enter af Tryz.func235 rfl (by decide +kernel) rfl fun hok w0 σ0 φ0 M=>?_
 all_goals clear hok
 repeat' (first|(refine h1H ?_; (refine h0H ?_; refine aa J J J J J J J J (lW _) J ?_))|refine wG ?_|(refine h4H ?_; refine ah J (fun h=>?_) (fun h=>?_)))
 all_goals first
  | rfl
  | exact congrArg (fun x=>l0 (⟨2,x,1,[]⟩,true)) (Ek h)
  | exact congrArg (fun x=>l0 (⟨2,x,1,[]⟩,true)) (Ai h)
theorem fT(op : Int)(hop : 9≤op∧op≤21)(l : List Val)(hl : l.length = 2) : CallA Tryz.prog 235 [.one (.d (.int .i64 op)),.one (.d (aG l))] [] (l0 (nA op l)) []:=by
 rcases Mn hop with rfl | rfl | rfl | rfl | rfl | rfl | rfl | rfl | rfl | rfl | rfl | rfl | rfl
 all_goals refine enter af Tryz.func235 rfl (by decide +kernel) rfl fun hok w0 σ0 φ0 M=>?_
 all_goals clear hok
 repeat' (first|(refine h3H ?_; (refine h2H ?_; refine d_l J J (aB J J J J J J (lW _) J) ?_))|refine wG ?_|(refine h4H ?_; refine ah J (fun h=>?_) (fun h=>?_))|(refine h3H ?_; (refine tu ?_; refine kN J J (fun h=>?_) (fun h=>?_))))
 all_goals first
  | rfl
  | exact congrArg l0 (N8 h)
  | exact congrArg l0 (N9 h)
  | exact congrArg (fun x=>l0 (x,true)) (Ek h)
  | exact congrArg (fun x=>l0 (x,true)) (Ai h)
theorem Mp(l : List Val)(hl : l.length = 3) : CallA Tryz.prog 235 [.one (.d (.int .i64 22)),.one (.d (aG l))] [] (l0 (nA 22 l)) []:=by
 refine enter af Tryz.func235 rfl (by decide +kernel) rfl fun hok w0 σ0 φ0 M=>?_
 clear hok
 repeat' (first|(refine h3H ?_; (refine h2H ?_; refine d_l J J (aB J J J J J J (lW _) J) ?_))|refine wG ?_|(refine h4H ?_; refine ah J (fun h=>?_) (fun h=>?_)))
 ·exact congrArg (fun x=>l0 (x,true)) (Ek h)
 ·exact congrArg (fun x=>l0 (x,true)) ((Ek (y:=at_ l 2) h).trans (Ai ‹((at_ l (Int.toNat 0)).kind == 0) = false›))
 ·exact congrArg (fun x=>l0 (x,true)) ((Ai (x:=at_ l 1) h).trans (Ai ‹((at_ l (Int.toNat 0)).kind == 0) = false›))
theorem HZ{v : Val}(hr : aq v = true)(hk : v.kind = 1) : (v.num = 0∨v.num = 1)∧v.den = 0∧v.str = []:=by
 unfold aq dK at hr
 rw [hk] at hr
 simp [oC] at hr
 exact ⟨hr.2,hr.1⟩
theorem Aq{v : Val}{b : Bool}(hr : aq v = true)(hk : v.kind = 1) : bB v (aC b) = (v.num == (aC b).num):=by
 obtain ⟨h1,h2,h3⟩:=HZ hr hk
 rw [Bool.eq_iff_iff,xF]
 constructor
 ·intro e; rw [e]; simp
 ·intro e
  have e2 : v.num = (aC b).num:=by simpa using e
  clear e h1 hr
  obtain ⟨k,n,d,s⟩:=v
  simp only at hk h2 h3 e2
  rw [hk,h2,h3,e2]; rfl
theorem H0{v : Val}(hr : aq v = true)(hk : v.kind = 1) : aC (bB v (aC false) == true) = aC (v.num == 0):=by
 rw [Aq hr hk]; simp [aC]
theorem JT{v : Val}(hr : aq v = true)(hk : v.kind = 2) : v.str = []:=by
 unfold aq dK at hr
 rw [hk] at hr
 simp at hr
 exact hr.1
theorem H2{v : Val}(hr : aq v = true)(hk : v.kind = 2) : vP3 (wb (cV v)) = p7 v:=by
 obtain ⟨q1,q2,q3,q4⟩:=jW hr hk
 have h1:=JT hr hk
 unfold vP3 wb cV vP p7
 simp only
 rw [if_pos ⟨q1,q3⟩,hk,h1,← q4]
 congr 1
 have hw : IntKind.i64.wrap (0 - v.num) = -v.num:=by
  rw [Int.zero_sub]
  have : naV v = v.num.natAbs:=rfl
  exact gJ (by omega) (by omega)
 rw [hw]
 unfold ngV naV
 by_cases h0 : v.num = 0
 ·rw [h0]; simp
 ·by_cases hn : v.num < 0
  ·simp [hn]; omega
  ·have : ¬ v.num < 0:=hn
   simp [this]; omega
theorem JU{s : Bool}{q b : Nat} : vP (s && decide (q≠0)) q b = vP s q b:=by
 unfold vP
 by_cases h : q = 0
 ·subst h; simp
 ·simp [h]
theorem En{v : Val} : vP3 (ngV v && decide ((if ngV v = true∧naV v % dnV v≠0 then naV v / dnV v + 1 else naV v / dnV v)≠0),(if ngV v = true∧naV v % dnV v≠0 then naV v / dnV v + 1 else naV v / dnV v),1) = Ar v:=by
 unfold vP3 Ar; exact JU
theorem zn{b : Bool}{l : List Val}(h : (bB (at_ l 0) (aC b) || bB (at_ l 1) (aC b)) = true) : aC b = kl b l:=by
 unfold kl; rw [if_pos (by simpa using h)]
theorem qI{b : Bool}{l : List Val}(h : (bB (at_ l 0) (aC b) || bB (at_ l 1) (aC b)) = false) : (aK l).getD (aC (!b)) = kl b l:=by
 unfold kl; rw [if_neg (by
  intro hc
  have : (bB (at_ l 0) (aC b) || bB (at_ l 1) (aC b)) = true:=by simpa using hc
  rw [this] at h; cases h)]
theorem JV{l : List Val}(hl : l.length = 3)(hr : l.all aq = true)(hk : kdF 22 l = true) : (nA 22 l).1 = rvF 22 l:=by
 show (if (at_ l 0).kind == 0 then at_ l 0 else if bB (at_ l 0) (aC true) == true then at_ l 1 else at_ l 2) = (if (at_ l 0).kind == 0 then at_ l 0 else if (at_ l 0).num == 1 then at_ l 1 else at_ l 2)
 by_cases h0 : ((at_ l 0).kind == 0) = true
 ·rw [if_pos h0,if_pos h0]
 ·rw [if_neg h0,if_neg h0]
  have h1 : isV (at_ l 0) 1 = true:=by
   have : (isV (at_ l 0) 1 && gG (at_ l (l.length - 2)) (at_ l (l.length - 1))) = true:=hk
   simp at this; exact this.1
  have hk1:=sb h1 (by simpa using h0)
  rw [Aq (dH hr (i:=0) (by omega)) hk1]
  simp [aC]
theorem ne2{b : Bool} : ((if b = true then (0 : Int) else 2) != 0) = !b:=by cases b <;> rfl
theorem eJ(v : Val) : CallA Tryz.prog 227 [bc v] [] (.one (.d (.int .i64 (if aq v = true then 0 else 2)))) []:=Dx v.kind v.num v.den v.str
theorem rl(op : Int)(hop : 4≤op∧op≤8)(l : List Val)(hl : l.length = 1) : CallA Tryz.prog 234 [.one (.d (.int .i64 op)),.one (.d (aG l))] [] (.one (.d (.bool (kdF op l)))) []:=by
 match l,hl with
 | [a],_=>exact LO op hop a
theorem fS(op : Int)(hop : 9≤op∧op≤21)(l : List Val)(hl : l.length = 2) : CallA Tryz.prog 234 [.one (.d (.int .i64 op)),.one (.d (aG l))] [] (.one (.d (.bool (kdF op l)))) []:=by
 match l,hl with
 | [a,b],_=>exact LP op hop a b
theorem LQ(l : List Val)(hl : l.length = 3) : CallA Tryz.prog 234 [.one (.d (.int .i64 22)),.one (.d (aG l))] [] (.one (.d (.bool (kdF 22 l)))) []:=by
 match l,hl with
 | [a,b,c],_=>exact LR a b c
theorem zm{a : Int}(h : a = 1) : a≠2:=by omega
theorem kd1{op : Int}{l : List Val}{k : Int}(hr : l.all aq = true)(hk : l.all (fun v=>isV v k) = true)(hm : aK l = none){i : Nat}(hi : i < l.length) : aq (at_ l i) = true∧(at_ l i).kind = k:=⟨dH hr hi,sb (dH hk hi) (nK hm hi)⟩
theorem eX{op : Int}{l : List Val}{rv : Val}(hall : l.all aq = true)(hk : (!kdF op l) = false)(hm : frF op = true∨aK l = none)(h : rv = rvF op l) : cW (rv,0) = cW (doF op l):=by
 unfold doF doG
 rw [if_pos hall,if_pos (by simpa using hk)]
 rcases hm with hm | hm
 ·rw [if_pos hm,h]
 ·rw [hm,← h]; split <;> rfl
theorem gq{op : Int}{l : List Val}(hall : ¬ l.all aq = true) : cW (lg,2) = cW (doF op l):=by unfold doF; rw [DS hall]
theorem gr{op : Int}{l : List Val}(hall : l.all aq = true)(hk : (!kdF op l) = true) : cW (lg,12) = cW (doF op l):=by unfold doF; rw [DT hall hk]
theorem jv{op : Int}{l : List Val}{k : Nat}(hall : l.all aq = true)(hk : (!kdF op l) = false)(hf : frF op = false)(hq : aK l = aK (l.drop k))(hlt : k < l.length)(h : ((at_ l k).kind == 0) = true) : cW (at_ l k,0) = cW (doF op l):=by
 unfold doF; rw [uO hall hk (by rw [hf]; rfl),hq,mN hlt h]; rfl
theorem Fy{b : Bool}{op : Int}{l : List Val}{k : Nat}(hop : op = 19∧b = false∨op = 20∧b = true)(hall : l.all aq = true)(hk : (!kdF op l) = false)(hs : (bB (at_ l 0) (aC b) || bB (at_ l 1) (aC b)) = false)(hq : aK l = aK (l.drop k))(hlt : k < l.length)(h : ((at_ l k).kind == 0) = true) : cW (at_ l k,0) = cW (doF op l):=by
 refine eX hall hk (.inl ?_) ?_
 ·rcases hop with ⟨rfl,_⟩ | ⟨rfl,_⟩ <;> rfl
 ·have e:=qI hs
  rw [hq,mN hlt h] at e
  have e2 : at_ l k = kl b l:=e
  rcases hop with ⟨rfl,rfl⟩ | ⟨rfl,rfl⟩ <;> exact e2
def flT(v : Val) : Bool×Nat×Nat:=(ngV v && decide ((if ngV v = true∧naV v % dnV v≠0 then naV v / dnV v + 1 else naV v / dnV v)≠0),(if ngV v = true∧naV v % dnV v≠0 then naV v / dnV v + 1 else naV v / dnV v),1)
theorem N4(v : Val)(hr : aq v = true)(hk : v.kind = 2) : CallA Tryz.prog 240 [b9 (cV v)] [] (b9 (flT v)) []:=by
 have n:=iI hr hk
 have r:=(n.w n).len
 exact QJ (cV v) _ rfl n.b.1 (Nat.le_trans (jS (Nat.le_mul_of_pos_right _ n.b.1)) r.2.1) (Nat.le_trans (jS (Nat.le_mul_of_pos_right _ n.b.1)) r.2.2.2.1) (Nat.le_trans (jS (Nat.div_le_self _ _)) r.1.1)
set_option maxHeartbeats 2000000 in
theorem Lv(l : List Val)(hl : l.length = 1) : CallA Tryz.prog 187 [.one (.d (.int .i64 4)),.one (.d (aG l))] [] (cW (doF 4 l)) []:=by
 have h228 : CallA Tryz.prog 228 [.one (.d (.int .i64 4))] [] (.one (.d (.int .i64 1))) []:=fR 4
 have hlen : (((l.map ab).length : Int) != 1) = false:=by rw [List.length_map,hl]; rfl
 have hkc:=rl 4 ⟨by omega,by omega⟩ l hl
 have hsc:=ry 4 ⟨by omega,by omega⟩ l hl
 have hx : l.all aq = true→kdF 4 l = true→aK l = none→aq (at_ l 0) = true∧(at_ l 0).kind = 1:=fun hr hk hm=>kd1 (op:=0) hr hk hm (by omega)
 all_goals refine enter af Tryz.func187 rfl (by decide +kernel) rfl fun hok w0 σ0 φ0 M=>?_
 all_goals clear hok
 repeat' (first|(refine h1H ?_; (refine h0H ?_; first|refine aa J J J J J J J J (h228) J ?_|refine aa J J J J J J J J (eJ _) J ?_|refine aa J J J J J J J J (hkc) J ?_|refine aa J J J J J J J J (hsc) J ?_|refine aa J J J J J J J J (l7 _ (hx (ak hq ‹decide ((k : Int) < ((l.map ab).length : Int)) = false›) (by simpa using ‹(!kdF 4 l) = false›) (aw hq1 h)).1 (zm (hx (ak hq ‹decide ((k : Int) < ((l.map ab).length : Int)) = false›) (by simpa using ‹(!kdF 4 l) = false›) (aw hq1 h)).2)) J ?_))|(refine h3H ?_; (refine h2H ?_; refine d_l J J (aB J J J J J J (lW _) J) ?_))|refine wG ?_|(refine h4H ?_; first|refine ah J (fun h=>?_) (fun h=>?_)|refine aH 4 J [(0,_),(1,_),(4,_)] (q3Q J J J) (fun (k : Nat)=>[(6,.one (.d (.int .i64 (k : Int))))]) (fun (k : Nat)=>k≤l.length∧l.all aq = (l.drop k).all aq) (fun (k : Nat)=>l.length - k) 0 (q1Q J) ?_ (fun k ⟨hk0,hq⟩=>?_)|refine aH 14 J [(0,_),(1,_),(4,_)] (q3Q J J J) (fun (j : Nat)=>[(9,.one (.d (.int .i64 (j : Int))))]) (fun (j : Nat)=>j≤l.length∧aK l = aK (l.drop j)) (fun (j : Nat)=>l.length - j) 0 (q1Q J) ?_ (fun j ⟨hk1,hq1⟩=>?_))|(show Exists _; first|refine Exists.intro (j + 1) ⟨?_,?_,wK,(q1Q J),(q3Q J J J)⟩|refine Exists.intro (k + 1) ⟨?_,?_,wK,(q1Q J),(q3Q J J J)⟩))
 all_goals first
  | exact ⟨Nat.zero_le _,rfl⟩
  | exact gq (ed hq (by simpa using ‹decide ((k : Int) < ((l.map ab).length : Int)) = true›) (by rw [← ne2]; exact h))
  | (have hlt : k < l.length:=by simpa using ‹decide ((k : Int) < ((l.map ab).length : Int)) = true›
     exact ⟨hlt,ee hq hlt (by rw [← ne2]; exact h)⟩)
  | (have hlt : k < l.length:=by simpa using ‹decide ((k : Int) < ((l.map ab).length : Int)) = true›
     show l.length - (k + 1) < l.length - k
     omega)
  | exact gr (ak hq ‹decide ((k : Int) < ((l.map ab).length : Int)) = false›) h
  | exact eX (rv:=aC (bB (at_ l 0) (aC false) == true)) (ak hq ‹decide ((k : Int) < ((l.map ab).length : Int)) = false›) ‹(!kdF 4 l) = false› (.inr (aw hq1 h)) (H0 (hx (ak hq ‹decide ((k : Int) < ((l.map ab).length : Int)) = false›) (by simpa using ‹(!kdF 4 l) = false›) (aw hq1 h)).1 (hx (ak hq ‹decide ((k : Int) < ((l.map ab).length : Int)) = false›) (by simpa using ‹(!kdF 4 l) = false›) (aw hq1 h)).2)
  | exact jv (ak hq ‹decide ((k : Int) < ((l.map ab).length : Int)) = false›) ‹(!kdF 4 l) = false› rfl hq1 (by simpa using ‹decide ((j : Int) < ((l.map ab).length : Int)) = true›) h
  | (have hlt : j < l.length:=by simpa using ‹decide ((j : Int) < ((l.map ab).length : Int)) = true›
     exact ⟨hlt,hq1.trans (cQ hlt h)⟩)
  | (have hlt : j < l.length:=by simpa using ‹decide ((j : Int) < ((l.map ab).length : Int)) = true›
     show l.length - (j + 1) < l.length - j
     omega)
  | skip
set_option maxHeartbeats 2000000 in
theorem Lw(l : List Val)(hl : l.length = 1) : CallA Tryz.prog 187 [.one (.d (.int .i64 5)),.one (.d (aG l))] [] (cW (doF 5 l)) []:=by
 have h228 : CallA Tryz.prog 228 [.one (.d (.int .i64 5))] [] (.one (.d (.int .i64 1))) []:=fR 5
 have hlen : (((l.map ab).length : Int) != 1) = false:=by rw [List.length_map,hl]; rfl
 have hkc:=rl 5 ⟨by omega,by omega⟩ l hl
 have hsc:=ry 5 ⟨by omega,by omega⟩ l hl
 have hx : l.all aq = true→kdF 5 l = true→aK l = none→aq (at_ l 0) = true∧(at_ l 0).kind = 2:=fun hr hk hm=>kd1 (op:=0) hr hk hm (by omega)
 all_goals refine enter af Tryz.func187 rfl (by decide +kernel) rfl fun hok w0 σ0 φ0 M=>?_
 all_goals clear hok
 repeat' (first|(refine h1H ?_; (refine h0H ?_; first|refine aa J J J J J J J J (h228) J ?_|refine aa J J J J J J J J (eJ _) J ?_|refine aa J J J J J J J J (hkc) J ?_|refine aa J J J J J J J J (hsc) J ?_|refine aa J J J J J J J J (Ij _) J ?_|refine az 16 J J J J J J J J (fg _ (hx (ak hq ‹decide ((k : Int) < ((l.map ab).length : Int)) = false›) (by simpa using ‹(!kdF 5 l) = false›) (aw hq1 h)).1 (hx (ak hq ‹decide ((k : Int) < ((l.map ab).length : Int)) = false›) (by simpa using ‹(!kdF 5 l) = false›) (aw hq1 h)).2) J J J ?_|refine az 16 J J J J J J J J (LJ (cV (at_ l 0))) J J J ?_))|refine wG ?_|(refine h4H ?_; first|refine ah J (fun h=>?_) (fun h=>?_)|refine aH 4 J [(0,_),(1,_),(4,_)] (q3Q J J J) (fun (k : Nat)=>[(6,.one (.d (.int .i64 (k : Int))))]) (fun (k : Nat)=>k≤l.length∧l.all aq = (l.drop k).all aq) (fun (k : Nat)=>l.length - k) 0 (q1Q J) ?_ (fun k ⟨hk0,hq⟩=>?_)|refine aH 14 J [(0,_),(1,_),(4,_)] (q3Q J J J) (fun (j : Nat)=>[(9,.one (.d (.int .i64 (j : Int))))]) (fun (j : Nat)=>j≤l.length∧aK l = aK (l.drop j)) (fun (j : Nat)=>l.length - j) 0 (q1Q J) ?_ (fun j ⟨hk1,hq1⟩=>?_))|(show Exists _; first|refine Exists.intro (j + 1) ⟨?_,?_,wK,(q1Q J),(q3Q J J J)⟩|refine Exists.intro (k + 1) ⟨?_,?_,wK,(q1Q J),(q3Q J J J)⟩))
 all_goals first
  | exact ⟨Nat.zero_le _,rfl⟩
  | exact gq (ed hq (by simpa using ‹decide ((k : Int) < ((l.map ab).length : Int)) = true›) (by rw [← ne2]; exact h))
  | (have hlt : k < l.length:=by simpa using ‹decide ((k : Int) < ((l.map ab).length : Int)) = true›
     exact ⟨hlt,ee hq hlt (by rw [← ne2]; exact h)⟩)
  | (have hlt : k < l.length:=by simpa using ‹decide ((k : Int) < ((l.map ab).length : Int)) = true›
     show l.length - (k + 1) < l.length - k
     omega)
  | exact gr (ak hq ‹decide ((k : Int) < ((l.map ab).length : Int)) = false›) h
  | exact eX (rv:=vP3 (wb (cV (at_ l 0)))) (ak hq ‹decide ((k : Int) < ((l.map ab).length : Int)) = false›) ‹(!kdF 5 l) = false› (.inr (aw hq1 h)) (H2 (hx (ak hq ‹decide ((k : Int) < ((l.map ab).length : Int)) = false›) (by simpa using ‹(!kdF 5 l) = false›) (aw hq1 h)).1 (hx (ak hq ‹decide ((k : Int) < ((l.map ab).length : Int)) = false›) (by simpa using ‹(!kdF 5 l) = false›) (aw hq1 h)).2)
  | exact jv (ak hq ‹decide ((k : Int) < ((l.map ab).length : Int)) = false›) ‹(!kdF 5 l) = false› rfl hq1 (by simpa using ‹decide ((j : Int) < ((l.map ab).length : Int)) = true›) h
  | (have hlt : j < l.length:=by simpa using ‹decide ((j : Int) < ((l.map ab).length : Int)) = true›
     exact ⟨hlt,hq1.trans (cQ hlt h)⟩)
  | (have hlt : j < l.length:=by simpa using ‹decide ((j : Int) < ((l.map ab).length : Int)) = true›
     show l.length - (j + 1) < l.length - j
     omega)
  | skip
set_option maxHeartbeats 2000000 in
theorem Lx(l : List Val)(hl : l.length = 1) : CallA Tryz.prog 187 [.one (.d (.int .i64 6)),.one (.d (aG l))] [] (cW (doF 6 l)) []:=by
 have h228 : CallA Tryz.prog 228 [.one (.d (.int .i64 6))] [] (.one (.d (.int .i64 1))) []:=fR 6
 have hlen : (((l.map ab).length : Int) != 1) = false:=by rw [List.length_map,hl]; rfl
 have hkc:=rl 6 ⟨by omega,by omega⟩ l hl
 have hsc:=ry 6 ⟨by omega,by omega⟩ l hl
 have hx : l.all aq = true→kdF 6 l = true→aK l = none→aq (at_ l 0) = true∧(at_ l 0).kind = 2:=fun hr hk hm=>kd1 (op:=0) hr hk hm (by omega)
 all_goals refine enter af Tryz.func187 rfl (by decide +kernel) rfl fun hok w0 σ0 φ0 M=>?_
 all_goals clear hok
 repeat' (first|(refine h1H ?_; (refine h0H ?_; first|refine aa J J J J J J J J (h228) J ?_|refine aa J J J J J J J J (eJ _) J ?_|refine aa J J J J J J J J (hkc) J ?_|refine aa J J J J J J J J (hsc) J ?_|refine aa J J J J J J J J (Ij _) J ?_|refine az 16 J J J J J J J J (fg _ (hx (ak hq ‹decide ((k : Int) < ((l.map ab).length : Int)) = false›) (by simpa using ‹(!kdF 6 l) = false›) (aw hq1 h)).1 (hx (ak hq ‹decide ((k : Int) < ((l.map ab).length : Int)) = false›) (by simpa using ‹(!kdF 6 l) = false›) (aw hq1 h)).2) J J J ?_|refine az 16 J J J J J J J J (N4 _ (hx (ak hq ‹decide ((k : Int) < ((l.map ab).length : Int)) = false›) (by simpa using ‹(!kdF 6 l) = false›) (aw hq1 h)).1 (hx (ak hq ‹decide ((k : Int) < ((l.map ab).length : Int)) = false›) (by simpa using ‹(!kdF 6 l) = false›) (aw hq1 h)).2) J J J ?_))|refine wG ?_|(refine h4H ?_; first|refine ah J (fun h=>?_) (fun h=>?_)|refine aH 4 J [(0,_),(1,_),(4,_)] (q3Q J J J) (fun (k : Nat)=>[(6,.one (.d (.int .i64 (k : Int))))]) (fun (k : Nat)=>k≤l.length∧l.all aq = (l.drop k).all aq) (fun (k : Nat)=>l.length - k) 0 (q1Q J) ?_ (fun k ⟨hk0,hq⟩=>?_)|refine aH 14 J [(0,_),(1,_),(4,_)] (q3Q J J J) (fun (j : Nat)=>[(9,.one (.d (.int .i64 (j : Int))))]) (fun (j : Nat)=>j≤l.length∧aK l = aK (l.drop j)) (fun (j : Nat)=>l.length - j) 0 (q1Q J) ?_ (fun j ⟨hk1,hq1⟩=>?_))|(show Exists _; first|refine Exists.intro (j + 1) ⟨?_,?_,wK,(q1Q J),(q3Q J J J)⟩|refine Exists.intro (k + 1) ⟨?_,?_,wK,(q1Q J),(q3Q J J J)⟩))
 all_goals first
  | exact ⟨Nat.zero_le _,rfl⟩
  | exact gq (ed hq (by simpa using ‹decide ((k : Int) < ((l.map ab).length : Int)) = true›) (by rw [← ne2]; exact h))
  | (have hlt : k < l.length:=by simpa using ‹decide ((k : Int) < ((l.map ab).length : Int)) = true›
     exact ⟨hlt,ee hq hlt (by rw [← ne2]; exact h)⟩)
  | (have hlt : k < l.length:=by simpa using ‹decide ((k : Int) < ((l.map ab).length : Int)) = true›
     show l.length - (k + 1) < l.length - k
     omega)
  | exact gr (ak hq ‹decide ((k : Int) < ((l.map ab).length : Int)) = false›) h
  | exact eX (rv:=vP3 (flT (at_ l 0))) (ak hq ‹decide ((k : Int) < ((l.map ab).length : Int)) = false›) ‹(!kdF 6 l) = false› (.inr (aw hq1 h)) En
  | exact jv (ak hq ‹decide ((k : Int) < ((l.map ab).length : Int)) = false›) ‹(!kdF 6 l) = false› rfl hq1 (by simpa using ‹decide ((j : Int) < ((l.map ab).length : Int)) = true›) h
  | (have hlt : j < l.length:=by simpa using ‹decide ((j : Int) < ((l.map ab).length : Int)) = true›
     exact ⟨hlt,hq1.trans (cQ hlt h)⟩)
  | (have hlt : j < l.length:=by simpa using ‹decide ((j : Int) < ((l.map ab).length : Int)) = true›
     show l.length - (j + 1) < l.length - j
     omega)
  | skip
set_option maxHeartbeats 2000000 in
theorem Ly(l : List Val)(hl : l.length = 1) : CallA Tryz.prog 187 [.one (.d (.int .i64 7)),.one (.d (aG l))] [] (cW (doF 7 l)) []:=by
 have h228 : CallA Tryz.prog 228 [.one (.d (.int .i64 7))] [] (.one (.d (.int .i64 1))) []:=fR 7
 have hlen : (((l.map ab).length : Int) != 1) = false:=by rw [List.length_map,hl]; rfl
 have hkc:=rl 7 ⟨by omega,by omega⟩ l hl
 have hsc:=ry 7 ⟨by omega,by omega⟩ l hl
 all_goals refine enter af Tryz.func187 rfl (by decide +kernel) rfl fun hok w0 σ0 φ0 M=>?_
 all_goals clear hok
 repeat' (first|(refine h1H ?_; (refine h0H ?_; first|refine aa J J J J J J J J (h228) J ?_|refine aa J J J J J J J J (eJ _) J ?_|refine aa J J J J J J J J (hkc) J ?_|refine aa J J J J J J J J (hsc) J ?_))|refine wG ?_|(refine h4H ?_; first|refine ah J (fun h=>?_) (fun h=>?_)|refine aH 4 J [(0,_),(1,_),(4,_)] (q3Q J J J) (fun (k : Nat)=>[(6,.one (.d (.int .i64 (k : Int))))]) (fun (k : Nat)=>k≤l.length∧l.all aq = (l.drop k).all aq) (fun (k : Nat)=>l.length - k) 0 (q1Q J) ?_ (fun k ⟨hk0,hq⟩=>?_))|(show Exists _; refine Exists.intro (k + 1) ⟨?_,?_,wK,(q1Q J),(q3Q J J J)⟩))
 all_goals first
  | exact ⟨Nat.zero_le _,rfl⟩
  | exact gq (ed hq (by simpa using ‹decide ((k : Int) < ((l.map ab).length : Int)) = true›) (by rw [← ne2]; exact h))
  | (have hlt : k < l.length:=by simpa using ‹decide ((k : Int) < ((l.map ab).length : Int)) = true›
     exact ⟨hlt,ee hq hlt (by rw [← ne2]; exact h)⟩)
  | (have hlt : k < l.length:=by simpa using ‹decide ((k : Int) < ((l.map ab).length : Int)) = true›
     show l.length - (k + 1) < l.length - k
     omega)
  | exact gr (ak hq ‹decide ((k : Int) < ((l.map ab).length : Int)) = false›) h
  | exact eX (rv:=(nA 7 l).1) (ak hq ‹decide ((k : Int) < ((l.map ab).length : Int)) = false›) rfl (.inl rfl) rfl
  | skip
set_option maxHeartbeats 2000000 in
theorem LA(l : List Val)(hl : l.length = 1) : CallA Tryz.prog 187 [.one (.d (.int .i64 8)),.one (.d (aG l))] [] (cW (doF 8 l)) []:=by
 have h228 : CallA Tryz.prog 228 [.one (.d (.int .i64 8))] [] (.one (.d (.int .i64 1))) []:=fR 8
 have hlen : (((l.map ab).length : Int) != 1) = false:=by rw [List.length_map,hl]; rfl
 have hkc:=rl 8 ⟨by omega,by omega⟩ l hl
 have hsc:=ry 8 ⟨by omega,by omega⟩ l hl
 all_goals refine enter af Tryz.func187 rfl (by decide +kernel) rfl fun hok w0 σ0 φ0 M=>?_
 all_goals clear hok
 repeat' (first|(refine h1H ?_; (refine h0H ?_; first|refine aa J J J J J J J J (h228) J ?_|refine aa J J J J J J J J (eJ _) J ?_|refine aa J J J J J J J J (hkc) J ?_|refine aa J J J J J J J J (hsc) J ?_))|refine wG ?_|(refine h4H ?_; first|refine ah J (fun h=>?_) (fun h=>?_)|refine aH 4 J [(0,_),(1,_),(4,_)] (q3Q J J J) (fun (k : Nat)=>[(6,.one (.d (.int .i64 (k : Int))))]) (fun (k : Nat)=>k≤l.length∧l.all aq = (l.drop k).all aq) (fun (k : Nat)=>l.length - k) 0 (q1Q J) ?_ (fun k ⟨hk0,hq⟩=>?_))|(show Exists _; refine Exists.intro (k + 1) ⟨?_,?_,wK,(q1Q J),(q3Q J J J)⟩))
 all_goals first
  | exact ⟨Nat.zero_le _,rfl⟩
  | exact gq (ed hq (by simpa using ‹decide ((k : Int) < ((l.map ab).length : Int)) = true›) (by rw [← ne2]; exact h))
  | (have hlt : k < l.length:=by simpa using ‹decide ((k : Int) < ((l.map ab).length : Int)) = true›
     exact ⟨hlt,ee hq hlt (by rw [← ne2]; exact h)⟩)
  | (have hlt : k < l.length:=by simpa using ‹decide ((k : Int) < ((l.map ab).length : Int)) = true›
     show l.length - (k + 1) < l.length - k
     omega)
  | exact gr (ak hq ‹decide ((k : Int) < ((l.map ab).length : Int)) = false›) h
  | exact eX (rv:=(nA 8 l).1) (ak hq ‹decide ((k : Int) < ((l.map ab).length : Int)) = false›) rfl (.inl rfl) rfl
  | skip
set_option maxHeartbeats 2000000 in
theorem LB(l : List Val)(hl : l.length = 2) : CallA Tryz.prog 187 [.one (.d (.int .i64 9)),.one (.d (aG l))] [] (cW (doF 9 l)) []:=by
 have h228 : CallA Tryz.prog 228 [.one (.d (.int .i64 9))] [] (.one (.d (.int .i64 2))) []:=fR 9
 have hlen : (((l.map ab).length : Int) != 2) = false:=by rw [List.length_map,hl]; rfl
 have hkc:=fS 9 ⟨by omega,by omega⟩ l hl
 have hsc:=fT 9 ⟨by omega,by omega⟩ l hl
 have hx : l.all aq = true→kdF 9 l = true→aK l = none→(aq (at_ l 0) = true∧(at_ l 0).kind = 2)∧(aq (at_ l 1) = true∧(at_ l 1).kind = 2):=fun hr hk hm=>⟨kd1 (op:=0) hr hk hm (by omega),kd1 (op:=0) hr hk hm (by omega)⟩
 all_goals refine enter af Tryz.func187 rfl (by decide +kernel) rfl fun hok w0 σ0 φ0 M=>?_
 all_goals clear hok
 repeat' (first|(refine h1H ?_; (refine h0H ?_; first|refine aa J J J J J J J J (h228) J ?_|refine aa J J J J J J J J (eJ _) J ?_|refine aa J J J J J J J J (hkc) J ?_|refine aa J J J J J J J J (hsc) J ?_|refine aa J J J J J J J J (DR 9 (cV (at_ l 0)) (cV (at_ l 1)) ⟨by omega,by omega⟩ (NumOk.w (iI (hx (ak hq ‹decide ((k : Int) < ((l.map ab).length : Int)) = false›) (by simpa using ‹(!kdF 9 l) = false›) (aw hq1 h)).1.1 (hx (ak hq ‹decide ((k : Int) < ((l.map ab).length : Int)) = false›) (by simpa using ‹(!kdF 9 l) = false›) (aw hq1 h)).1.2) (iI (hx (ak hq ‹decide ((k : Int) < ((l.map ab).length : Int)) = false›) (by simpa using ‹(!kdF 9 l) = false›) (aw hq1 h)).2.1 (hx (ak hq ‹decide ((k : Int) < ((l.map ab).length : Int)) = false›) (by simpa using ‹(!kdF 9 l) = false›) (aw hq1 h)).2.2)) (fun h=>by omega)) J ?_|refine az 16 J J J J J J J J (fg (at_ l 0) (hx (ak hq ‹decide ((k : Int) < ((l.map ab).length : Int)) = false›) (by simpa using ‹(!kdF 9 l) = false›) (aw hq1 h)).1.1 (hx (ak hq ‹decide ((k : Int) < ((l.map ab).length : Int)) = false›) (by simpa using ‹(!kdF 9 l) = false›) (aw hq1 h)).1.2) J J J ?_|refine az 16 J J J J J J J J (fg (at_ l 1) (hx (ak hq ‹decide ((k : Int) < ((l.map ab).length : Int)) = false›) (by simpa using ‹(!kdF 9 l) = false›) (aw hq1 h)).2.1 (hx (ak hq ‹decide ((k : Int) < ((l.map ab).length : Int)) = false›) (by simpa using ‹(!kdF 9 l) = false›) (aw hq1 h)).2.2) J J J ?_))|refine wG ?_|(refine h4H ?_; first|refine ah J (fun h=>?_) (fun h=>?_)|refine aH 4 J [(0,_),(1,_),(4,_)] (q3Q J J J) (fun (k : Nat)=>[(6,.one (.d (.int .i64 (k : Int))))]) (fun (k : Nat)=>k≤l.length∧l.all aq = (l.drop k).all aq) (fun (k : Nat)=>l.length - k) 0 (q1Q J) ?_ (fun k ⟨hk0,hq⟩=>?_)|refine aH 14 J [(0,_),(1,_),(4,_)] (q3Q J J J) (fun (j : Nat)=>[(9,.one (.d (.int .i64 (j : Int))))]) (fun (j : Nat)=>j≤l.length∧aK l = aK (l.drop j)) (fun (j : Nat)=>l.length - j) 0 (q1Q J) ?_ (fun j ⟨hk1,hq1⟩=>?_))|(show Exists _; first|refine Exists.intro (j + 1) ⟨?_,?_,wK,(q1Q J),(q3Q J J J)⟩|refine Exists.intro (k + 1) ⟨?_,?_,wK,(q1Q J),(q3Q J J J)⟩))
 all_goals first
  | exact ⟨Nat.zero_le _,rfl⟩
  | exact gq (ed hq (by simpa using ‹decide ((k : Int) < ((l.map ab).length : Int)) = true›) (by rw [← ne2]; exact h))
  | (have hlt : k < l.length:=by simpa using ‹decide ((k : Int) < ((l.map ab).length : Int)) = true›
     exact ⟨hlt,ee hq hlt (by rw [← ne2]; exact h)⟩)
  | (have hlt : k < l.length:=by simpa using ‹decide ((k : Int) < ((l.map ab).length : Int)) = true›
     show l.length - (k + 1) < l.length - k
     omega)
  | exact gr (ak hq ‹decide ((k : Int) < ((l.map ab).length : Int)) = false›) h
  | exact eX (rv:=vP3 (arW 9 (cV (at_ l 0)) (cV (at_ l 1)))) (ak hq ‹decide ((k : Int) < ((l.map ab).length : Int)) = false›) ‹(!kdF 9 l) = false› (.inr (aw hq1 h)) rfl
  | exact jv (ak hq ‹decide ((k : Int) < ((l.map ab).length : Int)) = false›) ‹(!kdF 9 l) = false› rfl hq1 (by simpa using ‹decide ((j : Int) < ((l.map ab).length : Int)) = true›) h
  | (have hlt : j < l.length:=by simpa using ‹decide ((j : Int) < ((l.map ab).length : Int)) = true›
     exact ⟨hlt,hq1.trans (cQ hlt h)⟩)
  | (have hlt : j < l.length:=by simpa using ‹decide ((j : Int) < ((l.map ab).length : Int)) = true›
     show l.length - (j + 1) < l.length - j
     omega)
  | skip
set_option maxHeartbeats 2000000 in
theorem Jw(l : List Val)(hl : l.length = 2) : CallA Tryz.prog 187 [.one (.d (.int .i64 10)),.one (.d (aG l))] [] (cW (doF 10 l)) []:=by
 have h228 : CallA Tryz.prog 228 [.one (.d (.int .i64 10))] [] (.one (.d (.int .i64 2))) []:=fR 10
 have hlen : (((l.map ab).length : Int) != 2) = false:=by rw [List.length_map,hl]; rfl
 have hkc:=fS 10 ⟨by omega,by omega⟩ l hl
 have hsc:=fT 10 ⟨by omega,by omega⟩ l hl
 have hx : l.all aq = true→kdF 10 l = true→aK l = none→(aq (at_ l 0) = true∧(at_ l 0).kind = 2)∧(aq (at_ l 1) = true∧(at_ l 1).kind = 2):=fun hr hk hm=>⟨kd1 (op:=0) hr hk hm (by omega),kd1 (op:=0) hr hk hm (by omega)⟩
 all_goals refine enter af Tryz.func187 rfl (by decide +kernel) rfl fun hok w0 σ0 φ0 M=>?_
 all_goals clear hok
 repeat' (first|(refine h1H ?_; (refine h0H ?_; first|refine aa J J J J J J J J (h228) J ?_|refine aa J J J J J J J J (eJ _) J ?_|refine aa J J J J J J J J (hkc) J ?_|refine aa J J J J J J J J (hsc) J ?_|refine aa J J J J J J J J (DR 10 (cV (at_ l 0)) (cV (at_ l 1)) ⟨by omega,by omega⟩ (NumOk.w (iI (hx (ak hq ‹decide ((k : Int) < ((l.map ab).length : Int)) = false›) (by simpa using ‹(!kdF 10 l) = false›) (aw hq1 h)).1.1 (hx (ak hq ‹decide ((k : Int) < ((l.map ab).length : Int)) = false›) (by simpa using ‹(!kdF 10 l) = false›) (aw hq1 h)).1.2) (iI (hx (ak hq ‹decide ((k : Int) < ((l.map ab).length : Int)) = false›) (by simpa using ‹(!kdF 10 l) = false›) (aw hq1 h)).2.1 (hx (ak hq ‹decide ((k : Int) < ((l.map ab).length : Int)) = false›) (by simpa using ‹(!kdF 10 l) = false›) (aw hq1 h)).2.2)) (fun h=>by omega)) J ?_|refine az 16 J J J J J J J J (fg (at_ l 0) (hx (ak hq ‹decide ((k : Int) < ((l.map ab).length : Int)) = false›) (by simpa using ‹(!kdF 10 l) = false›) (aw hq1 h)).1.1 (hx (ak hq ‹decide ((k : Int) < ((l.map ab).length : Int)) = false›) (by simpa using ‹(!kdF 10 l) = false›) (aw hq1 h)).1.2) J J J ?_|refine az 16 J J J J J J J J (fg (at_ l 1) (hx (ak hq ‹decide ((k : Int) < ((l.map ab).length : Int)) = false›) (by simpa using ‹(!kdF 10 l) = false›) (aw hq1 h)).2.1 (hx (ak hq ‹decide ((k : Int) < ((l.map ab).length : Int)) = false›) (by simpa using ‹(!kdF 10 l) = false›) (aw hq1 h)).2.2) J J J ?_))|refine wG ?_|(refine h4H ?_; first|refine ah J (fun h=>?_) (fun h=>?_)|refine aH 4 J [(0,_),(1,_),(4,_)] (q3Q J J J) (fun (k : Nat)=>[(6,.one (.d (.int .i64 (k : Int))))]) (fun (k : Nat)=>k≤l.length∧l.all aq = (l.drop k).all aq) (fun (k : Nat)=>l.length - k) 0 (q1Q J) ?_ (fun k ⟨hk0,hq⟩=>?_)|refine aH 14 J [(0,_),(1,_),(4,_)] (q3Q J J J) (fun (j : Nat)=>[(9,.one (.d (.int .i64 (j : Int))))]) (fun (j : Nat)=>j≤l.length∧aK l = aK (l.drop j)) (fun (j : Nat)=>l.length - j) 0 (q1Q J) ?_ (fun j ⟨hk1,hq1⟩=>?_))|(show Exists _; first|refine Exists.intro (j + 1) ⟨?_,?_,wK,(q1Q J),(q3Q J J J)⟩|refine Exists.intro (k + 1) ⟨?_,?_,wK,(q1Q J),(q3Q J J J)⟩))
 all_goals first
  | exact ⟨Nat.zero_le _,rfl⟩
  | exact gq (ed hq (by simpa using ‹decide ((k : Int) < ((l.map ab).length : Int)) = true›) (by rw [← ne2]; exact h))
  | (have hlt : k < l.length:=by simpa using ‹decide ((k : Int) < ((l.map ab).length : Int)) = true›
     exact ⟨hlt,ee hq hlt (by rw [← ne2]; exact h)⟩)
  | (have hlt : k < l.length:=by simpa using ‹decide ((k : Int) < ((l.map ab).length : Int)) = true›
     show l.length - (k + 1) < l.length - k
     omega)
  | exact gr (ak hq ‹decide ((k : Int) < ((l.map ab).length : Int)) = false›) h
  | exact eX (rv:=vP3 (arW 10 (cV (at_ l 0)) (cV (at_ l 1)))) (ak hq ‹decide ((k : Int) < ((l.map ab).length : Int)) = false›) ‹(!kdF 10 l) = false› (.inr (aw hq1 h)) rfl
  | exact jv (ak hq ‹decide ((k : Int) < ((l.map ab).length : Int)) = false›) ‹(!kdF 10 l) = false› rfl hq1 (by simpa using ‹decide ((j : Int) < ((l.map ab).length : Int)) = true›) h
  | (have hlt : j < l.length:=by simpa using ‹decide ((j : Int) < ((l.map ab).length : Int)) = true›
     exact ⟨hlt,hq1.trans (cQ hlt h)⟩)
  | (have hlt : j < l.length:=by simpa using ‹decide ((j : Int) < ((l.map ab).length : Int)) = true›
     show l.length - (j + 1) < l.length - j
     omega)
  | skip
set_option maxHeartbeats 2000000 in
theorem Jx(l : List Val)(hl : l.length = 2) : CallA Tryz.prog 187 [.one (.d (.int .i64 11)),.one (.d (aG l))] [] (cW (doF 11 l)) []:=by
 have h228 : CallA Tryz.prog 228 [.one (.d (.int .i64 11))] [] (.one (.d (.int .i64 2))) []:=fR 11
 have hlen : (((l.map ab).length : Int) != 2) = false:=by rw [List.length_map,hl]; rfl
 have hkc:=fS 11 ⟨by omega,by omega⟩ l hl
 have hsc:=fT 11 ⟨by omega,by omega⟩ l hl
 have hx : l.all aq = true→kdF 11 l = true→aK l = none→(aq (at_ l 0) = true∧(at_ l 0).kind = 2)∧(aq (at_ l 1) = true∧(at_ l 1).kind = 2):=fun hr hk hm=>⟨kd1 (op:=0) hr hk hm (by omega),kd1 (op:=0) hr hk hm (by omega)⟩
 all_goals refine enter af Tryz.func187 rfl (by decide +kernel) rfl fun hok w0 σ0 φ0 M=>?_
 all_goals clear hok
 repeat' (first|(refine h1H ?_; (refine h0H ?_; first|refine aa J J J J J J J J (h228) J ?_|refine aa J J J J J J J J (eJ _) J ?_|refine aa J J J J J J J J (hkc) J ?_|refine aa J J J J J J J J (hsc) J ?_|refine aa J J J J J J J J (DR 11 (cV (at_ l 0)) (cV (at_ l 1)) ⟨by omega,by omega⟩ (NumOk.w (iI (hx (ak hq ‹decide ((k : Int) < ((l.map ab).length : Int)) = false›) (by simpa using ‹(!kdF 11 l) = false›) (aw hq1 h)).1.1 (hx (ak hq ‹decide ((k : Int) < ((l.map ab).length : Int)) = false›) (by simpa using ‹(!kdF 11 l) = false›) (aw hq1 h)).1.2) (iI (hx (ak hq ‹decide ((k : Int) < ((l.map ab).length : Int)) = false›) (by simpa using ‹(!kdF 11 l) = false›) (aw hq1 h)).2.1 (hx (ak hq ‹decide ((k : Int) < ((l.map ab).length : Int)) = false›) (by simpa using ‹(!kdF 11 l) = false›) (aw hq1 h)).2.2)) (fun h=>by omega)) J ?_|refine az 16 J J J J J J J J (fg (at_ l 0) (hx (ak hq ‹decide ((k : Int) < ((l.map ab).length : Int)) = false›) (by simpa using ‹(!kdF 11 l) = false›) (aw hq1 h)).1.1 (hx (ak hq ‹decide ((k : Int) < ((l.map ab).length : Int)) = false›) (by simpa using ‹(!kdF 11 l) = false›) (aw hq1 h)).1.2) J J J ?_|refine az 16 J J J J J J J J (fg (at_ l 1) (hx (ak hq ‹decide ((k : Int) < ((l.map ab).length : Int)) = false›) (by simpa using ‹(!kdF 11 l) = false›) (aw hq1 h)).2.1 (hx (ak hq ‹decide ((k : Int) < ((l.map ab).length : Int)) = false›) (by simpa using ‹(!kdF 11 l) = false›) (aw hq1 h)).2.2) J J J ?_))|refine wG ?_|(refine h4H ?_; first|refine ah J (fun h=>?_) (fun h=>?_)|refine aH 4 J [(0,_),(1,_),(4,_)] (q3Q J J J) (fun (k : Nat)=>[(6,.one (.d (.int .i64 (k : Int))))]) (fun (k : Nat)=>k≤l.length∧l.all aq = (l.drop k).all aq) (fun (k : Nat)=>l.length - k) 0 (q1Q J) ?_ (fun k ⟨hk0,hq⟩=>?_)|refine aH 14 J [(0,_),(1,_),(4,_)] (q3Q J J J) (fun (j : Nat)=>[(9,.one (.d (.int .i64 (j : Int))))]) (fun (j : Nat)=>j≤l.length∧aK l = aK (l.drop j)) (fun (j : Nat)=>l.length - j) 0 (q1Q J) ?_ (fun j ⟨hk1,hq1⟩=>?_))|(show Exists _; first|refine Exists.intro (j + 1) ⟨?_,?_,wK,(q1Q J),(q3Q J J J)⟩|refine Exists.intro (k + 1) ⟨?_,?_,wK,(q1Q J),(q3Q J J J)⟩))
 all_goals first
  | exact ⟨Nat.zero_le _,rfl⟩
  | exact gq (ed hq (by simpa using ‹decide ((k : Int) < ((l.map ab).length : Int)) = true›) (by rw [← ne2]; exact h))
  | (have hlt : k < l.length:=by simpa using ‹decide ((k : Int) < ((l.map ab).length : Int)) = true›
     exact ⟨hlt,ee hq hlt (by rw [← ne2]; exact h)⟩)
  | (have hlt : k < l.length:=by simpa using ‹decide ((k : Int) < ((l.map ab).length : Int)) = true›
     show l.length - (k + 1) < l.length - k
     omega)
  | exact gr (ak hq ‹decide ((k : Int) < ((l.map ab).length : Int)) = false›) h
  | exact eX (rv:=vP3 (arW 11 (cV (at_ l 0)) (cV (at_ l 1)))) (ak hq ‹decide ((k : Int) < ((l.map ab).length : Int)) = false›) ‹(!kdF 11 l) = false› (.inr (aw hq1 h)) rfl
  | exact jv (ak hq ‹decide ((k : Int) < ((l.map ab).length : Int)) = false›) ‹(!kdF 11 l) = false› rfl hq1 (by simpa using ‹decide ((j : Int) < ((l.map ab).length : Int)) = true›) h
  | (have hlt : j < l.length:=by simpa using ‹decide ((j : Int) < ((l.map ab).length : Int)) = true›
     exact ⟨hlt,hq1.trans (cQ hlt h)⟩)
  | (have hlt : j < l.length:=by simpa using ‹decide ((j : Int) < ((l.map ab).length : Int)) = true›
     show l.length - (j + 1) < l.length - j
     omega)
  | skip
set_option maxHeartbeats 2000000 in
theorem Jy(l : List Val)(hl : l.length = 2) : CallA Tryz.prog 187 [.one (.d (.int .i64 12)),.one (.d (aG l))] [] (cW (doF 12 l)) []:=by
 have h228 : CallA Tryz.prog 228 [.one (.d (.int .i64 12))] [] (.one (.d (.int .i64 2))) []:=fR 12
 have hlen : (((l.map ab).length : Int) != 2) = false:=by rw [List.length_map,hl]; rfl
 have hkc:=fS 12 ⟨by omega,by omega⟩ l hl
 have hsc:=fT 12 ⟨by omega,by omega⟩ l hl
 have hx : l.all aq = true→kdF 12 l = true→aK l = none→(aq (at_ l 0) = true∧(at_ l 0).kind = 2)∧(aq (at_ l 1) = true∧(at_ l 1).kind = 2):=fun hr hk hm=>⟨kd1 (op:=0) hr hk hm (by omega),kd1 (op:=0) hr hk hm (by omega)⟩
 by_cases hz : naV (at_ l 1) = 0
 all_goals refine enter af Tryz.func187 rfl (by decide +kernel) rfl fun hok w0 σ0 φ0 M=>?_
 all_goals clear hok
 repeat' (first|(refine h1H ?_; (refine h0H ?_; first|refine aa J J J J J J J J (h228) J ?_|refine aa J J J J J J J J (eJ _) J ?_|refine aa J J J J J J J J (hkc) J ?_|refine aa J J J J J J J J (hsc) J ?_|refine aa J J J J J J J J (DR 12 (cV (at_ l 0)) (cV (at_ l 1)) ⟨by omega,by omega⟩ (NumOk.w (iI (hx (ak hq ‹decide ((k : Int) < ((l.map ab).length : Int)) = false›) (by simpa using ‹(!kdF 12 l) = false›) (aw hq1 h)).1.1 (hx (ak hq ‹decide ((k : Int) < ((l.map ab).length : Int)) = false›) (by simpa using ‹(!kdF 12 l) = false›) (aw hq1 h)).1.2) (iI (hx (ak hq ‹decide ((k : Int) < ((l.map ab).length : Int)) = false›) (by simpa using ‹(!kdF 12 l) = false›) (aw hq1 h)).2.1 (hx (ak hq ‹decide ((k : Int) < ((l.map ab).length : Int)) = false›) (by simpa using ‹(!kdF 12 l) = false›) (aw hq1 h)).2.2)) (fun _=>hz)) J ?_|refine aa J J J J J J J J (N3 (cV (at_ l 0)) (cV (at_ l 1)) hz) J ?_|refine az 16 J J J J J J J J (fg (at_ l 0) (hx (ak hq ‹decide ((k : Int) < ((l.map ab).length : Int)) = false›) (by simpa using ‹(!kdF 12 l) = false›) (aw hq1 h)).1.1 (hx (ak hq ‹decide ((k : Int) < ((l.map ab).length : Int)) = false›) (by simpa using ‹(!kdF 12 l) = false›) (aw hq1 h)).1.2) J J J ?_|refine az 16 J J J J J J J J (fg (at_ l 1) (hx (ak hq ‹decide ((k : Int) < ((l.map ab).length : Int)) = false›) (by simpa using ‹(!kdF 12 l) = false›) (aw hq1 h)).2.1 (hx (ak hq ‹decide ((k : Int) < ((l.map ab).length : Int)) = false›) (by simpa using ‹(!kdF 12 l) = false›) (aw hq1 h)).2.2) J J J ?_))|refine wG ?_|(refine h4H ?_; first|refine ah J (fun h=>?_) (fun h=>?_)|refine aH 4 J [(0,_),(1,_),(4,_)] (q3Q J J J) (fun (k : Nat)=>[(6,.one (.d (.int .i64 (k : Int))))]) (fun (k : Nat)=>k≤l.length∧l.all aq = (l.drop k).all aq) (fun (k : Nat)=>l.length - k) 0 (q1Q J) ?_ (fun k ⟨hk0,hq⟩=>?_)|refine aH 14 J [(0,_),(1,_),(4,_)] (q3Q J J J) (fun (j : Nat)=>[(9,.one (.d (.int .i64 (j : Int))))]) (fun (j : Nat)=>j≤l.length∧aK l = aK (l.drop j)) (fun (j : Nat)=>l.length - j) 0 (q1Q J) ?_ (fun j ⟨hk1,hq1⟩=>?_))|(show Exists _; first|refine Exists.intro (j + 1) ⟨?_,?_,wK,(q1Q J),(q3Q J J J)⟩|refine Exists.intro (k + 1) ⟨?_,?_,wK,(q1Q J),(q3Q J J J)⟩))
 all_goals first
  | exact ⟨Nat.zero_le _,rfl⟩
  | exact gq (ed hq (by simpa using ‹decide ((k : Int) < ((l.map ab).length : Int)) = true›) (by rw [← ne2]; exact h))
  | (have hlt : k < l.length:=by simpa using ‹decide ((k : Int) < ((l.map ab).length : Int)) = true›
     exact ⟨hlt,ee hq hlt (by rw [← ne2]; exact h)⟩)
  | (have hlt : k < l.length:=by simpa using ‹decide ((k : Int) < ((l.map ab).length : Int)) = true›
     show l.length - (k + 1) < l.length - k
     omega)
  | exact gr (ak hq ‹decide ((k : Int) < ((l.map ab).length : Int)) = false›) h
  | exact eX (rv:=vP3 (arW 12 (cV (at_ l 0)) (cV (at_ l 1)))) (ak hq ‹decide ((k : Int) < ((l.map ab).length : Int)) = false›) ‹(!kdF 12 l) = false› (.inr (aw hq1 h)) (if_neg hz).symm
  | exact eX (rv:=⟨0,3,0,[]⟩) (ak hq ‹decide ((k : Int) < ((l.map ab).length : Int)) = false›) ‹(!kdF 12 l) = false› (.inr (aw hq1 h)) (if_pos hz).symm
  | exact jv (ak hq ‹decide ((k : Int) < ((l.map ab).length : Int)) = false›) ‹(!kdF 12 l) = false› rfl hq1 (by simpa using ‹decide ((j : Int) < ((l.map ab).length : Int)) = true›) h
  | (have hlt : j < l.length:=by simpa using ‹decide ((j : Int) < ((l.map ab).length : Int)) = true›
     exact ⟨hlt,hq1.trans (cQ hlt h)⟩)
  | (have hlt : j < l.length:=by simpa using ‹decide ((j : Int) < ((l.map ab).length : Int)) = true›
     show l.length - (j + 1) < l.length - j
     omega)
  | skip
end Go.Proofs.YtpejdgkaapnekaaGreat
