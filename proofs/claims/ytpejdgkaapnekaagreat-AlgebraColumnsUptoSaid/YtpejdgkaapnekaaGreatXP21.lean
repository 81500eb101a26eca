import Derived.Shelf.Small.Strs
import Derived.Test.YtpejdgkaapnekaaGreatXP20
import Derived.Test.YtpejdgkaapnekaaGreatXP13
import Derived.Test.YtpejdgkaapnekaaGreatXTab
import Derived.Test.YtpejdgkaapnekaaGreatXE1
import Derived.Test.YtpejdgkaapnekaaGreatXP18
import Derived.Test.YtpejdgkaapnekaaGreatXP15
import Derived.Test.YtpejdgkaapnekaaGreatXP12
import Derived.Test.YtpejdgkaapnekaaGreatXP14
set_option linter.unusedVariables false
set_option linter.unusedSimpArgs false
set_option maxHeartbeats 1000000
namespace Go.Proofs.YtpejdgkaapnekaaGreat
open Go Go.Abs
attribute [local irreducible] ae OkC ar aA av aN
set_option maxRecDepth 10000
def gW(neg : Bool)(m n : Nat) : Bool×Nat×Nat:=(neg && decide (m≠0),m / Nat.gcd m n,n / Nat.gcd m n)
def dE(s1 : Bool)(a1 b1 : Nat)(s2 : Bool)(a2 b2 : Nat)(minus : Bool) : Bool×Nat×Nat :=
 if (s1 == (!(s2 == minus))) = true then gW (!(s2 == minus)) (a1 * b2 + a2 * b1) (b1 * b2) else if a2 * b1≤a1 * b2 then gW s1 (a1 * b2 - a2 * b1) (b1 * b2) else gW (!(s2 == minus)) (a2 * b1 - a1 * b2) (b1 * b2)
theorem AG{s1 : Bool}{a1 b1 : Nat}{s2 : Bool}{a2 b2 : Nat}{minus : Bool} : pN s1 a1 b1 s2 a2 b2 minus = cz (dE s1 a1 b1 s2 a2 b2 minus).1 (dE s1 a1 b1 s2 a2 b2 minus).2.1 (dE s1 a1 b1 s2 a2 b2 minus).2.2:=by
 unfold pN dE
 split
 ·rfl
 ·split
  ·rfl
  ·rfl
def nz(t : Bool×Nat×Nat) : Int:=if t.2.2 = 0∨t.2.1 = 0 then 0 else if t.1 = true then -1 else 1
theorem Oh(hD : mT)(s1 : Bool)(a1 b1 : Nat)(s2 : Bool)(a2 b2 : Nat)(hR : RatOk a1 b1 a2 b2) : CallA Tryz.prog 322 [.one (.d (cz s1 a1 b1)),.one (.d (cz s2 a2 b2))] [] (.one (.d (cz (dE s1 a1 b1 s2 a2 b2 true).1 (dE s1 a1 b1 s2 a2 b2 true).2.1 (dE s1 a1 b1 s2 a2 b2 true).2.2))) []:=by
 rw [← AG]; exact LF hD s1 a1 b1 s2 a2 b2 hR
theorem Pr(hD : mT)(s1 : Bool)(a1 b1 : Nat)(s2 : Bool)(a2 b2 : Nat)(hR : RatOk a1 b1 a2 b2) : CallA Tryz.prog 381 [.one (.d (cz s1 a1 b1)),.one (.d (cz s2 a2 b2))] [] (.one (.d (.int .i64 (nz (dE s1 a1 b1 s2 a2 b2 true))))) []:=by
 refine enter af Tryz.func381 rfl (by decide +kernel) rfl fun hok w0 σ0 φ0 M=>?_
 clear hok
 repeat' (first|(refine h1H ?_; (refine h0H ?_; first|refine aa J J J J J J J J (Tc _ _ _) J ?_|refine az 16 J J J J J J J J (Oh hD _ _ _ _ _ _ hR) J J J ?_))|refine wG ?_)
 all_goals rfl
def mM(v : Val) : D:=cz (decide (v.num < 0)) v.num.natAbs v.den.natAbs
theorem uo(v : Val) : CallA Tryz.prog 314 [bc v] [] (.one (.d (mM v))) []:=Tf _ _ _ _
def vP(neg : Bool)(a b : Nat) : Val:=if a≤1099511627776∧b≤1099511627776 then ⟨2,if neg = true then -(a : Int) else a,b,[]⟩ else ⟨0,2,0,[]⟩
theorem EF(neg : Bool)(a b : Nat)(hb : b≠0) : CallA Tryz.prog 313 [.one (.d (cz neg a b))] [] (bc (vP neg a b)) []:=by
 have h:=QG neg a b hb
 have e : bc (vP neg a b) = DQ neg a b:=by
  unfold DQ vP
  by_cases hc : a≤1099511627776∧b≤1099511627776
  ·rw [if_pos hc,if_pos hc]; rfl
  ·rw [if_neg hc,if_neg hc]; rfl
 rwa [e]
theorem Tn(l : List Val)(hl : 2≤l.length)(f : FuncId)(neg : Bool)(a b : Nat)(hb : b≠0)(hf : CallA Tryz.prog f [.one (.d (mM (at_ l 0))),.one (.d (mM (at_ l 1)))] [] (.one (.d (cz neg a b))) []) :
  CallA Tryz.prog 358 [.one (.d (aG l)),.one (.d (.ptr [.fn f []]))] [] (bc (vP neg a b)) []:=by
 refine enter af Tryz.func358 rfl (by decide +kernel) rfl fun hok w0 σ0 φ0 M=>?_
 clear hok
 repeat' (first|(refine h3H ?_; (refine h2H ?_; first|refine d_l J J (aB J J J J J J (EF _ _ _ hb) J) ?_|refine bh 16 J J J J J J J J (uo _) J J ?_|refine bh 16 J J J J J J J J (hf) J J ?_))|refine wG ?_)
 all_goals first | rfl | skip
theorem Oo(l : List Val)(hl : 2≤l.length)(neg : Bool)(a b : Nat)(hb : b≠0)(hf : CallA Tryz.prog 362 [.one (.d (mM (at_ l 0))),.one (.d (mM (at_ l 1)))] [] (.tup [(false,[.d (cz neg a b)]),(false,[.d (.int .i64 0)])]) []) :
  CallA Tryz.prog 324 [.one (.d (aG l))] [] (bc (vP neg a b)) []:=by
 refine enter af Tryz.func324 rfl (by decide +kernel) rfl fun hok w0 σ0 φ0 M=>?_
 clear hok
 repeat' (first|(refine h1H ?_; (refine h0H ?_; refine aa J J J J J J J J (EF _ _ _ hb) J ?_))|(refine h3H ?_; (refine h2H ?_; first|refine bh 16 J J J J J J J J (uo _) J J ?_|refine bh 16 J J J J J J J J (hf) J J ?_))|refine wG ?_)
 all_goals first | rfl | skip
theorem On(l : List Val)(hl : 2≤l.length)(hf : CallA Tryz.prog 362 [.one (.d (mM (at_ l 0))),.one (.d (mM (at_ l 1)))] [] (.tup [(false,[.d (.raw (.pointer none))]),(false,[.d (.int .i64 2)])]) []) :
  CallA Tryz.prog 324 [.one (.d (aG l))] [] (bc ⟨0,3,0,[]⟩) []:=by
 refine enter af Tryz.func324 rfl (by decide +kernel) rfl fun hok w0 σ0 φ0 M=>?_
 clear hok
 repeat' (first|(refine h1H ?_; (refine h0H ?_; refine aa J J J J J J J J (HT _) J ?_))|(refine h3H ?_; (refine h2H ?_; first|refine d_l J J (aB J J J J J J (hf) J) ?_|refine bh 16 J J J J J J J J (uo _) J J ?_))|refine wG ?_)
 all_goals first | rfl | skip
theorem qi : bu 1 = .sl 1 4 [[.int .u32 1]]:=by unfold bu cO; rw [wA]; rfl
theorem Ov(m : Nat)(hm : (dig m).length≤400) : CallA Tryz.prog 356 [.one (.d (bu m)),.one (.d (.sl 1 4 [[.int .u32 1]]))] [] (.one (.d (bu (m + 1)))) []:=by
 have:=Lg m 1 hm (by rw [wA]; simp)
 rwa [qi] at this
theorem Tx(neg : Bool)(a b : Nat)(hb : b≠0)(hm : dl a≤100)(hn : dl b≤100)(hq : (dig (a / b)).length≤400) : CallA Tryz.prog 315 [.one (.d (cz neg a b))] [] (.one (.d (cz neg (if neg = true∧a % b≠0 then a / b + 1 else a / b) 1))) []:=by
 have v1 : decide (b≠0) = true:=by simp [hb]
 refine enter af Tryz.func315 rfl (by decide +kernel) rfl fun hok w0 σ0 φ0 M=>?_
 clear hok
 repeat' (first|(refine h1H ?_; (refine h0H ?_; first|refine dR 40 [0] J J J J J J J J J (Ov _ hq) J J J ?_|refine aa J J J J J J J J (pO _ _ _) J ?_))|(refine h4H ?_; first|refine bf (bq (dl:=[1,2]) J) (bH ?_)|refine bf (bq (dl:=[0,1]) J) (bH ?_))|(refine h3H ?_; (refine h2H ?_; refine bh 16 J J J J J J J J (vF _ _ hb hm hn) J J ?_))|refine wG ?_|(refine h1H ?_; (refine h5H ?_; refine aJ J J J J (fun h=>?_) (fun h=>?_)))|(refine h4H ?_; refine ah J (fun h=>?_) (fun h=>?_)))
 ·exact absurd ‹(!decide (b≠0)) = true› (by rw [v1]; simp)
 ·rw [if_pos ⟨‹neg = true›,sk h⟩]; unfold cz; rw [qi]; rfl
 ·rw [if_neg (fun hc=>hc.2 (AP h))]; unfold cz; rw [qi]; rfl
 ·rw [if_neg (fun hc=>by have h' : neg = false:=h; rw [h'] at hc; cases hc.1)]; unfold cz; rw [qi]; rfl
theorem Tp(l : List Val)(hl : 1≤l.length)(hb : (at_ l 0).den.natAbs≠0)(hm : dl (at_ l 0).num.natAbs≤100)(hn : dl (at_ l 0).den.natAbs≤100)(hq : (dig ((at_ l 0).num.natAbs / (at_ l 0).den.natAbs)).length≤400) :
  CallA Tryz.prog 312 [.one (.d (aG l))] [] (bc (vP (decide ((at_ l 0).num < 0)) (if (decide ((at_ l 0).num < 0)) = true∧(at_ l 0).num.natAbs % (at_ l 0).den.natAbs≠0 then (at_ l 0).num.natAbs / (at_ l 0).den.natAbs + 1 else (at_ l 0).num.natAbs / (at_ l 0).den.natAbs) 1)) []:=by
 refine enter af Tryz.func312 rfl (by decide +kernel) rfl fun hok w0 σ0 φ0 M=>?_
 clear hok
 repeat' (first|(refine h1H ?_; (refine h0H ?_; first|refine aa J J J J J J J J (EF _ _ _ (by omega)) J ?_|refine az 16 J J J J J J J J (uo _) J J J ?_|refine az 16 J J J J J J J J (Tx _ _ _ hb hm hn hq) J J J ?_))|refine wG ?_)
 all_goals first | rfl | skip
def p7(v : Val) : Val:=⟨v.kind,IntKind.i64.wrap (0 - v.num),v.den,v.str⟩
theorem Sl(l : List Val)(hl : 1≤l.length) :
  CallA Tryz.prog 311 [.one (.own 1000000 l.length)] [(1000000,.row 4 40 (l.map ab))] (bc (p7 (at_ l 0))) [(1000000,.row 4 40 ((l.set 0 (p7 (at_ l 0))).map ab))]:=by
 refine enter af Tryz.func311 rfl (by decide +kernel) rfl fun hok w0 σ0 φ0 M=>?_
 clear hok
 repeat' (first|refine wG ?_)
 exact jF (.inl rfl) rfl rfl rfl (aj (congrArg (fun x=>some (AObj.row 4 40 x)) (List.map_set (f:=ab) (l:=l) (i:=0) (a:=p7 (at_ l 0))).symm) aZ)
end Go.Proofs.YtpejdgkaapnekaaGreat
namespace Go.Abs
open Go Go.Shelf Go.Proofs
variable {P : Program}
theorem yR {f : FuncId} {a b : List UInt8} {y : D} {yv : Value} (hfn : ∃ fn, P.funcs[f]? = some fn ∧ (fn.name == "runtime.NumGoroutine") = false ∧ fn.body.isSome = true)
  (hC : ∀ w,Calls P f #[.string ⟨a.toArray⟩,.string ⟨b.toArray⟩] w fun e w'=>e = .returned yv∧w' = w) (hy : ∀ σ,Rep σ y yv) : CallA P f [.one (.d (.str a)),.one (.d (.str b))] [] (.one (.d y)) []:=by
 refine ⟨hfn,fun w σ φ vs hI hA=>?_⟩
 match vs,hA with
 | [v0,v1],hA =>
   obtain ⟨hv0,hv1,_⟩:=hA
   have hv0 : RepC σ φ _ (.d (.str a)) v0:=hv0
   have hv1 : RepC σ φ _ (.d (.str b)) v1:=hv1
   replace hv0:=hv0.d_inv
   replace hv1:=hv1.d_inv
   cases hv0
   cases hv1
   refine (hC w).mono ?_
   rintro e w' ⟨rfl,rfl⟩
   exact ⟨_,σ,φ,rfl,Sig.le_refl _,fun b hb=>.inl hb,hI,.d (hy σ),fun i e p h1 h2=>(nomatch h1),fun _ _=>rfl,⟨rfl,rfl,rfl,Nat.le_refl _,Nat.le_refl _,fun _ _ _=>rfl⟩⟩
theorem BK : ∀ (a b : List UInt8),Lib.compareBytes a b = if Op.bytesLess a b = true then -1 else if (!(Op.bytesLess a b || a == b)) = true then 1 else 0
 | [],[]=>rfl
 | [],_::_=>rfl
 | _::_,[]=>rfl
 | x::a,y::b=>by
   have ih:=BK a b
   unfold Lib.compareBytes
   rw [ih]
   rw [show Op.bytesLess (x::a) (y::b) = (decide (x < y) || (x == y && Op.bytesLess a b)) from rfl]
   by_cases h1 : x < y
   ·simp [h1]
   ·by_cases h2 : y < x
    ·have : x≠y:=fun e=>by subst e; exact absurd h2 h1
     simp [h1,h2,this]
    ·have e : x = y:=by
      have h3 : ¬ x.toNat < y.toNat:=h1
      have h4 : ¬ y.toNat < x.toNat:=h2
      exact UInt8.toNat_inj.1 (by omega)
     subst e
     simp [h1]
end Go.Abs
namespace Go.Proofs.YtpejdgkaapnekaaGreat
open Go Go.Proofs Go.Shelf Go.Abs
def G4 : Go.Shelf.Ren:=⟨fun | 106=>382 | 213=>386 | 265=>387 | n=>n,fun | 3=>3 | 9=>9 | n=>n,fun | n=>n⟩
theorem OV : Go.Proofs.Lays.n106 Tryz.prog G4:={
 mixed:=by kernel_rfl
 f106:=Tryz.func382.trans (congrArg some (by kernel_rfl))
 f213:=Tryz.func386.trans (congrArg some (by kernel_rfl))
 f265:=Tryz.func387.trans (congrArg some (by kernel_rfl))
 t3:=Tryz.underlying3
 a3:=Tryz.isAgg3
 z3:=Tryz.sizeOf3
 v3:=Tryz.zeroValue3
 t9:=Tryz.underlying9
 a9:=Tryz.isAgg9
 z9:=Tryz.sizeOf9
 v9:=Tryz.zeroValue9 }
def l9(a b : List UInt8) : Int:=if Op.bytesLess a b = true then -1 else if (!(Op.bytesLess a b || a == b)) = true then 1 else 0
theorem OW(a b : List UInt8) : CallA Tryz.prog 382 [.one (.d (.str a)),.one (.d (.str b))] [] (.one (.d (.int .i64 (l9 a b)))) []:=by
 refine yR (yv:=.int .i64 (l9 a b)) ⟨Tryz.f382,Tryz.func382,by kernel_rfl,by kernel_rfl⟩ (fun w=>?_) (fun σ=>.int ?_)
 ·have:=Any.strings_Compare OV ⟨a.toArray⟩ ⟨b.toArray⟩ w
  rw [List.toList_toArray,List.toList_toArray,BK] at this
  exact this
 ·unfold l9
  simp only [inR,IntKind.min,IntKind.max,IntKind.signed,IntKind.bits,if_true]
  split
  ·omega
  ·split <;> omega
end Go.Proofs.YtpejdgkaapnekaaGreat
namespace Go.Proofs.YtpejdgkaapnekaaGreat
open Go Go.Abs
attribute [local irreducible] ae OkC ar aA av aN
set_option maxRecDepth 10000
theorem M9(a b : Val)(hR : RatOk a.num.natAbs a.den.natAbs b.num.natAbs b.den.natAbs) : CallA Tryz.prog 381 [.one (.d (mM a)),.one (.d (mM b))] [] (.one (.d (.int .i64 (nz (dE (decide (a.num < 0)) a.num.natAbs a.den.natAbs (decide (b.num < 0)) b.num.natAbs b.den.natAbs true))))) [] :=
 Pr vF _ _ _ _ _ _ hR
def vG(a b : Val) : Int:=if sgF a.kind b.kind≠0 then sgF a.kind b.kind else if a.kind = 2 then nz (dE (decide (a.num < 0)) a.num.natAbs a.den.natAbs (decide (b.num < 0)) b.num.natAbs b.den.natAbs true) else if a.kind = 3 then l9 a.str b.str else sgF a.num b.num
theorem Ps(a b : Val)(hR : a.kind = 2→RatOk a.num.natAbs a.den.natAbs b.num.natAbs b.den.natAbs) : CallA Tryz.prog 365 [bc a,bc b] [] (.one (.d (.int .i64 (vG a b)))) []:=by
 unfold bc
 refine enter af Tryz.func365 rfl (by decide +kernel) rfl fun hok w0 σ0 φ0 M=>?_
 clear hok
 repeat' (first|(refine h1H ?_; (refine h0H ?_; first|refine aa J J J J J J J J (OX _ _) J ?_|refine aa J J J J J J J J (OY _ _) J ?_|refine aa J J J J J J J J (OW _ _) J ?_))|(refine h3H ?_; (refine h2H ?_; first|refine d_l J J (aB J J J J J J (M9 _ _ (hR (by simpa using ‹(a.kind == 2) = true›))) J) ?_|refine bh 16 J J J J J J J J (uo _) J J ?_))|refine wG ?_|(refine h4H ?_; refine ah J (fun h=>?_) (fun h=>?_)))
 all_goals refine congrArg (fun x=>AV.one (.d (.int .i64 x))) ?_
 ·have h' : sgF a.kind b.kind≠0:=by simpa using h
  unfold vG; rw [if_pos h']
 ·have h1 : ¬ sgF a.kind b.kind≠0:=by simpa using ‹(sgF a.kind b.kind != 0) = false›
  have h2 : a.kind = 2:=by simpa using h
  unfold vG; rw [if_neg h1,if_pos h2]
 ·have h1 : ¬ sgF a.kind b.kind≠0:=by simpa using ‹(sgF a.kind b.kind != 0) = false›
  have h2 : ¬ a.kind = 2:=by simpa using ‹(a.kind == 2) = false›
  have h3 : a.kind = 3:=by simpa using h
  unfold vG; rw [if_neg h1,if_neg h2,if_pos h3]
 ·have h1 : ¬ sgF a.kind b.kind≠0:=by simpa using ‹(sgF a.kind b.kind != 0) = false›
  have h2 : ¬ a.kind = 2:=by simpa using ‹(a.kind == 2) = false›
  have h3 : ¬ a.kind = 3:=by simpa using h
  unfold vG; rw [if_neg h1,if_neg h2,if_neg h3]
theorem Pt(l : List Val)(f : FuncId)(g : Int→Bool)(hl : 2≤l.length)(hR : (at_ l 0).kind = 2→RatOk (at_ l 0).num.natAbs (at_ l 0).den.natAbs (at_ l 1).num.natAbs (at_ l 1).den.natAbs)
  (hf : ∀ o : Int,CallA Tryz.prog f [.one (.d (.int .i64 o))] [] (.one (.d (.bool (g o)))) []) : CallA Tryz.prog 364 [.one (.d (aG l)),.one (.d (.ptr [.fn f []]))] [] (bc (aC (g (vG (at_ l 0) (at_ l 1))))) []:=by
 refine enter af Tryz.func364 rfl (by decide +kernel) rfl fun hok w0 σ0 φ0 M=>?_
 clear hok
 repeat' (first|(refine h3H ?_; (refine h2H ?_; first|refine d_l J J (aB J J J J J J (yU _) J) ?_|refine d_l J J (aB J J J J J J (Ps _ _ hR) J) ?_|refine d_l J J (aB J J J J J J (hf _) J) ?_))|refine wG ?_)
 all_goals first | rfl | skip
def aK(l : List Val) : Option Val:=l.find? fun v=>v.kind == 0
def kl(b : Bool)(l : List Val) : Val:=if bB (at_ l 0) (aC b) = true∨bB (at_ l 1) (aC b) = true then aC b else (aK l).getD (aC (!b))
theorem KQ{b : Bool}{l : List Val}(h : (bB (at_ l 0) (aC b) == true) = true) : kl b l = aC b:=by unfold kl; rw [if_pos (.inl (by simpa using h))]
theorem KR{b : Bool}{l : List Val}(h : (bB (at_ l 1) (aC b) == true) = true) : kl b l = aC b:=by unfold kl; rw [if_pos (.inr (by simpa using h))]
theorem Fm{b : Bool}{l : List Val}(h : (bB (at_ l 0) (aC b) == true) = false)(h2 : (bB (at_ l 1) (aC b) == true) = false) : kl b l = (aK l).getD (aC (!b)):=by
 unfold kl; rw [if_neg]; rintro (e | e)
 ·rw [e] at h; cases h
 ·rw [e] at h2; cases h2
theorem mN{l : List Val}{k : Nat}(hk : k < l.length)(h : ((at_ l k).kind == 0) = true) : aK (l.drop k) = some (at_ l k):=by
 rw [ao hk]; unfold aK; rw [List.find?_cons,h]
theorem cQ{l : List Val}{k : Nat}(hk : k < l.length)(h : ((at_ l k).kind == 0) = false) : aK (l.drop k) = aK (l.drop (k + 1)):=by
 rw [ao hk]; unfold aK; rw [List.find?_cons,h]
theorem zd{l : List Val}{k : Nat}(hk : l.length≤k) : aK (l.drop k) = none:=by
 rw [List.drop_eq_nil_of_le hk]; rfl
theorem KS(l : List Val)(b : Bool)(hl : 2≤l.length) : CallA Tryz.prog 367 [.one (.d (aG l)),.one (.d (.ptr [.bool b]))] [] (bc (kl b l)) []:=by
 refine enter af Tryz.func367 rfl (by decide +kernel) rfl fun hok w0 σ0 φ0 M=>?_
 have h1:=hok.1.sl.1; clear hok; simp only [List.length_map] at h1
 repeat' (first|(refine h1H ?_; (refine h0H ?_; refine aa J J J J J J J J (yU _) J ?_))|(refine h3H ?_; (refine h2H ?_; refine d_l J J (aB J J J J J J (yU _) J) ?_))|refine wG ?_|(refine h4H ?_; first|refine ah J (fun h=>?_) (fun h=>?_)|refine aH 4 J [(1,_),(3,_),(22,_),(23,_)] (q4Q J J J J) (fun (k : Nat)=>[(24,.one (.d (.int .i64 (k : Int))))]) (fun (k : Nat)=>k≤l.length∧aK l = aK (l.drop k)) (fun (k : Nat)=>l.length - k) 0 (q1Q J) ?_ (fun k ⟨hk,hq⟩=>?_))|(refine h3H ?_; (refine tu ?_; refine kN J J (fun h=>?_) (fun h=>?_)))|(show Exists _; refine Exists.intro (k + 1) ⟨?_,?_,wK,(q1Q J),(q4Q J J J J)⟩))
 ·exact (congrArg bc (KR h)).symm
 ·exact ⟨Nat.zero_le _,rfl⟩
 ·have hlt : k < l.length:=by simpa using ‹decide ((k : Int) < ((l.map ab).length : Int)) = true›
  rename_i h5 h6 _ _
  rw [Fm h5 h6,hq,mN hlt h]; rfl
 ·have hlt : k < l.length:=by simpa using ‹decide ((k : Int) < ((l.map ab).length : Int)) = true›
  exact ⟨hlt,hq.trans (cQ hlt h)⟩
 ·have hlt : k < l.length:=by simpa using ‹decide ((k : Int) < ((l.map ab).length : Int)) = true›
  omega
 ·have hge : l.length≤k:=by simpa using h
  rename_i h5 h6 _
  rw [Fm h5 h6,hq,zd hge]; rfl
 ·exact (congrArg bc (KQ h)).symm
def aq(v : Val) : Bool:=dK v.kind v.num v.den v.str
theorem IV(v : Val) : CallA Tryz.prog 233 [bc v] [] (.one (.d (.bool (aq v)))) []:=HF _ _ _ _
def lg : Val:=⟨0,0,0,[]⟩
def cW(p : Val×Int) : AV:=.tup [(true,[.d (.int .i64 p.1.kind),.d (.int .i64 p.1.num),.d (.int .i64 p.1.den),.d (.str p.1.str)]),(false,[.d (.int .i64 p.2)])]
def doG(l : List Val)(kd free : Bool)(rv : Val) : Val×Int :=
 if l.all aq = true then (if kd = true then (if free = true then (rv,0) else ((aK l).getD rv,0)) else (lg,12)) else (lg,2)
theorem ak{l : List Val}{k : Nat}(hq : l.all aq = (l.drop k).all aq)(h : decide ((k : Int) < ((l.map ab).length : Int)) = false) : l.all aq = true:=by
 have h : l.length≤k:=by simpa using h
 rw [hq,List.drop_eq_nil_of_le h]; rfl
theorem ed{l : List Val}{k : Nat}(hq : l.all aq = (l.drop k).all aq)(hlt : k < l.length)(h : (!aq (at_ l k)) = true) : ¬ l.all aq = true:=by
 rw [hq,ao hlt,List.all_cons]
 have h : aq (at_ l k) = false:=by simpa using h
 rw [h]; simp
theorem ee{l : List Val}{k : Nat}(hq : l.all aq = (l.drop k).all aq)(hlt : k < l.length)(h : (!aq (at_ l k)) = false) : l.all aq = (l.drop (k + 1)).all aq:=by
 rw [hq,ao hlt,List.all_cons]
 have h : aq (at_ l k) = true:=by simpa using h
 rw [h]; simp
theorem aw{l : List Val}{k : Nat}(hq : aK l = aK (l.drop k))(h : decide ((k : Int) < ((l.map ab).length : Int)) = false) : aK l = none:=by
 have h : l.length≤k:=by simpa using h
 rw [hq,zd h]
theorem Ay{f : FuncId}{l : List Val}{xs : List (List D)}{r : List AV}{rav : AV}(h : CallA Tryz.prog f (.one (.d (aG l))::r) [] rav [])(hx : xs = l.map ab) : CallA Tryz.prog f (.one (.d (.sl 4 40 xs))::r) [] rav []:=by
 subst hx; exact h
theorem DS{l : List Val}{kd free : Bool}{rv : Val}(h : ¬ l.all aq = true) : doG l kd free rv = (lg,2):=if_neg h
theorem DT{l : List Val}{kd free : Bool}{rv : Val}(h : l.all aq = true)(h2 : (!kd) = true) : doG l kd free rv = (lg,12):=by unfold doG; rw [if_pos h,if_neg (by simpa using h2)]
theorem Ob{l : List Val}{kd free : Bool}{rv : Val}(h : l.all aq = true)(h2 : (!kd) = false)(h3 : (!free) = false) : doG l kd free rv = (rv,0):=by unfold doG; rw [if_pos h,if_pos (by simpa using h2),if_pos (by simpa using h3)]
theorem uO{l : List Val}{kd free : Bool}{rv : Val}(h : l.all aq = true)(h2 : (!kd) = false)(h3 : (!free) = true) : doG l kd free rv = ((aK l).getD rv,0):=by unfold doG; rw [if_pos h,if_pos (by simpa using h2),if_neg (by simpa using h3)]
set_option maxHeartbeats 1000000 in
theorem fl(op : Int)(l : List Val)(hl : l.length≤3)(n : Int)(fk ft fd : FuncId)(ck ct cd : List D)(free kd : Bool)(rv : Val)
  (h226 : CallA Tryz.prog 226 [.one (.d (.int .i64 op)),.one (.d (.int .i64 (l.map ab).length))] [] (.tup [(true,[.d (.int .i64 n),.d (.fn fk ck),.d (.fn ft ct),.d (.bool free),.d (.fn fd cd)]),(false,[.d (.bool true)])]) [])
  (hk : l.all aq = true→CallA Tryz.prog fk (.one (.d (aG l))::ck.map fun x=>.one (.d x)) [] (.one (.d (.bool kd))) [])
  (hd : l.all aq = true→kd = true→(free = true∨aK l = none)→CallA Tryz.prog fd (.one (.d (aG l))::cd.map fun x=>.one (.d x)) [] (bc rv) []) :
  CallA Tryz.prog 186 [.one (.d (.int .i64 op)),.one (.d (aG l))] [] (cW (doG l kd free rv)) []:=by
 refine enter af Tryz.func186 rfl (by decide +kernel) rfl fun hok w0 σ0 φ0 M=>?_
 have h1:=hok.2.1.sl.1; clear hok; simp only [List.length_map] at h1
 repeat' (first|(refine h1H ?_; (refine h0H ?_; first|refine az 60 J J J J J J J J h226 J J J ?_|refine aa J J J J J J J J (IV _) J ?_|refine aa J J J J J J J J (hk (ak hq h)) J ?_))|(refine h3H ?_; (refine Lt ?_; refine eM au 10 J J J J J J ?_))|(refine h3H ?_; (refine h2H ?_; first|refine eM au 11 J J J (eF (i:=10) J J J J J J J J (by simp) (by simp; omega) (Nat.le_of_ble_eq_true J)) J J ?_|refine oD 40 [11] J J J J J J J J J (Ay (hd (ak hq ‹decide ((k : Int) < ((l.map ab).length : Int)) = false›) (by simpa using ‹(!kd) = false›) (.inl (by simpa using ‹(!free) = false›))) (by simp; exact List.take_of_length_le (by simp))) J J ?_|refine oD 40 [11] J J J J J J J J J (Ay (hd (ak hq ‹decide ((k : Int) < ((l.map ab).length : Int)) = false›) (by simpa using ‹(!kd) = false›) (.inr (aw hq1 h))) (by simp; exact List.take_of_length_le (by simp))) J J ?_))|refine wG ?_|(refine h4H ?_; first|refine ah J (fun h=>?_) (fun h=>?_)|refine aH 5 J [(1,_),(4,_),(6,_),(22,_),(23,_)] (q5Q J J J J J) (fun (k : Nat)=>[(24,.one (.d (.int .i64 (k : Int))))]) (fun (k : Nat)=>k≤l.length∧l.all aq = (l.drop k).all aq) (fun (k : Nat)=>l.length - k) 0 (q1Q J) ?_ (fun k ⟨hk0,hq⟩=>?_)|refine aH 14 J [(1,_),(4,_),(6,_),(42,_),(43,_)] (q5Q J J J J J) (fun (j : Nat)=>[(44,.one (.d (.int .i64 (j : Int))))]) (fun (j : Nat)=>j≤l.length∧aK l = aK (l.drop j)) (fun (j : Nat)=>l.length - j) 0 (q1Q J) ?_ (fun j ⟨hk1,hq1⟩=>?_))|(show Exists _; first|refine Exists.intro (j + 1) ⟨?_,?_,wK,(q1Q J),(q5Q J J J J J)⟩|refine Exists.intro (k + 1) ⟨?_,?_,wK,(q1Q J),(q5Q J J J J J)⟩))
 ·exact ⟨Nat.zero_le _,rfl⟩
 ·have hlt : k < l.length:=by simpa using ‹decide ((k : Int) < ((l.map ab).length : Int)) = true›
  rw [DS (ed hq hlt h)]; rfl
 ·have hlt : k < l.length:=by simpa using ‹decide ((k : Int) < ((l.map ab).length : Int)) = true›
  exact ⟨hlt,ee hq hlt h⟩
 ·have hlt : k < l.length:=by simpa using ‹decide ((k : Int) < ((l.map ab).length : Int)) = true›
  omega
 ·rw [DT (ak hq ‹decide ((k : Int) < ((l.map ab).length : Int)) = false›) h]; rfl
 ·exact ⟨Nat.zero_le _,rfl⟩
 ·have hlt : j < l.length:=by simpa using ‹decide ((j : Int) < ((l.map ab).length : Int)) = true›
  rw [uO (ak hq ‹decide ((k : Int) < ((l.map ab).length : Int)) = false›) ‹(!kd) = false› ‹(!free) = true›,hq1,mN hlt h]; rfl
 ·have hlt : j < l.length:=by simpa using ‹decide ((j : Int) < ((l.map ab).length : Int)) = true›
  exact ⟨hlt,hq1.trans (cQ hlt h)⟩
 ·have hlt : j < l.length:=by simpa using ‹decide ((j : Int) < ((l.map ab).length : Int)) = true›
  omega
 ·rw [uO (ak hq ‹decide ((k : Int) < ((l.map ab).length : Int)) = false›) ‹(!kd) = false› ‹(!free) = true›,aw hq1 h]; rfl
 ·rw [Ob (ak hq ‹decide ((k : Int) < ((l.map ab).length : Int)) = false›) ‹(!kd) = false› h]; rfl
theorem J0{l : List Val}{m : Nat}{xs : List (List D)}(hl : 1≤l.length)(hx : xs = l.map ab)(hm : m = l.length) : CallA Tryz.prog 311 [.one (.own 1000000 m)] [(1000000,.row 4 40 xs)] (bc (p7 (at_ l 0))) [(1000000,.row 4 40 ((l.set 0 (p7 (at_ l 0))).map ab))]:=by
 subst hx; subst hm; exact Sl l hl
theorem J1(l : List Val)(hl : l.length≤3)(hl1 : 1≤l.length)
  (h226 : CallA Tryz.prog 226 [.one (.d (.int .i64 5)),.one (.d (.int .i64 (l.map ab).length))] [] (.tup [(true,[.d (.int .i64 1),.d (.fn 350 [.ptr [.int .i64 2]]),.d (.fn 300 []),.d (.bool false),.d (.fn 311 [])]),(false,[.d (.bool true)])]) []) :
  CallA Tryz.prog 186 [.one (.d (.int .i64 5)),.one (.d (aG l))] [] (cW (doG l (l.all fun v=>isV v 2) false (p7 (at_ l 0)))) []:=by
 refine enter af Tryz.func186 rfl (by decide +kernel) rfl fun hok w0 σ0 φ0 M=>?_
 have h1:=hok.2.1.sl.1; clear hok; simp only [List.length_map] at h1
 repeat' (first|(refine h1H ?_; (refine h0H ?_; first|refine az 60 J J J J J J J J h226 J J J ?_|refine aa J J J J J J J J (IV _) J ?_|refine aa J J J J J J J J (ph _ _) J ?_))|(refine h3H ?_; (refine Lt ?_; refine eM au 10 J J J J J J ?_))|(refine h3H ?_; (refine h2H ?_; first|refine eM au 11 J J J (eF (i:=10) J J J J J J J J (by simp) (by simp; omega) (Nat.le_of_ble_eq_true J)) J J ?_|refine JS 40 (id:=11) J J J J J J J (J0 (l:=l) hl1 J (by simp)) (by simp) J J J ?_))|refine wG ?_|(refine h4H ?_; first|refine ah J (fun h=>?_) (fun h=>?_)|refine aH 5 J [(1,_),(4,_),(6,_),(22,_),(23,_)] (q5Q J J J J J) (fun (k : Nat)=>[(24,.one (.d (.int .i64 (k : Int))))]) (fun (k : Nat)=>k≤l.length∧l.all aq = (l.drop k).all aq) (fun (k : Nat)=>l.length - k) 0 (q1Q J) ?_ (fun k ⟨hk0,hq⟩=>?_)|refine aH 14 J [(1,_),(4,_),(6,_),(42,_),(43,_)] (q5Q J J J J J) (fun (j : Nat)=>[(44,.one (.d (.int .i64 (j : Int))))]) (fun (j : Nat)=>j≤l.length∧aK l = aK (l.drop j)) (fun (j : Nat)=>l.length - j) 0 (q1Q J) ?_ (fun j ⟨hk1,hq1⟩=>?_))|(show Exists _; first|refine Exists.intro (j + 1) ⟨?_,?_,wK,(q1Q J),(q5Q J J J J J)⟩|refine Exists.intro (k + 1) ⟨?_,?_,wK,(q1Q J),(q5Q J J J J J)⟩))
 ·exact ⟨Nat.zero_le _,rfl⟩
 ·have hlt : k < l.length:=by simpa using ‹decide ((k : Int) < ((l.map ab).length : Int)) = true›
  rw [DS (ed hq hlt h)]; rfl
 ·have hlt : k < l.length:=by simpa using ‹decide ((k : Int) < ((l.map ab).length : Int)) = true›
  exact ⟨hlt,ee hq hlt h⟩
 ·have hlt : k < l.length:=by simpa using ‹decide ((k : Int) < ((l.map ab).length : Int)) = true›
  omega
 ·rw [DT (ak hq ‹decide ((k : Int) < ((l.map ab).length : Int)) = false›) h]; rfl
 ·exact ⟨Nat.zero_le _,rfl⟩
 ·have hlt : j < l.length:=by simpa using ‹decide ((j : Int) < ((l.map ab).length : Int)) = true›
  rw [uO (ak hq ‹decide ((k : Int) < ((l.map ab).length : Int)) = false›) ‹(!l.all fun v=>isV v 2) = false› rfl,hq1,mN hlt h]; rfl
 ·have hlt : j < l.length:=by simpa using ‹decide ((j : Int) < ((l.map ab).length : Int)) = true›
  exact ⟨hlt,hq1.trans (cQ hlt h)⟩
 ·have hlt : j < l.length:=by simpa using ‹decide ((j : Int) < ((l.map ab).length : Int)) = true›
  omega
 ·rw [uO (ak hq ‹decide ((k : Int) < ((l.map ab).length : Int)) = false›) ‹(!l.all fun v=>isV v 2) = false› rfl,aw hq1 h]; rfl
end Go.Proofs.YtpejdgkaapnekaaGreat
namespace Go.Proofs.YtpejdgkaapnekaaGreat
open Go Go.Abs
def vP3(t : Bool×Nat×Nat) : Val:=vP t.1 t.2.1 t.2.2
def ngV(v : Val) : Bool:=decide (v.num < 0)
def naV(v : Val) : Nat:=v.num.natAbs
def dnV(v : Val) : Nat:=v.den.natAbs
def Mw(x y : Val)(minus : Bool) : Val:=vP3 (dE (ngV x) (naV x) (dnV x) (ngV y) (naV y) (dnV y) minus)
def Sk(x y : Val) : Val:=vP3 (gW (ngV x != ngV y) (naV x * naV y) (dnV x * dnV y))
def H4(x y : Val) : Val:=if naV y = 0 then ⟨0,3,0,[]⟩ else vP3 (gW (ngV x != ngV y) (naV x * dnV y) (dnV x * naV y))
def Ar(x : Val) : Val:=vP (ngV x) (if ngV x = true∧naV x % dnV x≠0 then naV x / dnV x + 1 else naV x / dnV x) 1
def ic(a b : Val) : Int:=if sgF a.kind b.kind≠0 then sgF a.kind b.kind else if a.kind = 2 then nz (dE (ngV a) (naV a) (dnV a) (ngV b) (naV b) (dnV b) true) else if a.kind = 3 then l9 a.str b.str else sgF a.num b.num
def tb(op o : Int) : Bool:=if op = 13 then o == 0 else if op = 14 then o != 0 else if op = 15 then decide (o < 0) else if op = 16 then decide (o≤0) else if op = 17 then decide (0 < o) else decide (0≤o)
def rvF(op : Int)(l : List Val) : Val :=
 if op = 4 then aC ((at_ l 0).num == 0) else if op = 5 then p7 (at_ l 0) else if op = 6 then Ar (at_ l 0) else if op = 7 then aC ((at_ l 0).kind == 0)
 else if op = 8 then ⟨2,if (at_ l 0).kind == 0 then (at_ l 0).num else 0,1,[]⟩ else if op = 9 then Mw (at_ l 0) (at_ l 1) false else if op = 10 then Mw (at_ l 0) (at_ l 1) true
 else if op = 11 then Sk (at_ l 0) (at_ l 1) else if op = 12 then H4 (at_ l 0) (at_ l 1) else if op≤18 then aC (tb op (ic (at_ l 0) (at_ l 1))) else if op = 19 then kl false l else if op = 20 then kl true l
 else if op = 21 then (if (at_ l 0).kind == 0 then at_ l 1 else at_ l 0) else (if (at_ l 0).kind == 0 then at_ l 0 else if (at_ l 0).num == 1 then at_ l 1 else at_ l 2)
def kdF(op : Int)(l : List Val) : Bool :=
 if op = 4∨op = 19∨op = 20 then l.all (fun v=>isV v 1) else if op = 5∨op = 6∨(9≤op∧op≤12) then l.all (fun v=>isV v 2) else if op = 7∨op = 8 then true
 else if op = 22 then isV (at_ l 0) 1 && gG (at_ l (l.length - 2)) (at_ l (l.length - 1)) else gG (at_ l (l.length - 2)) (at_ l (l.length - 1))
def frF(op : Int) : Bool:=op == 7 || op == 8 || decide (19≤op)
def doF(op : Int)(l : List Val) : Val×Int:=doG l (kdF op l) (frF op) (rvF op l)
theorem jW{v : Val}(h : aq v = true)(hk : v.kind = 2) : naV v≤1099511627776∧1≤dnV v∧dnV v≤1099511627776∧v.den = (dnV v : Int):=by
 unfold aq dK at h
 rw [hk] at h
 simp at h
 unfold naV dnV
 omega
theorem Aw{n : Nat}(h : n < 79228162514264337593543950336) : dl n≤3:=II (w:=3) h
theorem Ax{a1 b1 a2 b2 : Nat}(h1 : a1≤1099511627776)(h2 : 1≤b1∧b1≤1099511627776)(h3 : a2≤1099511627776)(h4 : 1≤b2∧b2≤1099511627776) : RatOk a1 b1 a2 b2:=by
 have hm : ∀ {x y : Nat},x≤1099511627776→y≤1099511627776→x * y≤1208925819614629174706176:=fun hx hy=>Nat.mul_le_mul hx hy
 have d : ∀ {x : Nat},x≤1099511627776→(dig x).length≤400:=fun hx=>Nat.le_trans (Aw (Nat.lt_of_le_of_lt hx (Nat.lt_of_lt_of_le (show 1099511627776 < 1099511627777 from Nat.lt_succ_self _) (Nat.le_of_ble_eq_true rfl)))) (by omega)
 have p : ∀ {x : Nat},x≤2417851639229258349412352→dl x≤100:=fun hx=>Nat.le_trans (Aw (Nat.lt_of_le_of_lt hx (Nat.lt_of_lt_of_le (Nat.lt_succ_self _) (Nat.le_of_ble_eq_true rfl)))) (by omega)
 have p1:=hm h1 h4.2
 have p2:=hm h3 h2.2
 have p3:=hm h2.2 h4.2
 have p5:=hm h1 h3
 have p6:=hm h2.2 h3
 exact ⟨by omega,by omega,d h1,d h2.2,d h3,d h4.2,p (by omega),p (by omega),p (by omega),p (by omega),p (by omega),p (by omega)⟩
theorem sb{v : Val}{k : Int}(h : isV v k = true)(h0 : ¬ v.kind = 0) : v.kind = k:=by
 unfold isV at h
 simp at h
 exact h.resolve_left h0
theorem nK{l : List Val}(h : aK l = none){i : Nat}(hi : i < l.length) : ¬ (at_ l i).kind = 0:=by
 have:=List.find?_eq_none.1 h (at_ l i) (bT hi)
 simpa using this
theorem dH{l : List Val}{p : Val→Bool}(h : l.all p = true){i : Nat}(hi : i < l.length) : p (at_ l i) = true:=List.all_eq_true.1 h _ (bT hi)
end Go.Proofs.YtpejdgkaapnekaaGreat
namespace Go.Proofs.YtpejdgkaapnekaaGreat
open Go Go.Abs
mutual
def gy(ds : List Dim)(ats : List Attr)(at' : List Int)(vs : List Val) : Scalar→Val
 | .mk o n v a=>if o = 1 then v else if o = 2 then at_ vs (atI ats n).toNat else if o = 3 then ⟨2,at_ at' (lZ ds n).toNat,1,[]⟩ else (doF o (ia ds ats at' vs a)).1
def ia(ds : List Dim)(ats : List Attr)(at' : List Int)(vs : List Val) : List Scalar→List Val
 | []=>[]
 | x::r=>gy ds ats at' vs x::ia ds ats at' vs r
end
section
variable {ds : List Dim} {ats : List Attr} {at' : List Int} {vs : List Val}
theorem vY : ∀ {s : Scalar},gy ds ats at' vs s = if s.op = 1 then s.val else if s.op = 2 then at_ vs (atI ats s.name).toNat else if s.op = 3 then ⟨2,at_ at' (lZ ds s.name).toNat,1,[]⟩ else (doF s.op (ia ds ats at' vs s.args)).1
 | .mk _ _ _ _=>by simp only [gy,Scalar.op,Scalar.name,Scalar.val,Scalar.args]; rfl
theorem jV : ∀ {l : List Scalar},(ia ds ats at' vs l).length = l.length
 | []=>rfl
 | x::r=>by simp [ia,jV (l:=r)]
def qT(ds : List Dim)(ats : List Attr)(x : Scalar) : Prop:=(x.op = 2→0≤atI ats x.name)∧(x.op = 3→0≤lZ ds x.name)
theorem Az{cst : Val→Int} : ∀ {l : List Scalar} {ts : List Int},cb cst ds ats l = .inr ts→∀ x∈l,(cy cst ds ats x).2 = 0
 | [],_,_,x,hx=>by simp at hx
 | y::r,ts,h,x,hx=>by
   simp only [cb] at h
   split at h
   ·cases h
   ·rename_i h1
    split at h
    ·cases h
    ·rename_i l2 h2
     rcases List.mem_cons.1 hx with rfl | hx
     ·exact Decidable.not_not.1 h1
     ·exact Az h2 x hx
theorem xJ : ∀ {l : List Scalar} {z : Scalar},z∈aT l→∃ x∈l,z∈aY x
 | [],z,h=>by simp [aT] at h
 | x::r,z,h=>by
   simp only [aT,List.mem_append] at h
   rcases h with h | h
   ·exact ⟨x,List.mem_cons_self,h⟩
   ·obtain ⟨y,h1,h2⟩:=xJ h
    exact ⟨y,List.mem_cons_of_mem _ h1,h2⟩
theorem LU{cst : Val→Int}(s : Scalar) : dc s = true→(cy cst ds ats s).2 = 0→∀ z∈aY s,qT ds ats z:=by
 induction s using Scalar.ind with
 | h s ih =>
   intro hp h z hz
   rw [gp,Bool.and_eq_true] at hp
   rw [dN,List.mem_append] at hz
   rw [kU] at h
   by_cases h3 : s.op = 1∨s.op = 2∨s.op = 3
   ·have ha : s.args = []:=tB hp.1 h3
    rw [ha] at hz
    have hz : z = s:=by
     rcases hz with hz | hz
     ·simp [aT] at hz
     ·simpa using hz
    subst hz
    refine ⟨fun h2=>?_,fun h2=>?_⟩
    ·rw [if_neg (by omega),if_pos h2] at h
     unfold jo at h
     refine Int.not_lt.1 fun hc=>?_
     rw [if_pos hc] at h; simp at h
    ·rw [if_neg (by omega),if_neg (by omega),if_pos h2] at h
     unfold ly at h
     refine Int.not_lt.1 fun hc=>?_
     rw [if_pos hc] at h; simp at h
   ·rw [if_neg (fun h=>h3 (.inl h)),if_neg (fun h=>h3 (.inr (.inl h))),if_neg (fun h=>h3 (.inr (.inr h)))] at h
    rcases hz with hz | hz
    ·obtain ⟨x,hx,hzx⟩:=xJ hz
     cases ht : cb cst ds ats s.args with
     | inl e =>
       rw [ht] at h
       have he : e = 0:=h
       exfalso
       have : ∀ {l : List Scalar} {e : Int},cb cst ds ats l = .inl e→e≠0:=by
        intro l
        induction l with
        | nil=>intro e h; simp [cb] at h
        | cons y r ihl =>
          intro e h
          simp only [cb] at h
          split at h
          ·rename_i h1; cases h; exact h1
          ·split at h
           ·rename_i e2 h2; cases h; exact ihl h2
           ·cases h
       exact this ht he
     | inr ts=>exact ih x hx (gz hp.2 x hx) (Az ht x hx) z hzx
    ·have hz : z = s:=by simpa using hz
     subst hz
     exact ⟨fun h2=>absurd (.inr (.inl h2)) h3,fun h2=>absurd (.inr (.inr h2)) h3⟩
def fe(ds : List Dim)(ats : List Attr)(at' : List Int)(vs : List Val)(l : List Val)(x : Scalar) : Bool×List Val :=
 (true,if x.op = 1 then l ++ [x.val] else if x.op = 2 then l ++ [at_ vs (atI ats x.name).toNat] else if x.op = 3 then l ++ [⟨2,at_ at' (lZ ds x.name).toNat,1,[]⟩] else
  l.take (l.length - x.args.length) ++ [(doF x.op (l.drop (l.length - x.args.length))).1])
def uY(ds : List Dim)(ats : List Attr)(l : List Val)(x : Scalar) : Prop:=qT ds ats x∧df x = true∧l.length≤64∧(4≤x.op→x.args.length≤l.length)
theorem p8{α β : Type}{F : α→β→Bool×α}{ok : α→β→Prop} : ∀ {l m : List β} {a : α},da F ok l a→((bC F l a).1 = true→da F ok m (bC F l a).2)→da F ok (l ++ m) a
 | [],_,_,_,h=>h rfl
 | x::l,m,a,h1,h2=>by
   simp only [List.cons_append,da] at h1 ⊢
   refine ⟨h1.1,fun hx=>p8 (h1.2 hx) fun h=>?_⟩
   have e : bC F (x::l) a = bC F l (F a x).2:=by simp only [bC]; rw [if_pos hx]
   rw [e] at h2; exact h2 h
theorem uZ : ∀ {r : List Scalar},
  (∀ x∈r,∀ l : List Val,l.length + (aY x).length≤65→da (fe ds ats at' vs) (uY ds ats) (aY x) l∧bC (fe ds ats at' vs) (aY x) l = (true,l ++ [gy ds ats at' vs x])) →
  ∀ l : List Val,l.length + (aT r).length≤65→da (fe ds ats at' vs) (uY ds ats) (aT r) l∧bC (fe ds ats at' vs) (aT r) l = (true,l ++ ia ds ats at' vs r)
 | [],_,l,hl=>⟨trivial,by simp [ia,aT,bC]⟩
 | x::r,h,l,hl=>by
   have hp : 1≤(aY x).length:=by rw [dN]; simp
   simp only [aT,List.length_append] at hl
   obtain ⟨h1,h2⟩:=h x (by simp) l (by omega)
   simp only [aT,ia]
   have ih:=uZ (r:=r) (fun y hy=>h y (List.mem_cons_of_mem _ hy)) (l ++ [gy ds ats at' vs x]) (by simp; omega)
   rw [fb,h2]
   refine ⟨p8 h1 (fun _=>by rw [h2]; exact ih.1),?_⟩
   simp only [if_true]
   rw [ih.2]; simp
theorem Oc(s : Scalar) : dc s = true→(∀ z∈aY s,qT ds ats z)→∀ l : List Val,l.length + (aY s).length≤65→da (fe ds ats at' vs) (uY ds ats) (aY s) l∧bC (fe ds ats at' vs) (aY s) l = (true,l ++ [gy ds ats at' vs s]):=by
 induction s using Scalar.ind with
 | h s ih =>
   intro hp hn l hl
   rw [gp,Bool.and_eq_true] at hp
   have hmem : ∀ x∈s.args,∀ z∈aY x,z∈aY s:=by
    intro x hx z hz
    rw [dN,List.mem_append]
    refine .inl ?_
    have : ∀ {r : List Scalar},x∈r→z∈aT r:=by
     intro r
     induction r with
     | nil=>intro h; simp at h
     | cons y r ihr =>
       intro h
       simp only [aT,List.mem_append]
       rcases List.mem_cons.1 h with rfl | h
       ·exact .inl hz
       ·exact .inr (ihr h)
    exact this hx
   have hL:=uZ (ds:=ds) (ats:=ats) (at':=at') (vs:=vs) (r:=s.args) (fun x hx l hl=>ih x hx (gz hp.2 x hx) (fun z hz=>hn z (hmem x hx z hz)) l hl)
   have hns : qT ds ats s:=hn s (by rw [dN]; simp)
   rw [dN] at hl ⊢
   simp only [List.length_append,List.length_cons,List.length_nil] at hl
   by_cases h3 : s.op = 1∨s.op = 2∨s.op = 3
   ·have ha : s.args = []:=tB hp.1 h3
    have hok : uY ds ats l s:=⟨hns,hp.1,by omega,fun h=>by omega⟩
    have hF : fe ds ats at' vs l s = (true,l ++ [gy ds ats at' vs s]):=by
     rw [vY]; simp only [fe]
     rcases h3 with h3 | h3 | h3 <;> simp [h3]
    rw [ha]
    simp only [aT,List.nil_append,da,bC]
    rw [hF]
    exact ⟨⟨hok,fun _=>trivial⟩,by simp⟩
   ·obtain ⟨hop,hlen⟩:=jR hp.1 (fun h=>h3 (.inl h)) (fun h=>h3 (.inr (.inl h))) (fun h=>h3 (.inr (.inr h)))
    obtain ⟨h4,h5⟩:=hL l (by omega)
    have hts:=jV (ds:=ds) (ats:=ats) (at':=at') (vs:=vs) (l:=s.args)
    have hle:=me (r:=s.args)
    have hd : (l ++ ia ds ats at' vs s.args).length - s.args.length = l.length:=by simp [hts]
    have hF : fe ds ats at' vs (l ++ ia ds ats at' vs s.args) s = (true,l ++ [gy ds ats at' vs s]):=by
     simp only [fe]
     rw [if_neg (fun h=>h3 (.inl h)),if_neg (fun h=>h3 (.inr (.inl h))),if_neg (fun h=>h3 (.inr (.inr h))),hd,vY,if_neg (fun h=>h3 (.inl h)),if_neg (fun h=>h3 (.inr (.inl h))),if_neg (fun h=>h3 (.inr (.inr h)))]
     simp
    refine ⟨p8 h4 (fun _=>?_),?_⟩
    ·rw [h5]
     exact ⟨⟨hns,hp.1,by simp [hts]; omega,fun _=>by simp [hts]⟩,fun _=>trivial⟩
    ·rw [fb,h5]
     simp only [if_true,bC,hF]
end
end Go.Proofs.YtpejdgkaapnekaaGreat
namespace Go.Proofs.YtpejdgkaapnekaaGreat
open Go Go.Abs
theorem oU{m n : Nat}(hn : n≠0) : n / Nat.gcd m n≠0:=by
 have hp:=Nat.pos_of_ne_zero hn
 exact Nat.ne_of_gt (Nat.div_pos (Nat.le_of_dvd hp (Nat.gcd_dvd_right m n)) (Nat.gcd_pos_of_pos_right m hp))
theorem tL{s1 s2 minus : Bool}{a1 b1 a2 b2 : Nat}(h1 : b1≠0)(h2 : b2≠0) : (dE s1 a1 b1 s2 a2 b2 minus).2.2≠0:=by
 have h:=Nat.mul_ne_zero h1 h2
 unfold dE gW
 split
 ·exact oU h
 ·split
  ·exact oU h
  ·exact oU h
structure NumOk (v : Val) : Prop where
 a : naV v≤1099511627776
 b : 1≤dnV v∧dnV v≤1099511627776
theorem mj{l : List Val}(hall : l.all aq = true)(hk : l.all (fun v=>isV v 2) = true)(hm : aK l = none){i : Nat}(hi : i < l.length) : NumOk (at_ l i):=by
 have h1:=dH hall hi
 have h2:=sb (dH hk hi) (nK hm hi)
 obtain ⟨q1,q2,q3,_⟩:=jW h1 h2
 exact ⟨q1,q2,q3⟩
theorem NumOk.rat{x y : Val}(h : NumOk x)(h' : NumOk y) : RatOk (naV x) (dnV x) (naV y) (dnV y):=Ax h.a h.b h'.a h'.b
theorem ec{p : Prop}(h : false = true∨p) : p:=h.resolve_left (by simp)
theorem Ez(l : List Val)(hl : 2≤l.length)(f : FuncId)(t : Bool×Nat×Nat)(hb : t.2.2≠0)(hf : CallA Tryz.prog f [.one (.d (mM (at_ l 0))),.one (.d (mM (at_ l 1)))] [] (.one (.d (cz t.1 t.2.1 t.2.2))) []) :
  CallA Tryz.prog 358 [.one (.d (aG l)),.one (.d (.ptr [.fn f []]))] [] (bc (vP3 t)) []:=Tn l hl f _ _ _ hb hf
theorem MQ(s1 : Bool)(a1 b1 : Nat)(s2 : Bool)(a2 b2 : Nat)(hz : a2 = 0)(h1 : b1≠0)(h2 : b2≠0) : CallA Tryz.prog 362 [.one (.d (cz s1 a1 b1)),.one (.d (cz s2 a2 b2))] [] (.tup [(false,[.d (.raw (.pointer none))]),(false,[.d (.int .i64 2)])]) []:=by
 subst hz; exact NX s1 a1 b1 s2 b2 h1 h2
theorem To(op : Int)(l : List Val)(hop : 4≤op∧op≤22)(hl : (l.length : Int) = dC op) : CallA Tryz.prog 186 [.one (.d (.int .i64 op)),.one (.d (aG l))] [] (cW (doF op l)) []:=by
 have hlen : ∀ n : Int,(l.length : Int) = n→(((l.map ab).length : Nat) : Int) = n:=by intro n h; simpa using h
 have cmpc : ∀ {f : FuncId} (g : Int→Bool),l.length = 2→(∀ o : Int,CallA Tryz.prog f [.one (.d (.int .i64 o))] [] (.one (.d (.bool (g o)))) [])→l.all aq = true→gG (at_ l (l.length - 2)) (at_ l (l.length - 1)) = true→aK l = none →
   CallA Tryz.prog 364 [.one (.d (aG l)),.one (.d (.ptr [.fn f []]))] [] (bc (aC (g (ic (at_ l 0) (at_ l 1))))) []:=by
  intro f g h2 hf hall hal hm
  rw [h2] at hal
  refine Pt l f g (by omega) (fun hk=>?_) hf
  have k0:=nK hm (i:=0) (by omega)
  have k1:=nK hm (i:=1) (by omega)
  have hkk : (at_ l 1).kind = 2:=by
   unfold gG at hal
   have : isV (at_ l 1) (at_ l 0).kind = true:=by
    rcases Bool.or_eq_true _ _ ▸ hal with h | h
    ·exact absurd (by simpa using h) k0
    ·exact h
   rw [hk] at this
   exact sb this k1
  obtain ⟨q1,q2,q3,_⟩:=jW (dH hall (i:=0) (by omega)) hk
  obtain ⟨r1,r2,r3,_⟩:=jW (dH hall (i:=1) (by omega)) hkk
  exact Ax q1 ⟨q2,q3⟩ r1 ⟨r2,r3⟩
 unfold doF
 rcases pJ hop with rfl | rfl | rfl | rfl | rfl | rfl | rfl | rfl | rfl | rfl | rfl | rfl | rfl | rfl | rfl | rfl | rfl | rfl | rfl <;> simp [dC] at hl
 ·exact fl _ l (by omega) _ _ _ _ _ _ _ _ _ _ (by rw [hlen 1 (by omega)]; exact F4) (fun _=>ph l 1) (fun _ _ _=>O8 l (by omega))
 ·exact J1 l (by omega) (by omega) (by rw [hlen 1 (by omega)]; exact F5)
 ·refine fl _ l (by omega) _ _ _ _ _ _ _ _ _ _ (by rw [hlen 1 (by omega)]; exact F6) (fun _=>ph l 2) (fun hall hk hf=>?_)
  have n0:=mj hall hk (ec hf) (i:=0) (by omega)
  have r:=n0.rat n0
  exact Tp l (by omega) r.h1 (Nat.le_trans (jP (Nat.le_mul_of_pos_right _ n0.b.1)) r.m1) (Nat.le_trans (jP (Nat.le_mul_of_pos_right _ n0.b.1)) r.m3) (Nat.le_trans (jP (Nat.div_le_self _ _)) r.l1)
 ·exact fl _ l (by omega) _ _ _ _ _ _ _ _ _ _ (by rw [hlen 1 (by omega)]; exact F7) (fun _=>KJ _) (fun _ _ _=>O9 l (by omega))
 ·exact fl _ l (by omega) _ _ _ _ _ _ _ _ _ _ (by rw [hlen 1 (by omega)]; exact F8) (fun _=>KJ _) (fun _ _ _=>Pa l (by omega))
 ·refine fl _ l (by omega) _ _ _ _ _ _ _ _ _ _ (by rw [hlen 2 (by omega)]; exact F9) (fun _=>ph l 2) (fun hall hk hf=>?_)
  have r:=(mj hall hk (ec hf) (i:=0) (by omega)).rat (mj hall hk (ec hf) (i:=1) (by omega))
  exact Ez l (by omega) 321 _ (tL r.h1 r.h2) (by rw [← AG]; exact Qv vF _ _ _ _ _ _ r)
 ·refine fl _ l (by omega) _ _ _ _ _ _ _ _ _ _ (by rw [hlen 2 (by omega)]; exact Cc) (fun _=>ph l 2) (fun hall hk hf=>?_)
  have r:=(mj hall hk (ec hf) (i:=0) (by omega)).rat (mj hall hk (ec hf) (i:=1) (by omega))
  exact Ez l (by omega) 322 _ (tL r.h1 r.h2) (by rw [← AG]; exact LF vF _ _ _ _ _ _ r)
 ·refine fl _ l (by omega) _ _ _ _ _ _ _ _ _ _ (by rw [hlen 2 (by omega)]; exact Cd) (fun _=>ph l 2) (fun hall hk hf=>?_)
  have r:=(mj hall hk (ec hf) (i:=0) (by omega)).rat (mj hall hk (ec hf) (i:=1) (by omega))
  exact Ez l (by omega) 323 _ (oU (Nat.mul_ne_zero r.h1 r.h2)) (Qw vF _ _ _ _ _ _ r)
 ·refine fl _ l (by omega) _ _ _ _ _ _ _ _ _ _ (by rw [hlen 2 (by omega)]; exact Ce) (fun _=>ph l 2) (fun hall hk hf=>?_)
  have r:=(mj hall hk (ec hf) (i:=0) (by omega)).rat (mj hall hk (ec hf) (i:=1) (by omega))
  show CallA Tryz.prog 324 _ [] (bc (H4 (at_ l 0) (at_ l 1))) []
  unfold H4
  by_cases h0 : naV (at_ l 1) = 0
  ·rw [if_pos h0]
   refine On l (by omega) ?_
   exact MQ _ _ _ _ _ _ h0 r.h1 r.h2
  ·rw [if_neg h0]
   exact Oo l (by omega) _ _ _ (oU (Nat.mul_ne_zero r.h1 h0)) (Qx vF _ _ _ _ _ _ r h0)
 ·exact fl _ l (by omega) _ _ _ _ _ _ _ _ _ _ (by rw [hlen 2 (by omega)]; exact Cf) (fun _=>qu l (by omega)) (fun hall hk hf=>cmpc (fun o=>o == 0) (by omega) OZ hall hk (ec hf))
 ·exact fl _ l (by omega) _ _ _ _ _ _ _ _ _ _ (by rw [hlen 2 (by omega)]; exact Cg) (fun _=>qu l (by omega)) (fun hall hk hf=>cmpc (fun o=>o != 0) (by omega) O3 hall hk (ec hf))
 ·exact fl _ l (by omega) _ _ _ _ _ _ _ _ _ _ (by rw [hlen 2 (by omega)]; exact Ch) (fun _=>qu l (by omega)) (fun hall hk hf=>cmpc (fun o=>decide (o < 0)) (by omega) O4 hall hk (ec hf))
 ·exact fl _ l (by omega) _ _ _ _ _ _ _ _ _ _ (by rw [hlen 2 (by omega)]; exact Ci) (fun _=>qu l (by omega)) (fun hall hk hf=>cmpc (fun o=>decide (o≤0)) (by omega) O5 hall hk (ec hf))
 ·exact fl _ l (by omega) _ _ _ _ _ _ _ _ _ _ (by rw [hlen 2 (by omega)]; exact Cj) (fun _=>qu l (by omega)) (fun hall hk hf=>cmpc (fun o=>decide (0 < o)) (by omega) O6 hall hk (ec hf))
 ·exact fl _ l (by omega) _ _ _ _ _ _ _ _ _ _ (by rw [hlen 2 (by omega)]; exact Ck) (fun _=>qu l (by omega)) (fun hall hk hf=>cmpc (fun o=>decide (0≤o)) (by omega) O7 hall hk (ec hf))
 ·exact fl _ l (by omega) _ _ _ _ _ _ _ _ _ _ (by rw [hlen 2 (by omega)]; exact Cl) (fun _=>ph l 1) (fun _ _ _=>KS l false (by omega))
 ·exact fl _ l (by omega) _ _ _ _ _ _ _ _ _ _ (by rw [hlen 2 (by omega)]; exact Cn) (fun _=>ph l 1) (fun _ _ _=>KS l true (by omega))
 ·exact fl _ l (by omega) _ _ _ _ _ _ _ _ _ _ (by rw [hlen 2 (by omega)]; exact Co) (fun _=>qu l (by omega)) (fun _ _ _=>Pb l (by omega))
 ·exact fl _ l (by omega) _ _ _ _ _ _ _ _ _ _ (by rw [hlen 3 (by omega)]; exact Cp) (fun _=>Pd l (by omega)) (fun _ _ _=>Pc l (by omega))
end Go.Proofs.YtpejdgkaapnekaaGreat
namespace Go.Proofs.YtpejdgkaapnekaaGreat
open Go Go.Abs
attribute [local irreducible] ae OkC ar aA av aN
set_option maxRecDepth 10000
theorem Ex{op : Int}(h : 1≤op∧op≤22) : op = 1∨op = 2∨op = 3∨op = 4∨op = 5∨op = 6∨op = 7∨op = 8∨op = 9∨op = 10∨op = 11∨op = 12∨op = 13∨op = 14∨op = 15∨op = 16∨op = 17∨op = 18∨op = 19∨op = 20∨op = 21∨op = 22:=by omega
theorem MN{op : Int}(h : 1≤op∧op≤22) : yW env.T 208 (some (.one (.d (.int .i64 op)))) (some (.agg Ac)) = some (.agg [.d (.int .i64 (dC op)),.d (.bool (decide (op = 2) || decide (op = 3))),.d (.bool (decide (op = 1)))]):=by
 rcases Ex h with rfl | rfl | rfl | rfl | rfl | rfl | rfl | rfl | rfl | rfl | rfl | rfl | rfl | rfl | rfl | rfl | rfl | rfl | rfl | rfl | rfl | rfl <;> rfl
theorem Ti(s : Scalar) : CallA Tryz.prog 173 [de s] [] (.one (.d (.bool (df s)))) []:=by
 refine enter af Tryz.func173 rfl (by decide +kernel) rfl fun hok w0 σ0 φ0 M=>?_
 clear hok
 repeat' (first|(refine h1H ?_; (refine h0H ?_; refine aa J J J J J J J J (Ql _ _ _ _) J ?_))|(refine h3H ?_; (refine Qb ?_; refine d_e au J J J (yV J J J J (MN wB)) ?_))|(refine h3H ?_; (refine h2H ?_; refine d_l J J (aB J J J J J J (Q9) J) ?_))|refine wG ?_|(refine h1H ?_; (refine h5H ?_; refine aJ J J J J (fun h=>?_) (fun h=>?_)))|(refine h4H ?_; refine ah J (fun h=>?_) (fun h=>?_)))
 all_goals (try rw [pC] at *)
 all_goals (try (((simp_all [df,dC,pC,ao,List.drop_eq_nil_of_le]) <;> exact wL); done))
end Go.Proofs.YtpejdgkaapnekaaGreat
namespace Go.Proofs.YtpejdgkaapnekaaGreat
open Go Go.Abs
attribute [local irreducible] ae OkC ar aA av aN OkR rT cN iQ vB
set_option maxRecDepth 10000
def DI(d : Bool) : LoopState:=if d then .done else .ready
def vZ(d : Bool) : Option Code:=if d then some .ret else none
def ml(li : LI)(fr : List (Nat×AV))(a : Int×Bool×Bool) : Sto :=
 [(1000000,.loop li fr (DI a.2.2) (vZ a.2.2)),(1000001,.box [.d (.int .i64 (if a.2.2 then 9 else 0))]),(1000002,.box [.d (.int .i64 a.1)]),(1000003,.box [.d (.bool a.2.1)])]
def F87(a : Int×Bool×Bool)(x : Scalar) : Bool×(Int×Bool×Bool):=if 64 < a.1 + 1 then (false,(a.1 + 1,a.2.1,true)) else (true,(a.1 + 1,a.2.1 && df x,false))
def EE(a : Int×Bool×Bool)(x : Scalar) : Prop:=a.2.2 = false∧0≤a.1∧a.1≤64
theorem A8 : ∀ (l : List Scalar) (n : Int) (r : Bool),0≤n→n≤64→da F87 EE l (n,r,false)∧lR l n r = (if (bC F87 l (n,r,false)).2.2.2 = true then 9 else if (bC F87 l (n,r,false)).2.2.1 = true then 0 else 2)
 | [],n,r,h0,h1=>⟨trivial,rfl⟩
 | x::l,n,r,h0,h1=>by
   simp only [da,bC,lR,F87,EE]
   by_cases h : 64 < n + 1
   ·simp only [h,if_true]
    exact ⟨⟨⟨trivial,h0,h1⟩,fun h=>by cases h⟩,rfl⟩
   ·have ih:=A8 l (n + 1) (r && df x) (by omega) (by omega)
    simp only [h,if_false,if_true]
    exact ⟨⟨⟨trivial,h0,h1⟩,fun _=>ih.1⟩,ih.2⟩
theorem Ou(li : LI)(fr : List (Nat×AV))(hf : ∀ a,jc (ml li fr a) fr = true) : FamW (ml li fr):=by
 refine ⟨fun a i e h=>?_,fun a=>?_,fun a=>⟨li,fr,DI a.2.2,vZ a.2.2,rfl⟩,fun a=>rfl⟩
 ·unfold ml at h
  rcases ai h with ⟨rfl,_⟩ | ⟨_,h⟩
  ·omega
  rcases ai h with ⟨rfl,_⟩ | ⟨_,h⟩
  ·omega
  rcases ai h with ⟨rfl,_⟩ | ⟨_,h⟩
  ·omega
  rcases ai h with ⟨rfl,_⟩ | ⟨_,h⟩
  ·omega
  ·exact nomatch h
 ·show (jc (ml li fr a) fr && _) = true
  rw [hf a]; rfl
theorem y87{li : LI}{fr : List (Nat×AV)}(a : Int×Bool×Bool)(x : Scalar)(hok : EE a x)
  (hps : (jj li.n li.params.toList && Nat.beq li.params.toList.length 1) = true)
  (h : ∀ (n : Int) (r : Bool),0≤n→n≤64→∀ (w0 : World) (σ0 : Sig) (φ0 : Pl) (M : Nat→Prop) (B : Nat),OkC Tryz.prog ⟨w0,σ0,φ0,M,li.n,some B,[]⟩ li.assign ⟨fY li.params.toList [de x] fr,ml li fr (n,r,false)⟩
   (iQ Tryz.prog 1000000 ⟨w0,σ0,φ0,M,li.n,some B,[]⟩ li.body (.one (.d (.bool (F87 (n,r,false) x).1))) (ml li fr (F87 (n,r,false) x).2))) :
  YieldA Tryz.prog 1000000 [de x] (ml li fr a) (.one (.d (.bool (F87 a x).1))) (ml li fr (F87 a x).2):=by
 obtain ⟨n,r,d⟩:=a
 obtain ⟨rfl,h0,h1⟩ : d = false∧0≤n∧n≤64:=hok
 exact qz ⟨by omega,by omega⟩ rfl hps (h n r h0 h1)
theorem c87(s : Scalar) : CallA Tryz.prog 87 [de s] [] (.one (.d (.int .i64 (fP s)))) []:=by
 obtain ⟨h0,hform⟩:=A8 (aY s) 0 true (by omega) (by omega)
 obtain ⟨⟨n',r',d'⟩,hR⟩ : ∃ a,(bC F87 (aY s) (0,true,false)).2 = a:=⟨_,rfl⟩
 rw [hR] at hform
 refine enter af Tryz.func87 rfl (by decide +kernel) rfl fun hok w0 σ0 φ0 M=>?_
 clear hok
 repeat' (first|(refine h1H ?_; (refine h0H ?_; first|refine aa J J J J J J J J (LD 12 s 12 J (by omega)) J ?_|refine az 16 J J J J J J J J (HK _) J J J ?_))|refine wG ?_|(refine h4H ?_; refine ah J (fun h=>?_) (fun h=>?_)))
 ·simp [fP,h]
 ·have hC:=fun li fr hf hY=>HL (ml li fr) (Ou li fr hf) F87 EE hY s (0,true,false) h0
  rw [hR] at hC
  refine qw (f:=216) (caps:=[.ptr (qU s)]) (os:=[(1,.box [.d (.int .i64 0)]),(2,.box [.d (.int .i64 0)]),(3,.box [.d (.bool true)])]) (rav:=.tup []) [1,2,3] 10 rfl rfl rfl rfl (hC _ _ (fun a=>?_) (fun a x hok=>?_)) (by cases d' <;> rfl) (fun h=>?_) (fun h=>?_)
  ·rfl
  ·refine y87 a x hok rfl fun n r hn0 hn1 w0 σ0 φ0 M B=>?_
   clear hC hform hok a
   by_cases hb : 64 < n + 1
   ·have e : F87 (n,r,false) x = (false,(n + 1,r,true)):=by simp [F87,hb]
    have hd : decide (64 < n + 1) = true:=by simp [hb]
    rw [e]
    repeat' (first|refine wG ?_|(show cN _ _ _ _ _; refine oy rfl J ?_ ?_))
    ·rfl
    ·exact aj rfl (q3Q rfl rfl rfl)
   ·have e : F87 (n,r,false) x = (true,(n + 1,r && df x,false)):=by simp [F87,hb]
    have hd : decide (64 < n + 1) = false:=by simp [hb]
    rw [e]
    cases r
    all_goals
     repeat' (first|(refine h1H ?_; (refine h0H ?_; refine aa J J J J J J J J (Ti _) J ?_))|refine wG ?_|(show cN _ _ _ _ _; refine fX J ?_ ?_))
     all_goals first | rfl | refine aj ?_ (aj ?_ (aj ?_ (aj ?_ aZ)))
     all_goals first | rfl | trace_state
  ·have : d' = false:=by cases d' <;> simp [vZ] at h ⊢
   subst this
   rintro ⟨w1,σ1,φ1,M1,n1,rd1,mk1⟩ ⟨hn,hrd,_⟩
   dsimp only at hn hrd
   subst hn hrd
   repeat' (first|refine wG ?_|(refine h4H ?_; refine ah J (fun h=>?_) (fun h=>?_)))
   all_goals simp_all [fP]
  ·have : d' = true:=by cases d' <;> simp [vZ] at h ⊢
   subst this
   repeat' (first|refine wG ?_)
   have hf : fP s = 9:=by rw [fP,hform]; simp_all
   rw [hf]; rfl
def ju(li : LI)(fr : List (Nat×AV))(A : List D)(r : Nat)(a : List Int×Bool×Int) : Sto :=
 [(1000000,.loop li fr (DI a.2.1) (vZ a.2.1)),(1000001,.box (A.map .d)),(1000002,.box [.d (.int .i64 0)]),(1000003,.box [.d (.int .i64 a.2.2)]),(1000004,.box [.own r a.1.length]),(r,.row 1 8 (a.1.map bJ))]
theorem pM{s : Sto} : ∀ {A : List D},eC s (A.map .d) = true
 | []=>rfl
 | x::r=>by simp only [List.map_cons,eC,bG,pM (A:=r),Bool.and_self]
theorem NW(li : LI)(fr : List (Nat×AV))(A : List D)(hf : ∀ a,jc (ju li fr A 2000000 a) fr = true) : FamW (ju li fr A 2000000):=by
 refine ⟨fun a i e h=>?_,fun a=>?_,fun a=>⟨li,fr,DI a.2.1,vZ a.2.1,rfl⟩,fun a=>rfl⟩
 ·unfold ju at h
  rcases ai h with ⟨rfl,_⟩ | ⟨_,h⟩
  ·omega
  rcases ai h with ⟨rfl,_⟩ | ⟨_,h⟩
  ·omega
  rcases ai h with ⟨rfl,_⟩ | ⟨_,h⟩
  ·omega
  rcases ai h with ⟨rfl,_⟩ | ⟨_,h⟩
  ·omega
  rcases ai h with ⟨rfl,_⟩ | ⟨_,h⟩
  ·omega
  rcases ai h with ⟨rfl,_⟩ | ⟨_,h⟩
  ·omega
  ·exact nomatch h
 ·show (jc (ju li fr A 2000000 a) fr && (eC (ju li fr A 2000000 a) (A.map .d) && _)) = true
  rw [hf a,pM]; rfl
theorem y88{li : LI}{fr : List (Nat×AV)}{A : List D}(ds : List Dim)(ats : List Attr)(a : List Int×Bool×Int)(x : Scalar)(hok : pF a x)
  (hps : (jj li.n li.params.toList && Nat.beq li.params.toList.length 1) = true)
  (h : ∀ (l : List Int),l.length≤64→(4≤x.op→x.args.length≤l.length)→df x = true→∀ (w0 : World) (σ0 : Sig) (φ0 : Pl) (M : Nat→Prop) (B : Nat),OkC Tryz.prog ⟨w0,σ0,φ0,M,li.n,some B,[]⟩ li.assign ⟨fY li.params.toList [de x] fr,ju li fr A 2000000 (l,false,0)⟩
   (iQ Tryz.prog 1000000 ⟨w0,σ0,φ0,M,li.n,some B,[]⟩ li.body (.one (.d (.bool (F88 ds ats (l,false,0) x).1))) (ju li fr A 2000000 (F88 ds ats (l,false,0) x).2))) :
  YieldA Tryz.prog 1000000 [de x] (ju li fr A 2000000 a) (.one (.d (.bool (F88 ds ats a x).1))) (ju li fr A 2000000 (F88 ds ats a x).2):=by
 obtain ⟨l,d,e⟩:=a
 obtain ⟨rfl,rfl,hp,h64,hargs⟩ : d = false∧e = 0∧df x = true∧l.length≤64∧(4≤x.op→x.args.length≤l.length):=hok
 exact qz ⟨by omega,by omega⟩ rfl hps (h l h64 hargs hp)
def q88(i : Nat) : Nat:=bif Nat.beq i 1000005 then 2000000 else i
def p88(i : Nat) : Nat:=bif Nat.beq i 2000000 then 5 else i
theorem zM{sto : Sto}{li : LI}{fr : List (Nat×AV)}{A : List D}{l : List Int}{t : Int}{m : Nat}(hm : m≤l.length)(h1 : Abs.look sto 1000000 = some (.loop li fr .ready none))(h2 : Abs.look sto 1000001 = some (.box (A.map .d)))(h3 : Abs.look sto 1000002 = some (.box [.d (.int .i64 0)]))
  (h4 : Abs.look sto 1000003 = some (.box [.d (.int .i64 0)])) (h5 : Abs.look sto 1000004 = some (.box [.own 2000000 (m + 1)])) (h6 : Abs.look sto 2000000 = some (.row 1 8 ((l.map bJ).take m ++ [[.int .i64 t]]))) : SubL sto (ju li fr A 2000000 (l.take m ++ [t],false,0)):=by
 refine ⟨h1,h2,h3,h4,?_,?_,trivial⟩
 ·rw [h5]; simp [Nat.min_eq_left hm]
 ·rw [h6]; simp [bJ,List.map_take]
theorem DJ{sto : Sto}{li : LI}{fr : List (Nat×AV)}{A : List D}{l : List Int}{t : Int}(h1 : Abs.look sto 1000000 = some (.loop li fr .ready none))(h2 : Abs.look sto 1000001 = some (.box (A.map .d)))(h3 : Abs.look sto 1000002 = some (.box [.d (.int .i64 0)]))
  (h4 : Abs.look sto 1000003 = some (.box [.d (.int .i64 0)])) (h5 : Abs.look sto 1000004 = some (.box [.own 2000000 (l.length + 1)])) (h6 : Abs.look sto 2000000 = some (.row 1 8 ((l.map bJ).take l.length ++ [[.int .i64 t]]))) : SubL sto (ju li fr A 2000000 (l ++ [t],false,0)):=by
 have:=zM (Nat.le_refl _) h1 h2 h3 h4 h5 h6
 rwa [List.take_length] at this
set_option maxHeartbeats 4000000 in
theorem c88(ds : List Dim)(ats : List Attr)(cs : D)(s : Scalar)(hp : dc s = true)(hsz : (aY s).length≤64) : CallA Tryz.prog 88 [.agg [.d (aF ds),.d (ax ats),.d cs],de s] [] (ie (cy dF ds ats s)) []:=by
 obtain ⟨h0,hrun⟩:=P6 (ds:=ds) (ats:=ats) s hp [] (by simp; omega)
 obtain ⟨⟨l',d',e'⟩,hR⟩ : ∃ a,(bC (F88 ds ats) (aY s) ([],false,0)).2 = a:=⟨_,rfl⟩
 have hend : (d' = true∧e' = (cy dF ds ats s).2∧e'≠0)∨(d' = false∧e' = 0∧(cy dF ds ats s).2 = 0∧l' = [(cy dF ds ats s).1]):=by
  by_cases hz : (cy dF ds ats s).2 = 0
  ·rw [if_pos hz] at hrun
   rw [hrun] at hR
   cases hR
   exact .inr ⟨rfl,rfl,hz,rfl⟩
  ·rw [if_neg hz] at hrun
   obtain ⟨l2,hrun⟩:=hrun
   rw [hrun] at hR
   cases hR
   exact .inl ⟨rfl,rfl,hz⟩
 refine enter af Tryz.func88 rfl (by decide +kernel) rfl fun hok w0 σ0 φ0 M=>?_
 have hats : ats.length < 281474976710656:=by
  have:=(OkD.sl (hok.1 (.d (ax ats)) (by simp))).1; simpa using this
 clear hok
 repeat' (first|(refine h1H ?_; (refine h0H ?_; refine az 16 J J J J J J J J (HK _) J J J ?_))|refine wG ?_)
 ·have hC:=fun li fr hf hY=>HL (ju li fr [aF ds,ax ats,cs] 2000000) (NW li fr _ hf) (F88 ds ats) pF hY s ([],false,0) h0
  rw [hR] at hC
  refine B5 (uJ 4 5 (k:=1) (b:=8) rfl rfl) ?_
  refine qw (f:=216) (caps:=[.ptr (qU s)]) (rav:=.tup []) [0,2,3,4,5] 10 rfl rfl rfl rfl (xr q88 p88 (hC _ _ (fun a=>?_) (fun a x hok=>?_)) rfl rfl rfl rfl rfl rfl rfl) (by cases d' <;> rfl) (fun h=>?_) (fun h=>?_)
  ·rfl
  ·refine y88 ds ats a x hok rfl fun l h64 hargs hpx w0 σ0 φ0 M B=>?_
   clear hC hend hR hrun h0 hok a
   by_cases h1 : x.op = 1
   ·have e : F88 ds ats (l,false,0) x = (true,(l ++ [dF x.val],false,0)):=by simp [F88,h1]
    have hb1 : (x.op == 1) = true:=by simp [h1]
    rw [e]
    repeat' (first|(refine h1H ?_; (refine h0H ?_; first|refine eH af J J J J J J J J J J J J J (by show List.length l≤100000000; omega) (Nat.le_of_ble_eq_true J) (Nat.le_of_ble_eq_true J) ?_|refine aa J J J J J J J J (Qq _ _ _ _) J ?_))|refine wG ?_|(show cN _ _ _ _ _; refine fX J ?_ ?_))
    ·rfl
    ·exact DJ (by kernel_rfl) (by kernel_rfl) (by kernel_rfl) (by kernel_rfl) (by kernel_rfl) (by kernel_rfl)
   have hb1 : (x.op == 1) = false:=by simp [h1]
   by_cases h2 : x.op = 2
   ·have hb2 : (x.op == 2) = true:=by simp [h2]
    by_cases hi : atI ats x.name < 0
    ·have e : F88 ds ats (l,false,0) x = (false,(l,true,11)):=by simp [F88,h2,jo,hi]
     have hd : decide (aL (fun a : Attr=>a.name == x.name) ats 0 < 0) = true:=by simpa [atI] using hi
     rw [e]
     repeat' (first|(refine h1H ?_; (refine h0H ?_; refine aa J J J J J J J J (zu _ _ _ _) J ?_))|refine wG ?_|(show cN _ _ _ _ _; refine oy rfl J ?_ ?_))
     ·rfl
     ·exact aj (by kernel_rfl) (aj (by kernel_rfl) (aj (by kernel_rfl) (aj (by kernel_rfl) (aj (by kernel_rfl) (aj (by kernel_rfl) aZ)))))
    ·have e : F88 ds ats (l,false,0) x = (true,(l ++ [(at_ ats (atI ats x.name).toNat).type],false,0)):=by simp [F88,h2,jo,hi]
     have hd : decide (aL (fun a : Attr=>a.name == x.name) ats 0 < 0) = false:=by simpa [atI] using hi
     have hr:=fL (p:=fun a : Attr=>a.name == x.name) (l:=ats) (k:=0) (by simpa [atI] using hi)
     obtain ⟨hr1,hr2⟩:=hr
     rw [e]
     repeat' (first|(refine h1H ?_; (refine h0H ?_; first|refine eH af J J J J J J J J J J J J J (by show List.length l≤100000000; omega) (Nat.le_of_ble_eq_true J) (Nat.le_of_ble_eq_true J) ?_|refine aa J J J J J J J J (zu _ _ _ _) J ?_))|refine wG ?_|(show cN _ _ _ _ _; refine fX J ?_ ?_))
     ·rfl
     ·exact DJ (by kernel_rfl) (by kernel_rfl) (by kernel_rfl) (by kernel_rfl) (by kernel_rfl) (by kernel_rfl)
   have hb2 : (x.op == 2) = false:=by simp [h2]
   by_cases h3 : x.op = 3
   ·have hb3 : (x.op == 3) = true:=by simp [h3]
    by_cases hi : lZ ds x.name < 0
    ·have e : F88 ds ats (l,false,0) x = (false,(l,true,11)):=by simp [F88,h3,ly,hi]
     have hd : decide (aL (fun a : Dim=>a.name == x.name) ds 0 < 0) = true:=by simpa [lZ] using hi
     rw [e]
     repeat' (first|(refine h1H ?_; (refine h0H ?_; refine aa J J J J J J J J (vN _ _ _ _) J ?_))|refine wG ?_|(show cN _ _ _ _ _; refine oy rfl J ?_ ?_))
     ·rfl
     ·exact aj (by kernel_rfl) (aj (by kernel_rfl) (aj (by kernel_rfl) (aj (by kernel_rfl) (aj (by kernel_rfl) (aj (by kernel_rfl) aZ)))))
    ·have e : F88 ds ats (l,false,0) x = (true,(l ++ [2],false,0)):=by simp [F88,h3,ly,hi]
     have hd : decide (aL (fun a : Dim=>a.name == x.name) ds 0 < 0) = false:=by simpa [lZ] using hi
     rw [e]
     repeat' (first|(refine h1H ?_; (refine h0H ?_; first|refine eH af J J J J J J J J J J J J J (by show List.length l≤100000000; omega) (Nat.le_of_ble_eq_true J) (Nat.le_of_ble_eq_true J) ?_|refine aa J J J J J J J J (vN _ _ _ _) J ?_))|refine wG ?_|(show cN _ _ _ _ _; refine fX J ?_ ?_))
     ·rfl
     ·exact DJ (by kernel_rfl) (by kernel_rfl) (by kernel_rfl) (by kernel_rfl) (by kernel_rfl) (by kernel_rfl)
   have hb3 : (x.op == 3) = false:=by simp [h3]
   obtain ⟨hop,hlen⟩:=jR hpx h1 h2 h3
   have hal:=hargs hop.1
   obtain ⟨m,hm⟩ : ∃ m : Nat,l.length = m + x.args.length:=⟨l.length - x.args.length,by omega⟩
   have hml : l.length - x.args.length = m:=by omega
   have hsub : ((l.length : Int) - (x.args.length : Int)) = (m : Int):=by omega
   have hC:=Qr x.op (l.drop m) hop (by simp; omega)
   repeat' (first|refine wG ?_)
   simp only [List.length_map]
   rw [hsub]
   rcases Nat.eq_zero_or_pos m with h0 | h0
   ·have hC' : CallA Tryz.prog 175 [.one (.d (.int .i64 x.op)),.one (.d (.sl 1 8 ((l.map bJ).take l.length)))] [] (ie (bM x.op (l.drop m))) []:=by
     have e1 : aM (l.drop m) = .sl 1 8 ((l.map bJ).take l.length):=by rw [List.take_of_length_le (by simp)]; simp [aM,h0]
     rw [e1] at hC; exact hC
    refine d_e au rfl rfl rfl (oN rfl rfl rfl (by rw [h0]; rfl) rfl rfl (by simp)) ?_
    refine r8 [2000000] rfl rfl rfl rfl rfl rfl rfl rfl rfl hC' rfl ?_
    ·by_cases hz : (bM x.op (l.drop m)).2 = 0
     ·have hbz : ((bM x.op (l.drop m)).2 != 0) = false:=by simp [hz]
      have e : F88 ds ats (l,false,0) x = (true,(l.take m ++ [(bM x.op (l.drop m)).1],false,0)):=by
       simp only [F88]; rw [if_neg h1,if_neg h2,if_neg h3,hml]; simp [hz]
      rw [e]
      repeat' (first|refine wG ?_)
      refine d_e au rfl rfl rfl (fp rfl rfl rfl rfl rfl rfl (by omega) (by show Int.toNat (m : Int)≤List.length l; omega) (by simp)) ?_
      repeat' (first|(refine h1H ?_; (refine h0H ?_; refine eH af J J J J J J J J J J J J J (by show Int.toNat (m : Int)≤100000000; omega) (Nat.le_of_ble_eq_true J) (Nat.le_of_ble_eq_true J) ?_))|refine wG ?_|(show cN _ _ _ _ _; refine fX J ?_ ?_))
      ·rfl
      ·exact zM (by omega) (by kernel_rfl) (by kernel_rfl) (by kernel_rfl) (by kernel_rfl) (by kernel_rfl) (by kernel_rfl)
     ·have hbz : ((bM x.op (l.drop m)).2 != 0) = true:=by simp [hz]
      have e : F88 ds ats (l,false,0) x = (false,(l,true,(bM x.op (l.drop m)).2)):=by
       simp only [F88]; rw [if_neg h1,if_neg h2,if_neg h3,hml]; simp [hz]
      rw [e]
      repeat' (first|refine wG ?_|(show cN _ _ _ _ _; refine oy rfl J ?_ ?_))
      ·rfl
      ·exact aj (by kernel_rfl) (aj (by kernel_rfl) (aj (by kernel_rfl) (aj (by kernel_rfl) (aj (by kernel_rfl) (aj (by kernel_rfl) aZ)))))
   ·have hC' : CallA Tryz.prog 175 [.one (.d (.int .i64 x.op)),.one (.d (.sl 1 8 (((l.map bJ).drop m).take (l.length - m))))] [] (ie (bM x.op (l.drop m))) []:=by
     have e1 : aM (l.drop m) = .sl 1 8 (((l.map bJ).drop m).take (l.length - m)):=by
      rw [List.take_of_length_le (by simp)]; simp [aM,List.map_drop]
     rw [e1] at hC; exact hC
    refine d_e au rfl rfl rfl (qn rfl rfl rfl rfl rfl rfl (by omega) (by show Int.toNat (m : Int)≤List.length l; omega) (by simp)) ?_
    refine r8 [2000000] rfl rfl rfl rfl rfl rfl rfl rfl rfl hC' rfl ?_
    ·by_cases hz : (bM x.op (l.drop m)).2 = 0
     ·have hbz : ((bM x.op (l.drop m)).2 != 0) = false:=by simp [hz]
      have e : F88 ds ats (l,false,0) x = (true,(l.take m ++ [(bM x.op (l.drop m)).1],false,0)):=by
       simp only [F88]; rw [if_neg h1,if_neg h2,if_neg h3,hml]; simp [hz]
      rw [e]
      repeat' (first|refine wG ?_)
      refine d_e au rfl rfl rfl (fp rfl rfl rfl rfl rfl rfl (by omega) (by show Int.toNat (m : Int)≤List.length l; omega) (by simp)) ?_
      repeat' (first|(refine h1H ?_; (refine h0H ?_; refine eH af J J J J J J J J J J J J J (by show Int.toNat (m : Int)≤100000000; omega) (Nat.le_of_ble_eq_true J) (Nat.le_of_ble_eq_true J) ?_))|refine wG ?_|(show cN _ _ _ _ _; refine fX J ?_ ?_))
      ·rfl
      ·exact zM (by omega) (by kernel_rfl) (by kernel_rfl) (by kernel_rfl) (by kernel_rfl) (by kernel_rfl) (by kernel_rfl)
     ·have hbz : ((bM x.op (l.drop m)).2 != 0) = true:=by simp [hz]
      have e : F88 ds ats (l,false,0) x = (false,(l,true,(bM x.op (l.drop m)).2)):=by
       simp only [F88]; rw [if_neg h1,if_neg h2,if_neg h3,hml]; simp [hz]
      rw [e]
      repeat' (first|refine wG ?_|(show cN _ _ _ _ _; refine oy rfl J ?_ ?_))
      ·rfl
      ·exact aj (by kernel_rfl) (aj (by kernel_rfl) (aj (by kernel_rfl) (aj (by kernel_rfl) (aj (by kernel_rfl) (aj (by kernel_rfl) aZ)))))
  ·rcases hend with ⟨rfl,_⟩ | ⟨rfl,rfl,hz,rfl⟩
   ·exact nomatch h
   rintro ⟨w1,σ1,φ1,M1,n1,rd1,mk1⟩ ⟨hn,hrd,_⟩
   dsimp only at hn hrd
   subst hn hrd
   refine bf (y7 (s':=[(2,.box [.d (.int .i64 0)]),(3,.box [.d (.int .i64 0)]),(4,.box [.own 16 1]),(16,.row 1 8 [[.int .i64 (cy dF ds ats s).1]])]) (aj (by kernel_rfl) (aj (by kernel_rfl) (aj (by kernel_rfl) (aj (by kernel_rfl) aZ))))) ?_
   repeat' (first|refine wG ?_)
   simp [ie,hz]
  ·rcases hend with ⟨rfl,rfl,hz⟩ | ⟨rfl,_⟩
   ·repeat' (first|refine wG ?_)
    show AV.tup [(false,[.d (.int .i64 0)]),(false,[.d (.int .i64 (cy dF ds ats s).2)])] = _
    simp [ie,Hw hz]
   ·exact nomatch h
end Go.Proofs.YtpejdgkaapnekaaGreat
