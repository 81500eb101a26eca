import Derived.Test.YtpejdgkaapnekaaGreatGP24
import Derived.Test.YtpejdgkaapnekaaGreatGE1
import Derived.Test.YtpejdgkaapnekaaGreatGP21
import Derived.Test.YtpejdgkaapnekaaGreatGP18
import Derived.Test.YtpejdgkaapnekaaGreatGP16
import Derived.Test.YtpejdgkaapnekaaGreatGP15
import Derived.Test.YtpejdgkaapnekaaGreatGP19
import Derived.Test.YtpejdgkaapnekaaGreatGP17
set_option linter.unusedVariables false
set_option linter.unusedSimpArgs false
set_option linter.unnecessarySimpa false
set_option maxHeartbeats 1000000
namespace Go.Proofs.YtpejdgkaapnekaaGreat
open Go Go.Abs
attribute [local irreducible] ac OkC ao ax ap aJ
set_option maxRecDepth 10000
theorem K5(a b : Val)(hR : RatOk a.num.natAbs a.den.natAbs b.num.natAbs b.den.natAbs) : CallA Tryz.prog 381 [.one (.d (lY a)),.one (.d (lY b))] [] (.one (.d (.int .i64 (mE (dt (decide (a.num < 0)) a.num.natAbs a.den.natAbs (decide (b.num < 0)) b.num.natAbs b.den.natAbs true))))) [] :=
 MZ up _ _ _ _ _ _ hR
def uq(a b : Val) : Int:=if sgF a.kind b.kind≠0 then sgF a.kind b.kind else if a.kind = 2 then mE (dt (decide (a.num < 0)) a.num.natAbs a.den.natAbs (decide (b.num < 0)) b.num.natAbs b.den.natAbs true) else if a.kind = 3 then lr a.str b.str else sgF a.num b.num
theorem M0(a b : Val)(hR : a.kind = 2→RatOk a.num.natAbs a.den.natAbs b.num.natAbs b.den.natAbs) : CallA Tryz.prog 365 [aW a,aW b] [] (.one (.d (.int .i64 (uq a b)))) []:=by
 unfold aW
 refine enter ae Tryz.func365 rfl (by decide +kernel) rfl fun hok w0 σ0 φ0 M=>?_
 clear hok
 repeat' (first|(refine h1H ?_; (refine h0H ?_; first|refine aa J J J J J J J J (MA _ _) J ?_|refine aa J J J J J J J J (MB _ _) J ?_|refine aa J J J J J J J J (Mz _ _) J ?_))|(refine h3H ?_; (refine h2H ?_; first|refine d_l J J (aA J J J J J J (K5 _ _ (hR (by simpa using ‹(a.kind == 2) = true›))) J) ?_|refine bh 16 J J J J J J J J (s9 _) J J ?_))|refine wG ?_|(refine h4H ?_; refine ag J (fun h=>?_) (fun h=>?_)))
 all_goals refine congrArg (fun x=>AV.one (.d (.int .i64 x))) ?_
 ·have h' : sgF a.kind b.kind≠0:=by simpa using h
  unfold uq; rw [if_pos h']
 ·have h1 : ¬ sgF a.kind b.kind≠0:=by simpa using ‹(sgF a.kind b.kind != 0) = false›
  have h2 : a.kind = 2:=by simpa using h
  unfold uq; rw [if_neg h1,if_pos h2]
 ·have h1 : ¬ sgF a.kind b.kind≠0:=by simpa using ‹(sgF a.kind b.kind != 0) = false›
  have h2 : ¬ a.kind = 2:=by simpa using ‹(a.kind == 2) = false›
  have h3 : a.kind = 3:=by simpa using h
  unfold uq; rw [if_neg h1,if_neg h2,if_pos h3]
 ·have h1 : ¬ sgF a.kind b.kind≠0:=by simpa using ‹(sgF a.kind b.kind != 0) = false›
  have h2 : ¬ a.kind = 2:=by simpa using ‹(a.kind == 2) = false›
  have h3 : ¬ a.kind = 3:=by simpa using h
  unfold uq; rw [if_neg h1,if_neg h2,if_neg h3]
theorem M3(l : List Val)(f : FuncId)(g : Int→Bool)(hl : 2≤l.length)(hR : (at_ l 0).kind = 2→RatOk (at_ l 0).num.natAbs (at_ l 0).den.natAbs (at_ l 1).num.natAbs (at_ l 1).den.natAbs)
  (hf : ∀ o : Int,CallA Tryz.prog f [.one (.d (.int .i64 o))] [] (.one (.d (.bool (g o)))) []) : CallA Tryz.prog 364 [.one (.d (az l)),.one (.d (.ptr [.fn f []]))] [] (aW (ay (g (uq (at_ l 0) (at_ l 1))))) []:=by
 refine enter ae Tryz.func364 rfl (by decide +kernel) rfl fun hok w0 σ0 φ0 M=>?_
 clear hok
 repeat' (first|(refine h3H ?_; (refine h2H ?_; first|refine d_l J J (aA J J J J J J (xr _) J) ?_|refine d_l J J (aA J J J J J J (M0 _ _ hR) J) ?_|refine d_l J J (aA J J J J J J (hf _) J) ?_))|refine wG ?_)
 all_goals first | rfl | skip
def aD(l : List Val) : Option Val:=l.find? fun v=>v.kind == 0
def iH(b : Bool)(l : List Val) : Val:=if br (at_ l 0) (ay b) = true∨br (at_ l 1) (ay b) = true then ay b else (aD l).getD (ay (!b))
theorem I9{b : Bool}{l : List Val}(h : (br (at_ l 0) (ay b) == true) = true) : iH b l = ay b:=by unfold iH; rw [if_pos (.inl (by simpa using h))]
theorem Ja{b : Bool}{l : List Val}(h : (br (at_ l 1) (ay b) == true) = true) : iH b l = ay b:=by unfold iH; rw [if_pos (.inr (by simpa using h))]
theorem DJ{b : Bool}{l : List Val}(h : (br (at_ l 0) (ay b) == true) = false)(h2 : (br (at_ l 1) (ay b) == true) = false) : iH b l = (aD l).getD (ay (!b)):=by
 unfold iH; rw [if_neg]; rintro (e | e)
 ·rw [e] at h; cases h
 ·rw [e] at h2; cases h2
theorem lZ{l : List Val}{k : Nat}(hk : k < l.length)(h : ((at_ l k).kind == 0) = true) : aD (l.drop k) = some (at_ l k):=by
 rw [am hk]; unfold aD; rw [List.find?_cons,h]
theorem cA{l : List Val}{k : Nat}(hk : k < l.length)(h : ((at_ l k).kind == 0) = false) : aD (l.drop k) = aD (l.drop (k + 1)):=by
 rw [am hk]; unfold aD; rw [List.find?_cons,h]
theorem xM{l : List Val}{k : Nat}(hk : l.length≤k) : aD (l.drop k) = none:=by
 rw [List.drop_eq_nil_of_le hk]; rfl
theorem Jb(l : List Val)(b : Bool)(hl : 2≤l.length) : CallA Tryz.prog 367 [.one (.d (az l)),.one (.d (.ptr [.bool b]))] [] (aW (iH b l)) []:=by
 refine enter ae Tryz.func367 rfl (by decide +kernel) rfl fun hok w0 σ0 φ0 M=>?_
 have h1:=hok.1.sl.1; clear hok; simp only [List.length_map] at h1
 repeat' (first|(refine h1H ?_; (refine h0H ?_; refine aa J J J J J J J J (xr _) J ?_))|(refine h3H ?_; (refine h2H ?_; refine d_l J J (aA J J J J J J (xr _) J) ?_))|refine wG ?_|(refine h4H ?_; first|refine ag J (fun h=>?_) (fun h=>?_)|refine aB 4 J [(1,_),(3,_),(22,_),(23,_)] (q4Q J J J J) (fun (k : Nat)=>[(24,.one (.d (.int .i64 (k : Int))))]) (fun (k : Nat)=>k≤l.length∧aD l = aD (l.drop k)) (fun (k : Nat)=>l.length - k) 0 (q1Q J) ?_ (fun k ⟨hk,hq⟩=>?_))|(refine h3H ?_; (refine r7 ?_; refine j9 J J (fun h=>?_) (fun h=>?_)))|(show Exists _; refine Exists.intro (k + 1) ⟨?_,?_,wK,(q1Q J),(q4Q J J J J)⟩))
 ·exact (congrArg aW (Ja h)).symm
 ·exact ⟨Nat.zero_le _,rfl⟩
 ·have hlt : k < l.length:=by simpa using ‹decide ((k : Int) < ((l.map ab).length : Int)) = true›
  rename_i h5 h6 _ _
  rw [DJ h5 h6,hq,lZ hlt h]; rfl
 ·have hlt : k < l.length:=by simpa using ‹decide ((k : Int) < ((l.map ab).length : Int)) = true›
  exact ⟨hlt,hq.trans (cA hlt h)⟩
 ·have hlt : k < l.length:=by simpa using ‹decide ((k : Int) < ((l.map ab).length : Int)) = true›
  omega
 ·have hge : l.length≤k:=by simpa using h
  rename_i h5 h6 _
  rw [DJ h5 h6,hq,xM hge]; rfl
 ·exact (congrArg aW (I9 h)).symm
def al(v : Val) : Bool:=dm v.kind v.num v.den v.str
theorem Hf(v : Val) : CallA Tryz.prog 233 [aW v] [] (.one (.d (.bool (al v)))) []:=F0 _ _ _ _
def km : Val:=⟨0,0,0,[]⟩
def cI(p : Val×Int) : AV:=.tup [(true,[.d (.int .i64 p.1.kind),.d (.int .i64 p.1.num),.d (.int .i64 p.1.den),.d (.str p.1.str)]),(false,[.d (.int .i64 p.2)])]
def doG(l : List Val)(kd free : Bool)(rv : Val) : Val×Int :=
 if l.all al = true then (if kd = true then (if free = true then (rv,0) else ((aD l).getD rv,0)) else (km,12)) else (km,2)
theorem aj{l : List Val}{k : Nat}(hq : l.all al = (l.drop k).all al)(h : decide ((k : Int) < ((l.map ab).length : Int)) = false) : l.all al = true:=by
 have h : l.length≤k:=by simpa using h
 rw [hq,List.drop_eq_nil_of_le h]; rfl
theorem dM{l : List Val}{k : Nat}(hq : l.all al = (l.drop k).all al)(hlt : k < l.length)(h : (!al (at_ l k)) = true) : ¬ l.all al = true:=by
 rw [hq,am hlt,List.all_cons]
 have h : al (at_ l k) = false:=by simpa using h
 rw [h]; simp
theorem dN{l : List Val}{k : Nat}(hq : l.all al = (l.drop k).all al)(hlt : k < l.length)(h : (!al (at_ l k)) = false) : l.all al = (l.drop (k + 1)).all al:=by
 rw [hq,am hlt,List.all_cons]
 have h : al (at_ l k) = true:=by simpa using h
 rw [h]; simp
theorem ar{l : List Val}{k : Nat}(hq : aD l = aD (l.drop k))(h : decide ((k : Int) < ((l.map ab).length : Int)) = false) : aD l = none:=by
 have h : l.length≤k:=by simpa using h
 rw [hq,xM h]
theorem yY{f : FuncId}{l : List Val}{xs : List (List D)}{r : List AV}{rav : AV}(h : CallA Tryz.prog f (.one (.d (az l))::r) [] rav [])(hx : xs = l.map ab) : CallA Tryz.prog f (.one (.d (.sl 4 40 xs))::r) [] rav []:=by
 subst hx; exact h
theorem B7{l : List Val}{kd free : Bool}{rv : Val}(h : ¬ l.all al = true) : doG l kd free rv = (km,2):=if_neg h
theorem B8{l : List Val}{kd free : Bool}{rv : Val}(h : l.all al = true)(h2 : (!kd) = true) : doG l kd free rv = (km,12):=by unfold doG; rw [if_pos h,if_neg (by simpa using h2)]
theorem LH{l : List Val}{kd free : Bool}{rv : Val}(h : l.all al = true)(h2 : (!kd) = false)(h3 : (!free) = false) : doG l kd free rv = (rv,0):=by unfold doG; rw [if_pos h,if_pos (by simpa using h2),if_pos (by simpa using h3)]
theorem tD{l : List Val}{kd free : Bool}{rv : Val}(h : l.all al = true)(h2 : (!kd) = false)(h3 : (!free) = true) : doG l kd free rv = ((aD l).getD rv,0):=by unfold doG; rw [if_pos h,if_pos (by simpa using h2),if_neg (by simpa using h3)]
set_option maxHeartbeats 1000000 in
theorem eK(op : Int)(l : List Val)(hl : l.length≤3)(n : Int)(fk ft fd : FuncId)(ck ct cd : List D)(free kd : Bool)(rv : Val)
  (h226 : CallA Tryz.prog 226 [.one (.d (.int .i64 op)),.one (.d (.int .i64 (l.map ab).length))] [] (.tup [(true,[.d (.int .i64 n),.d (.fn fk ck),.d (.fn ft ct),.d (.bool free),.d (.fn fd cd)]),(false,[.d (.bool true)])]) [])
  (hk : l.all al = true→CallA Tryz.prog fk (.one (.d (az l))::ck.map fun x=>.one (.d x)) [] (.one (.d (.bool kd))) [])
  (hd : l.all al = true→kd = true→(free = true∨aD l = none)→CallA Tryz.prog fd (.one (.d (az l))::cd.map fun x=>.one (.d x)) [] (aW rv) []) :
  CallA Tryz.prog 186 [.one (.d (.int .i64 op)),.one (.d (az l))] [] (cI (doG l kd free rv)) []:=by
 refine enter ae Tryz.func186 rfl (by decide +kernel) rfl fun hok w0 σ0 φ0 M=>?_
 have h1:=hok.2.1.sl.1; clear hok; simp only [List.length_map] at h1
 repeat' (first|(refine h1H ?_; (refine h0H ?_; first|refine aw 60 J J J J J J J J h226 J J J ?_|refine aa J J J J J J J J (Hf _) J ?_|refine aa J J J J J J J J (hk (aj hq h)) J ?_))|(refine h3H ?_; (refine Jy ?_; refine im aq 10 J J J J J J ?_))|(refine h3H ?_; (refine h2H ?_; first|refine im aq 11 J J J (ld (i:=10) J J J J J J J J (by simp) (by simp; omega) (Nat.le_of_ble_eq_true J)) J J ?_|refine Am 40 [11] J J J J J J J J J (yY (hd (aj hq ‹decide ((k : Int) < ((l.map ab).length : Int)) = false›) (by simpa using ‹(!kd) = false›) (.inl (by simpa using ‹(!free) = false›))) (by simp; exact List.take_of_length_le (by simp))) J J ?_|refine Am 40 [11] J J J J J J J J J (yY (hd (aj hq ‹decide ((k : Int) < ((l.map ab).length : Int)) = false›) (by simpa using ‹(!kd) = false›) (.inr (ar hq1 h))) (by simp; exact List.take_of_length_le (by simp))) J J ?_))|refine wG ?_|(refine h4H ?_; first|refine ag J (fun h=>?_) (fun h=>?_)|refine aB 5 J [(1,_),(4,_),(6,_),(22,_),(23,_)] (q5Q J J J J J) (fun (k : Nat)=>[(24,.one (.d (.int .i64 (k : Int))))]) (fun (k : Nat)=>k≤l.length∧l.all al = (l.drop k).all al) (fun (k : Nat)=>l.length - k) 0 (q1Q J) ?_ (fun k ⟨hk0,hq⟩=>?_)|refine aB 14 J [(1,_),(4,_),(6,_),(42,_),(43,_)] (q5Q J J J J J) (fun (j : Nat)=>[(44,.one (.d (.int .i64 (j : Int))))]) (fun (j : Nat)=>j≤l.length∧aD l = aD (l.drop j)) (fun (j : Nat)=>l.length - j) 0 (q1Q J) ?_ (fun j ⟨hk1,hq1⟩=>?_))|(show Exists _; first|refine Exists.intro (j + 1) ⟨?_,?_,wK,(q1Q J),(q5Q J J J J J)⟩|refine Exists.intro (k + 1) ⟨?_,?_,wK,(q1Q J),(q5Q J J J J J)⟩))
 ·exact ⟨Nat.zero_le _,rfl⟩
 ·have hlt : k < l.length:=by simpa using ‹decide ((k : Int) < ((l.map ab).length : Int)) = true›
  rw [B7 (dM hq hlt h)]; rfl
 ·have hlt : k < l.length:=by simpa using ‹decide ((k : Int) < ((l.map ab).length : Int)) = true›
  exact ⟨hlt,dN hq hlt h⟩
 ·have hlt : k < l.length:=by simpa using ‹decide ((k : Int) < ((l.map ab).length : Int)) = true›
  omega
 ·rw [B8 (aj hq ‹decide ((k : Int) < ((l.map ab).length : Int)) = false›) h]; rfl
 ·exact ⟨Nat.zero_le _,rfl⟩
 ·have hlt : j < l.length:=by simpa using ‹decide ((j : Int) < ((l.map ab).length : Int)) = true›
  rw [tD (aj hq ‹decide ((k : Int) < ((l.map ab).length : Int)) = false›) ‹(!kd) = false› ‹(!free) = true›,hq1,lZ hlt h]; rfl
 ·have hlt : j < l.length:=by simpa using ‹decide ((j : Int) < ((l.map ab).length : Int)) = true›
  exact ⟨hlt,hq1.trans (cA hlt h)⟩
 ·have hlt : j < l.length:=by simpa using ‹decide ((j : Int) < ((l.map ab).length : Int)) = true›
  omega
 ·rw [tD (aj hq ‹decide ((k : Int) < ((l.map ab).length : Int)) = false›) ‹(!kd) = false› ‹(!free) = true›,ar hq1 h]; rfl
 ·rw [LH (aj hq ‹decide ((k : Int) < ((l.map ab).length : Int)) = false›) ‹(!kd) = false› h]; rfl
theorem Ij{l : List Val}{m : Nat}{xs : List (List D)}(hl : 1≤l.length)(hx : xs = l.map ab)(hm : m = l.length) : CallA Tryz.prog 311 [.one (.own 1000000 m)] [(1000000,.row 4 40 xs)] (aW (oV (at_ l 0))) [(1000000,.row 4 40 ((l.set 0 (oV (at_ l 0))).map ab))]:=by
 subst hx; subst hm; exact PL l hl
theorem Ik(l : List Val)(hl : l.length≤3)(hl1 : 1≤l.length)
  (h226 : CallA Tryz.prog 226 [.one (.d (.int .i64 5)),.one (.d (.int .i64 (l.map ab).length))] [] (.tup [(true,[.d (.int .i64 1),.d (.fn 350 [.ptr [.int .i64 2]]),.d (.fn 300 []),.d (.bool false),.d (.fn 311 [])]),(false,[.d (.bool true)])]) []) :
  CallA Tryz.prog 186 [.one (.d (.int .i64 5)),.one (.d (az l))] [] (cI (doG l (l.all fun v=>isV v 2) false (oV (at_ l 0)))) []:=by
 refine enter ae Tryz.func186 rfl (by decide +kernel) rfl fun hok w0 σ0 φ0 M=>?_
 have h1:=hok.2.1.sl.1; clear hok; simp only [List.length_map] at h1
 repeat' (first|(refine h1H ?_; (refine h0H ?_; first|refine aw 60 J J J J J J J J h226 J J J ?_|refine aa J J J J J J J J (Hf _) J ?_|refine aa J J J J J J J J (oa _ _) J ?_))|(refine h3H ?_; (refine Jy ?_; refine im aq 10 J J J J J J ?_))|(refine h3H ?_; (refine h2H ?_; first|refine im aq 11 J J J (ld (i:=10) J J J J J J J J (by simp) (by simp; omega) (Nat.le_of_ble_eq_true J)) J J ?_|refine Ib 40 (id:=11) J J J J J J J (Ij (l:=l) hl1 J (by simp)) (by simp) J J J ?_))|refine wG ?_|(refine h4H ?_; first|refine ag J (fun h=>?_) (fun h=>?_)|refine aB 5 J [(1,_),(4,_),(6,_),(22,_),(23,_)] (q5Q J J J J J) (fun (k : Nat)=>[(24,.one (.d (.int .i64 (k : Int))))]) (fun (k : Nat)=>k≤l.length∧l.all al = (l.drop k).all al) (fun (k : Nat)=>l.length - k) 0 (q1Q J) ?_ (fun k ⟨hk0,hq⟩=>?_)|refine aB 14 J [(1,_),(4,_),(6,_),(42,_),(43,_)] (q5Q J J J J J) (fun (j : Nat)=>[(44,.one (.d (.int .i64 (j : Int))))]) (fun (j : Nat)=>j≤l.length∧aD l = aD (l.drop j)) (fun (j : Nat)=>l.length - j) 0 (q1Q J) ?_ (fun j ⟨hk1,hq1⟩=>?_))|(show Exists _; first|refine Exists.intro (j + 1) ⟨?_,?_,wK,(q1Q J),(q5Q J J J J J)⟩|refine Exists.intro (k + 1) ⟨?_,?_,wK,(q1Q J),(q5Q J J J J J)⟩))
 ·exact ⟨Nat.zero_le _,rfl⟩
 ·have hlt : k < l.length:=by simpa using ‹decide ((k : Int) < ((l.map ab).length : Int)) = true›
  rw [B7 (dM hq hlt h)]; rfl
 ·have hlt : k < l.length:=by simpa using ‹decide ((k : Int) < ((l.map ab).length : Int)) = true›
  exact ⟨hlt,dN hq hlt h⟩
 ·have hlt : k < l.length:=by simpa using ‹decide ((k : Int) < ((l.map ab).length : Int)) = true›
  omega
 ·rw [B8 (aj hq ‹decide ((k : Int) < ((l.map ab).length : Int)) = false›) h]; rfl
 ·exact ⟨Nat.zero_le _,rfl⟩
 ·have hlt : j < l.length:=by simpa using ‹decide ((j : Int) < ((l.map ab).length : Int)) = true›
  rw [tD (aj hq ‹decide ((k : Int) < ((l.map ab).length : Int)) = false›) ‹(!l.all fun v=>isV v 2) = false› rfl,hq1,lZ hlt h]; rfl
 ·have hlt : j < l.length:=by simpa using ‹decide ((j : Int) < ((l.map ab).length : Int)) = true›
  exact ⟨hlt,hq1.trans (cA hlt h)⟩
 ·have hlt : j < l.length:=by simpa using ‹decide ((j : Int) < ((l.map ab).length : Int)) = true›
  omega
 ·rw [tD (aj hq ‹decide ((k : Int) < ((l.map ab).length : Int)) = false›) ‹(!l.all fun v=>isV v 2) = false› rfl,ar hq1 h]; rfl
end Go.Proofs.YtpejdgkaapnekaaGreat
namespace Go.Proofs.YtpejdgkaapnekaaGreat
open Go Go.Abs
def vP3(t : Bool×Nat×Nat) : Val:=vP t.1 t.2.1 t.2.2
def ngV(v : Val) : Bool:=decide (v.num < 0)
def naV(v : Val) : Nat:=v.num.natAbs
def dnV(v : Val) : Nat:=v.den.natAbs
def Ko(x y : Val)(minus : Bool) : Val:=vP3 (dt (ngV x) (naV x) (dnV x) (ngV y) (naV y) (dnV y) minus)
def PK(x y : Val) : Val:=vP3 (gu (ngV x != ngV y) (naV x * naV y) (dnV x * dnV y))
def CD(x y : Val) : Val:=if naV y = 0 then ⟨0,3,0,[]⟩ else vP3 (gu (ngV x != ngV y) (naV x * dnV y) (dnV x * naV y))
def yS(x : Val) : Val:=vP (ngV x) (if ngV x = true∧naV x % dnV x≠0 then naV x / dnV x + 1 else naV x / dnV x) 1
def gE(a b : Val) : Int:=if sgF a.kind b.kind≠0 then sgF a.kind b.kind else if a.kind = 2 then mE (dt (ngV a) (naV a) (dnV a) (ngV b) (naV b) (dnV b) true) else if a.kind = 3 then lr a.str b.str else sgF a.num b.num
def rO(op o : Int) : Bool:=if op = 13 then o == 0 else if op = 14 then o != 0 else if op = 15 then decide (o < 0) else if op = 16 then decide (o≤0) else if op = 17 then decide (0 < o) else decide (0≤o)
def rvF(op : Int)(l : List Val) : Val :=
 if op = 4 then ay ((at_ l 0).num == 0) else if op = 5 then oV (at_ l 0) else if op = 6 then yS (at_ l 0) else if op = 7 then ay ((at_ l 0).kind == 0)
 else if op = 8 then ⟨2,if (at_ l 0).kind == 0 then (at_ l 0).num else 0,1,[]⟩ else if op = 9 then Ko (at_ l 0) (at_ l 1) false else if op = 10 then Ko (at_ l 0) (at_ l 1) true
 else if op = 11 then PK (at_ l 0) (at_ l 1) else if op = 12 then CD (at_ l 0) (at_ l 1) else if op≤18 then ay (rO op (gE (at_ l 0) (at_ l 1))) else if op = 19 then iH false l else if op = 20 then iH true l
 else if op = 21 then (if (at_ l 0).kind == 0 then at_ l 1 else at_ l 0) else (if (at_ l 0).kind == 0 then at_ l 0 else if (at_ l 0).num == 1 then at_ l 1 else at_ l 2)
def kdF(op : Int)(l : List Val) : Bool :=
 if op = 4∨op = 19∨op = 20 then l.all (fun v=>isV v 1) else if op = 5∨op = 6∨(9≤op∧op≤12) then l.all (fun v=>isV v 2) else if op = 7∨op = 8 then true
 else if op = 22 then isV (at_ l 0) 1 && gb (at_ l (l.length - 2)) (at_ l (l.length - 1)) else gb (at_ l (l.length - 2)) (at_ l (l.length - 1))
def frF(op : Int) : Bool:=op == 7 || op == 8 || decide (19≤op)
def doF(op : Int)(l : List Val) : Val×Int:=doG l (kdF op l) (frF op) (rvF op l)
theorem jq{v : Val}(h : al v = true)(hk : v.kind = 2) : naV v≤1099511627776∧1≤dnV v∧dnV v≤1099511627776∧v.den = (dnV v : Int):=by
 unfold al dm at h
 rw [hk] at h
 simp at h
 unfold naV dnV
 omega
theorem yW{n : Nat}(h : n < 79228162514264337593543950336) : dl n≤3:=G3 (w:=3) h
theorem yX{a1 b1 a2 b2 : Nat}(h1 : a1≤1099511627776)(h2 : 1≤b1∧b1≤1099511627776)(h3 : a2≤1099511627776)(h4 : 1≤b2∧b2≤1099511627776) : RatOk a1 b1 a2 b2:=by
 have hm : ∀ {x y : Nat},x≤1099511627776→y≤1099511627776→x * y≤1208925819614629174706176:=fun hx hy=>Nat.mul_le_mul hx hy
 have d : ∀ {x : Nat},x≤1099511627776→(dig x).length≤400:=fun hx=>Nat.le_trans (yW (Nat.lt_of_le_of_lt hx (Nat.lt_of_lt_of_le (show 1099511627776 < 1099511627777 from Nat.lt_succ_self _) (Nat.le_of_ble_eq_true rfl)))) (by omega)
 have p : ∀ {x : Nat},x≤2417851639229258349412352→dl x≤100:=fun hx=>Nat.le_trans (yW (Nat.lt_of_le_of_lt hx (Nat.lt_of_lt_of_le (Nat.lt_succ_self _) (Nat.le_of_ble_eq_true rfl)))) (by omega)
 have p1:=hm h1 h4.2
 have p2:=hm h3 h2.2
 have p3:=hm h2.2 h4.2
 have p5:=hm h1 h3
 have p6:=hm h2.2 h3
 exact ⟨by omega,by omega,d h1,d h2.2,d h3,d h4.2,p (by omega),p (by omega),p (by omega),p (by omega),p (by omega),p (by omega)⟩
theorem qL{v : Val}{k : Int}(h : isV v k = true)(h0 : ¬ v.kind = 0) : v.kind = k:=by
 unfold isV at h
 simp at h
 exact h.resolve_left h0
theorem mO{l : List Val}(h : aD l = none){i : Nat}(hi : i < l.length) : ¬ (at_ l i).kind = 0:=by
 have:=List.find?_eq_none.1 h (at_ l i) (bM hi)
 simpa using this
theorem c7{l : List Val}{p : Val→Bool}(h : l.all p = true){i : Nat}(hi : i < l.length) : p (at_ l i) = true:=List.all_eq_true.1 h _ (bM hi)
end Go.Proofs.YtpejdgkaapnekaaGreat
namespace Go.Proofs.YtpejdgkaapnekaaGreat
open Go Go.Abs
mutual
def dW(ds : List Dim)(ats : List Attr)(at' : List Int)(vs : List Val) : Scalar→Val
 | .mk o n v a=>if o = 1 then v else if o = 2 then at_ vs (atI ats n).toNat else if o = 3 then ⟨2,at_ at' (lj ds n).toNat,1,[]⟩ else (doF o (gC ds ats at' vs a)).1
def gC(ds : List Dim)(ats : List Attr)(at' : List Int)(vs : List Val) : List Scalar→List Val
 | []=>[]
 | x::r=>dW ds ats at' vs x::gC ds ats at' vs r
end
section
variable {ds : List Dim} {ats : List Attr} {at' : List Int} {vs : List Val}
theorem qH : ∀ {s : Scalar},dW ds ats at' vs s = if s.op = 1 then s.val else if s.op = 2 then at_ vs (atI ats s.name).toNat else if s.op = 3 then ⟨2,at_ at' (lj ds s.name).toNat,1,[]⟩ else (doF s.op (gC ds ats at' vs s.args)).1
 | .mk _ _ _ _=>by simp only [dW,Scalar.op,Scalar.name,Scalar.val,Scalar.args]; rfl
theorem jp : ∀ {l : List Scalar},(gC ds ats at' vs l).length = l.length
 | []=>rfl
 | x::r=>by simp [gC,jp (l:=r)]
def pI(ds : List Dim)(ats : List Attr)(x : Scalar) : Prop:=(x.op = 2→0≤atI ats x.name)∧(x.op = 3→0≤lj ds x.name)
theorem yZ{cst : Val→Int} : ∀ {l : List Scalar} {ts : List Int},bX cst ds ats l = .inr ts→∀ x∈l,(ce cst ds ats x).2 = 0
 | [],_,_,x,hx=>by simp at hx
 | y::r,ts,h,x,hx=>by
   simp only [bX] at h
   split at h
   ·cases h
   ·rename_i h1
    split at h
    ·cases h
    ·rename_i l2 h2
     rcases List.mem_cons.1 hx with rfl | hx
     ·exact Decidable.not_not.1 h1
     ·exact yZ h2 x hx
theorem wn : ∀ {l : List Scalar} {z : Scalar},z∈aO l→∃ x∈l,z∈aS x
 | [],z,h=>by simp [aO] at h
 | x::r,z,h=>by
   simp only [aO,List.mem_append] at h
   rcases h with h | h
   ·exact ⟨x,List.mem_cons_self,h⟩
   ·obtain ⟨y,h1,h2⟩:=wn h
    exact ⟨y,List.mem_cons_of_mem _ h1,h2⟩
theorem JZ{cst : Val→Int}(s : Scalar) : cW s = true→(ce cst ds ats s).2 = 0→∀ z∈aS s,pI ds ats z:=by
 induction s using Scalar.ind with
 | h s ih =>
   intro hp h z hz
   rw [eV,Bool.and_eq_true] at hp
   rw [dB,List.mem_append] at hz
   rw [kf] at h
   by_cases h3 : s.op = 1∨s.op = 2∨s.op = 3
   ·have ha : s.args = []:=sd hp.1 h3
    rw [ha] at hz
    have hz : z = s:=by
     rcases hz with hz | hz
     ·simp [aO] at hz
     ·simpa using hz
    subst hz
    refine ⟨fun h2=>?_,fun h2=>?_⟩
    ·rw [if_neg (by omega),if_pos h2] at h
     unfold iR at h
     refine Int.not_lt.1 fun hc=>?_
     rw [if_pos hc] at h; simp at h
    ·rw [if_neg (by omega),if_neg (by omega),if_pos h2] at h
     unfold kE at h
     refine Int.not_lt.1 fun hc=>?_
     rw [if_pos hc] at h; simp at h
   ·rw [if_neg (fun h=>h3 (.inl h)),if_neg (fun h=>h3 (.inr (.inl h))),if_neg (fun h=>h3 (.inr (.inr h)))] at h
    rcases hz with hz | hz
    ·obtain ⟨x,hx,hzx⟩:=wn hz
     cases ht : bX cst ds ats s.args with
     | inl e =>
       rw [ht] at h
       have he : e = 0:=h
       exfalso
       have : ∀ {l : List Scalar} {e : Int},bX cst ds ats l = .inl e→e≠0:=by
        intro l
        induction l with
        | nil=>intro e h; simp [bX] at h
        | cons y r ihl =>
          intro e h
          simp only [bX] at h
          split at h
          ·rename_i h1; cases h; exact h1
          ·split at h
           ·rename_i e2 h2; cases h; exact ihl h2
           ·cases h
       exact this ht he
     | inr ts=>exact ih x hx (fV hp.2 x hx) (yZ ht x hx) z hzx
    ·have hz : z = s:=by simpa using hz
     subst hz
     exact ⟨fun h2=>absurd (.inr (.inl h2)) h3,fun h2=>absurd (.inr (.inr h2)) h3⟩
def eE(ds : List Dim)(ats : List Attr)(at' : List Int)(vs : List Val)(l : List Val)(x : Scalar) : Bool×List Val :=
 (true,if x.op = 1 then l ++ [x.val] else if x.op = 2 then l ++ [at_ vs (atI ats x.name).toNat] else if x.op = 3 then l ++ [⟨2,at_ at' (lj ds x.name).toNat,1,[]⟩] else
  l.take (l.length - x.args.length) ++ [(doF x.op (l.drop (l.length - x.args.length))).1])
def tQ(ds : List Dim)(ats : List Attr)(l : List Val)(x : Scalar) : Prop:=pI ds ats x∧cL x = true∧l.length≤64∧(4≤x.op→x.args.length≤l.length)
theorem oW{α β : Type}{F : α→β→Bool×α}{ok : α→β→Prop} : ∀ {l m : List β} {a : α},cT F ok l a→((bt F l a).1 = true→cT F ok m (bt F l a).2)→cT F ok (l ++ m) a
 | [],_,_,_,h=>h rfl
 | x::l,m,a,h1,h2=>by
   simp only [List.cons_append,cT] at h1 ⊢
   refine ⟨h1.1,fun hx=>oW (h1.2 hx) fun h=>?_⟩
   have e : bt F (x::l) a = bt F l (F a x).2:=by simp only [bt]; rw [if_pos hx]
   rw [e] at h2; exact h2 h
theorem tR : ∀ {r : List Scalar},
  (∀ x∈r,∀ l : List Val,l.length + (aS x).length≤65→cT (eE ds ats at' vs) (tQ ds ats) (aS x) l∧bt (eE ds ats at' vs) (aS x) l = (true,l ++ [dW ds ats at' vs x])) →
  ∀ l : List Val,l.length + (aO r).length≤65→cT (eE ds ats at' vs) (tQ ds ats) (aO r) l∧bt (eE ds ats at' vs) (aO r) l = (true,l ++ gC ds ats at' vs r)
 | [],_,l,hl=>⟨trivial,by simp [gC,aO,bt]⟩
 | x::r,h,l,hl=>by
   have hp : 1≤(aS x).length:=by rw [dB]; simp
   simp only [aO,List.length_append] at hl
   obtain ⟨h1,h2⟩:=h x (by simp) l (by omega)
   simp only [aO,gC]
   have ih:=tR (r:=r) (fun y hy=>h y (List.mem_cons_of_mem _ hy)) (l ++ [dW ds ats at' vs x]) (by simp; omega)
   rw [eA,h2]
   refine ⟨oW h1 (fun _=>by rw [h2]; exact ih.1),?_⟩
   simp only [if_true]
   rw [ih.2]; simp
theorem LJ(s : Scalar) : cW s = true→(∀ z∈aS s,pI ds ats z)→∀ l : List Val,l.length + (aS s).length≤65→cT (eE ds ats at' vs) (tQ ds ats) (aS s) l∧bt (eE ds ats at' vs) (aS s) l = (true,l ++ [dW ds ats at' vs s]):=by
 induction s using Scalar.ind with
 | h s ih =>
   intro hp hn l hl
   rw [eV,Bool.and_eq_true] at hp
   have hmem : ∀ x∈s.args,∀ z∈aS x,z∈aS s:=by
    intro x hx z hz
    rw [dB,List.mem_append]
    refine .inl ?_
    have : ∀ {r : List Scalar},x∈r→z∈aO r:=by
     intro r
     induction r with
     | nil=>intro h; simp at h
     | cons y r ihr =>
       intro h
       simp only [aO,List.mem_append]
       rcases List.mem_cons.1 h with rfl | h
       ·exact .inl hz
       ·exact .inr (ihr h)
    exact this hx
   have hL:=tR (ds:=ds) (ats:=ats) (at':=at') (vs:=vs) (r:=s.args) (fun x hx l hl=>ih x hx (fV hp.2 x hx) (fun z hz=>hn z (hmem x hx z hz)) l hl)
   have hns : pI ds ats s:=hn s (by rw [dB]; simp)
   rw [dB] at hl ⊢
   simp only [List.length_append,List.length_cons,List.length_nil] at hl
   by_cases h3 : s.op = 1∨s.op = 2∨s.op = 3
   ·have ha : s.args = []:=sd hp.1 h3
    have hok : tQ ds ats l s:=⟨hns,hp.1,by omega,fun h=>by omega⟩
    have hF : eE ds ats at' vs l s = (true,l ++ [dW ds ats at' vs s]):=by
     rw [qH]; simp only [eE]
     rcases h3 with h3 | h3 | h3 <;> simp [h3]
    rw [ha]
    simp only [aO,List.nil_append,cT,bt]
    rw [hF]
    exact ⟨⟨hok,fun _=>trivial⟩,by simp⟩
   ·obtain ⟨hop,hlen⟩:=jl hp.1 (fun h=>h3 (.inl h)) (fun h=>h3 (.inr (.inl h))) (fun h=>h3 (.inr (.inr h)))
    obtain ⟨h4,h5⟩:=hL l (by omega)
    have hts:=jp (ds:=ds) (ats:=ats) (at':=at') (vs:=vs) (l:=s.args)
    have hle:=lx (r:=s.args)
    have hd : (l ++ gC ds ats at' vs s.args).length - s.args.length = l.length:=by simp [hts]
    have hF : eE ds ats at' vs (l ++ gC ds ats at' vs s.args) s = (true,l ++ [dW ds ats at' vs s]):=by
     simp only [eE]
     rw [if_neg (fun h=>h3 (.inl h)),if_neg (fun h=>h3 (.inr (.inl h))),if_neg (fun h=>h3 (.inr (.inr h))),hd,qH,if_neg (fun h=>h3 (.inl h)),if_neg (fun h=>h3 (.inr (.inl h))),if_neg (fun h=>h3 (.inr (.inr h)))]
     simp
    refine ⟨oW h4 (fun _=>?_),?_⟩
    ·rw [h5]
     exact ⟨⟨hns,hp.1,by simp [hts]; omega,fun _=>by simp [hts]⟩,fun _=>trivial⟩
    ·rw [eA,h5]
     simp only [if_true,bt,hF]
end
end Go.Proofs.YtpejdgkaapnekaaGreat
namespace Go.Proofs.YtpejdgkaapnekaaGreat
open Go Go.Abs
theorem nQ{m n : Nat}(hn : n≠0) : n / Nat.gcd m n≠0:=by
 have hp:=Nat.pos_of_ne_zero hn
 exact Nat.ne_of_gt (Nat.div_pos (Nat.le_of_dvd hp (Nat.gcd_dvd_right m n)) (Nat.gcd_pos_of_pos_right m hp))
theorem su{s1 s2 minus : Bool}{a1 b1 a2 b2 : Nat}(h1 : b1≠0)(h2 : b2≠0) : (dt s1 a1 b1 s2 a2 b2 minus).2.2≠0:=by
 have h:=Nat.mul_ne_zero h1 h2
 unfold dt gu
 split
 ·exact nQ h
 ·split
  ·exact nQ h
  ·exact nQ h
structure NumOk (v : Val) : Prop where
 a : naV v≤1099511627776
 b : 1≤dnV v∧dnV v≤1099511627776
theorem lB{l : List Val}(hall : l.all al = true)(hk : l.all (fun v=>isV v 2) = true)(hm : aD l = none){i : Nat}(hi : i < l.length) : NumOk (at_ l i):=by
 have h1:=c7 hall hi
 have h2:=qL (c7 hk hi) (mO hm hi)
 obtain ⟨q1,q2,q3,_⟩:=jq h1 h2
 exact ⟨q1,q2,q3⟩
theorem NumOk.rat{x y : Val}(h : NumOk x)(h' : NumOk y) : RatOk (naV x) (dnV x) (naV y) (dnV y):=yX h.a h.b h'.a h'.b
theorem dL{p : Prop}(h : false = true∨p) : p:=h.resolve_left (by simp)
theorem CP(l : List Val)(hl : 2≤l.length)(f : FuncId)(t : Bool×Nat×Nat)(hb : t.2.2≠0)(hf : CallA Tryz.prog f [.one (.d (lY (at_ l 0))),.one (.d (lY (at_ l 1)))] [] (.one (.d (cg t.1 t.2.1 t.2.2))) []) :
  CallA Tryz.prog 358 [.one (.d (az l)),.one (.d (.ptr [.fn f []]))] [] (aW (vP3 t)) []:=QD l hl f _ _ _ hb hf
theorem KJ(s1 : Bool)(a1 b1 : Nat)(s2 : Bool)(a2 b2 : Nat)(hz : a2 = 0)(h1 : b1≠0)(h2 : b2≠0) : CallA Tryz.prog 362 [.one (.d (cg s1 a1 b1)),.one (.d (cg s2 a2 b2))] [] (.tup [(false,[.d (.raw (.pointer none))]),(false,[.d (.int .i64 2)])]) []:=by
 subst hz; exact Lu s1 a1 b1 s2 b2 h1 h2
theorem QE(op : Int)(l : List Val)(hop : 4≤op∧op≤22)(hl : (l.length : Int) = dq op) : CallA Tryz.prog 186 [.one (.d (.int .i64 op)),.one (.d (az l))] [] (cI (doF op l)) []:=by
 have hlen : ∀ n : Int,(l.length : Int) = n→(((l.map ab).length : Nat) : Int) = n:=by intro n h; simpa using h
 have cmpc : ∀ {f : FuncId} (g : Int→Bool),l.length = 2→(∀ o : Int,CallA Tryz.prog f [.one (.d (.int .i64 o))] [] (.one (.d (.bool (g o)))) [])→l.all al = true→gb (at_ l (l.length - 2)) (at_ l (l.length - 1)) = true→aD l = none →
   CallA Tryz.prog 364 [.one (.d (az l)),.one (.d (.ptr [.fn f []]))] [] (aW (ay (g (gE (at_ l 0) (at_ l 1))))) []:=by
  intro f g h2 hf hall hal hm
  rw [h2] at hal
  refine M3 l f g (by omega) (fun hk=>?_) hf
  have k0:=mO hm (i:=0) (by omega)
  have k1:=mO hm (i:=1) (by omega)
  have hkk : (at_ l 1).kind = 2:=by
   unfold gb at hal
   have : isV (at_ l 1) (at_ l 0).kind = true:=by
    rcases Bool.or_eq_true _ _ ▸ hal with h | h
    ·exact absurd (by simpa using h) k0
    ·exact h
   rw [hk] at this
   exact qL this k1
  obtain ⟨q1,q2,q3,_⟩:=jq (c7 hall (i:=0) (by omega)) hk
  obtain ⟨r1,r2,r3,_⟩:=jq (c7 hall (i:=1) (by omega)) hkk
  exact yX q1 ⟨q2,q3⟩ r1 ⟨r2,r3⟩
 unfold doF
 rcases oC hop with rfl | rfl | rfl | rfl | rfl | rfl | rfl | rfl | rfl | rfl | rfl | rfl | rfl | rfl | rfl | rfl | rfl | rfl | rfl <;> simp [dq] at hl
 ·exact eK _ l (by omega) _ _ _ _ _ _ _ _ _ _ (by rw [hlen 1 (by omega)]; exact Ep) (fun _=>oa l 1) (fun _ _ _=>MI l (by omega))
 ·exact Ik l (by omega) (by omega) (by rw [hlen 1 (by omega)]; exact Er)
 ·refine eK _ l (by omega) _ _ _ _ _ _ _ _ _ _ (by rw [hlen 1 (by omega)]; exact Es) (fun _=>oa l 2) (fun hall hk hf=>?_)
  have n0:=lB hall hk (dL hf) (i:=0) (by omega)
  have r:=n0.rat n0
  exact QF l (by omega) r.h1 (Nat.le_trans (jj (Nat.le_mul_of_pos_right _ n0.b.1)) r.m1) (Nat.le_trans (jj (Nat.le_mul_of_pos_right _ n0.b.1)) r.m3) (Nat.le_trans (jj (Nat.div_le_self _ _)) r.l1)
 ·exact eK _ l (by omega) _ _ _ _ _ _ _ _ _ _ (by rw [hlen 1 (by omega)]; exact Et) (fun _=>I3 _) (fun _ _ _=>MJ l (by omega))
 ·exact eK _ l (by omega) _ _ _ _ _ _ _ _ _ _ (by rw [hlen 1 (by omega)]; exact Eu) (fun _=>I3 _) (fun _ _ _=>MK l (by omega))
 ·refine eK _ l (by omega) _ _ _ _ _ _ _ _ _ _ (by rw [hlen 2 (by omega)]; exact Ev) (fun _=>oa l 2) (fun hall hk hf=>?_)
  have r:=(lB hall hk (dL hf) (i:=0) (by omega)).rat (lB hall hk (dL hf) (i:=1) (by omega))
  exact CP l (by omega) 321 _ (su r.h1 r.h2) (by rw [← y7]; exact Oh up _ _ _ _ _ _ r)
 ·refine eK _ l (by omega) _ _ _ _ _ _ _ _ _ _ (by rw [hlen 2 (by omega)]; exact AJ) (fun _=>oa l 2) (fun hall hk hf=>?_)
  have r:=(lB hall hk (dL hf) (i:=0) (by omega)).rat (lB hall hk (dL hf) (i:=1) (by omega))
  exact CP l (by omega) 322 _ (su r.h1 r.h2) (by rw [← y7]; exact JM up _ _ _ _ _ _ r)
 ·refine eK _ l (by omega) _ _ _ _ _ _ _ _ _ _ (by rw [hlen 2 (by omega)]; exact AK) (fun _=>oa l 2) (fun hall hk hf=>?_)
  have r:=(lB hall hk (dL hf) (i:=0) (by omega)).rat (lB hall hk (dL hf) (i:=1) (by omega))
  exact CP l (by omega) 323 _ (nQ (Nat.mul_ne_zero r.h1 r.h2)) (Oi up _ _ _ _ _ _ r)
 ·refine eK _ l (by omega) _ _ _ _ _ _ _ _ _ _ (by rw [hlen 2 (by omega)]; exact AL) (fun _=>oa l 2) (fun hall hk hf=>?_)
  have r:=(lB hall hk (dL hf) (i:=0) (by omega)).rat (lB hall hk (dL hf) (i:=1) (by omega))
  show CallA Tryz.prog 324 _ [] (aW (CD (at_ l 0) (at_ l 1))) []
  unfold CD
  by_cases h0 : naV (at_ l 1) = 0
  ·rw [if_pos h0]
   refine LU l (by omega) ?_
   exact KJ _ _ _ _ _ _ h0 r.h1 r.h2
  ·rw [if_neg h0]
   exact LV l (by omega) _ _ _ (nQ (Nat.mul_ne_zero r.h1 h0)) (Oj up _ _ _ _ _ _ r h0)
 ·exact eK _ l (by omega) _ _ _ _ _ _ _ _ _ _ (by rw [hlen 2 (by omega)]; exact AM) (fun _=>pl l (by omega)) (fun hall hk hf=>cmpc (fun o=>o == 0) (by omega) MC hall hk (dL hf))
 ·exact eK _ l (by omega) _ _ _ _ _ _ _ _ _ _ (by rw [hlen 2 (by omega)]; exact AN) (fun _=>pl l (by omega)) (fun hall hk hf=>cmpc (fun o=>o != 0) (by omega) MD hall hk (dL hf))
 ·exact eK _ l (by omega) _ _ _ _ _ _ _ _ _ _ (by rw [hlen 2 (by omega)]; exact AO) (fun _=>pl l (by omega)) (fun hall hk hf=>cmpc (fun o=>decide (o < 0)) (by omega) ME hall hk (dL hf))
 ·exact eK _ l (by omega) _ _ _ _ _ _ _ _ _ _ (by rw [hlen 2 (by omega)]; exact AP) (fun _=>pl l (by omega)) (fun hall hk hf=>cmpc (fun o=>decide (o≤0)) (by omega) MF hall hk (dL hf))
 ·exact eK _ l (by omega) _ _ _ _ _ _ _ _ _ _ (by rw [hlen 2 (by omega)]; exact AQ) (fun _=>pl l (by omega)) (fun hall hk hf=>cmpc (fun o=>decide (0 < o)) (by omega) MG hall hk (dL hf))
 ·exact eK _ l (by omega) _ _ _ _ _ _ _ _ _ _ (by rw [hlen 2 (by omega)]; exact AR) (fun _=>pl l (by omega)) (fun hall hk hf=>cmpc (fun o=>decide (0≤o)) (by omega) MH hall hk (dL hf))
 ·exact eK _ l (by omega) _ _ _ _ _ _ _ _ _ _ (by rw [hlen 2 (by omega)]; exact AS) (fun _=>oa l 1) (fun _ _ _=>Jb l false (by omega))
 ·exact eK _ l (by omega) _ _ _ _ _ _ _ _ _ _ (by rw [hlen 2 (by omega)]; exact AT) (fun _=>oa l 1) (fun _ _ _=>Jb l true (by omega))
 ·exact eK _ l (by omega) _ _ _ _ _ _ _ _ _ _ (by rw [hlen 2 (by omega)]; exact AU) (fun _=>pl l (by omega)) (fun _ _ _=>ML l (by omega))
 ·exact eK _ l (by omega) _ _ _ _ _ _ _ _ _ _ (by rw [hlen 3 (by omega)]; exact AW) (fun _=>MO l (by omega)) (fun _ _ _=>MN l (by omega))
end Go.Proofs.YtpejdgkaapnekaaGreat
namespace Go.Proofs.YtpejdgkaapnekaaGreat
open Go Go.Abs
attribute [local irreducible] ac OkC ao ax ap aJ
set_option maxRecDepth 10000
theorem CM{op : Int}(h : 1≤op∧op≤22) : op = 1∨op = 2∨op = 3∨op = 4∨op = 5∨op = 6∨op = 7∨op = 8∨op = 9∨op = 10∨op = 11∨op = 12∨op = 13∨op = 14∨op = 15∨op = 16∨op = 17∨op = 18∨op = 19∨op = 20∨op = 21∨op = 22:=by omega
theorem KF{op : Int}(h : 1≤op∧op≤22) : xu env.T 208 (some (.one (.d (.int .i64 op)))) (some (.agg yI)) = some (.agg [.d (.int .i64 (dq op)),.d (.bool (decide (op = 2) || decide (op = 3))),.d (.bool (decide (op = 1)))]):=by
 rcases CM h with rfl | rfl | rfl | rfl | rfl | rfl | rfl | rfl | rfl | rfl | rfl | rfl | rfl | rfl | rfl | rfl | rfl | rfl | rfl | rfl | rfl | rfl <;> rfl
theorem Qz(s : Scalar) : CallA Tryz.prog 173 [cY s] [] (.one (.d (.bool (cL s)))) []:=by
 refine enter ae Tryz.func173 rfl (by decide +kernel) rfl fun hok w0 σ0 φ0 M=>?_
 clear hok
 repeat' (first|(refine h1H ?_; (refine h0H ?_; refine aa J J J J J J J J (N4 _ _ _ _) J ?_))|(refine h3H ?_; (refine NT ?_; refine d_e aq J J J (xt J J J J (KF wB)) ?_))|(refine h3H ?_; (refine h2H ?_; refine d_l J J (aA J J J J J J (OS) J) ?_))|refine wG ?_|(refine h1H ?_; (refine h5H ?_; refine aG J J J J (fun h=>?_) (fun h=>?_)))|(refine h4H ?_; refine ag J (fun h=>?_) (fun h=>?_)))
 all_goals (try rw [ou] at *)
 all_goals (try (((simp_all [cL,dq,ou,am,List.drop_eq_nil_of_le]) <;> exact wL); done))
end Go.Proofs.YtpejdgkaapnekaaGreat
namespace Go.Proofs.YtpejdgkaapnekaaGreat
open Go Go.Abs
attribute [local irreducible] ac OkC ao ax ap aJ OkR qy cx ip ul
set_option maxRecDepth 10000
def BX(d : Bool) : LoopState:=if d then .done else .ready
def uH(d : Bool) : Option Code:=if d then some .ret else none
def lC(li : LI)(fr : List (Nat×AV))(a : Int×Bool×Bool) : Sto :=
 [(1000000,.loop li fr (BX a.2.2) (uH a.2.2)),(1000001,.box [.d (.int .i64 (if a.2.2 then 9 else 0))]),(1000002,.box [.d (.int .i64 a.1)]),(1000003,.box [.d (.bool a.2.1)])]
def F87(a : Int×Bool×Bool)(x : Scalar) : Bool×(Int×Bool×Bool):=if 64 < a.1 + 1 then (false,(a.1 + 1,a.2.1,true)) else (true,(a.1 + 1,a.2.1 && cL x,false))
def CU(a : Int×Bool×Bool)(x : Scalar) : Prop:=a.2.2 = false∧0≤a.1∧a.1≤64
theorem zy : ∀ (l : List Scalar) (n : Int) (r : Bool),0≤n→n≤64→cT F87 CU l (n,r,false)∧kW l n r = (if (bt F87 l (n,r,false)).2.2.2 = true then 9 else if (bt F87 l (n,r,false)).2.2.1 = true then 0 else 2)
 | [],n,r,h0,h1=>⟨trivial,rfl⟩
 | x::l,n,r,h0,h1=>by
   simp only [cT,bt,kW,F87,CU]
   by_cases h : 64 < n + 1
   ·simp only [h,if_true]
    exact ⟨⟨⟨trivial,h0,h1⟩,fun h=>by cases h⟩,rfl⟩
   ·have ih:=zy l (n + 1) (r && cL x) (by omega) (by omega)
    simp only [h,if_false,if_true]
    exact ⟨⟨⟨trivial,h0,h1⟩,fun _=>ih.1⟩,ih.2⟩
theorem LY(li : LI)(fr : List (Nat×AV))(hf : ∀ a,iF (lC li fr a) fr = true) : FamW (lC li fr):=by
 refine ⟨fun a i e h=>?_,fun a=>?_,fun a=>⟨li,fr,BX a.2.2,uH a.2.2,rfl⟩,fun a=>rfl⟩
 ·unfold lC at h
  rcases ah h with ⟨rfl,_⟩ | ⟨_,h⟩
  ·omega
  rcases ah h with ⟨rfl,_⟩ | ⟨_,h⟩
  ·omega
  rcases ah h with ⟨rfl,_⟩ | ⟨_,h⟩
  ·omega
  rcases ah h with ⟨rfl,_⟩ | ⟨_,h⟩
  ·omega
  ·exact nomatch h
 ·show (iF (lC li fr a) fr && _) = true
  rw [hf a]; rfl
theorem y87{li : LI}{fr : List (Nat×AV)}(a : Int×Bool×Bool)(x : Scalar)(hok : CU a x)
  (hps : (iM li.n li.params.toList && Nat.beq li.params.toList.length 1) = true)
  (h : ∀ (n : Int) (r : Bool),0≤n→n≤64→∀ (w0 : World) (σ0 : Sig) (φ0 : Pl) (M : Nat→Prop) (B : Nat),OkC Tryz.prog ⟨w0,σ0,φ0,M,li.n,some B,[]⟩ li.assign ⟨fE li.params.toList [cY x] fr,lC li fr (n,r,false)⟩
   (ip Tryz.prog 1000000 ⟨w0,σ0,φ0,M,li.n,some B,[]⟩ li.body (.one (.d (.bool (F87 (n,r,false) x).1))) (lC li fr (F87 (n,r,false) x).2))) :
  YieldA Tryz.prog 1000000 [cY x] (lC li fr a) (.one (.d (.bool (F87 a x).1))) (lC li fr (F87 a x).2):=by
 obtain ⟨n,r,d⟩:=a
 obtain ⟨rfl,h0,h1⟩ : d = false∧0≤n∧n≤64:=hok
 exact pp ⟨by omega,by omega⟩ rfl hps (h n r h0 h1)
theorem c87(s : Scalar) : CallA Tryz.prog 87 [cY s] [] (.one (.d (.int .i64 (fo s)))) []:=by
 obtain ⟨h0,hform⟩:=zy (aS s) 0 true (by omega) (by omega)
 obtain ⟨⟨n',r',d'⟩,hR⟩ : ∃ a,(bt F87 (aS s) (0,true,false)).2 = a:=⟨_,rfl⟩
 rw [hR] at hform
 refine enter ae Tryz.func87 rfl (by decide +kernel) rfl fun hok w0 σ0 φ0 M=>?_
 clear hok
 repeat' (first|(refine h1H ?_; (refine h0H ?_; first|refine aa J J J J J J J J (JJ 12 s 12 J (by omega)) J ?_|refine aw 16 J J J J J J J J (F4 _) J J J ?_))|refine wG ?_|(refine h4H ?_; refine ag J (fun h=>?_) (fun h=>?_)))
 ·simp [fo,h]
 ·have hC:=fun li fr hf hY=>F5 (lC li fr) (LY li fr hf) F87 CU hY s (0,true,false) h0
  rw [hR] at hC
  refine pm (f:=216) (caps:=[.ptr (pJ s)]) (os:=[(1,.box [.d (.int .i64 0)]),(2,.box [.d (.int .i64 0)]),(3,.box [.d (.bool true)])]) (rav:=.tup []) [1,2,3] 10 rfl rfl rfl rfl (hC _ _ (fun a=>?_) (fun a x hok=>?_)) (by cases d' <;> rfl) (fun h=>?_) (fun h=>?_)
  ·rfl
  ·refine y87 a x hok rfl fun n r hn0 hn1 w0 σ0 φ0 M B=>?_
   clear hC hform hok a
   by_cases hb : 64 < n + 1
   ·have e : F87 (n,r,false) x = (false,(n + 1,r,true)):=by simp [F87,hb]
    have hd : decide (64 < n + 1) = true:=by simp [hb]
    rw [e]
    repeat' (first|refine wG ?_|(show cx _ _ _ _ _; refine nz J J ?_ ?_))
    ·rfl
    ·exact ai rfl (q3Q rfl rfl rfl)
   ·have e : F87 (n,r,false) x = (true,(n + 1,r && cL x,false)):=by simp [F87,hb]
    have hd : decide (64 < n + 1) = false:=by simp [hb]
    rw [e]
    cases r
    all_goals
     repeat' (first|(refine h1H ?_; (refine h0H ?_; refine aa J J J J J J J J (Qz _) J ?_))|refine wG ?_|(show cx _ _ _ _ _; refine fD J ?_ ?_))
     all_goals first | rfl | refine ai ?_ (ai ?_ (ai ?_ (ai ?_ aT)))
     all_goals first | rfl | trace_state
  ·have : d' = false:=by cases d' <;> simp [uH] at h ⊢
   subst this
   rintro ⟨w1,σ1,φ1,M1,n1,rd1,mk1⟩ ⟨hn,hrd,_⟩
   dsimp only at hn hrd
   subst hn hrd
   repeat' (first|refine wG ?_|(refine h4H ?_; refine ag J (fun h=>?_) (fun h=>?_)))
   all_goals simp_all [fo]
  ·have : d' = true:=by cases d' <;> simp [uH] at h ⊢
   subst this
   repeat' (first|refine wG ?_)
   have hf : fo s = 9:=by rw [fo,hform]; simp_all
   rw [hf]; rfl
def iY(li : LI)(fr : List (Nat×AV))(A : List D)(r : Nat)(a : List Int×Bool×Int) : Sto :=
 [(1000000,.loop li fr (BX a.2.1) (uH a.2.1)),(1000001,.box (A.map .d)),(1000002,.box [.d (.int .i64 0)]),(1000003,.box [.d (.int .i64 a.2.2)]),(1000004,.box [.own r a.1.length]),(r,.row 1 8 (a.1.map bD))]
theorem oH{s : Sto} : ∀ {A : List D},dY s (A.map .d) = true
 | []=>rfl
 | x::r=>by simp only [List.map_cons,dY,bx,oH (A:=r),Bool.and_self]
theorem Lt(li : LI)(fr : List (Nat×AV))(A : List D)(hf : ∀ a,iF (iY li fr A 2000000 a) fr = true) : FamW (iY li fr A 2000000):=by
 refine ⟨fun a i e h=>?_,fun a=>?_,fun a=>⟨li,fr,BX a.2.1,uH a.2.1,rfl⟩,fun a=>rfl⟩
 ·unfold iY at h
  rcases ah h with ⟨rfl,_⟩ | ⟨_,h⟩
  ·omega
  rcases ah h with ⟨rfl,_⟩ | ⟨_,h⟩
  ·omega
  rcases ah h with ⟨rfl,_⟩ | ⟨_,h⟩
  ·omega
  rcases ah h with ⟨rfl,_⟩ | ⟨_,h⟩
  ·omega
  rcases ah h with ⟨rfl,_⟩ | ⟨_,h⟩
  ·omega
  rcases ah h with ⟨rfl,_⟩ | ⟨_,h⟩
  ·omega
  ·exact nomatch h
 ·show (iF (iY li fr A 2000000 a) fr && (dY (iY li fr A 2000000 a) (A.map .d) && _)) = true
  rw [hf a,oH]; rfl
theorem y88{li : LI}{fr : List (Nat×AV)}{A : List D}(ds : List Dim)(ats : List Attr)(a : List Int×Bool×Int)(x : Scalar)(hok : oy a x)
  (hps : (iM li.n li.params.toList && Nat.beq li.params.toList.length 1) = true)
  (h : ∀ (l : List Int),l.length≤64→(4≤x.op→x.args.length≤l.length)→cL x = true→∀ (w0 : World) (σ0 : Sig) (φ0 : Pl) (M : Nat→Prop) (B : Nat),OkC Tryz.prog ⟨w0,σ0,φ0,M,li.n,some B,[]⟩ li.assign ⟨fE li.params.toList [cY x] fr,iY li fr A 2000000 (l,false,0)⟩
   (ip Tryz.prog 1000000 ⟨w0,σ0,φ0,M,li.n,some B,[]⟩ li.body (.one (.d (.bool (F88 ds ats (l,false,0) x).1))) (iY li fr A 2000000 (F88 ds ats (l,false,0) x).2))) :
  YieldA Tryz.prog 1000000 [cY x] (iY li fr A 2000000 a) (.one (.d (.bool (F88 ds ats a x).1))) (iY li fr A 2000000 (F88 ds ats a x).2):=by
 obtain ⟨l,d,e⟩:=a
 obtain ⟨rfl,rfl,hp,h64,hargs⟩ : d = false∧e = 0∧cL x = true∧l.length≤64∧(4≤x.op→x.args.length≤l.length):=hok
 exact pp ⟨by omega,by omega⟩ rfl hps (h l h64 hargs hp)
def q88(i : Nat) : Nat:=bif Nat.beq i 1000005 then 2000000 else i
def p88(i : Nat) : Nat:=bif Nat.beq i 2000000 then 5 else i
theorem yo{sto : Sto}{li : LI}{fr : List (Nat×AV)}{A : List D}{l : List Int}{t : Int}{m : Nat}(hm : m≤l.length)(h1 : Abs.look sto 1000000 = some (.loop li fr .ready none))(h2 : Abs.look sto 1000001 = some (.box (A.map .d)))(h3 : Abs.look sto 1000002 = some (.box [.d (.int .i64 0)]))
  (h4 : Abs.look sto 1000003 = some (.box [.d (.int .i64 0)])) (h5 : Abs.look sto 1000004 = some (.box [.own 2000000 (m + 1)])) (h6 : Abs.look sto 2000000 = some (.row 1 8 ((l.map bD).take m ++ [[.int .i64 t]]))) : SubL sto (iY li fr A 2000000 (l.take m ++ [t],false,0)):=by
 refine ⟨h1,h2,h3,h4,?_,?_,trivial⟩
 ·rw [h5]; simp [Nat.min_eq_left hm]
 ·rw [h6]; simp [bD,List.map_take]
theorem BY{sto : Sto}{li : LI}{fr : List (Nat×AV)}{A : List D}{l : List Int}{t : Int}(h1 : Abs.look sto 1000000 = some (.loop li fr .ready none))(h2 : Abs.look sto 1000001 = some (.box (A.map .d)))(h3 : Abs.look sto 1000002 = some (.box [.d (.int .i64 0)]))
  (h4 : Abs.look sto 1000003 = some (.box [.d (.int .i64 0)])) (h5 : Abs.look sto 1000004 = some (.box [.own 2000000 (l.length + 1)])) (h6 : Abs.look sto 2000000 = some (.row 1 8 ((l.map bD).take l.length ++ [[.int .i64 t]]))) : SubL sto (iY li fr A 2000000 (l ++ [t],false,0)):=by
 have:=yo (Nat.le_refl _) h1 h2 h3 h4 h5 h6
 rwa [List.take_length] at this
set_option maxHeartbeats 4000000 in
theorem c88(ds : List Dim)(ats : List Attr)(cs : D)(s : Scalar)(hp : cW s = true)(hsz : (aS s).length≤64) : CallA Tryz.prog 88 [.agg [.d (aH ds),.d (aF ats),.d cs],cY s] [] (ie (ce du ds ats s)) []:=by
 obtain ⟨h0,hrun⟩:=NP (ds:=ds) (ats:=ats) s hp [] (by simp; omega)
 obtain ⟨⟨l',d',e'⟩,hR⟩ : ∃ a,(bt (F88 ds ats) (aS s) ([],false,0)).2 = a:=⟨_,rfl⟩
 have hend : (d' = true∧e' = (ce du ds ats s).2∧e'≠0)∨(d' = false∧e' = 0∧(ce du ds ats s).2 = 0∧l' = [(ce du ds ats s).1]):=by
  by_cases hz : (ce du ds ats s).2 = 0
  ·rw [if_pos hz] at hrun
   rw [hrun] at hR
   cases hR
   exact .inr ⟨rfl,rfl,hz,rfl⟩
  ·rw [if_neg hz] at hrun
   obtain ⟨l2,hrun⟩:=hrun
   rw [hrun] at hR
   cases hR
   exact .inl ⟨rfl,rfl,hz⟩
 refine enter ae Tryz.func88 rfl (by decide +kernel) rfl fun hok w0 σ0 φ0 M=>?_
 have hats : ats.length < 281474976710656:=by
  have:=(OkD.sl (hok.1 (.d (aF ats)) (by simp))).1; simpa using this
 clear hok
 repeat' (first|(refine h1H ?_; (refine h0H ?_; refine aw 16 J J J J J J J J (F4 _) J J J ?_))|refine wG ?_)
 ·have hC:=fun li fr hf hY=>F5 (iY li fr [aH ds,aF ats,cs] 2000000) (Lt li fr _ hf) (F88 ds ats) oy hY s ([],false,0) h0
  rw [hR] at hC
  refine AB (tv 4 5 (k:=1) (b:=8) rfl rfl) ?_
  refine pm (f:=216) (caps:=[.ptr (pJ s)]) (rav:=.tup []) [0,2,3,4,5] 10 rfl rfl rfl rfl (vY q88 p88 (hC _ _ (fun a=>?_) (fun a x hok=>?_)) rfl rfl rfl rfl rfl rfl rfl) (by cases d' <;> rfl) (fun h=>?_) (fun h=>?_)
  ·rfl
  ·refine y88 ds ats a x hok rfl fun l h64 hargs hpx w0 σ0 φ0 M B=>?_
   clear hC hend hR hrun h0 hok a
   by_cases h1 : x.op = 1
   ·have e : F88 ds ats (l,false,0) x = (true,(l ++ [du x.val],false,0)):=by simp [F88,h1]
    have hb1 : (x.op == 1) = true:=by simp [h1]
    rw [e]
    repeat' (first|(refine h1H ?_; (refine h0H ?_; first|refine d7 ae J J J J J J J J J J J J J (by show List.length l≤100000000; omega) (Nat.le_of_ble_eq_true J) (Nat.le_of_ble_eq_true J) ?_|refine aa J J J J J J J J (Oa _ _ _ _) J ?_))|refine wG ?_|(show cx _ _ _ _ _; refine fD J ?_ ?_))
    ·rfl
    ·exact BY (by kernel_rfl) (by kernel_rfl) (by kernel_rfl) (by kernel_rfl) (by kernel_rfl) (by kernel_rfl)
   have hb1 : (x.op == 1) = false:=by simp [h1]
   by_cases h2 : x.op = 2
   ·have hb2 : (x.op == 2) = true:=by simp [h2]
    by_cases hi : atI ats x.name < 0
    ·have e : F88 ds ats (l,false,0) x = (false,(l,true,11)):=by simp [F88,h2,iR,hi]
     have hd : decide (aV (fun a : Attr=>a.name == x.name) ats 0 < 0) = true:=by simpa [atI] using hi
     rw [e]
     repeat' (first|(refine h1H ?_; (refine h0H ?_; refine aa J J J J J J J J (FP _ _ _ _) J ?_))|refine wG ?_|(show cx _ _ _ _ _; refine nz J J ?_ ?_))
     ·rfl
     ·exact ai (by kernel_rfl) (ai (by kernel_rfl) (ai (by kernel_rfl) (ai (by kernel_rfl) (ai (by kernel_rfl) (ai (by kernel_rfl) aT)))))
    ·have e : F88 ds ats (l,false,0) x = (true,(l ++ [(at_ ats (atI ats x.name).toNat).type],false,0)):=by simp [F88,h2,iR,hi]
     have hd : decide (aV (fun a : Attr=>a.name == x.name) ats 0 < 0) = false:=by simpa [atI] using hi
     have hr:=fh (p:=fun a : Attr=>a.name == x.name) (l:=ats) (k:=0) (by simpa [atI] using hi)
     obtain ⟨hr1,hr2⟩:=hr
     rw [e]
     repeat' (first|(refine h1H ?_; (refine h0H ?_; first|refine d7 ae J J J J J J J J J J J J J (by show List.length l≤100000000; omega) (Nat.le_of_ble_eq_true J) (Nat.le_of_ble_eq_true J) ?_|refine aa J J J J J J J J (FP _ _ _ _) J ?_))|refine wG ?_|(show cx _ _ _ _ _; refine fD J ?_ ?_))
     ·rfl
     ·exact BY (by kernel_rfl) (by kernel_rfl) (by kernel_rfl) (by kernel_rfl) (by kernel_rfl) (by kernel_rfl)
   have hb2 : (x.op == 2) = false:=by simp [h2]
   by_cases h3 : x.op = 3
   ·have hb3 : (x.op == 3) = true:=by simp [h3]
    by_cases hi : lj ds x.name < 0
    ·have e : F88 ds ats (l,false,0) x = (false,(l,true,11)):=by simp [F88,h3,kE,hi]
     have hd : decide (aV (fun a : Dim=>a.name == x.name) ds 0 < 0) = true:=by simpa [lj] using hi
     rw [e]
     repeat' (first|(refine h1H ?_; (refine h0H ?_; refine aa J J J J J J J J (FO _ _ _ _) J ?_))|refine wG ?_|(show cx _ _ _ _ _; refine nz J J ?_ ?_))
     ·rfl
     ·exact ai (by kernel_rfl) (ai (by kernel_rfl) (ai (by kernel_rfl) (ai (by kernel_rfl) (ai (by kernel_rfl) (ai (by kernel_rfl) aT)))))
    ·have e : F88 ds ats (l,false,0) x = (true,(l ++ [2],false,0)):=by simp [F88,h3,kE,hi]
     have hd : decide (aV (fun a : Dim=>a.name == x.name) ds 0 < 0) = false:=by simpa [lj] using hi
     rw [e]
     repeat' (first|(refine h1H ?_; (refine h0H ?_; first|refine d7 ae J J J J J J J J J J J J J (by show List.length l≤100000000; omega) (Nat.le_of_ble_eq_true J) (Nat.le_of_ble_eq_true J) ?_|refine aa J J J J J J J J (FO _ _ _ _) J ?_))|refine wG ?_|(show cx _ _ _ _ _; refine fD J ?_ ?_))
     ·rfl
     ·exact BY (by kernel_rfl) (by kernel_rfl) (by kernel_rfl) (by kernel_rfl) (by kernel_rfl) (by kernel_rfl)
   have hb3 : (x.op == 3) = false:=by simp [h3]
   obtain ⟨hop,hlen⟩:=jl hpx h1 h2 h3
   have hal:=hargs hop.1
   obtain ⟨m,hm⟩ : ∃ m : Nat,l.length = m + x.args.length:=⟨l.length - x.args.length,by omega⟩
   have hml : l.length - x.args.length = m:=by omega
   have hsub : ((l.length : Int) - (x.args.length : Int)) = (m : Int):=by omega
   have hC:=Ob x.op (l.drop m) hop (by simp; omega)
   repeat' (first|refine wG ?_)
   simp only [List.length_map]
   rw [hsub]
   rcases Nat.eq_zero_or_pos m with h0 | h0
   ·have hC' : CallA Tryz.prog 175 [.one (.d (.int .i64 x.op)),.one (.d (.sl 1 8 ((l.map bD).take l.length)))] [] (ie (bB x.op (l.drop m))) []:=by
     have e1 : aL (l.drop m) = .sl 1 8 ((l.map bD).take l.length):=by rw [List.take_of_length_le (by simp)]; simp [aL,h0]
     rw [e1] at hC; exact hC
    refine d_e aq rfl rfl rfl (nJ rfl rfl rfl (by rw [h0]; rfl) rfl rfl (by simp)) ?_
    refine qI [2000000] rfl rfl rfl rfl rfl rfl rfl rfl rfl hC' rfl ?_
    ·by_cases hz : (bB x.op (l.drop m)).2 = 0
     ·have hbz : ((bB x.op (l.drop m)).2 != 0) = false:=by simp [hz]
      have e : F88 ds ats (l,false,0) x = (true,(l.take m ++ [(bB x.op (l.drop m)).1],false,0)):=by
       simp only [F88]; rw [if_neg h1,if_neg h2,if_neg h3,hml]; simp [hz]
      rw [e]
      repeat' (first|refine wG ?_)
      refine d_e aq rfl rfl rfl (eM rfl rfl rfl rfl rfl rfl (by omega) (by show Int.toNat (m : Int)≤List.length l; omega) (by simp)) ?_
      repeat' (first|(refine h1H ?_; (refine h0H ?_; refine d7 ae J J J J J J J J J J J J J (by show Int.toNat (m : Int)≤100000000; omega) (Nat.le_of_ble_eq_true J) (Nat.le_of_ble_eq_true J) ?_))|refine wG ?_|(show cx _ _ _ _ _; refine fD J ?_ ?_))
      ·rfl
      ·exact yo (by omega) (by kernel_rfl) (by kernel_rfl) (by kernel_rfl) (by kernel_rfl) (by kernel_rfl) (by kernel_rfl)
     ·have hbz : ((bB x.op (l.drop m)).2 != 0) = true:=by simp [hz]
      have e : F88 ds ats (l,false,0) x = (false,(l,true,(bB x.op (l.drop m)).2)):=by
       simp only [F88]; rw [if_neg h1,if_neg h2,if_neg h3,hml]; simp [hz]
      rw [e]
      repeat' (first|refine wG ?_|(show cx _ _ _ _ _; refine nz J J ?_ ?_))
      ·rfl
      ·exact ai (by kernel_rfl) (ai (by kernel_rfl) (ai (by kernel_rfl) (ai (by kernel_rfl) (ai (by kernel_rfl) (ai (by kernel_rfl) aT)))))
   ·have hC' : CallA Tryz.prog 175 [.one (.d (.int .i64 x.op)),.one (.d (.sl 1 8 (((l.map bD).drop m).take (l.length - m))))] [] (ie (bB x.op (l.drop m))) []:=by
     have e1 : aL (l.drop m) = .sl 1 8 (((l.map bD).drop m).take (l.length - m)):=by
      rw [List.take_of_length_le (by simp)]; simp [aL,List.map_drop]
     rw [e1] at hC; exact hC
    refine d_e aq rfl rfl rfl (pg rfl rfl rfl rfl rfl rfl (by omega) (by show Int.toNat (m : Int)≤List.length l; omega) (by simp)) ?_
    refine qI [2000000] rfl rfl rfl rfl rfl rfl rfl rfl rfl hC' rfl ?_
    ·by_cases hz : (bB x.op (l.drop m)).2 = 0
     ·have hbz : ((bB x.op (l.drop m)).2 != 0) = false:=by simp [hz]
      have e : F88 ds ats (l,false,0) x = (true,(l.take m ++ [(bB x.op (l.drop m)).1],false,0)):=by
       simp only [F88]; rw [if_neg h1,if_neg h2,if_neg h3,hml]; simp [hz]
      rw [e]
      repeat' (first|refine wG ?_)
      refine d_e aq rfl rfl rfl (eM rfl rfl rfl rfl rfl rfl (by omega) (by show Int.toNat (m : Int)≤List.length l; omega) (by simp)) ?_
      repeat' (first|(refine h1H ?_; (refine h0H ?_; refine d7 ae J J J J J J J J J J J J J (by show Int.toNat (m : Int)≤100000000; omega) (Nat.le_of_ble_eq_true J) (Nat.le_of_ble_eq_true J) ?_))|refine wG ?_|(show cx _ _ _ _ _; refine fD J ?_ ?_))
      ·rfl
      ·exact yo (by omega) (by kernel_rfl) (by kernel_rfl) (by kernel_rfl) (by kernel_rfl) (by kernel_rfl) (by kernel_rfl)
     ·have hbz : ((bB x.op (l.drop m)).2 != 0) = true:=by simp [hz]
      have e : F88 ds ats (l,false,0) x = (false,(l,true,(bB x.op (l.drop m)).2)):=by
       simp only [F88]; rw [if_neg h1,if_neg h2,if_neg h3,hml]; simp [hz]
      rw [e]
      repeat' (first|refine wG ?_|(show cx _ _ _ _ _; refine nz J J ?_ ?_))
      ·rfl
      ·exact ai (by kernel_rfl) (ai (by kernel_rfl) (ai (by kernel_rfl) (ai (by kernel_rfl) (ai (by kernel_rfl) (ai (by kernel_rfl) aT)))))
  ·rcases hend with ⟨rfl,_⟩ | ⟨rfl,rfl,hz,rfl⟩
   ·exact nomatch h
   rintro ⟨w1,σ1,φ1,M1,n1,rd1,mk1⟩ ⟨hn,hrd,_⟩
   dsimp only at hn hrd
   subst hn hrd
   refine bu (xD (s':=[(2,.box [.d (.int .i64 0)]),(3,.box [.d (.int .i64 0)]),(4,.box [.own 16 1]),(16,.row 1 8 [[.int .i64 (ce du ds ats s).1]])]) (ai (by kernel_rfl) (ai (by kernel_rfl) (ai (by kernel_rfl) (ai (by kernel_rfl) aT))))) ?_
   repeat' (first|refine wG ?_)
   simp [ie,hz]
  ·rcases hend with ⟨rfl,rfl,hz⟩ | ⟨rfl,_⟩
   ·repeat' (first|refine wG ?_)
    show AV.tup [(false,[.d (.int .i64 0)]),(false,[.d (.int .i64 (ce du ds ats s).2)])] = _
    simp [ie,FR hz]
   ·exact nomatch h
end Go.Proofs.YtpejdgkaapnekaaGreat
namespace Go.Proofs.YtpejdgkaapnekaaGreat
open Go Go.Abs
attribute [local irreducible] ac OkC ao ax ap aJ
set_option maxRecDepth 10000
def N1(v : Val) : AV:=.agg [.d (.int .i64 v.kind),.d (.int .i64 v.num),.d (.int .i64 v.den),.d (.str v.str)]
theorem N2(n : Int) : CallA Tryz.prog 185 [.one (.d (.int .i64 n))] [] (N1 ⟨2,n,1,[]⟩) []:=by
 refine enter ae Tryz.func185 rfl (by decide +kernel) rfl fun hok w0 σ0 φ0 M=>?_
 clear hok
 repeat' (first|refine wG ?_)
 all_goals rfl
end Go.Proofs.YtpejdgkaapnekaaGreat
