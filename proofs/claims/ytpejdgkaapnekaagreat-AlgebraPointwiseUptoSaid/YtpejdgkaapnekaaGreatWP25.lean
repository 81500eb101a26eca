import Derived.Test.YtpejdgkaapnekaaGreatWP24
import Derived.Test.YtpejdgkaapnekaaGreatWE1
import Derived.Test.YtpejdgkaapnekaaGreatWP20
import Derived.Test.YtpejdgkaapnekaaGreatWP17
import Derived.Test.YtpejdgkaapnekaaGreatWP16
import Derived.Test.YtpejdgkaapnekaaGreatWP15
set_option linter.unusedVariables false
set_option linter.unusedSimpArgs false
set_option linter.unnecessarySimpa false
set_option maxHeartbeats 1000000
namespace Go.Proofs.YtpejdgkaapnekaaGreat
open Go Go.Abs
attribute [local irreducible] aa OkC aj av al aB
set_option maxRecDepth 10000
def bn(v : Val) : Bool:=cy v.kind v.num v.den v.str
theorem GN(v : Val) : CallA Tryz.prog 233 [bz v] [] (.one (.d (.bool (bn v)))) []:=Fx _ _ _ _
def lD : Val:=⟨0,0,0,[]⟩
def pR(p : Val×Int) : AV:=.tup [(true,[.d (.int .i64 p.1.kind),.d (.int .i64 p.1.num),.d (.int .i64 p.1.den),.d (.str p.1.str)]),(false,[.d (.int .i64 p.2)])]
def doG(l : List Val)(kd free : Bool)(rv : Val) : Val×Int :=
 if l.all bn = true then (if kd = true then (if free = true then (rv,0) else ((bZ l).getD rv,0)) else (lD,12)) else (lD,2)
theorem iH{l : List Val}{k : Nat}(hq : l.all bn = (l.drop k).all bn)(h : decide ((k : Int) < ((l.map az).length : Int)) = false) : l.all bn = true:=by
 have h : l.length≤k:=by simpa using h
 rw [hq,List.drop_eq_nil_of_le h]; rfl
theorem GO{l : List Val}{k : Nat}(hq : l.all bn = (l.drop k).all bn)(hlt : k < l.length)(h : (!bn (at_ l k)) = true) : ¬ l.all bn = true:=by
 rw [hq,ak hlt,List.all_cons]
 have h : bn (at_ l k) = false:=by simpa using h
 rw [h]; simp
theorem GP{l : List Val}{k : Nat}(hq : l.all bn = (l.drop k).all bn)(hlt : k < l.length)(h : (!bn (at_ l k)) = false) : l.all bn = (l.drop (k + 1)).all bn:=by
 rw [hq,ak hlt,List.all_cons]
 have h : bn (at_ l k) = true:=by simpa using h
 rw [h]; simp
theorem uI{l : List Val}{k : Nat}(hq : bZ l = bZ (l.drop k))(h : decide ((k : Int) < ((l.map az).length : Int)) = false) : bZ l = none:=by
 have h : l.length≤k:=by simpa using h
 rw [hq,xA h]
theorem yP{f : FuncId}{l : List Val}{xs : List (List D)}{r : List AV}{rav : AV}(h : CallA Tryz.prog f (.one (.d (aP l))::r) [] rav [])(hx : xs = l.map az) : CallA Tryz.prog f (.one (.d (.sl 4 40 xs))::r) [] rav []:=by
 subst hx; exact h
theorem GQ{l : List Val}{kd free : Bool}{rv : Val}(h : ¬ l.all bn = true) : doG l kd free rv = (lD,2):=if_neg h
theorem GR{l : List Val}{kd free : Bool}{rv : Val}(h : l.all bn = true)(h2 : (!kd) = true) : doG l kd free rv = (lD,12):=by unfold doG; rw [if_pos h,if_neg (by simpa using h2)]
theorem KI{l : List Val}{kd free : Bool}{rv : Val}(h : l.all bn = true)(h2 : (!kd) = false)(h3 : (!free) = false) : doG l kd free rv = (rv,0):=by unfold doG; rw [if_pos h,if_pos (by simpa using h2),if_pos (by simpa using h3)]
theorem wT{l : List Val}{kd free : Bool}{rv : Val}(h : l.all bn = true)(h2 : (!kd) = false)(h3 : (!free) = true) : doG l kd free rv = ((bZ l).getD rv,0):=by unfold doG; rw [if_pos h,if_pos (by simpa using h2),if_neg (by simpa using h3)]
set_option maxHeartbeats 1000000 in
theorem eH(op : Int)(l : List Val)(hl : l.length≤3)(n : Int)(fk ft fd : FuncId)(ck ct cd : List D)(free kd : Bool)(rv : Val)
  (h226 : CallA Tryz.prog 226 [.one (.d (.int .i64 op)),.one (.d (.int .i64 (l.map az).length))] [] (.tup [(true,[.d (.int .i64 n),.d (.fn fk ck),.d (.fn ft ct),.d (.bool free),.d (.fn fd cd)]),(false,[.d (.bool true)])]) [])
  (hk : l.all bn = true→CallA Tryz.prog fk (.one (.d (aP l))::ck.map fun x=>.one (.d x)) [] (.one (.d (.bool kd))) [])
  (hd : l.all bn = true→kd = true→(free = true∨bZ l = none)→CallA Tryz.prog fd (.one (.d (aP l))::cd.map fun x=>.one (.d x)) [] (bz rv) []) :
  CallA Tryz.prog 186 [.one (.d (.int .i64 op)),.one (.d (aP l))] [] (pR (doG l kd free rv)) []:=by
 refine enter af Tryz.func186 rfl (by decide +kernel) rfl fun hok w0 σ0 φ0 M=>?_
 have h1:=hok.2.1.sl.1; clear hok; simp only [List.length_map] at h1
 repeat' (first|(refine h1H ?_; (refine h0H ?_; first|refine aZ 60 J J J J J J J J h226 J J J ?_|refine ab J J J J J J J J (GN _) J ?_|refine ab J J J J J J J J (hk (iH hq h)) J ?_))|(refine h3H ?_; (refine IX ?_; refine eR ao 10 J J J J J J ?_))|(refine h3H ?_; (refine h2H ?_; first|refine eR ao 11 J J J (dU (i:=10) J J J J J J J J (by simp) (by simp; omega) (Nat.le_of_ble_eq_true J)) J J ?_|refine tY 40 [11] J J J J J J J J J (yP (hd (iH hq ‹decide ((k : Int) < ((l.map az).length : Int)) = false›) (by simpa using ‹(!kd) = false›) (.inl (by simpa using ‹(!free) = false›))) (by simp; exact List.take_of_length_le (by simp))) J J ?_|refine tY 40 [11] J J J J J J J J J (yP (hd (iH hq ‹decide ((k : Int) < ((l.map az).length : Int)) = false›) (by simpa using ‹(!kd) = false›) (.inr (uI hq1 h))) (by simp; exact List.take_of_length_le (by simp))) J J ?_))|refine wG ?_|(refine h5H ?_; first|refine ai J (fun h=>?_) (fun h=>?_)|refine bg 5 J [(1,_),(4,_),(6,_),(22,_),(23,_)] (q5Q J J J J J) (fun (k : Nat)=>[(24,.one (.d (.int .i64 (k : Int))))]) (fun (k : Nat)=>k≤l.length∧l.all bn = (l.drop k).all bn) (fun (k : Nat)=>l.length - k) 0 (q1Q J) ?_ (fun k ⟨hk0,hq⟩=>?_)|refine bg 14 J [(1,_),(4,_),(6,_),(42,_),(43,_)] (q5Q J J J J J) (fun (j : Nat)=>[(44,.one (.d (.int .i64 (j : Int))))]) (fun (j : Nat)=>j≤l.length∧bZ l = bZ (l.drop j)) (fun (j : Nat)=>l.length - j) 0 (q1Q J) ?_ (fun j ⟨hk1,hq1⟩=>?_))|(show Exists _; first|refine Exists.intro (j + 1) ⟨?_,?_,wK,(q1Q J),(q5Q J J J J J)⟩|refine Exists.intro (k + 1) ⟨?_,?_,wK,(q1Q J),(q5Q J J J J J)⟩))
 ·exact ⟨Nat.zero_le _,rfl⟩
 ·have hlt : k < l.length:=by simpa using ‹decide ((k : Int) < ((l.map az).length : Int)) = true›
  rw [GQ (GO hq hlt h)]; rfl
 ·have hlt : k < l.length:=by simpa using ‹decide ((k : Int) < ((l.map az).length : Int)) = true›
  exact ⟨hlt,GP hq hlt h⟩
 ·have hlt : k < l.length:=by simpa using ‹decide ((k : Int) < ((l.map az).length : Int)) = true›
  omega
 ·rw [GR (iH hq ‹decide ((k : Int) < ((l.map az).length : Int)) = false›) h]; rfl
 ·exact ⟨Nat.zero_le _,rfl⟩
 ·have hlt : j < l.length:=by simpa using ‹decide ((j : Int) < ((l.map az).length : Int)) = true›
  rw [wT (iH hq ‹decide ((k : Int) < ((l.map az).length : Int)) = false›) ‹(!kd) = false› ‹(!free) = true›,hq1,rR hlt h]; rfl
 ·have hlt : j < l.length:=by simpa using ‹decide ((j : Int) < ((l.map az).length : Int)) = true›
  exact ⟨hlt,hq1.trans (rS hlt h)⟩
 ·have hlt : j < l.length:=by simpa using ‹decide ((j : Int) < ((l.map az).length : Int)) = true›
  omega
 ·rw [wT (iH hq ‹decide ((k : Int) < ((l.map az).length : Int)) = false›) ‹(!kd) = false› ‹(!free) = true›,uI hq1 h]; rfl
 ·rw [KI (iH hq ‹decide ((k : Int) < ((l.map az).length : Int)) = false›) ‹(!kd) = false› h]; rfl
theorem HE{l : List Val}{m : Nat}{xs : List (List D)}(hl : 1≤l.length)(hx : xs = l.map az)(hm : m = l.length) : CallA Tryz.prog 311 [.one (.own 1000000 m)] [(1000000,.row 4 40 xs)] (bz (sk (at_ l 0))) [(1000000,.row 4 40 ((l.set 0 (sk (at_ l 0))).map az))]:=by
 subst hx; subst hm; exact OK l hl
theorem HF(l : List Val)(hl : l.length≤3)(hl1 : 1≤l.length)
  (h226 : CallA Tryz.prog 226 [.one (.d (.int .i64 5)),.one (.d (.int .i64 (l.map az).length))] [] (.tup [(true,[.d (.int .i64 1),.d (.fn 350 [.ptr [.int .i64 2]]),.d (.fn 300 []),.d (.bool false),.d (.fn 311 [])]),(false,[.d (.bool true)])]) []) :
  CallA Tryz.prog 186 [.one (.d (.int .i64 5)),.one (.d (aP l))] [] (pR (doG l (l.all fun v=>isV v 2) false (sk (at_ l 0)))) []:=by
 refine enter af Tryz.func186 rfl (by decide +kernel) rfl fun hok w0 σ0 φ0 M=>?_
 have h1:=hok.2.1.sl.1; clear hok; simp only [List.length_map] at h1
 repeat' (first|(refine h1H ?_; (refine h0H ?_; first|refine aZ 60 J J J J J J J J h226 J J J ?_|refine ab J J J J J J J J (GN _) J ?_|refine ab J J J J J J J J (oa _ _) J ?_))|(refine h3H ?_; (refine IX ?_; refine eR ao 10 J J J J J J ?_))|(refine h3H ?_; (refine h2H ?_; first|refine eR ao 11 J J J (dU (i:=10) J J J J J J J J (by simp) (by simp; omega) (Nat.le_of_ble_eq_true J)) J J ?_|refine Hz 40 (id:=11) J J J J J J J (HE (l:=l) hl1 J (by simp)) (by simp) J J J ?_))|refine wG ?_|(refine h5H ?_; first|refine ai J (fun h=>?_) (fun h=>?_)|refine bg 5 J [(1,_),(4,_),(6,_),(22,_),(23,_)] (q5Q J J J J J) (fun (k : Nat)=>[(24,.one (.d (.int .i64 (k : Int))))]) (fun (k : Nat)=>k≤l.length∧l.all bn = (l.drop k).all bn) (fun (k : Nat)=>l.length - k) 0 (q1Q J) ?_ (fun k ⟨hk0,hq⟩=>?_)|refine bg 14 J [(1,_),(4,_),(6,_),(42,_),(43,_)] (q5Q J J J J J) (fun (j : Nat)=>[(44,.one (.d (.int .i64 (j : Int))))]) (fun (j : Nat)=>j≤l.length∧bZ l = bZ (l.drop j)) (fun (j : Nat)=>l.length - j) 0 (q1Q J) ?_ (fun j ⟨hk1,hq1⟩=>?_))|(show Exists _; first|refine Exists.intro (j + 1) ⟨?_,?_,wK,(q1Q J),(q5Q J J J J J)⟩|refine Exists.intro (k + 1) ⟨?_,?_,wK,(q1Q J),(q5Q J J J J J)⟩))
 ·exact ⟨Nat.zero_le _,rfl⟩
 ·have hlt : k < l.length:=by simpa using ‹decide ((k : Int) < ((l.map az).length : Int)) = true›
  rw [GQ (GO hq hlt h)]; rfl
 ·have hlt : k < l.length:=by simpa using ‹decide ((k : Int) < ((l.map az).length : Int)) = true›
  exact ⟨hlt,GP hq hlt h⟩
 ·have hlt : k < l.length:=by simpa using ‹decide ((k : Int) < ((l.map az).length : Int)) = true›
  omega
 ·rw [GR (iH hq ‹decide ((k : Int) < ((l.map az).length : Int)) = false›) h]; rfl
 ·exact ⟨Nat.zero_le _,rfl⟩
 ·have hlt : j < l.length:=by simpa using ‹decide ((j : Int) < ((l.map az).length : Int)) = true›
  rw [wT (iH hq ‹decide ((k : Int) < ((l.map az).length : Int)) = false›) ‹(!l.all fun v=>isV v 2) = false› rfl,hq1,rR hlt h]; rfl
 ·have hlt : j < l.length:=by simpa using ‹decide ((j : Int) < ((l.map az).length : Int)) = true›
  exact ⟨hlt,hq1.trans (rS hlt h)⟩
 ·have hlt : j < l.length:=by simpa using ‹decide ((j : Int) < ((l.map az).length : Int)) = true›
  omega
 ·rw [wT (iH hq ‹decide ((k : Int) < ((l.map az).length : Int)) = false›) ‹(!l.all fun v=>isV v 2) = false› rfl,uI hq1 h]; rfl
end Go.Proofs.YtpejdgkaapnekaaGreat
namespace Go.Proofs.YtpejdgkaapnekaaGreat
open Go Go.Abs
def vP3(t : Bool×Nat×Nat) : Val:=vP t.1 t.2.1 t.2.2
def ngV(v : Val) : Bool:=decide (v.num < 0)
def naV(v : Val) : Nat:=v.num.natAbs
def dnV(v : Val) : Nat:=v.den.natAbs
def Jw(x y : Val)(minus : Bool) : Val:=vP3 (iz (ngV x) (naV x) (dnV x) (ngV y) (naV y) (dnV y) minus)
def OI(x y : Val) : Val:=vP3 (sj (ngV x != ngV y) (naV x * naV y) (dnV x * dnV y))
def yM(x y : Val) : Val:=if naV y = 0 then ⟨0,3,0,[]⟩ else vP3 (sj (ngV x != ngV y) (naV x * dnV y) (dnV x * naV y))
def Jx(x : Val) : Val:=vP (ngV x) (if ngV x = true∧naV x % dnV x≠0 then naV x / dnV x + 1 else naV x / dnV x) 1
def Jy(a b : Val) : Int:=if sgF a.kind b.kind≠0 then sgF a.kind b.kind else if a.kind = 2 then wN (iz (ngV a) (naV a) (dnV a) (ngV b) (naV b) (dnV b) true) else if a.kind = 3 then sD a.str b.str else sgF a.num b.num
def OJ(op o : Int) : Bool:=if op = 13 then o == 0 else if op = 14 then o != 0 else if op = 15 then decide (o < 0) else if op = 16 then decide (o≤0) else if op = 17 then decide (0 < o) else decide (0≤o)
def rvF(op : Int)(l : List Val) : Val :=
 if op = 4 then cj ((at_ l 0).num == 0) else if op = 5 then sk (at_ l 0) else if op = 6 then Jx (at_ l 0) else if op = 7 then cj ((at_ l 0).kind == 0)
 else if op = 8 then ⟨2,if (at_ l 0).kind == 0 then (at_ l 0).num else 0,1,[]⟩ else if op = 9 then Jw (at_ l 0) (at_ l 1) false else if op = 10 then Jw (at_ l 0) (at_ l 1) true
 else if op = 11 then OI (at_ l 0) (at_ l 1) else if op = 12 then yM (at_ l 0) (at_ l 1) else if op≤18 then cj (OJ op (Jy (at_ l 0) (at_ l 1))) else if op = 19 then lO false l else if op = 20 then lO true l
 else if op = 21 then (if (at_ l 0).kind == 0 then at_ l 1 else at_ l 0) else (if (at_ l 0).kind == 0 then at_ l 0 else if (at_ l 0).num == 1 then at_ l 1 else at_ l 2)
def kdF(op : Int)(l : List Val) : Bool :=
 if op = 4∨op = 19∨op = 20 then l.all (fun v=>isV v 1) else if op = 5∨op = 6∨(9≤op∧op≤12) then l.all (fun v=>isV v 2) else if op = 7∨op = 8 then true
 else if op = 22 then isV (at_ l 0) 1 && fu (at_ l (l.length - 2)) (at_ l (l.length - 1)) else fu (at_ l (l.length - 2)) (at_ l (l.length - 1))
def frF(op : Int) : Bool:=op == 7 || op == 8 || decide (19≤op)
def doF(op : Int)(l : List Val) : Val×Int:=doG l (kdF op l) (frF op) (rvF op l)
theorem kL{v : Val}(h : bn v = true)(hk : v.kind = 2) : naV v≤1099511627776∧1≤dnV v∧dnV v≤1099511627776∧v.den = (dnV v : Int):=by
 unfold bn cy at h
 rw [hk] at h
 simp at h
 unfold naV dnV
 omega
theorem yN{n : Nat}(h : n < 79228162514264337593543950336) : dl n≤3:=GD (w:=3) h
theorem yO{a1 b1 a2 b2 : Nat}(h1 : a1≤1099511627776)(h2 : 1≤b1∧b1≤1099511627776)(h3 : a2≤1099511627776)(h4 : 1≤b2∧b2≤1099511627776) : RatOk a1 b1 a2 b2:=by
 have hm : ∀ {x y : Nat},x≤1099511627776→y≤1099511627776→x * y≤1208925819614629174706176:=fun hx hy=>Nat.mul_le_mul hx hy
 have d : ∀ {x : Nat},x≤1099511627776→(dig x).length≤400:=fun hx=>Nat.le_trans (yN (Nat.lt_of_le_of_lt hx (Nat.lt_of_lt_of_le (show 1099511627776 < 1099511627777 from Nat.lt_succ_self _) (Nat.le_of_ble_eq_true rfl)))) (by omega)
 have p : ∀ {x : Nat},x≤2417851639229258349412352→dl x≤100:=fun hx=>Nat.le_trans (yN (Nat.lt_of_le_of_lt hx (Nat.lt_of_lt_of_le (Nat.lt_succ_self _) (Nat.le_of_ble_eq_true rfl)))) (by omega)
 have p1:=hm h1 h4.2
 have p2:=hm h3 h2.2
 have p3:=hm h2.2 h4.2
 have p5:=hm h1 h3
 have p6:=hm h2.2 h3
 exact ⟨by omega,by omega,d h1,d h2.2,d h3,d h4.2,p (by omega),p (by omega),p (by omega),p (by omega),p (by omega),p (by omega)⟩
theorem A3{v : Val}{k : Int}(h : isV v k = true)(h0 : ¬ v.kind = 0) : v.kind = k:=by
 unfold isV at h
 simp at h
 exact h.resolve_left h0
theorem ji{l : List Val}(h : bZ l = none){i : Nat}(hi : i < l.length) : ¬ (at_ l i).kind = 0:=by
 have:=List.find?_eq_none.1 h (at_ l i) (b9 hi)
 simpa using this
theorem tw{l : List Val}{p : Val→Bool}(h : l.all p = true){i : Nat}(hi : i < l.length) : p (at_ l i) = true:=List.all_eq_true.1 h _ (b9 hi)
end Go.Proofs.YtpejdgkaapnekaaGreat
namespace Go.Proofs.YtpejdgkaapnekaaGreat
open Go Go.Abs
mutual
def bS(ds : List Dim)(ats : List Attr)(at' : List Int)(vs : List Val) : Scalar→Val
 | .mk o n v a=>if o = 1 then v else if o = 2 then at_ vs (atI ats n).toNat else if o = 3 then ⟨2,at_ at' (jY ds n).toNat,1,[]⟩ else (doF o (fU ds ats at' vs a)).1
def fU(ds : List Dim)(ats : List Attr)(at' : List Int)(vs : List Val) : List Scalar→List Val
 | []=>[]
 | x::r=>bS ds ats at' vs x::fU ds ats at' vs r
end
section
variable {ds : List Dim} {ats : List Attr} {at' : List Int} {vs : List Val}
theorem uJ : ∀ {s : Scalar},bS ds ats at' vs s = if s.op = 1 then s.val else if s.op = 2 then at_ vs (atI ats s.name).toNat else if s.op = 3 then ⟨2,at_ at' (jY ds s.name).toNat,1,[]⟩ else (doF s.op (fU ds ats at' vs s.args)).1
 | .mk _ _ _ _=>by simp only [bS,Scalar.op,Scalar.name,Scalar.val,Scalar.args]; rfl
theorem vX : ∀ {l : List Scalar},(fU ds ats at' vs l).length = l.length
 | []=>rfl
 | x::r=>by simp [fU,vX (l:=r)]
def uC(ds : List Dim)(ats : List Attr)(x : Scalar) : Prop:=(x.op = 2→0≤atI ats x.name)∧(x.op = 3→0≤jY ds x.name)
theorem yQ{cst : Val→Int} : ∀ {l : List Scalar} {ts : List Int},bD cst ds ats l = .inr ts→∀ x∈l,(bU cst ds ats x).2 = 0
 | [],_,_,x,hx=>by simp at hx
 | y::r,ts,h,x,hx=>by
   simp only [bD] at h
   split at h
   ·cases h
   ·rename_i h1
    split at h
    ·cases h
    ·rename_i l2 h2
     rcases List.mem_cons.1 hx with rfl | hx
     ·exact Decidable.not_not.1 h1
     ·exact yQ h2 x hx
theorem vY : ∀ {l : List Scalar} {z : Scalar},z∈aH l→∃ x∈l,z∈aR x
 | [],z,h=>by simp [aH] at h
 | x::r,z,h=>by
   simp only [aH,List.mem_append] at h
   rcases h with h | h
   ·exact ⟨x,List.mem_cons_self,h⟩
   ·obtain ⟨y,h1,h2⟩:=vY h
    exact ⟨y,List.mem_cons_of_mem _ h1,h2⟩
theorem I9{cst : Val→Int}(s : Scalar) : cS s = true→(bU cst ds ats s).2 = 0→∀ z∈aR s,uC ds ats z:=by
 induction s using Scalar.ind with
 | h s ih =>
   intro hp h z hz
   rw [fI,Bool.and_eq_true] at hp
   rw [dV,List.mem_append] at hz
   rw [jf] at h
   by_cases h3 : s.op = 1∨s.op = 2∨s.op = 3
   ·have ha : s.args = []:=rX hp.1 h3
    rw [ha] at hz
    have hz : z = s:=by
     rcases hz with hz | hz
     ·simp [aH] at hz
     ·simpa using hz
    subst hz
    refine ⟨fun h2=>?_,fun h2=>?_⟩
    ·rw [if_neg (by omega),if_pos h2] at h
     unfold gQ at h
     refine Int.not_lt.1 fun hc=>?_
     rw [if_pos hc] at h; simp at h
    ·rw [if_neg (by omega),if_neg (by omega),if_pos h2] at h
     unfold jD at h
     refine Int.not_lt.1 fun hc=>?_
     rw [if_pos hc] at h; simp at h
   ·rw [if_neg (fun h=>h3 (.inl h)),if_neg (fun h=>h3 (.inr (.inl h))),if_neg (fun h=>h3 (.inr (.inr h)))] at h
    rcases hz with hz | hz
    ·obtain ⟨x,hx,hzx⟩:=vY hz
     cases ht : bD cst ds ats s.args with
     | inl e =>
       rw [ht] at h
       have he : e = 0:=h
       exfalso
       have : ∀ {l : List Scalar} {e : Int},bD cst ds ats l = .inl e→e≠0:=by
        intro l
        induction l with
        | nil=>intro e h; simp [bD] at h
        | cons y r ihl =>
          intro e h
          simp only [bD] at h
          split at h
          ·rename_i h1; cases h; exact h1
          ·split at h
           ·rename_i e2 h2; cases h; exact ihl h2
           ·cases h
       exact this ht he
     | inr ts=>exact ih x hx (fM hp.2 x hx) (yQ ht x hx) z hzx
    ·have hz : z = s:=by simpa using hz
     subst hz
     exact ⟨fun h2=>absurd (.inr (.inl h2)) h3,fun h2=>absurd (.inr (.inr h2)) h3⟩
def eE(ds : List Dim)(ats : List Attr)(at' : List Int)(vs : List Val)(l : List Val)(x : Scalar) : Bool×List Val :=
 (true,if x.op = 1 then l ++ [x.val] else if x.op = 2 then l ++ [at_ vs (atI ats x.name).toNat] else if x.op = 3 then l ++ [⟨2,at_ at' (jY ds x.name).toNat,1,[]⟩] else
  l.take (l.length - x.args.length) ++ [(doF x.op (l.drop (l.length - x.args.length))).1])
def tA(ds : List Dim)(ats : List Attr)(l : List Val)(x : Scalar) : Prop:=uC ds ats x∧cW x = true∧l.length≤64∧(4≤x.op→x.args.length≤l.length)
theorem oR{α β : Type}{F : α→β→Bool×α}{ok : α→β→Prop} : ∀ {l m : List β} {a : α},cQ F ok l a→((br F l a).1 = true→cQ F ok m (br F l a).2)→cQ F ok (l ++ m) a
 | [],_,_,_,h=>h rfl
 | x::l,m,a,h1,h2=>by
   simp only [List.cons_append,cQ] at h1 ⊢
   refine ⟨h1.1,fun hx=>oR (h1.2 hx) fun h=>?_⟩
   have e : br F (x::l) a = br F l (F a x).2:=by simp only [br]; rw [if_pos hx]
   rw [e] at h2; exact h2 h
theorem tB : ∀ {r : List Scalar},
  (∀ x∈r,∀ l : List Val,l.length + (aR x).length≤65→cQ (eE ds ats at' vs) (tA ds ats) (aR x) l∧br (eE ds ats at' vs) (aR x) l = (true,l ++ [bS ds ats at' vs x])) →
  ∀ l : List Val,l.length + (aH r).length≤65→cQ (eE ds ats at' vs) (tA ds ats) (aH r) l∧br (eE ds ats at' vs) (aH r) l = (true,l ++ fU ds ats at' vs r)
 | [],_,l,hl=>⟨trivial,by simp [fU,aH,br]⟩
 | x::r,h,l,hl=>by
   have hp : 1≤(aR x).length:=by rw [dV]; simp
   simp only [aH,List.length_append] at hl
   obtain ⟨h1,h2⟩:=h x (by simp) l (by omega)
   simp only [aH,fU]
   have ih:=tB (r:=r) (fun y hy=>h y (List.mem_cons_of_mem _ hy)) (l ++ [bS ds ats at' vs x]) (by simp; omega)
   rw [eC,h2]
   refine ⟨oR h1 (fun _=>by rw [h2]; exact ih.1),?_⟩
   simp only [if_true]
   rw [ih.2]; simp
theorem KJ(s : Scalar) : cS s = true→(∀ z∈aR s,uC ds ats z)→∀ l : List Val,l.length + (aR s).length≤65→cQ (eE ds ats at' vs) (tA ds ats) (aR s) l∧br (eE ds ats at' vs) (aR s) l = (true,l ++ [bS ds ats at' vs s]):=by
 induction s using Scalar.ind with
 | h s ih =>
   intro hp hn l hl
   rw [fI,Bool.and_eq_true] at hp
   have hmem : ∀ x∈s.args,∀ z∈aR x,z∈aR s:=by
    intro x hx z hz
    rw [dV,List.mem_append]
    refine .inl ?_
    have : ∀ {r : List Scalar},x∈r→z∈aH r:=by
     intro r
     induction r with
     | nil=>intro h; simp at h
     | cons y r ihr =>
       intro h
       simp only [aH,List.mem_append]
       rcases List.mem_cons.1 h with rfl | h
       ·exact .inl hz
       ·exact .inr (ihr h)
    exact this hx
   have hL:=tB (ds:=ds) (ats:=ats) (at':=at') (vs:=vs) (r:=s.args) (fun x hx l hl=>ih x hx (fM hp.2 x hx) (fun z hz=>hn z (hmem x hx z hz)) l hl)
   have hns : uC ds ats s:=hn s (by rw [dV]; simp)
   rw [dV] at hl ⊢
   simp only [List.length_append,List.length_cons,List.length_nil] at hl
   by_cases h3 : s.op = 1∨s.op = 2∨s.op = 3
   ·have ha : s.args = []:=rX hp.1 h3
    have hok : tA ds ats l s:=⟨hns,hp.1,by omega,fun h=>by omega⟩
    have hF : eE ds ats at' vs l s = (true,l ++ [bS ds ats at' vs s]):=by
     rw [uJ]; simp only [eE]
     rcases h3 with h3 | h3 | h3 <;> simp [h3]
    rw [ha]
    simp only [aH,List.nil_append,cQ,br]
    rw [hF]
    exact ⟨⟨hok,fun _=>trivial⟩,by simp⟩
   ·obtain ⟨hop,hlen⟩:=jg hp.1 (fun h=>h3 (.inl h)) (fun h=>h3 (.inr (.inl h))) (fun h=>h3 (.inr (.inr h)))
    obtain ⟨h4,h5⟩:=hL l (by omega)
    have hts:=vX (ds:=ds) (ats:=ats) (at':=at') (vs:=vs) (l:=s.args)
    have hle:=k8 (r:=s.args)
    have hd : (l ++ fU ds ats at' vs s.args).length - s.args.length = l.length:=by simp [hts]
    have hF : eE ds ats at' vs (l ++ fU ds ats at' vs s.args) s = (true,l ++ [bS ds ats at' vs s]):=by
     simp only [eE]
     rw [if_neg (fun h=>h3 (.inl h)),if_neg (fun h=>h3 (.inr (.inl h))),if_neg (fun h=>h3 (.inr (.inr h))),hd,uJ,if_neg (fun h=>h3 (.inl h)),if_neg (fun h=>h3 (.inr (.inl h))),if_neg (fun h=>h3 (.inr (.inr h)))]
     simp
    refine ⟨oR h4 (fun _=>?_),?_⟩
    ·rw [h5]
     exact ⟨⟨hns,hp.1,by simp [hts]; omega,fun _=>by simp [hts]⟩,fun _=>trivial⟩
    ·rw [eC,h5]
     simp only [if_true,br,hF]
end
end Go.Proofs.YtpejdgkaapnekaaGreat
namespace Go.Proofs.YtpejdgkaapnekaaGreat
open Go Go.Abs
theorem nK{m n : Nat}(hn : n≠0) : n / Nat.gcd m n≠0:=by
 have hp:=Nat.pos_of_ne_zero hn
 exact Nat.ne_of_gt (Nat.div_pos (Nat.le_of_dvd hp (Nat.gcd_dvd_right m n)) (Nat.gcd_pos_of_pos_right m hp))
theorem y9{s1 s2 minus : Bool}{a1 b1 a2 b2 : Nat}(h1 : b1≠0)(h2 : b2≠0) : (iz s1 a1 b1 s2 a2 b2 minus).2.2≠0:=by
 have h:=Nat.mul_ne_zero h1 h2
 unfold iz sj
 split
 ·exact nK h
 ·split
  ·exact nK h
  ·exact nK h
structure NumOk (v : Val) : Prop where
 a : naV v≤1099511627776
 b : 1≤dnV v∧dnV v≤1099511627776
theorem lq{l : List Val}(hall : l.all bn = true)(hk : l.all (fun v=>isV v 2) = true)(hm : bZ l = none){i : Nat}(hi : i < l.length) : NumOk (at_ l i):=by
 have h1:=tw hall hi
 have h2:=A3 (tw hk hi) (ji hm hi)
 obtain ⟨q1,q2,q3,_⟩:=kL h1 h2
 exact ⟨q1,q2,q3⟩
theorem NumOk.rat{x y : Val}(h : NumOk x)(h' : NumOk y) : RatOk (naV x) (dnV x) (naV y) (dnV y):=yO h.a h.b h'.a h'.b
theorem dI{p : Prop}(h : false = true∨p) : p:=h.resolve_left (by simp)
theorem CB(l : List Val)(hl : 2≤l.length)(f : FuncId)(t : Bool×Nat×Nat)(hb : t.2.2≠0)(hf : CallA Tryz.prog f [.one (.d (lN (at_ l 0))),.one (.d (lN (at_ l 1)))] [] (.one (.d (cg t.1 t.2.1 t.2.2))) []) :
  CallA Tryz.prog 358 [.one (.d (aP l)),.one (.d (.ptr [.fn f []]))] [] (bz (vP3 t)) []:=PB l hl f _ _ _ hb hf
theorem JV(s1 : Bool)(a1 b1 : Nat)(s2 : Bool)(a2 b2 : Nat)(hz : a2 = 0)(h1 : b1≠0)(h2 : b2≠0) : CallA Tryz.prog 362 [.one (.d (cg s1 a1 b1)),.one (.d (cg s2 a2 b2))] [] (.tup [(false,[.d (.raw (.pointer none))]),(false,[.d (.int .i64 2)])]) []:=by
 subst hz; exact KB s1 a1 b1 s2 b2 h1 h2
theorem PC(op : Int)(l : List Val)(hop : 4≤op∧op≤22)(hl : (l.length : Int) = dQ op) : CallA Tryz.prog 186 [.one (.d (.int .i64 op)),.one (.d (aP l))] [] (pR (doF op l)) []:=by
 have hlen : ∀ n : Int,(l.length : Int) = n→(((l.map az).length : Nat) : Int) = n:=by intro n h; simpa using h
 have cmpc : ∀ {f : FuncId} (g : Int→Bool),l.length = 2→(∀ o : Int,CallA Tryz.prog f [.one (.d (.int .i64 o))] [] (.one (.d (.bool (g o)))) [])→l.all bn = true→fu (at_ l (l.length - 2)) (at_ l (l.length - 1)) = true→bZ l = none →
   CallA Tryz.prog 364 [.one (.d (aP l)),.one (.d (.ptr [.fn f []]))] [] (bz (cj (g (Jy (at_ l 0) (at_ l 1))))) []:=by
  intro f g h2 hf hall hal hm
  rw [h2] at hal
  refine LY l f g (by omega) (fun hk=>?_) hf
  have k0:=ji hm (i:=0) (by omega)
  have k1:=ji hm (i:=1) (by omega)
  have hkk : (at_ l 1).kind = 2:=by
   unfold fu at hal
   have : isV (at_ l 1) (at_ l 0).kind = true:=by
    rcases Bool.or_eq_true _ _ ▸ hal with h | h
    ·exact absurd (by simpa using h) k0
    ·exact h
   rw [hk] at this
   exact A3 this k1
  obtain ⟨q1,q2,q3,_⟩:=kL (tw hall (i:=0) (by omega)) hk
  obtain ⟨r1,r2,r3,_⟩:=kL (tw hall (i:=1) (by omega)) hkk
  exact yO q1 ⟨q2,q3⟩ r1 ⟨r2,r3⟩
 unfold doF
 rcases sh hop with rfl | rfl | rfl | rfl | rfl | rfl | rfl | rfl | rfl | rfl | rfl | rfl | rfl | rfl | rfl | rfl | rfl | rfl | rfl <;> simp [dQ] at hl
 ·exact eH _ l (by omega) _ _ _ _ _ _ _ _ _ _ (by rw [hlen 1 (by omega)]; exact D0) (fun _=>oa l 1) (fun _ _ _=>LG l (by omega))
 ·exact HF l (by omega) (by omega) (by rw [hlen 1 (by omega)]; exact D1)
 ·refine eH _ l (by omega) _ _ _ _ _ _ _ _ _ _ (by rw [hlen 1 (by omega)]; exact D2) (fun _=>oa l 2) (fun hall hk hf=>?_)
  have n0:=lq hall hk (dI hf) (i:=0) (by omega)
  have r:=n0.rat n0
  exact PD l (by omega) r.h1 (Nat.le_trans (jc (Nat.le_mul_of_pos_right _ n0.b.1)) r.m1) (Nat.le_trans (jc (Nat.le_mul_of_pos_right _ n0.b.1)) r.m3) (Nat.le_trans (jc (Nat.div_le_self _ _)) r.l1)
 ·exact eH _ l (by omega) _ _ _ _ _ _ _ _ _ _ (by rw [hlen 1 (by omega)]; exact D3) (fun _=>Ir _) (fun _ _ _=>LH l (by omega))
 ·exact eH _ l (by omega) _ _ _ _ _ _ _ _ _ _ (by rw [hlen 1 (by omega)]; exact D4) (fun _=>Ir _) (fun _ _ _=>LJ l (by omega))
 ·refine eH _ l (by omega) _ _ _ _ _ _ _ _ _ _ (by rw [hlen 2 (by omega)]; exact D5) (fun _=>oa l 2) (fun hall hk hf=>?_)
  have r:=(lq hall hk (dI hf) (i:=0) (by omega)).rat (lq hall hk (dI hf) (i:=1) (by omega))
  exact CB l (by omega) 321 _ (y9 r.h1 r.h2) (by rw [← yW]; exact MW ua _ _ _ _ _ _ r)
 ·refine eH _ l (by omega) _ _ _ _ _ _ _ _ _ _ (by rw [hlen 2 (by omega)]; exact AD) (fun _=>oa l 2) (fun hall hk hf=>?_)
  have r:=(lq hall hk (dI hf) (i:=0) (by omega)).rat (lq hall hk (dI hf) (i:=1) (by omega))
  exact CB l (by omega) 322 _ (y9 r.h1 r.h2) (by rw [← yW]; exact I6 ua _ _ _ _ _ _ r)
 ·refine eH _ l (by omega) _ _ _ _ _ _ _ _ _ _ (by rw [hlen 2 (by omega)]; exact AE) (fun _=>oa l 2) (fun hall hk hf=>?_)
  have r:=(lq hall hk (dI hf) (i:=0) (by omega)).rat (lq hall hk (dI hf) (i:=1) (by omega))
  exact CB l (by omega) 323 _ (nK (Nat.mul_ne_zero r.h1 r.h2)) (MX ua _ _ _ _ _ _ r)
 ·refine eH _ l (by omega) _ _ _ _ _ _ _ _ _ _ (by rw [hlen 2 (by omega)]; exact AF) (fun _=>oa l 2) (fun hall hk hf=>?_)
  have r:=(lq hall hk (dI hf) (i:=0) (by omega)).rat (lq hall hk (dI hf) (i:=1) (by omega))
  show CallA Tryz.prog 324 _ [] (bz (yM (at_ l 0) (at_ l 1))) []
  unfold yM
  by_cases h0 : naV (at_ l 1) = 0
  ·rw [if_pos h0]
   refine KT l (by omega) ?_
   exact JV _ _ _ _ _ _ h0 r.h1 r.h2
  ·rw [if_neg h0]
   exact KU l (by omega) _ _ _ (nK (Nat.mul_ne_zero r.h1 h0)) (MY ua _ _ _ _ _ _ r h0)
 ·exact eH _ l (by omega) _ _ _ _ _ _ _ _ _ _ (by rw [hlen 2 (by omega)]; exact AG) (fun _=>pb l (by omega)) (fun hall hk hf=>cmpc (fun o=>o == 0) (by omega) Ly hall hk (dI hf))
 ·exact eH _ l (by omega) _ _ _ _ _ _ _ _ _ _ (by rw [hlen 2 (by omega)]; exact AH) (fun _=>pb l (by omega)) (fun hall hk hf=>cmpc (fun o=>o != 0) (by omega) LA hall hk (dI hf))
 ·exact eH _ l (by omega) _ _ _ _ _ _ _ _ _ _ (by rw [hlen 2 (by omega)]; exact AI) (fun _=>pb l (by omega)) (fun hall hk hf=>cmpc (fun o=>decide (o < 0)) (by omega) LB hall hk (dI hf))
 ·exact eH _ l (by omega) _ _ _ _ _ _ _ _ _ _ (by rw [hlen 2 (by omega)]; exact AJ) (fun _=>pb l (by omega)) (fun hall hk hf=>cmpc (fun o=>decide (o≤0)) (by omega) LC hall hk (dI hf))
 ·exact eH _ l (by omega) _ _ _ _ _ _ _ _ _ _ (by rw [hlen 2 (by omega)]; exact AK) (fun _=>pb l (by omega)) (fun hall hk hf=>cmpc (fun o=>decide (0 < o)) (by omega) LD hall hk (dI hf))
 ·exact eH _ l (by omega) _ _ _ _ _ _ _ _ _ _ (by rw [hlen 2 (by omega)]; exact AL) (fun _=>pb l (by omega)) (fun hall hk hf=>cmpc (fun o=>decide (0≤o)) (by omega) LF hall hk (dI hf))
 ·exact eH _ l (by omega) _ _ _ _ _ _ _ _ _ _ (by rw [hlen 2 (by omega)]; exact AM) (fun _=>oa l 1) (fun _ _ _=>Iy l false (by omega))
 ·exact eH _ l (by omega) _ _ _ _ _ _ _ _ _ _ (by rw [hlen 2 (by omega)]; exact AN) (fun _=>oa l 1) (fun _ _ _=>Iy l true (by omega))
 ·exact eH _ l (by omega) _ _ _ _ _ _ _ _ _ _ (by rw [hlen 2 (by omega)]; exact AO) (fun _=>pb l (by omega)) (fun _ _ _=>LK l (by omega))
 ·exact eH _ l (by omega) _ _ _ _ _ _ _ _ _ _ (by rw [hlen 3 (by omega)]; exact AP) (fun _=>LM l (by omega)) (fun _ _ _=>LL l (by omega))
end Go.Proofs.YtpejdgkaapnekaaGreat
namespace Go.Proofs.YtpejdgkaapnekaaGreat
open Go Go.Abs
attribute [local irreducible] aa OkC aj av al aB
set_option maxRecDepth 10000
theorem Cz{op : Int}(h : 1≤op∧op≤22) : op = 1∨op = 2∨op = 3∨op = 4∨op = 5∨op = 6∨op = 7∨op = 8∨op = 9∨op = 10∨op = 11∨op = 12∨op = 13∨op = 14∨op = 15∨op = 16∨op = 17∨op = 18∨op = 19∨op = 20∨op = 21∨op = 22:=by omega
theorem JP{op : Int}(h : 1≤op∧op≤22) : xk env.T 208 (some (.one (.d (.int .i64 op)))) (some (.agg yz)) = some (.agg [.d (.int .i64 (dQ op)),.d (.bool (decide (op = 2) || decide (op = 3))),.d (.bool (decide (op = 1)))]):=by
 rcases Cz h with rfl | rfl | rfl | rfl | rfl | rfl | rfl | rfl | rfl | rfl | rfl | rfl | rfl | rfl | rfl | rfl | rfl | rfl | rfl | rfl | rfl | rfl <;> rfl
theorem Px(s : Scalar) : CallA Tryz.prog 173 [cF s] [] (.one (.d (.bool (cW s)))) []:=by
 refine enter af Tryz.func173 rfl (by decide +kernel) rfl fun hok w0 σ0 φ0 M=>?_
 clear hok
 repeat' (first|(refine h1H ?_; (refine h0H ?_; refine ab J J J J J J J J (MN _ _ _ _) J ?_))|(refine h3H ?_; (refine ME ?_; refine d_e ao J J J (xj J J J J (JP wB)) ?_))|(refine h3H ?_; (refine h2H ?_; refine d_l J J (bo J J J J J J (NL) J) ?_))|refine wG ?_|(refine h1H ?_; (refine h4H ?_; refine aG J J J J (fun h=>?_) (fun h=>?_)))|(refine h5H ?_; refine ai J (fun h=>?_) (fun h=>?_)))
 all_goals (try rw [ov] at *)
 all_goals (try (((simp_all [cW,dQ,ov,ak,List.drop_eq_nil_of_le]) <;> exact wL); done))
end Go.Proofs.YtpejdgkaapnekaaGreat
namespace Go.Proofs.YtpejdgkaapnekaaGreat
open Go Go.Abs
attribute [local irreducible] aa OkC aj av al aB OkR sG cD iX xl
set_option maxRecDepth 10000
def BQ(d : Bool) : LoopState:=if d then .done else .ready
def uo(d : Bool) : Option Code:=if d then some .ret else none
def lr(li : LI)(fr : List (Nat×AV))(a : Int×Bool×Bool) : Sto :=
 [(1000000,.loop li fr (BQ a.2.2) (uo a.2.2)),(1000001,.box [.d (.int .i64 (if a.2.2 then 9 else 0))]),(1000002,.box [.d (.int .i64 a.1)]),(1000003,.box [.d (.bool a.2.1)])]
def F87(a : Int×Bool×Bool)(x : Scalar) : Bool×(Int×Bool×Bool):=if 64 < a.1 + 1 then (false,(a.1 + 1,a.2.1,true)) else (true,(a.1 + 1,a.2.1 && cW x,false))
def CG(a : Int×Bool×Bool)(x : Scalar) : Prop:=a.2.2 = false∧0≤a.1∧a.1≤64
theorem zl : ∀ (l : List Scalar) (n : Int) (r : Bool),0≤n→n≤64→cQ F87 CG l (n,r,false)∧kN l n r = (if (br F87 l (n,r,false)).2.2.2 = true then 9 else if (br F87 l (n,r,false)).2.2.1 = true then 0 else 2)
 | [],n,r,h0,h1=>⟨trivial,rfl⟩
 | x::l,n,r,h0,h1=>by
   simp only [cQ,br,kN,F87,CG]
   by_cases h : 64 < n + 1
   ·simp only [h,if_true]
    exact ⟨⟨⟨trivial,h0,h1⟩,fun h=>by cases h⟩,rfl⟩
   ·have ih:=zl l (n + 1) (r && cW x) (by omega) (by omega)
    simp only [h,if_false,if_true]
    exact ⟨⟨⟨trivial,h0,h1⟩,fun _=>ih.1⟩,ih.2⟩
theorem KX(li : LI)(fr : List (Nat×AV))(hf : ∀ a,iw (lr li fr a) fr = true) : FamW (lr li fr):=by
 refine ⟨fun a i e h=>?_,fun a=>?_,fun a=>⟨li,fr,BQ a.2.2,uo a.2.2,rfl⟩,fun a=>rfl⟩
 ·unfold lr at h
  rcases ah h with ⟨rfl,_⟩ | ⟨_,h⟩
  ·omega
  rcases ah h with ⟨rfl,_⟩ | ⟨_,h⟩
  ·omega
  rcases ah h with ⟨rfl,_⟩ | ⟨_,h⟩
  ·omega
  rcases ah h with ⟨rfl,_⟩ | ⟨_,h⟩
  ·omega
  ·exact nomatch h
 ·show (iw (lr li fr a) fr && _) = true
  rw [hf a]; rfl
theorem y87{li : LI}{fr : List (Nat×AV)}(a : Int×Bool×Bool)(x : Scalar)(hok : CG a x)
  (hps : (iD li.n li.params.toList && Nat.beq li.params.toList.length 1) = true)
  (h : ∀ (n : Int) (r : Bool),0≤n→n≤64→∀ (w0 : World) (σ0 : Sig) (φ0 : Pl) (M : Nat→Prop) (B : Nat),OkC Tryz.prog ⟨w0,σ0,φ0,M,li.n,some B,[]⟩ li.assign ⟨fy li.params.toList [cF x] fr,lr li fr (n,r,false)⟩
   (iX Tryz.prog 1000000 ⟨w0,σ0,φ0,M,li.n,some B,[]⟩ li.body (.one (.d (.bool (F87 (n,r,false) x).1))) (lr li fr (F87 (n,r,false) x).2))) :
  YieldA Tryz.prog 1000000 [cF x] (lr li fr a) (.one (.d (.bool (F87 a x).1))) (lr li fr (F87 a x).2):=by
 obtain ⟨n,r,d⟩:=a
 obtain ⟨rfl,h0,h1⟩ : d = false∧0≤n∧n≤64:=hok
 exact pf ⟨by omega,by omega⟩ rfl hps (h n r h0 h1)
theorem c87(s : Scalar) : CallA Tryz.prog 87 [cF s] [] (.one (.d (.int .i64 (ec s)))) []:=by
 obtain ⟨h0,hform⟩:=zl (aR s) 0 true (by omega) (by omega)
 obtain ⟨⟨n',r',d'⟩,hR⟩ : ∃ a,(br F87 (aR s) (0,true,false)).2 = a:=⟨_,rfl⟩
 rw [hR] at hform
 refine enter af Tryz.func87 rfl (by decide +kernel) rfl fun hok w0 σ0 φ0 M=>?_
 clear hok
 repeat' (first|(refine h1H ?_; (refine h0H ?_; first|refine ab J J J J J J J J (I1 12 s 12 J (by omega)) J ?_|refine aZ 16 J J J J J J J J (FB _) J J J ?_))|refine wG ?_|(refine h5H ?_; refine ai J (fun h=>?_) (fun h=>?_)))
 ·simp [ec,h]
 ·have hC:=fun li fr hf hY=>FC (lr li fr) (KX li fr hf) F87 CG hY s (0,true,false) h0
  rw [hR] at hC
  refine pc (f:=216) (caps:=[.ptr (pC s)]) (os:=[(1,.box [.d (.int .i64 0)]),(2,.box [.d (.int .i64 0)]),(3,.box [.d (.bool true)])]) (rav:=.tup []) [1,2,3] 10 rfl rfl rfl rfl (hC _ _ (fun a=>?_) (fun a x hok=>?_)) (by cases d' <;> rfl) (fun h=>?_) (fun h=>?_)
  ·rfl
  ·refine y87 a x hok rfl fun n r hn0 hn1 w0 σ0 φ0 M B=>?_
   clear hC hform hok a
   by_cases hb : 64 < n + 1
   ·have e : F87 (n,r,false) x = (false,(n + 1,r,true)):=by simp [F87,hb]
    have hd : decide (64 < n + 1) = true:=by simp [hb]
    rw [e]
    repeat' (first|refine wG ?_|(show cD _ _ _ _ _; refine nh J J ?_ ?_))
    ·rfl
    ·exact ag rfl (q3Q rfl rfl rfl)
   ·have e : F87 (n,r,false) x = (true,(n + 1,r && cW x,false)):=by simp [F87,hb]
    have hd : decide (64 < n + 1) = false:=by simp [hb]
    rw [e]
    cases r
    all_goals
     repeat' (first|(refine h1H ?_; (refine h0H ?_; refine ab J J J J J J J J (Px _) J ?_))|refine wG ?_|(show cD _ _ _ _ _; refine fx J ?_ ?_))
     all_goals first | rfl | refine ag ?_ (ag ?_ (ag ?_ (ag ?_ aU)))
     all_goals first | rfl | trace_state
  ·have : d' = false:=by cases d' <;> simp [uo] at h ⊢
   subst this
   rintro ⟨w1,σ1,φ1,M1,n1,rd1,mk1⟩ ⟨hn,hrd,_⟩
   dsimp only at hn hrd
   subst hn hrd
   repeat' (first|refine wG ?_|(refine h5H ?_; refine ai J (fun h=>?_) (fun h=>?_)))
   all_goals simp_all [ec]
  ·have : d' = true:=by cases d' <;> simp [uo] at h ⊢
   subst this
   repeat' (first|refine wG ?_)
   have hf : ec s = 9:=by rw [ec,hform]; simp_all
   rw [hf]; rfl
def iM(li : LI)(fr : List (Nat×AV))(A : List D)(r : Nat)(a : List Int×Bool×Int) : Sto :=
 [(1000000,.loop li fr (BQ a.2.1) (uo a.2.1)),(1000001,.box (A.map .d)),(1000002,.box [.d (.int .i64 0)]),(1000003,.box [.d (.int .i64 a.2.2)]),(1000004,.box [.own r a.1.length]),(r,.row 1 8 (a.1.map b0))]
theorem oE{s : Sto} : ∀ {A : List D},dR s (A.map .d) = true
 | []=>rfl
 | x::r=>by simp only [List.map_cons,dR,bB,oE (A:=r),Bool.and_self]
theorem KA(li : LI)(fr : List (Nat×AV))(A : List D)(hf : ∀ a,iw (iM li fr A 2000000 a) fr = true) : FamW (iM li fr A 2000000):=by
 refine ⟨fun a i e h=>?_,fun a=>?_,fun a=>⟨li,fr,BQ a.2.1,uo a.2.1,rfl⟩,fun a=>rfl⟩
 ·unfold iM at h
  rcases ah h with ⟨rfl,_⟩ | ⟨_,h⟩
  ·omega
  rcases ah h with ⟨rfl,_⟩ | ⟨_,h⟩
  ·omega
  rcases ah h with ⟨rfl,_⟩ | ⟨_,h⟩
  ·omega
  rcases ah h with ⟨rfl,_⟩ | ⟨_,h⟩
  ·omega
  rcases ah h with ⟨rfl,_⟩ | ⟨_,h⟩
  ·omega
  rcases ah h with ⟨rfl,_⟩ | ⟨_,h⟩
  ·omega
  ·exact nomatch h
 ·show (iw (iM li fr A 2000000 a) fr && (dR (iM li fr A 2000000 a) (A.map .d) && _)) = true
  rw [hf a,oE]; rfl
theorem y88{li : LI}{fr : List (Nat×AV)}{A : List D}(ds : List Dim)(ats : List Attr)(a : List Int×Bool×Int)(x : Scalar)(hok : oz a x)
  (hps : (iD li.n li.params.toList && Nat.beq li.params.toList.length 1) = true)
  (h : ∀ (l : List Int),l.length≤64→(4≤x.op→x.args.length≤l.length)→cW x = true→∀ (w0 : World) (σ0 : Sig) (φ0 : Pl) (M : Nat→Prop) (B : Nat),OkC Tryz.prog ⟨w0,σ0,φ0,M,li.n,some B,[]⟩ li.assign ⟨fy li.params.toList [cF x] fr,iM li fr A 2000000 (l,false,0)⟩
   (iX Tryz.prog 1000000 ⟨w0,σ0,φ0,M,li.n,some B,[]⟩ li.body (.one (.d (.bool (F88 ds ats (l,false,0) x).1))) (iM li fr A 2000000 (F88 ds ats (l,false,0) x).2))) :
  YieldA Tryz.prog 1000000 [cF x] (iM li fr A 2000000 a) (.one (.d (.bool (F88 ds ats a x).1))) (iM li fr A 2000000 (F88 ds ats a x).2):=by
 obtain ⟨l,d,e⟩:=a
 obtain ⟨rfl,rfl,hp,h64,hargs⟩ : d = false∧e = 0∧cW x = true∧l.length≤64∧(4≤x.op→x.args.length≤l.length):=hok
 exact pf ⟨by omega,by omega⟩ rfl hps (h l h64 hargs hp)
def q88(i : Nat) : Nat:=bif Nat.beq i 1000005 then 2000000 else i
def p88(i : Nat) : Nat:=bif Nat.beq i 2000000 then 5 else i
theorem ye{sto : Sto}{li : LI}{fr : List (Nat×AV)}{A : List D}{l : List Int}{t : Int}{m : Nat}(hm : m≤l.length)(h1 : Abs.look sto 1000000 = some (.loop li fr .ready none))(h2 : Abs.look sto 1000001 = some (.box (A.map .d)))(h3 : Abs.look sto 1000002 = some (.box [.d (.int .i64 0)]))
  (h4 : Abs.look sto 1000003 = some (.box [.d (.int .i64 0)])) (h5 : Abs.look sto 1000004 = some (.box [.own 2000000 (m + 1)])) (h6 : Abs.look sto 2000000 = some (.row 1 8 ((l.map b0).take m ++ [[.int .i64 t]]))) : SubL sto (iM li fr A 2000000 (l.take m ++ [t],false,0)):=by
 refine ⟨h1,h2,h3,h4,?_,?_,trivial⟩
 ·rw [h5]; simp [Nat.min_eq_left hm]
 ·rw [h6]; simp [b0,List.map_take]
theorem BR{sto : Sto}{li : LI}{fr : List (Nat×AV)}{A : List D}{l : List Int}{t : Int}(h1 : Abs.look sto 1000000 = some (.loop li fr .ready none))(h2 : Abs.look sto 1000001 = some (.box (A.map .d)))(h3 : Abs.look sto 1000002 = some (.box [.d (.int .i64 0)]))
  (h4 : Abs.look sto 1000003 = some (.box [.d (.int .i64 0)])) (h5 : Abs.look sto 1000004 = some (.box [.own 2000000 (l.length + 1)])) (h6 : Abs.look sto 2000000 = some (.row 1 8 ((l.map b0).take l.length ++ [[.int .i64 t]]))) : SubL sto (iM li fr A 2000000 (l ++ [t],false,0)):=by
 have:=ye (Nat.le_refl _) h1 h2 h3 h4 h5 h6
 rwa [List.take_length] at this
set_option maxHeartbeats 4000000 in
theorem c88(ds : List Dim)(ats : List Attr)(cs : D)(s : Scalar)(hp : cS s = true)(hsz : (aR s).length≤64) : CallA Tryz.prog 88 [.agg [.d (aw ds),.d (au ats),.d cs],cF s] [] (ie (bU cv ds ats s)) []:=by
 obtain ⟨h0,hrun⟩:=Mz (ds:=ds) (ats:=ats) s hp [] (by simp; omega)
 obtain ⟨⟨l',d',e'⟩,hR⟩ : ∃ a,(br (F88 ds ats) (aR s) ([],false,0)).2 = a:=⟨_,rfl⟩
 have hend : (d' = true∧e' = (bU cv ds ats s).2∧e'≠0)∨(d' = false∧e' = 0∧(bU cv ds ats s).2 = 0∧l' = [(bU cv ds ats s).1]):=by
  by_cases hz : (bU cv ds ats s).2 = 0
  ·rw [if_pos hz] at hrun
   rw [hrun] at hR
   cases hR
   exact .inr ⟨rfl,rfl,hz,rfl⟩
  ·rw [if_neg hz] at hrun
   obtain ⟨l2,hrun⟩:=hrun
   rw [hrun] at hR
   cases hR
   exact .inl ⟨rfl,rfl,hz⟩
 refine enter af Tryz.func88 rfl (by decide +kernel) rfl fun hok w0 σ0 φ0 M=>?_
 have hats : ats.length < 281474976710656:=by
  have:=(OkD.sl (hok.1 (.d (au ats)) (by simp))).1; simpa using this
 clear hok
 repeat' (first|(refine h1H ?_; (refine h0H ?_; refine aZ 16 J J J J J J J J (FB _) J J J ?_))|refine wG ?_)
 ·have hC:=fun li fr hf hY=>FC (iM li fr [aw ds,au ats,cs] 2000000) (KA li fr _ hf) (F88 ds ats) oz hY s ([],false,0) h0
  rw [hR] at hC
  refine Ar (ta 4 5 (k:=1) (b:=8) rfl rfl) ?_
  refine pc (f:=216) (caps:=[.ptr (pC s)]) (rav:=.tup []) [0,2,3,4,5] 10 rfl rfl rfl rfl (vH q88 p88 (hC _ _ (fun a=>?_) (fun a x hok=>?_)) rfl rfl rfl rfl rfl rfl rfl) (by cases d' <;> rfl) (fun h=>?_) (fun h=>?_)
  ·rfl
  ·refine y88 ds ats a x hok rfl fun l h64 hargs hpx w0 σ0 φ0 M B=>?_
   clear hC hend hR hrun h0 hok a
   by_cases h1 : x.op = 1
   ·have e : F88 ds ats (l,false,0) x = (true,(l ++ [cv x.val],false,0)):=by simp [F88,h1]
    have hb1 : (x.op == 1) = true:=by simp [h1]
    rw [e]
    repeat' (first|(refine h1H ?_; (refine h0H ?_; first|refine dW af J J J J J J J J J J J J J (by show List.length l≤100000000; omega) (Nat.le_of_ble_eq_true J) (Nat.le_of_ble_eq_true J) ?_|refine ab J J J J J J J J (MR _ _ _ _) J ?_))|refine wG ?_|(show cD _ _ _ _ _; refine fx J ?_ ?_))
    ·rfl
    ·exact BR (by kernel_rfl) (by kernel_rfl) (by kernel_rfl) (by kernel_rfl) (by kernel_rfl) (by kernel_rfl)
   have hb1 : (x.op == 1) = false:=by simp [h1]
   by_cases h2 : x.op = 2
   ·have hb2 : (x.op == 2) = true:=by simp [h2]
    by_cases hi : atI ats x.name < 0
    ·have e : F88 ds ats (l,false,0) x = (false,(l,true,11)):=by simp [F88,h2,gQ,hi]
     have hd : decide (aI (fun a : Attr=>a.name == x.name) ats 0 < 0) = true:=by simpa [atI] using hi
     rw [e]
     repeat' (first|(refine h1H ?_; (refine h0H ?_; refine ab J J J J J J J J (BI _ _ _ _) J ?_))|refine wG ?_|(show cD _ _ _ _ _; refine nh J J ?_ ?_))
     ·rfl
     ·exact ag (by kernel_rfl) (ag (by kernel_rfl) (ag (by kernel_rfl) (ag (by kernel_rfl) (ag (by kernel_rfl) (ag (by kernel_rfl) aU)))))
    ·have e : F88 ds ats (l,false,0) x = (true,(l ++ [(at_ ats (atI ats x.name).toNat).type],false,0)):=by simp [F88,h2,gQ,hi]
     have hd : decide (aI (fun a : Attr=>a.name == x.name) ats 0 < 0) = false:=by simpa [atI] using hi
     have hr:=ff (p:=fun a : Attr=>a.name == x.name) (l:=ats) (k:=0) (by simpa [atI] using hi)
     obtain ⟨hr1,hr2⟩:=hr
     rw [e]
     repeat' (first|(refine h1H ?_; (refine h0H ?_; first|refine dW af J J J J J J J J J J J J J (by show List.length l≤100000000; omega) (Nat.le_of_ble_eq_true J) (Nat.le_of_ble_eq_true J) ?_|refine ab J J J J J J J J (BI _ _ _ _) J ?_))|refine wG ?_|(show cD _ _ _ _ _; refine fx J ?_ ?_))
     ·rfl
     ·exact BR (by kernel_rfl) (by kernel_rfl) (by kernel_rfl) (by kernel_rfl) (by kernel_rfl) (by kernel_rfl)
   have hb2 : (x.op == 2) = false:=by simp [h2]
   by_cases h3 : x.op = 3
   ·have hb3 : (x.op == 3) = true:=by simp [h3]
    by_cases hi : jY ds x.name < 0
    ·have e : F88 ds ats (l,false,0) x = (false,(l,true,11)):=by simp [F88,h3,jD,hi]
     have hd : decide (aI (fun a : Dim=>a.name == x.name) ds 0 < 0) = true:=by simpa [jY] using hi
     rw [e]
     repeat' (first|(refine h1H ?_; (refine h0H ?_; refine ab J J J J J J J J (BH _ _ _ _) J ?_))|refine wG ?_|(show cD _ _ _ _ _; refine nh J J ?_ ?_))
     ·rfl
     ·exact ag (by kernel_rfl) (ag (by kernel_rfl) (ag (by kernel_rfl) (ag (by kernel_rfl) (ag (by kernel_rfl) (ag (by kernel_rfl) aU)))))
    ·have e : F88 ds ats (l,false,0) x = (true,(l ++ [2],false,0)):=by simp [F88,h3,jD,hi]
     have hd : decide (aI (fun a : Dim=>a.name == x.name) ds 0 < 0) = false:=by simpa [jY] using hi
     rw [e]
     repeat' (first|(refine h1H ?_; (refine h0H ?_; first|refine dW af J J J J J J J J J J J J J (by show List.length l≤100000000; omega) (Nat.le_of_ble_eq_true J) (Nat.le_of_ble_eq_true J) ?_|refine ab J J J J J J J J (BH _ _ _ _) J ?_))|refine wG ?_|(show cD _ _ _ _ _; refine fx J ?_ ?_))
     ·rfl
     ·exact BR (by kernel_rfl) (by kernel_rfl) (by kernel_rfl) (by kernel_rfl) (by kernel_rfl) (by kernel_rfl)
   have hb3 : (x.op == 3) = false:=by simp [h3]
   obtain ⟨hop,hlen⟩:=jg hpx h1 h2 h3
   have hal:=hargs hop.1
   obtain ⟨m,hm⟩ : ∃ m : Nat,l.length = m + x.args.length:=⟨l.length - x.args.length,by omega⟩
   have hml : l.length - x.args.length = m:=by omega
   have hsub : ((l.length : Int) - (x.args.length : Int)) = (m : Int):=by omega
   have hC:=MS x.op (l.drop m) hop (by simp; omega)
   repeat' (first|refine wG ?_)
   simp only [List.length_map]
   rw [hsub]
   rcases Nat.eq_zero_or_pos m with h0 | h0
   ·have hC' : CallA Tryz.prog 175 [.one (.d (.int .i64 x.op)),.one (.d (.sl 1 8 ((l.map b0).take l.length)))] [] (ie (bx x.op (l.drop m))) []:=by
     have e1 : aq (l.drop m) = .sl 1 8 ((l.map b0).take l.length):=by rw [List.take_of_length_le (by simp)]; simp [aq,h0]
     rw [e1] at hC; exact hC
    refine d_e ao rfl rfl rfl (nB rfl rfl rfl (by rw [h0]; rfl) rfl rfl (by simp)) ?_
    refine nC [2000000] rfl rfl rfl rfl rfl rfl rfl rfl rfl hC' rfl ?_
    ·by_cases hz : (bx x.op (l.drop m)).2 = 0
     ·have hbz : ((bx x.op (l.drop m)).2 != 0) = false:=by simp [hz]
      have e : F88 ds ats (l,false,0) x = (true,(l.take m ++ [(bx x.op (l.drop m)).1],false,0)):=by
       simp only [F88]; rw [if_neg h1,if_neg h2,if_neg h3,hml]; simp [hz]
      rw [e]
      repeat' (first|refine wG ?_)
      refine d_e ao rfl rfl rfl (eJ rfl rfl rfl rfl rfl rfl (by omega) (by show Int.toNat (m : Int)≤List.length l; omega) (by simp)) ?_
      repeat' (first|(refine h1H ?_; (refine h0H ?_; refine dW af J J J J J J J J J J J J J (by show Int.toNat (m : Int)≤100000000; omega) (Nat.le_of_ble_eq_true J) (Nat.le_of_ble_eq_true J) ?_))|refine wG ?_|(show cD _ _ _ _ _; refine fx J ?_ ?_))
      ·rfl
      ·exact ye (by omega) (by kernel_rfl) (by kernel_rfl) (by kernel_rfl) (by kernel_rfl) (by kernel_rfl) (by kernel_rfl)
     ·have hbz : ((bx x.op (l.drop m)).2 != 0) = true:=by simp [hz]
      have e : F88 ds ats (l,false,0) x = (false,(l,true,(bx x.op (l.drop m)).2)):=by
       simp only [F88]; rw [if_neg h1,if_neg h2,if_neg h3,hml]; simp [hz]
      rw [e]
      repeat' (first|refine wG ?_|(show cD _ _ _ _ _; refine nh J J ?_ ?_))
      ·rfl
      ·exact ag (by kernel_rfl) (ag (by kernel_rfl) (ag (by kernel_rfl) (ag (by kernel_rfl) (ag (by kernel_rfl) (ag (by kernel_rfl) aU)))))
   ·have hC' : CallA Tryz.prog 175 [.one (.d (.int .i64 x.op)),.one (.d (.sl 1 8 (((l.map b0).drop m).take (l.length - m))))] [] (ie (bx x.op (l.drop m))) []:=by
     have e1 : aq (l.drop m) = .sl 1 8 (((l.map b0).drop m).take (l.length - m)):=by
      rw [List.take_of_length_le (by simp)]; simp [aq,List.map_drop]
     rw [e1] at hC; exact hC
    refine d_e ao rfl rfl rfl (o6 rfl rfl rfl rfl rfl rfl (by omega) (by show Int.toNat (m : Int)≤List.length l; omega) (by simp)) ?_
    refine nC [2000000] rfl rfl rfl rfl rfl rfl rfl rfl rfl hC' rfl ?_
    ·by_cases hz : (bx x.op (l.drop m)).2 = 0
     ·have hbz : ((bx x.op (l.drop m)).2 != 0) = false:=by simp [hz]
      have e : F88 ds ats (l,false,0) x = (true,(l.take m ++ [(bx x.op (l.drop m)).1],false,0)):=by
       simp only [F88]; rw [if_neg h1,if_neg h2,if_neg h3,hml]; simp [hz]
      rw [e]
      repeat' (first|refine wG ?_)
      refine d_e ao rfl rfl rfl (eJ rfl rfl rfl rfl rfl rfl (by omega) (by show Int.toNat (m : Int)≤List.length l; omega) (by simp)) ?_
      repeat' (first|(refine h1H ?_; (refine h0H ?_; refine dW af J J J J J J J J J J J J J (by show Int.toNat (m : Int)≤100000000; omega) (Nat.le_of_ble_eq_true J) (Nat.le_of_ble_eq_true J) ?_))|refine wG ?_|(show cD _ _ _ _ _; refine fx J ?_ ?_))
      ·rfl
      ·exact ye (by omega) (by kernel_rfl) (by kernel_rfl) (by kernel_rfl) (by kernel_rfl) (by kernel_rfl) (by kernel_rfl)
     ·have hbz : ((bx x.op (l.drop m)).2 != 0) = true:=by simp [hz]
      have e : F88 ds ats (l,false,0) x = (false,(l,true,(bx x.op (l.drop m)).2)):=by
       simp only [F88]; rw [if_neg h1,if_neg h2,if_neg h3,hml]; simp [hz]
      rw [e]
      repeat' (first|refine wG ?_|(show cD _ _ _ _ _; refine nh J J ?_ ?_))
      ·rfl
      ·exact ag (by kernel_rfl) (ag (by kernel_rfl) (ag (by kernel_rfl) (ag (by kernel_rfl) (ag (by kernel_rfl) (ag (by kernel_rfl) aU)))))
  ·rcases hend with ⟨rfl,_⟩ | ⟨rfl,rfl,hz,rfl⟩
   ·exact nomatch h
   rintro ⟨w1,σ1,φ1,M1,n1,rd1,mk1⟩ ⟨hn,hrd,_⟩
   dsimp only at hn hrd
   subst hn hrd
   refine bO (xu (s':=[(2,.box [.d (.int .i64 0)]),(3,.box [.d (.int .i64 0)]),(4,.box [.own 16 1]),(16,.row 1 8 [[.int .i64 (bU cv ds ats s).1]])]) (ag (by kernel_rfl) (ag (by kernel_rfl) (ag (by kernel_rfl) (ag (by kernel_rfl) aU))))) ?_
   repeat' (first|refine wG ?_)
   simp [ie,hz]
  ·rcases hend with ⟨rfl,rfl,hz⟩ | ⟨rfl,_⟩
   ·repeat' (first|refine wG ?_)
    show AV.tup [(false,[.d (.int .i64 0)]),(false,[.d (.int .i64 (bU cv ds ats s).2)])] = _
    simp [ie,Fq hz]
   ·exact nomatch h
end Go.Proofs.YtpejdgkaapnekaaGreat
namespace Go.Proofs.YtpejdgkaapnekaaGreat
open Go Go.Abs
attribute [local irreducible] aa OkC aj av al aB
set_option maxRecDepth 10000
theorem Ln(l : List Int) : CallA Tryz.prog 129 [.one (.d (aq l))] [] (.one (.d (aq l))) []:=by
 refine enter af Tryz.func129 rfl (by decide +kernel) rfl fun hok w0 σ0 φ0 M=>?_
 have h1:=hok.1.sl; clear hok; simp only [List.length_map] at h1
 repeat' (first|(refine h1H ?_; (refine h6H ?_; refine eA af J J J J J J (fun r hr=>?_)))|(refine h1H ?_; (refine h0H ?_; refine dN af J J J J J (id:=0) J J J J J J J (by simp only [List.length_map,Nat.zero_add]; omega) (by simp only [List.length_map,Nat.zero_add]; omega) ?_))|(refine h5H ?_; first|refine bO (cU (dl:=[0]) J) (dg ?_)|refine bO (lB (s:=2) (k:=1) (b:=8) J) (dg ?_))|refine wG ?_|(refine h5H ?_; refine ai J (fun h=>?_) (fun h=>?_)))
 ·have e:=hr (by simpa using h)
  simp only [aq,e]
 ·simp only [dt,aq,List.length_map,Nat.zero_add,List.take_nil,List.nil_append]
  exact congrArg (fun x=>AV.one (AC.d (D.sl _ _ x))) (List.take_of_length_le (by simp))
theorem Io(l : List Val) : CallA Tryz.prog 144 [.one (.d (aP l))] [] (.one (.d (aP l))) []:=by
 refine enter af Tryz.func144 rfl (by decide +kernel) rfl fun hok w0 σ0 φ0 M=>?_
 have h1:=hok.1.sl; clear hok; simp only [List.length_map] at h1
 repeat' (first|(refine h1H ?_; (refine h6H ?_; refine eA af J J J J J J (fun r hr=>?_)))|(refine h1H ?_; (refine h0H ?_; refine dN af J J J J J (id:=0) J J J J J J J (by simp only [List.length_map,Nat.zero_add]; omega) (by simp only [List.length_map,Nat.zero_add]; omega) ?_))|(refine h5H ?_; first|refine bO (cU (dl:=[0]) J) (dg ?_)|refine bO (lB (s:=2) (k:=4) (b:=40) J) (dg ?_))|refine wG ?_|(refine h5H ?_; refine ai J (fun h=>?_) (fun h=>?_)))
 ·have e:=hr (by simpa using h)
  simp only [aP,e]
 ·simp only [dt,aP,List.length_map,Nat.zero_add,List.take_nil,List.nil_append]
  exact congrArg (fun x=>AV.one (AC.d (D.sl _ _ x))) (List.take_of_length_le (by simp))
theorem c97(l : List Dim) : CallA Tryz.prog 97 [.one (.d (aw l))] [] (.one (.d (aw l))) []:=by
 refine enter af Tryz.func97 rfl (by decide +kernel) rfl fun hok w0 σ0 φ0 M=>?_
 have h1:=hok.1.sl; clear hok; simp only [List.length_map] at h1
 repeat' (first|(refine h1H ?_; (refine h6H ?_; refine eA af J J J J J J (fun r hr=>?_)))|(refine h1H ?_; (refine h0H ?_; refine dN af J J J J J (id:=0) J J J J J J J (by simp only [List.length_map,Nat.zero_add]; omega) (by simp only [List.length_map,Nat.zero_add]; omega) ?_))|(refine h5H ?_; first|refine bO (cU (dl:=[0]) J) (dg ?_)|refine bO (lB (s:=2) (k:=3) (b:=32) J) (dg ?_))|refine wG ?_|(refine h5H ?_; refine ai J (fun h=>?_) (fun h=>?_)))
 ·have e:=hr (by simpa using h)
  simp only [aw,e]
 ·simp only [dt,aw,List.length_map,Nat.zero_add,List.take_nil,List.nil_append]
  exact congrArg (fun x=>AV.one (AC.d (D.sl _ _ x))) (List.take_of_length_le (by simp))
theorem Lm(l : List Attr) : CallA Tryz.prog 145 [.one (.d (au l))] [] (.one (.d (au l))) []:=by
 refine enter af Tryz.func145 rfl (by decide +kernel) rfl fun hok w0 σ0 φ0 M=>?_
 have h1:=hok.1.sl; clear hok; simp only [List.length_map] at h1
 repeat' (first|(refine h1H ?_; (refine h6H ?_; refine eA af J J J J J J (fun r hr=>?_)))|(refine h1H ?_; (refine h0H ?_; refine dN af J J J J J (id:=0) J J J J J J J (by simp only [List.length_map,Nat.zero_add]; omega) (by simp only [List.length_map,Nat.zero_add]; omega) ?_))|(refine h5H ?_; first|refine bO (cU (dl:=[0]) J) (dg ?_)|refine bO (lB (s:=2) (k:=2) (b:=24) J) (dg ?_))|refine wG ?_|(refine h5H ?_; refine ai J (fun h=>?_) (fun h=>?_)))
 ·have e:=hr (by simpa using h)
  simp only [au,e]
 ·simp only [dt,au,List.length_map,Nat.zero_add,List.take_nil,List.nil_append]
  exact congrArg (fun x=>AV.one (AC.d (D.sl _ _ x))) (List.take_of_length_le (by simp))
end Go.Proofs.YtpejdgkaapnekaaGreat
