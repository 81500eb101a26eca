import Derived.Test.YtpejdgkaapnekaaGreatVP24
import Derived.Test.YtpejdgkaapnekaaGreatVE1
import Derived.Test.YtpejdgkaapnekaaGreatVP20
import Derived.Test.YtpejdgkaapnekaaGreatVP17
import Derived.Test.YtpejdgkaapnekaaGreatVP16
import Derived.Test.YtpejdgkaapnekaaGreatVP15
set_option linter.unusedVariables false
set_option linter.unusedSimpArgs false
set_option linter.unnecessarySimpa false
set_option maxHeartbeats 1000000
namespace Go.Proofs.YtpejdgkaapnekaaGreat
open Go Go.Abs
attribute [local irreducible] aa OkC ak ar al ax
set_option maxRecDepth 10000
def bA(v : Val) : Bool:=dH v.kind v.num v.den v.str
theorem FH(v : Val) : CallA Tryz.prog 233 [bu v] [] (.one (.d (.bool (bA v)))) []:=EB _ _ _ _
def k9 : Val:=⟨0,0,0,[]⟩
def xZ(p : Val×Int) : AV:=.tup [(true,[.d (.int .i64 p.1.kind),.d (.int .i64 p.1.num),.d (.int .i64 p.1.den),.d (.str p.1.str)]),(false,[.d (.int .i64 p.2)])]
def doG(l : List Val)(kd free : Bool)(rv : Val) : Val×Int :=
 if l.all bA = true then (if kd = true then (if free = true then (rv,0) else ((cu l).getD rv,0)) else (k9,12)) else (k9,2)
theorem iv{l : List Val}{k : Nat}(hq : l.all bA = (l.drop k).all bA)(h : decide ((k : Int) < ((l.map aN).length : Int)) = false) : l.all bA = true:=by
 have h : l.length≤k:=by simpa using h
 rw [hq,List.drop_eq_nil_of_le h]; rfl
theorem FI{l : List Val}{k : Nat}(hq : l.all bA = (l.drop k).all bA)(hlt : k < l.length)(h : (!bA (at_ l k)) = true) : ¬ l.all bA = true:=by
 rw [hq,aj hlt,List.all_cons]
 have h : bA (at_ l k) = false:=by simpa using h
 rw [h]; simp
theorem FJ{l : List Val}{k : Nat}(hq : l.all bA = (l.drop k).all bA)(hlt : k < l.length)(h : (!bA (at_ l k)) = false) : l.all bA = (l.drop (k + 1)).all bA:=by
 rw [hq,aj hlt,List.all_cons]
 have h : bA (at_ l k) = true:=by simpa using h
 rw [h]; simp
theorem tY{l : List Val}{k : Nat}(hq : cu l = cu (l.drop k))(h : decide ((k : Int) < ((l.map aN).length : Int)) = false) : cu l = none:=by
 have h : l.length≤k:=by simpa using h
 rw [hq,w9 h]
theorem ya{f : FuncId}{l : List Val}{xs : List (List D)}{r : List AV}{rav : AV}(h : CallA Tryz.prog f (.one (.d (aT l))::r) [] rav [])(hx : xs = l.map aN) : CallA Tryz.prog f (.one (.d (.sl 4 40 xs))::r) [] rav []:=by
 subst hx; exact h
theorem FK{l : List Val}{kd free : Bool}{rv : Val}(h : ¬ l.all bA = true) : doG l kd free rv = (k9,2):=if_neg h
theorem FL{l : List Val}{kd free : Bool}{rv : Val}(h : l.all bA = true)(h2 : (!kd) = true) : doG l kd free rv = (k9,12):=by unfold doG; rw [if_pos h,if_neg (by simpa using h2)]
theorem Jj{l : List Val}{kd free : Bool}{rv : Val}(h : l.all bA = true)(h2 : (!kd) = false)(h3 : (!free) = false) : doG l kd free rv = (rv,0):=by unfold doG; rw [if_pos h,if_pos (by simpa using h2),if_pos (by simpa using h3)]
theorem wg{l : List Val}{kd free : Bool}{rv : Val}(h : l.all bA = true)(h2 : (!kd) = false)(h3 : (!free) = true) : doG l kd free rv = ((cu l).getD rv,0):=by unfold doG; rw [if_pos h,if_pos (by simpa using h2),if_neg (by simpa using h3)]
set_option maxHeartbeats 1000000 in
theorem ey(op : Int)(l : List Val)(hl : l.length≤3)(n : Int)(fk ft fd : FuncId)(ck ct cd : List D)(free kd : Bool)(rv : Val)
  (h226 : CallA Tryz.prog 226 [.one (.d (.int .i64 op)),.one (.d (.int .i64 (l.map aN).length))] [] (.tup [(true,[.d (.int .i64 n),.d (.fn fk ck),.d (.fn ft ct),.d (.bool free),.d (.fn fd cd)]),(false,[.d (.bool true)])]) [])
  (hk : l.all bA = true→CallA Tryz.prog fk (.one (.d (aT l))::ck.map fun x=>.one (.d x)) [] (.one (.d (.bool kd))) [])
  (hd : l.all bA = true→kd = true→(free = true∨cu l = none)→CallA Tryz.prog fd (.one (.d (aT l))::cd.map fun x=>.one (.d x)) [] (bu rv) []) :
  CallA Tryz.prog 186 [.one (.d (.int .i64 op)),.one (.d (aT l))] [] (xZ (doG l kd free rv)) []:=by
 refine enter af Tryz.func186 rfl (by decide +kernel) rfl fun hok w0 σ0 φ0 M=>?_
 have h1:=hok.2.1.sl.1; clear hok; simp only [List.length_map] at h1
 repeat' (first|(refine h1H ?_; (refine h0H ?_; first|refine aU 60 J J J J J J J J h226 J J J ?_|refine ae J J J J J J J J (FH _) J ?_|refine ae J J J J J J J J (hk (iv hq h)) J ?_))|(refine h3H ?_; (refine HK ?_; refine fz aq 10 J J J J J J ?_))|(refine h3H ?_; (refine h2H ?_; first|refine fz aq 11 J J J (iy (i:=10) J J J J J J J J (by simp) (by simp; omega) (Nat.le_of_ble_eq_true J)) J J ?_|refine pM 40 [11] J J J J J J J J J (ya (hd (iv hq ‹decide ((k : Int) < ((l.map aN).length : Int)) = false›) (by simpa using ‹(!kd) = false›) (.inl (by simpa using ‹(!free) = false›))) (by simp; exact List.take_of_length_le (by simp))) J J ?_|refine pM 40 [11] J J J J J J J J J (ya (hd (iv hq ‹decide ((k : Int) < ((l.map aN).length : Int)) = false›) (by simpa using ‹(!kd) = false›) (.inr (tY hq1 h))) (by simp; exact List.take_of_length_le (by simp))) J J ?_))|refine wG ?_|(refine h5H ?_; first|refine ai J (fun h=>?_) (fun h=>?_)|refine aY 5 J [(1,_),(4,_),(6,_),(22,_),(23,_)] (q5Q J J J J J) (fun (k : Nat)=>[(24,.one (.d (.int .i64 (k : Int))))]) (fun (k : Nat)=>k≤l.length∧l.all bA = (l.drop k).all bA) (fun (k : Nat)=>l.length - k) 0 (q1Q J) ?_ (fun k ⟨hk0,hq⟩=>?_)|refine aY 14 J [(1,_),(4,_),(6,_),(42,_),(43,_)] (q5Q J J J J J) (fun (j : Nat)=>[(44,.one (.d (.int .i64 (j : Int))))]) (fun (j : Nat)=>j≤l.length∧cu l = cu (l.drop j)) (fun (j : Nat)=>l.length - j) 0 (q1Q J) ?_ (fun j ⟨hk1,hq1⟩=>?_))|(show Exists _; first|refine Exists.intro (j + 1) ⟨?_,?_,wK,(q1Q J),(q5Q J J J J J)⟩|refine Exists.intro (k + 1) ⟨?_,?_,wK,(q1Q J),(q5Q J J J J J)⟩))
 ·exact ⟨Nat.zero_le _,rfl⟩
 ·have hlt : k < l.length:=by simpa using ‹decide ((k : Int) < ((l.map aN).length : Int)) = true›
  rw [FK (FI hq hlt h)]; rfl
 ·have hlt : k < l.length:=by simpa using ‹decide ((k : Int) < ((l.map aN).length : Int)) = true›
  exact ⟨hlt,FJ hq hlt h⟩
 ·have hlt : k < l.length:=by simpa using ‹decide ((k : Int) < ((l.map aN).length : Int)) = true›
  omega
 ·rw [FL (iv hq ‹decide ((k : Int) < ((l.map aN).length : Int)) = false›) h]; rfl
 ·exact ⟨Nat.zero_le _,rfl⟩
 ·have hlt : j < l.length:=by simpa using ‹decide ((j : Int) < ((l.map aN).length : Int)) = true›
  rw [wg (iv hq ‹decide ((k : Int) < ((l.map aN).length : Int)) = false›) ‹(!kd) = false› ‹(!free) = true›,hq1,ru hlt h]; rfl
 ·have hlt : j < l.length:=by simpa using ‹decide ((j : Int) < ((l.map aN).length : Int)) = true›
  exact ⟨hlt,hq1.trans (ry hlt h)⟩
 ·have hlt : j < l.length:=by simpa using ‹decide ((j : Int) < ((l.map aN).length : Int)) = true›
  omega
 ·rw [wg (iv hq ‹decide ((k : Int) < ((l.map aN).length : Int)) = false›) ‹(!kd) = false› ‹(!free) = true›,tY hq1 h]; rfl
 ·rw [Jj (iv hq ‹decide ((k : Int) < ((l.map aN).length : Int)) = false›) ‹(!kd) = false› h]; rfl
theorem Gs{l : List Val}{m : Nat}{xs : List (List D)}(hl : 1≤l.length)(hx : xs = l.map aN)(hm : m = l.length) : CallA Tryz.prog 311 [.one (.own 1000000 m)] [(1000000,.row 4 40 xs)] (bu (rP (at_ l 0))) [(1000000,.row 4 40 ((l.set 0 (rP (at_ l 0))).map aN))]:=by
 subst hx; subst hm; exact MR l hl
theorem Gt(l : List Val)(hl : l.length≤3)(hl1 : 1≤l.length)
  (h226 : CallA Tryz.prog 226 [.one (.d (.int .i64 5)),.one (.d (.int .i64 (l.map aN).length))] [] (.tup [(true,[.d (.int .i64 1),.d (.fn 350 [.ptr [.int .i64 2]]),.d (.fn 300 []),.d (.bool false),.d (.fn 311 [])]),(false,[.d (.bool true)])]) []) :
  CallA Tryz.prog 186 [.one (.d (.int .i64 5)),.one (.d (aT l))] [] (xZ (doG l (l.all fun v=>isV v 2) false (rP (at_ l 0)))) []:=by
 refine enter af Tryz.func186 rfl (by decide +kernel) rfl fun hok w0 σ0 φ0 M=>?_
 have h1:=hok.2.1.sl.1; clear hok; simp only [List.length_map] at h1
 repeat' (first|(refine h1H ?_; (refine h0H ?_; first|refine aU 60 J J J J J J J J h226 J J J ?_|refine ae J J J J J J J J (FH _) J ?_|refine ae J J J J J J J J (nI _ _) J ?_))|(refine h3H ?_; (refine HK ?_; refine fz aq 10 J J J J J J ?_))|(refine h3H ?_; (refine h2H ?_; first|refine fz aq 11 J J J (iy (i:=10) J J J J J J J J (by simp) (by simp; omega) (Nat.le_of_ble_eq_true J)) J J ?_|refine Gm 40 (id:=11) J J J J J J J (Gs (l:=l) hl1 J (by simp)) (by simp) J J J ?_))|refine wG ?_|(refine h5H ?_; first|refine ai J (fun h=>?_) (fun h=>?_)|refine aY 5 J [(1,_),(4,_),(6,_),(22,_),(23,_)] (q5Q J J J J J) (fun (k : Nat)=>[(24,.one (.d (.int .i64 (k : Int))))]) (fun (k : Nat)=>k≤l.length∧l.all bA = (l.drop k).all bA) (fun (k : Nat)=>l.length - k) 0 (q1Q J) ?_ (fun k ⟨hk0,hq⟩=>?_)|refine aY 14 J [(1,_),(4,_),(6,_),(42,_),(43,_)] (q5Q J J J J J) (fun (j : Nat)=>[(44,.one (.d (.int .i64 (j : Int))))]) (fun (j : Nat)=>j≤l.length∧cu l = cu (l.drop j)) (fun (j : Nat)=>l.length - j) 0 (q1Q J) ?_ (fun j ⟨hk1,hq1⟩=>?_))|(show Exists _; first|refine Exists.intro (j + 1) ⟨?_,?_,wK,(q1Q J),(q5Q J J J J J)⟩|refine Exists.intro (k + 1) ⟨?_,?_,wK,(q1Q J),(q5Q J J J J J)⟩))
 ·exact ⟨Nat.zero_le _,rfl⟩
 ·have hlt : k < l.length:=by simpa using ‹decide ((k : Int) < ((l.map aN).length : Int)) = true›
  rw [FK (FI hq hlt h)]; rfl
 ·have hlt : k < l.length:=by simpa using ‹decide ((k : Int) < ((l.map aN).length : Int)) = true›
  exact ⟨hlt,FJ hq hlt h⟩
 ·have hlt : k < l.length:=by simpa using ‹decide ((k : Int) < ((l.map aN).length : Int)) = true›
  omega
 ·rw [FL (iv hq ‹decide ((k : Int) < ((l.map aN).length : Int)) = false›) h]; rfl
 ·exact ⟨Nat.zero_le _,rfl⟩
 ·have hlt : j < l.length:=by simpa using ‹decide ((j : Int) < ((l.map aN).length : Int)) = true›
  rw [wg (iv hq ‹decide ((k : Int) < ((l.map aN).length : Int)) = false›) ‹(!l.all fun v=>isV v 2) = false› rfl,hq1,ru hlt h]; rfl
 ·have hlt : j < l.length:=by simpa using ‹decide ((j : Int) < ((l.map aN).length : Int)) = true›
  exact ⟨hlt,hq1.trans (ry hlt h)⟩
 ·have hlt : j < l.length:=by simpa using ‹decide ((j : Int) < ((l.map aN).length : Int)) = true›
  omega
 ·rw [wg (iv hq ‹decide ((k : Int) < ((l.map aN).length : Int)) = false›) ‹(!l.all fun v=>isV v 2) = false› rfl,tY hq1 h]; rfl
end Go.Proofs.YtpejdgkaapnekaaGreat
namespace Go.Proofs.YtpejdgkaapnekaaGreat
open Go Go.Abs
def vP3(t : Bool×Nat×Nat) : Val:=vP t.1 t.2.1 t.2.2
def ngV(v : Val) : Bool:=decide (v.num < 0)
def naV(v : Val) : Nat:=v.num.natAbs
def dnV(v : Val) : Nat:=v.den.natAbs
def Ig(x y : Val)(minus : Bool) : Val:=vP3 (jm (ngV x) (naV x) (dnV x) (ngV y) (naV y) (dnV y) minus)
def MP(x y : Val) : Val:=vP3 (tX (ngV x != ngV y) (naV x * naV y) (dnV x * dnV y))
def EN(x y : Val) : Val:=if naV y = 0 then ⟨0,3,0,[]⟩ else vP3 (tX (ngV x != ngV y) (naV x * dnV y) (dnV x * naV y))
def Ih(x : Val) : Val:=vP (ngV x) (if ngV x = true∧naV x % dnV x≠0 then naV x / dnV x + 1 else naV x / dnV x) 1
def Ii(a b : Val) : Int:=if sgF a.kind b.kind≠0 then sgF a.kind b.kind else if a.kind = 2 then vZ (jm (ngV a) (naV a) (dnV a) (ngV b) (naV b) (dnV b) true) else if a.kind = 3 then sa a.str b.str else sgF a.num b.num
def MQ(op o : Int) : Bool:=if op = 13 then o == 0 else if op = 14 then o != 0 else if op = 15 then decide (o < 0) else if op = 16 then decide (o≤0) else if op = 17 then decide (0 < o) else decide (0≤o)
def rvF(op : Int)(l : List Val) : Val :=
 if op = 4 then bq ((at_ l 0).num == 0) else if op = 5 then rP (at_ l 0) else if op = 6 then Ih (at_ l 0) else if op = 7 then bq ((at_ l 0).kind == 0)
 else if op = 8 then ⟨2,if (at_ l 0).kind == 0 then (at_ l 0).num else 0,1,[]⟩ else if op = 9 then Ig (at_ l 0) (at_ l 1) false else if op = 10 then Ig (at_ l 0) (at_ l 1) true
 else if op = 11 then MP (at_ l 0) (at_ l 1) else if op = 12 then EN (at_ l 0) (at_ l 1) else if op≤18 then bq (MQ op (Ii (at_ l 0) (at_ l 1))) else if op = 19 then lz false l else if op = 20 then lz true l
 else if op = 21 then (if (at_ l 0).kind == 0 then at_ l 1 else at_ l 0) else (if (at_ l 0).kind == 0 then at_ l 0 else if (at_ l 0).num == 1 then at_ l 1 else at_ l 2)
def kdF(op : Int)(l : List Val) : Bool :=
 if op = 4∨op = 19∨op = 20 then l.all (fun v=>isV v 1) else if op = 5∨op = 6∨(9≤op∧op≤12) then l.all (fun v=>isV v 2) else if op = 7∨op = 8 then true
 else if op = 22 then isV (at_ l 0) 1 && kn (at_ l (l.length - 2)) (at_ l (l.length - 1)) else kn (at_ l (l.length - 2)) (at_ l (l.length - 1))
def frF(op : Int) : Bool:=op == 7 || op == 8 || decide (19≤op)
def doF(op : Int)(l : List Val) : Val×Int:=doG l (kdF op l) (frF op) (rvF op l)
theorem pr{v : Val}(h : bA v = true)(hk : v.kind = 2) : naV v≤1099511627776∧1≤dnV v∧dnV v≤1099511627776∧v.den = (dnV v : Int):=by
 unfold bA dH at h
 rw [hk] at h
 simp at h
 unfold naV dnV
 omega
theorem xX{n : Nat}(h : n < 79228162514264337593543950336) : dl n≤3:=Fy (w:=3) h
theorem xY{a1 b1 a2 b2 : Nat}(h1 : a1≤1099511627776)(h2 : 1≤b1∧b1≤1099511627776)(h3 : a2≤1099511627776)(h4 : 1≤b2∧b2≤1099511627776) : RatOk a1 b1 a2 b2:=by
 have hm : ∀ {x y : Nat},x≤1099511627776→y≤1099511627776→x * y≤1208925819614629174706176:=fun hx hy=>Nat.mul_le_mul hx hy
 have d : ∀ {x : Nat},x≤1099511627776→(dig x).length≤400:=fun hx=>Nat.le_trans (xX (Nat.lt_of_le_of_lt hx (Nat.lt_of_lt_of_le (show 1099511627776 < 1099511627777 from Nat.lt_succ_self _) (Nat.le_of_ble_eq_true rfl)))) (by omega)
 have p : ∀ {x : Nat},x≤2417851639229258349412352→dl x≤100:=fun hx=>Nat.le_trans (xX (Nat.lt_of_le_of_lt hx (Nat.lt_of_lt_of_le (Nat.lt_succ_self _) (Nat.le_of_ble_eq_true rfl)))) (by omega)
 have p1:=hm h1 h4.2
 have p2:=hm h3 h2.2
 have p3:=hm h2.2 h4.2
 have p5:=hm h1 h3
 have p6:=hm h2.2 h3
 exact ⟨by omega,by omega,d h1,d h2.2,d h3,d h4.2,p (by omega),p (by omega),p (by omega),p (by omega),p (by omega),p (by omega)⟩
theorem qf{v : Val}{k : Int}(h : isV v k = true)(h0 : ¬ v.kind = 0) : v.kind = k:=by
 unfold isV at h
 simp at h
 exact h.resolve_left h0
theorem kC{l : List Val}(h : cu l = none){i : Nat}(hi : i < l.length) : ¬ (at_ l i).kind = 0:=by
 have:=List.find?_eq_none.1 h (at_ l i) (dh hi)
 simpa using this
theorem sR{l : List Val}{p : Val→Bool}(h : l.all p = true){i : Nat}(hi : i < l.length) : p (at_ l i) = true:=List.all_eq_true.1 h _ (dh hi)
end Go.Proofs.YtpejdgkaapnekaaGreat
namespace Go.Proofs.YtpejdgkaapnekaaGreat
open Go Go.Abs
mutual
def dB(ds : List Dim)(ats : List Attr)(at' : List Int)(vs : List Val) : Scalar→Val
 | .mk o n v a=>if o = 1 then v else if o = 2 then at_ vs (atI ats n).toNat else if o = 3 then ⟨2,at_ at' (jr ds n).toNat,1,[]⟩ else (doF o (gQ ds ats at' vs a)).1
def gQ(ds : List Dim)(ats : List Attr)(at' : List Int)(vs : List Val) : List Scalar→List Val
 | []=>[]
 | x::r=>dB ds ats at' vs x::gQ ds ats at' vs r
end
section
variable {ds : List Dim} {ats : List Attr} {at' : List Int} {vs : List Val}
theorem qg : ∀ {s : Scalar},dB ds ats at' vs s = if s.op = 1 then s.val else if s.op = 2 then at_ vs (atI ats s.name).toNat else if s.op = 3 then ⟨2,at_ at' (jr ds s.name).toNat,1,[]⟩ else (doF s.op (gQ ds ats at' vs s.args)).1
 | .mk _ _ _ _=>by simp only [dB,Scalar.op,Scalar.name,Scalar.val,Scalar.args]; rfl
theorem vq : ∀ {l : List Scalar},(gQ ds ats at' vs l).length = l.length
 | []=>rfl
 | x::r=>by simp [gQ,vq (l:=r)]
def tT(ds : List Dim)(ats : List Attr)(x : Scalar) : Prop:=(x.op = 2→0≤atI ats x.name)∧(x.op = 3→0≤jr ds x.name)
theorem yb{cst : Val→Int} : ∀ {l : List Scalar} {ts : List Int},bB cst ds ats l = .inr ts→∀ x∈l,(bo cst ds ats x).2 = 0
 | [],_,_,x,hx=>by simp at hx
 | y::r,ts,h,x,hx=>by
   simp only [bB] at h
   split at h
   ·cases h
   ·rename_i h1
    split at h
    ·cases h
    ·rename_i l2 h2
     rcases List.mem_cons.1 hx with rfl | hx
     ·exact Decidable.not_not.1 h1
     ·exact yb h2 x hx
theorem vr : ∀ {l : List Scalar} {z : Scalar},z∈aD l→∃ x∈l,z∈aK x
 | [],z,h=>by simp [aD] at h
 | x::r,z,h=>by
   simp only [aD,List.mem_append] at h
   rcases h with h | h
   ·exact ⟨x,List.mem_cons_self,h⟩
   ·obtain ⟨y,h1,h2⟩:=vr h
    exact ⟨y,List.mem_cons_of_mem _ h1,h2⟩
theorem HR{cst : Val→Int}(s : Scalar) : cI s = true→(bo cst ds ats s).2 = 0→∀ z∈aK s,tT ds ats z:=by
 induction s using Scalar.ind with
 | h s ih =>
   intro hp h z hz
   rw [fy,Bool.and_eq_true] at hp
   rw [dA,List.mem_append] at hz
   rw [gN] at h
   by_cases h3 : s.op = 1∨s.op = 2∨s.op = 3
   ·have ha : s.args = []:=rD hp.1 h3
    rw [ha] at hz
    have hz : z = s:=by
     rcases hz with hz | hz
     ·simp [aD] at hz
     ·simpa using hz
    subst hz
    refine ⟨fun h2=>?_,fun h2=>?_⟩
    ·rw [if_neg (by omega),if_pos h2] at h
     unfold ig at h
     refine Int.not_lt.1 fun hc=>?_
     rw [if_pos hc] at h; simp at h
    ·rw [if_neg (by omega),if_neg (by omega),if_pos h2] at h
     unfold js at h
     refine Int.not_lt.1 fun hc=>?_
     rw [if_pos hc] at h; simp at h
   ·rw [if_neg (fun h=>h3 (.inl h)),if_neg (fun h=>h3 (.inr (.inl h))),if_neg (fun h=>h3 (.inr (.inr h)))] at h
    rcases hz with hz | hz
    ·obtain ⟨x,hx,hzx⟩:=vr hz
     cases ht : bB cst ds ats s.args with
     | inl e =>
       rw [ht] at h
       have he : e = 0:=h
       exfalso
       have : ∀ {l : List Scalar} {e : Int},bB cst ds ats l = .inl e→e≠0:=by
        intro l
        induction l with
        | nil=>intro e h; simp [bB] at h
        | cons y r ihl =>
          intro e h
          simp only [bB] at h
          split at h
          ·rename_i h1; cases h; exact h1
          ·split at h
           ·rename_i e2 h2; cases h; exact ihl h2
           ·cases h
       exact this ht he
     | inr ts=>exact ih x hx (fD hp.2 x hx) (yb ht x hx) z hzx
    ·have hz : z = s:=by simpa using hz
     subst hz
     exact ⟨fun h2=>absurd (.inr (.inl h2)) h3,fun h2=>absurd (.inr (.inr h2)) h3⟩
def ej(ds : List Dim)(ats : List Attr)(at' : List Int)(vs : List Val)(l : List Val)(x : Scalar) : Bool×List Val :=
 (true,if x.op = 1 then l ++ [x.val] else if x.op = 2 then l ++ [at_ vs (atI ats x.name).toNat] else if x.op = 3 then l ++ [⟨2,at_ at' (jr ds x.name).toNat,1,[]⟩] else
  l.take (l.length - x.args.length) ++ [(doF x.op (l.drop (l.length - x.args.length))).1])
def sU(ds : List Dim)(ats : List Attr)(l : List Val)(x : Scalar) : Prop:=tT ds ats x∧cL x = true∧l.length≤64∧(4≤x.op→x.args.length≤l.length)
theorem ov{α β : Type}{F : α→β→Bool×α}{ok : α→β→Prop} : ∀ {l m : List β} {a : α},cF F ok l a→((bn F l a).1 = true→cF F ok m (bn F l a).2)→cF F ok (l ++ m) a
 | [],_,_,_,h=>h rfl
 | x::l,m,a,h1,h2=>by
   simp only [List.cons_append,cF] at h1 ⊢
   refine ⟨h1.1,fun hx=>ov (h1.2 hx) fun h=>?_⟩
   have e : bn F (x::l) a = bn F l (F a x).2:=by simp only [bn]; rw [if_pos hx]
   rw [e] at h2; exact h2 h
theorem sV : ∀ {r : List Scalar},
  (∀ x∈r,∀ l : List Val,l.length + (aK x).length≤65→cF (ej ds ats at' vs) (sU ds ats) (aK x) l∧bn (ej ds ats at' vs) (aK x) l = (true,l ++ [dB ds ats at' vs x])) →
  ∀ l : List Val,l.length + (aD r).length≤65→cF (ej ds ats at' vs) (sU ds ats) (aD r) l∧bn (ej ds ats at' vs) (aD r) l = (true,l ++ gQ ds ats at' vs r)
 | [],_,l,hl=>⟨trivial,by simp [gQ,aD,bn]⟩
 | x::r,h,l,hl=>by
   have hp : 1≤(aK x).length:=by rw [dA]; simp
   simp only [aD,List.length_append] at hl
   obtain ⟨h1,h2⟩:=h x (by simp) l (by omega)
   simp only [aD,gQ]
   have ih:=sV (r:=r) (fun y hy=>h y (List.mem_cons_of_mem _ hy)) (l ++ [dB ds ats at' vs x]) (by simp; omega)
   rw [ee,h2]
   refine ⟨ov h1 (fun _=>by rw [h2]; exact ih.1),?_⟩
   simp only [if_true]
   rw [ih.2]; simp
theorem Jk(s : Scalar) : cI s = true→(∀ z∈aK s,tT ds ats z)→∀ l : List Val,l.length + (aK s).length≤65→cF (ej ds ats at' vs) (sU ds ats) (aK s) l∧bn (ej ds ats at' vs) (aK s) l = (true,l ++ [dB ds ats at' vs s]):=by
 induction s using Scalar.ind with
 | h s ih =>
   intro hp hn l hl
   rw [fy,Bool.and_eq_true] at hp
   have hmem : ∀ x∈s.args,∀ z∈aK x,z∈aK s:=by
    intro x hx z hz
    rw [dA,List.mem_append]
    refine .inl ?_
    have : ∀ {r : List Scalar},x∈r→z∈aD r:=by
     intro r
     induction r with
     | nil=>intro h; simp at h
     | cons y r ihr =>
       intro h
       simp only [aD,List.mem_append]
       rcases List.mem_cons.1 h with rfl | h
       ·exact .inl hz
       ·exact .inr (ihr h)
    exact this hx
   have hL:=sV (ds:=ds) (ats:=ats) (at':=at') (vs:=vs) (r:=s.args) (fun x hx l hl=>ih x hx (fD hp.2 x hx) (fun z hz=>hn z (hmem x hx z hz)) l hl)
   have hns : tT ds ats s:=hn s (by rw [dA]; simp)
   rw [dA] at hl ⊢
   simp only [List.length_append,List.length_cons,List.length_nil] at hl
   by_cases h3 : s.op = 1∨s.op = 2∨s.op = 3
   ·have ha : s.args = []:=rD hp.1 h3
    have hok : sU ds ats l s:=⟨hns,hp.1,by omega,fun h=>by omega⟩
    have hF : ej ds ats at' vs l s = (true,l ++ [dB ds ats at' vs s]):=by
     rw [qg]; simp only [ej]
     rcases h3 with h3 | h3 | h3 <;> simp [h3]
    rw [ha]
    simp only [aD,List.nil_append,cF,bn]
    rw [hF]
    exact ⟨⟨hok,fun _=>trivial⟩,by simp⟩
   ·obtain ⟨hop,hlen⟩:=ku hp.1 (fun h=>h3 (.inl h)) (fun h=>h3 (.inr (.inl h))) (fun h=>h3 (.inr (.inr h)))
    obtain ⟨h4,h5⟩:=hL l (by omega)
    have hts:=vq (ds:=ds) (ats:=ats) (at':=at') (vs:=vs) (l:=s.args)
    have hle:=kQ (r:=s.args)
    have hd : (l ++ gQ ds ats at' vs s.args).length - s.args.length = l.length:=by simp [hts]
    have hF : ej ds ats at' vs (l ++ gQ ds ats at' vs s.args) s = (true,l ++ [dB ds ats at' vs s]):=by
     simp only [ej]
     rw [if_neg (fun h=>h3 (.inl h)),if_neg (fun h=>h3 (.inr (.inl h))),if_neg (fun h=>h3 (.inr (.inr h))),hd,qg,if_neg (fun h=>h3 (.inl h)),if_neg (fun h=>h3 (.inr (.inl h))),if_neg (fun h=>h3 (.inr (.inr h)))]
     simp
    refine ⟨ov h4 (fun _=>?_),?_⟩
    ·rw [h5]
     exact ⟨⟨hns,hp.1,by simp [hts]; omega,fun _=>by simp [hts]⟩,fun _=>trivial⟩
    ·rw [ee,h5]
     simp only [if_true,bn,hF]
end
end Go.Proofs.YtpejdgkaapnekaaGreat
namespace Go.Proofs.YtpejdgkaapnekaaGreat
open Go Go.Abs
theorem nk{m n : Nat}(hn : n≠0) : n / Nat.gcd m n≠0:=by
 have hp:=Nat.pos_of_ne_zero hn
 exact Nat.ne_of_gt (Nat.div_pos (Nat.le_of_dvd hp (Nat.gcd_dvd_right m n)) (Nat.gcd_pos_of_pos_right m hp))
theorem yy{s1 s2 minus : Bool}{a1 b1 a2 b2 : Nat}(h1 : b1≠0)(h2 : b2≠0) : (jm s1 a1 b1 s2 a2 b2 minus).2.2≠0:=by
 have h:=Nat.mul_ne_zero h1 h2
 unfold jm tX
 split
 ·exact nk h
 ·split
  ·exact nk h
  ·exact nk h
structure NumOk (v : Val) : Prop where
 a : naV v≤1099511627776
 b : 1≤dnV v∧dnV v≤1099511627776
theorem kV{l : List Val}(hall : l.all bA = true)(hk : l.all (fun v=>isV v 2) = true)(hm : cu l = none){i : Nat}(hi : i < l.length) : NumOk (at_ l i):=by
 have h1:=sR hall hi
 have h2:=qf (sR hk hi) (kC hm hi)
 obtain ⟨q1,q2,q3,_⟩:=pr h1 h2
 exact ⟨q1,q2,q3⟩
theorem NumOk.rat{x y : Val}(h : NumOk x)(h' : NumOk y) : RatOk (naV x) (dnV x) (naV y) (dnV y):=xY h.a h.b h'.a h'.b
theorem dC{p : Prop}(h : false = true∨p) : p:=h.resolve_left (by simp)
theorem BL(l : List Val)(hl : 2≤l.length)(f : FuncId)(t : Bool×Nat×Nat)(hb : t.2.2≠0)(hf : CallA Tryz.prog f [.one (.d (ly (at_ l 0))),.one (.d (ly (at_ l 1)))] [] (.one (.d (b4 t.1 t.2.1 t.2.2))) []) :
  CallA Tryz.prog 358 [.one (.d (aT l)),.one (.d (.ptr [.fn f []]))] [] (bu (vP3 t)) []:=NY l hl f _ _ _ hb hf
theorem ID(s1 : Bool)(a1 b1 : Nat)(s2 : Bool)(a2 b2 : Nat)(hz : a2 = 0)(h1 : b1≠0)(h2 : b2≠0) : CallA Tryz.prog 362 [.one (.d (b4 s1 a1 b1)),.one (.d (b4 s2 a2 b2))] [] (.tup [(false,[.d (.raw (.pointer none))]),(false,[.d (.int .i64 2)])]) []:=by
 subst hz; exact Jd s1 a1 b1 s2 b2 h1 h2
theorem NZ(op : Int)(l : List Val)(hop : 4≤op∧op≤22)(hl : (l.length : Int) = dS op) : CallA Tryz.prog 186 [.one (.d (.int .i64 op)),.one (.d (aT l))] [] (xZ (doF op l)) []:=by
 have hlen : ∀ n : Int,(l.length : Int) = n→(((l.map aN).length : Nat) : Int) = n:=by intro n h; simpa using h
 have cmpc : ∀ {f : FuncId} (g : Int→Bool),l.length = 2→(∀ o : Int,CallA Tryz.prog f [.one (.d (.int .i64 o))] [] (.one (.d (.bool (g o)))) [])→l.all bA = true→kn (at_ l (l.length - 2)) (at_ l (l.length - 1)) = true→cu l = none →
   CallA Tryz.prog 364 [.one (.d (aT l)),.one (.d (.ptr [.fn f []]))] [] (bu (bq (g (Ii (at_ l 0) (at_ l 1))))) []:=by
  intro f g h2 hf hall hal hm
  rw [h2] at hal
  refine Ki l f g (by omega) (fun hk=>?_) hf
  have k0:=kC hm (i:=0) (by omega)
  have k1:=kC hm (i:=1) (by omega)
  have hkk : (at_ l 1).kind = 2:=by
   unfold kn at hal
   have : isV (at_ l 1) (at_ l 0).kind = true:=by
    rcases Bool.or_eq_true _ _ ▸ hal with h | h
    ·exact absurd (by simpa using h) k0
    ·exact h
   rw [hk] at this
   exact qf this k1
  obtain ⟨q1,q2,q3,_⟩:=pr (sR hall (i:=0) (by omega)) hk
  obtain ⟨r1,r2,r3,_⟩:=pr (sR hall (i:=1) (by omega)) hkk
  exact xY q1 ⟨q2,q3⟩ r1 ⟨r2,r3⟩
 unfold doF
 rcases rN hop with rfl | rfl | rfl | rfl | rfl | rfl | rfl | rfl | rfl | rfl | rfl | rfl | rfl | rfl | rfl | rfl | rfl | rfl | rfl <;> simp [dS] at hl
 ·exact ey _ l (by omega) _ _ _ _ _ _ _ _ _ _ (by rw [hlen 1 (by omega)]; exact CV) (fun _=>nI l 1) (fun _ _ _=>J2 l (by omega))
 ·exact Gt l (by omega) (by omega) (by rw [hlen 1 (by omega)]; exact CW)
 ·refine ey _ l (by omega) _ _ _ _ _ _ _ _ _ _ (by rw [hlen 1 (by omega)]; exact CX) (fun _=>nI l 2) (fun hall hk hf=>?_)
  have n0:=kV hall hk (dC hf) (i:=0) (by omega)
  have r:=n0.rat n0
  exact N1 l (by omega) r.h1 (Nat.le_trans (iR (Nat.le_mul_of_pos_right _ n0.b.1)) r.m1) (Nat.le_trans (iR (Nat.le_mul_of_pos_right _ n0.b.1)) r.m3) (Nat.le_trans (iR (Nat.div_le_self _ _)) r.l1)
 ·exact ey _ l (by omega) _ _ _ _ _ _ _ _ _ _ (by rw [hlen 1 (by omega)]; exact CY) (fun _=>Hf _) (fun _ _ _=>J3 l (by omega))
 ·exact ey _ l (by omega) _ _ _ _ _ _ _ _ _ _ (by rw [hlen 1 (by omega)]; exact CZ) (fun _=>Hf _) (fun _ _ _=>J4 l (by omega))
 ·refine ey _ l (by omega) _ _ _ _ _ _ _ _ _ _ (by rw [hlen 2 (by omega)]; exact C6) (fun _=>nI l 2) (fun hall hk hf=>?_)
  have r:=(kV hall hk (dC hf) (i:=0) (by omega)).rat (kV hall hk (dC hf) (i:=1) (by omega))
  exact BL l (by omega) 321 _ (yy r.h1 r.h2) (by rw [← yi]; exact Li tB _ _ _ _ _ _ r)
 ·refine ey _ l (by omega) _ _ _ _ _ _ _ _ _ _ (by rw [hlen 2 (by omega)]; exact zO) (fun _=>nI l 2) (fun hall hk hf=>?_)
  have r:=(kV hall hk (dC hf) (i:=0) (by omega)).rat (kV hall hk (dC hf) (i:=1) (by omega))
  exact BL l (by omega) 322 _ (yy r.h1 r.h2) (by rw [← yi]; exact HO tB _ _ _ _ _ _ r)
 ·refine ey _ l (by omega) _ _ _ _ _ _ _ _ _ _ (by rw [hlen 2 (by omega)]; exact zP) (fun _=>nI l 2) (fun hall hk hf=>?_)
  have r:=(kV hall hk (dC hf) (i:=0) (by omega)).rat (kV hall hk (dC hf) (i:=1) (by omega))
  exact BL l (by omega) 323 _ (nk (Nat.mul_ne_zero r.h1 r.h2)) (Lj tB _ _ _ _ _ _ r)
 ·refine ey _ l (by omega) _ _ _ _ _ _ _ _ _ _ (by rw [hlen 2 (by omega)]; exact zQ) (fun _=>nI l 2) (fun hall hk hf=>?_)
  have r:=(kV hall hk (dC hf) (i:=0) (by omega)).rat (kV hall hk (dC hf) (i:=1) (by omega))
  show CallA Tryz.prog 324 _ [] (bu (EN (at_ l 0) (at_ l 1))) []
  unfold EN
  by_cases h0 : naV (at_ l 1) = 0
  ·rw [if_pos h0]
   refine Jr l (by omega) ?_
   exact ID _ _ _ _ _ _ h0 r.h1 r.h2
  ·rw [if_neg h0]
   exact Js l (by omega) _ _ _ (nk (Nat.mul_ne_zero r.h1 h0)) (Lk tB _ _ _ _ _ _ r h0)
 ·exact ey _ l (by omega) _ _ _ _ _ _ _ _ _ _ (by rw [hlen 2 (by omega)]; exact zR) (fun _=>oM l (by omega)) (fun hall hk hf=>cmpc (fun o=>o == 0) (by omega) JW hall hk (dC hf))
 ·exact ey _ l (by omega) _ _ _ _ _ _ _ _ _ _ (by rw [hlen 2 (by omega)]; exact zS) (fun _=>oM l (by omega)) (fun hall hk hf=>cmpc (fun o=>o != 0) (by omega) JX hall hk (dC hf))
 ·exact ey _ l (by omega) _ _ _ _ _ _ _ _ _ _ (by rw [hlen 2 (by omega)]; exact zT) (fun _=>oM l (by omega)) (fun hall hk hf=>cmpc (fun o=>decide (o < 0)) (by omega) JY hall hk (dC hf))
 ·exact ey _ l (by omega) _ _ _ _ _ _ _ _ _ _ (by rw [hlen 2 (by omega)]; exact zU) (fun _=>oM l (by omega)) (fun hall hk hf=>cmpc (fun o=>decide (o≤0)) (by omega) JZ hall hk (dC hf))
 ·exact ey _ l (by omega) _ _ _ _ _ _ _ _ _ _ (by rw [hlen 2 (by omega)]; exact zV) (fun _=>oM l (by omega)) (fun hall hk hf=>cmpc (fun o=>decide (0 < o)) (by omega) J0 hall hk (dC hf))
 ·exact ey _ l (by omega) _ _ _ _ _ _ _ _ _ _ (by rw [hlen 2 (by omega)]; exact zW) (fun _=>oM l (by omega)) (fun hall hk hf=>cmpc (fun o=>decide (0≤o)) (by omega) J1 hall hk (dC hf))
 ·exact ey _ l (by omega) _ _ _ _ _ _ _ _ _ _ (by rw [hlen 2 (by omega)]; exact zX) (fun _=>nI l 1) (fun _ _ _=>Hm l false (by omega))
 ·exact ey _ l (by omega) _ _ _ _ _ _ _ _ _ _ (by rw [hlen 2 (by omega)]; exact zY) (fun _=>nI l 1) (fun _ _ _=>Hm l true (by omega))
 ·exact ey _ l (by omega) _ _ _ _ _ _ _ _ _ _ (by rw [hlen 2 (by omega)]; exact zZ) (fun _=>oM l (by omega)) (fun _ _ _=>J5 l (by omega))
 ·exact ey _ l (by omega) _ _ _ _ _ _ _ _ _ _ (by rw [hlen 3 (by omega)]; exact z1) (fun _=>J7 l (by omega)) (fun _ _ _=>J6 l (by omega))
end Go.Proofs.YtpejdgkaapnekaaGreat
namespace Go.Proofs.YtpejdgkaapnekaaGreat
open Go Go.Abs
attribute [local irreducible] aa OkC ak ar al ax
set_option maxRecDepth 10000
theorem BJ{op : Int}(h : 1≤op∧op≤22) : op = 1∨op = 2∨op = 3∨op = 4∨op = 5∨op = 6∨op = 7∨op = 8∨op = 9∨op = 10∨op = 11∨op = 12∨op = 13∨op = 14∨op = 15∨op = 16∨op = 17∨op = 18∨op = 19∨op = 20∨op = 21∨op = 22:=by omega
theorem Iz{op : Int}(h : 1≤op∧op≤22) : wN env.T 208 (some (.one (.d (.int .i64 op)))) (some (.agg xK)) = some (.agg [.d (.int .i64 (dS op)),.d (.bool (decide (op = 2) || decide (op = 3))),.d (.bool (decide (op = 1)))]):=by
 rcases BJ h with rfl | rfl | rfl | rfl | rfl | rfl | rfl | rfl | rfl | rfl | rfl | rfl | rfl | rfl | rfl | rfl | rfl | rfl | rfl | rfl | rfl | rfl <;> rfl
theorem NU(s : Scalar) : CallA Tryz.prog 173 [cB s] [] (.one (.d (.bool (cL s)))) []:=by
 refine enter af Tryz.func173 rfl (by decide +kernel) rfl fun hok w0 σ0 φ0 M=>?_
 clear hok
 repeat' (first|(refine h1H ?_; (refine h0H ?_; refine ae J J J J J J J J (K9 _ _ _ _) J ?_))|(refine h3H ?_; (refine KR ?_; refine d_e aq J J J (wM J J J J (Iz wB)) ?_))|(refine h3H ?_; (refine h2H ?_; refine d_l J J (bg J J J J J J (LQ) J) ?_))|refine wG ?_|(refine h1H ?_; (refine h4H ?_; refine aC J J J J (fun h=>?_) (fun h=>?_)))|(refine h5H ?_; refine ai J (fun h=>?_) (fun h=>?_)))
 all_goals (try rw [nS] at *)
 all_goals (try (((simp_all [cL,dS,nS,aj,List.drop_eq_nil_of_le]) <;> exact wL); done))
end Go.Proofs.YtpejdgkaapnekaaGreat
namespace Go.Proofs.YtpejdgkaapnekaaGreat
open Go Go.Abs
attribute [local irreducible] aa OkC ak ar al ax OkR sd cr iM wO
set_option maxRecDepth 10000
def A7(d : Bool) : LoopState:=if d then .done else .ready
def tN(d : Bool) : Option Code:=if d then some .ret else none
def kW(li : LI)(fr : List (Nat×AV))(a : Int×Bool×Bool) : Sto :=
 [(1000000,.loop li fr (A7 a.2.2) (tN a.2.2)),(1000001,.box [.d (.int .i64 (if a.2.2 then 9 else 0))]),(1000002,.box [.d (.int .i64 a.1)]),(1000003,.box [.d (.bool a.2.1)])]
def F87(a : Int×Bool×Bool)(x : Scalar) : Bool×(Int×Bool×Bool):=if 64 < a.1 + 1 then (false,(a.1 + 1,a.2.1,true)) else (true,(a.1 + 1,a.2.1 && cL x,false))
def BQ(a : Int×Bool×Bool)(x : Scalar) : Prop:=a.2.2 = false∧0≤a.1∧a.1≤64
theorem yK : ∀ (l : List Scalar) (n : Int) (r : Bool),0≤n→n≤64→cF F87 BQ l (n,r,false)∧kE l n r = (if (bn F87 l (n,r,false)).2.2.2 = true then 9 else if (bn F87 l (n,r,false)).2.2.1 = true then 0 else 2)
 | [],n,r,h0,h1=>⟨trivial,rfl⟩
 | x::l,n,r,h0,h1=>by
   simp only [cF,bn,kE,F87,BQ]
   by_cases h : 64 < n + 1
   ·simp only [h,if_true]
    exact ⟨⟨⟨trivial,h0,h1⟩,fun h=>by cases h⟩,rfl⟩
   ·have ih:=yK l (n + 1) (r && cL x) (by omega) (by omega)
    simp only [h,if_false,if_true]
    exact ⟨⟨⟨trivial,h0,h1⟩,fun _=>ih.1⟩,ih.2⟩
theorem Jv(li : LI)(fr : List (Nat×AV))(hf : ∀ a,gW (kW li fr a) fr = true) : FamW (kW li fr):=by
 refine ⟨fun a i e h=>?_,fun a=>?_,fun a=>⟨li,fr,A7 a.2.2,tN a.2.2,rfl⟩,fun a=>rfl⟩
 ·unfold kW at h
  rcases ag h with ⟨rfl,_⟩ | ⟨_,h⟩
  ·omega
  rcases ag h with ⟨rfl,_⟩ | ⟨_,h⟩
  ·omega
  rcases ag h with ⟨rfl,_⟩ | ⟨_,h⟩
  ·omega
  rcases ag h with ⟨rfl,_⟩ | ⟨_,h⟩
  ·omega
  ·exact nomatch h
 ·show (gW (kW li fr a) fr && _) = true
  rw [hf a]; rfl
theorem y87{li : LI}{fr : List (Nat×AV)}(a : Int×Bool×Bool)(x : Scalar)(hok : BQ a x)
  (hps : (hU li.n li.params.toList && Nat.beq li.params.toList.length 1) = true)
  (h : ∀ (n : Int) (r : Bool),0≤n→n≤64→∀ (w0 : World) (σ0 : Sig) (φ0 : Pl) (M : Nat→Prop) (B : Nat),OkC Tryz.prog ⟨w0,σ0,φ0,M,li.n,some B,[]⟩ li.assign ⟨ff li.params.toList [cB x] fr,kW li fr (n,r,false)⟩
   (iM Tryz.prog 1000000 ⟨w0,σ0,φ0,M,li.n,some B,[]⟩ li.body (.one (.d (.bool (F87 (n,r,false) x).1))) (kW li fr (F87 (n,r,false) x).2))) :
  YieldA Tryz.prog 1000000 [cB x] (kW li fr a) (.one (.d (.bool (F87 a x).1))) (kW li fr (F87 a x).2):=by
 obtain ⟨n,r,d⟩:=a
 obtain ⟨rfl,h0,h1⟩ : d = false∧0≤n∧n≤64:=hok
 exact oQ ⟨by omega,by omega⟩ rfl hps (h n r h0 h1)
theorem c87(s : Scalar) : CallA Tryz.prog 87 [cB s] [] (.one (.d (.int .i64 (dn s)))) []:=by
 obtain ⟨h0,hform⟩:=yK (aK s) 0 true (by omega) (by omega)
 obtain ⟨⟨n',r',d'⟩,hR⟩ : ∃ a,(bn F87 (aK s) (0,true,false)).2 = a:=⟨_,rfl⟩
 rw [hR] at hform
 refine enter af Tryz.func87 rfl (by decide +kernel) rfl fun hok w0 σ0 φ0 M=>?_
 clear hok
 repeat' (first|(refine h1H ?_; (refine h0H ?_; first|refine ae J J J J J J J J (HN 12 s 12 J (by omega)) J ?_|refine aU 16 J J J J J J J J (EC _) J J J ?_))|refine wG ?_|(refine h5H ?_; refine ai J (fun h=>?_) (fun h=>?_)))
 ·simp [dn,h]
 ·have hC:=fun li fr hf hY=>ED (kW li fr) (Jv li fr hf) F87 BQ hY s (0,true,false) h0
  rw [hR] at hC
  refine oN (f:=216) (caps:=[.ptr (gS s)]) (os:=[(1,.box [.d (.int .i64 0)]),(2,.box [.d (.int .i64 0)]),(3,.box [.d (.bool true)])]) (rav:=.tup []) [1,2,3] 10 rfl rfl rfl rfl (hC _ _ (fun a=>?_) (fun a x hok=>?_)) (by cases d' <;> rfl) (fun h=>?_) (fun h=>?_)
  ·rfl
  ·refine y87 a x hok rfl fun n r hn0 hn1 w0 σ0 φ0 M B=>?_
   clear hC hform hok a
   by_cases hb : 64 < n + 1
   ·have e : F87 (n,r,false) x = (false,(n + 1,r,true)):=by simp [F87,hb]
    have hd : decide (64 < n + 1) = true:=by simp [hb]
    rw [e]
    repeat' (first|refine wG ?_|(show cr _ _ _ _ _; refine mP J J ?_ ?_))
    ·rfl
    ·exact ah rfl (q3Q rfl rfl rfl)
   ·have e : F87 (n,r,false) x = (true,(n + 1,r && cL x,false)):=by simp [F87,hb]
    have hd : decide (64 < n + 1) = false:=by simp [hb]
    rw [e]
    cases r
    all_goals
     repeat' (first|(refine h1H ?_; (refine h0H ?_; refine ae J J J J J J J J (NU _) J ?_))|refine wG ?_|(show cr _ _ _ _ _; refine fe J ?_ ?_))
     all_goals first | rfl | refine ah ?_ (ah ?_ (ah ?_ (ah ?_ aS)))
     all_goals first | rfl | trace_state
  ·have : d' = false:=by cases d' <;> simp [tN] at h ⊢
   subst this
   rintro ⟨w1,σ1,φ1,M1,n1,rd1,mk1⟩ ⟨hn,hrd,_⟩
   dsimp only at hn hrd
   subst hn hrd
   repeat' (first|refine wG ?_|(refine h5H ?_; refine ai J (fun h=>?_) (fun h=>?_)))
   all_goals simp_all [dn]
  ·have : d' = true:=by cases d' <;> simp [tN] at h ⊢
   subst this
   repeat' (first|refine wG ?_)
   have hf : dn s = 9:=by rw [dn,hform]; simp_all
   rw [hf]; rfl
def iA(li : LI)(fr : List (Nat×AV))(A : List D)(r : Nat)(a : List Int×Bool×Int) : Sto :=
 [(1000000,.loop li fr (A7 a.2.1) (tN a.2.1)),(1000001,.box (A.map .d)),(1000002,.box [.d (.int .i64 0)]),(1000003,.box [.d (.int .i64 a.2.2)]),(1000004,.box [.own r a.1.length]),(r,.row 1 8 (a.1.map aO))]
theorem n5{s : Sto} : ∀ {A : List D},dK s (A.map .d) = true
 | []=>rfl
 | x::r=>by simp only [List.map_cons,dK,bw,n5 (A:=r),Bool.and_self]
theorem Jc(li : LI)(fr : List (Nat×AV))(A : List D)(hf : ∀ a,gW (iA li fr A 2000000 a) fr = true) : FamW (iA li fr A 2000000):=by
 refine ⟨fun a i e h=>?_,fun a=>?_,fun a=>⟨li,fr,A7 a.2.1,tN a.2.1,rfl⟩,fun a=>rfl⟩
 ·unfold iA at h
  rcases ag h with ⟨rfl,_⟩ | ⟨_,h⟩
  ·omega
  rcases ag h with ⟨rfl,_⟩ | ⟨_,h⟩
  ·omega
  rcases ag h with ⟨rfl,_⟩ | ⟨_,h⟩
  ·omega
  rcases ag h with ⟨rfl,_⟩ | ⟨_,h⟩
  ·omega
  rcases ag h with ⟨rfl,_⟩ | ⟨_,h⟩
  ·omega
  rcases ag h with ⟨rfl,_⟩ | ⟨_,h⟩
  ·omega
  ·exact nomatch h
 ·show (gW (iA li fr A 2000000 a) fr && (dK (iA li fr A 2000000 a) (A.map .d) && _)) = true
  rw [hf a,n5]; rfl
theorem y88{li : LI}{fr : List (Nat×AV)}{A : List D}(ds : List Dim)(ats : List Attr)(a : List Int×Bool×Int)(x : Scalar)(hok : nV a x)
  (hps : (hU li.n li.params.toList && Nat.beq li.params.toList.length 1) = true)
  (h : ∀ (l : List Int),l.length≤64→(4≤x.op→x.args.length≤l.length)→cL x = true→∀ (w0 : World) (σ0 : Sig) (φ0 : Pl) (M : Nat→Prop) (B : Nat),OkC Tryz.prog ⟨w0,σ0,φ0,M,li.n,some B,[]⟩ li.assign ⟨ff li.params.toList [cB x] fr,iA li fr A 2000000 (l,false,0)⟩
   (iM Tryz.prog 1000000 ⟨w0,σ0,φ0,M,li.n,some B,[]⟩ li.body (.one (.d (.bool (F88 ds ats (l,false,0) x).1))) (iA li fr A 2000000 (F88 ds ats (l,false,0) x).2))) :
  YieldA Tryz.prog 1000000 [cB x] (iA li fr A 2000000 a) (.one (.d (.bool (F88 ds ats a x).1))) (iA li fr A 2000000 (F88 ds ats a x).2):=by
 obtain ⟨l,d,e⟩:=a
 obtain ⟨rfl,rfl,hp,h64,hargs⟩ : d = false∧e = 0∧cL x = true∧l.length≤64∧(4≤x.op→x.args.length≤l.length):=hok
 exact oQ ⟨by omega,by omega⟩ rfl hps (h l h64 hargs hp)
def q88(i : Nat) : Nat:=bif Nat.beq i 1000005 then 2000000 else i
def p88(i : Nat) : Nat:=bif Nat.beq i 2000000 then 5 else i
theorem xu{sto : Sto}{li : LI}{fr : List (Nat×AV)}{A : List D}{l : List Int}{t : Int}{m : Nat}(hm : m≤l.length)(h1 : Abs.look sto 1000000 = some (.loop li fr .ready none))(h2 : Abs.look sto 1000001 = some (.box (A.map .d)))(h3 : Abs.look sto 1000002 = some (.box [.d (.int .i64 0)]))
  (h4 : Abs.look sto 1000003 = some (.box [.d (.int .i64 0)])) (h5 : Abs.look sto 1000004 = some (.box [.own 2000000 (m + 1)])) (h6 : Abs.look sto 2000000 = some (.row 1 8 ((l.map aO).take m ++ [[.int .i64 t]]))) : SubL sto (iA li fr A 2000000 (l.take m ++ [t],false,0)):=by
 refine ⟨h1,h2,h3,h4,?_,?_,trivial⟩
 ·rw [h5]; simp [Nat.min_eq_left hm]
 ·rw [h6]; simp [aO,List.map_take]
theorem A8{sto : Sto}{li : LI}{fr : List (Nat×AV)}{A : List D}{l : List Int}{t : Int}(h1 : Abs.look sto 1000000 = some (.loop li fr .ready none))(h2 : Abs.look sto 1000001 = some (.box (A.map .d)))(h3 : Abs.look sto 1000002 = some (.box [.d (.int .i64 0)]))
  (h4 : Abs.look sto 1000003 = some (.box [.d (.int .i64 0)])) (h5 : Abs.look sto 1000004 = some (.box [.own 2000000 (l.length + 1)])) (h6 : Abs.look sto 2000000 = some (.row 1 8 ((l.map aO).take l.length ++ [[.int .i64 t]]))) : SubL sto (iA li fr A 2000000 (l ++ [t],false,0)):=by
 have:=xu (Nat.le_refl _) h1 h2 h3 h4 h5 h6
 rwa [List.take_length] at this
set_option maxHeartbeats 4000000 in
theorem c88(ds : List Dim)(ats : List Attr)(cs : D)(s : Scalar)(hp : cI s = true)(hsz : (aK s).length≤64) : CallA Tryz.prog 88 [.agg [.d (aJ ds),.d (aF ats),.d cs],cB s] [] (ie (bo bK ds ats s)) []:=by
 obtain ⟨h0,hrun⟩:=KM (ds:=ds) (ats:=ats) s hp [] (by simp; omega)
 obtain ⟨⟨l',d',e'⟩,hR⟩ : ∃ a,(bn (F88 ds ats) (aK s) ([],false,0)).2 = a:=⟨_,rfl⟩
 have hend : (d' = true∧e' = (bo bK ds ats s).2∧e'≠0)∨(d' = false∧e' = 0∧(bo bK ds ats s).2 = 0∧l' = [(bo bK ds ats s).1]):=by
  by_cases hz : (bo bK ds ats s).2 = 0
  ·rw [if_pos hz] at hrun
   rw [hrun] at hR
   cases hR
   exact .inr ⟨rfl,rfl,hz,rfl⟩
  ·rw [if_neg hz] at hrun
   obtain ⟨l2,hrun⟩:=hrun
   rw [hrun] at hR
   cases hR
   exact .inl ⟨rfl,rfl,hz⟩
 refine enter af Tryz.func88 rfl (by decide +kernel) rfl fun hok w0 σ0 φ0 M=>?_
 have hats : ats.length < 281474976710656:=by
  have:=(OkD.sl (hok.1 (.d (aF ats)) (by simp))).1; simpa using this
 clear hok
 repeat' (first|(refine h1H ?_; (refine h0H ?_; refine aU 16 J J J J J J J J (EC _) J J J ?_))|refine wG ?_)
 ·have hC:=fun li fr hf hY=>ED (iA li fr [aJ ds,aF ats,cs] 2000000) (Jc li fr _ hf) (F88 ds ats) nV hY s ([],false,0) h0
  rw [hR] at hC
  refine zI (sE 4 5 (k:=1) (b:=8) rfl rfl) ?_
  refine oN (f:=216) (caps:=[.ptr (gS s)]) (rav:=.tup []) [0,2,3,4,5] 10 rfl rfl rfl rfl (va q88 p88 (hC _ _ (fun a=>?_) (fun a x hok=>?_)) rfl rfl rfl rfl rfl rfl rfl) (by cases d' <;> rfl) (fun h=>?_) (fun h=>?_)
  ·rfl
  ·refine y88 ds ats a x hok rfl fun l h64 hargs hpx w0 σ0 φ0 M B=>?_
   clear hC hend hR hrun h0 hok a
   by_cases h1 : x.op = 1
   ·have e : F88 ds ats (l,false,0) x = (true,(l ++ [bK x.val],false,0)):=by simp [F88,h1]
    have hb1 : (x.op == 1) = true:=by simp [h1]
    rw [e]
    repeat' (first|(refine h1H ?_; (refine h0H ?_; first|refine dN af J J J J J J J J J J J J J (by show List.length l≤100000000; omega) (Nat.le_of_ble_eq_true J) (Nat.le_of_ble_eq_true J) ?_|refine ae J J J J J J J J (Ld _ _ _ _) J ?_))|refine wG ?_|(show cr _ _ _ _ _; refine fe J ?_ ?_))
    ·rfl
    ·exact A8 (by kernel_rfl) (by kernel_rfl) (by kernel_rfl) (by kernel_rfl) (by kernel_rfl) (by kernel_rfl)
   have hb1 : (x.op == 1) = false:=by simp [h1]
   by_cases h2 : x.op = 2
   ·have hb2 : (x.op == 2) = true:=by simp [h2]
    by_cases hi : atI ats x.name < 0
    ·have e : F88 ds ats (l,false,0) x = (false,(l,true,11)):=by simp [F88,h2,ig,hi]
     have hd : decide (aM (fun a : Attr=>a.name == x.name) ats 0 < 0) = true:=by simpa [atI] using hi
     rw [e]
     repeat' (first|(refine h1H ?_; (refine h0H ?_; refine ae J J J J J J J J (Es _ _ _ _) J ?_))|refine wG ?_|(show cr _ _ _ _ _; refine mP J J ?_ ?_))
     ·rfl
     ·exact ah (by kernel_rfl) (ah (by kernel_rfl) (ah (by kernel_rfl) (ah (by kernel_rfl) (ah (by kernel_rfl) (ah (by kernel_rfl) aS)))))
    ·have e : F88 ds ats (l,false,0) x = (true,(l ++ [(at_ ats (atI ats x.name).toNat).type],false,0)):=by simp [F88,h2,ig,hi]
     have hd : decide (aM (fun a : Attr=>a.name == x.name) ats 0 < 0) = false:=by simpa [atI] using hi
     have hr:=ij (p:=fun a : Attr=>a.name == x.name) (l:=ats) (k:=0) (by simpa [atI] using hi)
     obtain ⟨hr1,hr2⟩:=hr
     rw [e]
     repeat' (first|(refine h1H ?_; (refine h0H ?_; first|refine dN af J J J J J J J J J J J J J (by show List.length l≤100000000; omega) (Nat.le_of_ble_eq_true J) (Nat.le_of_ble_eq_true J) ?_|refine ae J J J J J J J J (Es _ _ _ _) J ?_))|refine wG ?_|(show cr _ _ _ _ _; refine fe J ?_ ?_))
     ·rfl
     ·exact A8 (by kernel_rfl) (by kernel_rfl) (by kernel_rfl) (by kernel_rfl) (by kernel_rfl) (by kernel_rfl)
   have hb2 : (x.op == 2) = false:=by simp [h2]
   by_cases h3 : x.op = 3
   ·have hb3 : (x.op == 3) = true:=by simp [h3]
    by_cases hi : jr ds x.name < 0
    ·have e : F88 ds ats (l,false,0) x = (false,(l,true,11)):=by simp [F88,h3,js,hi]
     have hd : decide (aM (fun a : Dim=>a.name == x.name) ds 0 < 0) = true:=by simpa [jr] using hi
     rw [e]
     repeat' (first|(refine h1H ?_; (refine h0H ?_; refine ae J J J J J J J J (Er _ _ _ _) J ?_))|refine wG ?_|(show cr _ _ _ _ _; refine mP J J ?_ ?_))
     ·rfl
     ·exact ah (by kernel_rfl) (ah (by kernel_rfl) (ah (by kernel_rfl) (ah (by kernel_rfl) (ah (by kernel_rfl) (ah (by kernel_rfl) aS)))))
    ·have e : F88 ds ats (l,false,0) x = (true,(l ++ [2],false,0)):=by simp [F88,h3,js,hi]
     have hd : decide (aM (fun a : Dim=>a.name == x.name) ds 0 < 0) = false:=by simpa [jr] using hi
     rw [e]
     repeat' (first|(refine h1H ?_; (refine h0H ?_; first|refine dN af J J J J J J J J J J J J J (by show List.length l≤100000000; omega) (Nat.le_of_ble_eq_true J) (Nat.le_of_ble_eq_true J) ?_|refine ae J J J J J J J J (Er _ _ _ _) J ?_))|refine wG ?_|(show cr _ _ _ _ _; refine fe J ?_ ?_))
     ·rfl
     ·exact A8 (by kernel_rfl) (by kernel_rfl) (by kernel_rfl) (by kernel_rfl) (by kernel_rfl) (by kernel_rfl)
   have hb3 : (x.op == 3) = false:=by simp [h3]
   obtain ⟨hop,hlen⟩:=ku hpx h1 h2 h3
   have hal:=hargs hop.1
   obtain ⟨m,hm⟩ : ∃ m : Nat,l.length = m + x.args.length:=⟨l.length - x.args.length,by omega⟩
   have hml : l.length - x.args.length = m:=by omega
   have hsub : ((l.length : Int) - (x.args.length : Int)) = (m : Int):=by omega
   have hC:=Le x.op (l.drop m) hop (by simp; omega)
   repeat' (first|refine wG ?_)
   simp only [List.length_map]
   rw [hsub]
   rcases Nat.eq_zero_or_pos m with h0 | h0
   ·have hC' : CallA Tryz.prog 175 [.one (.d (.int .i64 x.op)),.one (.d (.sl 1 8 ((l.map aO).take l.length)))] [] (ie (bt x.op (l.drop m))) []:=by
     have e1 : az (l.drop m) = .sl 1 8 ((l.map aO).take l.length):=by rw [List.take_of_length_le (by simp)]; simp [az,h0]
     rw [e1] at hC; exact hC
    refine d_e aq rfl rfl rfl (nc rfl rfl rfl (by rw [h0]; rfl) rfl rfl (by simp)) ?_
    refine pY [2000000] rfl rfl rfl rfl rfl rfl rfl rfl rfl hC' rfl ?_
    ·by_cases hz : (bt x.op (l.drop m)).2 = 0
     ·have hbz : ((bt x.op (l.drop m)).2 != 0) = false:=by simp [hz]
      have e : F88 ds ats (l,false,0) x = (true,(l.take m ++ [(bt x.op (l.drop m)).1],false,0)):=by
       simp only [F88]; rw [if_neg h1,if_neg h2,if_neg h3,hml]; simp [hz]
      rw [e]
      repeat' (first|refine wG ?_)
      refine d_e aq rfl rfl rfl (eA rfl rfl rfl rfl rfl rfl (by omega) (by show Int.toNat (m : Int)≤List.length l; omega) (by simp)) ?_
      repeat' (first|(refine h1H ?_; (refine h0H ?_; refine dN af J J J J J J J J J J J J J (by show Int.toNat (m : Int)≤100000000; omega) (Nat.le_of_ble_eq_true J) (Nat.le_of_ble_eq_true J) ?_))|refine wG ?_|(show cr _ _ _ _ _; refine fe J ?_ ?_))
      ·rfl
      ·exact xu (by omega) (by kernel_rfl) (by kernel_rfl) (by kernel_rfl) (by kernel_rfl) (by kernel_rfl) (by kernel_rfl)
     ·have hbz : ((bt x.op (l.drop m)).2 != 0) = true:=by simp [hz]
      have e : F88 ds ats (l,false,0) x = (false,(l,true,(bt x.op (l.drop m)).2)):=by
       simp only [F88]; rw [if_neg h1,if_neg h2,if_neg h3,hml]; simp [hz]
      rw [e]
      repeat' (first|refine wG ?_|(show cr _ _ _ _ _; refine mP J J ?_ ?_))
      ·rfl
      ·exact ah (by kernel_rfl) (ah (by kernel_rfl) (ah (by kernel_rfl) (ah (by kernel_rfl) (ah (by kernel_rfl) (ah (by kernel_rfl) aS)))))
   ·have hC' : CallA Tryz.prog 175 [.one (.d (.int .i64 x.op)),.one (.d (.sl 1 8 (((l.map aO).drop m).take (l.length - m))))] [] (ie (bt x.op (l.drop m))) []:=by
     have e1 : az (l.drop m) = .sl 1 8 (((l.map aO).drop m).take (l.length - m)):=by
      rw [List.take_of_length_le (by simp)]; simp [az,List.map_drop]
     rw [e1] at hC; exact hC
    refine d_e aq rfl rfl rfl (oH rfl rfl rfl rfl rfl rfl (by omega) (by show Int.toNat (m : Int)≤List.length l; omega) (by simp)) ?_
    refine pY [2000000] rfl rfl rfl rfl rfl rfl rfl rfl rfl hC' rfl ?_
    ·by_cases hz : (bt x.op (l.drop m)).2 = 0
     ·have hbz : ((bt x.op (l.drop m)).2 != 0) = false:=by simp [hz]
      have e : F88 ds ats (l,false,0) x = (true,(l.take m ++ [(bt x.op (l.drop m)).1],false,0)):=by
       simp only [F88]; rw [if_neg h1,if_neg h2,if_neg h3,hml]; simp [hz]
      rw [e]
      repeat' (first|refine wG ?_)
      refine d_e aq rfl rfl rfl (eA rfl rfl rfl rfl rfl rfl (by omega) (by show Int.toNat (m : Int)≤List.length l; omega) (by simp)) ?_
      repeat' (first|(refine h1H ?_; (refine h0H ?_; refine dN af J J J J J J J J J J J J J (by show Int.toNat (m : Int)≤100000000; omega) (Nat.le_of_ble_eq_true J) (Nat.le_of_ble_eq_true J) ?_))|refine wG ?_|(show cr _ _ _ _ _; refine fe J ?_ ?_))
      ·rfl
      ·exact xu (by omega) (by kernel_rfl) (by kernel_rfl) (by kernel_rfl) (by kernel_rfl) (by kernel_rfl) (by kernel_rfl)
     ·have hbz : ((bt x.op (l.drop m)).2 != 0) = true:=by simp [hz]
      have e : F88 ds ats (l,false,0) x = (false,(l,true,(bt x.op (l.drop m)).2)):=by
       simp only [F88]; rw [if_neg h1,if_neg h2,if_neg h3,hml]; simp [hz]
      rw [e]
      repeat' (first|refine wG ?_|(show cr _ _ _ _ _; refine mP J J ?_ ?_))
      ·rfl
      ·exact ah (by kernel_rfl) (ah (by kernel_rfl) (ah (by kernel_rfl) (ah (by kernel_rfl) (ah (by kernel_rfl) (ah (by kernel_rfl) aS)))))
  ·rcases hend with ⟨rfl,_⟩ | ⟨rfl,rfl,hz,rfl⟩
   ·exact nomatch h
   rintro ⟨w1,σ1,φ1,M1,n1,rd1,mk1⟩ ⟨hn,hrd,_⟩
   dsimp only at hn hrd
   subst hn hrd
   refine bL (wY (s':=[(2,.box [.d (.int .i64 0)]),(3,.box [.d (.int .i64 0)]),(4,.box [.own 16 1]),(16,.row 1 8 [[.int .i64 (bo bK ds ats s).1]])]) (ah (by kernel_rfl) (ah (by kernel_rfl) (ah (by kernel_rfl) (ah (by kernel_rfl) aS))))) ?_
   repeat' (first|refine wG ?_)
   simp [ie,hz]
  ·rcases hend with ⟨rfl,rfl,hz⟩ | ⟨rfl,_⟩
   ·repeat' (first|refine wG ?_)
    show AV.tup [(false,[.d (.int .i64 0)]),(false,[.d (.int .i64 (bo bK ds ats s).2)])] = _
    simp [ie,Eu hz]
   ·exact nomatch h
end Go.Proofs.YtpejdgkaapnekaaGreat
namespace Go.Proofs.YtpejdgkaapnekaaGreat
open Go Go.Abs
attribute [local irreducible] aa OkC ak ar al ax
set_option maxRecDepth 10000
theorem JM(l : List Int) : CallA Tryz.prog 129 [.one (.d (az l))] [] (.one (.d (az l))) []:=by
 refine enter af Tryz.func129 rfl (by decide +kernel) rfl fun hok w0 σ0 φ0 M=>?_
 have h1:=hok.1.sl; clear hok; simp only [List.length_map] at h1
 repeat' (first|(refine h1H ?_; (refine h6H ?_; refine gg af J J J J J J (fun r hr=>?_)))|(refine h1H ?_; (refine h0H ?_; refine eX af J J J J J (id:=0) J J J J J J J (by simp only [List.length_map,Nat.zero_add]; omega) (by simp only [List.length_map,Nat.zero_add]; omega) ?_))|(refine h5H ?_; first|refine bL (cY (dl:=[0]) J) (cZ ?_)|refine bL (k7 (s:=2) (k:=1) (b:=8) J) (cZ ?_))|refine wG ?_|(refine h5H ?_; refine ai J (fun h=>?_) (fun h=>?_)))
 ·have e:=hr (by simpa using h)
  simp only [az,e]
 ·simp only [de,az,List.length_map,Nat.zero_add,List.take_nil,List.nil_append]
  exact congrArg (fun x=>AV.one (AC.d (D.sl _ _ x))) (List.take_of_length_le (by simp))
theorem JN(l : List Val) : CallA Tryz.prog 144 [.one (.d (aT l))] [] (.one (.d (aT l))) []:=by
 refine enter af Tryz.func144 rfl (by decide +kernel) rfl fun hok w0 σ0 φ0 M=>?_
 have h1:=hok.1.sl; clear hok; simp only [List.length_map] at h1
 repeat' (first|(refine h1H ?_; (refine h6H ?_; refine gg af J J J J J J (fun r hr=>?_)))|(refine h1H ?_; (refine h0H ?_; refine eX af J J J J J (id:=0) J J J J J J J (by simp only [List.length_map,Nat.zero_add]; omega) (by simp only [List.length_map,Nat.zero_add]; omega) ?_))|(refine h5H ?_; first|refine bL (cY (dl:=[0]) J) (cZ ?_)|refine bL (k7 (s:=2) (k:=4) (b:=40) J) (cZ ?_))|refine wG ?_|(refine h5H ?_; refine ai J (fun h=>?_) (fun h=>?_)))
 ·have e:=hr (by simpa using h)
  simp only [aT,e]
 ·simp only [de,aT,List.length_map,Nat.zero_add,List.take_nil,List.nil_append]
  exact congrArg (fun x=>AV.one (AC.d (D.sl _ _ x))) (List.take_of_length_le (by simp))
theorem c97(l : List Dim) : CallA Tryz.prog 97 [.one (.d (aJ l))] [] (.one (.d (aJ l))) []:=by
 refine enter af Tryz.func97 rfl (by decide +kernel) rfl fun hok w0 σ0 φ0 M=>?_
 have h1:=hok.1.sl; clear hok; simp only [List.length_map] at h1
 repeat' (first|(refine h1H ?_; (refine h6H ?_; refine gg af J J J J J J (fun r hr=>?_)))|(refine h1H ?_; (refine h0H ?_; refine eX af J J J J J (id:=0) J J J J J J J (by simp only [List.length_map,Nat.zero_add]; omega) (by simp only [List.length_map,Nat.zero_add]; omega) ?_))|(refine h5H ?_; first|refine bL (cY (dl:=[0]) J) (cZ ?_)|refine bL (k7 (s:=2) (k:=3) (b:=32) J) (cZ ?_))|refine wG ?_|(refine h5H ?_; refine ai J (fun h=>?_) (fun h=>?_)))
 ·have e:=hr (by simpa using h)
  simp only [aJ,e]
 ·simp only [de,aJ,List.length_map,Nat.zero_add,List.take_nil,List.nil_append]
  exact congrArg (fun x=>AV.one (AC.d (D.sl _ _ x))) (List.take_of_length_le (by simp))
theorem JL(l : List Attr) : CallA Tryz.prog 145 [.one (.d (aF l))] [] (.one (.d (aF l))) []:=by
 refine enter af Tryz.func145 rfl (by decide +kernel) rfl fun hok w0 σ0 φ0 M=>?_
 have h1:=hok.1.sl; clear hok; simp only [List.length_map] at h1
 repeat' (first|(refine h1H ?_; (refine h6H ?_; refine gg af J J J J J J (fun r hr=>?_)))|(refine h1H ?_; (refine h0H ?_; refine eX af J J J J J (id:=0) J J J J J J J (by simp only [List.length_map,Nat.zero_add]; omega) (by simp only [List.length_map,Nat.zero_add]; omega) ?_))|(refine h5H ?_; first|refine bL (cY (dl:=[0]) J) (cZ ?_)|refine bL (k7 (s:=2) (k:=2) (b:=24) J) (cZ ?_))|refine wG ?_|(refine h5H ?_; refine ai J (fun h=>?_) (fun h=>?_)))
 ·have e:=hr (by simpa using h)
  simp only [aF,e]
 ·simp only [de,aF,List.length_map,Nat.zero_add,List.take_nil,List.nil_append]
  exact congrArg (fun x=>AV.one (AC.d (D.sl _ _ x))) (List.take_of_length_le (by simp))
end Go.Proofs.YtpejdgkaapnekaaGreat
