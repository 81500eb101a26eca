import Derived.Test.YtpejdgkaapnekaaGreatVP25
import Derived.Test.YtpejdgkaapnekaaGreatVP26
import Derived.Test.YtpejdgkaapnekaaGreatVP16
import Derived.Test.YtpejdgkaapnekaaGreatVP17
import Derived.Test.YtpejdgkaapnekaaGreatVKZ
import Derived.Test.YtpejdgkaapnekaaGreatVP20
import Derived.Test.YtpejdgkaapnekaaGreatVP21
import Derived.Test.YtpejdgkaapnekaaGreatVP15
set_option linter.unusedVariables false
set_option linter.unusedSimpArgs false
set_option linter.unnecessarySimpa false
set_option maxHeartbeats 1000000
namespace Go.Proofs.YtpejdgkaapnekaaGreat
open Go Go.Abs
attribute [local irreducible] aa OkC ak ar al ax
set_option maxRecDepth 10000
theorem qb{s : Scalar}(h : dn s = 0) : cI s = true∧(aK s).length≤64:=by
 have h3:=mg (aK s) 0 true (by omega)
 unfold dn at h
 split at h
 ·omega
 ·by_cases hc : 64 < ((aK s).length : Int)
  ·rw [h3.1 (by omega)] at h; omega
  ·rw [h3.2 (by omega),Bool.true_and,← pC] at h
   refine ⟨?_,by omega⟩
   cases hp : cI s with
   | true=>rfl
   | false=>rw [hp] at h; simp at h
def bx(ds : List Dim)(ats : List Attr)(cs : List Cell)(s : Scalar) : Int×Int :=
 if bU ds ats cs≠0 then (0,2) else if dn s≠0 then (0,dn s) else bo bK ds ats s
theorem c20(ds : List Dim)(ats : List Attr)(cs : List Cell)(s : Scalar) : CallA Tryz.prog 20 [.agg [.d (aJ ds),.d (aF ats),.d (bR cs)],cB s] [] (ie (bx ds ats cs s)) []:=by
 refine enter af Tryz.func20 rfl (by decide +kernel) rfl fun hok w0 σ0 φ0 M=>?_
 clear hok
 by_cases h1 : bU ds ats cs = 0
 ·have hb1 : (bU ds ats cs != 0) = false:=by simp [h1]
  by_cases h2 : dn s = 0
  ·have hb2 : (dn s != 0) = false:=by simp [h2]
   obtain ⟨hp,hsz⟩:=qb h2
   have e : bx ds ats cs s = bo bK ds ats s:=by simp [bx,h1,h2]
   rw [e]
   repeat' (first|(refine h1H ?_; (refine h0H ?_; first|refine ae J J J J J J J J (c59 _ _ _) J ?_|refine ae J J J J J J J J (c87 _) J ?_|refine ae J J J J J J J J (c88 _ _ _ _ (by assumption) (by assumption)) J ?_))|refine wG ?_)
   all_goals rfl
  ·have hb2 : (dn s != 0) = true:=by simp [h2]
   have e : bx ds ats cs s = (0,dn s):=by simp [bx,h1,h2]
   rw [e]
   repeat' (first|(refine h1H ?_; (refine h0H ?_; first|refine ae J J J J J J J J (c59 _ _ _) J ?_|refine ae J J J J J J J J (c87 _) J ?_))|refine wG ?_)
   all_goals rfl
 ·have hb1 : (bU ds ats cs != 0) = true:=by simp [h1]
  have e : bx ds ats cs s = (0,2):=by simp [bx,h1]
  rw [e]
  repeat' (first|(refine h1H ?_; (refine h0H ?_; refine ae J J J J J J J J (c59 _ _ _) J ?_))|refine wG ?_)
  all_goals rfl
theorem c21(ds : List Dim)(ats : List Attr)(cs : List Cell)(s : Scalar) : CallA Tryz.prog 21 [.agg [.d (aJ ds),.d (aF ats),.d (bR cs)],cB s] [] (ie (bx ds ats cs s)) []:=by
 refine enter af Tryz.func21 rfl (by decide +kernel) rfl fun hok w0 σ0 φ0 M=>?_
 clear hok
 have hf:=Du s
 by_cases h1 : bU ds ats cs = 0
 ·have hb1 : (bU ds ats cs != 0) = false:=by simp [h1]
  by_cases h2 : 12 < cz 12 s
  ·have hb2 : decide (12 < cz 12 s) = true:=by simp [h2]
   rw [if_pos h2] at hf
   have e : bx ds ats cs s = (0,10):=by simp [bx,h1,hf]
   rw [e]
   repeat' (first|(refine h1H ?_; (refine h0H ?_; first|refine ae J J J J J J J J (c89 _ _ _) J ?_|refine ae J J J J J J J J (c90 12 s 12 J (by omega)) J ?_))|refine wG ?_)
   all_goals rfl
  ·have hb2 : decide (12 < cz 12 s) = false:=by simp [h2]
   rw [if_neg h2] at hf
   by_cases h3 : 64 < cQ s 64
   ·have hb3 : decide (64 < cQ s 64) = true:=by simp [h3]
    rw [if_pos h3] at hf
    have e : bx ds ats cs s = (0,9):=by simp [bx,h1,hf]
    rw [e]
    repeat' (first|(refine h1H ?_; (refine h0H ?_; first|refine ae J J J J J J J J (c89 _ _ _) J ?_|refine ae J J J J J J J J (c90 12 s 12 J (by omega)) J ?_|refine ae J J J J J J J J (c91 s 64 (by omega) (by omega)) J ?_))|refine wG ?_)
    all_goals rfl
   ·have hb3 : decide (64 < cQ s 64) = false:=by simp [h3]
    rw [if_neg h3] at hf
    cases hp : cI s with
    | true =>
      have hb4 : (!cI s) = false:=by simp [hp]
      rw [hp,if_pos rfl] at hf
      obtain ⟨_,hsz⟩:=qb hf
      have e : bx ds ats cs s = bo fU ds ats s:=by rw [← Et s hp]; simp [bx,h1,hf]
      rw [e]
      repeat' (first|(refine h1H ?_; (refine h0H ?_; first|refine ae J J J J J J J J (c89 _ _ _) J ?_|refine ae J J J J J J J J (c90 12 s 12 J (by omega)) J ?_|refine ae J J J J J J J J (c91 s 64 (by omega) (by omega)) J ?_|refine ae J J J J J J J J (c92 _) J ?_|refine ae J J J J J J J J (c93 _ _ _ _ (by assumption) (by assumption)) J ?_))|refine wG ?_)
      all_goals rfl
    | false =>
      have hb4 : (!cI s) = true:=by simp [hp]
      rw [hp] at hf
      have e : bx ds ats cs s = (0,2):=by simp [bx,h1,hf]
      rw [e]
      repeat' (first|(refine h1H ?_; (refine h0H ?_; first|refine ae J J J J J J J J (c89 _ _ _) J ?_|refine ae J J J J J J J J (c90 12 s 12 J (by omega)) J ?_|refine ae J J J J J J J J (c91 s 64 (by omega) (by omega)) J ?_|refine ae J J J J J J J J (c92 _) J ?_))|refine wG ?_)
      all_goals rfl
 ·have hb1 : (bU ds ats cs != 0) = true:=by simp [h1]
  have e : bx ds ats cs s = (0,2):=by simp [bx,h1]
  rw [e]
  repeat' (first|(refine h1H ?_; (refine h0H ?_; refine ae J J J J J J J J (c89 _ _ _) J ?_))|refine wG ?_)
  all_goals rfl
theorem c19 : CallA Tryz.prog 19 [] [] (.one (.d (.bool true))) []:=MG
theorem c3(ds : List Dim)(ats : List Attr)(cs : List Cell)(s : Scalar) : CallA Tryz.prog 3 [.agg [.d (aJ ds),.d (aF ats),.d (bR cs)],cB s] [] (.one (.d (.bool true))) []:=by
 refine enter af Tryz.func3 rfl (by decide +kernel) rfl fun hok w0 σ0 φ0 M=>?_
 clear hok
 have hb1 : ((bx ds ats cs s).1 == (bx ds ats cs s).1) = true:=by simp
 have hb2 : ((bx ds ats cs s).2 == (bx ds ats cs s).2) = true:=by simp
 repeat' (first|(refine h1H ?_; (refine h0H ?_; first|refine ae J J J J J J J J (c19) J ?_|refine ae J J J J J J J J (c20 _ _ _ _) J ?_|refine ae J J J J J J J J (c21 _ _ _ _) J ?_))|refine wG ?_|(refine h5H ?_; refine ai J (fun h=>?_) (fun h=>?_)))
 all_goals rfl
end Go.Proofs.YtpejdgkaapnekaaGreat
namespace Go.Proofs.YtpejdgkaapnekaaGreat
open Go Go.Abs
def eT : List Int→Int
 | []=>0
 | d::r=>d + 1000000000 * eT r
def Dw(l : List Int) : Prop:=∀ d∈l,0≤d∧d < 1000000000
def dw(n : Nat) : List Int:=if h : n = 0 then [] else ((n % 1000000000 : Nat) : Int)::dw (n / 1000000000)
 termination_by n
 decreasing_by omega
def pu(k : Nat) : Int:=1000000000 ^ k
theorem uA(k : Nat) : pu (k + 1) = 1000000000 * pu k:=by unfold pu; rw [Int.pow_succ,Int.mul_comm]
theorem As : pu 0 = 1:=rfl
theorem yV(k : Nat) : 0 < pu k:=by
 induction k with
 | zero=>decide
 | succ k ih=>rw [uA]; omega
theorem IL(a b : Nat) : pu (a + b) = pu a * pu b:=by unfold pu; rw [Int.pow_add]
theorem yW : ∀ {a b : List Int},eT (a ++ b) = eT a + pu a.length * eT b
 | [],b=>by simp [eT,As]
 | d::a,b=>by
   simp only [List.cons_append,eT,yW (a:=a) (b:=b),List.length_cons,uA,Int.mul_add,Int.mul_assoc]
   omega
theorem Dw.cons{d : Int}{r : List Int}(h : Dw (d::r)) : (0≤d∧d < 1000000000)∧Dw r:=⟨h d List.mem_cons_self,fun x hx=>h x (List.mem_cons_of_mem _ hx)⟩
theorem Dw.at{l : List Int}(h : Dw l){i : Nat}(hi : i < l.length) : 0≤at_ l i∧at_ l i < 1000000000:=h _ (dh hi)
theorem Dw.take{l : List Int}(h : Dw l)(n : Nat) : Dw (l.take n):=fun d hd=>h d (List.mem_of_mem_take hd)
theorem Dw.drop{l : List Int}(h : Dw l)(n : Nat) : Dw (l.drop n):=fun d hd=>h d (List.mem_of_mem_drop hd)
theorem uB : ∀ {l : List Int},Dw l→0≤eT l∧eT l < pu l.length
 | [],_=>by simp [eT,As]
 | d::r,h=>by
   obtain ⟨h1,h2⟩:=h.cons
   have:=uB h2
   simp only [eT,List.length_cons,uA]
   omega
theorem zJ : dw 0 = []:=by rw [dw]; simp
theorem o8{n : Nat}(h : n≠0) : dw n = ((n % 1000000000 : Nat) : Int)::dw (n / 1000000000):=by rw [dw]; simp [h]
theorem FN : ∀ (n : Nat),Dw (dw n)∧eT (dw n) = n∧(dw n = []∨at_ (dw n) ((dw n).length - 1)≠0):=by
 intro n
 induction n using Nat.strongRecOn with
 | _ n ih =>
   by_cases h : n = 0
   ·subst h; rw [zJ]; exact ⟨fun d hd=>by simp at hd,rfl,.inl rfl⟩
   ·obtain ⟨i1,i2,i3⟩:=ih (n / 1000000000) (by omega)
    rw [o8 h]
    refine ⟨fun d hd=>?_,?_,.inr ?_⟩
    ·rcases List.mem_cons.1 hd with rfl | hd
     ·omega
     ·exact i1 d hd
    ·simp only [eT,i2]; omega
    ·rcases i3 with i3 | i3
     ·rw [i3]
      have h0 : n / 1000000000 = 0:=by rw [i3] at i2; simp only [eT] at i2; omega
      show ((n % 1000000000 : Nat) : Int)≠0
      omega
     ·cases hd : dw (n / 1000000000) with
      | nil =>
        rw [hd] at i2; simp only [eT] at i2
        show ((n % 1000000000 : Nat) : Int)≠0
        omega
      | cons e r =>
        rw [hd] at i3
        show at_ (_::e::r) (r.length + 1)≠0
        exact i3
theorem DS{l : List Int}{k : Nat}(h : k < l.length) : eT (l.take (k + 1)) = eT (l.take k) + pu k * at_ l k:=by
 rw [eD h,yW,List.length_take,Nat.min_eq_left (by omega)]; simp [eT]
theorem Dw.set{l : List Int}{k : Nat}{x : Int}(h : Dw l)(hx : 0≤x∧x < 1000000000) : Dw (l.set k x):=fun d hd=>by
 rcases List.mem_or_eq_of_mem_set hd with hd | rfl
 ·exact h d hd
 ·exact hx
theorem Dw.zeros(n : Nat) : Dw (List.replicate n 0):=fun d hd=>by rw [List.eq_of_mem_replicate hd]; omega
theorem yj{a b : List Int}(ha : Dw a)(hb : Dw b)(hn : b = []∨at_ b (b.length - 1)≠0)(hl : a.length < b.length) : eT a < eT b:=by
 have h1:=(uB ha).2
 have hne : b≠[]:=fun e=>by rw [e] at hl; simp at hl
 have hn':=hn.resolve_left hne
 have h2 : eT b = eT (b.take (b.length - 1)) + pu (b.length - 1) * at_ b (b.length - 1):=by
  have:=DS (l:=b) (k:=b.length - 1) (by omega)
  rwa [show b.length - 1 + 1 = b.length by omega,List.take_length] at this
 have h3:=(uB (hb.take (b.length - 1))).1
 have h4 : 1≤at_ b (b.length - 1):=by have:=hb.at (i:=b.length - 1) (by omega); omega
 have h5 : pu a.length≤pu (b.length - 1):=by
  obtain ⟨m,hm⟩ : ∃ m,b.length - 1 = a.length + m:=⟨b.length - 1 - a.length,by omega⟩
  rw [hm,IL]
  have:=Int.mul_le_mul_of_nonneg_left (show 1≤pu m by have:=yV m; omega) (Int.le_of_lt (yV a.length))
  omega
 have h6:=Int.mul_le_mul_of_nonneg_left h4 (Int.le_of_lt (yV (b.length - 1)))
 omega
end Go.Proofs.YtpejdgkaapnekaaGreat
namespace Go.Proofs.YtpejdgkaapnekaaGreat
open Go Go.Abs
attribute [local irreducible] aa OkC ak ar al ax
set_option maxRecDepth 10000
theorem EA{m n : Nat}(h : (dw m).length < (dw n).length) : m < n:=by
 obtain ⟨a1,a2,a3⟩:=FN m
 obtain ⟨b1,b2,b3⟩:=FN n
 have:=yj a1 b1 b3 h
 omega
theorem Dw.at'{l : List Int}(h : Dw l)(i : Nat) : 0≤at_ l i∧at_ l i < 1000000000:=by
 by_cases hi : i < l.length
 ·exact h.at hi
 ·rw [mZ (Nat.le_of_not_lt hi)]; omega
def dwl(n : Nat) : Nat:=(dw n).length
theorem F8{m n : Nat}(h : m≤n) : dwl m≤dwl n:=by
 refine Nat.le_of_not_lt fun hc=>?_
 have:=EA hc; omega
structure Hlv (y r : Nat) (q : Int×Int) : Prop where
 b : 0≤q.1∧q.1≤q.2∧q.2≤999999999
 lo : y * q.1.toNat≤r
 hi : r < y * (q.2.toNat + 1)
theorem CO{n : Nat}(h : n < 1000000000000000000000000000000000000) : dwl n≤4:=by
 refine Nat.le_trans (F8 (show n≤999999999999999999999999999999999999 by omega)) ?_
 unfold dwl
 rw [o8 (by omega),show (999999999999999999999999999999999999 : Nat) / 1000000000 = 999999999999999999999999999 from rfl,o8 (by omega),show (999999999999999999999999999 : Nat) / 1000000000 = 999999999999999999 from rfl,
  o8 (by omega),show (999999999999999999 : Nat) / 1000000000 = 999999999 from rfl,o8 (by omega),show (999999999 : Nat) / 1000000000 = 0 from rfl,zJ]
 exact Nat.le_refl _
structure RatW (a1 b1 a2 b2 : Nat) : Prop where
 h1 : 1≤b1∧b1≤1099511627776
 h2 : 1≤b2∧b2≤1099511627776
 l1 : a1≤1099511627776
 l2 : a2≤1099511627776
theorem RatW.len{a1 b1 a2 b2 : Nat}(h : RatW a1 b1 a2 b2) : ((dw a1).length≤400∧(dw b1).length≤400∧(dw a2).length≤400∧(dw b2).length≤400)∧(dw (a1 * b2)).length≤300∧(dw (a2 * b1)).length≤300∧(dw (b1 * b2)).length≤300∧(dw (a1 * b2 + a2 * b1)).length≤300∧(dw (a1 * b2 - a2 * b1)).length≤300∧(dw (a2 * b1 - a1 * b2)).length≤300∧(dw (a1 * a2)).length≤300∧(dw (b1 * a2)).length≤300:=by
 have hm : ∀ {x y : Nat},x≤1099511627776→y≤1099511627776→x * y≤1208925819614629174706176:=fun hx hy=>Nat.mul_le_mul hx hy
 have d : ∀ {x : Nat},x≤1099511627776→(dw x).length≤400:=fun hx=>Nat.le_trans (CO (Nat.lt_of_le_of_lt hx (Nat.lt_of_lt_of_le (Nat.lt_succ_self _) (Nat.le_of_ble_eq_true rfl)))) (by omega)
 have p : ∀ {x : Nat},x≤2417851639229258349412352→(dw x).length≤300:=fun hx=>Nat.le_trans (CO (Nat.lt_of_le_of_lt hx (Nat.lt_of_lt_of_le (Nat.lt_succ_self _) (Nat.le_of_ble_eq_true rfl)))) (by omega)
 have p1:=hm h.l1 h.h2.2
 have p2:=hm h.l2 h.h1.2
 have p3:=hm h.h1.2 h.h2.2
 have p5:=hm h.l1 h.l2
 have p6:=hm h.h1.2 h.l2
 exact ⟨⟨d h.l1,d h.h1.2,d h.l2,d h.h2.2⟩,p (by omega),p (by omega),p (by omega),p (by omega),p (by omega),p (by omega),p (by omega),p (by omega)⟩
theorem NumOk.w{x y : Val}(h : NumOk x)(h' : NumOk y) : RatW (naV x) (dnV x) (naV y) (dnV y):=⟨h.b,h'.b,h.a,h'.a⟩
end Go.Proofs.YtpejdgkaapnekaaGreat
namespace Go.Proofs.YtpejdgkaapnekaaGreat
open Go Go.Abs
end Go.Proofs.YtpejdgkaapnekaaGreat
namespace Go.Proofs.YtpejdgkaapnekaaGreat
open Go Go.Abs
attribute [local irreducible] aa OkC ak ar al ax
set_option maxRecDepth 10000
theorem p9{ds : List Dim}{ats : List Attr}{cs : List Cell}{s : Scalar}(h : (bx ds ats cs s).2 = 0) : bU ds ats cs = 0∧cI s = true∧(aK s).length≤64∧∀ z∈aK s,tT ds ats z:=by
 unfold bx at h
 by_cases h1 : bU ds ats cs = 0
 ·rw [if_neg (by simpa using h1)] at h
  by_cases h2 : dn s = 0
  ·rw [if_neg (by simpa using h2)] at h
   obtain ⟨hp,hsz⟩:=qb h2
   exact ⟨h1,hp,hsz,HR s hp h⟩
  ·rw [if_pos h2] at h; exact absurd h h2
 ·rw [if_pos h1] at h; simp at h
end Go.Proofs.YtpejdgkaapnekaaGreat
namespace Go.Proofs.YtpejdgkaapnekaaGreat
open Go Go.Abs
attribute [local irreducible] aa OkC ak ar al ax
set_option maxRecDepth 10000
section
variable {src : List (Int×Bool)} {c : Cell} {k : Nat}
end
end Go.Proofs.YtpejdgkaapnekaaGreat
namespace Go.Proofs.YtpejdgkaapnekaaGreat
open Go Go.Abs
attribute [local irreducible] aa OkC ak ar al ax
set_option maxRecDepth 10000
theorem FU{α : Type}[Inhabited α](f : α→List D)(l : List α){n : Nat}{r : List (List D)}(h : r = (l.take n).map f)(hlt : n < l.length) : r.take n ++ [f (at_ l n)] = (l.take (n + 1)).map f:=by
 rw [h]; exact wx f l hlt
section
variable {src kept : List (Int×Bool)} {ds : List Dim} {rule : Int} {c : Cell} {cs cs' l : List Cell} {x : List Int} {j : Nat}
end
end Go.Proofs.YtpejdgkaapnekaaGreat
namespace Go.Proofs.YtpejdgkaapnekaaGreat
open Go Go.Abs
attribute [local irreducible] aa OkC ak ar al ax
set_option maxRecDepth 10000
end Go.Proofs.YtpejdgkaapnekaaGreat
namespace Go.Proofs.YtpejdgkaapnekaaGreat
open Go Go.Abs
def di(c : Cell) : List Cell→List Cell
 | []=>[c]
 | x::r=>if aX x.at' c.at' < 0 then x::di c r else if aX x.at' c.at' = 0 then c::r else c::x::r
end Go.Proofs.YtpejdgkaapnekaaGreat
namespace Go.Proofs.YtpejdgkaapnekaaGreat
open Go Go.Abs
attribute [local irreducible] aa OkC ak ar al ax
set_option maxRecDepth 10000
end Go.Proofs.YtpejdgkaapnekaaGreat
namespace Go.Proofs.YtpejdgkaapnekaaGreat
open Go Go.Abs
attribute [local irreducible] aa OkC ak ar al ax
set_option maxRecDepth 10000
section
variable {src kept : List (Int×Bool)} {ds : List Dim} {rule : Int} {l l' r : List Cell} {c : Cell}
end
end Go.Proofs.YtpejdgkaapnekaaGreat
namespace Go.Proofs.YtpejdgkaapnekaaGreat
open Go Go.Abs
attribute [local irreducible] aa OkC ak ar al ax
set_option maxRecDepth 10000
def okV(v : Val) : Bool:=b0 [.int .i64 v.kind,.int .i64 v.num,.int .i64 v.den,.str v.str] [.int .i64 1,.int .i64 1,.int .i64 0,.str []]
def dt(a : Arr)(s : Scalar) : Option Arr×Int :=
 if (bx a.dims a.attrs a.cells s).2≠0 then (none,(bx a.dims a.attrs a.cells s).2) else if (bx a.dims a.attrs a.cells s).1≠1 then (none,12)
 else gf a.dims a.attrs (a.cells.filter fun c=>okV (dB a.dims a.attrs c.at' c.vals s))
abbrev jz(a : Arr)(s : Scalar)(l : List Cell) : List Cell:=l.filter fun c=>okV (dB a.dims a.attrs c.at' c.vals s)
theorem yu{p : Cell→Bool}{l : List Cell}{k : Nat}(h : k < l.length) : (l.take (k + 1)).filter p = (l.take k).filter p ++ if p (at_ l k) then [at_ l k] else []:=by
 rw [eD h,List.filter_append]
 congr 1
 by_cases hp : p (at_ l k) = true
 ·simp [hp]
 ·simp [hp]
set_option maxHeartbeats 4000000 in
theorem c26(a : Arr)(s : Scalar) : CallA Tryz.prog 26 [gh a,cB s] [] (mm (dt a s)) []:=by
 unfold gh dt
 refine enter af Tryz.func26 rfl (by decide +kernel) rfl fun hok w0 σ0 φ0 M=>?_
 clear hok
 by_cases ht : (bx a.dims a.attrs a.cells s).2 = 0
 ·have hb1 : ((bx a.dims a.attrs a.cells s).2 != 0) = false:=by simp [ht]
  obtain ⟨hck,hp,hsz,hn⟩:=p9 ht
  rw [if_neg (by simpa using ht)]
  by_cases h1 : (bx a.dims a.attrs a.cells s).1 = 1
  ·have hb2 : ((bx a.dims a.attrs a.cells s).1 != 1) = false:=by simp [h1]
   rw [if_neg (by simpa using h1)]
   have hA:=okA hck
   have hcl : ∀ i,i < a.cells.length→(at_ a.cells i).at'.length = a.dims.length∧(at_ a.cells i).vals.length = a.attrs.length:=fun i hi =>
    let h:=cellF_ok.1 (hA.cel _ (dh hi)); ⟨h.1,h.2.1⟩
   have hcn : a.cells.length≤4096:=hA.few
   have hdf : (jz a s a.cells).Pairwise ek:=(fl hA.srt).filter _
   have hff : (jz a s a.cells).length≤4096:=Nat.le_trans (List.length_filter_le _ _) hcn
   have er : gf a.dims a.attrs (jz a s a.cells) = (some ⟨a.dims,a.attrs,eo (jz a s a.cells)⟩,0):=by unfold gf; rw [if_neg (by omega)]
   rw [er]
   repeat' (first|(refine h1H ?_; (refine h0H ?_; first|refine dW 40 [10] J J J J J J J J J (G9 a.dims a.attrs (jz a s a.cells) _ _ hdf hff J (by rw [List.take_of_length_le (by omega),hq3,List.take_of_length_le wB])) J J J ?_|refine ae J J J J J J J J (c20 _ _ _ _) J ?_|refine ae J J J J J J J J (NX _ _ _ _ _ _ hp hsz hn (hcl _ wB).1 (hcl _ wB).2) J ?_))|refine wG ?_|(refine h5H ?_; first|refine ai J (fun h=>?_) (fun h=>?_)|refine pJ 8 J (kj (s:=8) (id:=10) (k:=2) (b:=48) J J J J) [(2,_),(3,_),(4,_),(27,_),(28,_)] (q5Q J J J J J) (fun (bN : Bool×Bool) (q : Nat×Nat×List (List D))=>[(8,.one (.own (nmA bN) q.2.1)),(29,.one (.d (.int .i64 (q.1 : Int))))]) (fun (bN : Bool×Bool) (q : Nat×Nat×List (List D))=>[((nmA bN),.row 2 48 q.2.2),(0,.box [.d (aJ a.dims),.d (aF a.attrs),.d (bR a.cells)]),(1,.box [.d (.int .i64 s.op),.d (.str s.name),.d (.int .i64 s.val.kind),.d (.int .i64 s.val.num),.d (.int .i64 s.val.den),.d (.str s.val.str),.d (dm s.args)]),(2,.box [.d .nil,.d .nil,.d .nil])]) (fun (q : Nat×Nat×List (List D))=>q.1≤a.cells.length∧q.2.1 = q.2.2.length∧q.2.1≤q.1∧q.2.2 = (jz a s (a.cells.take q.1)).map bj) (fun (q : Nat×Nat×List (List D))=>a.cells.length - q.1) (0,0,[]) (q2Q J J) wK (fun b y=>by obtain ⟨b1,b2⟩:=b; cases b1 <;> cases b2 <;> first|exact Imp.refl _|exact pK qN (by kernel_rfl)) ?_ (fun q ⟨hq1,hq2,hq4,hq3⟩=>?_))|(show Exists _; first|refine Exists.intro ((q.1 + 1,q.2.1 + 1,q.2.2.take q.2.1 ++ [bj (at_ a.cells q.1)])) (Exists.intro (false,false) ⟨?_,?_,wK,(q2Q J J),(q5Q J J J J J)⟩)|refine Exists.intro ((q.1 + 1,q.2)) (Exists.intro (false,false) ⟨?_,?_,wK,(q2Q J J),(q5Q J J J J J)⟩)))
   ·exact ⟨Nat.zero_le _,rfl,Nat.le_refl _,by simp [jz]⟩
   ·have hlt : q.1 < a.cells.length:=by simpa using ‹decide ((q.1 : Int) < ((a.cells.map bj).length : Int)) = true›
    have hw : okV (dB a.dims a.attrs (at_ a.cells q.1).at' (at_ a.cells q.1).vals s) = true:=by simpa [okV] using h
    refine ⟨hlt,?_,Nat.succ_le_succ hq4,?_⟩
    ·show q.2.1 + 1 = (q.2.2.take q.2.1 ++ [_]).length
     rw [List.length_append,List.length_take]; simp [hq2]
    ·show q.2.2.take q.2.1 ++ [_] = _
     rw [List.take_of_length_le (by omega),hq3]
     show _ = List.map bj (List.filter _ (List.take (q.1 + 1) a.cells))
     rw [yu hlt,if_pos hw,List.map_append]; rfl
   ·have hlt : q.1 < a.cells.length:=by simpa using ‹decide ((q.1 : Int) < ((a.cells.map bj).length : Int)) = true›
    show a.cells.length - (q.1 + 1) < a.cells.length - q.1
    omega
   ·have hlt : q.1 < a.cells.length:=by simpa using ‹decide ((q.1 : Int) < ((a.cells.map bj).length : Int)) = true›
    have hw : okV (dB a.dims a.attrs (at_ a.cells q.1).at' (at_ a.cells q.1).vals s) = false:=by simpa [okV] using h
    refine ⟨hlt,hq2,Nat.le_succ_of_le hq4,?_⟩
    show q.2.2 = List.map bj (List.filter _ (List.take (q.1 + 1) a.cells))
    rw [yu hlt,if_neg (by simp [hw]),List.append_nil,hq3]
   ·have hlt : q.1 < a.cells.length:=by simpa using ‹decide ((q.1 : Int) < ((a.cells.map bj).length : Int)) = true›
    show a.cells.length - (q.1 + 1) < a.cells.length - q.1
    omega
   all_goals first | rfl | skip
  ·have hb2 : ((bx a.dims a.attrs a.cells s).1 != 1) = true:=by simp [h1]
   rw [if_pos h1]
   repeat' (first|(refine h1H ?_; (refine h0H ?_; refine ae J J J J J J J J (c20 _ _ _ _) J ?_))|refine wG ?_)
   all_goals first | rfl | skip
 ·have hb1 : ((bx a.dims a.attrs a.cells s).2 != 0) = true:=by simp [ht]
  rw [if_pos ht]
  repeat' (first|(refine h1H ?_; (refine h0H ?_; refine ae J J J J J J J J (c20 _ _ _ _) J ?_))|refine wG ?_)
  all_goals first | rfl | skip
end Go.Proofs.YtpejdgkaapnekaaGreat
namespace Go.Proofs.YtpejdgkaapnekaaGreat
open Go Go.Abs
def mD(k : Nat)(d : Int)(x : List Int) : List Int:=x.set k (at_ x k + d)
def kB(k : Nat)(d : Int)(c : Cell) : Cell:=⟨mD k d c.at',c.vals⟩
theorem xL : ∀ {k : Nat} {d : Int} {x y : List Int},k < x.length→x.length = y.length→aX (mD k d x) (mD k d y) = aX x y
 | _,d,[],_,h,_=>by simp at h
 | _,d,_::_,[],_,h=>by simp at h
 | 0,d,a::x,b::y,_,_=>by
   show aX ((a + d)::x) ((b + d)::y) = _
   simp only [aX]
   by_cases h1 : a < b
   ·rw [if_pos h1,if_pos (by omega)]
   ·rw [if_neg h1,if_neg (by omega)]
    by_cases h2 : b < a
    ·rw [if_pos h2,if_pos (by omega)]
    ·rw [if_neg h2,if_neg (by omega)]
 | k + 1,d,a::x,b::y,h,h'=>by
   have ih:=xL (k:=k) (d:=d) (x:=x) (y:=y) (by simpa using h) (by simpa using h')
   show aX (a::mD k d x) (b::mD k d y) = _
   simp only [aX,ih]
theorem z6{k : Nat}{d : Int}{x : List Int} : (mD k d x).length = x.length:=by simp [mD]
theorem H6{k : Nat}{d : Int}{x : List Int}{i : Nat}(h : i < x.length) : at_ (mD k d x) i = if i = k then at_ x k + d else at_ x i:=sG h
def oe(d : Dim)(b : Int×Int) : Dim:=⟨d.name,max d.lo b.1,min d.hi b.2⟩
def ba(ds : List Dim)(lo hi : List Int) : List Dim:=ds.zipWith oe (lo.zip hi)
def okD(d : Dim) : Bool:=!decide (dv d.hi < d.lo)
def cj(a : Arr)(lo hi : List Int) : Option Arr×Int :=
 if bU a.dims a.attrs a.cells≠0 then (none,2)
 else if (lo.length : Int)≠a.dims.length∨(hi.length : Int)≠a.dims.length then (none,13)
 else if !(ba a.dims lo hi).all okD then (none,3)
 else gf (ba a.dims lo hi) a.attrs (a.cells.filter fun c=>bk (ba a.dims lo hi) c.at')
def byF(a b : Arr)(k : Nat) : Int:=(at_ a.dims k).hi - (at_ b.dims k).lo + 1
def lJ(a b : Arr)(k : Nat) : Dim:=⟨(at_ b.dims k).name,(at_ a.dims k).lo,(at_ b.dims k).hi + byF a b k⟩
structure Cat (a b : Arr) (name : List UInt8) (k : Nat) : Prop where
 oka : OkA a.dims a.attrs a.cells
 okb : OkA b.dims b.attrs b.cells
 hk : k < a.dims.length
 nm : (at_ a.dims k).name = name
 bef : ∀ i,i < k→(at_ a.dims i).name≠name
 len : a.dims.length = b.dims.length
 nms : ∀ i,i < a.dims.length→(at_ a.dims i).name = (at_ b.dims i).name
 oth : ∀ i,i < a.dims.length→i≠k→at_ a.dims i = at_ b.dims i
 ha : (at_ a.dims k).hi≤1073741824
 hb : (at_ b.dims k).hi≤1073741824
 att : a.attrs = b.attrs
 hc : (lJ a b k).hi≤1073741824
section
variable {a b : Arr} {name : List UInt8} {k : Nat}
def fp(a b : Arr)(k : Nat) : Arr:=⟨a.dims.set k (lJ a b k),a.attrs,eo (a.cells ++ b.cells.map (kB k (byF a b k)))⟩
theorem jV{h : Int}(hh : h≤1073741824) : dv h = h:=by unfold dv; omega
theorem Cat.bounds(h : Cat a b name k) : (at_ a.dims k).lo≤(at_ a.dims k).hi∧(at_ b.dims k).lo≤(at_ b.dims k).hi∧-1073741824≤(at_ a.dims k).lo∧-1073741824≤(at_ b.dims k).lo:=by
 have h1:=(h.oka.dims.2.2.1 k h.hk).1
 have h2:=(h.okb.dims.2.2.1 k (by rw [← h.len]; exact h.hk)).1
 omega
theorem Cat.acell(h : Cat a b name k){c : Cell}(hc : c∈a.cells) : c.at'.length = a.dims.length∧c.vals.length = a.attrs.length∧iW a.attrs c.vals = 0∧∀ i,i < a.dims.length→(at_ a.dims i).lo≤at_ c.at' i∧at_ c.at' i≤dv (at_ a.dims i).hi:=by
 obtain ⟨h1,h2,h3,h4⟩:=cellF_ok.1 (h.oka.cel c hc)
 exact ⟨h1,h2,h4,(dF h1).1 h3⟩
theorem Cat.bcell(h : Cat a b name k){c : Cell}(hc : c∈b.cells) : c.at'.length = a.dims.length∧c.vals.length = a.attrs.length∧iW a.attrs c.vals = 0∧∀ i,i < a.dims.length→(at_ b.dims i).lo≤at_ c.at' i∧at_ c.at' i≤dv (at_ b.dims i).hi:=by
 obtain ⟨h1,h2,h3,h4⟩:=cellF_ok.1 (h.okb.cel c hc)
 rw [h.att,h.len]
 exact ⟨h1,h2,h4,(dF h1).1 h3⟩
theorem Cat.moved(h : Cat a b name k){c : Cell}(hc : c∈b.cells){i : Nat}(hi : i < a.dims.length) : at_ (kB k (byF a b k) c).at' i = if i = k then at_ c.at' k + byF a b k else at_ c.at' i :=
 H6 (by rw [(h.bcell hc).1]; exact hi)
theorem Cat.far(h : Cat a b name k){c : Cell}(hc : c∈b.cells) : (at_ a.dims k).hi + 1≤at_ (kB k (byF a b k) c).at' k∧at_ (kB k (byF a b k) c).at' k≤(lJ a b k).hi:=by
 rw [h.moved hc h.hk,if_pos rfl]
 have h1:=(h.bcell hc).2.2.2 k h.hk
 rw [jV h.hb] at h1
 unfold byF lJ byF at *
 dsimp only
 omega
theorem Cat.near(h : Cat a b name k){c : Cell}(hc : c∈a.cells) : at_ c.at' k≤(at_ a.dims k).hi:=by
 have h1:=(h.acell hc).2.2.2 k h.hk
 rw [jV h.ha] at h1
 exact h1.2
theorem Cat.bsrt(h : Cat a b name k) : (b.cells.map (kB k (byF a b k))).Pairwise ltC:=by
 rw [List.pairwise_map]
 refine List.Pairwise.imp_of_mem (fun {x y} hx hy hxy=>?_) h.okb.srt
 have h1:=(h.bcell hx).1
 have h2:=(h.bcell hy).1
 unfold ltC at hxy ⊢
 show aX (mD k _ x.at') (mD k _ y.at') < 0
 rw [xL (by rw [h1]; exact h.hk) (by rw [h1,h2])]
 exact hxy
theorem Cat.diff(h : Cat a b name k) : (a.cells ++ b.cells.map (kB k (byF a b k))).Pairwise ek:=by
 refine List.pairwise_append.2 ⟨fl h.oka.srt,fl h.bsrt,fun x hx y hy e=>?_⟩
 obtain ⟨c,hc,rfl⟩:=List.mem_map.1 hy
 have h1:=h.near hx
 have h2:=(h.far hc).1
 rw [e] at h1
 omega
theorem Cat.cdim(h : Cat a b name k){i : Nat}(hi : i < a.dims.length) : at_ (fp a b k).dims i = if i = k then lJ a b k else at_ a.dims i:=sG hi
theorem vh : ∀ {ds : List Dim} {met : List (List UInt8)},(∀ d∈ds,fj d.lo d.hi = true∧fC d.name = true∧d.name ∉ met)→(ds.map Dim.name).Nodup→fi met ds = 0
 | [],met,_,_=>rfl
 | d::r,met,h,hn=>by
   obtain ⟨h1,h2,h3⟩:=h d List.mem_cons_self
   rw [List.map_cons,List.nodup_cons] at hn
   simp only [fi,h1,h2]
   rw [if_neg (by simp [h3]),if_neg (by simp)]
   refine vh (fun x hx=>?_) hn.2
   obtain ⟨j1,j2,j3⟩:=h x (List.mem_cons_of_mem _ hx)
   refine ⟨j1,j2,fun hm=>?_⟩
   rcases List.mem_append.1 hm with hm | hm
   ·exact j3 hm
   ·have e : x.name = d.name:=by simpa using hm
    exact hn.1 (List.mem_map.2 ⟨x,hx,e⟩)
theorem sH{ds : List Dim}{ats : List Attr}(h1 : 1≤ds.length)(h2 : ds.length≤4)(h3 : ∀ d∈ds,fj d.lo d.hi = true∧fC d.name = true)(h4 : (ds.map Dim.name).Nodup)(h5 : 1≤ats.length)(h6 : ats.length≤6)(h7 : iT (ds.map Dim.name) ats = 0) : cN ds ats = 0:=by
 have hd : du ds = 0:=by
  unfold du
  rw [if_neg (by omega)]
  exact vh (fun d hd=>⟨(h3 d hd).1,(h3 d hd).2,by simp⟩) h4
 unfold cN
 rw [if_neg (by simp [hd]),if_neg (by omega)]
 exact h7
theorem Cat.cnames(h : Cat a b name k) : (fp a b k).dims.map Dim.name = a.dims.map Dim.name:=by
 refine iq (by simp [fp]) fun i hi=>?_
 have hi' : i < a.dims.length:=by simpa [fp] using hi
 rw [jW (by simpa [fp] using hi),jW hi',h.cdim hi']
 split
 ·rename_i e; subst e; exact (h.nms i hi').symm
 ·rfl
theorem Cat.okc(h : Cat a b name k)(hl : a.cells.length + b.cells.length≤4096) : OkA (fp a b k).dims (fp a b k).attrs (fp a b k).cells:=by
 obtain ⟨d1,d2,d3,d4⟩:=h.oka.dims
 obtain ⟨s1,s2,s3,s4⟩:=nW h.oka.sch
 have hcl : (fp a b k).dims.length = a.dims.length:=by simp [fp]
 have hbn:=h.bounds
 refine ⟨sH (by omega) (by omega) (fun d hd=>?_) (by rw [h.cnames]; exact d4) s2 s3 (by rw [h.cnames]; exact s4),?_,jt h.diff,fun c hc=>?_⟩
 ·obtain ⟨i,hi,rfl⟩:=oh hd
  rw [hcl] at hi
  have hh:=h.hc
  obtain ⟨e1,e2⟩:=d3 i hi
  rw [h.cdim hi]
  split
  ·rename_i e; subst e
   refine ⟨boundsF_ok.2 ?_,?_⟩
   ·unfold lJ byF at *; dsimp only at *; omega
   ·show fC (at_ b.dims i).name = true
    rw [← h.nms i hi]; exact e2
  ·exact ⟨boundsF_ok.2 e1,e2⟩
 ·show (eo _).length≤4096
  rw [lg,List.length_append,List.length_map]; exact hl
 ·have hc':=(gO _).mem_iff.1 hc
  rcases List.mem_append.1 hc' with hc' | hc'
  ·obtain ⟨e1,e2,e3,e4⟩:=h.acell hc'
   refine cellF_ok.2 ⟨by rw [hcl]; exact e1,e2,(dF (by rw [hcl]; exact e1)).2 fun i hi=>?_,e3⟩
   rw [hcl] at hi
   rw [h.cdim hi]
   have e5:=e4 i hi
   split
   ·rename_i e; subst e
    rw [jV h.ha] at e5
    rw [jV h.hc]
    unfold lJ byF; dsimp only; omega
   ·exact e5
  ·obtain ⟨c0,hc0,rfl⟩:=List.mem_map.1 hc'
   obtain ⟨e1,e2,e3,e4⟩:=h.bcell hc0
   have hlen : (kB k (byF a b k) c0).at'.length = a.dims.length:=by rw [← e1]; exact z6
   refine cellF_ok.2 ⟨by rw [hcl]; exact hlen,e2,(dF (by rw [hcl]; exact hlen)).2 fun i hi=>?_,e3⟩
   rw [hcl] at hi
   rw [h.cdim hi]
   split
   ·rename_i e; subst e
    have hf:=h.far hc0
    rw [jV h.hc]
    refine ⟨?_,hf.2⟩
    show (at_ a.dims i).lo≤_
    omega
   ·rename_i e
    rw [h.moved hc0 hi,if_neg e,h.oth i hi e]
    exact e4 i hi
theorem Cat.first(h : Cat a b name k)(hl : a.cells.length + b.cells.length≤4096)(h2 : a.cells.length≤4096) :
  cj (fp a b k) ((fp a b k).dims.map Dim.lo) (((fp a b k).dims.map Dim.hi).set k (at_ a.dims k).hi) = (some a,0):=by
 have hcl : (fp a b k).dims.length = a.dims.length:=by simp [fp]
 obtain ⟨d1,d2,d3,d4⟩:=h.oka.dims
 have hbn:=h.bounds
 have hcut : ba (fp a b k).dims ((fp a b k).dims.map Dim.lo) (((fp a b k).dims.map Dim.hi).set k (at_ a.dims k).hi) = a.dims:=by
  refine iq (by simp [ba,hcl]) fun i hi=>?_
  have hi' : i < a.dims.length:=by simp [ba,hcl] at hi; exact hi
  have hi2 : i < (fp a b k).dims.length:=by rw [hcl]; exact hi'
  unfold ba
  rw [lk hi2 (by simp [hcl,hi']),List.zip,lk (by simp [hcl,hi']) (by simp [hcl,hi']),jW hi2,sG (by simp [hcl,hi']),jW hi2,h.cdim hi']
  unfold oe
  by_cases e : i = k
  ·subst e
   rw [if_pos rfl,if_pos rfl]
   refine Dim.ext ?_ ?_ ?_
   ·exact (h.nms i hi').symm
   ·show max (at_ a.dims i).lo (at_ a.dims i).lo = _; omega
   ·show min ((at_ b.dims i).hi + byF a b i) (at_ a.dims i).hi = _; unfold byF; omega
  ·rw [if_neg e,if_neg e]
   refine Dim.ext rfl ?_ ?_
   ·show max _ _ = _; omega
   ·show min _ _ = _; omega
 unfold cj
 rw [if_neg (by rw [o3 (h.okc hl)]; simp),if_neg (by simp),hcut,if_neg ?_]
 ·have hf : (fp a b k).cells.filter (fun c=>bk a.dims c.at') = a.cells:=by
   refine xl _ h.diff h.oka.srt ?_
   rw [List.filter_append,List.filter_eq_self.2 fun c hc=>(dF (h.acell hc).1).2 (h.acell hc).2.2.2,List.filter_eq_nil_iff.2,List.append_nil]
   ·intro c hc hw
    obtain ⟨c0,hc0,rfl⟩:=List.mem_map.1 hc
    have hlen : (kB k (byF a b k) c0).at'.length = a.dims.length:=by rw [← (h.bcell hc0).1]; exact z6
    have h3:=(dF hlen).1 hw k h.hk
    have h4:=(h.far hc0).1
    rw [jV h.ha] at h3
    omega
  rw [hf]
  unfold gf
  rw [if_neg (by omega),lF h.oka.srt]
  rfl
 ·simp only [Bool.not_eq_true',Bool.not_eq_false,List.all_eq_true,okD,decide_eq_false_iff_not]
  intro d hd
  obtain ⟨i,hi,rfl⟩:=oh hd
  have:=(d3 i hi).1
  unfold dv; omega
end
end Go.Proofs.YtpejdgkaapnekaaGreat
namespace Go.Proofs.YtpejdgkaapnekaaGreat
open Go Go.Abs
attribute [local irreducible] aa OkC ak ar al ax
set_option maxRecDepth 10000
def fX(ds : List Dim)(lo hi : List Int)(k : Nat) : List Dim:=(List.range ds.length).map fun i=>if i < k then oe (at_ ds i) (at_ lo i,at_ hi i) else at_ ds i
section
variable {ds : List Dim} {lo hi : List Int} {k : Nat}
theorem j4 : (fX ds lo hi k).length = ds.length:=by simp [fX]
theorem Fa{n i : Nat}(h : i < n) : at_ (List.range n) i = i:=by simp [at_,List.getD_eq_getElem?_getD,h]
theorem nj{i : Nat}(h : i < ds.length) : at_ (fX ds lo hi k) i = if i < k then oe (at_ ds i) (at_ lo i,at_ hi i) else at_ ds i:=by
 unfold fX; rw [jW (by simpa using h),Fa h]
theorem Fb : fX ds lo hi 0 = ds:=iq j4 fun i hi=>by rw [j4] at hi; rw [nj hi,if_neg (by omega)]
theorem jA(hl : lo.length = ds.length)(hh : hi.length = ds.length){i : Nat}(h : i < ds.length) : at_ (ba ds lo hi) i = oe (at_ ds i) (at_ lo i,at_ hi i):=by
 unfold ba
 rw [lk h (by simp; omega),List.zip,lk (by omega) (by omega)]
theorem c9(hl : lo.length = ds.length)(hh : hi.length = ds.length) : (ba ds lo hi).length = ds.length:=by simp [ba]; omega
theorem GM(hl : lo.length = ds.length)(hh : hi.length = ds.length) : fX ds lo hi ds.length = ba ds lo hi:=iq (by rw [j4,c9 hl hh]) fun i hi=>by
 rw [j4] at hi
 rw [nj hi,if_pos hi,jA hl hh hi]
theorem Fc(h : k < ds.length)(x : List D) : (((fX ds lo hi k).map cG).set k x).set k (cG (oe (at_ ds k) (at_ lo k,at_ hi k))) = (fX ds lo hi (k + 1)).map cG:=by
 rw [List.set_set,← List.map_set]
 congr 1
 refine iq (by simp [j4]) fun i hi=>?_
 have hi' : i < ds.length:=by simpa [j4] using hi
 rw [sG (by rw [j4]; exact hi'),nj hi',nj hi']
 by_cases e : i = k
 ·subst e; simp
 ·by_cases h1 : i < k
  ·rw [if_neg e,if_pos h1,if_pos (by omega)]
  ·rw [if_neg e,if_neg h1,if_neg (by omega)]
end
theorem GN{a : Arr}{lo hi : List Int}{k : Nat}(hc : ca a = 0)(hl : lo.length = a.dims.length)(hh : hi.length = a.dims.length)(hk : k < a.dims.length)(hb : dv (min (at_ a.dims k).hi (at_ hi k)) < max (at_ a.dims k).lo (at_ lo k)) : cj a lo hi = (none,3):=by
 unfold cj
 rw [if_neg (by simpa [ca] using hc),if_neg (by omega),if_pos]
 simp only [Bool.not_eq_true',List.all_eq_false]
 have hkc : k < (ba a.dims lo hi).length:=by rw [c9 hl hh]; exact hk
 refine ⟨_,dh hkc,?_⟩
 rw [jA hl hh hk]
 show ¬ (!decide (dv (min (at_ a.dims k).hi (at_ hi k)) < max (at_ a.dims k).lo (at_ lo k))) = true
 simp only [hb,decide_true,Bool.not_true]
 simp
theorem Fe{a : Arr}{lo hi : List Int}(hc : ca a = 0)(hl : lo.length = a.dims.length)(hh : hi.length = a.dims.length)(ho : ∀ i,i < a.dims.length→okD (oe (at_ a.dims i) (at_ lo i,at_ hi i)) = true) :
  cj a lo hi = (some ⟨ba a.dims lo hi,a.attrs,eo (a.cells.filter fun c=>bk (ba a.dims lo hi) c.at')⟩,0):=by
 have hA:=okA hc
 unfold cj
 rw [if_neg (by simpa [ca] using hc),if_neg (by omega),if_neg]
 ·unfold gf
  rw [if_neg]
  have:=List.length_filter_le (fun c : Cell=>bk (ba a.dims lo hi) c.at') a.cells
  have:=hA.few
  omega
 ·simp only [Bool.not_eq_true',Bool.not_eq_false,List.all_eq_true]
  intro d hd
  obtain ⟨i,hi',rfl⟩:=oh hd
  rw [c9 hl hh] at hi'
  rw [jA hl hh hi']
  exact ho i hi'
theorem qW{p : Cell→Bool}{l : List Cell}{k : Nat}(h : k < l.length) : (l.take (k + 1)).filter p = (l.take k).filter p ++ if p (at_ l k) then [at_ l k] else []:=by
 rw [eD h,List.filter_append]
 congr 1
 by_cases hp : p (at_ l k) = true
 ·simp [hp]
 ·simp [hp]
theorem c23(a : Arr)(lo hi : List Int) : CallA Tryz.prog 23 [gh a,.one (.d (az lo)),.one (.d (az hi))] [] (mm (cj a lo hi)) []:=by
 unfold gh
 refine enter af Tryz.func23 rfl (by decide +kernel) rfl fun hok w0 σ0 φ0 M=>?_
 have h1:=hok.2.1.sl; have h2:=hok.2.2.1.sl; clear hok; simp only [List.length_map] at h1 h2; replace h1:=h1.1; replace h2:=h2.1
 by_cases hc : ca a = 0
 ·have hv : (!il [a]) = false:=by simp [il,hc]
  have hA:=okA hc
  have hne : 0 < a.dims.length:=by have:=hA.dims.1; omega
  by_cases hl : lo.length = a.dims.length
  ·have hb1 : (((lo.map aO).length : Int) != ((a.dims.map cG).length : Int)) = false:=by simp [hl]
   by_cases hh : hi.length = a.dims.length
   ·have hb2 : (((hi.map aO).length : Int) != ((a.dims.map cG).length : Int)) = false:=by simp [hh]
    repeat' (first|(refine h1H ?_; (refine h0H ?_; first|refine jX [2] J J J J J J J J J (c96 [a]) J ?_|refine jF 10 [] (rav':=.one (.own 10 a.dims.length)) (JO a.dims hne) J J J J J J trivial ka J J J J ?_))|refine wG ?_|(refine h5H ?_; first|refine ai J (fun h=>?_) (fun h=>?_)|refine cE 7 J [(1,_),(2,_),(3,_),(6,_),(8,_),(39,_)] (q6Q J J J J J J) (fun (p : Nat×List (List D))=>[(40,.one (.d (.int .i64 (p.1 : Int))))]) (fun (p : Nat×List (List D))=>[(10,.row 3 32 p.2),(0,.box [.d (aJ a.dims),.d (aF a.attrs),.d (bR a.cells)]),(1,.box [.d .nil,.d .nil,.d .nil])]) (fun (p : Nat×List (List D))=>p.1≤a.dims.length∧p.2.length = a.dims.length∧p.2 = (fX a.dims lo hi p.1).map cG∧(∀ i,i < p.1→okD (oe (at_ a.dims i) (at_ lo i,at_ hi i)) = true)) (fun (p : Nat×List (List D))=>a.dims.length - p.1) (0,a.dims.map cG) (q1Q J) wK ?_ (fun p ⟨hk,hln,hr,ho⟩=>?_))|(show Exists _; refine Exists.intro ((p.1 + 1,(p.2.set p.1 [.str (at_ (fX a.dims lo hi p.1) p.1).name,.int .i64 (max (at_ (fX a.dims lo hi p.1) p.1).lo (at_ lo p.1)),.int .i64 (at_ (fX a.dims lo hi p.1) p.1).hi]).set p.1 [.str (at_ (fX a.dims lo hi p.1) p.1).name,.int .i64 (max (at_ (fX a.dims lo hi p.1) p.1).lo (at_ lo p.1)),.int .i64 (min (at_ (fX a.dims lo hi p.1) p.1).hi (at_ hi p.1))])) ⟨?_,?_,wK,(q1Q J),(q6Q J J J J J J)⟩))
    ·exact ⟨Nat.zero_le _,by simp,by show _ = List.map cG (fX a.dims lo hi 0); rw [Fb],fun i hi=>absurd hi (Nat.not_lt_zero _)⟩
    ·have hlt : p.1 < a.dims.length:=by simpa using ‹decide ((p.1 : Int) < (a.dims.length : Int)) = true›
     have em : at_ (fX a.dims lo hi p.1) p.1 = at_ a.dims p.1:=by rw [nj hlt,if_neg (Nat.lt_irrefl _)]
     have hb : dv (min (at_ a.dims p.1).hi (at_ hi p.1)) < max (at_ a.dims p.1).lo (at_ lo p.1):=by
      simp only [Int.toNat_natCast,em,decide_eq_true_eq] at h
      exact h
     rw [GN hc hl hh hlt hb]
     rfl
    ·have hlt : p.1 < a.dims.length:=by simpa using ‹decide ((p.1 : Int) < (a.dims.length : Int)) = true›
     have em : at_ (fX a.dims lo hi p.1) p.1 = at_ a.dims p.1:=by rw [nj hlt,if_neg (Nat.lt_irrefl _)]
     have hb : okD (oe (at_ a.dims p.1) (at_ lo p.1,at_ hi p.1)) = true:=by
      simp only [Int.toNat_natCast,em,decide_eq_false_iff_not] at h
      show (!decide (dv (min (at_ a.dims p.1).hi (at_ hi p.1)) < max (at_ a.dims p.1).lo (at_ lo p.1))) = true
      have h' : ¬ dv (min (at_ a.dims p.1).hi (at_ hi p.1)) < max (at_ a.dims p.1).lo (at_ lo p.1):=h
      simp only [h',decide_false,Bool.not_false]
     refine ⟨hlt,by simp [hln],?_,fun i hi'=>?_⟩
     ·show ((p.2.set p.1 _).set p.1 _) = _
      rw [em,hr]
      exact Fc hlt _
     ·rcases Nat.lt_or_ge i p.1 with h3 | h3
      ·exact ho i h3
      ·have : i = p.1:=by have : i < p.1 + 1:=hi'; omega
       rw [this]; exact hb
    ·have hlt : p.1 < a.dims.length:=by simpa using ‹decide ((p.1 : Int) < (a.dims.length : Int)) = true›
     show a.dims.length - (p.1 + 1) < a.dims.length - p.1
     omega
    have hpn : p.1 = a.dims.length:=by
     have : a.dims.length≤p.1:=by simpa using h
     omega
    have hX : p.2.take a.dims.length = (ba a.dims lo hi).map cG:=by rw [List.take_of_length_le (by omega),hr,hpn,GM hl hh]
    have hcl : ∀ i,i < a.cells.length→(at_ a.cells i).at'.length = (ba a.dims lo hi).length:=fun i hi'=>by
     rw [c9 hl hh]; exact (cellF_ok.1 (hA.cel _ (dh hi'))).1
    have hcn : a.cells.length≤4096:=hA.few
    rw [Fe hc hl hh (hpn ▸ ho)]
    have hdf : (a.cells.filter fun c=>bk (ba a.dims lo hi) c.at').Pairwise ek:=(fl hA.srt).filter _
    have hff : (a.cells.filter fun c=>bk (ba a.dims lo hi) c.at').length≤4096:=Nat.le_trans (List.length_filter_le _ _) hcn
    repeat' (first|(refine h1H ?_; (refine h0H ?_; first|refine jX [10] J J J J J J J J J (JP (ba a.dims lo hi) _ _ hX (hcl _ (by first|omega|(simp only [decide_eq_true_eq,decide_eq_false_iff_not,List.length_map] at *; omega)))) J ?_|refine dW 16 [10,12] J J J J J J J J J (G9 (ba a.dims lo hi) a.attrs (a.cells.filter fun c=>bk (ba a.dims lo hi) c.at') _ _ hdf hff hX (by rw [List.take_of_length_le (by omega),hq3,List.take_of_length_le wB])) J J J ?_))|refine wG ?_|(refine h5H ?_; first|refine ai J (fun h=>?_) (fun h=>?_)|refine pJ 15 J (kj (s:=10) (id:=12) (k:=2) (b:=48) J J J J) [(3,_),(6,_),(8,_),(86,_),(87,_)] (q5Q J J J J J) (fun (bN : Bool×Bool) (q : Nat×Nat×List (List D))=>[(10,.one (.own (nmB bN) q.2.1)),(88,.one (.d (.int .i64 (q.1 : Int))))]) (fun (bN : Bool×Bool) (q : Nat×Nat×List (List D))=>[(10,.row 3 32 p.2),((nmB bN),.row 2 48 q.2.2),(0,.box [.d (aJ a.dims),.d (aF a.attrs),.d (bR a.cells)]),(1,.box [.d .nil,.d .nil,.d .nil])]) (fun (q : Nat×Nat×List (List D))=>q.1≤a.cells.length∧q.2.1 = q.2.2.length∧q.2.1≤q.1∧q.2.2 = ((a.cells.take q.1).filter fun c=>bk (ba a.dims lo hi) c.at').map bj) (fun (q : Nat×Nat×List (List D))=>a.cells.length - q.1) (0,0,[]) (q2Q J J) wK (fun b y=>by obtain ⟨b1,b2⟩:=b; cases b1 <;> cases b2 <;> first|exact Imp.refl _|exact pK qN (by kernel_rfl)) ?_ (fun q ⟨hq1,hq2,hq4,hq3⟩=>?_))|(show Exists _; first|refine Exists.intro ((q.1 + 1,q.2.1 + 1,q.2.2.take q.2.1 ++ [bj (at_ a.cells q.1)])) (Exists.intro (false,false) ⟨?_,?_,wK,(q2Q J J),(q5Q J J J J J)⟩)|refine Exists.intro ((q.1 + 1,q.2)) (Exists.intro (false,false) ⟨?_,?_,wK,(q2Q J J),(q5Q J J J J J)⟩)))
    ·exact ⟨Nat.zero_le _,rfl,Nat.le_refl _,by simp⟩
    ·have hlt : q.1 < a.cells.length:=by simpa using ‹decide ((q.1 : Int) < ((a.cells.map bj).length : Int)) = true›
     have hw : bk (ba a.dims lo hi) (at_ a.cells q.1).at' = true:=h
     refine ⟨hlt,?_,Nat.succ_le_succ hq4,?_⟩
     ·show q.2.1 + 1 = (q.2.2.take q.2.1 ++ [_]).length
      rw [List.length_append,List.length_take]; simp [hq2]
     ·show q.2.2.take q.2.1 ++ [_] = _
      rw [List.take_of_length_le (by omega),hq3]
      show _ = List.map bj (List.filter _ (List.take (q.1 + 1) a.cells))
      rw [qW hlt,if_pos hw,List.map_append]; rfl
    ·have hlt : q.1 < a.cells.length:=by simpa using ‹decide ((q.1 : Int) < ((a.cells.map bj).length : Int)) = true›
     show a.cells.length - (q.1 + 1) < a.cells.length - q.1
     omega
    ·have hlt : q.1 < a.cells.length:=by simpa using ‹decide ((q.1 : Int) < ((a.cells.map bj).length : Int)) = true›
     have hw : bk (ba a.dims lo hi) (at_ a.cells q.1).at' = false:=h
     refine ⟨hlt,hq2,Nat.le_succ_of_le hq4,?_⟩
     show q.2.2 = List.map bj (List.filter _ (List.take (q.1 + 1) a.cells))
     rw [qW hlt,if_neg (by simp [hw]),List.append_nil,hq3]
    ·have hlt : q.1 < a.cells.length:=by simpa using ‹decide ((q.1 : Int) < ((a.cells.map bj).length : Int)) = true›
     show a.cells.length - (q.1 + 1) < a.cells.length - q.1
     omega
    ·rfl
   ·have hb2 : (((hi.map aO).length : Int) != ((a.dims.map cG).length : Int)) = true:=by simp; omega
    have e : cj a lo hi = (none,13):=by
     unfold cj
     rw [if_neg (by simpa [ca] using hc),if_pos (by omega)]
    rw [e]
    repeat' (first|(refine h1H ?_; (refine h0H ?_; refine jX [2] J J J J J J J J J (c96 [a]) J ?_))|refine wG ?_)
    all_goals rfl
  ·have hb1 : (((lo.map aO).length : Int) != ((a.dims.map cG).length : Int)) = true:=by simp; omega
   have e : cj a lo hi = (none,13):=by
    unfold cj
    rw [if_neg (by simpa [ca] using hc),if_pos (by omega)]
   rw [e]
   repeat' (first|(refine h1H ?_; (refine h0H ?_; refine jX [2] J J J J J J J J J (c96 [a]) J ?_))|refine wG ?_)
   all_goals rfl
 ·have hv : (!il [a]) = true:=by simp [il,hc]
  have e : cj a lo hi = (none,2):=by
   unfold cj
   rw [if_pos (by simpa [ca] using hc)]
  rw [e]
  repeat' (first|(refine h1H ?_; (refine h0H ?_; refine jX [2] J J J J J J J J J (c96 [a]) J ?_))|refine wG ?_)
  all_goals rfl
end Go.Proofs.YtpejdgkaapnekaaGreat
