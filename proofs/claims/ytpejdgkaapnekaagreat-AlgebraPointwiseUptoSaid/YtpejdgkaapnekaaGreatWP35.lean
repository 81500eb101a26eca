import Derived.Test.YtpejdgkaapnekaaGreatWP25
import Derived.Test.YtpejdgkaapnekaaGreatWP26
import Derived.Test.YtpejdgkaapnekaaGreatWP16
import Derived.Test.YtpejdgkaapnekaaGreatWP17
import Derived.Test.YtpejdgkaapnekaaGreatWKZ
import Derived.Test.YtpejdgkaapnekaaGreatWP20
import Derived.Test.YtpejdgkaapnekaaGreatWP15
import Derived.Test.YtpejdgkaapnekaaGreatWP21
set_option linter.unusedVariables false
set_option linter.unusedSimpArgs false
set_option linter.unnecessarySimpa false
set_option maxHeartbeats 1000000
namespace Go.Proofs.YtpejdgkaapnekaaGreat
open Go Go.Abs
attribute [local irreducible] aa OkC aj av al aB
set_option maxRecDepth 10000
theorem uD{s : Scalar}(h : ec s = 0) : cS s = true∧(aR s).length≤64:=by
 have h3:=qb (aR s) 0 true (by omega)
 unfold ec at h
 split at h
 ·omega
 ·by_cases hc : 64 < ((aR s).length : Int)
  ·rw [h3.1 (by omega)] at h; omega
  ·rw [h3.2 (by omega),Bool.true_and,← wc] at h
   refine ⟨?_,by omega⟩
   cases hp : cS s with
   | true=>rfl
   | false=>rw [hp] at h; simp at h
def aM(ds : List Dim)(ats : List Attr)(cs : List Cell)(s : Scalar) : Int×Int :=
 if bE ds ats cs≠0 then (0,2) else if ec s≠0 then (0,ec s) else bU cv ds ats s
theorem c20(ds : List Dim)(ats : List Attr)(cs : List Cell)(s : Scalar) : CallA Tryz.prog 20 [.agg [.d (aw ds),.d (au ats),.d (aK cs)],cF s] [] (ie (aM ds ats cs s)) []:=by
 refine enter af Tryz.func20 rfl (by decide +kernel) rfl fun hok w0 σ0 φ0 M=>?_
 clear hok
 by_cases h1 : bE ds ats cs = 0
 ·have hb1 : (bE ds ats cs != 0) = false:=by simp [h1]
  by_cases h2 : ec s = 0
  ·have hb2 : (ec s != 0) = false:=by simp [h2]
   obtain ⟨hp,hsz⟩:=uD h2
   have e : aM ds ats cs s = bU cv ds ats s:=by simp [aM,h1,h2]
   rw [e]
   repeat' (first|(refine h1H ?_; (refine h0H ?_; first|refine ab J J J J J J J J (c59 _ _ _) J ?_|refine ab J J J J J J J J (c87 _) J ?_|refine ab J J J J J J J J (c88 _ _ _ _ (by assumption) (by assumption)) J ?_))|refine wG ?_)
   all_goals rfl
  ·have hb2 : (ec s != 0) = true:=by simp [h2]
   have e : aM ds ats cs s = (0,ec s):=by simp [aM,h1,h2]
   rw [e]
   repeat' (first|(refine h1H ?_; (refine h0H ?_; first|refine ab J J J J J J J J (c59 _ _ _) J ?_|refine ab J J J J J J J J (c87 _) J ?_))|refine wG ?_)
   all_goals rfl
 ·have hb1 : (bE ds ats cs != 0) = true:=by simp [h1]
  have e : aM ds ats cs s = (0,2):=by simp [aM,h1]
  rw [e]
  repeat' (first|(refine h1H ?_; (refine h0H ?_; refine ab J J J J J J J J (c59 _ _ _) J ?_))|refine wG ?_)
  all_goals rfl
theorem c21(ds : List Dim)(ats : List Attr)(cs : List Cell)(s : Scalar) : CallA Tryz.prog 21 [.agg [.d (aw ds),.d (au ats),.d (aK cs)],cF s] [] (ie (aM ds ats cs s)) []:=by
 refine enter af Tryz.func21 rfl (by decide +kernel) rfl fun hok w0 σ0 φ0 M=>?_
 clear hok
 have hf:=Eo s
 by_cases h1 : bE ds ats cs = 0
 ·have hb1 : (bE ds ats cs != 0) = false:=by simp [h1]
  by_cases h2 : 12 < cL 12 s
  ·have hb2 : decide (12 < cL 12 s) = true:=by simp [h2]
   rw [if_pos h2] at hf
   have e : aM ds ats cs s = (0,10):=by simp [aM,h1,hf]
   rw [e]
   repeat' (first|(refine h1H ?_; (refine h0H ?_; first|refine ab J J J J J J J J (c89 _ _ _) J ?_|refine ab J J J J J J J J (c90 12 s 12 J (by omega)) J ?_))|refine wG ?_)
   all_goals rfl
  ·have hb2 : decide (12 < cL 12 s) = false:=by simp [h2]
   rw [if_neg h2] at hf
   by_cases h3 : 64 < c6 s 64
   ·have hb3 : decide (64 < c6 s 64) = true:=by simp [h3]
    rw [if_pos h3] at hf
    have e : aM ds ats cs s = (0,9):=by simp [aM,h1,hf]
    rw [e]
    repeat' (first|(refine h1H ?_; (refine h0H ?_; first|refine ab J J J J J J J J (c89 _ _ _) J ?_|refine ab J J J J J J J J (c90 12 s 12 J (by omega)) J ?_|refine ab J J J J J J J J (c91 s 64 (by omega) (by omega)) J ?_))|refine wG ?_)
    all_goals rfl
   ·have hb3 : decide (64 < c6 s 64) = false:=by simp [h3]
    rw [if_neg h3] at hf
    cases hp : cS s with
    | true =>
      have hb4 : (!cS s) = false:=by simp [hp]
      rw [hp,if_pos rfl] at hf
      obtain ⟨_,hsz⟩:=uD hf
      have e : aM ds ats cs s = bU fL ds ats s:=by rw [← Fp s hp]; simp [aM,h1,hf]
      rw [e]
      repeat' (first|(refine h1H ?_; (refine h0H ?_; first|refine ab J J J J J J J J (c89 _ _ _) J ?_|refine ab J J J J J J J J (c90 12 s 12 J (by omega)) J ?_|refine ab J J J J J J J J (c91 s 64 (by omega) (by omega)) J ?_|refine ab J J J J J J J J (c92 _) J ?_|refine ab J J J J J J J J (c93 _ _ _ _ (by assumption) (by assumption)) J ?_))|refine wG ?_)
      all_goals rfl
    | false =>
      have hb4 : (!cS s) = true:=by simp [hp]
      rw [hp] at hf
      have e : aM ds ats cs s = (0,2):=by simp [aM,h1,hf]
      rw [e]
      repeat' (first|(refine h1H ?_; (refine h0H ?_; first|refine ab J J J J J J J J (c89 _ _ _) J ?_|refine ab J J J J J J J J (c90 12 s 12 J (by omega)) J ?_|refine ab J J J J J J J J (c91 s 64 (by omega) (by omega)) J ?_|refine ab J J J J J J J J (c92 _) J ?_))|refine wG ?_)
      all_goals rfl
 ·have hb1 : (bE ds ats cs != 0) = true:=by simp [h1]
  have e : aM ds ats cs s = (0,2):=by simp [aM,h1]
  rw [e]
  repeat' (first|(refine h1H ?_; (refine h0H ?_; refine ab J J J J J J J J (c89 _ _ _) J ?_))|refine wG ?_)
  all_goals rfl
theorem c19 : CallA Tryz.prog 19 [] [] (.one (.d (.bool true))) []:=OA
theorem c3(ds : List Dim)(ats : List Attr)(cs : List Cell)(s : Scalar) : CallA Tryz.prog 3 [.agg [.d (aw ds),.d (au ats),.d (aK cs)],cF s] [] (.one (.d (.bool true))) []:=by
 refine enter af Tryz.func3 rfl (by decide +kernel) rfl fun hok w0 σ0 φ0 M=>?_
 clear hok
 have hb1 : ((aM ds ats cs s).1 == (aM ds ats cs s).1) = true:=by simp
 have hb2 : ((aM ds ats cs s).2 == (aM ds ats cs s).2) = true:=by simp
 repeat' (first|(refine h1H ?_; (refine h0H ?_; first|refine ab J J J J J J J J (c19) J ?_|refine ab J J J J J J J J (c20 _ _ _ _) J ?_|refine ab J J J J J J J J (c21 _ _ _ _) J ?_))|refine wG ?_|(refine h5H ?_; refine ai J (fun h=>?_) (fun h=>?_)))
 all_goals rfl
end Go.Proofs.YtpejdgkaapnekaaGreat
namespace Go.Proofs.YtpejdgkaapnekaaGreat
open Go Go.Abs
def fh : List Int→Int
 | []=>0
 | d::r=>d + 1000000000 * fh r
def Dw(l : List Int) : Prop:=∀ d∈l,0≤d∧d < 1000000000
def dw(n : Nat) : List Int:=if h : n = 0 then [] else ((n % 1000000000 : Nat) : Int)::dw (n / 1000000000)
 termination_by n
 decreasing_by omega
def pu(k : Nat) : Int:=1000000000 ^ k
theorem u9(k : Nat) : pu (k + 1) = 1000000000 * pu k:=by unfold pu; rw [Int.pow_succ,Int.mul_comm]
theorem Bi : pu 0 = 1:=rfl
theorem zC(k : Nat) : 0 < pu k:=by
 induction k with
 | zero=>decide
 | succ k ih=>rw [u9]; omega
theorem J9(a b : Nat) : pu (a + b) = pu a * pu b:=by unfold pu; rw [Int.pow_add]
theorem zD : ∀ {a b : List Int},fh (a ++ b) = fh a + pu a.length * fh b
 | [],b=>by simp [fh,Bi]
 | d::a,b=>by
   simp only [List.cons_append,fh,zD (a:=a) (b:=b),List.length_cons,u9,Int.mul_add,Int.mul_assoc]
   omega
theorem Dw.cons{d : Int}{r : List Int}(h : Dw (d::r)) : (0≤d∧d < 1000000000)∧Dw r:=⟨h d List.mem_cons_self,fun x hx=>h x (List.mem_cons_of_mem _ hx)⟩
theorem Dw.at{l : List Int}(h : Dw l){i : Nat}(hi : i < l.length) : 0≤at_ l i∧at_ l i < 1000000000:=h _ (b9 hi)
theorem Dw.take{l : List Int}(h : Dw l)(n : Nat) : Dw (l.take n):=fun d hd=>h d (List.mem_of_mem_take hd)
theorem Dw.drop{l : List Int}(h : Dw l)(n : Nat) : Dw (l.drop n):=fun d hd=>h d (List.mem_of_mem_drop hd)
theorem va : ∀ {l : List Int},Dw l→0≤fh l∧fh l < pu l.length
 | [],_=>by simp [fh,Bi]
 | d::r,h=>by
   obtain ⟨h1,h2⟩:=h.cons
   have:=va h2
   simp only [fh,List.length_cons,u9]
   omega
theorem Aw : dw 0 = []:=by rw [dw]; simp
theorem pG{n : Nat}(h : n≠0) : dw n = ((n % 1000000000 : Nat) : Int)::dw (n / 1000000000):=by rw [dw]; simp [h]
theorem GU : ∀ (n : Nat),Dw (dw n)∧fh (dw n) = n∧(dw n = []∨at_ (dw n) ((dw n).length - 1)≠0):=by
 intro n
 induction n using Nat.strongRecOn with
 | _ n ih =>
   by_cases h : n = 0
   ·subst h; rw [Aw]; exact ⟨fun d hd=>by simp at hd,rfl,.inl rfl⟩
   ·obtain ⟨i1,i2,i3⟩:=ih (n / 1000000000) (by omega)
    rw [pG h]
    refine ⟨fun d hd=>?_,?_,.inr ?_⟩
    ·rcases List.mem_cons.1 hd with rfl | hd
     ·omega
     ·exact i1 d hd
    ·simp only [fh,i2]; omega
    ·rcases i3 with i3 | i3
     ·rw [i3]
      have h0 : n / 1000000000 = 0:=by rw [i3] at i2; simp only [fh] at i2; omega
      show ((n % 1000000000 : Nat) : Int)≠0
      omega
     ·cases hd : dw (n / 1000000000) with
      | nil =>
        rw [hd] at i2; simp only [fh] at i2
        show ((n % 1000000000 : Nat) : Int)≠0
        omega
      | cons e r =>
        rw [hd] at i3
        show at_ (_::e::r) (r.length + 1)≠0
        exact i3
theorem EN{l : List Int}{k : Nat}(h : k < l.length) : fh (l.take (k + 1)) = fh (l.take k) + pu k * at_ l k:=by
 rw [eL h,zD,List.length_take,Nat.min_eq_left (by omega)]; simp [fh]
theorem Dw.set{l : List Int}{k : Nat}{x : Int}(h : Dw l)(hx : 0≤x∧x < 1000000000) : Dw (l.set k x):=fun d hd=>by
 rcases List.mem_or_eq_of_mem_set hd with hd | rfl
 ·exact h d hd
 ·exact hx
theorem Dw.zeros(n : Nat) : Dw (List.replicate n 0):=fun d hd=>by rw [List.eq_of_mem_replicate hd]; omega
theorem yX{a b : List Int}(ha : Dw a)(hb : Dw b)(hn : b = []∨at_ b (b.length - 1)≠0)(hl : a.length < b.length) : fh a < fh b:=by
 have h1:=(va ha).2
 have hne : b≠[]:=fun e=>by rw [e] at hl; simp at hl
 have hn':=hn.resolve_left hne
 have h2 : fh b = fh (b.take (b.length - 1)) + pu (b.length - 1) * at_ b (b.length - 1):=by
  have:=EN (l:=b) (k:=b.length - 1) (by omega)
  rwa [show b.length - 1 + 1 = b.length by omega,List.take_length] at this
 have h3:=(va (hb.take (b.length - 1))).1
 have h4 : 1≤at_ b (b.length - 1):=by have:=hb.at (i:=b.length - 1) (by omega); omega
 have h5 : pu a.length≤pu (b.length - 1):=by
  obtain ⟨m,hm⟩ : ∃ m,b.length - 1 = a.length + m:=⟨b.length - 1 - a.length,by omega⟩
  rw [hm,J9]
  have:=Int.mul_le_mul_of_nonneg_left (show 1≤pu m by have:=zC m; omega) (Int.le_of_lt (zC a.length))
  omega
 have h6:=Int.mul_le_mul_of_nonneg_left h4 (Int.le_of_lt (zC (b.length - 1)))
 omega
end Go.Proofs.YtpejdgkaapnekaaGreat
namespace Go.Proofs.YtpejdgkaapnekaaGreat
open Go Go.Abs
attribute [local irreducible] aa OkC aj av al aB
set_option maxRecDepth 10000
theorem Fw{m n : Nat}(h : (dw m).length < (dw n).length) : m < n:=by
 obtain ⟨a1,a2,a3⟩:=GU m
 obtain ⟨b1,b2,b3⟩:=GU n
 have:=yX a1 b1 b3 h
 omega
theorem Dw.at'{l : List Int}(h : Dw l)(i : Nat) : 0≤at_ l i∧at_ l i < 1000000000:=by
 by_cases hi : i < l.length
 ·exact h.at hi
 ·rw [ny (Nat.le_of_not_lt hi)]; omega
def dwl(n : Nat) : Nat:=(dw n).length
theorem Hg{m n : Nat}(h : m≤n) : dwl m≤dwl n:=by
 refine Nat.le_of_not_lt fun hc=>?_
 have:=Fw hc; omega
structure Hlv (y r : Nat) (q : Int×Int) : Prop where
 b : 0≤q.1∧q.1≤q.2∧q.2≤999999999
 lo : y * q.1.toNat≤r
 hi : r < y * (q.2.toNat + 1)
theorem DS{n : Nat}(h : n < 1000000000000000000000000000000000000) : dwl n≤4:=by
 refine Nat.le_trans (Hg (show n≤999999999999999999999999999999999999 by omega)) ?_
 unfold dwl
 rw [pG (by omega),show (999999999999999999999999999999999999 : Nat) / 1000000000 = 999999999999999999999999999 from rfl,pG (by omega),show (999999999999999999999999999 : Nat) / 1000000000 = 999999999999999999 from rfl,
  pG (by omega),show (999999999999999999 : Nat) / 1000000000 = 999999999 from rfl,pG (by omega),show (999999999 : Nat) / 1000000000 = 0 from rfl,Aw]
 exact Nat.le_refl _
structure RatW (a1 b1 a2 b2 : Nat) : Prop where
 h1 : 1≤b1∧b1≤1099511627776
 h2 : 1≤b2∧b2≤1099511627776
 l1 : a1≤1099511627776
 l2 : a2≤1099511627776
theorem RatW.len{a1 b1 a2 b2 : Nat}(h : RatW a1 b1 a2 b2) : ((dw a1).length≤400∧(dw b1).length≤400∧(dw a2).length≤400∧(dw b2).length≤400)∧(dw (a1 * b2)).length≤300∧(dw (a2 * b1)).length≤300∧(dw (b1 * b2)).length≤300∧(dw (a1 * b2 + a2 * b1)).length≤300∧(dw (a1 * b2 - a2 * b1)).length≤300∧(dw (a2 * b1 - a1 * b2)).length≤300∧(dw (a1 * a2)).length≤300∧(dw (b1 * a2)).length≤300:=by
 have hm : ∀ {x y : Nat},x≤1099511627776→y≤1099511627776→x * y≤1208925819614629174706176:=fun hx hy=>Nat.mul_le_mul hx hy
 have d : ∀ {x : Nat},x≤1099511627776→(dw x).length≤400:=fun hx=>Nat.le_trans (DS (Nat.lt_of_le_of_lt hx (Nat.lt_of_lt_of_le (Nat.lt_succ_self _) (Nat.le_of_ble_eq_true rfl)))) (by omega)
 have p : ∀ {x : Nat},x≤2417851639229258349412352→(dw x).length≤300:=fun hx=>Nat.le_trans (DS (Nat.lt_of_le_of_lt hx (Nat.lt_of_lt_of_le (Nat.lt_succ_self _) (Nat.le_of_ble_eq_true rfl)))) (by omega)
 have p1:=hm h.l1 h.h2.2
 have p2:=hm h.l2 h.h1.2
 have p3:=hm h.h1.2 h.h2.2
 have p5:=hm h.l1 h.l2
 have p6:=hm h.h1.2 h.l2
 exact ⟨⟨d h.l1,d h.h1.2,d h.l2,d h.h2.2⟩,p (by omega),p (by omega),p (by omega),p (by omega),p (by omega),p (by omega),p (by omega),p (by omega)⟩
theorem NumOk.w{x y : Val}(h : NumOk x)(h' : NumOk y) : RatW (naV x) (dnV x) (naV y) (dnV y):=⟨h.b,h'.b,h.a,h'.a⟩
end Go.Proofs.YtpejdgkaapnekaaGreat
namespace Go.Proofs.YtpejdgkaapnekaaGreat
open Go Go.Abs
end Go.Proofs.YtpejdgkaapnekaaGreat
namespace Go.Proofs.YtpejdgkaapnekaaGreat
open Go Go.Abs
attribute [local irreducible] aa OkC aj av al aB
set_option maxRecDepth 10000
def nE(ds : List Dim)(ats : List Attr)(cs : List Cell)(s : Scalar)(at' : List Int)(vs : List Val) : Val×Int :=
 if (aM ds ats cs s).2≠0 then (lD,(aM ds ats cs s).2) else if ca ds ats at' vs≠0 then (lD,2) else (bS ds ats at' vs s,0)
theorem j6{ds : List Dim}{ats : List Attr}{cs : List Cell}{s : Scalar}(h : (aM ds ats cs s).2 = 0) : bE ds ats cs = 0∧cS s = true∧(aR s).length≤64∧∀ z∈aR s,uC ds ats z:=by
 unfold aM at h
 by_cases h1 : bE ds ats cs = 0
 ·rw [if_neg (by simpa using h1)] at h
  by_cases h2 : ec s = 0
  ·rw [if_neg (by simpa using h2)] at h
   obtain ⟨hp,hsz⟩:=uD h2
   exact ⟨h1,hp,hsz,I9 s hp h⟩
  ·rw [if_pos h2] at h; exact absurd h h2
 ·rw [if_pos h1] at h; simp at h
theorem vO{ds : List Dim}{ats : List Attr}{cs : List Cell}{c : Cell}(h : bE ds ats cs = 0) : bE ds ats [c] = ca ds ats c.at' c.vals:=by
 have hs:=(okA h).sch
 unfold bE
 rw [if_neg (by simpa using hs),if_neg (by simp)]
 simp only [cG]
 split
 ·rfl
 ·rename_i h1; exact (Decidable.not_not.1 h1).symm
theorem FK{ds : List Dim}{ats : List Attr}{at' : List Int}{vs : List Val}(h : ca ds ats at' vs = 0) : at'.length = ds.length∧vs.length = ats.length:=by
 unfold ca at h
 by_cases h1 : (at'.length : Int)≠ds.length∨(vs.length : Int)≠ats.length
 ·rw [if_pos h1] at h; simp at h
 ·omega
theorem Ja(ds : List Dim)(ats : List Attr)(c : Cell)(e : Int)(h : bE ds ats [c] = e) : CallA Tryz.prog 59 [.agg [.d (aw ds),.d (au ats),.d (.sl 2 48 [aJ c])]] [] (.one (.d (.int .i64 e))) []:=by
 subst h; exact c59 ds ats [c]
theorem c38(ds : List Dim)(ats : List Attr)(cs : List Cell)(s : Scalar)(at' : List Int)(vs : List Val) : CallA Tryz.prog 38 [.agg [.d (aw ds),.d (au ats),.d (aK cs)],cF s,.agg [.d (aq at'),.d (aP vs)]] [] (pR (nE ds ats cs s at' vs)) []:=by
 unfold nE
 refine enter af Tryz.func38 rfl (by decide +kernel) rfl fun hok w0 σ0 φ0 M=>?_
 clear hok
 by_cases ht : (aM ds ats cs s).2 = 0
 ·have hb1 : ((aM ds ats cs s).2 != 0) = false:=by simp [ht]
  obtain ⟨hck,hp,hsz,hn⟩:=j6 ht
  rw [if_neg (by simpa using ht)]
  by_cases hc : ca ds ats at' vs = 0
  ·have hb2 : (ca ds ats at' vs != 0) = false:=by simp [hc]
   have hl:=FK hc
   rw [if_neg (by simpa using hc)]
   repeat' (first|(refine h1H ?_; (refine h0H ?_; first|refine eo 40 [4] J J J J J J J J J (Ja ds ats ⟨at',vs⟩ _ (vO hck)) J J J ?_|refine ab J J J J J J J J (c20 _ _ _ _) J ?_|refine ab J J J J J J J J (FL _ _ _ _ _ _ hp hsz hn hl.1 hl.2) J ?_))|refine wG ?_)
   all_goals first | rfl | skip
  ·have hb2 : (ca ds ats at' vs != 0) = true:=by simp [hc]
   rw [if_pos hc]
   repeat' (first|(refine h1H ?_; (refine h0H ?_; first|refine eo 40 [4] J J J J J J J J J (Ja ds ats ⟨at',vs⟩ _ (vO hck)) J J J ?_|refine ab J J J J J J J J (c20 _ _ _ _) J ?_))|refine wG ?_)
   all_goals first | rfl | skip
 ·have hb1 : ((aM ds ats cs s).2 != 0) = true:=by simp [ht]
  rw [if_pos ht]
  repeat' (first|(refine h1H ?_; (refine h0H ?_; refine ab J J J J J J J J (c20 _ _ _ _) J ?_))|refine wG ?_)
  all_goals first | rfl | skip
end Go.Proofs.YtpejdgkaapnekaaGreat
namespace Go.Proofs.YtpejdgkaapnekaaGreat
open Go Go.Abs
attribute [local irreducible] aa OkC aj av al aB
set_option maxRecDepth 10000
section
variable {src : List (Int×Bool)} {c : Cell} {k : Nat}
end
end Go.Proofs.YtpejdgkaapnekaaGreat
namespace Go.Proofs.YtpejdgkaapnekaaGreat
open Go Go.Abs
attribute [local irreducible] aa OkC aj av al aB
set_option maxRecDepth 10000
theorem Ba{α : Type}[Inhabited α](f : α→List D)(l : List α){n : Nat}{r : List (List D)}(h : r = (l.take n).map f)(hlt : n < l.length) : r.take n ++ [f (at_ l n)] = (l.take (n + 1)).map f:=by
 rw [h]; exact w8 f l hlt
section
variable {src kept : List (Int×Bool)} {ds : List Dim} {rule : Int} {c : Cell} {cs cs' l : List Cell} {x : List Int} {j : Nat}
end
end Go.Proofs.YtpejdgkaapnekaaGreat
namespace Go.Proofs.YtpejdgkaapnekaaGreat
open Go Go.Abs
attribute [local irreducible] aa OkC aj av al aB
set_option maxRecDepth 10000
end Go.Proofs.YtpejdgkaapnekaaGreat
namespace Go.Proofs.YtpejdgkaapnekaaGreat
open Go Go.Abs
def bF(x : List Int) : List Cell→Nat
 | []=>0
 | c::r=>if aT c.at' x < 0 then bF x r + 1 else 0
def ba(l : List Cell)(x : List Int) : Bool:=decide (bF x l < l.length) && (aT (at_ l (bF x l)).at' x == 0)
def dx(c : Cell) : List Cell→List Cell
 | []=>[c]
 | x::r=>if aT x.at' c.at' < 0 then x::dx c r else if aT x.at' c.at' = 0 then c::r else c::x::r
theorem xP{x : List Int} : ∀ {l : List Cell},bF x l≤l.length
 | []=>by simp [bF]
 | c::r=>by
   have:=xP (x:=x) (l:=r)
   simp only [bF]
   split <;> simp only [List.length_cons] <;> omega
theorem xQ{x : List Int} : ∀ {l : List Cell} {j : Nat},j < bF x l→aT (at_ l j).at' x < 0
 | [],j,h=>by simp [bF] at h
 | c::r,j,h=>by
   simp only [bF] at h
   split at h
   ·rename_i h1
    cases j with
    | zero=>exact h1
    | succ j=>exact xQ (l:=r) (by omega)
   ·omega
theorem xR{x : List Int} : ∀ {l : List Cell} {j : Nat},l.Pairwise ltC→bF x l≤j→j < l.length→¬ aT (at_ l j).at' x < 0
 | [],j,_,_,h=>by simp at h
 | c::r,j,hs,hp,hj=>by
   rw [List.pairwise_cons] at hs
   simp only [bF] at hp
   split at hp
   ·rename_i h1
    cases j with
    | zero=>omega
    | succ j=>exact xR (l:=r) hs.2 (by omega) (by simpa using hj)
   ·rename_i h1
    cases j with
    | zero=>exact h1
    | succ j =>
      intro h2
      have h3 : ltC c (at_ r j):=hs.1 _ (b9 (by simpa using hj))
      exact h1 (py (x:=c) (y:=at_ r j) (z:=⟨x,[]⟩) h3 h2)
theorem BM{x : List Int}{c : Cell}{r : List Cell} : ba (c::r) x = if aT c.at' x < 0 then ba r x else aT c.at' x == 0:=by
 unfold ba
 simp only [bF]
 split
 ·simp only [List.length_cons,Nat.add_lt_add_iff_right]; rfl
 ·simp only [List.length_cons,Nat.zero_lt_succ,decide_true,Bool.true_and]; rfl
theorem mn{x : List Int} : ∀ {l : List Cell},l.Pairwise ltC→(ba l x = true↔∃ y∈l,y.at' = x)
 | [],_=>by simp [ba]
 | c::r,hs=>by
   rw [List.pairwise_cons] at hs
   rw [BM]
   split
   ·rename_i h1
    rw [mn hs.2]
    constructor
    ·rintro ⟨y,hy,he⟩; exact ⟨y,List.mem_cons_of_mem _ hy,he⟩
    ·rintro ⟨y,hy,he⟩
     rcases List.mem_cons.1 hy with rfl | hy
     ·rw [he,iR] at h1; omega
     ·exact ⟨y,hy,he⟩
   ·rename_i h1
    constructor
    ·intro h; exact ⟨c,List.mem_cons_self,qA _ _ (by simpa using h)⟩
    ·rintro ⟨y,hy,he⟩
     rcases List.mem_cons.1 hy with rfl | hy
     ·rw [he,iR]; rfl
     ·have:=hs.1 y hy
      unfold ltC at this
      rw [he] at this
      exact absurd this h1
end Go.Proofs.YtpejdgkaapnekaaGreat
namespace Go.Proofs.YtpejdgkaapnekaaGreat
open Go Go.Abs
attribute [local irreducible] aa OkC aj av al aB
set_option maxRecDepth 10000
end Go.Proofs.YtpejdgkaapnekaaGreat
namespace Go.Proofs.YtpejdgkaapnekaaGreat
open Go Go.Abs
attribute [local irreducible] aa OkC aj av al aB
set_option maxRecDepth 10000
section
variable {src kept : List (Int×Bool)} {ds : List Dim} {rule : Int} {l l' r : List Cell} {c : Cell}
end
end Go.Proofs.YtpejdgkaapnekaaGreat
namespace Go.Proofs.YtpejdgkaapnekaaGreat
open Go Go.Abs
attribute [local irreducible] aa OkC aj av al aB
set_option maxRecDepth 10000
def okV(v : Val) : Bool:=cT [.int .i64 v.kind,.int .i64 v.num,.int .i64 v.den,.str v.str] [.int .i64 1,.int .i64 1,.int .i64 0,.str []]
def la(a : Arr)(s : Scalar) : Option Arr×Int :=
 if (aM a.dims a.attrs a.cells s).2≠0 then (none,(aM a.dims a.attrs a.cells s).2) else if (aM a.dims a.attrs a.cells s).1≠1 then (none,12)
 else gk a.dims a.attrs (a.cells.filter fun c=>okV (bS a.dims a.attrs c.at' c.vals s))
abbrev qe(a : Arr)(s : Scalar)(l : List Cell) : List Cell:=l.filter fun c=>okV (bS a.dims a.attrs c.at' c.vals s)
theorem y6{p : Cell→Bool}{l : List Cell}{k : Nat}(h : k < l.length) : (l.take (k + 1)).filter p = (l.take k).filter p ++ if p (at_ l k) then [at_ l k] else []:=by
 rw [eL h,List.filter_append]
 congr 1
 by_cases hp : p (at_ l k) = true
 ·simp [hp]
 ·simp [hp]
set_option maxHeartbeats 4000000 in
theorem c26(a : Arr)(s : Scalar) : CallA Tryz.prog 26 [fO a,cF s] [] (nX (la a s)) []:=by
 unfold fO la
 refine enter af Tryz.func26 rfl (by decide +kernel) rfl fun hok w0 σ0 φ0 M=>?_
 clear hok
 by_cases ht : (aM a.dims a.attrs a.cells s).2 = 0
 ·have hb1 : ((aM a.dims a.attrs a.cells s).2 != 0) = false:=by simp [ht]
  obtain ⟨hck,hp,hsz,hn⟩:=j6 ht
  rw [if_neg (by simpa using ht)]
  by_cases h1 : (aM a.dims a.attrs a.cells s).1 = 1
  ·have hb2 : ((aM a.dims a.attrs a.cells s).1 != 1) = false:=by simp [h1]
   rw [if_neg (by simpa using h1)]
   have hA:=okA hck
   have hcl : ∀ i,i < a.cells.length→(at_ a.cells i).at'.length = a.dims.length∧(at_ a.cells i).vals.length = a.attrs.length:=fun i hi =>
    let h:=cellF_ok.1 (hA.cel _ (b9 hi)); ⟨h.1,h.2.1⟩
   have hcn : a.cells.length≤4096:=hA.few
   have hdf : (qe a s a.cells).Pairwise dJ:=(dj hA.srt).filter _
   have hff : (qe a s a.cells).length≤4096:=Nat.le_trans (List.length_filter_le _ _) hcn
   have er : gk a.dims a.attrs (qe a s a.cells) = (some ⟨a.dims,a.attrs,dn (qe a s a.cells)⟩,0):=by unfold gk; rw [if_neg (by omega)]
   rw [er]
   repeat' (first|(refine h1H ?_; (refine h0H ?_; first|refine eo 40 [10] J J J J J J J J J (EU a.dims a.attrs (qe a s a.cells) _ _ hdf hff J (by rw [List.take_of_length_le (by omega),hq3,List.take_of_length_le wB])) J J J ?_|refine ab J J J J J J J J (c20 _ _ _ _) J ?_|refine ab J J J J J J J J (FL _ _ _ _ _ _ hp hsz hn (hcl _ wB).1 (hcl _ wB).2) J ?_))|refine wG ?_|(refine h5H ?_; first|refine ai J (fun h=>?_) (fun h=>?_)|refine ql 8 J (mg (s:=8) (id:=10) (k:=2) (b:=48) J J J J) [(2,_),(3,_),(4,_),(27,_),(28,_)] (q5Q J J J J J) (fun (bN : Bool×Bool) (q : Nat×Nat×List (List D))=>[(8,.one (.own (nmA bN) q.2.1)),(29,.one (.d (.int .i64 (q.1 : Int))))]) (fun (bN : Bool×Bool) (q : Nat×Nat×List (List D))=>[((nmA bN),.row 2 48 q.2.2),(0,.box [.d (aw a.dims),.d (au a.attrs),.d (aK a.cells)]),(1,.box [.d (.int .i64 s.op),.d (.str s.name),.d (.int .i64 s.val.kind),.d (.int .i64 s.val.num),.d (.int .i64 s.val.den),.d (.str s.val.str),.d (bA s.args)]),(2,.box [.d .nil,.d .nil,.d .nil])]) (fun (q : Nat×Nat×List (List D))=>q.1≤a.cells.length∧q.2.1 = q.2.2.length∧q.2.1≤q.1∧q.2.2 = (qe a s (a.cells.take q.1)).map aJ) (fun (q : Nat×Nat×List (List D))=>a.cells.length - q.1) (0,0,[]) (q2Q J J) wK (fun b y=>by obtain ⟨b1,b2⟩:=b; cases b1 <;> cases b2 <;> first|exact Imp.refl _|exact qm qN (by kernel_rfl)) ?_ (fun q ⟨hq1,hq2,hq4,hq3⟩=>?_))|(show Exists _; first|refine Exists.intro ((q.1 + 1,q.2.1 + 1,q.2.2.take q.2.1 ++ [aJ (at_ a.cells q.1)])) (Exists.intro (false,false) ⟨?_,?_,wK,(q2Q J J),(q5Q J J J J J)⟩)|refine Exists.intro ((q.1 + 1,q.2)) (Exists.intro (false,false) ⟨?_,?_,wK,(q2Q J J),(q5Q J J J J J)⟩)))
   ·exact ⟨Nat.zero_le _,rfl,Nat.le_refl _,by simp [qe]⟩
   ·have hlt : q.1 < a.cells.length:=by simpa using ‹decide ((q.1 : Int) < ((a.cells.map aJ).length : Int)) = true›
    have hw : okV (bS a.dims a.attrs (at_ a.cells q.1).at' (at_ a.cells q.1).vals s) = true:=by simpa [okV] using h
    refine ⟨hlt,?_,Nat.succ_le_succ hq4,?_⟩
    ·show q.2.1 + 1 = (q.2.2.take q.2.1 ++ [_]).length
     rw [List.length_append,List.length_take]; simp [hq2]
    ·show q.2.2.take q.2.1 ++ [_] = _
     rw [List.take_of_length_le (by omega),hq3]
     show _ = List.map aJ (List.filter _ (List.take (q.1 + 1) a.cells))
     rw [y6 hlt,if_pos hw,List.map_append]; rfl
   ·have hlt : q.1 < a.cells.length:=by simpa using ‹decide ((q.1 : Int) < ((a.cells.map aJ).length : Int)) = true›
    show a.cells.length - (q.1 + 1) < a.cells.length - q.1
    omega
   ·have hlt : q.1 < a.cells.length:=by simpa using ‹decide ((q.1 : Int) < ((a.cells.map aJ).length : Int)) = true›
    have hw : okV (bS a.dims a.attrs (at_ a.cells q.1).at' (at_ a.cells q.1).vals s) = false:=by simpa [okV] using h
    refine ⟨hlt,hq2,Nat.le_succ_of_le hq4,?_⟩
    show q.2.2 = List.map aJ (List.filter _ (List.take (q.1 + 1) a.cells))
    rw [y6 hlt,if_neg (by simp [hw]),List.append_nil,hq3]
   ·have hlt : q.1 < a.cells.length:=by simpa using ‹decide ((q.1 : Int) < ((a.cells.map aJ).length : Int)) = true›
    show a.cells.length - (q.1 + 1) < a.cells.length - q.1
    omega
   all_goals first | rfl | skip
  ·have hb2 : ((aM a.dims a.attrs a.cells s).1 != 1) = true:=by simp [h1]
   rw [if_pos h1]
   repeat' (first|(refine h1H ?_; (refine h0H ?_; refine ab J J J J J J J J (c20 _ _ _ _) J ?_))|refine wG ?_)
   all_goals first | rfl | skip
 ·have hb1 : ((aM a.dims a.attrs a.cells s).2 != 0) = true:=by simp [ht]
  rw [if_pos ht]
  repeat' (first|(refine h1H ?_; (refine h0H ?_; refine ab J J J J J J J J (c20 _ _ _ _) J ?_))|refine wG ?_)
  all_goals first | rfl | skip
end Go.Proofs.YtpejdgkaapnekaaGreat
namespace Go.Proofs.YtpejdgkaapnekaaGreat
open Go Go.Abs
def mR(k : Nat)(d : Int)(x : List Int) : List Int:=x.set k (at_ x k + d)
def kK(k : Nat)(d : Int)(c : Cell) : Cell:=⟨mR k d c.at',c.vals⟩
theorem yA : ∀ {k : Nat} {d : Int} {x y : List Int},k < x.length→x.length = y.length→aT (mR k d x) (mR k d y) = aT x y
 | _,d,[],_,h,_=>by simp at h
 | _,d,_::_,[],_,h=>by simp at h
 | 0,d,a::x,b::y,_,_=>by
   show aT ((a + d)::x) ((b + d)::y) = _
   simp only [aT]
   by_cases h1 : a < b
   ·rw [if_pos h1,if_pos (by omega)]
   ·rw [if_neg h1,if_neg (by omega)]
    by_cases h2 : b < a
    ·rw [if_pos h2,if_pos (by omega)]
    ·rw [if_neg h2,if_neg (by omega)]
 | k + 1,d,a::x,b::y,h,h'=>by
   have ih:=yA (k:=k) (d:=d) (x:=x) (y:=y) (by simpa using h) (by simpa using h')
   show aT (a::mR k d x) (b::mR k d y) = _
   simp only [aT,ih]
theorem AQ{k : Nat}{d : Int}{x : List Int} : (mR k d x).length = x.length:=by simp [mR]
theorem Jo{k : Nat}{d : Int}{x : List Int}{i : Nat}(h : i < x.length) : at_ (mR k d x) i = if i = k then at_ x k + d else at_ x i:=tf h
def oL(d : Dim)(b : Int×Int) : Dim:=⟨d.name,max d.lo b.1,min d.hi b.2⟩
def bM(ds : List Dim)(lo hi : List Int) : List Dim:=ds.zipWith oL (lo.zip hi)
def okD(d : Dim) : Bool:=!decide (da d.hi < d.lo)
def fP(a : Arr)(lo hi : List Int) : Option Arr×Int :=
 if bE a.dims a.attrs a.cells≠0 then (none,2)
 else if (lo.length : Int)≠a.dims.length∨(hi.length : Int)≠a.dims.length then (none,13)
 else if !(bM a.dims lo hi).all okD then (none,3)
 else gk (bM a.dims lo hi) a.attrs (a.cells.filter fun c=>bt (bM a.dims lo hi) c.at')
def byF(a b : Arr)(k : Nat) : Int:=(at_ a.dims k).hi - (at_ b.dims k).lo + 1
def lY(a b : Arr)(k : Nat) : Dim:=⟨(at_ b.dims k).name,(at_ a.dims k).lo,(at_ b.dims k).hi + byF a b k⟩
structure Cat (a b : Arr) (name : List UInt8) (k : Nat) : Prop where
 oka : OkA a.dims a.attrs a.cells
 okb : OkA b.dims b.attrs b.cells
 hk : k < a.dims.length
 nm : (at_ a.dims k).name = name
 bef : ∀ i,i < k→(at_ a.dims i).name≠name
 len : a.dims.length = b.dims.length
 nms : ∀ i,i < a.dims.length→(at_ a.dims i).name = (at_ b.dims i).name
 oth : ∀ i,i < a.dims.length→i≠k→at_ a.dims i = at_ b.dims i
 ha : (at_ a.dims k).hi≤1073741824
 hb : (at_ b.dims k).hi≤1073741824
 att : a.attrs = b.attrs
 hc : (lY a b k).hi≤1073741824
section
variable {a b : Arr} {name : List UInt8} {k : Nat}
def fD(a b : Arr)(k : Nat) : Arr:=⟨a.dims.set k (lY a b k),a.attrs,dn (a.cells ++ b.cells.map (kK k (byF a b k)))⟩
theorem kb{h : Int}(hh : h≤1073741824) : da h = h:=by unfold da; omega
theorem Cat.bounds(h : Cat a b name k) : (at_ a.dims k).lo≤(at_ a.dims k).hi∧(at_ b.dims k).lo≤(at_ b.dims k).hi∧-1073741824≤(at_ a.dims k).lo∧-1073741824≤(at_ b.dims k).lo:=by
 have h1:=(h.oka.dims.2.2.1 k h.hk).1
 have h2:=(h.okb.dims.2.2.1 k (by rw [← h.len]; exact h.hk)).1
 omega
theorem Cat.acell(h : Cat a b name k){c : Cell}(hc : c∈a.cells) : c.at'.length = a.dims.length∧c.vals.length = a.attrs.length∧fV a.attrs c.vals = 0∧∀ i,i < a.dims.length→(at_ a.dims i).lo≤at_ c.at' i∧at_ c.at' i≤da (at_ a.dims i).hi:=by
 obtain ⟨h1,h2,h3,h4⟩:=cellF_ok.1 (h.oka.cel c hc)
 exact ⟨h1,h2,h4,(cA h1).1 h3⟩
theorem Cat.bcell(h : Cat a b name k){c : Cell}(hc : c∈b.cells) : c.at'.length = a.dims.length∧c.vals.length = a.attrs.length∧fV a.attrs c.vals = 0∧∀ i,i < a.dims.length→(at_ b.dims i).lo≤at_ c.at' i∧at_ c.at' i≤da (at_ b.dims i).hi:=by
 obtain ⟨h1,h2,h3,h4⟩:=cellF_ok.1 (h.okb.cel c hc)
 rw [h.att,h.len]
 exact ⟨h1,h2,h4,(cA h1).1 h3⟩
theorem Cat.moved(h : Cat a b name k){c : Cell}(hc : c∈b.cells){i : Nat}(hi : i < a.dims.length) : at_ (kK k (byF a b k) c).at' i = if i = k then at_ c.at' k + byF a b k else at_ c.at' i :=
 Jo (by rw [(h.bcell hc).1]; exact hi)
theorem Cat.far(h : Cat a b name k){c : Cell}(hc : c∈b.cells) : (at_ a.dims k).hi + 1≤at_ (kK k (byF a b k) c).at' k∧at_ (kK k (byF a b k) c).at' k≤(lY a b k).hi:=by
 rw [h.moved hc h.hk,if_pos rfl]
 have h1:=(h.bcell hc).2.2.2 k h.hk
 rw [kb h.hb] at h1
 unfold byF lY byF at *
 dsimp only
 omega
theorem Cat.near(h : Cat a b name k){c : Cell}(hc : c∈a.cells) : at_ c.at' k≤(at_ a.dims k).hi:=by
 have h1:=(h.acell hc).2.2.2 k h.hk
 rw [kb h.ha] at h1
 exact h1.2
theorem Cat.bsrt(h : Cat a b name k) : (b.cells.map (kK k (byF a b k))).Pairwise ltC:=by
 rw [List.pairwise_map]
 refine List.Pairwise.imp_of_mem (fun {x y} hx hy hxy=>?_) h.okb.srt
 have h1:=(h.bcell hx).1
 have h2:=(h.bcell hy).1
 unfold ltC at hxy ⊢
 show aT (mR k _ x.at') (mR k _ y.at') < 0
 rw [yA (by rw [h1]; exact h.hk) (by rw [h1,h2])]
 exact hxy
theorem Cat.diff(h : Cat a b name k) : (a.cells ++ b.cells.map (kK k (byF a b k))).Pairwise dJ:=by
 refine List.pairwise_append.2 ⟨dj h.oka.srt,dj h.bsrt,fun x hx y hy e=>?_⟩
 obtain ⟨c,hc,rfl⟩:=List.mem_map.1 hy
 have h1:=h.near hx
 have h2:=(h.far hc).1
 rw [e] at h1
 omega
theorem Cat.cdim(h : Cat a b name k){i : Nat}(hi : i < a.dims.length) : at_ (fD a b k).dims i = if i = k then lY a b k else at_ a.dims i:=tf hi
theorem vQ : ∀ {ds : List Dim} {met : List (List UInt8)},(∀ d∈ds,ep d.lo d.hi = true∧cJ d.name = true∧d.name ∉ met)→(ds.map Dim.name).Nodup→fB met ds = 0
 | [],met,_,_=>rfl
 | d::r,met,h,hn=>by
   obtain ⟨h1,h2,h3⟩:=h d List.mem_cons_self
   rw [List.map_cons,List.nodup_cons] at hn
   simp only [fB,h1,h2]
   rw [if_neg (by simp [h3]),if_neg (by simp)]
   refine vQ (fun x hx=>?_) hn.2
   obtain ⟨j1,j2,j3⟩:=h x (List.mem_cons_of_mem _ hx)
   refine ⟨j1,j2,fun hm=>?_⟩
   rcases List.mem_append.1 hm with hm | hm
   ·exact j3 hm
   ·have e : x.name = d.name:=by simpa using hm
    exact hn.1 (List.mem_map.2 ⟨x,hx,e⟩)
theorem lg{ds : List Dim}{ats : List Attr}(h1 : 1≤ds.length)(h2 : ds.length≤4)(h3 : ∀ d∈ds,ep d.lo d.hi = true∧cJ d.name = true)(h4 : (ds.map Dim.name).Nodup)(h5 : 1≤ats.length)(h6 : ats.length≤6)(h7 : eM (ds.map Dim.name) ats = 0) : cP ds ats = 0:=by
 have hd : dC ds = 0:=by
  unfold dC
  rw [if_neg (by omega)]
  exact vQ (fun d hd=>⟨(h3 d hd).1,(h3 d hd).2,by simp⟩) h4
 unfold cP
 rw [if_neg (by simp [hd]),if_neg (by omega)]
 exact h7
theorem Cat.cnames(h : Cat a b name k) : (fD a b k).dims.map Dim.name = a.dims.map Dim.name:=by
 refine gU (by simp [fD]) fun i hi=>?_
 have hi' : i < a.dims.length:=by simpa [fD] using hi
 rw [cZ (by simpa [fD] using hi),cZ hi',h.cdim hi']
 split
 ·rename_i e; subst e; exact (h.nms i hi').symm
 ·rfl
theorem Cat.okc(h : Cat a b name k)(hl : a.cells.length + b.cells.length≤4096) : OkA (fD a b k).dims (fD a b k).attrs (fD a b k).cells:=by
 obtain ⟨d1,d2,d3,d4⟩:=h.oka.dims
 obtain ⟨s1,s2,s3,s4⟩:=c9 h.oka.sch
 have hcl : (fD a b k).dims.length = a.dims.length:=by simp [fD]
 have hbn:=h.bounds
 refine ⟨lg (by omega) (by omega) (fun d hd=>?_) (by rw [h.cnames]; exact d4) s2 s3 (by rw [h.cnames]; exact s4),?_,gS h.diff,fun c hc=>?_⟩
 ·obtain ⟨i,hi,rfl⟩:=fg hd
  rw [hcl] at hi
  have hh:=h.hc
  obtain ⟨e1,e2⟩:=d3 i hi
  rw [h.cdim hi]
  split
  ·rename_i e; subst e
   refine ⟨boundsF_ok.2 ?_,?_⟩
   ·unfold lY byF at *; dsimp only at *; omega
   ·show cJ (at_ b.dims i).name = true
    rw [← h.nms i hi]; exact e2
  ·exact ⟨boundsF_ok.2 e1,e2⟩
 ·show (dn _).length≤4096
  rw [jk,List.length_append,List.length_map]; exact hl
 ·have hc':=(fN _).mem_iff.1 hc
  rcases List.mem_append.1 hc' with hc' | hc'
  ·obtain ⟨e1,e2,e3,e4⟩:=h.acell hc'
   refine cellF_ok.2 ⟨by rw [hcl]; exact e1,e2,(cA (by rw [hcl]; exact e1)).2 fun i hi=>?_,e3⟩
   rw [hcl] at hi
   rw [h.cdim hi]
   have e5:=e4 i hi
   split
   ·rename_i e; subst e
    rw [kb h.ha] at e5
    rw [kb h.hc]
    unfold lY byF; dsimp only; omega
   ·exact e5
  ·obtain ⟨c0,hc0,rfl⟩:=List.mem_map.1 hc'
   obtain ⟨e1,e2,e3,e4⟩:=h.bcell hc0
   have hlen : (kK k (byF a b k) c0).at'.length = a.dims.length:=by rw [← e1]; exact AQ
   refine cellF_ok.2 ⟨by rw [hcl]; exact hlen,e2,(cA (by rw [hcl]; exact hlen)).2 fun i hi=>?_,e3⟩
   rw [hcl] at hi
   rw [h.cdim hi]
   split
   ·rename_i e; subst e
    have hf:=h.far hc0
    rw [kb h.hc]
    refine ⟨?_,hf.2⟩
    show (at_ a.dims i).lo≤_
    omega
   ·rename_i e
    rw [h.moved hc0 hi,if_neg e,h.oth i hi e]
    exact e4 i hi
theorem Cat.first(h : Cat a b name k)(hl : a.cells.length + b.cells.length≤4096)(h2 : a.cells.length≤4096) :
  fP (fD a b k) ((fD a b k).dims.map Dim.lo) (((fD a b k).dims.map Dim.hi).set k (at_ a.dims k).hi) = (some a,0):=by
 have hcl : (fD a b k).dims.length = a.dims.length:=by simp [fD]
 obtain ⟨d1,d2,d3,d4⟩:=h.oka.dims
 have hbn:=h.bounds
 have hcut : bM (fD a b k).dims ((fD a b k).dims.map Dim.lo) (((fD a b k).dims.map Dim.hi).set k (at_ a.dims k).hi) = a.dims:=by
  refine gU (by simp [bM,hcl]) fun i hi=>?_
  have hi' : i < a.dims.length:=by simp [bM,hcl] at hi; exact hi
  have hi2 : i < (fD a b k).dims.length:=by rw [hcl]; exact hi'
  unfold bM
  rw [pH hi2 (by simp [hcl,hi']),List.zip,pH (by simp [hcl,hi']) (by simp [hcl,hi']),cZ hi2,tf (by simp [hcl,hi']),cZ hi2,h.cdim hi']
  unfold oL
  by_cases e : i = k
  ·subst e
   rw [if_pos rfl,if_pos rfl]
   refine Dim.ext ?_ ?_ ?_
   ·exact (h.nms i hi').symm
   ·show max (at_ a.dims i).lo (at_ a.dims i).lo = _; omega
   ·show min ((at_ b.dims i).hi + byF a b i) (at_ a.dims i).hi = _; unfold byF; omega
  ·rw [if_neg e,if_neg e]
   refine Dim.ext rfl ?_ ?_
   ·show max _ _ = _; omega
   ·show min _ _ = _; omega
 unfold fP
 rw [if_neg (by rw [kH (h.okc hl)]; simp),if_neg (by simp),hcut,if_neg ?_]
 ·have hf : (fD a b k).cells.filter (fun c=>bt a.dims c.at') = a.cells:=by
   refine xV _ h.diff h.oka.srt ?_
   rw [List.filter_append,List.filter_eq_self.2 fun c hc=>(cA (h.acell hc).1).2 (h.acell hc).2.2.2,List.filter_eq_nil_iff.2,List.append_nil]
   ·intro c hc hw
    obtain ⟨c0,hc0,rfl⟩:=List.mem_map.1 hc
    have hlen : (kK k (byF a b k) c0).at'.length = a.dims.length:=by rw [← (h.bcell hc0).1]; exact AQ
    have h3:=(cA hlen).1 hw k h.hk
    have h4:=(h.far hc0).1
    rw [kb h.ha] at h3
    omega
  rw [hf]
  unfold gk
  rw [if_neg (by omega),oA h.oka.srt]
  rfl
 ·simp only [Bool.not_eq_true',Bool.not_eq_false,List.all_eq_true,okD,decide_eq_false_iff_not]
  intro d hd
  obtain ⟨i,hi,rfl⟩:=fg hd
  have:=(d3 i hi).1
  unfold da; omega
end
end Go.Proofs.YtpejdgkaapnekaaGreat
namespace Go.Proofs.YtpejdgkaapnekaaGreat
open Go Go.Abs
attribute [local irreducible] aa OkC aj av al aB
set_option maxRecDepth 10000
def gx(ds : List Dim)(lo hi : List Int)(k : Nat) : List Dim:=(List.range ds.length).map fun i=>if i < k then oL (at_ ds i) (at_ lo i,at_ hi i) else at_ ds i
section
variable {ds : List Dim} {lo hi : List Int} {k : Nat}
theorem kf : (gx ds lo hi k).length = ds.length:=by simp [gx]
theorem Gb{n i : Nat}(h : i < n) : at_ (List.range n) i = i:=by simp [at_,List.getD_eq_getElem?_getD,h]
theorem nJ{i : Nat}(h : i < ds.length) : at_ (gx ds lo hi k) i = if i < k then oL (at_ ds i) (at_ lo i,at_ hi i) else at_ ds i:=by
 unfold gx; rw [cZ (by simpa using h),Gb h]
theorem Gc : gx ds lo hi 0 = ds:=gU kf fun i hi=>by rw [kf] at hi; rw [nJ hi,if_neg (by omega)]
theorem nD(hl : lo.length = ds.length)(hh : hi.length = ds.length){i : Nat}(h : i < ds.length) : at_ (bM ds lo hi) i = oL (at_ ds i) (at_ lo i,at_ hi i):=by
 unfold bM
 rw [pH h (by simp; omega),List.zip,pH (by omega) (by omega)]
theorem eu(hl : lo.length = ds.length)(hh : hi.length = ds.length) : (bM ds lo hi).length = ds.length:=by simp [bM]; omega
theorem HX(hl : lo.length = ds.length)(hh : hi.length = ds.length) : gx ds lo hi ds.length = bM ds lo hi:=gU (by rw [kf,eu hl hh]) fun i hi=>by
 rw [kf] at hi
 rw [nJ hi,if_pos hi,nD hl hh hi]
theorem Gd(h : k < ds.length)(x : List D) : (((gx ds lo hi k).map dD).set k x).set k (dD (oL (at_ ds k) (at_ lo k,at_ hi k))) = (gx ds lo hi (k + 1)).map dD:=by
 rw [List.set_set,← List.map_set]
 congr 1
 refine gU (by simp [kf]) fun i hi=>?_
 have hi' : i < ds.length:=by simpa [kf] using hi
 rw [tf (by rw [kf]; exact hi'),nJ hi',nJ hi']
 by_cases e : i = k
 ·subst e; simp
 ·by_cases h1 : i < k
  ·rw [if_neg e,if_pos h1,if_pos (by omega)]
  ·rw [if_neg e,if_neg h1,if_neg (by omega)]
end
theorem HY{a : Arr}{lo hi : List Int}{k : Nat}(hc : dB a = 0)(hl : lo.length = a.dims.length)(hh : hi.length = a.dims.length)(hk : k < a.dims.length)(hb : da (min (at_ a.dims k).hi (at_ hi k)) < max (at_ a.dims k).lo (at_ lo k)) : fP a lo hi = (none,3):=by
 unfold fP
 rw [if_neg (by simpa [dB] using hc),if_neg (by omega),if_pos]
 simp only [Bool.not_eq_true',List.all_eq_false]
 have hkc : k < (bM a.dims lo hi).length:=by rw [eu hl hh]; exact hk
 refine ⟨_,b9 hkc,?_⟩
 rw [nD hl hh hk]
 show ¬ (!decide (da (min (at_ a.dims k).hi (at_ hi k)) < max (at_ a.dims k).lo (at_ lo k))) = true
 simp only [hb,decide_true,Bool.not_true]
 simp
theorem Ge{a : Arr}{lo hi : List Int}(hc : dB a = 0)(hl : lo.length = a.dims.length)(hh : hi.length = a.dims.length)(ho : ∀ i,i < a.dims.length→okD (oL (at_ a.dims i) (at_ lo i,at_ hi i)) = true) :
  fP a lo hi = (some ⟨bM a.dims lo hi,a.attrs,dn (a.cells.filter fun c=>bt (bM a.dims lo hi) c.at')⟩,0):=by
 have hA:=okA hc
 unfold fP
 rw [if_neg (by simpa [dB] using hc),if_neg (by omega),if_neg]
 ·unfold gk
  rw [if_neg]
  have:=List.length_filter_le (fun c : Cell=>bt (bM a.dims lo hi) c.at') a.cells
  have:=hA.few
  omega
 ·simp only [Bool.not_eq_true',Bool.not_eq_false,List.all_eq_true]
  intro d hd
  obtain ⟨i,hi',rfl⟩:=fg hd
  rw [eu hl hh] at hi'
  rw [nD hl hh hi']
  exact ho i hi'
theorem rB{p : Cell→Bool}{l : List Cell}{k : Nat}(h : k < l.length) : (l.take (k + 1)).filter p = (l.take k).filter p ++ if p (at_ l k) then [at_ l k] else []:=by
 rw [eL h,List.filter_append]
 congr 1
 by_cases hp : p (at_ l k) = true
 ·simp [hp]
 ·simp [hp]
theorem c23(a : Arr)(lo hi : List Int) : CallA Tryz.prog 23 [fO a,.one (.d (aq lo)),.one (.d (aq hi))] [] (nX (fP a lo hi)) []:=by
 unfold fO
 refine enter af Tryz.func23 rfl (by decide +kernel) rfl fun hok w0 σ0 φ0 M=>?_
 have h1:=hok.2.1.sl; have h2:=hok.2.2.1.sl; clear hok; simp only [List.length_map] at h1 h2; replace h1:=h1.1; replace h2:=h2.1
 by_cases hc : dB a = 0
 ·have hv : (!dy [a]) = false:=by simp [dy,hc]
  have hA:=okA hc
  have hne : 0 < a.dims.length:=by have:=hA.dims.1; omega
  by_cases hl : lo.length = a.dims.length
  ·have hb1 : (((lo.map b0).length : Int) != ((a.dims.map dD).length : Int)) = false:=by simp [hl]
   by_cases hh : hi.length = a.dims.length
   ·have hb2 : (((hi.map b0).length : Int) != ((a.dims.map dD).length : Int)) = false:=by simp [hh]
    repeat' (first|(refine h1H ?_; (refine h0H ?_; first|refine gW [2] J J J J J J J J J (c96 [a]) J ?_|refine jO 10 [] (rav':=.one (.own 10 a.dims.length)) (Lo a.dims hne) J J J J J J trivial kn J J J J ?_))|refine wG ?_|(refine h5H ?_; first|refine ai J (fun h=>?_) (fun h=>?_)|refine bG 7 J [(1,_),(2,_),(3,_),(6,_),(8,_),(39,_)] (q6Q J J J J J J) (fun (p : Nat×List (List D))=>[(40,.one (.d (.int .i64 (p.1 : Int))))]) (fun (p : Nat×List (List D))=>[(10,.row 3 32 p.2),(0,.box [.d (aw a.dims),.d (au a.attrs),.d (aK a.cells)]),(1,.box [.d .nil,.d .nil,.d .nil])]) (fun (p : Nat×List (List D))=>p.1≤a.dims.length∧p.2.length = a.dims.length∧p.2 = (gx a.dims lo hi p.1).map dD∧(∀ i,i < p.1→okD (oL (at_ a.dims i) (at_ lo i,at_ hi i)) = true)) (fun (p : Nat×List (List D))=>a.dims.length - p.1) (0,a.dims.map dD) (q1Q J) wK ?_ (fun p ⟨hk,hln,hr,ho⟩=>?_))|(show Exists _; refine Exists.intro ((p.1 + 1,(p.2.set p.1 [.str (at_ (gx a.dims lo hi p.1) p.1).name,.int .i64 (max (at_ (gx a.dims lo hi p.1) p.1).lo (at_ lo p.1)),.int .i64 (at_ (gx a.dims lo hi p.1) p.1).hi]).set p.1 [.str (at_ (gx a.dims lo hi p.1) p.1).name,.int .i64 (max (at_ (gx a.dims lo hi p.1) p.1).lo (at_ lo p.1)),.int .i64 (min (at_ (gx a.dims lo hi p.1) p.1).hi (at_ hi p.1))])) ⟨?_,?_,wK,(q1Q J),(q6Q J J J J J J)⟩))
    ·exact ⟨Nat.zero_le _,by simp,by show _ = List.map dD (gx a.dims lo hi 0); rw [Gc],fun i hi=>absurd hi (Nat.not_lt_zero _)⟩
    ·have hlt : p.1 < a.dims.length:=by simpa using ‹decide ((p.1 : Int) < (a.dims.length : Int)) = true›
     have em : at_ (gx a.dims lo hi p.1) p.1 = at_ a.dims p.1:=by rw [nJ hlt,if_neg (Nat.lt_irrefl _)]
     have hb : da (min (at_ a.dims p.1).hi (at_ hi p.1)) < max (at_ a.dims p.1).lo (at_ lo p.1):=by
      simp only [Int.toNat_natCast,em,decide_eq_true_eq] at h
      exact h
     rw [HY hc hl hh hlt hb]
     rfl
    ·have hlt : p.1 < a.dims.length:=by simpa using ‹decide ((p.1 : Int) < (a.dims.length : Int)) = true›
     have em : at_ (gx a.dims lo hi p.1) p.1 = at_ a.dims p.1:=by rw [nJ hlt,if_neg (Nat.lt_irrefl _)]
     have hb : okD (oL (at_ a.dims p.1) (at_ lo p.1,at_ hi p.1)) = true:=by
      simp only [Int.toNat_natCast,em,decide_eq_false_iff_not] at h
      show (!decide (da (min (at_ a.dims p.1).hi (at_ hi p.1)) < max (at_ a.dims p.1).lo (at_ lo p.1))) = true
      have h' : ¬ da (min (at_ a.dims p.1).hi (at_ hi p.1)) < max (at_ a.dims p.1).lo (at_ lo p.1):=h
      simp only [h',decide_false,Bool.not_false]
     refine ⟨hlt,by simp [hln],?_,fun i hi'=>?_⟩
     ·show ((p.2.set p.1 _).set p.1 _) = _
      rw [em,hr]
      exact Gd hlt _
     ·rcases Nat.lt_or_ge i p.1 with h3 | h3
      ·exact ho i h3
      ·have : i = p.1:=by have : i < p.1 + 1:=hi'; omega
       rw [this]; exact hb
    ·have hlt : p.1 < a.dims.length:=by simpa using ‹decide ((p.1 : Int) < (a.dims.length : Int)) = true›
     show a.dims.length - (p.1 + 1) < a.dims.length - p.1
     omega
    have hpn : p.1 = a.dims.length:=by
     have : a.dims.length≤p.1:=by simpa using h
     omega
    have hX : p.2.take a.dims.length = (bM a.dims lo hi).map dD:=by rw [List.take_of_length_le (by omega),hr,hpn,HX hl hh]
    have hcl : ∀ i,i < a.cells.length→(at_ a.cells i).at'.length = (bM a.dims lo hi).length:=fun i hi'=>by
     rw [eu hl hh]; exact (cellF_ok.1 (hA.cel _ (b9 hi'))).1
    have hcn : a.cells.length≤4096:=hA.few
    rw [Ge hc hl hh (hpn ▸ ho)]
    have hdf : (a.cells.filter fun c=>bt (bM a.dims lo hi) c.at').Pairwise dJ:=(dj hA.srt).filter _
    have hff : (a.cells.filter fun c=>bt (bM a.dims lo hi) c.at').length≤4096:=Nat.le_trans (List.length_filter_le _ _) hcn
    repeat' (first|(refine h1H ?_; (refine h0H ?_; first|refine gW [10] J J J J J J J J J (Lq (bM a.dims lo hi) _ _ hX (hcl _ (by first|omega|(simp only [decide_eq_true_eq,decide_eq_false_iff_not,List.length_map] at *; omega)))) J ?_|refine eo 16 [10,12] J J J J J J J J J (EU (bM a.dims lo hi) a.attrs (a.cells.filter fun c=>bt (bM a.dims lo hi) c.at') _ _ hdf hff hX (by rw [List.take_of_length_le (by omega),hq3,List.take_of_length_le wB])) J J J ?_))|refine wG ?_|(refine h5H ?_; first|refine ai J (fun h=>?_) (fun h=>?_)|refine ql 15 J (mg (s:=10) (id:=12) (k:=2) (b:=48) J J J J) [(3,_),(6,_),(8,_),(86,_),(87,_)] (q5Q J J J J J) (fun (bN : Bool×Bool) (q : Nat×Nat×List (List D))=>[(10,.one (.own (nmB bN) q.2.1)),(88,.one (.d (.int .i64 (q.1 : Int))))]) (fun (bN : Bool×Bool) (q : Nat×Nat×List (List D))=>[(10,.row 3 32 p.2),((nmB bN),.row 2 48 q.2.2),(0,.box [.d (aw a.dims),.d (au a.attrs),.d (aK a.cells)]),(1,.box [.d .nil,.d .nil,.d .nil])]) (fun (q : Nat×Nat×List (List D))=>q.1≤a.cells.length∧q.2.1 = q.2.2.length∧q.2.1≤q.1∧q.2.2 = ((a.cells.take q.1).filter fun c=>bt (bM a.dims lo hi) c.at').map aJ) (fun (q : Nat×Nat×List (List D))=>a.cells.length - q.1) (0,0,[]) (q2Q J J) wK (fun b y=>by obtain ⟨b1,b2⟩:=b; cases b1 <;> cases b2 <;> first|exact Imp.refl _|exact qm qN (by kernel_rfl)) ?_ (fun q ⟨hq1,hq2,hq4,hq3⟩=>?_))|(show Exists _; first|refine Exists.intro ((q.1 + 1,q.2.1 + 1,q.2.2.take q.2.1 ++ [aJ (at_ a.cells q.1)])) (Exists.intro (false,false) ⟨?_,?_,wK,(q2Q J J),(q5Q J J J J J)⟩)|refine Exists.intro ((q.1 + 1,q.2)) (Exists.intro (false,false) ⟨?_,?_,wK,(q2Q J J),(q5Q J J J J J)⟩)))
    ·exact ⟨Nat.zero_le _,rfl,Nat.le_refl _,by simp⟩
    ·have hlt : q.1 < a.cells.length:=by simpa using ‹decide ((q.1 : Int) < ((a.cells.map aJ).length : Int)) = true›
     have hw : bt (bM a.dims lo hi) (at_ a.cells q.1).at' = true:=h
     refine ⟨hlt,?_,Nat.succ_le_succ hq4,?_⟩
     ·show q.2.1 + 1 = (q.2.2.take q.2.1 ++ [_]).length
      rw [List.length_append,List.length_take]; simp [hq2]
     ·show q.2.2.take q.2.1 ++ [_] = _
      rw [List.take_of_length_le (by omega),hq3]
      show _ = List.map aJ (List.filter _ (List.take (q.1 + 1) a.cells))
      rw [rB hlt,if_pos hw,List.map_append]; rfl
    ·have hlt : q.1 < a.cells.length:=by simpa using ‹decide ((q.1 : Int) < ((a.cells.map aJ).length : Int)) = true›
     show a.cells.length - (q.1 + 1) < a.cells.length - q.1
     omega
    ·have hlt : q.1 < a.cells.length:=by simpa using ‹decide ((q.1 : Int) < ((a.cells.map aJ).length : Int)) = true›
     have hw : bt (bM a.dims lo hi) (at_ a.cells q.1).at' = false:=h
     refine ⟨hlt,hq2,Nat.le_succ_of_le hq4,?_⟩
     show q.2.2 = List.map aJ (List.filter _ (List.take (q.1 + 1) a.cells))
     rw [rB hlt,if_neg (by simp [hw]),List.append_nil,hq3]
    ·have hlt : q.1 < a.cells.length:=by simpa using ‹decide ((q.1 : Int) < ((a.cells.map aJ).length : Int)) = true›
     show a.cells.length - (q.1 + 1) < a.cells.length - q.1
     omega
    ·rfl
   ·have hb2 : (((hi.map b0).length : Int) != ((a.dims.map dD).length : Int)) = true:=by simp; omega
    have e : fP a lo hi = (none,13):=by
     unfold fP
     rw [if_neg (by simpa [dB] using hc),if_pos (by omega)]
    rw [e]
    repeat' (first|(refine h1H ?_; (refine h0H ?_; refine gW [2] J J J J J J J J J (c96 [a]) J ?_))|refine wG ?_)
    all_goals rfl
  ·have hb1 : (((lo.map b0).length : Int) != ((a.dims.map dD).length : Int)) = true:=by simp; omega
   have e : fP a lo hi = (none,13):=by
    unfold fP
    rw [if_neg (by simpa [dB] using hc),if_pos (by omega)]
   rw [e]
   repeat' (first|(refine h1H ?_; (refine h0H ?_; refine gW [2] J J J J J J J J J (c96 [a]) J ?_))|refine wG ?_)
   all_goals rfl
 ·have hv : (!dy [a]) = true:=by simp [dy,hc]
  have e : fP a lo hi = (none,2):=by
   unfold fP
   rw [if_pos (by simpa [dB] using hc)]
  rw [e]
  repeat' (first|(refine h1H ?_; (refine h0H ?_; refine gW [2] J J J J J J J J J (c96 [a]) J ?_))|refine wG ?_)
  all_goals rfl
end Go.Proofs.YtpejdgkaapnekaaGreat
