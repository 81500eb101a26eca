import Derived.Test.YtpejdgkaapnekaaGreatFP24
import Derived.Test.YtpejdgkaapnekaaGreatFE1
import Derived.Test.YtpejdgkaapnekaaGreatFP20
import Derived.Test.YtpejdgkaapnekaaGreatFP18
import Derived.Test.YtpejdgkaapnekaaGreatFP16
import Derived.Test.YtpejdgkaapnekaaGreatFP15
set_option linter.unusedVariables false
set_option linter.unusedSimpArgs false
set_option maxHeartbeats 1000000
namespace Go.Proofs.YtpejdgkaapnekaaGreat
open Go Go.Abs
attribute [local irreducible] ao OkC aU bg aV bA
set_option maxRecDepth 10000
theorem H1(a b : Val)(hR : RatOk a.num.natAbs a.den.natAbs b.num.natAbs b.den.natAbs) : CallA Tryz.prog 381 [.one (.d (lh a)),.one (.d (lh b))] [] (.one (.d (.int .i64 (lL (dP (decide (a.num < 0)) a.num.natAbs a.den.natAbs (decide (b.num < 0)) b.num.natAbs b.den.natAbs true))))) [] :=
 Jq sW _ _ _ _ _ _ hR
def sX(a b : Val) : Int:=if sgF a.kind b.kind≠0 then sgF a.kind b.kind else if a.kind = 2 then lL (dP (decide (a.num < 0)) a.num.natAbs a.den.natAbs (decide (b.num < 0)) b.num.natAbs b.den.natAbs true) else if a.kind = 3 then kH a.str b.str else sgF a.num b.num
theorem Jr(a b : Val)(hR : a.kind = 2→RatOk a.num.natAbs a.den.natAbs b.num.natAbs b.den.natAbs) : CallA Tryz.prog 365 [bD a,bD b] [] (.one (.d (.int .i64 (sX a b)))) []:=by
 unfold bD
 refine enter ab Tryz.func365 rfl (by decide +kernel) rfl fun hok w0 σ0 φ0 M=>?_
 clear hok
 repeat' (first|(refine h6H ?_; first|refine ac ?_|refine ah ab J J J J J ?_|(refine h4H ?_; first|refine ag J J J J J J J J (I4 _ _) J ?_|refine ag J J J J J J J J (I5 _ _) J ?_|refine ag J J J J J J J J (I3 _ _) J ?_)|(refine bC ?_; first|refine aM 0 J J J J J J ?_|refine aM 1 J J J J J J ?_))|(refine h7H ?_; first|refine al ?_|refine ae ?_|refine ay ?_|refine aw ?_|refine am ?_|refine aA J (fun h=>?_) (fun h=>?_)|refine aR progOk.mo ?_)|(refine bP ?_; first|refine bG (by kernel_rfl) ?_|refine d_e aa J J J (aK J J) ?_|(refine h9H ?_; first|refine d_l J J (bj J J J J J J (H1 _ _ (hR (by simpa using ‹(a.kind == 2) = true›))) J) ?_|refine b6 16 J J J J J J J J (rK _) J J ?_))|refine ak ?_|refine aC ?_|refine aG ?_|refine aP ?_|refine ai (.inl J) J J ?_)
 all_goals refine congrArg (fun x=>AV.one (.d (.int .i64 x))) ?_
 ·have h' : sgF a.kind b.kind≠0:=by simpa using h
  unfold sX; rw [if_pos h']
 ·have h1 : ¬ sgF a.kind b.kind≠0:=by simpa using ‹(sgF a.kind b.kind != 0) = false›
  have h2 : a.kind = 2:=by simpa using h
  unfold sX; rw [if_neg h1,if_pos h2]
 ·have h1 : ¬ sgF a.kind b.kind≠0:=by simpa using ‹(sgF a.kind b.kind != 0) = false›
  have h2 : ¬ a.kind = 2:=by simpa using ‹(a.kind == 2) = false›
  have h3 : a.kind = 3:=by simpa using h
  unfold sX; rw [if_neg h1,if_neg h2,if_pos h3]
 ·have h1 : ¬ sgF a.kind b.kind≠0:=by simpa using ‹(sgF a.kind b.kind != 0) = false›
  have h2 : ¬ a.kind = 2:=by simpa using ‹(a.kind == 2) = false›
  have h3 : ¬ a.kind = 3:=by simpa using h
  unfold sX; rw [if_neg h1,if_neg h2,if_neg h3]
theorem Js(l : List Val)(f : FuncId)(g : Int→Bool)(hl : 2≤l.length)(hR : (at_ l 0).kind = 2→RatOk (at_ l 0).num.natAbs (at_ l 0).den.natAbs (at_ l 1).num.natAbs (at_ l 1).den.natAbs)
  (hf : ∀ o : Int,CallA Tryz.prog f [.one (.d (.int .i64 o))] [] (.one (.d (.bool (g o)))) []) : CallA Tryz.prog 364 [.one (.d (bf l)),.one (.d (.ptr [.fn f []]))] [] (bD (aY (g (sX (at_ l 0) (at_ l 1))))) []:=by
 refine enter ab Tryz.func364 rfl (by decide +kernel) rfl fun hok w0 σ0 φ0 M=>?_
 clear hok
 repeat' (first|(refine h6H ?_; first|refine ac ?_|(refine h5H ?_; refine ax ab 0 J J J J J ?_))|(refine h7H ?_; first|refine al ?_|refine ae ?_|refine am ?_|refine aR progOk.mo ?_)|(refine bP ?_; first|refine bG (by kernel_rfl) ?_|refine d_e aa J J J (aK J J) ?_|(refine h8H ?_; refine d_e aa J J J (ar J J J J J (by omega) (aJ (by omega))) ?_)|(refine h9H ?_; first|refine d_l J J (bj J J J J J J (vN _) J) ?_|refine d_l J J (bj J J J J J J (Jr _ _ hR) J) ?_|refine d_l J J (bj J J J J J J (hf _) J) ?_)|refine ca aa J J J ?_)|refine ak ?_|refine ai (.inl J) J J ?_)
 all_goals first | rfl | skip
def bi(l : List Val) : Option Val:=l.find? fun v=>v.kind == 0
def jm(b : Bool)(l : List Val) : Val:=if b9 (at_ l 0) (aY b) = true∨b9 (at_ l 1) (aY b) = true then aY b else (bi l).getD (aY (!b))
theorem Gi{b : Bool}{l : List Val}(h : (b9 (at_ l 0) (aY b) == true) = true) : jm b l = aY b:=by unfold jm; rw [if_pos (.inl (by simpa using h))]
theorem Gj{b : Bool}{l : List Val}(h : (b9 (at_ l 1) (aY b) == true) = true) : jm b l = aY b:=by unfold jm; rw [if_pos (.inr (by simpa using h))]
theorem Bt{b : Bool}{l : List Val}(h : (b9 (at_ l 0) (aY b) == true) = false)(h2 : (b9 (at_ l 1) (aY b) == true) = false) : jm b l = (bi l).getD (aY (!b)):=by
 unfold jm; rw [if_neg]; rintro (e | e)
 ·rw [e] at h; cases h
 ·rw [e] at h2; cases h2
theorem lj{l : List Val}{k : Nat}(hk : k < l.length)(h : ((at_ l k).kind == 0) = true) : bi (l.drop k) = some (at_ l k):=by
 rw [aO hk]; unfold bi; rw [List.find?_cons,h]
theorem c0{l : List Val}{k : Nat}(hk : k < l.length)(h : ((at_ l k).kind == 0) = false) : bi (l.drop k) = bi (l.drop (k + 1)):=by
 rw [aO hk]; unfold bi; rw [List.find?_cons,h]
theorem wh{l : List Val}{k : Nat}(hk : l.length≤k) : bi (l.drop k) = none:=by
 rw [List.drop_eq_nil_of_le hk]; rfl
theorem Gk(l : List Val)(b : Bool)(hl : 2≤l.length) : CallA Tryz.prog 367 [.one (.d (bf l)),.one (.d (.ptr [.bool b]))] [] (bD (jm b l)) []:=by
 refine enter ab Tryz.func367 rfl (by decide +kernel) rfl fun hok w0 σ0 φ0 M=>?_
 have h1:=hok.1.sl.1; clear hok; simp only [List.length_map] at h1
 repeat' (first|(refine h6H ?_; first|refine ac ?_|refine ah ab J J J J J ?_|(refine h1H ?_; refine s_e aa J J J (aL J J J J (aN (by omega) (by omega))) ?_)|(refine h3H ?_; refine s_e aa J J J (ar J J J J J (by first|omega|((try simp only [a0A,a1A,a2A,a3A,a4A,a5A,a6A,a7A,a8A,a9A,au,av] at *); omega)) (aJ (by first|omega|((try simp only [a0A,a1A,a2A,a3A,a4A,a5A,a6A,a7A,a8A,a9A,au,av] at *); omega)))) ?_)|(refine h4H ?_; refine ag J J J J J J J J (vN _) J ?_)|(refine h5H ?_; first|refine ax ab 0 J J J J J ?_|refine ax ab 1 J J J J J ?_)|refine aI aa J J J ?_)|(refine h7H ?_; first|refine al ?_|refine ae ?_|refine ay ?_|refine aw ?_|refine am ?_|refine aW ?_|refine bc J ?_|refine aA J (fun h=>?_) (fun h=>?_)|refine aR progOk.mo ?_|refine bk 4 J [(1,_),(3,_),(22,_),(23,_)] (q4Q J J J J) (fun (k : Nat)=>[(24,.one (.d (.int .i64 (k : Int))))]) (fun (k : Nat)=>k≤l.length∧bi l = bi (l.drop k)) (fun (k : Nat)=>l.length - k) 0 (q1Q J) ?_ (fun k ⟨hk,hq⟩=>?_))|(refine bP ?_; first|refine bG (by kernel_rfl) ?_|refine d_e aa J J J (aK J J) ?_|(refine qO ?_; first|refine jH J J (by first|assumption|rfl) ?_|refine nv J J (by first|assumption|rfl) J J ?_|refine kV J J (fun h=>?_) (fun h=>?_))|(refine qP ?_; first|refine d_e aa J J J (aF J J (by first|rfl|assumption) J) ?_|refine d_e aa J J J (az J J (by first|rfl|assumption) J) ?_)|(refine h8H ?_; refine d_e aa J J J (ar J J J J J (by omega) (aJ (by omega))) ?_)|(refine h9H ?_; refine d_l J J (bj J J J J J J (vN _) J) ?_)|refine d_e aa J J J J ?_)|(show Exists _; refine Exists.intro (k + 1) ⟨?_,?_,(by (repeat' first|exact ap|refine af J ?_); done),(q1Q J),(q4Q J J J J)⟩)|refine ak ?_|refine aC ?_|refine bd ?_|refine aG ?_|refine aP ?_|refine aX J ?_|refine ai (.inl J) J J ?_)
 ·exact (congrArg bD (Gj h)).symm
 ·exact ⟨Nat.zero_le _,rfl⟩
 ·have hlt : k < l.length:=by simpa using ‹decide ((k : Int) < ((l.map aj).length : Int)) = true›
  rename_i h5 h6 _ _
  rw [Bt h5 h6,hq,lj hlt h]; rfl
 ·have hlt : k < l.length:=by simpa using ‹decide ((k : Int) < ((l.map aj).length : Int)) = true›
  exact ⟨hlt,hq.trans (c0 hlt h)⟩
 ·have hlt : k < l.length:=by simpa using ‹decide ((k : Int) < ((l.map aj).length : Int)) = true›
  omega
 ·have hge : l.length≤k:=by simpa using h
  rename_i h5 h6 _
  rw [Bt h5 h6,hq,wh hge]; rfl
 ·exact (congrArg bD (Gi h)).symm
end Go.Proofs.YtpejdgkaapnekaaGreat
namespace Go.Proofs.YtpejdgkaapnekaaGreat
open Go Go.Abs
attribute [local irreducible] ao OkC aU bg aV bA
set_option maxRecDepth 10000
def aH(v : Val) : Bool:=dU v.kind v.num v.den v.str
theorem EE(v : Val) : CallA Tryz.prog 233 [bD v] [] (.one (.d (.bool (aH v)))) []:=DC _ _ _ _
def ic : Val:=⟨0,0,0,[]⟩
def cV(p : Val×Int) : AV:=.tup [(true,[.d (.int .i64 p.1.kind),.d (.int .i64 p.1.num),.d (.int .i64 p.1.den),.d (.str p.1.str)]),(false,[.d (.int .i64 p.2)])]
def doG(l : List Val)(kd free : Bool)(rv : Val) : Val×Int :=
 if l.all aH = true then (if kd = true then (if free = true then (rv,0) else ((bi l).getD rv,0)) else (ic,12)) else (ic,2)
theorem aD{l : List Val}{k : Nat}(hq : l.all aH = (l.drop k).all aH)(h : decide ((k : Int) < ((l.map aj).length : Int)) = false) : l.all aH = true:=by
 have h : l.length≤k:=by simpa using h
 rw [hq,List.drop_eq_nil_of_le h]; rfl
theorem ef{l : List Val}{k : Nat}(hq : l.all aH = (l.drop k).all aH)(hlt : k < l.length)(h : (!aH (at_ l k)) = true) : ¬ l.all aH = true:=by
 rw [hq,aO hlt,List.all_cons]
 have h : aH (at_ l k) = false:=by simpa using h
 rw [h]; simp
theorem eg{l : List Val}{k : Nat}(hq : l.all aH = (l.drop k).all aH)(hlt : k < l.length)(h : (!aH (at_ l k)) = false) : l.all aH = (l.drop (k + 1)).all aH:=by
 rw [hq,aO hlt,List.all_cons]
 have h : aH (at_ l k) = true:=by simpa using h
 rw [h]; simp
theorem aQ{l : List Val}{k : Nat}(hq : bi l = bi (l.drop k))(h : decide ((k : Int) < ((l.map aj).length : Int)) = false) : bi l = none:=by
 have h : l.length≤k:=by simpa using h
 rw [hq,wh h]
theorem xg{f : FuncId}{l : List Val}{xs : List (List D)}{r : List AV}{rav : AV}(h : CallA Tryz.prog f (.one (.d (bf l))::r) [] rav [])(hx : xs = l.map aj) : CallA Tryz.prog f (.one (.d (.sl 4 40 xs))::r) [] rav []:=by
 subst hx; exact h
theorem z8{l : List Val}{kd free : Bool}{rv : Val}(h : ¬ l.all aH = true) : doG l kd free rv = (ic,2):=if_neg h
theorem Aa{l : List Val}{kd free : Bool}{rv : Val}(h : l.all aH = true)(h2 : (!kd) = true) : doG l kd free rv = (ic,12):=by unfold doG; rw [if_pos h,if_neg (by simpa using h2)]
theorem Iz{l : List Val}{kd free : Bool}{rv : Val}(h : l.all aH = true)(h2 : (!kd) = false)(h3 : (!free) = false) : doG l kd free rv = (rv,0):=by unfold doG; rw [if_pos h,if_pos (by simpa using h2),if_pos (by simpa using h3)]
theorem r7{l : List Val}{kd free : Bool}{rv : Val}(h : l.all aH = true)(h2 : (!kd) = false)(h3 : (!free) = true) : doG l kd free rv = ((bi l).getD rv,0):=by unfold doG; rw [if_pos h,if_pos (by simpa using h2),if_neg (by simpa using h3)]
set_option maxHeartbeats 1000000 in
theorem eX(op : Int)(l : List Val)(hl : l.length≤3)(n : Int)(fk ft fd : FuncId)(ck ct cd : List D)(free kd : Bool)(rv : Val)
  (h226 : CallA Tryz.prog 226 [.one (.d (.int .i64 op)),.one (.d (.int .i64 (l.map aj).length))] [] (.tup [(true,[.d (.int .i64 n),.d (.fn fk ck),.d (.fn ft ct),.d (.bool free),.d (.fn fd cd)]),(false,[.d (.bool true)])]) [])
  (hk : l.all aH = true→CallA Tryz.prog fk (.one (.d (bf l))::ck.map fun x=>.one (.d x)) [] (.one (.d (.bool kd))) [])
  (hd : l.all aH = true→kd = true→(free = true∨bi l = none)→CallA Tryz.prog fd (.one (.d (bf l))::cd.map fun x=>.one (.d x)) [] (bD rv) []) :
  CallA Tryz.prog 186 [.one (.d (.int .i64 op)),.one (.d (bf l))] [] (cV (doG l kd free rv)) []:=by
 refine enter ab Tryz.func186 rfl (by decide +kernel) rfl fun hok w0 σ0 φ0 M=>?_
 have h1:=hok.2.1.sl.1; clear hok; simp only [List.length_map] at h1
 repeat' (first|(refine h6H ?_; first|(refine h4H ?_; refine ba 60 J J J J J J J J h226 J J J ?_)|refine ac ?_|refine ah ab J J J J J ?_|(refine h1H ?_; refine s_e aa J J J (aL J J J J (aN (by omega) (by omega))) ?_)|(refine h3H ?_; refine s_e aa J J J (ar J J J J J (by first|omega|((try simp only [a0A,a1A,a2A,a3A,a4A,a5A,a6A,a7A,a8A,a9A,au,av] at *); omega)) (aJ (by first|omega|((try simp only [a0A,a1A,a2A,a3A,a4A,a5A,a6A,a7A,a8A,a9A,au,av] at *); omega)))) ?_)|(refine h4H ?_; first|refine ag J J J J J J J J (EE _) J ?_|refine ag J J J J J J J J (hk (aD hq h)) J ?_)|(refine h5H ?_; first|refine ax ab 0 J J J J J ?_|refine ax ab 1 J J J J J ?_|refine ax ab 2 J J J J J ?_)|refine aI aa J J J ?_)|(refine h7H ?_; first|refine al ?_|refine ae ?_|refine ay ?_|refine aw ?_|refine am ?_|refine aW ?_|refine bm J ?_|refine aA J (fun h=>?_) (fun h=>?_)|refine aR progOk.mo ?_|refine bk 5 J [(1,_),(4,_),(6,_),(22,_),(23,_)] (q5Q J J J J J) (fun (k : Nat)=>[(24,.one (.d (.int .i64 (k : Int))))]) (fun (k : Nat)=>k≤l.length∧l.all aH = (l.drop k).all aH) (fun (k : Nat)=>l.length - k) 0 (q1Q J) ?_ (fun k ⟨hk0,hq⟩=>?_)|refine bk 14 J [(1,_),(4,_),(6,_),(42,_),(43,_)] (q5Q J J J J J) (fun (j : Nat)=>[(44,.one (.d (.int .i64 (j : Int))))]) (fun (j : Nat)=>j≤l.length∧bi l = bi (l.drop j)) (fun (j : Nat)=>l.length - j) 0 (q1Q J) ?_ (fun j ⟨hk1,hq1⟩=>?_))|(refine bP ?_; first|(refine GI ?_; refine j4 aa 10 J J J J J J ?_)|(refine h9H ?_; refine j4 aa 11 J J J (kz (i:=10) J J J J J J J J (by simp) (by simp; omega) (Nat.le_of_ble_eq_true J)) J J ?_)|(refine h9H ?_; refine yF 40 [11] J J J J J J J J J (xg (hd (aD hq ‹decide ((k : Int) < ((l.map aj).length : Int)) = false›) (by simpa using ‹(!kd) = false›) (.inl (by simpa using ‹(!free) = false›))) (by simp; exact List.take_of_length_le (by simp))) J J ?_)|(refine h9H ?_; refine yF 40 [11] J J J J J J J J J (xg (hd (aD hq ‹decide ((k : Int) < ((l.map aj).length : Int)) = false›) (by simpa using ‹(!kd) = false›) (.inr (aQ hq1 h))) (by simp; exact List.take_of_length_le (by simp))) J J ?_)|refine bG (by kernel_rfl) ?_|refine d_e aa J J J (aK J J) ?_|refine ca aa J J J ?_)|(show Exists _; first|refine Exists.intro (j + 1) ⟨?_,?_,(by first|(repeat' first|exact ap|refine af J ?_) <;> fail|fail),(q1Q J),(q5Q J J J J J)⟩|refine Exists.intro (k + 1) ⟨?_,?_,(by first|(repeat' first|exact ap|refine af J ?_) <;> fail|fail),(q1Q J),(q5Q J J J J J)⟩)|refine ak ?_|refine aC ?_|refine bd ?_|refine aG ?_|refine aP ?_|refine aX J ?_|refine ai (.inl J) J J ?_)
 ·exact ⟨Nat.zero_le _,rfl⟩
 ·have hlt : k < l.length:=by simpa using ‹decide ((k : Int) < ((l.map aj).length : Int)) = true›
  rw [z8 (ef hq hlt h)]; rfl
 ·have hlt : k < l.length:=by simpa using ‹decide ((k : Int) < ((l.map aj).length : Int)) = true›
  exact ⟨hlt,eg hq hlt h⟩
 ·have hlt : k < l.length:=by simpa using ‹decide ((k : Int) < ((l.map aj).length : Int)) = true›
  omega
 ·rw [Aa (aD hq ‹decide ((k : Int) < ((l.map aj).length : Int)) = false›) h]; rfl
 ·exact ⟨Nat.zero_le _,rfl⟩
 ·have hlt : j < l.length:=by simpa using ‹decide ((j : Int) < ((l.map aj).length : Int)) = true›
  rw [r7 (aD hq ‹decide ((k : Int) < ((l.map aj).length : Int)) = false›) ‹(!kd) = false› ‹(!free) = true›,hq1,lj hlt h]; rfl
 ·have hlt : j < l.length:=by simpa using ‹decide ((j : Int) < ((l.map aj).length : Int)) = true›
  exact ⟨hlt,hq1.trans (c0 hlt h)⟩
 ·have hlt : j < l.length:=by simpa using ‹decide ((j : Int) < ((l.map aj).length : Int)) = true›
  omega
 ·rw [r7 (aD hq ‹decide ((k : Int) < ((l.map aj).length : Int)) = false›) ‹(!kd) = false› ‹(!free) = true›,aQ hq1 h]; rfl
 ·rw [Iz (aD hq ‹decide ((k : Int) < ((l.map aj).length : Int)) = false›) ‹(!kd) = false› h]; rfl
theorem FG{l : List Val}{m : Nat}{xs : List (List D)}(hl : 1≤l.length)(hx : xs = l.map aj)(hm : m = l.length) : CallA Tryz.prog 311 [.one (.own 1000000 m)] [(1000000,.row 4 40 xs)] (bD (n4 (at_ l 0))) [(1000000,.row 4 40 ((l.set 0 (n4 (at_ l 0))).map aj))]:=by
 subst hx; subst hm; exact LL l hl
theorem FH(l : List Val)(hl : l.length≤3)(hl1 : 1≤l.length)
  (h226 : CallA Tryz.prog 226 [.one (.d (.int .i64 5)),.one (.d (.int .i64 (l.map aj).length))] [] (.tup [(true,[.d (.int .i64 1),.d (.fn 350 [.ptr [.int .i64 2]]),.d (.fn 300 []),.d (.bool false),.d (.fn 311 [])]),(false,[.d (.bool true)])]) []) :
  CallA Tryz.prog 186 [.one (.d (.int .i64 5)),.one (.d (bf l))] [] (cV (doG l (l.all fun v=>isV v 2) false (n4 (at_ l 0)))) []:=by
 refine enter ab Tryz.func186 rfl (by decide +kernel) rfl fun hok w0 σ0 φ0 M=>?_
 have h1:=hok.2.1.sl.1; clear hok; simp only [List.length_map] at h1
 repeat' (first|(refine h6H ?_; first|(refine h4H ?_; refine ba 60 J J J J J J J J h226 J J J ?_)|refine ac ?_|refine ah ab J J J J J ?_|(refine h1H ?_; refine s_e aa J J J (aL J J J J (aN (by omega) (by omega))) ?_)|(refine h3H ?_; refine s_e aa J J J (ar J J J J J (by first|omega|((try simp only [a0A,a1A,a2A,a3A,a4A,a5A,a6A,a7A,a8A,a9A,au,av] at *); omega)) (aJ (by first|omega|((try simp only [a0A,a1A,a2A,a3A,a4A,a5A,a6A,a7A,a8A,a9A,au,av] at *); omega)))) ?_)|(refine h4H ?_; first|refine ag J J J J J J J J (EE _) J ?_|refine ag J J J J J J J J (nl _ _) J ?_)|(refine h5H ?_; first|refine ax ab 0 J J J J J ?_|refine ax ab 1 J J J J J ?_|refine ax ab 2 J J J J J ?_)|refine aI aa J J J ?_)|(refine h7H ?_; first|refine al ?_|refine ae ?_|refine ay ?_|refine aw ?_|refine am ?_|refine aW ?_|refine bc J ?_|refine bm J ?_|refine aA J (fun h=>?_) (fun h=>?_)|refine aR progOk.mo ?_|refine bk 5 J [(1,_),(4,_),(6,_),(22,_),(23,_)] (q5Q J J J J J) (fun (k : Nat)=>[(24,.one (.d (.int .i64 (k : Int))))]) (fun (k : Nat)=>k≤l.length∧l.all aH = (l.drop k).all aH) (fun (k : Nat)=>l.length - k) 0 (q1Q J) ?_ (fun k ⟨hk0,hq⟩=>?_)|refine bk 14 J [(1,_),(4,_),(6,_),(42,_),(43,_)] (q5Q J J J J J) (fun (j : Nat)=>[(44,.one (.d (.int .i64 (j : Int))))]) (fun (j : Nat)=>j≤l.length∧bi l = bi (l.drop j)) (fun (j : Nat)=>l.length - j) 0 (q1Q J) ?_ (fun j ⟨hk1,hq1⟩=>?_))|(refine bP ?_; first|(refine GI ?_; refine j4 aa 10 J J J J J J ?_)|(refine h9H ?_; refine j4 aa 11 J J J (kz (i:=10) J J J J J J J J (by simp) (by simp; omega) (Nat.le_of_ble_eq_true J)) J J ?_)|(refine h9H ?_; refine Fy 40 (id:=11) J J J J J J J (FG (l:=l) hl1 J (by simp)) (by simp) J J J ?_)|refine bG (by kernel_rfl) ?_|refine d_e aa J J J (aK J J) ?_|refine ca aa J J J ?_)|(show Exists _; first|refine Exists.intro (j + 1) ⟨?_,?_,(by first|(repeat' first|exact ap|refine af J ?_) <;> fail|fail),(q1Q J),(q5Q J J J J J)⟩|refine Exists.intro (k + 1) ⟨?_,?_,(by first|(repeat' first|exact ap|refine af J ?_) <;> fail|fail),(q1Q J),(q5Q J J J J J)⟩)|refine ak ?_|refine aC ?_|refine bd ?_|refine aG ?_|refine aP ?_|refine aX J ?_|refine ai (.inl J) J J ?_)
 ·exact ⟨Nat.zero_le _,rfl⟩
 ·have hlt : k < l.length:=by simpa using ‹decide ((k : Int) < ((l.map aj).length : Int)) = true›
  rw [z8 (ef hq hlt h)]; rfl
 ·have hlt : k < l.length:=by simpa using ‹decide ((k : Int) < ((l.map aj).length : Int)) = true›
  exact ⟨hlt,eg hq hlt h⟩
 ·have hlt : k < l.length:=by simpa using ‹decide ((k : Int) < ((l.map aj).length : Int)) = true›
  omega
 ·rw [Aa (aD hq ‹decide ((k : Int) < ((l.map aj).length : Int)) = false›) h]; rfl
 ·exact ⟨Nat.zero_le _,rfl⟩
 ·have hlt : j < l.length:=by simpa using ‹decide ((j : Int) < ((l.map aj).length : Int)) = true›
  rw [r7 (aD hq ‹decide ((k : Int) < ((l.map aj).length : Int)) = false›) ‹(!l.all fun v=>isV v 2) = false› rfl,hq1,lj hlt h]; rfl
 ·have hlt : j < l.length:=by simpa using ‹decide ((j : Int) < ((l.map aj).length : Int)) = true›
  exact ⟨hlt,hq1.trans (c0 hlt h)⟩
 ·have hlt : j < l.length:=by simpa using ‹decide ((j : Int) < ((l.map aj).length : Int)) = true›
  omega
 ·rw [r7 (aD hq ‹decide ((k : Int) < ((l.map aj).length : Int)) = false›) ‹(!l.all fun v=>isV v 2) = false› rfl,aQ hq1 h]; rfl
end Go.Proofs.YtpejdgkaapnekaaGreat
namespace Go.Proofs.YtpejdgkaapnekaaGreat
open Go Go.Abs
def vP3(t : Bool×Nat×Nat) : Val:=vP t.1 t.2.1 t.2.2
def ngV(v : Val) : Bool:=decide (v.num < 0)
def naV(v : Val) : Nat:=v.num.natAbs
def dnV(v : Val) : Nat:=v.den.natAbs
def Hy(x y : Val)(minus : Bool) : Val:=vP3 (dP (ngV x) (naV x) (dnV x) (ngV y) (naV y) (dnV y) minus)
def LK(x y : Val) : Val:=vP3 (gu (ngV x != ngV y) (naV x * naV y) (dnV x * dnV y))
def DW(x y : Val) : Val:=if naV y = 0 then ⟨0,3,0,[]⟩ else vP3 (gu (ngV x != ngV y) (naV x * dnV y) (dnV x * naV y))
def xa(x : Val) : Val:=vP (ngV x) (if ngV x = true∧naV x % dnV x≠0 then naV x / dnV x + 1 else naV x / dnV x) 1
def gD(a b : Val) : Int:=if sgF a.kind b.kind≠0 then sgF a.kind b.kind else if a.kind = 2 then lL (dP (ngV a) (naV a) (dnV a) (ngV b) (naV b) (dnV b) true) else if a.kind = 3 then kH a.str b.str else sgF a.num b.num
def qC(op o : Int) : Bool:=if op = 13 then o == 0 else if op = 14 then o != 0 else if op = 15 then decide (o < 0) else if op = 16 then decide (o≤0) else if op = 17 then decide (0 < o) else decide (0≤o)
def rvF(op : Int)(l : List Val) : Val :=
 if op = 4 then aY ((at_ l 0).num == 0) else if op = 5 then n4 (at_ l 0) else if op = 6 then xa (at_ l 0) else if op = 7 then aY ((at_ l 0).kind == 0)
 else if op = 8 then ⟨2,if (at_ l 0).kind == 0 then (at_ l 0).num else 0,1,[]⟩ else if op = 9 then Hy (at_ l 0) (at_ l 1) false else if op = 10 then Hy (at_ l 0) (at_ l 1) true
 else if op = 11 then LK (at_ l 0) (at_ l 1) else if op = 12 then DW (at_ l 0) (at_ l 1) else if op≤18 then aY (qC op (gD (at_ l 0) (at_ l 1))) else if op = 19 then jm false l else if op = 20 then jm true l
 else if op = 21 then (if (at_ l 0).kind == 0 then at_ l 1 else at_ l 0) else (if (at_ l 0).kind == 0 then at_ l 0 else if (at_ l 0).num == 1 then at_ l 1 else at_ l 2)
def kdF(op : Int)(l : List Val) : Bool :=
 if op = 4∨op = 19∨op = 20 then l.all (fun v=>isV v 1) else if op = 5∨op = 6∨(9≤op∧op≤12) then l.all (fun v=>isV v 2) else if op = 7∨op = 8 then true
 else if op = 22 then isV (at_ l 0) 1 && gc (at_ l (l.length - 2)) (at_ l (l.length - 1)) else gc (at_ l (l.length - 2)) (at_ l (l.length - 1))
def frF(op : Int) : Bool:=op == 7 || op == 8 || decide (19≤op)
def doF(op : Int)(l : List Val) : Val×Int:=doG l (kdF op l) (frF op) (rvF op l)
theorem i6{v : Val}(h : aH v = true)(hk : v.kind = 2) : naV v≤1099511627776∧1≤dnV v∧dnV v≤1099511627776∧v.den = (dnV v : Int):=by
 unfold aH dU at h
 rw [hk] at h
 simp at h
 unfold naV dnV
 omega
theorem xe{n : Nat}(h : n < 79228162514264337593543950336) : dl n≤3:=Eu (w:=3) h
theorem xf{a1 b1 a2 b2 : Nat}(h1 : a1≤1099511627776)(h2 : 1≤b1∧b1≤1099511627776)(h3 : a2≤1099511627776)(h4 : 1≤b2∧b2≤1099511627776) : RatOk a1 b1 a2 b2:=by
 have hm : ∀ {x y : Nat},x≤1099511627776→y≤1099511627776→x * y≤1208925819614629174706176:=fun hx hy=>Nat.mul_le_mul hx hy
 have d : ∀ {x : Nat},x≤1099511627776→(dig x).length≤400:=fun hx=>Nat.le_trans (xe (Nat.lt_of_le_of_lt hx (Nat.lt_of_lt_of_le (show 1099511627776 < 1099511627777 from Nat.lt_succ_self _) (Nat.le_of_ble_eq_true rfl)))) (by omega)
 have p : ∀ {x : Nat},x≤2417851639229258349412352→dl x≤100:=fun hx=>Nat.le_trans (xe (Nat.lt_of_le_of_lt hx (Nat.lt_of_lt_of_le (Nat.lt_succ_self _) (Nat.le_of_ble_eq_true rfl)))) (by omega)
 have p1:=hm h1 h4.2
 have p2:=hm h3 h2.2
 have p3:=hm h2.2 h4.2
 have p5:=hm h1 h3
 have p6:=hm h2.2 h3
 exact ⟨by omega,by omega,d h1,d h2.2,d h3,d h4.2,p (by omega),p (by omega),p (by omega),p (by omega),p (by omega),p (by omega)⟩
theorem pL{v : Val}{k : Int}(h : isV v k = true)(h0 : ¬ v.kind = 0) : v.kind = k:=by
 unfold isV at h
 simp at h
 exact h.resolve_left h0
theorem lW{l : List Val}(h : bi l = none){i : Nat}(hi : i < l.length) : ¬ (at_ l i).kind = 0:=by
 have:=List.find?_eq_none.1 h (at_ l i) (ea hi)
 simpa using this
theorem dR{l : List Val}{p : Val→Bool}(h : l.all p = true){i : Nat}(hi : i < l.length) : p (at_ l i) = true:=List.all_eq_true.1 h _ (ea hi)
end Go.Proofs.YtpejdgkaapnekaaGreat
namespace Go.Proofs.YtpejdgkaapnekaaGreat
open Go Go.Abs
mutual
def js(ds : List Dim)(ats : List Attr)(at' : List Int)(vs : List Val) : Scalar→Val
 | .mk o n v a=>if o = 1 then v else if o = 2 then at_ vs (atI ats n).toNat else if o = 3 then ⟨2,at_ at' (kB ds n).toNat,1,[]⟩ else (doF o (gB ds ats at' vs a)).1
def gB(ds : List Dim)(ats : List Attr)(at' : List Int)(vs : List Val) : List Scalar→List Val
 | []=>[]
 | x::r=>js ds ats at' vs x::gB ds ats at' vs r
end
section
variable {ds : List Dim} {ats : List Attr} {at' : List Int} {vs : List Val}
theorem tp : ∀ {s : Scalar},js ds ats at' vs s = if s.op = 1 then s.val else if s.op = 2 then at_ vs (atI ats s.name).toNat else if s.op = 3 then ⟨2,at_ at' (kB ds s.name).toNat,1,[]⟩ else (doF s.op (gB ds ats at' vs s.args)).1
 | .mk _ _ _ _=>by simp only [js,Scalar.op,Scalar.name,Scalar.val,Scalar.args]; rfl
theorem i5 : ∀ {l : List Scalar},(gB ds ats at' vs l).length = l.length
 | []=>rfl
 | x::r=>by simp [gB,i5 (l:=r)]
def oS(ds : List Dim)(ats : List Attr)(x : Scalar) : Prop:=(x.op = 2→0≤atI ats x.name)∧(x.op = 3→0≤kB ds x.name)
theorem xh{cst : Val→Int} : ∀ {l : List Scalar} {ts : List Int},cB cst ds ats l = .inr ts→∀ x∈l,(cM cst ds ats x).2 = 0
 | [],_,_,x,hx=>by simp at hx
 | y::r,ts,h,x,hx=>by
   simp only [cB] at h
   split at h
   ·cases h
   ·rename_i h1
    split at h
    ·cases h
    ·rename_i l2 h2
     rcases List.mem_cons.1 hx with rfl | hx
     ·exact Decidable.not_not.1 h1
     ·exact xh h2 x hx
theorem uJ : ∀ {l : List Scalar} {z : Scalar},z∈bt l→∃ x∈l,z∈bB x
 | [],z,h=>by simp [bt] at h
 | x::r,z,h=>by
   simp only [bt,List.mem_append] at h
   rcases h with h | h
   ·exact ⟨x,List.mem_cons_self,h⟩
   ·obtain ⟨y,h1,h2⟩:=uJ h
    exact ⟨y,List.mem_cons_of_mem _ h1,h2⟩
theorem G7{cst : Val→Int}(s : Scalar) : dq s = true→(cM cst ds ats s).2 = 0→∀ z∈bB s,oS ds ats z:=by
 induction s using Scalar.ind with
 | h s ih =>
   intro hp h z hz
   rw [fU,Bool.and_eq_true] at hp
   rw [dX,List.mem_append] at hz
   rw [jM] at h
   by_cases h3 : s.op = 1∨s.op = 2∨s.op = 3
   ·have ha : s.args = []:=qU hp.1 h3
    rw [ha] at hz
    have hz : z = s:=by
     rcases hz with hz | hz
     ·simp [bt] at hz
     ·simpa using hz
    subst hz
    refine ⟨fun h2=>?_,fun h2=>?_⟩
    ·rw [if_neg (by omega),if_pos h2] at h
     unfold iA at h
     refine Int.not_lt.1 fun hc=>?_
     rw [if_pos hc] at h; simp at h
    ·rw [if_neg (by omega),if_neg (by omega),if_pos h2] at h
     unfold j7 at h
     refine Int.not_lt.1 fun hc=>?_
     rw [if_pos hc] at h; simp at h
   ·rw [if_neg (fun h=>h3 (.inl h)),if_neg (fun h=>h3 (.inr (.inl h))),if_neg (fun h=>h3 (.inr (.inr h)))] at h
    rcases hz with hz | hz
    ·obtain ⟨x,hx,hzx⟩:=uJ hz
     cases ht : cB cst ds ats s.args with
     | inl e =>
       rw [ht] at h
       have he : e = 0:=h
       exfalso
       have : ∀ {l : List Scalar} {e : Int},cB cst ds ats l = .inl e→e≠0:=by
        intro l
        induction l with
        | nil=>intro e h; simp [cB] at h
        | cons y r ihl =>
          intro e h
          simp only [cB] at h
          split at h
          ·rename_i h1; cases h; exact h1
          ·split at h
           ·rename_i e2 h2; cases h; exact ihl h2
           ·cases h
       exact this ht he
     | inr ts=>exact ih x hx (f6 hp.2 x hx) (xh ht x hx) z hzx
    ·have hz : z = s:=by simpa using hz
     subst hz
     exact ⟨fun h2=>absurd (.inr (.inl h2)) h3,fun h2=>absurd (.inr (.inr h2)) h3⟩
def eT(ds : List Dim)(ats : List Attr)(at' : List Int)(vs : List Val)(l : List Val)(x : Scalar) : Bool×List Val :=
 (true,if x.op = 1 then l ++ [x.val] else if x.op = 2 then l ++ [at_ vs (atI ats x.name).toNat] else if x.op = 3 then l ++ [⟨2,at_ at' (kB ds x.name).toNat,1,[]⟩] else
  l.take (l.length - x.args.length) ++ [(doF x.op (l.drop (l.length - x.args.length))).1])
def sk(ds : List Dim)(ats : List Attr)(l : List Val)(x : Scalar) : Prop:=oS ds ats x∧dv x = true∧l.length≤64∧(4≤x.op→x.args.length≤l.length)
theorem n5{α β : Type}{F : α→β→Bool×α}{ok : α→β→Prop} : ∀ {l m : List β} {a : α},dm F ok l a→((b5 F l a).1 = true→dm F ok m (b5 F l a).2)→dm F ok (l ++ m) a
 | [],_,_,_,h=>h rfl
 | x::l,m,a,h1,h2=>by
   simp only [List.cons_append,dm] at h1 ⊢
   refine ⟨h1.1,fun hx=>n5 (h1.2 hx) fun h=>?_⟩
   have e : b5 F (x::l) a = b5 F l (F a x).2:=by simp only [b5]; rw [if_pos hx]
   rw [e] at h2; exact h2 h
theorem sn : ∀ {r : List Scalar},
  (∀ x∈r,∀ l : List Val,l.length + (bB x).length≤65→dm (eT ds ats at' vs) (sk ds ats) (bB x) l∧b5 (eT ds ats at' vs) (bB x) l = (true,l ++ [js ds ats at' vs x])) →
  ∀ l : List Val,l.length + (bt r).length≤65→dm (eT ds ats at' vs) (sk ds ats) (bt r) l∧b5 (eT ds ats at' vs) (bt r) l = (true,l ++ gB ds ats at' vs r)
 | [],_,l,hl=>⟨trivial,by simp [gB,bt,b5]⟩
 | x::r,h,l,hl=>by
   have hp : 1≤(bB x).length:=by rw [dX]; simp
   simp only [bt,List.length_append] at hl
   obtain ⟨h1,h2⟩:=h x (by simp) l (by omega)
   simp only [bt,gB]
   have ih:=sn (r:=r) (fun y hy=>h y (List.mem_cons_of_mem _ hy)) (l ++ [js ds ats at' vs x]) (by simp; omega)
   rw [eR,h2]
   refine ⟨n5 h1 (fun _=>by rw [h2]; exact ih.1),?_⟩
   simp only [if_true]
   rw [ih.2]; simp
theorem IA(s : Scalar) : dq s = true→(∀ z∈bB s,oS ds ats z)→∀ l : List Val,l.length + (bB s).length≤65→dm (eT ds ats at' vs) (sk ds ats) (bB s) l∧b5 (eT ds ats at' vs) (bB s) l = (true,l ++ [js ds ats at' vs s]):=by
 induction s using Scalar.ind with
 | h s ih =>
   intro hp hn l hl
   rw [fU,Bool.and_eq_true] at hp
   have hmem : ∀ x∈s.args,∀ z∈bB x,z∈bB s:=by
    intro x hx z hz
    rw [dX,List.mem_append]
    refine .inl ?_
    have : ∀ {r : List Scalar},x∈r→z∈bt r:=by
     intro r
     induction r with
     | nil=>intro h; simp at h
     | cons y r ihr =>
       intro h
       simp only [bt,List.mem_append]
       rcases List.mem_cons.1 h with rfl | h
       ·exact .inl hz
       ·exact .inr (ihr h)
    exact this hx
   have hL:=sn (ds:=ds) (ats:=ats) (at':=at') (vs:=vs) (r:=s.args) (fun x hx l hl=>ih x hx (f6 hp.2 x hx) (fun z hz=>hn z (hmem x hx z hz)) l hl)
   have hns : oS ds ats s:=hn s (by rw [dX]; simp)
   rw [dX] at hl ⊢
   simp only [List.length_append,List.length_cons,List.length_nil] at hl
   by_cases h3 : s.op = 1∨s.op = 2∨s.op = 3
   ·have ha : s.args = []:=qU hp.1 h3
    have hok : sk ds ats l s:=⟨hns,hp.1,by omega,fun h=>by omega⟩
    have hF : eT ds ats at' vs l s = (true,l ++ [js ds ats at' vs s]):=by
     rw [tp]; simp only [eT]
     rcases h3 with h3 | h3 | h3 <;> simp [h3]
    rw [ha]
    simp only [bt,List.nil_append,dm,b5]
    rw [hF]
    exact ⟨⟨hok,fun _=>trivial⟩,by simp⟩
   ·obtain ⟨hop,hlen⟩:=iW hp.1 (fun h=>h3 (.inl h)) (fun h=>h3 (.inr (.inl h))) (fun h=>h3 (.inr (.inr h)))
    obtain ⟨h4,h5⟩:=hL l (by omega)
    have hts:=i5 (ds:=ds) (ats:=ats) (at':=at') (vs:=vs) (l:=s.args)
    have hle:=kK (r:=s.args)
    have hd : (l ++ gB ds ats at' vs s.args).length - s.args.length = l.length:=by simp [hts]
    have hF : eT ds ats at' vs (l ++ gB ds ats at' vs s.args) s = (true,l ++ [js ds ats at' vs s]):=by
     simp only [eT]
     rw [if_neg (fun h=>h3 (.inl h)),if_neg (fun h=>h3 (.inr (.inl h))),if_neg (fun h=>h3 (.inr (.inr h))),hd,tp,if_neg (fun h=>h3 (.inl h)),if_neg (fun h=>h3 (.inr (.inl h))),if_neg (fun h=>h3 (.inr (.inr h)))]
     simp
    refine ⟨n5 h4 (fun _=>?_),?_⟩
    ·rw [h5]
     exact ⟨⟨hns,hp.1,by simp [hts]; omega,fun _=>by simp [hts]⟩,fun _=>trivial⟩
    ·rw [eR,h5]
     simp only [if_true,b5,hF]
end
end Go.Proofs.YtpejdgkaapnekaaGreat
namespace Go.Proofs.YtpejdgkaapnekaaGreat
open Go Go.Abs
theorem mX{m n : Nat}(hn : n≠0) : n / Nat.gcd m n≠0:=by
 have hp:=Nat.pos_of_ne_zero hn
 exact Nat.ne_of_gt (Nat.div_pos (Nat.le_of_dvd hp (Nat.gcd_dvd_right m n)) (Nat.gcd_pos_of_pos_right m hp))
theorem ra{s1 s2 minus : Bool}{a1 b1 a2 b2 : Nat}(h1 : b1≠0)(h2 : b2≠0) : (dP s1 a1 b1 s2 a2 b2 minus).2.2≠0:=by
 have h:=Nat.mul_ne_zero h1 h2
 unfold dP gu
 split
 ·exact mX h
 ·split
  ·exact mX h
  ·exact mX h
structure NumOk (v : Val) : Prop where
 a : naV v≤1099511627776
 b : 1≤dnV v∧dnV v≤1099511627776
theorem kN{l : List Val}(hall : l.all aH = true)(hk : l.all (fun v=>isV v 2) = true)(hm : bi l = none){i : Nat}(hi : i < l.length) : NumOk (at_ l i):=by
 have h1:=dR hall hi
 have h2:=pL (dR hk hi) (lW hm hi)
 obtain ⟨q1,q2,q3,_⟩:=i6 h1 h2
 exact ⟨q1,q2,q3⟩
theorem NumOk.rat{x y : Val}(h : NumOk x)(h' : NumOk y) : RatOk (naV x) (dnV x) (naV y) (dnV y):=xf h.a h.b h'.a h'.b
theorem ee{p : Prop}(h : false = true∨p) : p:=h.resolve_left (by simp)
theorem AN(l : List Val)(hl : 2≤l.length)(f : FuncId)(t : Bool×Nat×Nat)(hb : t.2.2≠0)(hf : CallA Tryz.prog f [.one (.d (lh (at_ l 0))),.one (.d (lh (at_ l 1)))] [] (.one (.d (cN t.1 t.2.1 t.2.2))) []) :
  CallA Tryz.prog 358 [.one (.d (bf l)),.one (.d (.ptr [.fn f []]))] [] (bD (vP3 t)) []:=LV l hl f _ _ _ hb hf
theorem HN(s1 : Bool)(a1 b1 : Nat)(s2 : Bool)(a2 b2 : Nat)(hz : a2 = 0)(h1 : b1≠0)(h2 : b2≠0) : CallA Tryz.prog 362 [.one (.d (cN s1 a1 b1)),.one (.d (cN s2 a2 b2))] [] (.tup [(false,[.d (.raw (.pointer none))]),(false,[.d (.int .i64 2)])]) []:=by
 subst hz; exact In s1 a1 b1 s2 b2 h1 h2
theorem LW(op : Int)(l : List Val)(hop : 4≤op∧op≤22)(hl : (l.length : Int) = dN op) : CallA Tryz.prog 186 [.one (.d (.int .i64 op)),.one (.d (bf l))] [] (cV (doF op l)) []:=by
 have hlen : ∀ n : Int,(l.length : Int) = n→(((l.map aj).length : Nat) : Int) = n:=by intro n h; simpa using h
 have cmpc : ∀ {f : FuncId} (g : Int→Bool),l.length = 2→(∀ o : Int,CallA Tryz.prog f [.one (.d (.int .i64 o))] [] (.one (.d (.bool (g o)))) [])→l.all aH = true→gc (at_ l (l.length - 2)) (at_ l (l.length - 1)) = true→bi l = none →
   CallA Tryz.prog 364 [.one (.d (bf l)),.one (.d (.ptr [.fn f []]))] [] (bD (aY (g (gD (at_ l 0) (at_ l 1))))) []:=by
  intro f g h2 hf hall hal hm
  rw [h2] at hal
  refine Js l f g (by omega) (fun hk=>?_) hf
  have k0:=lW hm (i:=0) (by omega)
  have k1:=lW hm (i:=1) (by omega)
  have hkk : (at_ l 1).kind = 2:=by
   unfold gc at hal
   have : isV (at_ l 1) (at_ l 0).kind = true:=by
    rcases Bool.or_eq_true _ _ ▸ hal with h | h
    ·exact absurd (by simpa using h) k0
    ·exact h
   rw [hk] at this
   exact pL this k1
  obtain ⟨q1,q2,q3,_⟩:=i6 (dR hall (i:=0) (by omega)) hk
  obtain ⟨r1,r2,r3,_⟩:=i6 (dR hall (i:=1) (by omega)) hkk
  exact xf q1 ⟨q2,q3⟩ r1 ⟨r2,r3⟩
 unfold doF
 rcases nM hop with rfl | rfl | rfl | rfl | rfl | rfl | rfl | rfl | rfl | rfl | rfl | rfl | rfl | rfl | rfl | rfl | rfl | rfl | rfl <;> simp [dN] at hl
 ·exact eX _ l (by omega) _ _ _ _ _ _ _ _ _ _ (by rw [hlen 1 (by omega)]; exact BZ) (fun _=>nl l 1) (fun _ _ _=>Jc l (by omega))
 ·exact FH l (by omega) (by omega) (by rw [hlen 1 (by omega)]; exact B0)
 ·refine eX _ l (by omega) _ _ _ _ _ _ _ _ _ _ (by rw [hlen 1 (by omega)]; exact B1) (fun _=>nl l 2) (fun hall hk hf=>?_)
  have n0:=kN hall hk (ee hf) (i:=0) (by omega)
  have r:=n0.rat n0
  exact LX l (by omega) r.h1 (Nat.le_trans (iU (Nat.le_mul_of_pos_right _ n0.b.1)) r.m1) (Nat.le_trans (iU (Nat.le_mul_of_pos_right _ n0.b.1)) r.m3) (Nat.le_trans (iU (Nat.div_le_self _ _)) r.l1)
 ·exact eX _ l (by omega) _ _ _ _ _ _ _ _ _ _ (by rw [hlen 1 (by omega)]; exact B2) (fun _=>Gf _) (fun _ _ _=>Jd l (by omega))
 ·exact eX _ l (by omega) _ _ _ _ _ _ _ _ _ _ (by rw [hlen 1 (by omega)]; exact B3) (fun _=>Gf _) (fun _ _ _=>Je l (by omega))
 ·refine eX _ l (by omega) _ _ _ _ _ _ _ _ _ _ (by rw [hlen 2 (by omega)]; exact B4) (fun _=>nl l 2) (fun hall hk hf=>?_)
  have r:=(kN hall hk (ee hf) (i:=0) (by omega)).rat (kN hall hk (ee hf) (i:=1) (by omega))
  exact AN l (by omega) 321 _ (ra r.h1 r.h2) (by rw [← xk]; exact Kb sW _ _ _ _ _ _ r)
 ·refine eX _ l (by omega) _ _ _ _ _ _ _ _ _ _ (by rw [hlen 2 (by omega)]; exact yV) (fun _=>nl l 2) (fun hall hk hf=>?_)
  have r:=(kN hall hk (ee hf) (i:=0) (by omega)).rat (kN hall hk (ee hf) (i:=1) (by omega))
  exact AN l (by omega) 322 _ (ra r.h1 r.h2) (by rw [← xk]; exact GS sW _ _ _ _ _ _ r)
 ·refine eX _ l (by omega) _ _ _ _ _ _ _ _ _ _ (by rw [hlen 2 (by omega)]; exact yW) (fun _=>nl l 2) (fun hall hk hf=>?_)
  have r:=(kN hall hk (ee hf) (i:=0) (by omega)).rat (kN hall hk (ee hf) (i:=1) (by omega))
  exact AN l (by omega) 323 _ (mX (Nat.mul_ne_zero r.h1 r.h2)) (Kc sW _ _ _ _ _ _ r)
 ·refine eX _ l (by omega) _ _ _ _ _ _ _ _ _ _ (by rw [hlen 2 (by omega)]; exact yX) (fun _=>nl l 2) (fun hall hk hf=>?_)
  have r:=(kN hall hk (ee hf) (i:=0) (by omega)).rat (kN hall hk (ee hf) (i:=1) (by omega))
  show CallA Tryz.prog 324 _ [] (bD (DW (at_ l 0) (at_ l 1))) []
  unfold DW
  by_cases h0 : naV (at_ l 1) = 0
  ·rw [if_pos h0]
   refine IG l (by omega) ?_
   exact HN _ _ _ _ _ _ h0 r.h1 r.h2
  ·rw [if_neg h0]
   exact IH l (by omega) _ _ _ (mX (Nat.mul_ne_zero r.h1 h0)) (Kd sW _ _ _ _ _ _ r h0)
 ·exact eX _ l (by omega) _ _ _ _ _ _ _ _ _ _ (by rw [hlen 2 (by omega)]; exact yY) (fun _=>ou l (by omega)) (fun hall hk hf=>cmpc (fun o=>o == 0) (by omega) I6 hall hk (ee hf))
 ·exact eX _ l (by omega) _ _ _ _ _ _ _ _ _ _ (by rw [hlen 2 (by omega)]; exact yZ) (fun _=>ou l (by omega)) (fun hall hk hf=>cmpc (fun o=>o != 0) (by omega) I7 hall hk (ee hf))
 ·exact eX _ l (by omega) _ _ _ _ _ _ _ _ _ _ (by rw [hlen 2 (by omega)]; exact y0) (fun _=>ou l (by omega)) (fun hall hk hf=>cmpc (fun o=>decide (o < 0)) (by omega) I8 hall hk (ee hf))
 ·exact eX _ l (by omega) _ _ _ _ _ _ _ _ _ _ (by rw [hlen 2 (by omega)]; exact y1) (fun _=>ou l (by omega)) (fun hall hk hf=>cmpc (fun o=>decide (o≤0)) (by omega) I9 hall hk (ee hf))
 ·exact eX _ l (by omega) _ _ _ _ _ _ _ _ _ _ (by rw [hlen 2 (by omega)]; exact y2) (fun _=>ou l (by omega)) (fun hall hk hf=>cmpc (fun o=>decide (0 < o)) (by omega) Ja hall hk (ee hf))
 ·exact eX _ l (by omega) _ _ _ _ _ _ _ _ _ _ (by rw [hlen 2 (by omega)]; exact y3) (fun _=>ou l (by omega)) (fun hall hk hf=>cmpc (fun o=>decide (0≤o)) (by omega) Jb hall hk (ee hf))
 ·exact eX _ l (by omega) _ _ _ _ _ _ _ _ _ _ (by rw [hlen 2 (by omega)]; exact y4) (fun _=>nl l 1) (fun _ _ _=>Gk l false (by omega))
 ·exact eX _ l (by omega) _ _ _ _ _ _ _ _ _ _ (by rw [hlen 2 (by omega)]; exact y5) (fun _=>nl l 1) (fun _ _ _=>Gk l true (by omega))
 ·exact eX _ l (by omega) _ _ _ _ _ _ _ _ _ _ (by rw [hlen 2 (by omega)]; exact y6) (fun _=>ou l (by omega)) (fun _ _ _=>Jf l (by omega))
 ·exact eX _ l (by omega) _ _ _ _ _ _ _ _ _ _ (by rw [hlen 3 (by omega)]; exact y7) (fun _=>Jh l (by omega)) (fun _ _ _=>Jg l (by omega))
end Go.Proofs.YtpejdgkaapnekaaGreat
namespace Go.Proofs.YtpejdgkaapnekaaGreat
open Go Go.Abs
attribute [local irreducible] ao OkC aU bg aV bA
set_option maxRecDepth 10000
theorem AL{op : Int}(h : 1≤op∧op≤22) : op = 1∨op = 2∨op = 3∨op = 4∨op = 5∨op = 6∨op = 7∨op = 8∨op = 9∨op = 10∨op = 11∨op = 12∨op = 13∨op = 14∨op = 15∨op = 16∨op = 17∨op = 18∨op = 19∨op = 20∨op = 21∨op = 22:=by omega
theorem HJ{op : Int}(h : 1≤op∧op≤22) : vQ env.T 208 (some (.one (.d (.int .i64 op)))) (some (.agg wT)) = some (.agg [.d (.int .i64 (dN op)),.d (.bool (decide (op = 2) || decide (op = 3))),.d (.bool (decide (op = 1)))]):=by
 rcases AL h with rfl | rfl | rfl | rfl | rfl | rfl | rfl | rfl | rfl | rfl | rfl | rfl | rfl | rfl | rfl | rfl | rfl | rfl | rfl | rfl | rfl | rfl <;> rfl
theorem LS(s : Scalar) : CallA Tryz.prog 173 [du s] [] (.one (.d (.bool (dv s)))) []:=by
 refine enter ab Tryz.func173 rfl (by decide +kernel) rfl fun hok w0 σ0 φ0 M=>?_
 clear hok
 repeat' (first|(refine h6H ?_; first|refine ac ?_|refine ah ab J J J J J ?_|(refine h0H ?_; first|refine aT J J (by first|assumption|rfl) ?_|refine bH J J (by first|assumption|rfl) J J ?_|refine mK J J J J ?_|refine bn J J J J (fun h=>?_) (fun h=>?_))|(refine h2H ?_; first|refine s_e aa J J J (aF J J (by first|rfl|assumption) J) ?_|refine s_e aa J J J (az J J (by first|rfl|assumption) J) ?_)|(refine h4H ?_; refine ag J J J J J J J J (J1 _ _ _ _) J ?_)|(refine bC ?_; refine aM 0 J J J J J J ?_)|refine s_e aa J J J J ?_)|(refine h7H ?_; first|refine al ?_|refine ae ?_|refine aw ?_|refine am ?_|refine bc J ?_|refine aA J (fun h=>?_) (fun h=>?_)|refine aR progOk.mo ?_)|(refine bP ?_; first|refine bG (by kernel_rfl) ?_|refine d_e aa J J J (aK J J) ?_|(refine JW ?_; refine d_e aa J J J (vO J J J J (HJ (by first|omega|((try simp only [a0A,a1A,a2A,a3A,a4A,a5A,a6A,a7A,a8A,a9A,au,av] at *); omega)))) ?_)|(refine h9H ?_; refine d_l J J (bj J J J J J J (KJ) J) ?_)|refine j4 aa 1 J J J J J J ?_|refine ca aa J J J ?_)|refine ak ?_|refine aC ?_|refine ai (.inl J) J J ?_)
 all_goals (try rw [nD] at *)
 all_goals (try (((simp_all [dv,dN,nD,aO,List.drop_eq_nil_of_le]) <;> first | omega | (rw [Bool.eq_iff_iff]; simp; omega) | grind); done))
end Go.Proofs.YtpejdgkaapnekaaGreat
namespace Go.Proofs.YtpejdgkaapnekaaGreat
open Go Go.Abs
attribute [local irreducible] ao OkC aU bg aV bA OkR lI c6 db ov
set_option maxRecDepth 10000
def zV(d : Bool) : LoopState:=if d then .done else .ready
def tq(d : Bool) : Option Code:=if d then some .ret else none
def kO(li : LI)(fr : List (Nat×AV))(a : Int×Bool×Bool) : Sto :=
 [(1000000,.loop li fr (zV a.2.2) (tq a.2.2)),(1000001,.box [.d (.int .i64 (if a.2.2 then 9 else 0))]),(1000002,.box [.d (.int .i64 a.1)]),(1000003,.box [.d (.bool a.2.1)])]
def F87(a : Int×Bool×Bool)(x : Scalar) : Bool×(Int×Bool×Bool):=if 64 < a.1 + 1 then (false,(a.1 + 1,a.2.1,true)) else (true,(a.1 + 1,a.2.1 && dv x,false))
def AS(a : Int×Bool×Bool)(x : Scalar) : Prop:=a.2.2 = false∧0≤a.1∧a.1≤64
theorem xL : ∀ (l : List Scalar) (n : Int) (r : Bool),0≤n→n≤64→dm F87 AS l (n,r,false)∧kp l n r = (if (b5 F87 l (n,r,false)).2.2.2 = true then 9 else if (b5 F87 l (n,r,false)).2.2.1 = true then 0 else 2)
 | [],n,r,h0,h1=>⟨trivial,rfl⟩
 | x::l,n,r,h0,h1=>by
   simp only [dm,b5,kp,F87,AS]
   by_cases h : 64 < n + 1
   ·simp only [h,if_true]
    exact ⟨⟨⟨trivial,h0,h1⟩,fun h=>by cases h⟩,rfl⟩
   ·have ih:=xL l (n + 1) (r && dv x) (by omega) (by omega)
    simp only [h,if_false,if_true]
    exact ⟨⟨⟨trivial,h0,h1⟩,fun _=>ih.1⟩,ih.2⟩
theorem IK(li : LI)(fr : List (Nat×AV))(hf : ∀ a,io (kO li fr a) fr = true) : FamW (kO li fr):=by
 refine ⟨fun a i e h=>?_,fun a=>?_,fun a=>⟨li,fr,zV a.2.2,tq a.2.2,rfl⟩,fun a=>rfl⟩
 ·unfold kO at h
  rcases aB h with ⟨rfl,_⟩ | ⟨_,h⟩
  ·omega
  rcases aB h with ⟨rfl,_⟩ | ⟨_,h⟩
  ·omega
  rcases aB h with ⟨rfl,_⟩ | ⟨_,h⟩
  ·omega
  rcases aB h with ⟨rfl,_⟩ | ⟨_,h⟩
  ·omega
  ·exact nomatch h
 ·show (io (kO li fr a) fr && _) = true
  rw [hf a]; rfl
theorem y87{li : LI}{fr : List (Nat×AV)}(a : Int×Bool×Bool)(x : Scalar)(hok : AS a x)
  (hps : (iv li.n li.params.toList && Nat.beq li.params.toList.length 1) = true)
  (h : ∀ (n : Int) (r : Bool),0≤n→n≤64→∀ (w0 : World) (σ0 : Sig) (φ0 : Pl) (M : Nat→Prop) (B : Nat),OkC Tryz.prog ⟨w0,σ0,φ0,M,li.n,some B,[]⟩ li.assign ⟨fK li.params.toList [du x] fr,kO li fr (n,r,false)⟩
   (db Tryz.prog 1000000 ⟨w0,σ0,φ0,M,li.n,some B,[]⟩ li.body (.one (.d (.bool (F87 (n,r,false) x).1))) (kO li fr (F87 (n,r,false) x).2))) :
  YieldA Tryz.prog 1000000 [du x] (kO li fr a) (.one (.d (.bool (F87 a x).1))) (kO li fr (F87 a x).2):=by
 obtain ⟨n,r,d⟩:=a
 obtain ⟨rfl,h0,h1⟩ : d = false∧0≤n∧n≤64:=hok
 exact oB ⟨by omega,by omega⟩ rfl hps (h n r h0 h1)
theorem c87(s : Scalar) : CallA Tryz.prog 87 [du s] [] (.one (.d (.int .i64 (fA s)))) []:=by
 obtain ⟨h0,hform⟩:=xL (bB s) 0 true (by omega) (by omega)
 obtain ⟨⟨n',r',d'⟩,hR⟩ : ∃ a,(b5 F87 (bB s) (0,true,false)).2 = a:=⟨_,rfl⟩
 rw [hR] at hform
 refine enter ab Tryz.func87 rfl (by decide +kernel) rfl fun hok w0 σ0 φ0 M=>?_
 clear hok
 repeat' (first|(refine h6H ?_; first|refine ac ?_|refine ah ab J J J J J ?_|(refine h4H ?_; first|refine ag J J J J J J J J (GR 12 s 12 J (by omega)) J ?_|refine ba 16 J J J J J J J J (DD _) J J J ?_)|(refine bC ?_; refine aM 0 J J J J J J ?_)|(refine h5H ?_; first|refine ax ab 1 J J J J J ?_|refine ax ab 2 J J J J J ?_|refine ax ab 3 J J J J J ?_)|refine aI aa J J J ?_)|(refine h7H ?_; first|refine ox ?_|refine al ?_|refine ae ?_|refine aw ?_|refine am ?_|refine aA J (fun h=>?_) (fun h=>?_))|(show lI _ _ _; refine vR ?_)|refine ak ?_|refine aC ?_|refine ai (.inl J) J J ?_)
 ·simp [fA,h]
 ·have hC:=fun li fr hf hY=>DE (kO li fr) (IK li fr hf) F87 AS hY s (0,true,false) h0
  rw [hR] at hC
  refine oy (f:=216) (caps:=[.ptr (oT s)]) (os:=[(1,.box [.d (.int .i64 0)]),(2,.box [.d (.int .i64 0)]),(3,.box [.d (.bool true)])]) (rav:=.tup []) [1,2,3] 10 rfl rfl rfl rfl (hC _ _ (fun a=>?_) (fun a x hok=>?_)) (by cases d' <;> rfl) (fun h=>?_) (fun h=>?_)
  ·rfl
  ·refine y87 a x hok rfl fun n r hn0 hn1 w0 σ0 φ0 M B=>?_
   clear hC hform hok a
   by_cases hb : 64 < n + 1
   ·have e : F87 (n,r,false) x = (false,(n + 1,r,true)):=by simp [F87,hb]
    have hd : decide (64 < n + 1) = true:=by simp [hb]
    rw [e]
    repeat' (first|(refine h6H ?_; first|refine ac ?_|refine ah ab J J J J J ?_|(refine h1H ?_; refine s_e aa J J J (aL J J J J (aN (by omega) (by omega))) ?_)|(refine h5H ?_; refine ax ab 0 J J J J J ?_)|refine aI aa J J J ?_)|(refine h7H ?_; first|refine al ?_|refine ae ?_|refine ay ?_|refine am ?_|refine bv J (by assumption) ?_)|(show c6 _ _ _ _ _; refine mD J J ?_ ?_)|(show db _ _ _ _ _ _ _ _; refine eA J ?_)|refine ak ?_|refine aC ?_|refine aP ?_)
    ·rfl
    ·exact af rfl (q3Q rfl rfl rfl)
   ·have e : F87 (n,r,false) x = (true,(n + 1,r && dv x,false)):=by simp [F87,hb]
    have hd : decide (64 < n + 1) = false:=by simp [hb]
    rw [e]
    cases r
    all_goals
     repeat' (first|(refine h6H ?_; first|refine ac ?_|refine ah ab J J J J J ?_|(refine h0H ?_; first|refine aT J J (by first|assumption|rfl) ?_|refine bH J J (by first|assumption|rfl) J J ?_)|(refine h1H ?_; refine s_e aa J J J (aL J J J J (aN (by omega) (by omega))) ?_)|(refine h2H ?_; first|refine s_e aa J J J (aF J J (by first|rfl|assumption) J) ?_|refine s_e aa J J J (az J J (by first|rfl|assumption) J) ?_)|(refine h4H ?_; refine ag J J J J J J J J (LS _) J ?_)|(refine h5H ?_; refine ax ab 0 J J J J J ?_)|refine aI aa J J J ?_)|(refine h7H ?_; first|refine al ?_|refine ae ?_|refine ay ?_|refine aw ?_|refine aZ J (by assumption) ?_)|(show c6 _ _ _ _ _; refine fJ J ?_ ?_)|(show db _ _ _ _ _ _ _ _; refine eA J ?_)|refine ak ?_|refine aG ?_)
     all_goals first | rfl | refine af ?_ (af ?_ (af ?_ (af ?_ ap)))
     all_goals first | rfl | trace_state
  ·have : d' = false:=by cases d' <;> simp [tq] at h ⊢
   subst this
   rintro ⟨w1,σ1,φ1,M1,n1,rd1,mk1⟩ ⟨hn,hrd,_⟩
   dsimp only at hn hrd
   subst hn hrd
   repeat' (first|(refine h6H ?_; first|refine ac ?_|refine ah ab J J J J J ?_|refine aI aa J J J ?_)|(refine h7H ?_; first|refine al ?_|refine ae ?_|refine aw ?_|refine am ?_|refine aA J (fun h=>?_) (fun h=>?_))|(show ov _ _ _; refine vS ?_)|refine ak ?_|refine aC ?_|refine ai (.inl J) J J ?_)
   all_goals simp_all [fA]
  ·have : d' = true:=by cases d' <;> simp [tq] at h ⊢
   subst this
   repeat' (first|refine ai (.inl J) J J ?_)
   have hf : fA s = 9:=by rw [fA,hform]; simp_all
   rw [hf]; rfl
end Go.Proofs.YtpejdgkaapnekaaGreat
