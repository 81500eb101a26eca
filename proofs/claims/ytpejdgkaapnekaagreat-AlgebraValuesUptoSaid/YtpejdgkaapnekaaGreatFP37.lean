import Derived.Test.YtpejdgkaapnekaaGreatFP36
set_option linter.unusedVariables false
set_option linter.unusedSimpArgs false
set_option linter.unnecessarySimpa false
set_option maxHeartbeats 1000000
namespace Go.Proofs.YtpejdgkaapnekaaGreat
open Go Go.Abs
attribute [local irreducible] ao OkC aU bg aV bA
set_option maxRecDepth 10000
theorem Hr{op : Int}(h : 4≤op∧op≤8) : op = 4∨op = 5∨op = 6∨op = 7∨op = 8:=by omega
theorem Hs{op : Int}(h : 9≤op∧op≤21) : op = 9∨op = 10∨op = 11∨op = 12∨op = 13∨op = 14∨op = 15∨op = 16∨op = 17∨op = 18∨op = 19∨op = 20∨op = 21:=by omega
theorem GZ(op : Int)(hop : 4≤op∧op≤8)(a : Val) : CallA Tryz.prog 234 [.one (.d (.int .i64 op)),.one (.d (bf [a]))] [] (.one (.d (.bool (kdF op [a])))) []:=by
 rcases Hr hop with rfl | rfl | rfl | rfl | rfl
 all_goals refine enter ab Tryz.func234 rfl (by decide +kernel) rfl fun hok w0 σ0 φ0 M=>?_
 all_goals clear hok
 repeat' (first|(refine h6H ?_; first|refine ac ?_|refine ah ab J J J J J ?_|(refine h0H ?_; refine bH J J (by first|assumption|rfl) J J ?_)|(refine h2H ?_; refine s_e aa J J J (az J J (by first|rfl|assumption) J) ?_)|(refine h4H ?_; refine ag J J J J J J J J (DR _ _) J ?_)|refine s_e aa J J J J ?_)|(refine h7H ?_; first|refine al ?_|refine ae ?_|refine ay ?_|refine aw ?_|refine am ?_|refine bc J ?_|refine bm J ?_)|refine ak ?_|refine aC ?_|refine aG ?_|refine aP ?_|refine ai (.inl J) J J ?_)
 all_goals refine congrArg (fun x=>AV.one (.d (.bool x))) ?_
 all_goals first | rfl | (simp [kdF]; done)
theorem G3(op : Int)(hop : 9≤op∧op≤21)(a b : Val) : CallA Tryz.prog 234 [.one (.d (.int .i64 op)),.one (.d (bf [a,b]))] [] (.one (.d (.bool (kdF op [a,b])))) []:=by
 rcases Hs hop with rfl | rfl | rfl | rfl | rfl | rfl | rfl | rfl | rfl | rfl | rfl | rfl | rfl
 all_goals refine enter ab Tryz.func234 rfl (by decide +kernel) rfl fun hok w0 σ0 φ0 M=>?_
 all_goals clear hok
 repeat' (first|(refine h6H ?_; first|refine ac ?_|refine ah ab J J J J J ?_|(refine h0H ?_; first|refine aT J J (by first|assumption|rfl) ?_|refine bH J J (by first|assumption|rfl) J J ?_|refine bn J J J J (fun h=>?_) (fun h=>?_))|(refine h2H ?_; first|refine s_e aa J J J (aF J J (by first|rfl|assumption) J) ?_|refine s_e aa J J J (az J J (by first|rfl|assumption) J) ?_)|(refine h4H ?_; refine ag J J J J J J J J (DR _ _) J ?_)|refine s_e aa J J J J ?_)|(refine h7H ?_; first|refine al ?_|refine ae ?_|refine ay ?_|refine aw ?_|refine am ?_|refine bc J ?_|refine bm J ?_|refine aR progOk.mo ?_)|(refine bP ?_; first|refine bG (by kernel_rfl) ?_|refine d_e aa J J J (aK J J) ?_|(refine h9H ?_; refine d_l J J (bj J J J J J J (Ht _ _) J) ?_)|refine d_e aa J J J J ?_)|refine ak ?_|refine aC ?_|refine aP ?_|refine ai (.inl J) J J ?_)
 all_goals refine congrArg (fun x=>AV.one (.d (.bool x))) ?_
 all_goals first | (rw [rl]; rfl) | (simp_all [kdF,rl]; done)
theorem G5(a b c : Val) : CallA Tryz.prog 234 [.one (.d (.int .i64 22)),.one (.d (bf [a,b,c]))] [] (.one (.d (.bool (kdF 22 [a,b,c])))) []:=by
 have e : kdF 22 [a,b,c] = (isV a 1 && gc b c):=rfl
 rw [e]
 refine enter ab Tryz.func234 rfl (by decide +kernel) rfl fun hok w0 σ0 φ0 M=>?_
 clear hok
 repeat' (first|(refine h6H ?_; first|refine ac ?_|refine ah ab J J J J J ?_|(refine h0H ?_; refine aT J J (by first|assumption|rfl) ?_)|(refine h2H ?_; refine s_e aa J J J (aF J J (by first|rfl|assumption) J) ?_))|(refine h7H ?_; first|refine al ?_|refine ae ?_|refine ay ?_|refine am ?_|refine bc J ?_|refine bm J ?_|refine aR progOk.mo ?_)|(refine bP ?_; first|refine bG (by kernel_rfl) ?_|refine d_e aa J J J (aK J J) ?_|(refine qO ?_; first|refine jH J J (by first|assumption|rfl) ?_|refine nv J J (by first|assumption|rfl) J J ?_|refine kV J J (fun h=>?_) (fun h=>?_))|(refine qP ?_; first|refine d_e aa J J J (aF J J (by first|rfl|assumption) J) ?_|refine d_e aa J J J (az J J (by first|rfl|assumption) J) ?_)|(refine h9H ?_; first|refine d_l J J (bj J J J J J J (DR _ _) J) ?_|refine d_l J J (bj J J J J J J (Ht _ _) J) ?_)|refine d_e aa J J J J ?_)|refine ak ?_|refine aC ?_|refine aP ?_|refine ai (.inl J) J J ?_)
 ·have h' : isV a 1 = true:=h
  rw [h',Bool.true_and,← rl]
 ·have h' : isV a 1 = false:=h
  rw [h',Bool.false_and]
def lN(op : Int)(l : List Val) : Val×Bool :=
 if op = 7∨op = 8∨op = 21 then (rvF op l,true) else if op = 22 then (if (at_ l 0).kind == 0 then at_ l 0 else if b9 (at_ l 0) (aY true) == true then at_ l 1 else at_ l 2,true)
 else if op = 19 then (aY false,b9 (at_ l 0) (aY false) || b9 (at_ l 1) (aY false)) else if op = 20 then (aY true,b9 (at_ l 0) (aY true) || b9 (at_ l 1) (aY true)) else (ic,false)
def kC(p : Val×Bool) : AV:=.tup [(true,[.d (.int .i64 p.1.kind),.d (.int .i64 p.1.num),.d (.int .i64 p.1.den),.d (.str p.1.str)]),(false,[.d (.bool p.2)])]
theorem Ix{b : Bool}{l : List Val}(h : (b9 (at_ l 0) (aY b) == true) = false) : (aY b,(b9 (at_ l 1) (aY b) == true)) = (aY b,b9 (at_ l 0) (aY b) || b9 (at_ l 1) (aY b)):=by
 have h' : b9 (at_ l 0) (aY b) = false:=by simpa using h
 rw [h',Bool.false_or]; simp
theorem Iy{b : Bool}{l : List Val}(h : (b9 (at_ l 0) (aY b) == true) = true) : (aY b,true) = (aY b,b9 (at_ l 0) (aY b) || b9 (at_ l 1) (aY b)):=by
 have h' : b9 (at_ l 0) (aY b) = true:=by simpa using h
 rw [h',Bool.true_or]
theorem AD{α : Type}{b : Bool}{x y : α}(h : b = true) : x = if b = true then x else y:=(if_pos h).symm
theorem w3{α : Type}{b : Bool}{x y : α}(h : b = false) : y = if b = true then x else y:=(if_neg (by rw [h]; simp)).symm
theorem pk(op : Int)(hop : 4≤op∧op≤8)(l : List Val)(hl : l.length = 1) : CallA Tryz.prog 235 [.one (.d (.int .i64 op)),.one (.d (bf l))] [] (kC (lN op l)) []:=by
 rcases Hr hop with rfl | rfl | rfl | rfl | rfl
 all_goals refine enter ab Tryz.func235 rfl (by decide +kernel) rfl fun hok w0 σ0 φ0 M=>?_
 all_goals clear hok
 repeat' (first|(refine h6H ?_; first|refine ac ?_|refine ah ab J J J J J ?_|(refine h3H ?_; refine s_e aa J J J (ar J J J J J (by omega) (aJ (by omega))) ?_)|(refine h4H ?_; refine ag J J J J J J J J (kx _) J ?_)|(refine h5H ?_; refine ax ab 0 J J J J J ?_)|refine aI aa J J J ?_)|(refine h7H ?_; first|refine al ?_|refine ae ?_|refine ay ?_|refine aw ?_|refine am ?_|refine bc J ?_|refine bm J ?_|refine aA J (fun h=>?_) (fun h=>?_))|refine ak ?_|refine aC ?_|refine aG ?_|refine aP ?_|refine ai (.inl J) J J ?_)
 all_goals first
  | rfl
  | exact congrArg (fun x=>kC (⟨2,x,1,[]⟩,true)) (AD h)
  | exact congrArg (fun x=>kC (⟨2,x,1,[]⟩,true)) (w3 h)
theorem fE(op : Int)(hop : 9≤op∧op≤21)(l : List Val)(hl : l.length = 2) : CallA Tryz.prog 235 [.one (.d (.int .i64 op)),.one (.d (bf l))] [] (kC (lN op l)) []:=by
 rcases Hs hop with rfl | rfl | rfl | rfl | rfl | rfl | rfl | rfl | rfl | rfl | rfl | rfl | rfl
 all_goals refine enter ab Tryz.func235 rfl (by decide +kernel) rfl fun hok w0 σ0 φ0 M=>?_
 all_goals clear hok
 repeat' (first|(refine h6H ?_; first|refine ac ?_|refine ah ab J J J J J ?_|(refine h3H ?_; refine s_e aa J J J (ar J J J J J (by omega) (aJ (by omega))) ?_)|(refine h5H ?_; refine ax ab 0 J J J J J ?_)|refine aI aa J J J ?_)|(refine h7H ?_; first|refine al ?_|refine ae ?_|refine ay ?_|refine aw ?_|refine am ?_|refine bc J ?_|refine bm J ?_|refine aA J (fun h=>?_) (fun h=>?_)|refine aR progOk.mo ?_)|(refine bP ?_; first|refine bG (by kernel_rfl) ?_|refine d_e aa J J J (aK J J) ?_|(refine qO ?_; first|refine jH J J (by first|assumption|rfl) ?_|refine nv J J (by first|assumption|rfl) J J ?_|refine kV J J (fun h=>?_) (fun h=>?_))|(refine qP ?_; first|refine d_e aa J J J (aF J J (by first|rfl|assumption) J) ?_|refine d_e aa J J J (az J J (by first|rfl|assumption) J) ?_)|(refine h8H ?_; refine d_e aa J J J (ar J J J J J (by omega) (aJ (by omega))) ?_)|(refine h9H ?_; refine d_l J J (bj J J J J J J (kx _) J) ?_)|refine d_e aa J J J J ?_|refine ca aa J J J ?_)|refine ak ?_|refine aC ?_|refine aG ?_|refine aP ?_|refine ai (.inl J) J J ?_)
 all_goals first
  | rfl
  | exact congrArg kC (Ix h)
  | exact congrArg kC (Iy h)
  | exact congrArg (fun x=>kC (x,true)) (AD h)
  | exact congrArg (fun x=>kC (x,true)) (w3 h)
theorem Hu(l : List Val)(hl : l.length = 3) : CallA Tryz.prog 235 [.one (.d (.int .i64 22)),.one (.d (bf l))] [] (kC (lN 22 l)) []:=by
 refine enter ab Tryz.func235 rfl (by decide +kernel) rfl fun hok w0 σ0 φ0 M=>?_
 clear hok
 repeat' (first|(refine h6H ?_; first|refine ac ?_|refine ah ab J J J J J ?_|(refine h3H ?_; refine s_e aa J J J (ar J J J J J (by omega) (aJ (by omega))) ?_)|(refine h5H ?_; refine ax ab 0 J J J J J ?_)|refine aI aa J J J ?_)|(refine h7H ?_; first|refine al ?_|refine ae ?_|refine ay ?_|refine aw ?_|refine am ?_|refine bc J ?_|refine bm J ?_|refine aA J (fun h=>?_) (fun h=>?_)|refine aR progOk.mo ?_)|(refine bP ?_; first|refine bG (by kernel_rfl) ?_|refine d_e aa J J J (aK J J) ?_|(refine h8H ?_; refine d_e aa J J J (ar J J J J J (by omega) (aJ (by omega))) ?_)|(refine h9H ?_; refine d_l J J (bj J J J J J J (kx _) J) ?_)|refine d_e aa J J J J ?_)|refine ak ?_|refine aC ?_|refine aP ?_|refine ai (.inl J) J J ?_)
 ·exact congrArg (fun x=>kC (x,true)) (AD h)
 ·exact congrArg (fun x=>kC (x,true)) ((AD (y:=at_ l 2) h).trans (w3 ‹((at_ l (Int.toNat 0)).kind == 0) = false›))
 ·exact congrArg (fun x=>kC (x,true)) ((w3 (x:=at_ l 1) h).trans (w3 ‹((at_ l (Int.toNat 0)).kind == 0) = false›))
end Go.Proofs.YtpejdgkaapnekaaGreat
namespace Go.Proofs.YtpejdgkaapnekaaGreat
open Go Go.Abs
attribute [local irreducible] ao OkC aU bg aV bA
set_option maxRecDepth 10000
theorem DS{v : Val}(hr : aH v = true)(hk : v.kind = 1) : (v.num = 0∨v.num = 1)∧v.den = 0∧v.str = []:=by
 unfold aH dU at hr
 rw [hk] at hr
 simp [mH] at hr
 exact ⟨hr.2,hr.1⟩
theorem w9{v : Val}{b : Bool}(hr : aH v = true)(hk : v.kind = 1) : b9 v (aY b) = (v.num == (aY b).num):=by
 obtain ⟨h1,h2,h3⟩:=DS hr hk
 rw [Bool.eq_iff_iff,Cd]
 constructor
 ·intro e; rw [e]; simp
 ·intro e
  have e2 : v.num = (aY b).num:=by simpa using e
  clear e h1 hr
  obtain ⟨k,n,d,s⟩:=v
  simp only at hk h2 h3 e2
  rw [hk,h2,h3,e2]; rfl
theorem DT{v : Val}(hr : aH v = true)(hk : v.kind = 1) : aY (b9 v (aY false) == true) = aY (v.num == 0):=by
 rw [w9 hr hk]; simp [aY]
theorem Fz{v : Val}(hr : aH v = true)(hk : v.kind = 2) : v.str = []:=by
 unfold aH dU at hr
 rw [hk] at hr
 simp at hr
 exact hr.1
theorem DU{v : Val}(hr : aH v = true)(hk : v.kind = 2) : vP3 (tu (c8 v)) = n4 v:=by
 obtain ⟨q1,q2,q3,q4⟩:=i6 hr hk
 have h1:=Fz hr hk
 unfold vP3 tu c8 vP n4
 simp only
 rw [if_pos ⟨q1,q3⟩,hk,h1,← q4]
 congr 1
 have hw : IntKind.i64.wrap (0 - v.num) = -v.num:=by
  rw [Int.zero_sub]
  have : naV v = v.num.natAbs:=rfl
  exact aN (by omega) (by omega)
 rw [hw]
 unfold ngV naV
 by_cases h0 : v.num = 0
 ·rw [h0]; simp
 ·by_cases hn : v.num < 0
  ·simp [hn]; omega
  ·have : ¬ v.num < 0:=hn
   simp [this]; omega
theorem FA{s : Bool}{q b : Nat} : vP (s && decide (q≠0)) q b = vP s q b:=by
 unfold vP
 by_cases h : q = 0
 ·subst h; simp
 ·simp [h]
theorem AF{v : Val} : vP3 (ngV v && decide ((if ngV v = true∧naV v % dnV v≠0 then naV v / dnV v + 1 else naV v / dnV v)≠0),(if ngV v = true∧naV v % dnV v≠0 then naV v / dnV v + 1 else naV v / dnV v),1) = xa v:=by
 unfold vP3 xa; exact FA
theorem wn{b : Bool}{l : List Val}(h : (b9 (at_ l 0) (aY b) || b9 (at_ l 1) (aY b)) = true) : aY b = jm b l:=by
 unfold jm; rw [if_pos (by simpa using h)]
theorem oH{b : Bool}{l : List Val}(h : (b9 (at_ l 0) (aY b) || b9 (at_ l 1) (aY b)) = false) : (bi l).getD (aY (!b)) = jm b l:=by
 unfold jm; rw [if_neg (by
  intro hc
  have : (b9 (at_ l 0) (aY b) || b9 (at_ l 1) (aY b)) = true:=by simpa using hc
  rw [this] at h; cases h)]
theorem FB{l : List Val}(hl : l.length = 3)(hr : l.all aH = true)(hk : kdF 22 l = true) : (lN 22 l).1 = rvF 22 l:=by
 show (if (at_ l 0).kind == 0 then at_ l 0 else if b9 (at_ l 0) (aY true) == true then at_ l 1 else at_ l 2) = (if (at_ l 0).kind == 0 then at_ l 0 else if (at_ l 0).num == 1 then at_ l 1 else at_ l 2)
 by_cases h0 : ((at_ l 0).kind == 0) = true
 ·rw [if_pos h0,if_pos h0]
 ·rw [if_neg h0,if_neg h0]
  have h1 : isV (at_ l 0) 1 = true:=by
   have : (isV (at_ l 0) 1 && gc (at_ l (l.length - 2)) (at_ l (l.length - 1))) = true:=hk
   simp at this; exact this.1
  have hk1:=pL h1 (by simpa using h0)
  rw [w9 (dR hr (i:=0) (by omega)) hk1]
  simp [aY]
end Go.Proofs.YtpejdgkaapnekaaGreat
namespace Go.Proofs.YtpejdgkaapnekaaGreat
open Go Go.Abs
attribute [local irreducible] ao OkC aU bg aV bA
set_option maxRecDepth 10000
theorem ne2{b : Bool} : ((if b = true then (0 : Int) else 2) != 0) = !b:=by cases b <;> rfl
theorem eD(v : Val) : CallA Tryz.prog 227 [bD v] [] (.one (.d (.int .i64 (if aH v = true then 0 else 2)))) []:=zN v.kind v.num v.den v.str
theorem pe(op : Int)(hop : 4≤op∧op≤8)(l : List Val)(hl : l.length = 1) : CallA Tryz.prog 234 [.one (.d (.int .i64 op)),.one (.d (bf l))] [] (.one (.d (.bool (kdF op l)))) []:=by
 match l,hl with
 | [a],_=>exact GZ op hop a
theorem fD(op : Int)(hop : 9≤op∧op≤21)(l : List Val)(hl : l.length = 2) : CallA Tryz.prog 234 [.one (.d (.int .i64 op)),.one (.d (bf l))] [] (.one (.d (.bool (kdF op l)))) []:=by
 match l,hl with
 | [a,b],_=>exact G3 op hop a b
theorem G4(l : List Val)(hl : l.length = 3) : CallA Tryz.prog 234 [.one (.d (.int .i64 22)),.one (.d (bf l))] [] (.one (.d (.bool (kdF 22 l)))) []:=by
 match l,hl with
 | [a,b,c],_=>exact G5 a b c
theorem wm{a : Int}(h : a = 1) : a≠2:=by omega
theorem kd1{op : Int}{l : List Val}{k : Int}(hr : l.all aH = true)(hk : l.all (fun v=>isV v k) = true)(hm : bi l = none){i : Nat}(hi : i < l.length) : aH (at_ l i) = true∧(at_ l i).kind = k:=⟨dR hr hi,pL (dR hk hi) (lW hm hi)⟩
theorem eP{op : Int}{l : List Val}{rv : Val}(hall : l.all aH = true)(hk : (!kdF op l) = false)(hm : frF op = true∨bi l = none)(h : rv = rvF op l) : cV (rv,0) = cV (doF op l):=by
 unfold doF doG
 rw [if_pos hall,if_pos (by simpa using hk)]
 rcases hm with hm | hm
 ·rw [if_pos hm,h]
 ·rw [hm,← h]; split <;> rfl
theorem fV{op : Int}{l : List Val}(hall : ¬ l.all aH = true) : cV (ic,2) = cV (doF op l):=by unfold doF; rw [z8 hall]
theorem fW{op : Int}{l : List Val}(hall : l.all aH = true)(hk : (!kdF op l) = true) : cV (ic,12) = cV (doF op l):=by unfold doF; rw [Aa hall hk]
theorem iG{op : Int}{l : List Val}{k : Nat}(hall : l.all aH = true)(hk : (!kdF op l) = false)(hf : frF op = false)(hq : bi l = bi (l.drop k))(hlt : k < l.length)(h : ((at_ l k).kind == 0) = true) : cV (at_ l k,0) = cV (doF op l):=by
 unfold doF; rw [r7 hall hk (by rw [hf]; rfl),hq,lj hlt h]; rfl
theorem BC{b : Bool}{op : Int}{l : List Val}{k : Nat}(hop : op = 19∧b = false∨op = 20∧b = true)(hall : l.all aH = true)(hk : (!kdF op l) = false)(hs : (b9 (at_ l 0) (aY b) || b9 (at_ l 1) (aY b)) = false)(hq : bi l = bi (l.drop k))(hlt : k < l.length)(h : ((at_ l k).kind == 0) = true) : cV (at_ l k,0) = cV (doF op l):=by
 refine eP hall hk (.inl ?_) ?_
 ·rcases hop with ⟨rfl,_⟩ | ⟨rfl,_⟩ <;> rfl
 ·have e:=oH hs
  rw [hq,lj hlt h] at e
  have e2 : at_ l k = jm b l:=e
  rcases hop with ⟨rfl,rfl⟩ | ⟨rfl,rfl⟩ <;> exact e2
def flT(v : Val) : Bool×Nat×Nat:=(ngV v && decide ((if ngV v = true∧naV v % dnV v≠0 then naV v / dnV v + 1 else naV v / dnV v)≠0),(if ngV v = true∧naV v % dnV v≠0 then naV v / dnV v + 1 else naV v / dnV v),1)
theorem It(v : Val)(hr : aH v = true)(hk : v.kind = 2) : CallA Tryz.prog 240 [cA (c8 v)] [] (cA (flT v)) []:=by
 have n:=gV hr hk
 have r:=(n.w n).len
 exact Kl (c8 v) _ rfl n.b.1 (Nat.le_trans (iX (Nat.le_mul_of_pos_right _ n.b.1)) r.2.1) (Nat.le_trans (iX (Nat.le_mul_of_pos_right _ n.b.1)) r.2.2.2.1) (Nat.le_trans (iX (Nat.div_le_self _ _)) r.1.1)
end Go.Proofs.YtpejdgkaapnekaaGreat
namespace Go.Proofs.YtpejdgkaapnekaaGreat
open Go Go.Abs
attribute [local irreducible] ao OkC aU bg aV bA
set_option maxRecDepth 10000
set_option maxHeartbeats 2000000 in
theorem GL(l : List Val)(hl : l.length = 1) : CallA Tryz.prog 187 [.one (.d (.int .i64 4)),.one (.d (bf l))] [] (cV (doF 4 l)) []:=by
 have h228 : CallA Tryz.prog 228 [.one (.d (.int .i64 4))] [] (.one (.d (.int .i64 1))) []:=fC 4
 have hlen : (((l.map aj).length : Int) != 1) = false:=by rw [List.length_map,hl]; rfl
 have hkc:=pe 4 ⟨by omega,by omega⟩ l hl
 have hsc:=pk 4 ⟨by omega,by omega⟩ l hl
 have hx : l.all aH = true→kdF 4 l = true→bi l = none→aH (at_ l 0) = true∧(at_ l 0).kind = 1:=fun hr hk hm=>kd1 (op:=0) hr hk hm (by omega)
 all_goals refine enter ab Tryz.func187 rfl (by decide +kernel) rfl fun hok w0 σ0 φ0 M=>?_
 all_goals clear hok
 repeat' (first|(refine h6H ?_; first|refine ac ?_|refine ah ab J J J J J ?_|(refine h0H ?_; refine aT J J (by first|assumption|rfl) ?_)|(refine h1H ?_; refine s_e aa J J J (aL J J J J (aN (by omega) (by omega))) ?_)|(refine h2H ?_; refine s_e aa J J J (az J J (by first|rfl|assumption) J) ?_)|(refine h3H ?_; first|refine s_e aa J J J (ar J J J J J (by omega) (aJ (by omega))) ?_|refine s_e aa J J J (ar J J J J J (by first|omega|((try simp only [a0A,a1A,a2A,a3A,a4A,a5A,a6A,a7A,a8A,a9A,au,av] at *); omega)) (aJ (by first|omega|((try simp only [a0A,a1A,a2A,a3A,a4A,a5A,a6A,a7A,a8A,a9A,au,av] at *); omega)))) ?_)|(refine h4H ?_; first|refine ag J J J J J J J J (h228) J ?_|refine ag J J J J J J J J (eD _) J ?_|refine ag J J J J J J J J (hkc) J ?_|refine ag J J J J J J J J (hsc) J ?_|refine ag J J J J J J J J (kF _ (hx (aD hq ‹decide ((k : Int) < ((l.map aj).length : Int)) = false›) (by simpa using ‹(!kdF 4 l) = false›) (aQ hq1 h)).1 (wm (hx (aD hq ‹decide ((k : Int) < ((l.map aj).length : Int)) = false›) (by simpa using ‹(!kdF 4 l) = false›) (aQ hq1 h)).2)) J ?_)|(refine h5H ?_; first|refine ax ab 0 J J J J J ?_|refine ax ab 1 J J J J J ?_|refine ax ab 2 J J J J J ?_)|refine aI aa J J J ?_)|(refine h7H ?_; first|refine al ?_|refine ae ?_|refine ay ?_|refine aw ?_|refine am ?_|refine aW ?_|refine bc J ?_|refine bm J ?_|refine aZ J (by assumption) ?_|refine aA J (fun h=>?_) (fun h=>?_)|refine aR progOk.mo ?_|refine bk 4 J [(0,_),(1,_),(4,_)] (q3Q J J J) (fun (k : Nat)=>[(6,.one (.d (.int .i64 (k : Int))))]) (fun (k : Nat)=>k≤l.length∧l.all aH = (l.drop k).all aH) (fun (k : Nat)=>l.length - k) 0 (q1Q J) ?_ (fun k ⟨hk0,hq⟩=>?_)|refine bk 14 J [(0,_),(1,_),(4,_)] (q3Q J J J) (fun (j : Nat)=>[(9,.one (.d (.int .i64 (j : Int))))]) (fun (j : Nat)=>j≤l.length∧bi l = bi (l.drop j)) (fun (j : Nat)=>l.length - j) 0 (q1Q J) ?_ (fun j ⟨hk1,hq1⟩=>?_))|(refine bP ?_; first|refine bG (by kernel_rfl) ?_|refine d_e aa J J J (aK J J) ?_|(refine h8H ?_; refine d_e aa J J J (ar J J J J J (by omega) (aJ (by omega))) ?_)|(refine h9H ?_; refine d_l J J (bj J J J J J J (kx _) J) ?_)|refine d_e aa J J J J ?_|refine ca aa J J J ?_)|(show Exists _; first|refine Exists.intro (j + 1) ⟨?_,?_,(by first|(repeat' first|exact ap|refine af J ?_) <;> fail|fail),(q1Q J),(q3Q J J J)⟩|refine Exists.intro (k + 1) ⟨?_,?_,(by first|(repeat' first|exact ap|refine af J ?_) <;> fail|fail),(q1Q J),(q3Q J J J)⟩)|refine ak ?_|refine aC ?_|refine bd ?_|refine aG ?_|refine aP ?_|refine aX J ?_|refine ai (.inl J) J J ?_)
 all_goals first
  | exact ⟨Nat.zero_le _,rfl⟩
  | exact fV (ef hq (by simpa using ‹decide ((k : Int) < ((l.map aj).length : Int)) = true›) (by rw [← ne2]; exact h))
  | (have hlt : k < l.length:=by simpa using ‹decide ((k : Int) < ((l.map aj).length : Int)) = true›
     exact ⟨hlt,eg hq hlt (by rw [← ne2]; exact h)⟩)
  | (have hlt : k < l.length:=by simpa using ‹decide ((k : Int) < ((l.map aj).length : Int)) = true›
     show l.length - (k + 1) < l.length - k
     omega)
  | exact fW (aD hq ‹decide ((k : Int) < ((l.map aj).length : Int)) = false›) h
  | exact eP (rv:=aY (b9 (at_ l 0) (aY false) == true)) (aD hq ‹decide ((k : Int) < ((l.map aj).length : Int)) = false›) ‹(!kdF 4 l) = false› (.inr (aQ hq1 h)) (DT (hx (aD hq ‹decide ((k : Int) < ((l.map aj).length : Int)) = false›) (by simpa using ‹(!kdF 4 l) = false›) (aQ hq1 h)).1 (hx (aD hq ‹decide ((k : Int) < ((l.map aj).length : Int)) = false›) (by simpa using ‹(!kdF 4 l) = false›) (aQ hq1 h)).2)
  | exact iG (aD hq ‹decide ((k : Int) < ((l.map aj).length : Int)) = false›) ‹(!kdF 4 l) = false› rfl hq1 (by simpa using ‹decide ((j : Int) < ((l.map aj).length : Int)) = true›) h
  | (have hlt : j < l.length:=by simpa using ‹decide ((j : Int) < ((l.map aj).length : Int)) = true›
     exact ⟨hlt,hq1.trans (c0 hlt h)⟩)
  | (have hlt : j < l.length:=by simpa using ‹decide ((j : Int) < ((l.map aj).length : Int)) = true›
     show l.length - (j + 1) < l.length - j
     omega)
  | skip
set_option maxHeartbeats 2000000 in
theorem GM(l : List Val)(hl : l.length = 1) : CallA Tryz.prog 187 [.one (.d (.int .i64 5)),.one (.d (bf l))] [] (cV (doF 5 l)) []:=by
 have h228 : CallA Tryz.prog 228 [.one (.d (.int .i64 5))] [] (.one (.d (.int .i64 1))) []:=fC 5
 have hlen : (((l.map aj).length : Int) != 1) = false:=by rw [List.length_map,hl]; rfl
 have hkc:=pe 5 ⟨by omega,by omega⟩ l hl
 have hsc:=pk 5 ⟨by omega,by omega⟩ l hl
 have hx : l.all aH = true→kdF 5 l = true→bi l = none→aH (at_ l 0) = true∧(at_ l 0).kind = 2:=fun hr hk hm=>kd1 (op:=0) hr hk hm (by omega)
 all_goals refine enter ab Tryz.func187 rfl (by decide +kernel) rfl fun hok w0 σ0 φ0 M=>?_
 all_goals clear hok
 repeat' (first|(refine h6H ?_; first|refine ac ?_|refine ah ab J J J J J ?_|(refine h0H ?_; refine aT J J (by first|assumption|rfl) ?_)|(refine h1H ?_; refine s_e aa J J J (aL J J J J (aN (by omega) (by omega))) ?_)|(refine h2H ?_; refine s_e aa J J J (az J J (by first|rfl|assumption) J) ?_)|(refine h3H ?_; first|refine s_e aa J J J (ar J J J J J (by omega) (aJ (by omega))) ?_|refine s_e aa J J J (ar J J J J J (by first|omega|((try simp only [a0A,a1A,a2A,a3A,a4A,a5A,a6A,a7A,a8A,a9A,au,av] at *); omega)) (aJ (by first|omega|((try simp only [a0A,a1A,a2A,a3A,a4A,a5A,a6A,a7A,a8A,a9A,au,av] at *); omega)))) ?_)|(refine h4H ?_; first|refine ag J J J J J J J J (h228) J ?_|refine ag J J J J J J J J (eD _) J ?_|refine ag J J J J J J J J (hkc) J ?_|refine ag J J J J J J J J (hsc) J ?_|refine ag J J J J J J J J (D7 _) J ?_|refine ba 16 J J J J J J J J (eU _ (hx (aD hq ‹decide ((k : Int) < ((l.map aj).length : Int)) = false›) (by simpa using ‹(!kdF 5 l) = false›) (aQ hq1 h)).1 (hx (aD hq ‹decide ((k : Int) < ((l.map aj).length : Int)) = false›) (by simpa using ‹(!kdF 5 l) = false›) (aQ hq1 h)).2) J J J ?_|refine ba 16 J J J J J J J J (GV (c8 (at_ l 0))) J J J ?_)|(refine h5H ?_; first|refine ax ab 0 J J J J J ?_|refine ax ab 1 J J J J J ?_|refine ax ab 2 J J J J J ?_)|refine aI aa J J J ?_)|(refine h7H ?_; first|refine al ?_|refine ae ?_|refine ay ?_|refine aw ?_|refine am ?_|refine aW ?_|refine bc J ?_|refine bm J ?_|refine aZ J (by assumption) ?_|refine aA J (fun h=>?_) (fun h=>?_)|refine bk 4 J [(0,_),(1,_),(4,_)] (q3Q J J J) (fun (k : Nat)=>[(6,.one (.d (.int .i64 (k : Int))))]) (fun (k : Nat)=>k≤l.length∧l.all aH = (l.drop k).all aH) (fun (k : Nat)=>l.length - k) 0 (q1Q J) ?_ (fun k ⟨hk0,hq⟩=>?_)|refine bk 14 J [(0,_),(1,_),(4,_)] (q3Q J J J) (fun (j : Nat)=>[(9,.one (.d (.int .i64 (j : Int))))]) (fun (j : Nat)=>j≤l.length∧bi l = bi (l.drop j)) (fun (j : Nat)=>l.length - j) 0 (q1Q J) ?_ (fun j ⟨hk1,hq1⟩=>?_))|(show Exists _; first|refine Exists.intro (j + 1) ⟨?_,?_,(by first|(repeat' first|exact ap|refine af J ?_) <;> fail|fail),(q1Q J),(q3Q J J J)⟩|refine Exists.intro (k + 1) ⟨?_,?_,(by first|(repeat' first|exact ap|refine af J ?_) <;> fail|fail),(q1Q J),(q3Q J J J)⟩)|refine ak ?_|refine aC ?_|refine bd ?_|refine aG ?_|refine aP ?_|refine aX J ?_|refine ai (.inl J) J J ?_)
 all_goals first
  | exact ⟨Nat.zero_le _,rfl⟩
  | exact fV (ef hq (by simpa using ‹decide ((k : Int) < ((l.map aj).length : Int)) = true›) (by rw [← ne2]; exact h))
  | (have hlt : k < l.length:=by simpa using ‹decide ((k : Int) < ((l.map aj).length : Int)) = true›
     exact ⟨hlt,eg hq hlt (by rw [← ne2]; exact h)⟩)
  | (have hlt : k < l.length:=by simpa using ‹decide ((k : Int) < ((l.map aj).length : Int)) = true›
     show l.length - (k + 1) < l.length - k
     omega)
  | exact fW (aD hq ‹decide ((k : Int) < ((l.map aj).length : Int)) = false›) h
  | exact eP (rv:=vP3 (tu (c8 (at_ l 0)))) (aD hq ‹decide ((k : Int) < ((l.map aj).length : Int)) = false›) ‹(!kdF 5 l) = false› (.inr (aQ hq1 h)) (DU (hx (aD hq ‹decide ((k : Int) < ((l.map aj).length : Int)) = false›) (by simpa using ‹(!kdF 5 l) = false›) (aQ hq1 h)).1 (hx (aD hq ‹decide ((k : Int) < ((l.map aj).length : Int)) = false›) (by simpa using ‹(!kdF 5 l) = false›) (aQ hq1 h)).2)
  | exact iG (aD hq ‹decide ((k : Int) < ((l.map aj).length : Int)) = false›) ‹(!kdF 5 l) = false› rfl hq1 (by simpa using ‹decide ((j : Int) < ((l.map aj).length : Int)) = true›) h
  | (have hlt : j < l.length:=by simpa using ‹decide ((j : Int) < ((l.map aj).length : Int)) = true›
     exact ⟨hlt,hq1.trans (c0 hlt h)⟩)
  | (have hlt : j < l.length:=by simpa using ‹decide ((j : Int) < ((l.map aj).length : Int)) = true›
     show l.length - (j + 1) < l.length - j
     omega)
  | skip
set_option maxHeartbeats 2000000 in
theorem GN(l : List Val)(hl : l.length = 1) : CallA Tryz.prog 187 [.one (.d (.int .i64 6)),.one (.d (bf l))] [] (cV (doF 6 l)) []:=by
 have h228 : CallA Tryz.prog 228 [.one (.d (.int .i64 6))] [] (.one (.d (.int .i64 1))) []:=fC 6
 have hlen : (((l.map aj).length : Int) != 1) = false:=by rw [List.length_map,hl]; rfl
 have hkc:=pe 6 ⟨by omega,by omega⟩ l hl
 have hsc:=pk 6 ⟨by omega,by omega⟩ l hl
 have hx : l.all aH = true→kdF 6 l = true→bi l = none→aH (at_ l 0) = true∧(at_ l 0).kind = 2:=fun hr hk hm=>kd1 (op:=0) hr hk hm (by omega)
 all_goals refine enter ab Tryz.func187 rfl (by decide +kernel) rfl fun hok w0 σ0 φ0 M=>?_
 all_goals clear hok
 repeat' (first|(refine h6H ?_; first|refine ac ?_|refine ah ab J J J J J ?_|(refine h0H ?_; refine aT J J (by first|assumption|rfl) ?_)|(refine h1H ?_; refine s_e aa J J J (aL J J J J (aN (by omega) (by omega))) ?_)|(refine h2H ?_; refine s_e aa J J J (az J J (by first|rfl|assumption) J) ?_)|(refine h3H ?_; first|refine s_e aa J J J (ar J J J J J (by omega) (aJ (by omega))) ?_|refine s_e aa J J J (ar J J J J J (by first|omega|((try simp only [a0A,a1A,a2A,a3A,a4A,a5A,a6A,a7A,a8A,a9A,au,av] at *); omega)) (aJ (by first|omega|((try simp only [a0A,a1A,a2A,a3A,a4A,a5A,a6A,a7A,a8A,a9A,au,av] at *); omega)))) ?_)|(refine h4H ?_; first|refine ag J J J J J J J J (h228) J ?_|refine ag J J J J J J J J (eD _) J ?_|refine ag J J J J J J J J (hkc) J ?_|refine ag J J J J J J J J (hsc) J ?_|refine ag J J J J J J J J (D7 _) J ?_|refine ba 16 J J J J J J J J (eU _ (hx (aD hq ‹decide ((k : Int) < ((l.map aj).length : Int)) = false›) (by simpa using ‹(!kdF 6 l) = false›) (aQ hq1 h)).1 (hx (aD hq ‹decide ((k : Int) < ((l.map aj).length : Int)) = false›) (by simpa using ‹(!kdF 6 l) = false›) (aQ hq1 h)).2) J J J ?_|refine ba 16 J J J J J J J J (It _ (hx (aD hq ‹decide ((k : Int) < ((l.map aj).length : Int)) = false›) (by simpa using ‹(!kdF 6 l) = false›) (aQ hq1 h)).1 (hx (aD hq ‹decide ((k : Int) < ((l.map aj).length : Int)) = false›) (by simpa using ‹(!kdF 6 l) = false›) (aQ hq1 h)).2) J J J ?_)|(refine h5H ?_; first|refine ax ab 0 J J J J J ?_|refine ax ab 1 J J J J J ?_|refine ax ab 2 J J J J J ?_)|refine aI aa J J J ?_)|(refine h7H ?_; first|refine al ?_|refine ae ?_|refine ay ?_|refine aw ?_|refine am ?_|refine aW ?_|refine bc J ?_|refine bm J ?_|refine aZ J (by assumption) ?_|refine aA J (fun h=>?_) (fun h=>?_)|refine bk 4 J [(0,_),(1,_),(4,_)] (q3Q J J J) (fun (k : Nat)=>[(6,.one (.d (.int .i64 (k : Int))))]) (fun (k : Nat)=>k≤l.length∧l.all aH = (l.drop k).all aH) (fun (k : Nat)=>l.length - k) 0 (q1Q J) ?_ (fun k ⟨hk0,hq⟩=>?_)|refine bk 14 J [(0,_),(1,_),(4,_)] (q3Q J J J) (fun (j : Nat)=>[(9,.one (.d (.int .i64 (j : Int))))]) (fun (j : Nat)=>j≤l.length∧bi l = bi (l.drop j)) (fun (j : Nat)=>l.length - j) 0 (q1Q J) ?_ (fun j ⟨hk1,hq1⟩=>?_))|(show Exists _; first|refine Exists.intro (j + 1) ⟨?_,?_,(by first|(repeat' first|exact ap|refine af J ?_) <;> fail|fail),(q1Q J),(q3Q J J J)⟩|refine Exists.intro (k + 1) ⟨?_,?_,(by first|(repeat' first|exact ap|refine af J ?_) <;> fail|fail),(q1Q J),(q3Q J J J)⟩)|refine ak ?_|refine aC ?_|refine bd ?_|refine aG ?_|refine aP ?_|refine aX J ?_|refine ai (.inl J) J J ?_)
 all_goals first
  | exact ⟨Nat.zero_le _,rfl⟩
  | exact fV (ef hq (by simpa using ‹decide ((k : Int) < ((l.map aj).length : Int)) = true›) (by rw [← ne2]; exact h))
  | (have hlt : k < l.length:=by simpa using ‹decide ((k : Int) < ((l.map aj).length : Int)) = true›
     exact ⟨hlt,eg hq hlt (by rw [← ne2]; exact h)⟩)
  | (have hlt : k < l.length:=by simpa using ‹decide ((k : Int) < ((l.map aj).length : Int)) = true›
     show l.length - (k + 1) < l.length - k
     omega)
  | exact fW (aD hq ‹decide ((k : Int) < ((l.map aj).length : Int)) = false›) h
  | exact eP (rv:=vP3 (flT (at_ l 0))) (aD hq ‹decide ((k : Int) < ((l.map aj).length : Int)) = false›) ‹(!kdF 6 l) = false› (.inr (aQ hq1 h)) AF
  | exact iG (aD hq ‹decide ((k : Int) < ((l.map aj).length : Int)) = false›) ‹(!kdF 6 l) = false› rfl hq1 (by simpa using ‹decide ((j : Int) < ((l.map aj).length : Int)) = true›) h
  | (have hlt : j < l.length:=by simpa using ‹decide ((j : Int) < ((l.map aj).length : Int)) = true›
     exact ⟨hlt,hq1.trans (c0 hlt h)⟩)
  | (have hlt : j < l.length:=by simpa using ‹decide ((j : Int) < ((l.map aj).length : Int)) = true›
     show l.length - (j + 1) < l.length - j
     omega)
  | skip
set_option maxHeartbeats 2000000 in
theorem GO(l : List Val)(hl : l.length = 1) : CallA Tryz.prog 187 [.one (.d (.int .i64 7)),.one (.d (bf l))] [] (cV (doF 7 l)) []:=by
 have h228 : CallA Tryz.prog 228 [.one (.d (.int .i64 7))] [] (.one (.d (.int .i64 1))) []:=fC 7
 have hlen : (((l.map aj).length : Int) != 1) = false:=by rw [List.length_map,hl]; rfl
 have hkc:=pe 7 ⟨by omega,by omega⟩ l hl
 have hsc:=pk 7 ⟨by omega,by omega⟩ l hl
 all_goals refine enter ab Tryz.func187 rfl (by decide +kernel) rfl fun hok w0 σ0 φ0 M=>?_
 all_goals clear hok
 repeat' (first|(refine h6H ?_; first|refine ac ?_|refine ah ab J J J J J ?_|(refine h0H ?_; refine aT J J (by first|assumption|rfl) ?_)|(refine h1H ?_; refine s_e aa J J J (aL J J J J (aN (by omega) (by omega))) ?_)|(refine h2H ?_; refine s_e aa J J J (az J J (by first|rfl|assumption) J) ?_)|(refine h3H ?_; refine s_e aa J J J (ar J J J J J (by first|omega|((try simp only [a0A,a1A,a2A,a3A,a4A,a5A,a6A,a7A,a8A,a9A,au,av] at *); omega)) (aJ (by first|omega|((try simp only [a0A,a1A,a2A,a3A,a4A,a5A,a6A,a7A,a8A,a9A,au,av] at *); omega)))) ?_)|(refine h4H ?_; first|refine ag J J J J J J J J (h228) J ?_|refine ag J J J J J J J J (eD _) J ?_|refine ag J J J J J J J J (hkc) J ?_|refine ag J J J J J J J J (hsc) J ?_)|(refine h5H ?_; first|refine ax ab 0 J J J J J ?_|refine ax ab 1 J J J J J ?_)|refine aI aa J J J ?_)|(refine h7H ?_; first|refine al ?_|refine ae ?_|refine ay ?_|refine aw ?_|refine am ?_|refine aW ?_|refine bc J ?_|refine bm J ?_|refine aZ J (by assumption) ?_|refine aA J (fun h=>?_) (fun h=>?_)|refine bk 4 J [(0,_),(1,_),(4,_)] (q3Q J J J) (fun (k : Nat)=>[(6,.one (.d (.int .i64 (k : Int))))]) (fun (k : Nat)=>k≤l.length∧l.all aH = (l.drop k).all aH) (fun (k : Nat)=>l.length - k) 0 (q1Q J) ?_ (fun k ⟨hk0,hq⟩=>?_))|(show Exists _; refine Exists.intro (k + 1) ⟨?_,?_,(by (repeat' first|exact ap|refine af J ?_); done),(q1Q J),(q3Q J J J)⟩)|refine ak ?_|refine aC ?_|refine bd ?_|refine aG ?_|refine aP ?_|refine aX J ?_|refine ai (.inl J) J J ?_)
 all_goals first
  | exact ⟨Nat.zero_le _,rfl⟩
  | exact fV (ef hq (by simpa using ‹decide ((k : Int) < ((l.map aj).length : Int)) = true›) (by rw [← ne2]; exact h))
  | (have hlt : k < l.length:=by simpa using ‹decide ((k : Int) < ((l.map aj).length : Int)) = true›
     exact ⟨hlt,eg hq hlt (by rw [← ne2]; exact h)⟩)
  | (have hlt : k < l.length:=by simpa using ‹decide ((k : Int) < ((l.map aj).length : Int)) = true›
     show l.length - (k + 1) < l.length - k
     omega)
  | exact fW (aD hq ‹decide ((k : Int) < ((l.map aj).length : Int)) = false›) h
  | exact eP (rv:=(lN 7 l).1) (aD hq ‹decide ((k : Int) < ((l.map aj).length : Int)) = false›) rfl (.inl rfl) rfl
  | skip
set_option maxHeartbeats 2000000 in
theorem GP(l : List Val)(hl : l.length = 1) : CallA Tryz.prog 187 [.one (.d (.int .i64 8)),.one (.d (bf l))] [] (cV (doF 8 l)) []:=by
 have h228 : CallA Tryz.prog 228 [.one (.d (.int .i64 8))] [] (.one (.d (.int .i64 1))) []:=fC 8
 have hlen : (((l.map aj).length : Int) != 1) = false:=by rw [List.length_map,hl]; rfl
 have hkc:=pe 8 ⟨by omega,by omega⟩ l hl
 have hsc:=pk 8 ⟨by omega,by omega⟩ l hl
 all_goals refine enter ab Tryz.func187 rfl (by decide +kernel) rfl fun hok w0 σ0 φ0 M=>?_
 all_goals clear hok
 repeat' (first|(refine h6H ?_; first|refine ac ?_|refine ah ab J J J J J ?_|(refine h0H ?_; refine aT J J (by first|assumption|rfl) ?_)|(refine h1H ?_; refine s_e aa J J J (aL J J J J (aN (by omega) (by omega))) ?_)|(refine h2H ?_; refine s_e aa J J J (az J J (by first|rfl|assumption) J) ?_)|(refine h3H ?_; refine s_e aa J J J (ar J J J J J (by first|omega|((try simp only [a0A,a1A,a2A,a3A,a4A,a5A,a6A,a7A,a8A,a9A,au,av] at *); omega)) (aJ (by first|omega|((try simp only [a0A,a1A,a2A,a3A,a4A,a5A,a6A,a7A,a8A,a9A,au,av] at *); omega)))) ?_)|(refine h4H ?_; first|refine ag J J J J J J J J (h228) J ?_|refine ag J J J J J J J J (eD _) J ?_|refine ag J J J J J J J J (hkc) J ?_|refine ag J J J J J J J J (hsc) J ?_)|(refine h5H ?_; first|refine ax ab 0 J J J J J ?_|refine ax ab 1 J J J J J ?_)|refine aI aa J J J ?_)|(refine h7H ?_; first|refine al ?_|refine ae ?_|refine ay ?_|refine aw ?_|refine am ?_|refine aW ?_|refine bc J ?_|refine bm J ?_|refine aZ J (by assumption) ?_|refine aA J (fun h=>?_) (fun h=>?_)|refine bk 4 J [(0,_),(1,_),(4,_)] (q3Q J J J) (fun (k : Nat)=>[(6,.one (.d (.int .i64 (k : Int))))]) (fun (k : Nat)=>k≤l.length∧l.all aH = (l.drop k).all aH) (fun (k : Nat)=>l.length - k) 0 (q1Q J) ?_ (fun k ⟨hk0,hq⟩=>?_))|(show Exists _; refine Exists.intro (k + 1) ⟨?_,?_,(by (repeat' first|exact ap|refine af J ?_); done),(q1Q J),(q3Q J J J)⟩)|refine ak ?_|refine aC ?_|refine bd ?_|refine aG ?_|refine aP ?_|refine aX J ?_|refine ai (.inl J) J J ?_)
 all_goals first
  | exact ⟨Nat.zero_le _,rfl⟩
  | exact fV (ef hq (by simpa using ‹decide ((k : Int) < ((l.map aj).length : Int)) = true›) (by rw [← ne2]; exact h))
  | (have hlt : k < l.length:=by simpa using ‹decide ((k : Int) < ((l.map aj).length : Int)) = true›
     exact ⟨hlt,eg hq hlt (by rw [← ne2]; exact h)⟩)
  | (have hlt : k < l.length:=by simpa using ‹decide ((k : Int) < ((l.map aj).length : Int)) = true›
     show l.length - (k + 1) < l.length - k
     omega)
  | exact fW (aD hq ‹decide ((k : Int) < ((l.map aj).length : Int)) = false›) h
  | exact eP (rv:=(lN 8 l).1) (aD hq ‹decide ((k : Int) < ((l.map aj).length : Int)) = false›) rfl (.inl rfl) rfl
  | skip
end Go.Proofs.YtpejdgkaapnekaaGreat
namespace Go.Proofs.YtpejdgkaapnekaaGreat
open Go Go.Abs
attribute [local irreducible] ao OkC aU bg aV bA
set_option maxRecDepth 10000
set_option maxHeartbeats 2000000 in
theorem GQ(l : List Val)(hl : l.length = 2) : CallA Tryz.prog 187 [.one (.d (.int .i64 9)),.one (.d (bf l))] [] (cV (doF 9 l)) []:=by
 have h228 : CallA Tryz.prog 228 [.one (.d (.int .i64 9))] [] (.one (.d (.int .i64 2))) []:=fC 9
 have hlen : (((l.map aj).length : Int) != 2) = false:=by rw [List.length_map,hl]; rfl
 have hkc:=fD 9 ⟨by omega,by omega⟩ l hl
 have hsc:=fE 9 ⟨by omega,by omega⟩ l hl
 have hx : l.all aH = true→kdF 9 l = true→bi l = none→(aH (at_ l 0) = true∧(at_ l 0).kind = 2)∧(aH (at_ l 1) = true∧(at_ l 1).kind = 2):=fun hr hk hm=>⟨kd1 (op:=0) hr hk hm (by omega),kd1 (op:=0) hr hk hm (by omega)⟩
 all_goals refine enter ab Tryz.func187 rfl (by decide +kernel) rfl fun hok w0 σ0 φ0 M=>?_
 all_goals clear hok
 repeat' (first|(refine h6H ?_; first|refine ac ?_|refine ah ab J J J J J ?_|(refine h0H ?_; refine aT J J (by first|assumption|rfl) ?_)|(refine h1H ?_; refine s_e aa J J J (aL J J J J (aN (by omega) (by omega))) ?_)|(refine h2H ?_; refine s_e aa J J J (az J J (by first|rfl|assumption) J) ?_)|(refine h3H ?_; first|refine s_e aa J J J (ar J J J J J (by omega) (aJ (by omega))) ?_|refine s_e aa J J J (ar J J J J J (by first|omega|((try simp only [a0A,a1A,a2A,a3A,a4A,a5A,a6A,a7A,a8A,a9A,au,av] at *); omega)) (aJ (by first|omega|((try simp only [a0A,a1A,a2A,a3A,a4A,a5A,a6A,a7A,a8A,a9A,au,av] at *); omega)))) ?_)|(refine h4H ?_; first|refine ag J J J J J J J J (h228) J ?_|refine ag J J J J J J J J (eD _) J ?_|refine ag J J J J J J J J (hkc) J ?_|refine ag J J J J J J J J (hsc) J ?_|refine ag J J J J J J J J (z7 9 (c8 (at_ l 0)) (c8 (at_ l 1)) ⟨by omega,by omega⟩ (NumOk.w (gV (hx (aD hq ‹decide ((k : Int) < ((l.map aj).length : Int)) = false›) (by simpa using ‹(!kdF 9 l) = false›) (aQ hq1 h)).1.1 (hx (aD hq ‹decide ((k : Int) < ((l.map aj).length : Int)) = false›) (by simpa using ‹(!kdF 9 l) = false›) (aQ hq1 h)).1.2) (gV (hx (aD hq ‹decide ((k : Int) < ((l.map aj).length : Int)) = false›) (by simpa using ‹(!kdF 9 l) = false›) (aQ hq1 h)).2.1 (hx (aD hq ‹decide ((k : Int) < ((l.map aj).length : Int)) = false›) (by simpa using ‹(!kdF 9 l) = false›) (aQ hq1 h)).2.2)) (fun h=>by omega)) J ?_|refine ba 16 J J J J J J J J (eU (at_ l 0) (hx (aD hq ‹decide ((k : Int) < ((l.map aj).length : Int)) = false›) (by simpa using ‹(!kdF 9 l) = false›) (aQ hq1 h)).1.1 (hx (aD hq ‹decide ((k : Int) < ((l.map aj).length : Int)) = false›) (by simpa using ‹(!kdF 9 l) = false›) (aQ hq1 h)).1.2) J J J ?_|refine ba 16 J J J J J J J J (eU (at_ l 1) (hx (aD hq ‹decide ((k : Int) < ((l.map aj).length : Int)) = false›) (by simpa using ‹(!kdF 9 l) = false›) (aQ hq1 h)).2.1 (hx (aD hq ‹decide ((k : Int) < ((l.map aj).length : Int)) = false›) (by simpa using ‹(!kdF 9 l) = false›) (aQ hq1 h)).2.2) J J J ?_)|(refine h5H ?_; first|refine ax ab 0 J J J J J ?_|refine ax ab 1 J J J J J ?_|refine ax ab 2 J J J J J ?_|refine ax ab 3 J J J J J ?_)|refine aI aa J J J ?_)|(refine h7H ?_; first|refine al ?_|refine ae ?_|refine ay ?_|refine aw ?_|refine am ?_|refine aW ?_|refine bm J ?_|refine aZ J (by assumption) ?_|refine aA J (fun h=>?_) (fun h=>?_)|refine bk 4 J [(0,_),(1,_),(4,_)] (q3Q J J J) (fun (k : Nat)=>[(6,.one (.d (.int .i64 (k : Int))))]) (fun (k : Nat)=>k≤l.length∧l.all aH = (l.drop k).all aH) (fun (k : Nat)=>l.length - k) 0 (q1Q J) ?_ (fun k ⟨hk0,hq⟩=>?_)|refine bk 14 J [(0,_),(1,_),(4,_)] (q3Q J J J) (fun (j : Nat)=>[(9,.one (.d (.int .i64 (j : Int))))]) (fun (j : Nat)=>j≤l.length∧bi l = bi (l.drop j)) (fun (j : Nat)=>l.length - j) 0 (q1Q J) ?_ (fun j ⟨hk1,hq1⟩=>?_))|(show Exists _; first|refine Exists.intro (j + 1) ⟨?_,?_,(by first|(repeat' first|exact ap|refine af J ?_) <;> fail|fail),(q1Q J),(q3Q J J J)⟩|refine Exists.intro (k + 1) ⟨?_,?_,(by first|(repeat' first|exact ap|refine af J ?_) <;> fail|fail),(q1Q J),(q3Q J J J)⟩)|refine ak ?_|refine aC ?_|refine bd ?_|refine aG ?_|refine aP ?_|refine aX J ?_|refine ai (.inl J) J J ?_)
 all_goals first
  | exact ⟨Nat.zero_le _,rfl⟩
  | exact fV (ef hq (by simpa using ‹decide ((k : Int) < ((l.map aj).length : Int)) = true›) (by rw [← ne2]; exact h))
  | (have hlt : k < l.length:=by simpa using ‹decide ((k : Int) < ((l.map aj).length : Int)) = true›
     exact ⟨hlt,eg hq hlt (by rw [← ne2]; exact h)⟩)
  | (have hlt : k < l.length:=by simpa using ‹decide ((k : Int) < ((l.map aj).length : Int)) = true›
     show l.length - (k + 1) < l.length - k
     omega)
  | exact fW (aD hq ‹decide ((k : Int) < ((l.map aj).length : Int)) = false›) h
  | exact eP (rv:=vP3 (arW 9 (c8 (at_ l 0)) (c8 (at_ l 1)))) (aD hq ‹decide ((k : Int) < ((l.map aj).length : Int)) = false›) ‹(!kdF 9 l) = false› (.inr (aQ hq1 h)) rfl
  | exact iG (aD hq ‹decide ((k : Int) < ((l.map aj).length : Int)) = false›) ‹(!kdF 9 l) = false› rfl hq1 (by simpa using ‹decide ((j : Int) < ((l.map aj).length : Int)) = true›) h
  | (have hlt : j < l.length:=by simpa using ‹decide ((j : Int) < ((l.map aj).length : Int)) = true›
     exact ⟨hlt,hq1.trans (c0 hlt h)⟩)
  | (have hlt : j < l.length:=by simpa using ‹decide ((j : Int) < ((l.map aj).length : Int)) = true›
     show l.length - (j + 1) < l.length - j
     omega)
  | skip
set_option maxHeartbeats 2000000 in
theorem Fd(l : List Val)(hl : l.length = 2) : CallA Tryz.prog 187 [.one (.d (.int .i64 10)),.one (.d (bf l))] [] (cV (doF 10 l)) []:=by
 have h228 : CallA Tryz.prog 228 [.one (.d (.int .i64 10))] [] (.one (.d (.int .i64 2))) []:=fC 10
 have hlen : (((l.map aj).length : Int) != 2) = false:=by rw [List.length_map,hl]; rfl
 have hkc:=fD 10 ⟨by omega,by omega⟩ l hl
 have hsc:=fE 10 ⟨by omega,by omega⟩ l hl
 have hx : l.all aH = true→kdF 10 l = true→bi l = none→(aH (at_ l 0) = true∧(at_ l 0).kind = 2)∧(aH (at_ l 1) = true∧(at_ l 1).kind = 2):=fun hr hk hm=>⟨kd1 (op:=0) hr hk hm (by omega),kd1 (op:=0) hr hk hm (by omega)⟩
 all_goals refine enter ab Tryz.func187 rfl (by decide +kernel) rfl fun hok w0 σ0 φ0 M=>?_
 all_goals clear hok
 repeat' (first|(refine h6H ?_; first|refine ac ?_|refine ah ab J J J J J ?_|(refine h0H ?_; refine aT J J (by first|assumption|rfl) ?_)|(refine h1H ?_; refine s_e aa J J J (aL J J J J (aN (by omega) (by omega))) ?_)|(refine h2H ?_; refine s_e aa J J J (az J J (by first|rfl|assumption) J) ?_)|(refine h3H ?_; first|refine s_e aa J J J (ar J J J J J (by omega) (aJ (by omega))) ?_|refine s_e aa J J J (ar J J J J J (by first|omega|((try simp only [a0A,a1A,a2A,a3A,a4A,a5A,a6A,a7A,a8A,a9A,au,av] at *); omega)) (aJ (by first|omega|((try simp only [a0A,a1A,a2A,a3A,a4A,a5A,a6A,a7A,a8A,a9A,au,av] at *); omega)))) ?_)|(refine h4H ?_; first|refine ag J J J J J J J J (h228) J ?_|refine ag J J J J J J J J (eD _) J ?_|refine ag J J J J J J J J (hkc) J ?_|refine ag J J J J J J J J (hsc) J ?_|refine ag J J J J J J J J (z7 10 (c8 (at_ l 0)) (c8 (at_ l 1)) ⟨by omega,by omega⟩ (NumOk.w (gV (hx (aD hq ‹decide ((k : Int) < ((l.map aj).length : Int)) = false›) (by simpa using ‹(!kdF 10 l) = false›) (aQ hq1 h)).1.1 (hx (aD hq ‹decide ((k : Int) < ((l.map aj).length : Int)) = false›) (by simpa using ‹(!kdF 10 l) = false›) (aQ hq1 h)).1.2) (gV (hx (aD hq ‹decide ((k : Int) < ((l.map aj).length : Int)) = false›) (by simpa using ‹(!kdF 10 l) = false›) (aQ hq1 h)).2.1 (hx (aD hq ‹decide ((k : Int) < ((l.map aj).length : Int)) = false›) (by simpa using ‹(!kdF 10 l) = false›) (aQ hq1 h)).2.2)) (fun h=>by omega)) J ?_|refine ba 16 J J J J J J J J (eU (at_ l 0) (hx (aD hq ‹decide ((k : Int) < ((l.map aj).length : Int)) = false›) (by simpa using ‹(!kdF 10 l) = false›) (aQ hq1 h)).1.1 (hx (aD hq ‹decide ((k : Int) < ((l.map aj).length : Int)) = false›) (by simpa using ‹(!kdF 10 l) = false›) (aQ hq1 h)).1.2) J J J ?_|refine ba 16 J J J J J J J J (eU (at_ l 1) (hx (aD hq ‹decide ((k : Int) < ((l.map aj).length : Int)) = false›) (by simpa using ‹(!kdF 10 l) = false›) (aQ hq1 h)).2.1 (hx (aD hq ‹decide ((k : Int) < ((l.map aj).length : Int)) = false›) (by simpa using ‹(!kdF 10 l) = false›) (aQ hq1 h)).2.2) J J J ?_)|(refine h5H ?_; first|refine ax ab 0 J J J J J ?_|refine ax ab 1 J J J J J ?_|refine ax ab 2 J J J J J ?_|refine ax ab 3 J J J J J ?_)|refine aI aa J J J ?_)|(refine h7H ?_; first|refine al ?_|refine ae ?_|refine ay ?_|refine aw ?_|refine am ?_|refine aW ?_|refine bm J ?_|refine aZ J (by assumption) ?_|refine aA J (fun h=>?_) (fun h=>?_)|refine bk 4 J [(0,_),(1,_),(4,_)] (q3Q J J J) (fun (k : Nat)=>[(6,.one (.d (.int .i64 (k : Int))))]) (fun (k : Nat)=>k≤l.length∧l.all aH = (l.drop k).all aH) (fun (k : Nat)=>l.length - k) 0 (q1Q J) ?_ (fun k ⟨hk0,hq⟩=>?_)|refine bk 14 J [(0,_),(1,_),(4,_)] (q3Q J J J) (fun (j : Nat)=>[(9,.one (.d (.int .i64 (j : Int))))]) (fun (j : Nat)=>j≤l.length∧bi l = bi (l.drop j)) (fun (j : Nat)=>l.length - j) 0 (q1Q J) ?_ (fun j ⟨hk1,hq1⟩=>?_))|(show Exists _; first|refine Exists.intro (j + 1) ⟨?_,?_,(by first|(repeat' first|exact ap|refine af J ?_) <;> fail|fail),(q1Q J),(q3Q J J J)⟩|refine Exists.intro (k + 1) ⟨?_,?_,(by first|(repeat' first|exact ap|refine af J ?_) <;> fail|fail),(q1Q J),(q3Q J J J)⟩)|refine ak ?_|refine aC ?_|refine bd ?_|refine aG ?_|refine aP ?_|refine aX J ?_|refine ai (.inl J) J J ?_)
 all_goals first
  | exact ⟨Nat.zero_le _,rfl⟩
  | exact fV (ef hq (by simpa using ‹decide ((k : Int) < ((l.map aj).length : Int)) = true›) (by rw [← ne2]; exact h))
  | (have hlt : k < l.length:=by simpa using ‹decide ((k : Int) < ((l.map aj).length : Int)) = true›
     exact ⟨hlt,eg hq hlt (by rw [← ne2]; exact h)⟩)
  | (have hlt : k < l.length:=by simpa using ‹decide ((k : Int) < ((l.map aj).length : Int)) = true›
     show l.length - (k + 1) < l.length - k
     omega)
  | exact fW (aD hq ‹decide ((k : Int) < ((l.map aj).length : Int)) = false›) h
  | exact eP (rv:=vP3 (arW 10 (c8 (at_ l 0)) (c8 (at_ l 1)))) (aD hq ‹decide ((k : Int) < ((l.map aj).length : Int)) = false›) ‹(!kdF 10 l) = false› (.inr (aQ hq1 h)) rfl
  | exact iG (aD hq ‹decide ((k : Int) < ((l.map aj).length : Int)) = false›) ‹(!kdF 10 l) = false› rfl hq1 (by simpa using ‹decide ((j : Int) < ((l.map aj).length : Int)) = true›) h
  | (have hlt : j < l.length:=by simpa using ‹decide ((j : Int) < ((l.map aj).length : Int)) = true›
     exact ⟨hlt,hq1.trans (c0 hlt h)⟩)
  | (have hlt : j < l.length:=by simpa using ‹decide ((j : Int) < ((l.map aj).length : Int)) = true›
     show l.length - (j + 1) < l.length - j
     omega)
  | skip
set_option maxHeartbeats 2000000 in
theorem Fe(l : List Val)(hl : l.length = 2) : CallA Tryz.prog 187 [.one (.d (.int .i64 11)),.one (.d (bf l))] [] (cV (doF 11 l)) []:=by
 have h228 : CallA Tryz.prog 228 [.one (.d (.int .i64 11))] [] (.one (.d (.int .i64 2))) []:=fC 11
 have hlen : (((l.map aj).length : Int) != 2) = false:=by rw [List.length_map,hl]; rfl
 have hkc:=fD 11 ⟨by omega,by omega⟩ l hl
 have hsc:=fE 11 ⟨by omega,by omega⟩ l hl
 have hx : l.all aH = true→kdF 11 l = true→bi l = none→(aH (at_ l 0) = true∧(at_ l 0).kind = 2)∧(aH (at_ l 1) = true∧(at_ l 1).kind = 2):=fun hr hk hm=>⟨kd1 (op:=0) hr hk hm (by omega),kd1 (op:=0) hr hk hm (by omega)⟩
 all_goals refine enter ab Tryz.func187 rfl (by decide +kernel) rfl fun hok w0 σ0 φ0 M=>?_
 all_goals clear hok
 repeat' (first|(refine h6H ?_; first|refine ac ?_|refine ah ab J J J J J ?_|(refine h0H ?_; refine aT J J (by first|assumption|rfl) ?_)|(refine h1H ?_; refine s_e aa J J J (aL J J J J (aN (by omega) (by omega))) ?_)|(refine h2H ?_; refine s_e aa J J J (az J J (by first|rfl|assumption) J) ?_)|(refine h3H ?_; first|refine s_e aa J J J (ar J J J J J (by omega) (aJ (by omega))) ?_|refine s_e aa J J J (ar J J J J J (by first|omega|((try simp only [a0A,a1A,a2A,a3A,a4A,a5A,a6A,a7A,a8A,a9A,au,av] at *); omega)) (aJ (by first|omega|((try simp only [a0A,a1A,a2A,a3A,a4A,a5A,a6A,a7A,a8A,a9A,au,av] at *); omega)))) ?_)|(refine h4H ?_; first|refine ag J J J J J J J J (h228) J ?_|refine ag J J J J J J J J (eD _) J ?_|refine ag J J J J J J J J (hkc) J ?_|refine ag J J J J J J J J (hsc) J ?_|refine ag J J J J J J J J (z7 11 (c8 (at_ l 0)) (c8 (at_ l 1)) ⟨by omega,by omega⟩ (NumOk.w (gV (hx (aD hq ‹decide ((k : Int) < ((l.map aj).length : Int)) = false›) (by simpa using ‹(!kdF 11 l) = false›) (aQ hq1 h)).1.1 (hx (aD hq ‹decide ((k : Int) < ((l.map aj).length : Int)) = false›) (by simpa using ‹(!kdF 11 l) = false›) (aQ hq1 h)).1.2) (gV (hx (aD hq ‹decide ((k : Int) < ((l.map aj).length : Int)) = false›) (by simpa using ‹(!kdF 11 l) = false›) (aQ hq1 h)).2.1 (hx (aD hq ‹decide ((k : Int) < ((l.map aj).length : Int)) = false›) (by simpa using ‹(!kdF 11 l) = false›) (aQ hq1 h)).2.2)) (fun h=>by omega)) J ?_|refine ba 16 J J J J J J J J (eU (at_ l 0) (hx (aD hq ‹decide ((k : Int) < ((l.map aj).length : Int)) = false›) (by simpa using ‹(!kdF 11 l) = false›) (aQ hq1 h)).1.1 (hx (aD hq ‹decide ((k : Int) < ((l.map aj).length : Int)) = false›) (by simpa using ‹(!kdF 11 l) = false›) (aQ hq1 h)).1.2) J J J ?_|refine ba 16 J J J J J J J J (eU (at_ l 1) (hx (aD hq ‹decide ((k : Int) < ((l.map aj).length : Int)) = false›) (by simpa using ‹(!kdF 11 l) = false›) (aQ hq1 h)).2.1 (hx (aD hq ‹decide ((k : Int) < ((l.map aj).length : Int)) = false›) (by simpa using ‹(!kdF 11 l) = false›) (aQ hq1 h)).2.2) J J J ?_)|(refine h5H ?_; first|refine ax ab 0 J J J J J ?_|refine ax ab 1 J J J J J ?_|refine ax ab 2 J J J J J ?_|refine ax ab 3 J J J J J ?_)|refine aI aa J J J ?_)|(refine h7H ?_; first|refine al ?_|refine ae ?_|refine ay ?_|refine aw ?_|refine am ?_|refine aW ?_|refine bm J ?_|refine aZ J (by assumption) ?_|refine aA J (fun h=>?_) (fun h=>?_)|refine bk 4 J [(0,_),(1,_),(4,_)] (q3Q J J J) (fun (k : Nat)=>[(6,.one (.d (.int .i64 (k : Int))))]) (fun (k : Nat)=>k≤l.length∧l.all aH = (l.drop k).all aH) (fun (k : Nat)=>l.length - k) 0 (q1Q J) ?_ (fun k ⟨hk0,hq⟩=>?_)|refine bk 14 J [(0,_),(1,_),(4,_)] (q3Q J J J) (fun (j : Nat)=>[(9,.one (.d (.int .i64 (j : Int))))]) (fun (j : Nat)=>j≤l.length∧bi l = bi (l.drop j)) (fun (j : Nat)=>l.length - j) 0 (q1Q J) ?_ (fun j ⟨hk1,hq1⟩=>?_))|(show Exists _; first|refine Exists.intro (j + 1) ⟨?_,?_,(by first|(repeat' first|exact ap|refine af J ?_) <;> fail|fail),(q1Q J),(q3Q J J J)⟩|refine Exists.intro (k + 1) ⟨?_,?_,(by first|(repeat' first|exact ap|refine af J ?_) <;> fail|fail),(q1Q J),(q3Q J J J)⟩)|refine ak ?_|refine aC ?_|refine bd ?_|refine aG ?_|refine aP ?_|refine aX J ?_|refine ai (.inl J) J J ?_)
 all_goals first
  | exact ⟨Nat.zero_le _,rfl⟩
  | exact fV (ef hq (by simpa using ‹decide ((k : Int) < ((l.map aj).length : Int)) = true›) (by rw [← ne2]; exact h))
  | (have hlt : k < l.length:=by simpa using ‹decide ((k : Int) < ((l.map aj).length : Int)) = true›
     exact ⟨hlt,eg hq hlt (by rw [← ne2]; exact h)⟩)
  | (have hlt : k < l.length:=by simpa using ‹decide ((k : Int) < ((l.map aj).length : Int)) = true›
     show l.length - (k + 1) < l.length - k
     omega)
  | exact fW (aD hq ‹decide ((k : Int) < ((l.map aj).length : Int)) = false›) h
  | exact eP (rv:=vP3 (arW 11 (c8 (at_ l 0)) (c8 (at_ l 1)))) (aD hq ‹decide ((k : Int) < ((l.map aj).length : Int)) = false›) ‹(!kdF 11 l) = false› (.inr (aQ hq1 h)) rfl
  | exact iG (aD hq ‹decide ((k : Int) < ((l.map aj).length : Int)) = false›) ‹(!kdF 11 l) = false› rfl hq1 (by simpa using ‹decide ((j : Int) < ((l.map aj).length : Int)) = true›) h
  | (have hlt : j < l.length:=by simpa using ‹decide ((j : Int) < ((l.map aj).length : Int)) = true›
     exact ⟨hlt,hq1.trans (c0 hlt h)⟩)
  | (have hlt : j < l.length:=by simpa using ‹decide ((j : Int) < ((l.map aj).length : Int)) = true›
     show l.length - (j + 1) < l.length - j
     omega)
  | skip
set_option maxHeartbeats 2000000 in
theorem Ff(l : List Val)(hl : l.length = 2) : CallA Tryz.prog 187 [.one (.d (.int .i64 12)),.one (.d (bf l))] [] (cV (doF 12 l)) []:=by
 have h228 : CallA Tryz.prog 228 [.one (.d (.int .i64 12))] [] (.one (.d (.int .i64 2))) []:=fC 12
 have hlen : (((l.map aj).length : Int) != 2) = false:=by rw [List.length_map,hl]; rfl
 have hkc:=fD 12 ⟨by omega,by omega⟩ l hl
 have hsc:=fE 12 ⟨by omega,by omega⟩ l hl
 have hx : l.all aH = true→kdF 12 l = true→bi l = none→(aH (at_ l 0) = true∧(at_ l 0).kind = 2)∧(aH (at_ l 1) = true∧(at_ l 1).kind = 2):=fun hr hk hm=>⟨kd1 (op:=0) hr hk hm (by omega),kd1 (op:=0) hr hk hm (by omega)⟩
 by_cases hz : naV (at_ l 1) = 0
 all_goals refine enter ab Tryz.func187 rfl (by decide +kernel) rfl fun hok w0 σ0 φ0 M=>?_
 all_goals clear hok
 repeat' (first|(refine h6H ?_; first|refine ac ?_|refine ah ab J J J J J ?_|(refine h0H ?_; refine aT J J (by first|assumption|rfl) ?_)|(refine h1H ?_; refine s_e aa J J J (aL J J J J (aN (by omega) (by omega))) ?_)|(refine h2H ?_; refine s_e aa J J J (az J J (by first|rfl|assumption) J) ?_)|(refine h3H ?_; first|refine s_e aa J J J (ar J J J J J (by omega) (aJ (by omega))) ?_|refine s_e aa J J J (ar J J J J J (by first|omega|((try simp only [a0A,a1A,a2A,a3A,a4A,a5A,a6A,a7A,a8A,a9A,au,av] at *); omega)) (aJ (by first|omega|((try simp only [a0A,a1A,a2A,a3A,a4A,a5A,a6A,a7A,a8A,a9A,au,av] at *); omega)))) ?_)|(refine h4H ?_; first|refine ag J J J J J J J J (h228) J ?_|refine ag J J J J J J J J (eD _) J ?_|refine ag J J J J J J J J (hkc) J ?_|refine ag J J J J J J J J (hsc) J ?_|refine ag J J J J J J J J (z7 12 (c8 (at_ l 0)) (c8 (at_ l 1)) ⟨by omega,by omega⟩ (NumOk.w (gV (hx (aD hq ‹decide ((k : Int) < ((l.map aj).length : Int)) = false›) (by simpa using ‹(!kdF 12 l) = false›) (aQ hq1 h)).1.1 (hx (aD hq ‹decide ((k : Int) < ((l.map aj).length : Int)) = false›) (by simpa using ‹(!kdF 12 l) = false›) (aQ hq1 h)).1.2) (gV (hx (aD hq ‹decide ((k : Int) < ((l.map aj).length : Int)) = false›) (by simpa using ‹(!kdF 12 l) = false›) (aQ hq1 h)).2.1 (hx (aD hq ‹decide ((k : Int) < ((l.map aj).length : Int)) = false›) (by simpa using ‹(!kdF 12 l) = false›) (aQ hq1 h)).2.2)) (fun _=>hz)) J ?_|refine ag J J J J J J J J (Is (c8 (at_ l 0)) (c8 (at_ l 1)) hz) J ?_|refine ba 16 J J J J J J J J (eU (at_ l 0) (hx (aD hq ‹decide ((k : Int) < ((l.map aj).length : Int)) = false›) (by simpa using ‹(!kdF 12 l) = false›) (aQ hq1 h)).1.1 (hx (aD hq ‹decide ((k : Int) < ((l.map aj).length : Int)) = false›) (by simpa using ‹(!kdF 12 l) = false›) (aQ hq1 h)).1.2) J J J ?_|refine ba 16 J J J J J J J J (eU (at_ l 1) (hx (aD hq ‹decide ((k : Int) < ((l.map aj).length : Int)) = false›) (by simpa using ‹(!kdF 12 l) = false›) (aQ hq1 h)).2.1 (hx (aD hq ‹decide ((k : Int) < ((l.map aj).length : Int)) = false›) (by simpa using ‹(!kdF 12 l) = false›) (aQ hq1 h)).2.2) J J J ?_)|(refine h5H ?_; first|refine ax ab 0 J J J J J ?_|refine ax ab 1 J J J J J ?_|refine ax ab 2 J J J J J ?_|refine ax ab 3 J J J J J ?_)|refine aI aa J J J ?_)|(refine h7H ?_; first|refine al ?_|refine ae ?_|refine ay ?_|refine aw ?_|refine am ?_|refine aW ?_|refine bm J ?_|refine aZ J (by assumption) ?_|refine aA J (fun h=>?_) (fun h=>?_)|refine bk 4 J [(0,_),(1,_),(4,_)] (q3Q J J J) (fun (k : Nat)=>[(6,.one (.d (.int .i64 (k : Int))))]) (fun (k : Nat)=>k≤l.length∧l.all aH = (l.drop k).all aH) (fun (k : Nat)=>l.length - k) 0 (q1Q J) ?_ (fun k ⟨hk0,hq⟩=>?_)|refine bk 14 J [(0,_),(1,_),(4,_)] (q3Q J J J) (fun (j : Nat)=>[(9,.one (.d (.int .i64 (j : Int))))]) (fun (j : Nat)=>j≤l.length∧bi l = bi (l.drop j)) (fun (j : Nat)=>l.length - j) 0 (q1Q J) ?_ (fun j ⟨hk1,hq1⟩=>?_))|(show Exists _; first|refine Exists.intro (j + 1) ⟨?_,?_,(by first|(repeat' first|exact ap|refine af J ?_) <;> fail|fail),(q1Q J),(q3Q J J J)⟩|refine Exists.intro (k + 1) ⟨?_,?_,(by first|(repeat' first|exact ap|refine af J ?_) <;> fail|fail),(q1Q J),(q3Q J J J)⟩)|refine ak ?_|refine aC ?_|refine bd ?_|refine aG ?_|refine aP ?_|refine aX J ?_|refine ai (.inl J) J J ?_)
 all_goals first
  | exact ⟨Nat.zero_le _,rfl⟩
  | exact fV (ef hq (by simpa using ‹decide ((k : Int) < ((l.map aj).length : Int)) = true›) (by rw [← ne2]; exact h))
  | (have hlt : k < l.length:=by simpa using ‹decide ((k : Int) < ((l.map aj).length : Int)) = true›
     exact ⟨hlt,eg hq hlt (by rw [← ne2]; exact h)⟩)
  | (have hlt : k < l.length:=by simpa using ‹decide ((k : Int) < ((l.map aj).length : Int)) = true›
     show l.length - (k + 1) < l.length - k
     omega)
  | exact fW (aD hq ‹decide ((k : Int) < ((l.map aj).length : Int)) = false›) h
  | exact eP (rv:=vP3 (arW 12 (c8 (at_ l 0)) (c8 (at_ l 1)))) (aD hq ‹decide ((k : Int) < ((l.map aj).length : Int)) = false›) ‹(!kdF 12 l) = false› (.inr (aQ hq1 h)) (if_neg hz).symm
  | exact eP (rv:=⟨0,3,0,[]⟩) (aD hq ‹decide ((k : Int) < ((l.map aj).length : Int)) = false›) ‹(!kdF 12 l) = false› (.inr (aQ hq1 h)) (if_pos hz).symm
  | exact iG (aD hq ‹decide ((k : Int) < ((l.map aj).length : Int)) = false›) ‹(!kdF 12 l) = false› rfl hq1 (by simpa using ‹decide ((j : Int) < ((l.map aj).length : Int)) = true›) h
  | (have hlt : j < l.length:=by simpa using ‹decide ((j : Int) < ((l.map aj).length : Int)) = true›
     exact ⟨hlt,hq1.trans (c0 hlt h)⟩)
  | (have hlt : j < l.length:=by simpa using ‹decide ((j : Int) < ((l.map aj).length : Int)) = true›
     show l.length - (j + 1) < l.length - j
     omega)
  | skip
end Go.Proofs.YtpejdgkaapnekaaGreat
