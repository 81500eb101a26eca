import Derived.Test.YtpejdgkaapnekaaGreatFP17
import Derived.Test.YtpejdgkaapnekaaGreatFP15
set_option linter.unusedVariables false
set_option linter.unusedSimpArgs false
set_option maxHeartbeats 1000000
namespace Go.Proofs.YtpejdgkaapnekaaGreat
open Go Go.Abs
attribute [local irreducible] ao OkC aU bg aV bA
set_option maxRecDepth 10000
def dN(op : Int) : Int:=if 4≤op∧op≤8 then 1 else if 9≤op∧op≤21 then 2 else if op = 22 then 3 else 0
def vh(v : Val) : Bool:=v.kind == 0 && (v.num == 0 && (v.den == 0 && v.str == []))
theorem nD{v : Val} : dt [.int .i64 v.kind,.int .i64 v.num,.int .i64 v.den,.str v.str] [.int .i64 0,.int .i64 0,.int .i64 0,.str []] = vh v:=by
 simp [dt,eqD,vh]
def dv(s : Scalar) : Bool :=
 if s.op = 1 then dU s.val.kind s.val.num s.val.den s.val.str && (!(s.val.kind == 0) && (s.name == [] && (s.args.length : Int) == 0))
 else if s.op = 2∨s.op = 3 then vh s.val && (s.args.length : Int) == 0
 else decide (0 < dN s.op) && (vh s.val && (s.name == [] && (s.args.length : Int) == dN s.op))
theorem Jx(s : Scalar) : CallA Tryz.prog 177 [du s] [] (.one (.d (.bool (dv s)))) []:=by
 refine enter ab Tryz.func177 rfl (by decide +kernel) rfl fun hok w0 σ0 φ0 M=>?_
 clear hok
 repeat' (first|(refine h6H ?_; first|refine ac ?_|refine ah ab J J J J J ?_|(refine h0H ?_; first|refine aT J J (by first|assumption|rfl) ?_|refine bH J J (by first|assumption|rfl) J J ?_|refine bn J J J J (fun h=>?_) (fun h=>?_))|(refine h2H ?_; first|refine s_e aa J J J (aF J J (by first|rfl|assumption) J) ?_|refine s_e aa J J J (az J J (by first|rfl|assumption) J) ?_)|(refine h4H ?_; refine ag J J J J J J J J (zN _ _ _ _) J ?_)|(refine bC ?_; refine aM 0 J J J J J J ?_)|(refine h5H ?_; refine ax ab 1 J J J J J ?_)|refine aI aa J J J ?_|refine s_e aa J J J J ?_)|(refine h7H ?_; first|refine al ?_|refine ae ?_|refine ay ?_|refine aw ?_|refine am ?_|refine bc J ?_|refine bm J ?_|refine aA J (fun h=>?_) (fun h=>?_))|refine ak ?_|refine aC ?_|refine aG ?_|refine aP ?_|refine ai (.inl J) J J ?_)
 all_goals (try rw [nD] at *)
 all_goals (try (((simp_all [dv,dN,nD,aO,List.drop_eq_nil_of_le]) <;> first | omega | (rw [Bool.eq_iff_iff]; simp; omega) | grind); done))
end Go.Proofs.YtpejdgkaapnekaaGreat
namespace Go.Proofs.YtpejdgkaapnekaaGreat
open Go Go.Abs
attribute [local irreducible] ao OkC aU bg aV bA
set_option maxRecDepth 10000
mutual
def dq : Scalar→Bool
 | .mk o n v a=>dv (.mk o n v a) && gS a
def gS : List Scalar→Bool
 | []=>true
 | x::r=>dq x && gS r
end
theorem fU : ∀ {s : Scalar},dq s = (dv s && gS s.args)
 | .mk _ _ _ _=>by simp [dq,Scalar.args]
theorem c92(s : Scalar) : CallA Tryz.prog 92 [du s] [] (.one (.d (.bool (dq s)))) []:=by
 induction s using Scalar.ind with
 | h s ih =>
   refine enter ab Tryz.func92 rfl (by decide +kernel) rfl fun hok w0 σ0 φ0 M=>?_
   have h1:=(OkD.sl (hok.1 (.d (dn s.args)) (by simp))).1; clear hok; simp only [List.length_map] at h1
   repeat' (first|(refine h6H ?_; first|refine ac ?_|refine ah ab J J J J J ?_|(refine h1H ?_; refine s_e aa J J J (aL J J J J (aN (by omega) (by omega))) ?_)|(refine h3H ?_; refine s_e aa J J J (ar J J J J J (by first|omega|((try simp only [a0A,a1A,a2A,a3A,a4A,a5A,a6A,a7A,a8A,a9A,au,av] at *); omega)) (jQ (by first|omega|((try simp only [a0A,a1A,a2A,a3A,a4A,a5A,a6A,a7A,a8A,a9A,au,av] at *); omega)))) ?_)|(refine h4H ?_; first|refine ag J J J J J J J J (Jx _) J ?_|refine ag J J J J J J J J (ih _ (ea (by first|omega|((try simp only [a0A,a1A,a2A,a3A,a4A,a5A,a6A,a7A,a8A,a9A,au,av] at *); omega)))) J ?_)|(refine bC ?_; refine aM 0 J J J J J J ?_))|(refine h7H ?_; first|refine al ?_|refine ae ?_|refine ay ?_|refine aw ?_|refine am ?_|refine aW ?_|refine aA J (fun h=>?_) (fun h=>?_)|refine bk 4 J [(1,_)] (q1Q J) (fun (k : Nat)=>[(3,.one (.d (.int .i64 k)))]) (fun (k : Nat)=>k≤s.args.length∧dv s = true∧gS s.args = gS (s.args.drop k)) (fun (k : Nat)=>s.args.length - k) 0 (q1Q J) ?_ (fun k ⟨hk,hp,hs⟩=>?_))|(show Exists _; refine Exists.intro (k + 1) ⟨?_,?_,(by (repeat' first|exact ap|refine af J ?_); done),(q1Q J),(q1Q J)⟩)|refine ak ?_|refine aC ?_|refine bd ?_|refine aG ?_|refine aP ?_|refine aX J ?_|refine ai (.inl J) J J ?_)
   all_goals (try (((simp_all [fU,gS,aO,List.drop_eq_nil_of_le]) <;> first | omega | (rw [Bool.eq_iff_iff]; simp; omega) | grind); done))
end Go.Proofs.YtpejdgkaapnekaaGreat
namespace Go.Proofs.YtpejdgkaapnekaaGreat
open Go Go.Abs
theorem xv{f : Scalar→Int}{c : Int} : ∀ (l : List Scalar) (d : Int),c < l.foldl (fun d x=>max d (f x)) d↔(c < d∨∃ x∈l,c < f x)
 | [],d=>by simp
 | x::r,d=>by
   have ih:=xv (f:=f) (c:=c) r (max d (f x))
   have hm : c < max d (f x)↔c < d∨c < f x:=by omega
   simp only [List.foldl_cons,List.mem_cons]
   rw [ih,hm]
   refine ⟨fun h=>?_,fun h=>?_⟩
   ·rcases h with (h | h) | ⟨y,hy,h⟩
    ·exact .inl h
    ·exact .inr ⟨x,.inl rfl,h⟩
    ·exact .inr ⟨y,.inr hy,h⟩
   ·rcases h with h | ⟨y,rfl | hy,h⟩
    ·exact .inl (.inl h)
    ·exact .inl (.inr h)
    ·exact .inr ⟨y,hy,h⟩
theorem n6 : ∀ (m : Nat) (s : Scalar),ia m s = true↔(m : Int) < di m s
 | 0,s=>by simp [ia,di]
 | m + 1,s=>by
   have h:=xv (f:=di m) (c:=m) s.args 0
   simp only [ia,di,List.any_eq_true]
   have e : (∃ x,x∈s.args∧ia m x = true)↔∃ x,x∈s.args∧(m : Int) < di m x:=⟨fun ⟨x,h1,h2⟩=>⟨x,h1,(n6 m x).1 h2⟩,fun ⟨x,h1,h2⟩=>⟨x,h1,(n6 m x).2 h2⟩⟩
   rw [e]
   refine ⟨fun h2=>?_,fun h2=>?_⟩
   ·have:=h.2 (.inr h2); omega
   ·rcases h.1 (by omega) with h3 | h3
    ·omega
    ·exact h3
mutual
def bB : Scalar→List Scalar
 | .mk o n v a=>bt a ++ [.mk o n v a]
def bt : List Scalar→List Scalar
 | []=>[]
 | x::r=>bB x ++ bt r
end
theorem dX : ∀ {s : Scalar},bB s = bt s.args ++ [s]
 | .mk _ _ _ _=>by simp [bB,Scalar.args]
theorem xw{most : Int} : ∀ {l : List Scalar} {n : Int},most < n→dM l n most = n
 | [],n,h=>by simp [dM]
 | x::r,n,h=>by simp only [dM]; rw [if_neg (by omega)]
theorem pr{most : Int} : ∀ (l : List Scalar),(∀ x∈l,∀ m,0≤m→(((bB x).length : Int)≤m→dC x m = (bB x).length)∧(m < ((bB x).length : Int)→m < dC x m))→∀ n,1≤n→n≤most + 1 →
  (n + (bt l).length≤most→dM l n most = n + (bt l).length)∧(most < n + (bt l).length→most < dM l n most)
 | [],_,n,h1,h2=>by simp [dM,bt]
 | x::r,h,n,h1,h2=>by
   simp only [dM,bt,List.length_append]
   split
   ·rename_i hle
    obtain ⟨ha,hb⟩:=h x (by simp) (most - n) (by omega)
    have hr:=pc x (most - n) (by omega)
    have ih:=pr (most:=most) r (fun y hy=>h y (by simp [hy])) (n + dC x (most - n)) (by omega) (by omega)
    by_cases hc : ((bB x).length : Int)≤most - n
    ·rw [ha hc] at ih ⊢
     refine ⟨fun h3=>?_,fun h3=>?_⟩
     ·rw [ih.1 (by omega)]; omega
     ·exact ih.2 (by omega)
    ·have hb':=hb (by omega)
     refine ⟨fun h3=>by omega,fun h3=>?_⟩
     rw [xw (by omega)]; omega
   ·exact ⟨fun h3=>by omega,fun h3=>by omega⟩
theorem yr(s : Scalar) : ∀ m : Int,0≤m→(((bB s).length : Int)≤m→dC s m = (bB s).length)∧(m < ((bB s).length : Int)→m < dC s m):=by
 induction s using Scalar.ind with
 | h s ih =>
   intro m hm
   have:=pr (most:=m) s.args ih 1 (by omega) (by omega)
   rw [pb,dX]
   simp only [List.length_append,List.length_cons,List.length_nil]
   refine ⟨fun h=>?_,fun h=>this.2 (by omega)⟩
   rw [this.1 (by omega)]; omega
theorem AM(s : Scalar) : 64 < dC s 64↔64 < ((bB s).length : Int):=by
 have h:=yr s 64 (by omega)
 refine ⟨fun h1=>?_,h.2⟩
 by_cases hc : ((bB s).length : Int)≤64
 ·rw [h.1 hc] at h1; exact h1
 ·omega
theorem sy : ∀ (l : List Scalar),(∀ x∈l,dq x = (bB x).all dv)→gS l = (bt l).all dv
 | [],_=>by simp [gS,bt]
 | x::r,h=>by
   simp only [gS,bt,List.all_append,h x (by simp),sy r fun y hy=>h y (by simp [hy])]
theorem uM(s : Scalar) : dq s = (bB s).all dv:=by
 induction s using Scalar.ind with
 | h s ih =>
   rw [fU,dX,sy s.args ih]
   simp [Bool.and_comm]
def kp : List Scalar→Int→Bool→Int
 | [],_,r=>if r then 0 else 2
 | x::l,n,r=>if 64 < n + 1 then 9 else kp l (n + 1) (r && dv x)
theorem pq : ∀ (l : List Scalar) (n : Int) (r : Bool),n≤64→(64 < n + (l.length : Int)→kp l n r = 9)∧(¬ 64 < n + (l.length : Int)→kp l n r = if r && l.all dv then 0 else 2)
 | [],n,r,hn=>by
   simp only [kp,List.length_nil,List.all_nil,Bool.and_true]
   exact ⟨fun h=>absurd h (by omega),fun _=>trivial⟩
 | x::l,n,r,hn=>by
   simp only [kp,List.length_cons,List.all_cons]
   by_cases h : 64 < n + 1
   ·rw [if_pos h]
    exact ⟨fun _=>rfl,fun h2=>absurd h2 (by omega)⟩
   ·rw [if_neg h]
    have ih:=pq l (n + 1) (r && dv x) (by omega)
    rw [Bool.and_assoc] at ih
    exact ⟨fun h2=>ih.1 (by omega),fun h2=>ih.2 (by omega)⟩
def fA(s : Scalar) : Int:=if ia 12 s then 10 else kp (bB s) 0 true
theorem Co(s : Scalar) : fA s = if 12 < di 12 s then 10 else if 64 < dC s 64 then 9 else if dq s then 0 else 2:=by
 have h1:=n6 12 s
 have h2:=AM s
 have h3:=pq (bB s) 0 true (by omega)
 unfold fA
 rw [uM]
 by_cases hd : ia 12 s = true
 ·have hd' : 12 < di 12 s:=h1.1 hd
  rw [if_pos hd,if_pos hd']
 ·have hd' : ¬ 12 < di 12 s:=fun h=>hd (h1.2 h)
  rw [if_neg hd,if_neg hd']
  by_cases hc : 64 < dC s 64
  ·rw [if_pos hc]; have:=h2.1 hc; exact h3.1 (by omega)
  ·rw [if_neg hc]
   have hn : ¬ 64 < ((bB s).length : Int):=fun h=>hc (h2.2 h)
   rw [h3.2 (by omega),Bool.true_and]
end Go.Proofs.YtpejdgkaapnekaaGreat
namespace Go.Proofs.YtpejdgkaapnekaaGreat
open Go Go.Abs
attribute [local irreducible] ao OkC aU bg aV bA
set_option maxRecDepth 10000
def b5{α β : Type}(F : α→β→Bool×α) : List β→α→Bool×α
 | [],a=>(true,a)
 | x::l,a=>if (F a x).1 then b5 F l (F a x).2 else (false,(F a x).2)
def dm{α β : Type}(F : α→β→Bool×α)(ok : α→β→Prop) : List β→α→Prop
 | [],_=>True
 | x::l,a=>ok a x∧((F a x).1 = true→dm F ok l (F a x).2)
theorem eR{α β : Type}{F : α→β→Bool×α} : ∀ {l m : List β} {a : α},b5 F (l ++ m) a = if (b5 F l a).1 then b5 F m (b5 F l a).2 else b5 F l a
 | [],_,_=>by simp [b5]
 | x::l,m,a=>by
   simp only [List.cons_append,b5]
   split
   ·exact eR
   ·simp
theorem lU{α β : Type}{F : α→β→Bool×α}{ok : α→β→Prop} : ∀ {l m : List β} {a : α},dm F ok (l ++ m) a→dm F ok l a∧((b5 F l a).1 = true→dm F ok m (b5 F l a).2)
 | [],_,_,h=>⟨trivial,fun _=>h⟩
 | x::l,m,a,h=>by
   simp only [List.cons_append,dm] at h
   simp only [dm,b5]
   refine ⟨⟨h.1,fun h1=>(lU (h.2 h1)).1⟩,fun h1=>?_⟩
   by_cases hx : (F a x).1 = true
   ·rw [if_pos hx] at h1 ⊢; exact (lU (h.2 hx)).2 h1
   ·rw [if_neg hx] at h1; simp at h1
theorem qj : ∀ {l : List Scalar} {x : Scalar},bt (l ++ [x]) = bt l ++ bB x
 | [],x=>by simp [bt]
 | y::r,x=>by simp [bt,qj,List.append_assoc]
theorem yj{l : List Scalar}{k : Nat}(h : k < l.length) : bt (l.take (k + 1)) = bt (l.take k) ++ bB (at_ l k):=by
 rw [gl h,qj]
theorem qk{l : List Scalar}{k : Nat}(h : k < l.length) : bt (l.drop k) = bB (at_ l k) ++ bt (l.drop (k + 1)):=by
 rw [aO h]; rfl
theorem BU{α : Type}{F : α→Scalar→Bool×α}{l : List Scalar}{k : Nat}(h : k≤l.length){m : List Scalar}{a0 a : α}(hr : b5 F (bt (l.take k)) a0 = (true,a)) : b5 F (bt l ++ m) a0 = b5 F (bt (l.drop k) ++ m) a:=by
 have e : bt l = bt (l.take k) ++ bt (l.drop k):=by
  have h2 : ∀ (x y : List Scalar),bt (x ++ y) = bt x ++ bt y:=by
   intro x
   induction x with
   | nil=>intro y; simp [bt]
   | cons c r ih=>intro y; simp [bt,ih,List.append_assoc]
  rw [← h2,List.take_append_drop]
 rw [e,List.append_assoc,eR,hr]
 simp
theorem Ki{α : Type}(E : α→Sto)(hE : FamW E)(F : α→Scalar→Bool×α)(ok : α→Scalar→Prop)
  (hY : ∀ a x,ok a x→YieldA Tryz.prog 1000000 [du x] (E a) (.one (.d (.bool (F a x).1))) (E (F a x).2)) (s : Scalar) :
  ∀ a0,dm F ok (bB s) a0→CallA Tryz.prog 217 [du s,.one (.yl 1000000)] (E a0) (.one (.d (.bool (b5 F (bB s) a0).1))) (E (b5 F (bB s) a0).2):=by
 induction s using Scalar.ind with
 | h s ih =>
   intro a0 hok0
   rw [dX] at hok0 ⊢
   obtain ⟨hok1,hok2⟩:=lU hok0
   refine enter ab Tryz.func217 rfl (by decide +kernel) rfl fun hok w0 σ0 φ0 M=>?_
   have h1:=(OkD.sl (hok.1 (.d (dn s.args)) (by simp))).1; clear hok; simp only [List.length_map] at h1
   repeat' (first|(refine h6H ?_; first|(refine bC ?_; refine Gg [] 0 (hE.big _) (hE.ins _) J J J J J J J J ?_)|refine ac ?_|refine ah ab J J J J J ?_)|(refine h7H ?_; first|refine al ?_|refine ae ?_|refine ay ?_)|refine ak ?_)
   refine EU hE (fun (p : Nat×α)=>p.2) [(0,_)] [(1,_),(2,_),(8,_),(9,_)] (q4Q rfl rfl rfl rfl) (fun (p : Nat×α)=>[(10,.one (.d (.int .i64 (p.1 : Int))))])
    (fun p=>p.1≤s.args.length∧b5 F (bt (s.args.take p.1)) a0 = (true,p.2)∧dm F ok (bt (s.args.drop p.1)) p.2) (fun p=>s.args.length - p.1) (0,a0) rfl rfl (q1Q rfl) ?_ (fun p ⟨hk,hr,ho⟩=>?_)
   ·exact ⟨Nat.zero_le _,rfl,hok1⟩
   ·repeat' (first|(refine h6H ?_; first|(refine h5H ?_; refine CR ab [(0,_)] 1 (hE.big _) (hE.ins _) J J J J J J J ?_)|refine ac ?_|refine ah ab J J J J J ?_|(refine h3H ?_; refine s_e aa J J J (ar J J J J J (by first|omega|((try simp only [a0A,a1A,a2A,a3A,a4A,a5A,a6A,a7A,a8A,a9A,au,av] at *); omega)) (jQ (by first|omega|((try simp only [a0A,a1A,a2A,a3A,a4A,a5A,a6A,a7A,a8A,a9A,au,av] at *); omega)))) ?_)|refine aI aa J J J ?_)|(refine h7H ?_; first|refine al ?_|refine ae ?_|refine ay ?_|refine aw ?_|refine aW ?_|refine aA J (fun h=>?_) (fun h=>?_))|refine ak ?_|refine bd ?_|refine aX J ?_)
    ·have hk' : p.1 < s.args.length:=by simpa using h
     rw [qk hk'] at ho
     obtain ⟨ho1,ho2⟩:=lU ho
     have hrun : b5 F (bt s.args ++ [s]) a0 = if (b5 F (bB (at_ s.args p.1)) p.2).1 then b5 F (bt (s.args.drop (p.1 + 1)) ++ [s]) (b5 F (bB (at_ s.args p.1)) p.2).2 else b5 F (bB (at_ s.args p.1)) p.2:=by
      rw [BU (F:=F) hk (m:=[s]) hr,qk hk',List.append_assoc]; exact eR
     refine yR [(1,_),(0,_)] (ih (at_ s.args p.1) (ea hk') p.2 ho1) (hE.big _) (hE.big _) (hE.ins _) (hE.ins _) (hE.lp _) (hE.lp _) rfl rfl rfl rfl rfl rfl rfl (by simp [dD,dr,du,eu,ci,Et (hE.lp _)]) rfl rfl ?_
     repeat' (first|(refine h6H ?_; first|refine ac ?_|refine ah ab J J J J J ?_|(refine h1H ?_; refine s_e aa J J J (aL J J J J (aN (by omega) (by omega))) ?_))|(refine h7H ?_; first|refine al ?_|refine ae ?_|refine aw ?_|refine am ?_|refine aA J (fun h=>?_) (fun h=>?_))|refine ak ?_|refine aC ?_|refine aG ?_|refine aP ?_)
     ·have hb' : ¬ (b5 F (bB (at_ s.args p.1)) p.2).1 = true:=by simpa using h
      rw [if_neg hb'] at hrun
      refine oA [(1,_),(0,_)] (.inl rfl) rfl rfl rfl ?_ rfl (hE.big _) (hE.nd _)
      rw [hrun]
      refine ⟨?_,rfl⟩
      simp at hb'
      rw [hb']
     ·have hb' : (b5 F (bB (at_ s.args p.1)) p.2).1 = true:=by simpa using h
      refine ⟨(p.1 + 1,(b5 F (bB (at_ s.args p.1)) p.2).2),[(1,_),(0,_)],⟨by show p.1 + 1≤_; omega,?_,ho2 hb'⟩,by show s.args.length - (p.1 + 1) < s.args.length - p.1; omega,rfl,rfl,af rfl ap,af rfl ap,af rfl (q3Q rfl rfl rfl)⟩
      show b5 F (bt (s.args.take (p.1 + 1))) a0 = _
      rw [yj hk',eR,hr]
      simp only [if_true]
      rw [← hb']
    ·have hk' : p.1 = s.args.length:=by
      have : ¬ p.1 < s.args.length:=by simpa using h
      omega
     rw [hk',List.take_length] at hr
     rw [hr] at hok2
     have hf : b5 F (bt s.args ++ [s]) a0 = F p.2 s:=by
      rw [eR,hr]
      simp only [if_true,b5]
      split
      ·rename_i hb; rw [← hb]
      ·rename_i hb; simp at hb; rw [← hb]
     refine DJ [(0,_)] (hY p.2 s (hok2 rfl).1) (hE.big _) (hE.big _) (hE.ins _) (hE.ins _) (hE.lp _) (hE.lp _) rfl rfl rfl rfl rfl rfl rfl rfl (by simp [dD,dr,du,eu,ci]) rfl rfl ?_
     repeat' (first|(refine h6H ?_; first|refine ac ?_|refine ah ab J J J J J ?_)|(refine h7H ?_; refine am ?_)|refine ak ?_)
     refine oA [(0,_)] (.inl rfl) rfl rfl rfl ?_ rfl (hE.big _) (hE.nd _)
     rw [hf]
     exact ⟨rfl,rfl⟩
theorem DE{α : Type}(E : α→Sto)(hE : FamW E)(F : α→Scalar→Bool×α)(ok : α→Scalar→Prop)
  (hY : ∀ a x,ok a x→YieldA Tryz.prog 1000000 [du x] (E a) (.one (.d (.bool (F a x).1))) (E (F a x).2)) (s : Scalar) (a0 : α) (h0 : dm F ok (bB s) a0) :
  CallA Tryz.prog 216 [.one (.yl 1000000),.one (.d (.ptr (oT s)))] (E a0) (.tup []) (E (b5 F (bB s) a0).2):=by
 refine enter ab Tryz.func216 rfl (by decide +kernel) rfl fun hok w0 σ0 φ0 M=>?_
 clear hok
 repeat' (first|(refine h6H ?_; refine ah ab J J J J J ?_)|(refine h7H ?_; refine ae ?_))
 refine yR [] (Ki E hE F ok hY s a0 h0) (hE.big _) (hE.big _) (hE.ins _) (hE.ins _) (hE.lp _) (hE.lp _) rfl rfl rfl rfl rfl rfl rfl (by simp [dD,dr,du,eu,ci,Et (hE.lp _)]) rfl rfl ?_
 repeat' (first|(refine h6H ?_; refine ac ?_))
 exact oA [] (.inr rfl) rfl rfl rfl ⟨rfl,rfl⟩ rfl (hE.big _) (hE.nd _)
theorem DD(s : Scalar) : CallA Tryz.prog 162 [du s] [] (.one (.d (.fn 216 [.ptr (oT s)]))) []:=by
 refine enter ab Tryz.func162 rfl (by decide +kernel) rfl fun hok w0 σ0 φ0 M=>?_
 clear hok
 repeat' (first|(refine h6H ?_; first|refine ac ?_|refine ah ab J J J J J ?_|(refine bC ?_; refine aM 0 J J J J J J ?_)|refine vj aa J J J J J ?_)|(refine h7H ?_; first|refine al ?_|refine ae ?_|refine am ?_)|refine ak ?_|refine ai (.inl J) J J ?_)
 all_goals first | rfl | trace_state
end Go.Proofs.YtpejdgkaapnekaaGreat
namespace Go.Proofs.YtpejdgkaapnekaaGreat
open Go Go.Abs
attribute [local irreducible] ao OkC aU bg aV bA
set_option maxRecDepth 10000
theorem fC(op : Int) : CallA Tryz.prog 228 [.one (.d (.int .i64 op))] [] (.one (.d (.int .i64 (dN op)))) []:=by
 refine enter ab Tryz.func228 rfl (by decide +kernel) rfl fun hok w0 σ0 φ0 M=>?_
 clear hok
 repeat' (first|(refine h6H ?_; first|refine ac ?_|refine ah ab J J J J J ?_|(refine h0H ?_; first|refine aT J J (by first|assumption|rfl) ?_|refine bH J J (by first|assumption|rfl) J J ?_|refine bn J J J J (fun h=>?_) (fun h=>?_))|(refine h2H ?_; first|refine s_e aa J J J (aF J J (by first|rfl|assumption) J) ?_|refine s_e aa J J J (az J J (by first|rfl|assumption) J) ?_))|(refine h7H ?_; first|refine al ?_|refine ae ?_|refine aw ?_|refine am ?_|refine bm J ?_|refine aA J (fun h=>?_) (fun h=>?_))|refine ak ?_|refine aC ?_|refine ai (.inl J) J J ?_)
 all_goals (try (((simp_all [dN,aO,List.drop_eq_nil_of_le]) <;> first | omega | (rw [Bool.eq_iff_iff]; simp; omega) | grind); done))
def dG(t : Int) : Bool:=t == 2 || t == 3
theorem Hm(t : Int) : CallA Tryz.prog 269 [.one (.d (.int .i64 t))] [] (.one (.d (.bool (dG t)))) []:=by
 refine enter ab Tryz.func269 rfl (by decide +kernel) rfl fun hok w0 σ0 φ0 M=>?_
 clear hok
 repeat' (first|(refine h6H ?_; first|refine ac ?_|refine ah ab J J J J J ?_|(refine h0H ?_; first|refine aT J J (by first|assumption|rfl) ?_|refine bH J J (by first|assumption|rfl) J J ?_|refine bn J J J J (fun h=>?_) (fun h=>?_))|(refine h2H ?_; first|refine s_e aa J J J (aF J J (by first|rfl|assumption) J) ?_|refine s_e aa J J J (az J J (by first|rfl|assumption) J) ?_))|(refine h7H ?_; first|refine al ?_|refine ae ?_|refine am ?_)|refine ak ?_|refine ai (.inl J) J J ?_)
 all_goals (try (((simp_all [dG,aO,List.drop_eq_nil_of_le]) <;> first | omega | (rw [Bool.eq_iff_iff]; simp; omega) | grind); done))
def cI(a b : Int) : Int:=if a = b then a else if dG a && dG b then 3 else 0
theorem LF(a b : Int) : CallA Tryz.prog 270 [.one (.d (.int .i64 a)),.one (.d (.int .i64 b))] [] (.one (.d (.int .i64 (cI a b)))) []:=by
 refine enter ab Tryz.func270 rfl (by decide +kernel) rfl fun hok w0 σ0 φ0 M=>?_
 clear hok
 repeat' (first|(refine h6H ?_; first|refine ac ?_|refine ah ab J J J J J ?_|(refine h0H ?_; first|refine aT J J (by first|assumption|rfl) ?_|refine bH J J (by first|assumption|rfl) J J ?_|refine bn J J J J (fun h=>?_) (fun h=>?_))|(refine h2H ?_; first|refine s_e aa J J J (aF J J (by first|rfl|assumption) J) ?_|refine s_e aa J J J (az J J (by first|rfl|assumption) J) ?_)|(refine h4H ?_; refine ag J J J J J J J J (Hm _) J ?_))|(refine h7H ?_; first|refine al ?_|refine ae ?_|refine aw ?_|refine am ?_|refine bm J ?_|refine aA J (fun h=>?_) (fun h=>?_))|refine ak ?_|refine aC ?_|refine ai (.inl J) J J ?_)
 all_goals (try (((simp_all [cI,aO,List.drop_eq_nil_of_le]) <;> first | omega | (rw [Bool.eq_iff_iff]; simp; omega) | grind); done))
end Go.Proofs.YtpejdgkaapnekaaGreat
namespace Go.Proofs.YtpejdgkaapnekaaGreat
open Go Go.Abs
attribute [local irreducible] ao OkC aU bg aV bA
set_option maxRecDepth 10000
def cQ(op : Int)(a b c : Int) : Int :=
 if (op = 4∧a = 1)∨op = 7 then 1
 else if op = 5∧dG a = true then a
 else if (op = 6∧dG a = true)∨op = 8 then 2
 else if 9≤op∧op≤11∧dG a = true∧dG b = true then cI a b
 else if op = 12∧dG a = true∧dG b = true then 3
 else if 13≤op∧op≤18∧cI a b≠0 then 1
 else if (op = 19∨op = 20)∧a = 1∧b = 1 then 1
 else if op = 21 then cI a b
 else if op = 22∧a = 1 then cI b c
 else 0
theorem nM{op : Int}(h : 4≤op∧op≤22) : op = 4∨op = 5∨op = 6∨op = 7∨op = 8∨op = 9∨op = 10∨op = 11∨op = 12∨op = 13∨op = 14∨op = 15∨op = 16∨op = 17∨op = 18∨op = 19∨op = 20∨op = 21∨op = 22:=by omega
set_option maxHeartbeats 4000000 in
theorem Kt(op : Int)(l : List Int)(hop : 4≤op∧op≤22)(hl : (l.length : Int) = dN op) :
  CallA Tryz.prog 229 [.one (.d (.int .i64 op)),.one (.d (bI l))] [] (.one (.d (.int .i64 (cQ op (at_ l 0) (at_ l 1) (at_ l 2))))) []:=by
 rcases nM hop with rfl | rfl | rfl | rfl | rfl | rfl | rfl | rfl | rfl | rfl | rfl | rfl | rfl | rfl | rfl | rfl | rfl | rfl | rfl
 all_goals
  simp [dN] at hl
  refine enter ab Tryz.func229 rfl (by decide +kernel) rfl fun hok w0 σ0 φ0 M=>?_
  clear hok hop
  repeat' (first|(refine h6H ?_; first|refine ac ?_|refine ah ab J J J J J ?_|(refine h0H ?_; first|refine aT J J (by first|assumption|rfl) ?_|refine bH J J (by first|assumption|rfl) J J ?_|refine bn J J J J (fun h=>?_) (fun h=>?_))|(refine h2H ?_; first|refine s_e aa J J J (aF J J (by first|rfl|assumption) J) ?_|refine s_e aa J J J (az J J (by first|rfl|assumption) J) ?_)|(refine h3H ?_; refine s_e aa J J J (ar J J J J J (by omega) (aJ (by omega))) ?_)|(refine h4H ?_; refine ag J J J J J J J J (Hm _) J ?_))|(refine h7H ?_; first|refine al ?_|refine ae ?_|refine ay ?_|refine aw ?_|refine am ?_|refine bc J ?_|refine bm J ?_|refine bv J (by assumption) ?_|refine aA J (fun h=>?_) (fun h=>?_)|refine aR progOk.mo ?_)|(refine bP ?_; first|refine bG (by kernel_rfl) ?_|refine d_e aa J J J (aK J J) ?_|(refine qO ?_; first|refine jH J J (by first|assumption|rfl) ?_|refine nv J J (by first|assumption|rfl) J J ?_)|(refine qP ?_; first|refine d_e aa J J J (aF J J (by first|rfl|assumption) J) ?_|refine d_e aa J J J (az J J (by first|rfl|assumption) J) ?_)|(refine h8H ?_; refine d_e aa J J J (ar J J J J J (by omega) (aJ (by omega))) ?_)|(refine h9H ?_; refine d_l J J (bj J J J J J J (LF _ _) J) ?_))|refine ak ?_|refine aC ?_|refine aG ?_|refine aP ?_|refine ai (.inl J) J J ?_)
  all_goals (try (((simp_all [cQ,aO,List.drop_eq_nil_of_le]) <;> first | omega | (rw [Bool.eq_iff_iff]; simp; omega) | grind); done))
end Go.Proofs.YtpejdgkaapnekaaGreat
namespace Go.Proofs.YtpejdgkaapnekaaGreat
open Go Go.Abs
attribute [local irreducible] ao OkC aU bg aV bA
set_option maxRecDepth 10000
theorem C6(t : Int) : CallA Tryz.prog 301 [.one (.d (.int .i64 t))] [] (.one (.d (.bool (dG t)))) []:=by
 refine enter ab Tryz.func301 rfl (by decide +kernel) rfl fun hok w0 σ0 φ0 M=>?_
 clear hok
 repeat' (first|(refine h6H ?_; first|refine ac ?_|refine ah ab J J J J J ?_|(refine h0H ?_; first|refine aT J J (by first|assumption|rfl) ?_|refine bH J J (by first|assumption|rfl) J J ?_|refine bn J J J J (fun h=>?_) (fun h=>?_))|(refine h2H ?_; first|refine s_e aa J J J (aF J J (by first|rfl|assumption) J) ?_|refine s_e aa J J J (az J J (by first|rfl|assumption) J) ?_))|(refine h7H ?_; first|refine al ?_|refine ae ?_|refine am ?_)|refine ak ?_|refine ai (.inl J) J J ?_)
 all_goals (try (((simp_all [dG,aO,List.drop_eq_nil_of_le]) <;> first | omega | (rw [Bool.eq_iff_iff]; simp; omega) | grind); done))
theorem Gp(l : D)(t : Int) : CallA Tryz.prog 357 [.one (.d l),.one (.d (.ptr [.int .i64 t]))] [] (.one (.d (.int .i64 t))) []:=by
 refine enter ab Tryz.func357 rfl (by decide +kernel) rfl fun hok w0 σ0 φ0 M=>?_
 clear hok
 repeat' (first|(refine h6H ?_; first|refine ac ?_|refine ah ab J J J J J ?_)|(refine h7H ?_; first|refine al ?_|refine ae ?_|refine am ?_)|refine ak ?_|refine ai (.inl J) J J ?_)
 all_goals (try (((simp_all [aO,List.drop_eq_nil_of_le]) <;> first | omega | (rw [Bool.eq_iff_iff]; simp; omega) | grind); done))
theorem Jt(l : List Int)(hl : 1≤l.length) : CallA Tryz.prog 303 [.one (.d (bI l))] [] (.one (.d (.int .i64 (if at_ l 0 = 1 then 1 else 0)))) []:=by
 refine enter ab Tryz.func303 rfl (by decide +kernel) rfl fun hok w0 σ0 φ0 M=>?_
 clear hok
 repeat' (first|(refine h6H ?_; first|refine ac ?_|refine ah ab J J J J J ?_|(refine h3H ?_; refine s_e aa J J J (ar J J J J J (by omega) (aJ (by omega))) ?_))|(refine h7H ?_; first|refine al ?_|refine ae ?_|refine aw ?_|refine am ?_|refine aA J (fun h=>?_) (fun h=>?_))|refine ak ?_|refine aC ?_|refine ai (.inl J) J J ?_)
 all_goals (try (((simp_all [aO,List.drop_eq_nil_of_le]) <;> first | omega | (rw [Bool.eq_iff_iff]; simp; omega) | grind); done))
theorem wl(l : List Int)(hl : 2≤l.length) : CallA Tryz.prog 307 [.one (.d (bI l))] [] (.one (.d (.int .i64 (cI (at_ l ((l.length : Int) - 2).toNat) (at_ l ((l.length : Int) - 1).toNat))))) []:=by
 refine enter ab Tryz.func307 rfl (by decide +kernel) rfl fun hok w0 σ0 φ0 M=>?_
 have h1:=hok.1.sl.1; clear hok; simp only [List.length_map] at h1
 repeat' (first|(refine h6H ?_; first|refine ac ?_|refine ah ab J J J J J ?_|(refine h0H ?_; first|refine aT J J (by first|assumption|rfl) ?_|refine bH J J (by first|assumption|rfl) J J ?_|refine bn J J J J (fun h=>?_) (fun h=>?_))|(refine h2H ?_; first|refine s_e aa J J J (aF J J (by first|rfl|assumption) J) ?_|refine s_e aa J J J (az J J (by first|rfl|assumption) J) ?_)|(refine h4H ?_; refine ag J J J J J J J J (C6 _) J ?_))|(refine h7H ?_; first|refine al ?_|refine ae ?_|refine ay ?_|refine aw ?_|refine am ?_|refine bm J ?_|refine aA J (fun h=>?_) (fun h=>?_)|refine aR progOk.mo ?_)|(refine bP ?_; first|refine bG (by kernel_rfl) ?_|refine d_e aa J J J (aK J J) ?_|(refine sP ?_; refine d_e aa J J J (bW J J J J (aN (by first|omega|((try simp only [a0A,a1A,a2A,a3A,a4A,a5A,a6A,a7A,a8A,a9A,au,av] at *); omega)) (by first|omega|((try simp only [a0A,a1A,a2A,a3A,a4A,a5A,a6A,a7A,a8A,a9A,au,av] at *); omega)))) ?_)|(refine h8H ?_; refine d_e aa J J J (ar J J J J J (by first|omega|((try simp only [a0A,a1A,a2A,a3A,a4A,a5A,a6A,a7A,a8A,a9A,au,av] at *); omega)) (aJ (by first|omega|((try simp only [a0A,a1A,a2A,a3A,a4A,a5A,a6A,a7A,a8A,a9A,au,av] at *); omega)))) ?_))|refine ak ?_|refine aC ?_|refine aG ?_|refine aP ?_|refine ai (.inl J) J J ?_)
 all_goals (try (((simp_all [cI,aO,List.drop_eq_nil_of_le]) <;> first | omega | (rw [Bool.eq_iff_iff]; simp; omega) | grind); done))
theorem Gq(l : List Int)(hl : 1≤l.length) : CallA Tryz.prog 300 [.one (.d (bI l))] [] (.one (.d (.int .i64 (if dG (at_ l 0) then at_ l 0 else 0)))) []:=by
 refine enter ab Tryz.func300 rfl (by decide +kernel) rfl fun hok w0 σ0 φ0 M=>?_
 clear hok
 repeat' (first|(refine h6H ?_; first|refine ac ?_|refine ah ab J J J J J ?_|(refine h3H ?_; refine s_e aa J J J (ar J J J J J (by omega) (aJ (by omega))) ?_)|(refine h4H ?_; refine ag J J J J J J J J (C6 _) J ?_))|(refine h7H ?_; first|refine al ?_|refine ae ?_|refine aw ?_|refine am ?_|refine aA J (fun h=>?_) (fun h=>?_))|refine ak ?_|refine aC ?_|refine ai (.inl J) J J ?_)
 all_goals (try (((simp_all [aO,List.drop_eq_nil_of_le]) <;> first | omega | (rw [Bool.eq_iff_iff]; simp; omega) | grind); done))
theorem zM(l : List Int)(hl : 2≤l.length) : CallA Tryz.prog 305 [.one (.d (bI l))] [] (.one (.d (.int .i64 (if dG (at_ l 0) then cI (at_ l ((l.length : Int) - 2).toNat) (at_ l ((l.length : Int) - 1).toNat) else 0)))) []:=by
 refine enter ab Tryz.func305 rfl (by decide +kernel) rfl fun hok w0 σ0 φ0 M=>?_
 clear hok
 repeat' (first|(refine h6H ?_; first|refine ac ?_|refine ah ab J J J J J ?_|(refine h3H ?_; refine s_e aa J J J (ar J J J J J (by omega) (aJ (by omega))) ?_)|(refine h4H ?_; first|refine ag J J J J J J J J (C6 _) J ?_|refine ag J J J J J J J J (wl _ (by omega)) J ?_))|(refine h7H ?_; first|refine al ?_|refine ae ?_|refine aw ?_|refine am ?_|refine aA J (fun h=>?_) (fun h=>?_))|refine ak ?_|refine aC ?_|refine ai (.inl J) J J ?_)
 all_goals (try (((simp_all [aO,List.drop_eq_nil_of_le]) <;> first | omega | (rw [Bool.eq_iff_iff]; simp; omega) | grind); done))
theorem Ju(l : List Int)(hl : 2≤l.length) : CallA Tryz.prog 306 [.one (.d (bI l))] [] (.one (.d (.int .i64 (if at_ l 0 = 1 then cI (at_ l ((l.length : Int) - 2).toNat) (at_ l ((l.length : Int) - 1).toNat) else 0)))) []:=by
 refine enter ab Tryz.func306 rfl (by decide +kernel) rfl fun hok w0 σ0 φ0 M=>?_
 clear hok
 repeat' (first|(refine h6H ?_; first|refine ac ?_|refine ah ab J J J J J ?_|(refine h3H ?_; refine s_e aa J J J (ar J J J J J (by omega) (aJ (by omega))) ?_)|(refine h4H ?_; refine ag J J J J J J J J (wl _ (by omega)) J ?_))|(refine h7H ?_; first|refine al ?_|refine ae ?_|refine aw ?_|refine am ?_|refine aA J (fun h=>?_) (fun h=>?_))|refine ak ?_|refine aC ?_|refine ai (.inl J) J J ?_)
 all_goals (try (((simp_all [aO,List.drop_eq_nil_of_le]) <;> first | omega | (rw [Bool.eq_iff_iff]; simp; omega) | grind); done))
theorem Jv(l : List Int)(hl : 2≤l.length) : CallA Tryz.prog 304 [.one (.d (bI l))] [] (.one (.d (.int .i64 (if (if dG (at_ l 0) then cI (at_ l ((l.length : Int) - 2).toNat) (at_ l ((l.length : Int) - 1).toNat) else 0) = 0 then 0 else 3)))) []:=by
 refine enter ab Tryz.func304 rfl (by decide +kernel) rfl fun hok w0 σ0 φ0 M=>?_
 clear hok
 repeat' (first|(refine h6H ?_; first|refine ac ?_|refine ah ab J J J J J ?_|(refine h4H ?_; refine ag J J J J J J J J (zM _ (by omega)) J ?_))|(refine h7H ?_; first|refine al ?_|refine ae ?_|refine aw ?_|refine am ?_|refine aA J (fun h=>?_) (fun h=>?_))|refine ak ?_|refine aC ?_|refine ai (.inl J) J J ?_)
 all_goals (try (((simp_all [aO,List.drop_eq_nil_of_le]) <;> first | omega | (rw [Bool.eq_iff_iff]; simp; omega) | grind); done))
theorem sZ(l : List Int)(hl : 2≤l.length) : CallA Tryz.prog 363 [.one (.d (bI l))] [] (.one (.d (.int .i64 (if cI (at_ l ((l.length : Int) - 2).toNat) (at_ l ((l.length : Int) - 1).toNat) = 0 then 0 else 1)))) []:=by
 refine enter ab Tryz.func363 rfl (by decide +kernel) rfl fun hok w0 σ0 φ0 M=>?_
 clear hok
 repeat' (first|(refine h6H ?_; first|refine ac ?_|refine ah ab J J J J J ?_|(refine h4H ?_; refine ag J J J J J J J J (wl _ (by omega)) J ?_))|(refine h7H ?_; first|refine al ?_|refine ae ?_|refine aw ?_|refine am ?_|refine aA J (fun h=>?_) (fun h=>?_))|refine ak ?_|refine aC ?_|refine ai (.inl J) J J ?_)
 all_goals (try (((simp_all [aO,List.drop_eq_nil_of_le]) <;> first | omega | (rw [Bool.eq_iff_iff]; simp; omega) | grind); done))
theorem EZ{l : List Int}(h : OkD (bI l)){i : Nat}(hi : i < l.length) : -9223372036854775808≤at_ l i∧at_ l i≤9223372036854775807 :=
 OkD.i64 ((h.sl.2.2 (dA (at_ l i)) (List.mem_map_of_mem (ea hi))).2 (.int .i64 (at_ l i)) (by simp [dA]))
theorem Gr(l : List Int)(hl : 2≤l.length) : CallA Tryz.prog 366 [.one (.d (bI l))] [] (.one (.d (.int .i64 (if at_ l 0 = 1 then cI (at_ l ((l.length : Int) - 2).toNat) (at_ l ((l.length : Int) - 1).toNat) else 0)))) []:=by
 refine enter ab Tryz.func366 rfl (by decide +kernel) rfl fun hok w0 σ0 φ0 M=>?_
 have hs : -9223372036854775808≤cI (at_ l ((l.length : Int) - 2).toNat) (at_ l ((l.length : Int) - 1).toNat)∧cI (at_ l ((l.length : Int) - 2).toNat) (at_ l ((l.length : Int) - 1).toNat)≤9223372036854775807:=by
  have:=EZ hok.1 (i:=((l.length : Int) - 2).toNat) (by omega)
  unfold cI; split
  ·exact this
  ·split <;> omega
 clear hok
 repeat' (first|(refine h6H ?_; first|refine ac ?_|refine ah ab J J J J J ?_|(refine s9 ?_; refine s_e aa J J J (lM J J J J (aN (by omega) (by omega))) ?_)|(refine h3H ?_; refine s_e aa J J J (ar J J J J J (by omega) (aJ (by omega))) ?_)|(refine h4H ?_; refine ag J J J J J J J J (wl _ (by omega)) J ?_))|(refine h7H ?_; first|refine al ?_|refine ae ?_|refine aw ?_|refine am ?_|refine aA J (fun h=>?_) (fun h=>?_))|refine ak ?_|refine aC ?_|refine ai (.inl J) J J ?_)
 all_goals (try (((simp_all [aO,List.drop_eq_nil_of_le]) <;> first | omega | (rw [Bool.eq_iff_iff]; simp; omega) | grind); done))
theorem Jw(l : List Int)(hl : 1≤l.length) : CallA Tryz.prog 302 [.one (.d (bI l)),.one (.d (.ptr [.fn 300 []]))] [] (.one (.d (.int .i64 (min (if dG (at_ l 0) then at_ l 0 else 0) 2)))) []:=by
 refine enter ab Tryz.func302 rfl (by decide +kernel) rfl fun hok w0 σ0 φ0 M=>?_
 clear hok
 repeat' (first|(refine h6H ?_; first|refine ac ?_|refine ah ab J J J J J ?_|(refine h4H ?_; refine ag J J J J J J J J (Gq l hl) J ?_))|(refine h7H ?_; first|refine al ?_|refine ae ?_|refine am ?_)|refine ak ?_|refine ai (.inl J) J J ?_)
 all_goals (try (((simp_all [aO,List.drop_eq_nil_of_le]) <;> first | omega | (rw [Bool.eq_iff_iff]; simp; omega) | grind); done))
end Go.Proofs.YtpejdgkaapnekaaGreat
