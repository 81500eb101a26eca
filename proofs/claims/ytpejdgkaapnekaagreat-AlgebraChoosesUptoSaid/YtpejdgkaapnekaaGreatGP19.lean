import Derived.Test.YtpejdgkaapnekaaGreatGP18
import Derived.Test.YtpejdgkaapnekaaGreatGP15
set_option linter.unusedVariables false
set_option linter.unusedSimpArgs false
set_option linter.unnecessarySimpa false
set_option maxHeartbeats 1000000
namespace Go.Proofs.YtpejdgkaapnekaaGreat
open Go Go.Abs
attribute [local irreducible] ac OkC ao ax ap aJ
set_option maxRecDepth 10000
def bt{α β : Type}(F : α→β→Bool×α) : List β→α→Bool×α
 | [],a=>(true,a)
 | x::l,a=>if (F a x).1 then bt F l (F a x).2 else (false,(F a x).2)
def cT{α β : Type}(F : α→β→Bool×α)(ok : α→β→Prop) : List β→α→Prop
 | [],_=>True
 | x::l,a=>ok a x∧((F a x).1 = true→cT F ok l (F a x).2)
theorem eA{α β : Type}{F : α→β→Bool×α} : ∀ {l m : List β} {a : α},bt F (l ++ m) a = if (bt F l a).1 then bt F m (bt F l a).2 else bt F l a
 | [],_,_=>by simp [bt]
 | x::l,m,a=>by
   simp only [List.cons_append,bt]
   split
   ·exact eA
   ·simp
theorem mM{α β : Type}{F : α→β→Bool×α}{ok : α→β→Prop} : ∀ {l m : List β} {a : α},cT F ok (l ++ m) a→cT F ok l a∧((bt F l a).1 = true→cT F ok m (bt F l a).2)
 | [],_,_,h=>⟨trivial,fun _=>h⟩
 | x::l,m,a,h=>by
   simp only [List.cons_append,cT] at h
   simp only [cT,bt]
   refine ⟨⟨h.1,fun h1=>(mM (h.2 h1)).1⟩,fun h1=>?_⟩
   by_cases hx : (F a x).1 = true
   ·rw [if_pos hx] at h1 ⊢; exact (mM (h.2 hx)).2 h1
   ·rw [if_neg hx] at h1; simp at h1
theorem rr : ∀ {l : List Scalar} {x : Scalar},aO (l ++ [x]) = aO l ++ aS x
 | [],x=>by simp [aO]
 | y::r,x=>by simp [aO,rr,List.append_assoc]
theorem zW{l : List Scalar}{k : Nat}(h : k < l.length) : aO (l.take (k + 1)) = aO (l.take k) ++ aS (at_ l k):=by
 rw [eO h,rr]
theorem rt{l : List Scalar}{k : Nat}(h : k < l.length) : aO (l.drop k) = aS (at_ l k) ++ aO (l.drop (k + 1)):=by
 rw [am h]; rfl
theorem Ei{α : Type}{F : α→Scalar→Bool×α}{l : List Scalar}{k : Nat}(h : k≤l.length){m : List Scalar}{a0 a : α}(hr : bt F (aO (l.take k)) a0 = (true,a)) : bt F (aO l ++ m) a0 = bt F (aO (l.drop k) ++ m) a:=by
 have e : aO l = aO (l.take k) ++ aO (l.drop k):=by
  have h2 : ∀ (x y : List Scalar),aO (x ++ y) = aO x ++ aO y:=by
   intro x
   induction x with
   | nil=>intro y; simp [aO]
   | cons c r ih=>intro y; simp [aO,ih,List.append_assoc]
  rw [← h2,List.take_append_drop]
 rw [e,List.append_assoc,eA,hr]
 simp
theorem Oq{α : Type}(E : α→Sto)(hE : FamW E)(F : α→Scalar→Bool×α)(ok : α→Scalar→Prop)
  (hY : ∀ a x,ok a x→YieldA Tryz.prog 1000000 [cY x] (E a) (.one (.d (.bool (F a x).1))) (E (F a x).2)) (s : Scalar) :
  ∀ a0,cT F ok (aS s) a0→CallA Tryz.prog 217 [cY s,.one (.yl 1000000)] (E a0) (.one (.d (.bool (bt F (aS s) a0).1))) (E (bt F (aS s) a0).2):=by
 induction s using Scalar.ind with
 | h s ih =>
   intro a0 hok0
   rw [dB] at hok0 ⊢
   obtain ⟨hok1,hok2⟩:=mM hok0
   refine enter ae Tryz.func217 rfl (by decide +kernel) rfl fun hok w0 σ0 φ0 M=>?_
   have h1:=(OkD.sl (hok.1 (.d (cu s.args)) (by simp))).1; clear hok; simp only [List.length_map] at h1
   repeat' (first|(refine h1H ?_; (refine Ot ?_; refine I6 [] 0 (hE.big _) (hE.ins _) J J J J J J J J ?_))|refine wG ?_)
   refine Hx hE (fun (p : Nat×α)=>p.2) [(0,_)] [(1,_),(2,_),(8,_),(9,_)] (q4Q rfl rfl rfl rfl) (fun (p : Nat×α)=>[(10,.one (.d (.int .i64 (p.1 : Int))))])
    (fun p=>p.1≤s.args.length∧bt F (aO (s.args.take p.1)) a0 = (true,p.2)∧cT F ok (aO (s.args.drop p.1)) p.2) (fun p=>s.args.length - p.1) (0,a0) rfl rfl (q1Q rfl) ?_ (fun p ⟨hk,hr,ho⟩=>?_)
   ·exact ⟨Nat.zero_le _,rfl,hok1⟩
   ·repeat' (first|(refine h1H ?_; (refine Ou ?_; refine Fq ae [(0,_)] 1 (hE.big _) (hE.ins _) J J J J J J J ?_))|refine wG ?_|(refine h4H ?_; refine ag J (fun h=>?_) (fun h=>?_)))
    ·have hk' : p.1 < s.args.length:=by simpa using h
     rw [rt hk'] at ho
     obtain ⟨ho1,ho2⟩:=mM ho
     have hrun : bt F (aO s.args ++ [s]) a0 = if (bt F (aS (at_ s.args p.1)) p.2).1 then bt F (aO (s.args.drop (p.1 + 1)) ++ [s]) (bt F (aS (at_ s.args p.1)) p.2).2 else bt F (aS (at_ s.args p.1)) p.2:=by
      rw [Ei (F:=F) hk (m:=[s]) hr,rt hk',List.append_assoc]; exact eA
     refine AE [(1,_),(0,_)] (ih (at_ s.args p.1) (bM hk') p.2 ho1) (hE.big _) (hE.big _) (hE.ins _) (hE.ins _) (hE.lp _) (hE.lp _) rfl rfl rfl rfl rfl rfl rfl (by simp [da,cX,cY,dY,bx,GZ (hE.lp _)]) rfl rfl ?_
     repeat' (first|refine wG ?_|(refine h4H ?_; refine ag J (fun h=>?_) (fun h=>?_)))
     ·have hb' : ¬ (bt F (aS (at_ s.args p.1)) p.2).1 = true:=by simpa using h
      rw [if_neg hb'] at hrun
      refine po [(1,_),(0,_)] (.inl rfl) rfl rfl rfl ?_ rfl (hE.big _) (hE.nd _)
      rw [hrun]
      refine ⟨?_,rfl⟩
      simp at hb'
      rw [hb']
     ·have hb' : (bt F (aS (at_ s.args p.1)) p.2).1 = true:=by simpa using h
      refine ⟨(p.1 + 1,(bt F (aS (at_ s.args p.1)) p.2).2),[(1,_),(0,_)],⟨by show p.1 + 1≤_; omega,?_,ho2 hb'⟩,by show s.args.length - (p.1 + 1) < s.args.length - p.1; omega,rfl,rfl,ai rfl aT,ai rfl aT,ai rfl (q3Q rfl rfl rfl)⟩
      show bt F (aO (s.args.take (p.1 + 1))) a0 = _
      rw [zW hk',eA,hr]
      simp only [if_true]
      rw [← hb']
    ·have hk' : p.1 = s.args.length:=by
      have : ¬ p.1 < s.args.length:=by simpa using h
      omega
     rw [hk',List.take_length] at hr
     rw [hr] at hok2
     have hf : bt F (aO s.args ++ [s]) a0 = F p.2 s:=by
      rw [eA,hr]
      simp only [if_true,bt]
      split
      ·rename_i hb; rw [← hb]
      ·rename_i hb; simp at hb; rw [← hb]
     refine Ge [(0,_)] (hY p.2 s (hok2 rfl).1) (hE.big _) (hE.big _) (hE.ins _) (hE.ins _) (hE.lp _) (hE.lp _) rfl rfl rfl rfl rfl rfl rfl rfl (by simp [da,cX,cY,dY,bx]) rfl rfl ?_
     repeat' (first|refine wG ?_)
     refine po [(0,_)] (.inl rfl) rfl rfl rfl ?_ rfl (hE.big _) (hE.nd _)
     rw [hf]
     exact ⟨rfl,rfl⟩
theorem F5{α : Type}(E : α→Sto)(hE : FamW E)(F : α→Scalar→Bool×α)(ok : α→Scalar→Prop)
  (hY : ∀ a x,ok a x→YieldA Tryz.prog 1000000 [cY x] (E a) (.one (.d (.bool (F a x).1))) (E (F a x).2)) (s : Scalar) (a0 : α) (h0 : cT F ok (aS s) a0) :
  CallA Tryz.prog 216 [.one (.yl 1000000),.one (.d (.ptr (pJ s)))] (E a0) (.tup []) (E (bt F (aS s) a0).2):=by
 refine enter ae Tryz.func216 rfl (by decide +kernel) rfl fun hok w0 σ0 φ0 M=>?_
 clear hok
 repeat' (first|refine wG ?_)
 refine AE [] (Oq E hE F ok hY s a0 h0) (hE.big _) (hE.big _) (hE.ins _) (hE.ins _) (hE.lp _) (hE.lp _) rfl rfl rfl rfl rfl rfl rfl (by simp [da,cX,cY,dY,bx,GZ (hE.lp _)]) rfl rfl ?_
 repeat' (first|refine wG ?_)
 exact po [] (.inr rfl) rfl rfl rfl ⟨rfl,rfl⟩ rfl (hE.big _) (hE.nd _)
theorem F4(s : Scalar) : CallA Tryz.prog 162 [cY s] [] (.one (.d (.fn 216 [.ptr (pJ s)]))) []:=by
 refine enter ae Tryz.func162 rfl (by decide +kernel) rfl fun hok w0 σ0 φ0 M=>?_
 clear hok
 repeat' (first|refine wG ?_)
 all_goals first | rfl | trace_state
theorem fq(op : Int) : CallA Tryz.prog 228 [.one (.d (.int .i64 op))] [] (.one (.d (.int .i64 (dq op)))) []:=by
 refine enter ae Tryz.func228 rfl (by decide +kernel) rfl fun hok w0 σ0 φ0 M=>?_
 clear hok
 repeat' (first|refine wG ?_|(refine h1H ?_; (refine h5H ?_; refine aG J J J J (fun h=>?_) (fun h=>?_)))|(refine h4H ?_; refine ag J (fun h=>?_) (fun h=>?_)))
 all_goals (try (((simp_all [dq,am,List.drop_eq_nil_of_le]) <;> exact wL); done))
def dg(t : Int) : Bool:=t == 2 || t == 3
theorem Ke(t : Int) : CallA Tryz.prog 269 [.one (.d (.int .i64 t))] [] (.one (.d (.bool (dg t)))) []:=by
 refine enter ae Tryz.func269 rfl (by decide +kernel) rfl fun hok w0 σ0 φ0 M=>?_
 clear hok
 repeat' (first|refine wG ?_|(refine h1H ?_; (refine h5H ?_; refine aG J J J J (fun h=>?_) (fun h=>?_))))
 all_goals (try (((simp_all [dg,am,List.drop_eq_nil_of_le]) <;> exact wL); done))
def b8(a b : Int) : Int:=if a = b then a else if dg a && dg b then 3 else 0
theorem PJ(a b : Int) : CallA Tryz.prog 270 [.one (.d (.int .i64 a)),.one (.d (.int .i64 b))] [] (.one (.d (.int .i64 (b8 a b)))) []:=by
 refine enter ae Tryz.func270 rfl (by decide +kernel) rfl fun hok w0 σ0 φ0 M=>?_
 clear hok
 repeat' (first|(refine h1H ?_; (refine h0H ?_; refine aa J J J J J J J J (Ke _) J ?_))|refine wG ?_|(refine h1H ?_; (refine h5H ?_; refine aG J J J J (fun h=>?_) (fun h=>?_)))|(refine h4H ?_; refine ag J (fun h=>?_) (fun h=>?_)))
 all_goals (try (((simp_all [b8,am,List.drop_eq_nil_of_le]) <;> exact wL); done))
def cn(op : Int)(a b c : Int) : Int :=
 if (op = 4∧a = 1)∨op = 7 then 1
 else if op = 5∧dg a = true then a
 else if (op = 6∧dg a = true)∨op = 8 then 2
 else if 9≤op∧op≤11∧dg a = true∧dg b = true then b8 a b
 else if op = 12∧dg a = true∧dg b = true then 3
 else if 13≤op∧op≤18∧b8 a b≠0 then 1
 else if (op = 19∨op = 20)∧a = 1∧b = 1 then 1
 else if op = 21 then b8 a b
 else if op = 22∧a = 1 then b8 b c
 else 0
theorem oC{op : Int}(h : 4≤op∧op≤22) : op = 4∨op = 5∨op = 6∨op = 7∨op = 8∨op = 9∨op = 10∨op = 11∨op = 12∨op = 13∨op = 14∨op = 15∨op = 16∨op = 17∨op = 18∨op = 19∨op = 20∨op = 21∨op = 22:=by omega
set_option maxHeartbeats 4000000 in
theorem OE(op : Int)(l : List Int)(hop : 4≤op∧op≤22)(hl : (l.length : Int) = dq op) :
  CallA Tryz.prog 229 [.one (.d (.int .i64 op)),.one (.d (aL l))] [] (.one (.d (.int .i64 (cn op (at_ l 0) (at_ l 1) (at_ l 2))))) []:=by
 rcases oC hop with rfl | rfl | rfl | rfl | rfl | rfl | rfl | rfl | rfl | rfl | rfl | rfl | rfl | rfl | rfl | rfl | rfl | rfl | rfl
 all_goals
  simp [dq] at hl
  refine enter ae Tryz.func229 rfl (by decide +kernel) rfl fun hok w0 σ0 φ0 M=>?_
  clear hok hop
  repeat' (first|(refine h1H ?_; (refine h0H ?_; refine aa J J J J J J J J (Ke _) J ?_))|(refine h3H ?_; (refine h2H ?_; refine d_l J J (aA J J J J J J (PJ _ _) J) ?_))|refine wG ?_|(refine h1H ?_; (refine h5H ?_; refine aG J J J J (fun h=>?_) (fun h=>?_)))|(refine h4H ?_; refine ag J (fun h=>?_) (fun h=>?_)))
  all_goals (try (((simp_all [cn,am,List.drop_eq_nil_of_le]) <;> exact wL); done))
theorem FC(t : Int) : CallA Tryz.prog 301 [.one (.d (.int .i64 t))] [] (.one (.d (.bool (dg t)))) []:=by
 refine enter ae Tryz.func301 rfl (by decide +kernel) rfl fun hok w0 σ0 φ0 M=>?_
 clear hok
 repeat' (first|refine wG ?_|(refine h1H ?_; (refine h5H ?_; refine aG J J J J (fun h=>?_) (fun h=>?_))))
 all_goals (try (((simp_all [dg,am,List.drop_eq_nil_of_le]) <;> exact wL); done))
theorem Jf(l : D)(t : Int) : CallA Tryz.prog 357 [.one (.d l),.one (.d (.ptr [.int .i64 t]))] [] (.one (.d (.int .i64 t))) []:=by
 refine enter ae Tryz.func357 rfl (by decide +kernel) rfl fun hok w0 σ0 φ0 M=>?_
 clear hok
 repeat' (first|refine wG ?_)
 all_goals (try (((simp_all [am,List.drop_eq_nil_of_le]) <;> exact wL); done))
theorem M6(l : List Int)(hl : 1≤l.length) : CallA Tryz.prog 303 [.one (.d (aL l))] [] (.one (.d (.int .i64 (if at_ l 0 = 1 then 1 else 0)))) []:=by
 refine enter ae Tryz.func303 rfl (by decide +kernel) rfl fun hok w0 σ0 φ0 M=>?_
 clear hok
 repeat' (first|refine wG ?_|(refine h4H ?_; refine ag J (fun h=>?_) (fun h=>?_)))
 all_goals (try (((simp_all [am,List.drop_eq_nil_of_le]) <;> exact wL); done))
theorem xQ(l : List Int)(hl : 2≤l.length) : CallA Tryz.prog 307 [.one (.d (aL l))] [] (.one (.d (.int .i64 (b8 (at_ l ((l.length : Int) - 2).toNat) (at_ l ((l.length : Int) - 1).toNat))))) []:=by
 refine enter ae Tryz.func307 rfl (by decide +kernel) rfl fun hok w0 σ0 φ0 M=>?_
 have h1:=hok.1.sl.1; clear hok; simp only [List.length_map] at h1
 repeat' (first|(refine h1H ?_; (refine h0H ?_; refine aa J J J J J J J J (FC _) J ?_))|refine wG ?_|(refine h1H ?_; (refine h5H ?_; refine aG J J J J (fun h=>?_) (fun h=>?_)))|(refine h4H ?_; refine ag J (fun h=>?_) (fun h=>?_)))
 all_goals (try (((simp_all [b8,am,List.drop_eq_nil_of_le]) <;> exact wL); done))
theorem Jg(l : List Int)(hl : 1≤l.length) : CallA Tryz.prog 300 [.one (.d (aL l))] [] (.one (.d (.int .i64 (if dg (at_ l 0) then at_ l 0 else 0)))) []:=by
 refine enter ae Tryz.func300 rfl (by decide +kernel) rfl fun hok w0 σ0 φ0 M=>?_
 clear hok
 repeat' (first|(refine h1H ?_; (refine h0H ?_; refine aa J J J J J J J J (FC _) J ?_))|refine wG ?_|(refine h4H ?_; refine ag J (fun h=>?_) (fun h=>?_)))
 all_goals (try (((simp_all [am,List.drop_eq_nil_of_le]) <;> exact wL); done))
theorem BK(l : List Int)(hl : 2≤l.length) : CallA Tryz.prog 305 [.one (.d (aL l))] [] (.one (.d (.int .i64 (if dg (at_ l 0) then b8 (at_ l ((l.length : Int) - 2).toNat) (at_ l ((l.length : Int) - 1).toNat) else 0)))) []:=by
 refine enter ae Tryz.func305 rfl (by decide +kernel) rfl fun hok w0 σ0 φ0 M=>?_
 clear hok
 repeat' (first|(refine h1H ?_; (refine h0H ?_; first|refine aa J J J J J J J J (FC _) J ?_|refine aa J J J J J J J J (xQ _ (by omega)) J ?_))|refine wG ?_|(refine h4H ?_; refine ag J (fun h=>?_) (fun h=>?_)))
 all_goals (try (((simp_all [am,List.drop_eq_nil_of_le]) <;> exact wL); done))
theorem M7(l : List Int)(hl : 2≤l.length) : CallA Tryz.prog 306 [.one (.d (aL l))] [] (.one (.d (.int .i64 (if at_ l 0 = 1 then b8 (at_ l ((l.length : Int) - 2).toNat) (at_ l ((l.length : Int) - 1).toNat) else 0)))) []:=by
 refine enter ae Tryz.func306 rfl (by decide +kernel) rfl fun hok w0 σ0 φ0 M=>?_
 clear hok
 repeat' (first|(refine h1H ?_; (refine h0H ?_; refine aa J J J J J J J J (xQ _ (by omega)) J ?_))|refine wG ?_|(refine h4H ?_; refine ag J (fun h=>?_) (fun h=>?_)))
 all_goals (try (((simp_all [am,List.drop_eq_nil_of_le]) <;> exact wL); done))
theorem M8(l : List Int)(hl : 2≤l.length) : CallA Tryz.prog 304 [.one (.d (aL l))] [] (.one (.d (.int .i64 (if (if dg (at_ l 0) then b8 (at_ l ((l.length : Int) - 2).toNat) (at_ l ((l.length : Int) - 1).toNat) else 0) = 0 then 0 else 3)))) []:=by
 refine enter ae Tryz.func304 rfl (by decide +kernel) rfl fun hok w0 σ0 φ0 M=>?_
 clear hok
 repeat' (first|(refine h1H ?_; (refine h0H ?_; refine aa J J J J J J J J (BK _ (by omega)) J ?_))|refine wG ?_|(refine h4H ?_; refine ag J (fun h=>?_) (fun h=>?_)))
 all_goals (try (((simp_all [am,List.drop_eq_nil_of_le]) <;> exact wL); done))
theorem ut(l : List Int)(hl : 2≤l.length) : CallA Tryz.prog 363 [.one (.d (aL l))] [] (.one (.d (.int .i64 (if b8 (at_ l ((l.length : Int) - 2).toNat) (at_ l ((l.length : Int) - 1).toNat) = 0 then 0 else 1)))) []:=by
 refine enter ae Tryz.func363 rfl (by decide +kernel) rfl fun hok w0 σ0 φ0 M=>?_
 clear hok
 repeat' (first|(refine h1H ?_; (refine h0H ?_; refine aa J J J J J J J J (xQ _ (by omega)) J ?_))|refine wG ?_|(refine h4H ?_; refine ag J (fun h=>?_) (fun h=>?_)))
 all_goals (try (((simp_all [am,List.drop_eq_nil_of_le]) <;> exact wL); done))
theorem HF{l : List Int}(h : OkD (aL l)){i : Nat}(hi : i < l.length) : -9223372036854775808≤at_ l i∧at_ l i≤9223372036854775807 :=
 OkD.i64 ((h.sl.2.2 (bD (at_ l i)) (List.mem_map_of_mem (bM hi))).2 (.int .i64 (at_ l i)) (by simp [bD]))
theorem Jh(l : List Int)(hl : 2≤l.length) : CallA Tryz.prog 366 [.one (.d (aL l))] [] (.one (.d (.int .i64 (if at_ l 0 = 1 then b8 (at_ l ((l.length : Int) - 2).toNat) (at_ l ((l.length : Int) - 1).toNat) else 0)))) []:=by
 refine enter ae Tryz.func366 rfl (by decide +kernel) rfl fun hok w0 σ0 φ0 M=>?_
 have hs : -9223372036854775808≤b8 (at_ l ((l.length : Int) - 2).toNat) (at_ l ((l.length : Int) - 1).toNat)∧b8 (at_ l ((l.length : Int) - 2).toNat) (at_ l ((l.length : Int) - 1).toNat)≤9223372036854775807:=by
  have:=HF hok.1 (i:=((l.length : Int) - 2).toNat) (by omega)
  unfold b8; split
  ·exact this
  ·split <;> omega
 clear hok
 repeat' (first|(refine h1H ?_; (refine h0H ?_; refine aa J J J J J J J J (xQ _ (by omega)) J ?_))|refine wG ?_|(refine h4H ?_; refine ag J (fun h=>?_) (fun h=>?_)))
 all_goals (try (((simp_all [am,List.drop_eq_nil_of_le]) <;> exact wL); done))
theorem M9(l : List Int)(hl : 1≤l.length) : CallA Tryz.prog 302 [.one (.d (aL l)),.one (.d (.ptr [.fn 300 []]))] [] (.one (.d (.int .i64 (min (if dg (at_ l 0) then at_ l 0 else 0) 2)))) []:=by
 refine enter ae Tryz.func302 rfl (by decide +kernel) rfl fun hok w0 σ0 φ0 M=>?_
 clear hok
 repeat' (first|(refine h1H ?_; (refine h0H ?_; refine aa J J J J J J J J (Jg l hl) J ?_))|refine wG ?_)
 all_goals (try (((simp_all [am,List.drop_eq_nil_of_le]) <;> exact wL); done))
end Go.Proofs.YtpejdgkaapnekaaGreat
