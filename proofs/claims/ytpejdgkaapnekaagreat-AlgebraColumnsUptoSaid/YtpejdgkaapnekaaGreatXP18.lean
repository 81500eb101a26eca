import Derived.Test.YtpejdgkaapnekaaGreatXP16
import Derived.Test.YtpejdgkaapnekaaGreatXE1
import Derived.Test.YtpejdgkaapnekaaGreatXP12
import Derived.Test.YtpejdgkaapnekaaGreatXP15
import Derived.Test.YtpejdgkaapnekaaGreatXP13
import Derived.Test.YtpejdgkaapnekaaGreatXP14
set_option linter.unusedVariables false
set_option linter.unusedSimpArgs false
set_option maxHeartbeats 1000000
namespace Go.Proofs.YtpejdgkaapnekaaGreat
open Go Go.Abs
attribute [local irreducible] ae OkC ar aA av aN
set_option maxRecDepth 10000
def lK(t : Int) : Bool:=decide (1≤t) && decide (t≤4)
def bM(op : Int)(l : List Int) : Int×Int :=
 if l.all lK then (if cF op (at_ l 0) (at_ l 1) (at_ l 2) = 0 then (0,12) else (cF op (at_ l 0) (at_ l 1) (at_ l 2),0)) else (0,2)
def ie(p : Int×Int) : AV:=.tup [(false,[.d (.int .i64 p.1)]),(false,[.d (.int .i64 p.2)])]
theorem QP(op : Int)(l : List Int)(hop : 4≤op∧op≤22)(hl : (l.length : Int) = dC op) : CallA Tryz.prog 178 [.one (.d (.int .i64 op)),.one (.d (aM l))] [] (ie (bM op l)) []:=by
 have ha : (dC op == 0) = false:=by unfold dC; simp; omega
 have hn : (((l.map bJ).length : Int) != dC op) = false:=by simp [hl]
 refine enter af Tryz.func178 rfl (by decide +kernel) rfl fun hok w0 σ0 φ0 M=>?_
 have h1:=hok.2.1.sl.1; clear hok; simp only [List.length_map] at h1
 repeat' (first|(refine h1H ?_; (refine h0H ?_; first|refine aa J J J J J J J J (fR _) J ?_|refine aa J J J J J J J J (QQ _ _ hop hl) J ?_))|refine wG ?_|(refine h1H ?_; (refine h5H ?_; refine aJ J J J J (fun h=>?_) (fun h=>?_)))|(refine h4H ?_; first|refine ah J (fun h=>?_) (fun h=>?_)|refine aH 4 J [(0,_),(1,_)] (q2Q J J) (fun (k : Nat)=>[(6,.one (.d (.int .i64 k)))]) (fun (k : Nat)=>k≤l.length∧l.all lK = (l.drop k).all lK) (fun (k : Nat)=>l.length - k) 0 (q1Q J) ?_ (fun k ⟨hk,hs⟩=>?_))|(show Exists _; refine Exists.intro (k + 1) ⟨?_,?_,wK,(q1Q J),(q2Q J J)⟩))
 all_goals clear ha hn hl hop
 all_goals (try (((simp_all [bM,lK,ie,ao,List.drop_eq_nil_of_le]) <;> exact wL); done))
theorem eO(op : Int)(l : List Int)(n : Int)(k d : D)(f : FuncId)(caps : List D)(b : Bool)
  (h226 : CallA Tryz.prog 226 [.one (.d (.int .i64 op)),.one (.d (.int .i64 (l.map bJ).length))] [] (.tup [(true,[.d (.int .i64 n),.d k,.d (.fn f caps),.d (.bool b),.d d]),(false,[.d (.bool true)])]) [])
  (hf : CallA Tryz.prog f (.one (.d (aM l))::caps.map fun x=>.one (.d x)) [] (.one (.d (.int .i64 (cF op (at_ l 0) (at_ l 1) (at_ l 2))))) []) :
  CallA Tryz.prog 175 [.one (.d (.int .i64 op)),.one (.d (aM l))] [] (ie (bM op l)) []:=by
 refine enter af Tryz.func175 rfl (by decide +kernel) rfl fun hok w0 σ0 φ0 M=>?_
 have h1:=hok.2.1.sl.1; clear hok; simp only [List.length_map] at h1
 repeat' (first|(refine h1H ?_; (refine h0H ?_; first|refine aa J J J J J J J J (hf) J ?_|refine az 16 J J J J J J J J (h226) J J J ?_))|refine wG ?_|(refine h1H ?_; (refine h5H ?_; refine aJ J J J J (fun h=>?_) (fun h=>?_)))|(refine h4H ?_; first|refine ah J (fun h=>?_) (fun h=>?_)|refine aH 5 J [(1,_),(6,_),(20,_),(21,_)] (q4Q J J J J) (fun (k : Nat)=>[(22,.one (.d (.int .i64 k)))]) (fun (k : Nat)=>k≤l.length∧l.all lK = (l.drop k).all lK) (fun (k : Nat)=>l.length - k) 0 (q1Q J) ?_ (fun k ⟨hk,hs⟩=>?_))|(show Exists _; refine Exists.intro (k + 1) ⟨?_,?_,wK,(q1Q J),(q4Q J J J J)⟩))
 all_goals (try (((simp_all [bM,lK,ie,ao,List.drop_eq_nil_of_le]) <;> exact wL); done))
end Go.Proofs.YtpejdgkaapnekaaGreat
namespace Go.Proofs.YtpejdgkaapnekaaGreat
open Go Go.Abs
theorem bW{l : List Int}(h : (l.length : Int) = 2) : ((l.length : Int) - 2).toNat = 0∧((l.length : Int) - 1).toNat = 1:=by omega
theorem xD{l : List Int}(h : (l.length : Int) = 3) : ((l.length : Int) - 2).toNat = 1∧((l.length : Int) - 1).toNat = 2:=by omega
theorem kx{a b : Int} : (if du a = true then cv a b else 0) = if du a = true∧du b = true then cv a b else 0:=by
 unfold cv
 by_cases ha : du a = true <;> by_cases hb : du b = true <;> simp [ha,hb]
 intro h; subst h; exact absurd ha hb
theorem Em{a b : Int}(ha : du a = true)(hb : du b = true) : cv a b≠0:=by
 have h0 : a≠0:=by rintro rfl; simp [du] at ha
 unfold cv; split
 ·exact h0
 ·simp [ha,hb]
theorem Qr(op : Int)(l : List Int)(hop : 4≤op∧op≤22)(hl : (l.length : Int) = dC op) : CallA Tryz.prog 175 [.one (.d (.int .i64 op)),.one (.d (aM l))] [] (ie (bM op l)) []:=by
 have hlen : ∀ n : Int,(l.length : Int) = n→(((l.map bJ).length : Nat) : Int) = n:=by intro n h; simpa using h
 have go : ∀ {f : FuncId} {caps : List D} {t t' : Int},CallA Tryz.prog f (.one (.d (aM l))::caps.map fun x=>.one (.d x)) [] (.one (.d (.int .i64 t))) []→t = t'→CallA Tryz.prog f (.one (.d (aM l))::caps.map fun x=>.one (.d x)) [] (.one (.d (.int .i64 t'))) []:=by
  intro f caps t t' h e; rwa [e] at h
 rcases pJ hop with rfl | rfl | rfl | rfl | rfl | rfl | rfl | rfl | rfl | rfl | rfl | rfl | rfl | rfl | rfl | rfl | rfl | rfl | rfl <;> simp [dC] at hl
 ·exact eO _ _ _ _ _ _ _ _ (by rw [hlen 1 (by omega)]; exact F4) (go (caps:=[]) (PB l (by omega)) (by simp [cF]))
 ·exact eO _ _ _ _ _ _ _ _ (by rw [hlen 1 (by omega)]; exact F5) (go (caps:=[]) (K6 l (by omega)) (by simp [cF]))
 ·exact eO _ _ _ _ _ _ _ _ (by rw [hlen 1 (by omega)]; exact F6) (go (caps:=[.ptr [.fn 300 []]]) (PE l (by omega)) (by
   simp only [cF]
   by_cases h : du (at_ l 0) = true
   ·simp [h]
    simp [du] at h
    omega
   ·simp [h]; rfl))
 ·exact eO _ _ _ _ _ _ _ _ (by rw [hlen 1 (by omega)]; exact F7) (go (caps:=[.ptr [.int .i64 1]]) (K5 (aM l) 1) (by simp [cF]))
 ·exact eO _ _ _ _ _ _ _ _ (by rw [hlen 1 (by omega)]; exact F8) (go (caps:=[.ptr [.int .i64 2]]) (K5 (aM l) 2) (by simp [cF]))
 ·exact eO _ _ _ _ _ _ _ _ (by rw [hlen 2 (by omega)]; exact F9) (go (caps:=[]) (Du l (by omega)) (by rw [(bW hl).1,(bW hl).2,kx]; simp [cF]))
 ·exact eO _ _ _ _ _ _ _ _ (by rw [hlen 2 (by omega)]; exact Cc) (go (caps:=[]) (Du l (by omega)) (by rw [(bW hl).1,(bW hl).2,kx]; simp [cF]))
 ·exact eO _ _ _ _ _ _ _ _ (by rw [hlen 2 (by omega)]; exact Cd) (go (caps:=[]) (Du l (by omega)) (by rw [(bW hl).1,(bW hl).2,kx]; simp [cF]))
 ·exact eO _ _ _ _ _ _ _ _ (by rw [hlen 2 (by omega)]; exact Ce) (go (caps:=[]) (PD l (by omega)) (by
   rw [(bW hl).1,(bW hl).2,kx]
   by_cases h : du (at_ l 0) = true∧du (at_ l 1) = true
   ·rw [if_pos h,if_neg (Em h.1 h.2)]; simp [cF,h]
   ·rw [if_neg h]; simp [cF]; intro a; cases hb : du (at_ l 1) with | false=>rfl | true=>exact absurd ⟨a,hb⟩ h))
 ·exact eO _ _ _ _ _ _ _ _ (by rw [hlen 2 (by omega)]; exact Cf) (go (caps:=[]) (vI l (by omega)) (by rw [(bW hl).1,(bW hl).2]; simp [cF]))
 ·exact eO _ _ _ _ _ _ _ _ (by rw [hlen 2 (by omega)]; exact Cg) (go (caps:=[]) (vI l (by omega)) (by rw [(bW hl).1,(bW hl).2]; simp [cF]))
 ·exact eO _ _ _ _ _ _ _ _ (by rw [hlen 2 (by omega)]; exact Ch) (go (caps:=[]) (vI l (by omega)) (by rw [(bW hl).1,(bW hl).2]; simp [cF]))
 ·exact eO _ _ _ _ _ _ _ _ (by rw [hlen 2 (by omega)]; exact Ci) (go (caps:=[]) (vI l (by omega)) (by rw [(bW hl).1,(bW hl).2]; simp [cF]))
 ·exact eO _ _ _ _ _ _ _ _ (by rw [hlen 2 (by omega)]; exact Cj) (go (caps:=[]) (vI l (by omega)) (by rw [(bW hl).1,(bW hl).2]; simp [cF]))
 ·exact eO _ _ _ _ _ _ _ _ (by rw [hlen 2 (by omega)]; exact Ck) (go (caps:=[]) (vI l (by omega)) (by rw [(bW hl).1,(bW hl).2]; simp [cF]))
 ·exact eO _ _ _ _ _ _ _ _ (by rw [hlen 2 (by omega)]; exact Cl) (go (caps:=[]) (K7 l (by omega)) (by
   rw [(bW hl).1,(bW hl).2]
   by_cases h : at_ l 0 = 1 <;> by_cases h2 : at_ l 1 = 1 <;> simp [cF,cv,h,h2,du]
   intro e; omega))
 ·exact eO _ _ _ _ _ _ _ _ (by rw [hlen 2 (by omega)]; exact Cn) (go (caps:=[]) (K7 l (by omega)) (by
   rw [(bW hl).1,(bW hl).2]
   by_cases h : at_ l 0 = 1 <;> by_cases h2 : at_ l 1 = 1 <;> simp [cF,cv,h,h2,du]
   intro e; omega))
 ·exact eO _ _ _ _ _ _ _ _ (by rw [hlen 2 (by omega)]; exact Co) (go (caps:=[]) (zi l (by omega)) (by rw [(bW hl).1,(bW hl).2]; simp [cF]))
 ·exact eO _ _ _ _ _ _ _ _ (by rw [hlen 3 (by omega)]; exact Cp) (go (caps:=[]) (PC l (by omega)) (by rw [(xD hl).1,(xD hl).2]; simp [cF]))
end Go.Proofs.YtpejdgkaapnekaaGreat
namespace Go.Proofs.YtpejdgkaapnekaaGreat
open Go Go.Abs
attribute [local irreducible] ae OkC ar aA av aN
set_option maxRecDepth 10000
def rY(k n d : Int)(s : List UInt8) : Int:=if js k n d s 1 then 1 else if js k n d s 2 then 2 else if js k n d s 3 then 3 else 4
theorem Qq(k n d : Int)(s : List UInt8) : CallA Tryz.prog 174 [.agg [.d (.int .i64 k),.d (.int .i64 n),.d (.int .i64 d),.d (.str s)]] [] (.one (.d (.int .i64 (rY k n d s)))) []:=by
 refine enter af Tryz.func174 rfl (by decide +kernel) rfl fun hok w0 σ0 φ0 M=>?_
 clear hok
 repeat' (first|(refine h1H ?_; (refine h0H ?_; refine aa J J J J J J J J (KO _ _ _ _ _) J ?_))|refine wG ?_|(refine h4H ?_; first|refine ah J (fun h=>?_) (fun h=>?_)|refine qV 2 J 4 ?_))
 all_goals (try (((simp_all [rY,ao,List.drop_eq_nil_of_le]) <;> exact wL); done))
end Go.Proofs.YtpejdgkaapnekaaGreat
namespace Go.Proofs.YtpejdgkaapnekaaGreat
open Go Go.Abs
def atI(ats : List Attr)(name : List UInt8) : Int:=aL (fun a : Attr=>a.name == name) ats 0
def lZ(ds : List Dim)(name : List UInt8) : Int:=aL (fun a : Dim=>a.name == name) ds 0
def jo(ats : List Attr)(name : List UInt8) : Int×Int:=if atI ats name < 0 then (0,11) else ((at_ ats (atI ats name).toNat).type,0)
def ly(ds : List Dim)(name : List UInt8) : Int×Int:=if lZ ds name < 0 then (0,11) else (2,0)
mutual
def cy(cst : Val→Int)(ds : List Dim)(ats : List Attr) : Scalar→Int×Int
 | .mk o n v a=>if o = 1 then (cst v,0) else if o = 2 then jo ats n else if o = 3 then ly ds n else
   match cb cst ds ats a with
   | .inl e=>(0,e)
   | .inr l=>bM o l
def cb(cst : Val→Int)(ds : List Dim)(ats : List Attr) : List Scalar→Sum Int (List Int)
 | []=>.inr []
 | x::r=>if (cy cst ds ats x).2≠0 then .inl (cy cst ds ats x).2 else
   match cb cst ds ats r with
   | .inl e=>.inl e
   | .inr l=>.inr ((cy cst ds ats x).1::l)
end
theorem kU{cst : Val→Int}{ds : List Dim}{ats : List Attr} : ∀ {s : Scalar},cy cst ds ats s = if s.op = 1 then (cst s.val,0) else if s.op = 2 then jo ats s.name else if s.op = 3 then ly ds s.name else
  match cb cst ds ats s.args with
  | .inl e=>(0,e)
  | .inr l=>bM s.op l
 | .mk _ _ _ _=>by simp only [cy,Scalar.op,Scalar.name,Scalar.val,Scalar.args]; rfl
theorem xk{cst : Val→Int}{ds : List Dim}{ats : List Attr} : ∀ {a : List Scalar} {l : List Int},cb cst ds ats a = .inr l→l.length = a.length
 | [],l,h=>by simp [cb] at h; subst h; rfl
 | x::r,l,h=>by
   simp only [cb] at h
   split at h
   ·cases h
   ·split at h
    ·cases h
    ·rename_i l2 h2
     cases h
     simp [xk h2]
def dF(v : Val) : Int:=rY v.kind v.num v.den v.str
def gV(v : Val) : Int:=if v.kind = 1 then 1 else if v.kind = 3 then 4 else if v.den = 1 then 2 else 3
theorem Lk{v : Val}(h : dK v.kind v.num v.den v.str = true)(h0 : v.kind≠0) : dF v = gV v:=by
 have hf : ∀ t,js v.kind v.num v.den v.str t = (decide (1≤t) && (decide (t≤4) && (if v.kind = 0 then true else if v.kind = 1 then t == 1 else if v.kind = 2 then t == 3 || t == 2 && v.den == 1 else t == 4))):=by
  intro t; unfold js; rw [h,Bool.true_and]
 have hk : v.kind = 1∨v.kind = 2∨v.kind = 3:=by
  unfold dK at h
  by_cases h1 : v.kind = 1
  ·exact .inl h1
  ·by_cases h2 : v.kind = 2
   ·exact .inr (.inl h2)
   ·by_cases h3 : v.kind = 3
    ·exact .inr (.inr h3)
    ·simp [h0,h1,h2,h3] at h
 unfold dF gV rY
 rw [hf,hf,hf]
 rcases hk with hk | hk | hk <;> rw [hk] <;> simp
 all_goals (by_cases hd : v.den = 1 <;> simp [hd])
theorem xl{f g : Val→Int}{ds : List Dim}{ats : List Attr} : ∀ {l : List Scalar},(∀ x∈l,cy f ds ats x = cy g ds ats x)→cb f ds ats l = cb g ds ats l
 | [],_=>rfl
 | x::r,h=>by
   simp only [cb,h x (by simp),xl fun y hy=>h y (List.mem_cons_of_mem _ hy)]
theorem gz : ∀ {l : List Scalar},iF l = true→∀ x∈l,dc x = true
 | [],_,x,h=>by simp at h
 | y::r,h,x,hx=>by
   simp only [iF,Bool.and_eq_true] at h
   rcases List.mem_cons.1 hx with rfl | hx
   ·exact h.1
   ·exact gz h.2 x hx
theorem DA{s : Scalar}(h : df s = true)(ho : s.op = 1) : dK s.val.kind s.val.num s.val.den s.val.str = true∧s.val.kind≠0:=by
 unfold df at h
 rw [if_pos ho] at h
 simp only [Bool.and_eq_true,Bool.not_eq_true',beq_eq_false_iff_ne] at h
 exact ⟨h.1,h.2.1⟩
theorem Hv{ds : List Dim}{ats : List Attr}(s : Scalar) : dc s = true→cy dF ds ats s = cy gV ds ats s:=by
 induction s using Scalar.ind with
 | h s ih =>
   intro h
   rw [gp,Bool.and_eq_true] at h
   rw [kU,kU,xl (f:=dF) (g:=gV) fun x hx=>ih x hx (gz h.2 x hx)]
   by_cases ho : s.op = 1
   ·rw [if_pos ho,if_pos ho]
    obtain ⟨h1,h2⟩:=DA h.1 ho
    rw [Lk h1 h2]
   ·rw [if_neg ho,if_neg ho]
theorem jR{s : Scalar}(h : df s = true)(h1 : s.op≠1)(h2 : s.op≠2)(h3 : s.op≠3) : (4≤s.op∧s.op≤22)∧(s.args.length : Int) = dC s.op:=by
 unfold df at h
 rw [if_neg h1,if_neg (by rintro (h | h); exact h2 h; exact h3 h)] at h
 simp only [Bool.and_eq_true,decide_eq_true_eq,beq_iff_eq] at h
 refine ⟨?_,h.2.2.2⟩
 have:=h.1
 unfold dC at this
 omega
def F88(ds : List Dim)(ats : List Attr)(a : List Int×Bool×Int)(x : Scalar) : Bool×(List Int×Bool×Int) :=
 let push:=fun (l : List Int) (p : Int×Int)=>if p.2≠0 then (false,(a.1,true,p.2)) else (true,(l ++ [p.1],false,(0 : Int)))
 if x.op = 1 then push a.1 (dF x.val,0) else if x.op = 2 then push a.1 (jo ats x.name) else if x.op = 3 then push a.1 (ly ds x.name) else
  push (a.1.take (a.1.length - x.args.length)) (bM x.op (a.1.drop (a.1.length - x.args.length)))
def pF(a : List Int×Bool×Int)(x : Scalar) : Prop:=a.2.1 = false∧a.2.2 = 0∧df x = true∧a.1.length≤64∧(4≤x.op→x.args.length≤a.1.length)
theorem mach_list{ds : List Dim}{ats : List Attr} : ∀ {r : List Scalar},
  (∀ x∈r,∀ l : List Int,l.length + (aY x).length≤65→da (F88 ds ats) pF (aY x) (l,false,0)∧(if (cy dF ds ats x).2 = 0 then bC (F88 ds ats) (aY x) (l,false,0) = (true,(l ++ [(cy dF ds ats x).1],false,0)) else ∃ l',bC (F88 ds ats) (aY x) (l,false,0) = (false,(l',true,(cy dF ds ats x).2)))) →
  ∀ l : List Int,l.length + (aT r).length≤65→da (F88 ds ats) pF (aT r) (l,false,0)∧(match cb dF ds ats r with
    | .inr ts=>bC (F88 ds ats) (aT r) (l,false,0) = (true,(l ++ ts,false,0))
    | .inl e=>e≠0∧∃ l',bC (F88 ds ats) (aT r) (l,false,0) = (false,(l',true,e)))
 | [],_,l,hl=>⟨trivial,by simp [cb,aT,bC]⟩
 | x::r,h,l,hl=>by
   have hp : 1≤(aY x).length:=by rw [dN]; simp
   simp only [aT,List.length_append] at hl
   obtain ⟨h1,h2⟩:=h x (by simp) l (by omega)
   simp only [aT,cb]
   by_cases hz : (cy dF ds ats x).2 = 0
   ·rw [if_pos hz] at h2
    have ih:=mach_list (r:=r) (fun y hy=>h y (List.mem_cons_of_mem _ hy)) (l ++ [(cy dF ds ats x).1]) (by simp; omega)
    rw [fb,h2]
    simp only [if_true,hz,ne_eq,not_true_eq_false,if_false]
    refine ⟨okRun_of_app h1 (fun _=>by rw [h2]; exact ih.1),?_⟩
    have ih2:=ih.2
    cases ht : cb dF ds ats r with
    | inl e=>rw [ht] at ih2; exact ih2
    | inr ts=>rw [ht] at ih2; simpa using ih2
   ·rw [if_neg hz] at h2
    obtain ⟨l',h2⟩:=h2
    rw [fb,h2]
    simp only [Bool.false_eq_true,if_false,hz,ne_eq,not_false_eq_true,if_true]
    exact ⟨okRun_of_app h1 (fun h=>by rw [h2] at h; cases h),trivial,l',rfl⟩
where
 okRun_of_app : ∀ {l m : List Scalar} {a : List Int×Bool×Int},da (F88 ds ats) pF l a→((bC (F88 ds ats) l a).1 = true→da (F88 ds ats) pF m (bC (F88 ds ats) l a).2)→da (F88 ds ats) pF (l ++ m) a
  | [],_,_,_,h=>h rfl
  | x::l,m,a,h1,h2=>by
    simp only [List.cons_append,da] at h1 ⊢
    refine ⟨h1.1,fun hx=>okRun_of_app (h1.2 hx) fun h=>?_⟩
    have e : bC (F88 ds ats) (x::l) a = bC (F88 ds ats) l (F88 ds ats a x).2:=by simp only [bC]; rw [if_pos hx]
    rw [e] at h2; exact h2 h
theorem me : ∀ {r : List Scalar},r.length≤(aT r).length
 | []=>Nat.le_refl _
 | x::r=>by
   have:=me (r:=r)
   have hp : 1≤(aY x).length:=by rw [dN]; simp
   simp only [aT,List.length_append,List.length_cons]; omega
theorem tB{s : Scalar}(h : df s = true)(h3 : s.op = 1∨s.op = 2∨s.op = 3) : s.args = []:=by
 have : s.args.length = 0:=by
  unfold df at h
  by_cases h1 : s.op = 1
  ·rw [if_pos h1] at h
   simp only [Bool.and_eq_true,beq_iff_eq] at h
   omega
  ·rw [if_neg h1,if_pos (by omega)] at h
   simp only [Bool.and_eq_true,beq_iff_eq] at h
   omega
 exact List.length_eq_zero_iff.1 this
theorem P6{ds : List Dim}{ats : List Attr}(s : Scalar) : dc s = true→∀ l : List Int,l.length + (aY s).length≤65→da (F88 ds ats) pF (aY s) (l,false,0) ∧
  (if (cy dF ds ats s).2 = 0 then bC (F88 ds ats) (aY s) (l,false,0) = (true,(l ++ [(cy dF ds ats s).1],false,0)) else ∃ l',bC (F88 ds ats) (aY s) (l,false,0) = (false,(l',true,(cy dF ds ats s).2))):=by
 induction s using Scalar.ind with
 | h s ih =>
   intro hp l hl
   rw [gp,Bool.and_eq_true] at hp
   have hL:=mach_list (ds:=ds) (ats:=ats) (r:=s.args) (fun x hx l hl=>ih x hx (gz hp.2 x hx) l hl)
   rw [dN] at hl ⊢
   simp only [List.length_append,List.length_cons,List.length_nil] at hl
   by_cases h3 : s.op = 1∨s.op = 2∨s.op = 3
   ·have ha : s.args = []:=tB hp.1 h3
    have hok : pF (l,false,0) s:=⟨rfl,rfl,hp.1,by show l.length≤64; omega,fun h=>by omega⟩
    have hF : F88 ds ats (l,false,0) s = if (cy dF ds ats s).2≠0 then (false,(l,true,(cy dF ds ats s).2)) else (true,(l ++ [(cy dF ds ats s).1],false,0)):=by
     rw [kU]; simp only [F88]
     rcases h3 with h3 | h3 | h3 <;> simp [h3]
    rw [ha]
    simp only [aT,List.nil_append,da,bC]
    rw [hF]
    refine ⟨⟨hok,fun _=>trivial⟩,?_⟩
    by_cases hz : (cy dF ds ats s).2 = 0
    ·rw [if_pos hz]; simp [hz]
    ·rw [if_neg hz]; exact ⟨l,by simp [hz]⟩
   ·obtain ⟨hop,hlen⟩:=jR hp.1 (fun h=>h3 (.inl h)) (fun h=>h3 (.inr (.inl h))) (fun h=>h3 (.inr (.inr h)))
    obtain ⟨h4,h5⟩:=hL l (by omega)
    rw [kU,if_neg (fun h=>h3 (.inl h)),if_neg (fun h=>h3 (.inr (.inl h))),if_neg (fun h=>h3 (.inr (.inr h)))]
    cases ht : cb dF ds ats s.args with
    | inl e =>
      rw [ht] at h5
      obtain ⟨he,l',h5⟩:=h5
      refine ⟨mach_list.okRun_of_app h4 (fun h=>by rw [h5] at h; cases h),?_⟩
      simp only
      rw [if_neg he,fb,h5]
      exact ⟨l',by simp⟩
    | inr ts =>
      rw [ht] at h5
      simp only at h5
      have hts:=xk ht
      have hle:=me (r:=s.args)
      have hF : F88 ds ats (l ++ ts,false,0) s = if (bM s.op ts).2≠0 then (false,(l ++ ts,true,(bM s.op ts).2)) else (true,(l ++ [(bM s.op ts).1],false,0)):=by
       have hd : (l ++ ts).length - s.args.length = l.length:=by simp [hts]
       simp only [F88]
       rw [if_neg (fun h=>h3 (.inl h)),if_neg (fun h=>h3 (.inr (.inl h))),if_neg (fun h=>h3 (.inr (.inr h))),hd]
       simp
      refine ⟨mach_list.okRun_of_app h4 (fun _=>?_),?_⟩
      ·rw [h5]
       exact ⟨⟨rfl,rfl,hp.1,by simp; omega,fun _=>by simp [hts]⟩,fun _=>trivial⟩
      ·simp only
       rw [fb,h5]
       simp only [if_true,bC,hF]
       by_cases hz : (bM s.op ts).2 = 0
       ·rw [if_pos hz]; simp [hz]
       ·rw [if_neg hz]; exact ⟨l ++ ts,by simp [hz]⟩
theorem fL{α : Type}{p : α→Bool} : ∀ {l : List α} {k : Nat},0≤aL p l k→(k : Int)≤aL p l k∧aL p l k < k + l.length
 | [],k,h=>by simp [aL] at h
 | x::r,k,h=>by
   simp only [aL] at h ⊢
   split at h
   ·rename_i hx; rw [if_pos hx]; simp only [List.length_cons]; omega
   ·rename_i hx; rw [if_neg hx]
    have:=fL (l:=r) (k:=k + 1) h
    simp only [List.length_cons]; omega
theorem DB{o : Int}{l : List Int}(h : (bM o l).2≠0) : (bM o l).1 = 0:=by
 unfold bM at h ⊢
 by_cases h4 : l.all lK = true
 ·rw [if_pos h4] at h ⊢
  by_cases h5 : cF o (at_ l 0) (at_ l 1) (at_ l 2) = 0
  ·rw [if_pos h5]
  ·rw [if_neg h5] at h; simp at h
 ·rw [if_neg h4]
theorem Hw{cst : Val→Int}{ds : List Dim}{ats : List Attr}{s : Scalar}(h : (cy cst ds ats s).2≠0) : (cy cst ds ats s).1 = 0:=by
 rw [kU] at h ⊢
 split
 ·rename_i h1; rw [if_pos h1] at h; simp at h
 ·rename_i h1; rw [if_neg h1] at h
  split
  ·rename_i h2; rw [if_pos h2] at h; unfold jo at h ⊢; split <;> simp_all
  ·rename_i h2; rw [if_neg h2] at h
   split
   ·rename_i h3; rw [if_pos h3] at h; unfold ly at h ⊢; split <;> simp_all
   ·rename_i h3; rw [if_neg h3] at h
    cases ht : cb cst ds ats s.args with
    | inl e=>rfl
    | inr l=>rw [ht] at h; exact DB h
def ag : List Int→Int
 | []=>0
 | d::r=>d + 4294967296 * ag r
def Dg(l : List Int) : Prop:=∀ d∈l,0≤d∧d < 4294967296
def dig(n : Nat) : List Int:=if h : n = 0 then [] else ((n % 4294967296 : Nat) : Int)::dig (n / 4294967296)
 termination_by n
 decreasing_by omega
def pw(k : Nat) : Int:=4294967296 ^ k
theorem dg(k : Nat) : pw (k + 1) = 4294967296 * pw k:=by unfold pw; rw [Int.pow_succ,Int.mul_comm]
theorem mz : pw 0 = 1:=rfl
theorem eY(k : Nat) : 0 < pw k:=by
 induction k with
 | zero=>decide
 | succ k ih=>rw [dg]; omega
theorem ig(a b : Nat) : pw (a + b) = pw a * pw b:=by unfold pw; rw [Int.pow_add]
theorem kE : ∀ {a b : List Int},ag (a ++ b) = ag a + pw a.length * ag b
 | [],b=>by simp [ag,mz]
 | d::a,b=>by
   simp only [List.cons_append,ag,kE (a:=a) (b:=b),List.length_cons,dg,Int.mul_add,Int.mul_assoc]
   omega
theorem Dg.cons{d : Int}{r : List Int}(h : Dg (d::r)) : (0≤d∧d < 4294967296)∧Dg r:=⟨h d List.mem_cons_self,fun x hx=>h x (List.mem_cons_of_mem _ hx)⟩
theorem Dg.at{l : List Int}(h : Dg l){i : Nat}(hi : i < l.length) : 0≤at_ l i∧at_ l i < 4294967296:=h _ (bT hi)
theorem Dg.take{l : List Int}(h : Dg l)(n : Nat) : Dg (l.take n):=fun d hd=>h d (List.mem_of_mem_take hd)
theorem Dg.drop{l : List Int}(h : Dg l)(n : Nat) : Dg (l.drop n):=fun d hd=>h d (List.mem_of_mem_drop hd)
theorem dv : ∀ {l : List Int},Dg l→0≤ag l∧ag l < pw l.length
 | [],_=>by simp [ag,mz]
 | d::r,h=>by
   obtain ⟨h1,h2⟩:=h.cons
   have:=dv h2
   simp only [ag,List.length_cons,dg]
   omega
theorem fK : dig 0 = []:=by rw [dig]; simp
theorem lh{n : Nat}(h : n≠0) : dig n = ((n % 4294967296 : Nat) : Int)::dig (n / 4294967296):=by rw [dig]; simp [h]
theorem cE : ∀ (n : Nat),Dg (dig n)∧ag (dig n) = n∧(dig n = []∨at_ (dig n) ((dig n).length - 1)≠0):=by
 intro n
 induction n using Nat.strongRecOn with
 | _ n ih =>
   by_cases h : n = 0
   ·subst h; rw [fK]; exact ⟨fun d hd=>by simp at hd,rfl,.inl rfl⟩
   ·obtain ⟨i1,i2,i3⟩:=ih (n / 4294967296) (by omega)
    rw [lh h]
    refine ⟨fun d hd=>?_,?_,.inr ?_⟩
    ·rcases List.mem_cons.1 hd with rfl | hd
     ·omega
     ·exact i1 d hd
    ·simp only [ag,i2]; omega
    ·rcases i3 with i3 | i3
     ·rw [i3]
      have h0 : n / 4294967296 = 0:=by rw [i3] at i2; simp only [ag] at i2; omega
      show ((n % 4294967296 : Nat) : Int)≠0
      omega
     ·cases hd : dig (n / 4294967296) with
      | nil =>
        rw [hd] at i2; simp only [ag] at i2
        show ((n % 4294967296 : Nat) : Int)≠0
        omega
      | cons e r =>
        rw [hd] at i3
        show at_ (_::e::r) (r.length + 1)≠0
        exact i3
theorem tk : ∀ {l : List Int},Dg l→(l = []∨at_ l (l.length - 1)≠0)→dig (ag l).toNat = l
 | [],_,_=>by simp [ag,fK]
 | d::r,h,hl=>by
   obtain ⟨h1,h2⟩:=h.cons
   have hb:=(dv h2).1
   have hr : r = []∨at_ r (r.length - 1)≠0:=by
    cases r with
    | nil=>exact .inl rfl
    | cons e s=>exact .inr (by rcases hl with hl | hl; · cases hl
                               ·exact hl)
   have ih:=tk h2 hr
   have hne : ag (d::r)≠0:=by
    intro h0
    simp only [ag] at h0
    have hd : d = 0:=by omega
    have hz : ag r = 0:=by omega
    rw [hz] at ih
    have hr0 : r = []:=by rw [← ih]; simpa using fK
    subst hr0
    rcases hl with hl | hl
    ·cases hl
    ·exact hl hd
   have hn : (ag (d::r)).toNat≠0:=by simp only [ag] at hne ⊢; omega
   rw [lh hn]
   have e1 : (ag (d::r)).toNat / 4294967296 = (ag r).toNat:=by simp only [ag]; omega
   have e2 : (((ag (d::r)).toNat % 4294967296 : Nat) : Int) = d:=by simp only [ag]; omega
   rw [e1,e2,ih]
theorem z7{l : List Int}{k : Nat}(h : Dg l)(hk : k≤l.length)(hv : ag (l.take k) = ag l)(hl : k = 0∨at_ l (k - 1)≠0) : dig (ag l).toNat = l.take k:=by
 rw [← hv]
 refine tk (h.take k) ?_
 rcases hl with hl | hl
 ·subst hl; exact .inl (by simp)
 ·by_cases h0 : k = 0
  ·subst h0; exact .inl (by simp)
  ·refine .inr ?_
   rw [List.length_take,Nat.min_eq_left hk,tN (by omega)]
   exact hl
theorem bw{l : List Int}{k : Nat}(h : k < l.length) : ag (l.take (k + 1)) = ag (l.take k) + pw k * at_ l k:=by
 rw [ez h,kE,List.length_take,Nat.min_eq_left (by omega)]; simp [ag]
theorem wY{l : List Int}{k : Nat}(h : k < l.length)(h0 : at_ l k = 0) : ag (l.take (k + 1)) = ag (l.take k):=by rw [bw h,h0]; simp
theorem lj{l : List Int}{k : Nat}{x : Int}(h : k < l.length) : ag (l.set k x) = ag l + pw k * (x - at_ l k):=by
 induction l generalizing k with
 | nil=>simp at h
 | cons d r ih =>
   cases k with
   | zero=>simp only [List.set_cons_zero,ag,mz]; show _ = _ + 1 * (x - d); omega
   | succ k =>
     have:=ih (k:=k) (by simpa using h)
     simp only [List.set_cons_succ,ag,this,dg,Int.mul_add,Int.mul_assoc]
     show _ = _ + 4294967296 * (pw k * (x - at_ r k))
     omega
theorem Dg.set{l : List Int}{k : Nat}{x : Int}(h : Dg l)(hx : 0≤x∧x < 4294967296) : Dg (l.set k x):=fun d hd=>by
 rcases List.mem_or_eq_of_mem_set hd with hd | rfl
 ·exact h d hd
 ·exact hx
theorem Dg.zeros(n : Nat) : Dg (List.replicate n 0):=fun d hd=>by rw [List.eq_of_mem_replicate hd]; omega
theorem Ee(n : Nat) : ag (List.replicate n 0) = 0:=by
 induction n with
 | zero=>rfl
 | succ n ih=>simp [List.replicate_succ,ag,ih]
theorem Cb : ∀ {a b : List Int} {k : Nat},Dg a→Dg b→a.length = b.length→k < a.length→(∀ i,k < i→i < a.length→at_ a i = at_ b i)→at_ a k < at_ b k→ag a < ag b
 | x::a,y::b,k,ha,hb,hl,hk,he,h=>by
   obtain ⟨a1,a2⟩:=ha.cons
   obtain ⟨b1,b2⟩:=hb.cons
   have hl' : a.length = b.length:=by simpa using hl
   cases k with
   | zero =>
     have e : a = b:=lM hl' fun i hi=>he (i + 1) (by omega) (by simpa using hi)
     have h' : x < y:=h
     subst e; simp only [ag]; omega
   | succ k =>
     have:=Cb (k:=k) a2 b2 hl' (by simpa using hk) (fun i h1 h2=>he (i + 1) (by omega) (by simpa using h2)) h
     simp only [ag]; omega
 | [],_,k,_,_,_,hk,_,_=>by simp at hk
 | _::_,[],k,_,_,hl,_,_,_=>by simp at hl
theorem z8{a b : List Int}(ha : Dg a)(hb : Dg b)(hn : b = []∨at_ b (b.length - 1)≠0)(hl : a.length < b.length) : ag a < ag b:=by
 have h1:=(dv ha).2
 have hne : b≠[]:=fun e=>by rw [e] at hl; simp at hl
 have hn':=hn.resolve_left hne
 have h2 : ag b = ag (b.take (b.length - 1)) + pw (b.length - 1) * at_ b (b.length - 1):=by
  have:=bw (l:=b) (k:=b.length - 1) (by omega)
  rwa [show b.length - 1 + 1 = b.length by omega,List.take_length] at this
 have h3:=(dv (hb.take (b.length - 1))).1
 have h4 : 1≤at_ b (b.length - 1):=by have:=hb.at (i:=b.length - 1) (by omega); omega
 have h5 : pw a.length≤pw (b.length - 1):=by
  obtain ⟨m,hm⟩ : ∃ m,b.length - 1 = a.length + m:=⟨b.length - 1 - a.length,by omega⟩
  rw [hm,ig]
  have:=Int.mul_le_mul_of_nonneg_left (show 1≤pw m by have:=eY m; omega) (Int.le_of_lt (eY a.length))
  omega
 have h6:=Int.mul_le_mul_of_nonneg_left h4 (Int.le_of_lt (eY (b.length - 1)))
 omega
end Go.Proofs.YtpejdgkaapnekaaGreat
namespace Go.Abs
open Go
variable {V : Env} {st : St} {o : Oper}
theorem kL{t e : TypeId}{x y : Operand}{k k' b b' : Nat}{ik : IntKind}{h : Int}{xs : List (List D)}{z : List D}(ho : o.op = .slice t x none (some y) none)(ht : aW V.T t = some (e,k',b',z))(hx : ev st x = some (.one (.d (.sl k b xs))))(hy : ev st y = some (.one (.d (.int ik h))))
  (hk : Nat.beq k k' = true) (h0 : 0≤h) (hm : h.toNat≤xs.length) : aV V st o 0 = some ⟨.one (.d (.sl k b (xs.take h.toNat))),[],[]⟩:=by
 have e1 : Nat.ble h.toNat xs.length = true:=Nat.ble_eq.mpr hm
 have e0 : Nat.ble 0 h.toNat = true:=Nat.ble_eq.mpr (Nat.zero_le _)
 simp only [aV,cT,b6,ho,cD,ga,hx,hy,h0,decide_true,cond_true,gb,ht,hk,e0,e1,Bool.and_self,List.drop_zero]
theorem oB{t e : TypeId}{x y : Operand}{k k' b b' : Nat}{ik : IntKind}{h : Int}{xs : List (List D)}{z : List D}(ho : o.op = .slice t x (some y) none none)(ht : aW V.T t = some (e,k',b',z))(hx : ev st x = some (.one (.d (.sl k b xs))))(hy : ev st y = some (.one (.d (.int ik h))))
  (hk : Nat.beq k k' = true) (h0 : 0≤h) (hm : h.toNat≤xs.length) : aV V st o 0 = some ⟨.one (.d (.sl k b (xs.drop h.toNat))),[],[]⟩:=by
 have e1 : Nat.ble h.toNat xs.length = true:=Nat.ble_eq.mpr hm
 have e2 : Nat.ble xs.length xs.length = true:=Nat.ble_eq.mpr (Nat.le_refl _)
 simp only [aV,cT,b6,ho,cD,ga,hx,hy,h0,decide_true,cond_true,gb,ht,hk,e1,e2,Bool.and_self,List.take_length]
end Go.Abs
namespace Go.Proofs.YtpejdgkaapnekaaGreat
open Go Go.Abs
attribute [local irreducible] ae OkC ar aA av aN
set_option maxRecDepth 10000
def al(d : Int) : List D:=[.int .u32 d]
def cO(l : List Int) : D:=.sl 1 4 (l.map al)
def bu(n : Nat) : D:=cO (dig n)
theorem AH{l : List Int}{p2 : List (List D)}{k j : Nat}(hr : p2 = (l.map al).take k)(hk : k≤l.length)(hj : j < k) : p2[j]? = some (al (at_ l j)):=by
 rw [hr,List.getElem?_take_of_lt hj]; exact fy (by omega)
theorem Lb(l : List Int)(h : Dg l) : CallA Tryz.prog 374 [.one (.d (cO l))] [] (.one (.d (bu (ag l).toNat))) []:=by
 refine enter af Tryz.func374 rfl (by decide +kernel) rfl fun hok w0 σ0 φ0 M=>?_
 have h1:=(OkD.sl hok.1).1
 clear hok
 simp only [List.length_map] at h1
 repeat' (first|(refine h1H ?_; (refine h9H ?_; refine s_e au J J J (kL J J J J J wB wB) ?_))|(refine h1H ?_; (refine tt ?_; refine s_e au J J J (ch J J J J J wB (AH hr hk wB)) ?_))|refine wG ?_|(refine h1H ?_; (refine h5H ?_; refine aJ J J J J (fun h=>?_) (fun h=>?_)))|(refine h4H ?_; first|refine ah J (fun h=>?_) (fun h=>?_)|refine aH 1 J [] aZ (fun (p : Nat×List (List D))=>[(0,.one (.d (.sl 1 4 p.2)))]) (fun (p : Nat×List (List D))=>p.1≤l.length∧p.2.length = p.1∧p.2 = (l.map al).take p.1∧ag (l.take p.1) = ag l) (fun (p : Nat×List (List D))=>p.1) (l.length,l.map al) (q1Q J) ?_ (fun p ⟨hk,hq,hr,hv⟩=>?_))|(show Exists _; refine Exists.intro ((p.1 - 1,p.2.take (Int.toNat ((p.2.length : Int) - 1)))) ⟨?_,?_,wK,(q1Q J),aZ⟩))
 ·exact ⟨Nat.le_refl _,by simp,(List.take_of_length_le (by simp)).symm,by simp⟩
 ·have e : ((p.2.length : Int) - 1).toNat = p.1 - 1:=by omega
  have h0 : (0 : Int) < (p.2.length : Int):=of_decide_eq_true ‹decide (_ < _) = true›
  have hz:=wY (l:=l) (k:=p.1 - 1) (by omega) (by rw [← e]; simpa using h)
  rw [show p.1 - 1 + 1 = p.1 by omega] at hz
  refine ⟨by show p.1 - 1≤_; omega,?_,?_,?_⟩
  ·show (p.2.take _).length = p.1 - 1
   rw [e]; simp; omega
  ·show p.2.take _ = (l.map al).take (p.1 - 1)
   rw [e,hr,List.take_take,Nat.min_eq_left (by omega)]
  ·show ag (l.take (p.1 - 1)) = _
   rw [← hz,hv]
 ·have h0 : (0 : Int) < (p.2.length : Int):=of_decide_eq_true ‹decide (_ < _) = true›
  show p.1 - 1 < p.1
  omega
 ·have e : ((p.2.length : Int) - 1).toNat = p.1 - 1:=by omega
  show AV.one (.d (.sl 1 4 p.2)) = AV.one (.d (.sl 1 4 ((dig (ag l).toNat).map al)))
  rw [z7 ‹Dg l› hk hv (.inr (by rw [← e]; simpa using h)),hr,List.map_take]
 ·have h0 : ¬ (0 : Int) < (p.2.length : Int):=of_decide_eq_false (by simpa using h)
  show AV.one (.d (.sl 1 4 p.2)) = AV.one (.d (.sl 1 4 ((dig (ag l).toNat).map al)))
  rw [z7 ‹Dg l› hk hv (.inl (by omega)),hr,List.map_take]
theorem wA : dig 1 = [1]:=by rw [lh (by omega)]; simp [fK]
theorem Tg(n : Nat) : CallA Tryz.prog 379 [.one (.d (bu n))] [] (.one (.d (.bool (n == 1)))) []:=by
 obtain ⟨hD,hv,hl⟩:=cE n
 refine enter af Tryz.func379 rfl (by decide +kernel) rfl fun hok w0 σ0 φ0 M=>?_
 clear hok
 repeat' (first|refine wG ?_|(refine h1H ?_; (refine h5H ?_; refine aJ J J J J (fun h=>?_) (fun h=>?_))))
 ·have hlen : (dig n).length = 1:=by simp at h; omega
  match hd : dig n,hlen with
  | [d],_ =>
    rw [hd] at hv
    simp only [ag] at hv
    show AV.one (.d (.bool (d == 1))) = _
    have e : (d == 1) = (n == 1):=by
     rw [Bool.eq_iff_iff]; simp only [beq_iff_eq]; omega
    rw [e]
 ·have hlen : (dig n).length≠1:=fun e=>by simp [e] at h
  have e : (n == 1) = false:=by
   refine beq_false_of_ne fun hn=>hlen ?_
   rw [hn,wA]; rfl
  rw [e]
theorem nP{m n : Nat}(h : (dig m).length < (dig n).length) : m < n:=by
 obtain ⟨a1,a2,a3⟩:=cE m
 obtain ⟨b1,b2,b3⟩:=cE n
 have:=z8 a1 b1 b3 h
 omega
theorem CL{m n : Nat}{k : Nat}(hl : (dig m).length = (dig n).length)(hk : k < (dig m).length)(he : ∀ i,k < i→i < (dig m).length→at_ (dig m) i = at_ (dig n) i)(h : at_ (dig m) k < at_ (dig n) k) : m < n:=by
 obtain ⟨a1,a2,a3⟩:=cE m
 obtain ⟨b1,b2,b3⟩:=cE n
 have:=Cb a1 b1 hl hk he h
 omega
theorem Ii{m n : Nat}(hl : (dig m).length = (dig n).length)(he : ∀ i,i < (dig m).length→at_ (dig m) i = at_ (dig n) i) : m = n:=by
 have e : dig m = dig n:=List.ext_getElem hl fun i h1 h2=>by
  have:=he i h1
  simpa [at_,h1,h2] using this
 have a:=(cE m).2.1
 have b:=(cE n).2.1
 rw [e] at a
 omega
def iE(m n : Nat) : Int:=if m < n then -1 else if n < m then 1 else 0
theorem iT{m n : Nat}(h : m < n) : iE m n = -1:=if_pos h
theorem iU{m n : Nat}(h : n < m) : iE m n = 1:=by unfold iE; rw [if_neg (by omega),if_pos h]
theorem kS{m n : Nat}(h : m = n) : iE m n = 0:=by unfold iE; rw [if_neg (by omega),if_neg (by omega)]
theorem oS{a b : List Int}(h : (((a.map al).length : Int) != ((b.map al).length : Int)) = false) : a.length = b.length:=by simp at h; omega
theorem Gr{a b : List Int}(h : (((a.map al).length : Int) != ((b.map al).length : Int)) = true) : a.length≠b.length:=fun e=>by simp [e] at h
theorem Gq{a b : List Int}(h : decide (((a.map al).length : Int) < ((b.map al).length : Int)) = true) : a.length < b.length:=by simpa using h
theorem Gs{a b : List Int}(h : decide (((a.map al).length : Int) < ((b.map al).length : Int)) = false) : b.length≤a.length:=by simpa using h
theorem vK(m n : Nat) : CallA Tryz.prog 369 [.one (.d (bu m)),.one (.d (bu n))] [] (.one (.d (.int .i64 (iE m n)))) []:=by
 refine enter af Tryz.func369 rfl (by decide +kernel) rfl fun hok w0 σ0 φ0 M=>?_
 have h1:=(OkD.sl hok.1).1
 clear hok
 simp only [List.length_map] at h1
 repeat' (first|refine wG ?_|(refine h4H ?_; first|refine ah J (fun h=>?_) (fun h=>?_)|refine aH 6 J [(0,_),(1,_)] (q2Q J J) (fun (p : Int)=>[(5,.one (.d (.int .i64 p)))]) (fun (p : Int)=>-1≤p∧p < ((dig m).length : Int)∧(∀ i : Nat,p < (i : Int)→i < (dig m).length→at_ (dig m) i = at_ (dig n) i)) (fun (p : Int)=>(p + 1).toNat) ((((dig m).map al).length : Int) - 1) (q1Q J) ?_ (fun p ⟨hk,hk2,hs⟩=>?_))|(show Exists _; refine Exists.intro ((p - 1)) ⟨?_,?_,wK,(q1Q J),(q2Q J J)⟩))
 ·rw [iT (nP (Gq h))]
 ·rw [iU (nP (by
   have h2:=Gr ‹_›
   have:=Gs h; omega))]
 ·simp only [List.length_map]; exact ⟨by omega,by omega,fun i h2 h3=>by omega⟩
 ·have hl:=oS ‹_›
  have h0 : 0≤p:=of_decide_eq_true ‹decide (0≤p) = true›
  rw [iT (CL hl (k:=p.toNat) (by omega) (fun i h2 h3=>hs i (by omega) h3) (of_decide_eq_true h))]
 ·have hl:=oS ‹_›
  have h0 : 0≤p:=of_decide_eq_true ‹decide (0≤p) = true›
  have hne : at_ (dig m) p.toNat≠at_ (dig n) p.toNat:=by simpa using ‹(at_ (dig m) p.toNat != at_ (dig n) p.toNat) = true›
  have hle:=of_decide_eq_false h
  rw [iU (CL hl.symm (k:=p.toNat) (by omega) (fun i h2 h3=>(hs i (by omega) (by omega)).symm) (by omega))]
 ·have h0 : 0≤p:=of_decide_eq_true ‹decide (0≤p) = true›
  have he : at_ (dig m) p.toNat = at_ (dig n) p.toNat:=by simpa using h
  refine ⟨by omega,by omega,fun i h2 h3=>?_⟩
  rcases Int.lt_or_le p (i : Int) with h4 | h4
  ·exact hs i h4 h3
  ·have : i = p.toNat:=by omega
   rw [this,he]
 ·have h0 : 0≤p:=of_decide_eq_true ‹decide (0≤p) = true›
  omega
 ·have hl:=oS ‹_›
  have h0 : ¬ 0≤p:=of_decide_eq_false h
  rw [kS (Ii hl fun i h3=>hs i (by omega) h3)]
def IJ(a b : Int) : AV:=.tup [(false,[.d (.int .u32 a)]),(false,[.d (.int .u32 b)])]
theorem je(v : Int) : IntKind.u32.wrap v = v % 4294967296:=rfl
theorem zb(v : Int) : v.fdiv (2 ^ min (Int.toNat 32) IntKind.u64.bits) = v / 4294967296:=Int.fdiv_eq_ediv_of_nonneg v (by decide)
theorem P2(v : Int) : v.fdiv (2 ^ min (Int.toNat 31) IntKind.u32.bits) = v / 2147483648:=Int.fdiv_eq_ediv_of_nonneg v (by decide)
theorem bkm(v : BitVec IntKind.u32.bits) : BitVec.ofInt IntKind.u32.bits ((v.toNat : Int) % 4294967296) = v:=by
 have h : v.toNat < 4294967296:=v.isLt
 rw [show ((v.toNat : Int) % 4294967296) = (v.toNat : Int) by omega,BitVec.ofInt_natCast,BitVec.ofNat_toNat,BitVec.setWidth_eq]
theorem P3(v : BitVec 32) : (v.toNat : Int) % 4294967296 / 2147483648 = if v.msb = true then 1 else 0:=by
 have h : v.toNat < 4294967296:=v.isLt
 rw [BitVec.msb_eq_decide]
 split
 ·rename_i h2
  have:=of_decide_eq_true h2
  simp at this; omega
 ·rename_i h2
  have : ¬ _:=fun hh=>h2 (decide_eq_true hh)
  simp at this; omega
theorem FC{x : Int}(hx : 0≤x∧x < 4294967296) : ((BitVec.ofInt 32 x).toNat : Int) = x:=by
 rw [BitVec.toNat_ofInt]; simp; omega
theorem vO{x : Int}(hx : 0≤x∧x < 4294967296) : (BitVec.ofInt 32 x).msb = decide (2147483648≤x):=by
 have h:=FC hx
 rw [BitVec.msb_eq_decide,Bool.eq_iff_iff]
 simp only [decide_eq_true_eq]
 simp
 omega
theorem Bv(X Y E : BitVec 32) : (((((BitVec.ofInt 32 4294967295 ^^^ X) &&& Y) ||| ((BitVec.ofInt 32 4294967295 ^^^ (X ^^^ Y)) &&& E)).toNat : Int)) % 4294967296 / 2147483648 = if ((!X.msb && Y.msb) || (!(X.msb ^^ Y.msb) && E.msb)) = true then 1 else 0:=by
 rw [P3]
 have h : (BitVec.ofInt 32 4294967295).msb = true:=by decide
 simp only [BitVec.msb_or,BitVec.msb_and,BitVec.msb_xor,h,Bool.true_xor]
theorem zw(x y c : Int)(hx : 0≤x∧x < 4294967296)(hy : 0≤y∧y < 4294967296)(hc : 0≤c∧c≤1) : CallA Tryz.prog 376 [.one (.d (.int .u32 x)),.one (.d (.int .u32 y)),.one (.d (.int .u32 c))] [] (IJ ((x + y + c) % 4294967296) ((x + y + c) / 4294967296)) []:=by
 refine enter af Tryz.func376 rfl (by decide +kernel) rfl fun hok w0 σ0 φ0 M=>?_
 clear hok
 repeat' (first|refine wG ?_)
 rw [je,je,zb,show (x + y + c) / 4294967296 % 4294967296 = (x + y + c) / 4294967296 by omega]
 rfl
theorem Dy(x y c : Int)(hx : 0≤x∧x < 4294967296)(hy : 0≤y∧y < 4294967296)(hc : 0≤c∧c≤1) : CallA Tryz.prog 384 [.one (.d (.int .u32 x)),.one (.d (.int .u32 y)),.one (.d (.int .u32 c))] [] (IJ ((x - y - c) % 4294967296) (if x < y + c then 1 else 0)) []:=by
 refine enter af Tryz.func384 rfl (by decide +kernel) rfl fun hok w0 σ0 φ0 M=>?_
 clear hok
 repeat' (first|refine wG ?_)
 simp only [je,P2,bkm]
 have hd : (((x - y) % 4294967296 - c) % 4294967296) = (x - y - c) % 4294967296:=by omega
 rw [hd]
 have hb:=Bv (BitVec.ofInt 32 x) (BitVec.ofInt 32 y) (BitVec.ofInt 32 ((x - y - c) % 4294967296))
 rw [vO hx,vO hy,vO (by omega)] at hb
 refine congrArg (fun b=>AV.tup [(false,[.d (.int .u32 ((x - y - c) % 4294967296))]),(false,[.d (.int .u32 b)])]) (hb.trans ?_)
 by_cases h1 : 2147483648≤x <;> by_cases h2 : 2147483648≤y <;> by_cases h3 : 2147483648≤(x - y - c) % 4294967296 <;> by_cases h4 : x < y + c <;> simp [h1,h2,h3,h4] <;> omega
theorem nB(ys : List (List D))(l : List Int)(m : Nat)(hy : ys = l.map al)(h : Dg l)(hm : (ag l).toNat = m) : CallA Tryz.prog 374 [.one (.d (.sl 1 4 ys))] [] (.one (.d (bu m))) []:=by
 subst hy; subst hm; exact Lb l h
theorem Lf{a b : Int}(ha : 0≤a∧a < 4294967296)(hb : 0≤b∧b < 4294967296) : Dg [a,b]:=fun d hd=>by
 rcases List.mem_cons.1 hd with rfl | hd
 ·exact ha
 ·rw [List.mem_singleton.1 hd]; exact hb
theorem K9(n : Nat)(hn : n < 18446744073709551616) : CallA Tryz.prog 370 [.one (.d (.int .u64 n))] [] (.one (.d (bu n))) []:=by
 have hD : Dg [IntKind.u32.wrap (n : Int),IntKind.u32.wrap ((n : Int).fdiv (2 ^ min (Int.toNat 32) IntKind.u64.bits))]:=Lf (by rw [je]; omega) (by rw [je]; omega)
 have hN : (ag [IntKind.u32.wrap (n : Int),IntKind.u32.wrap ((n : Int).fdiv (2 ^ min (Int.toNat 32) IntKind.u64.bits))]).toNat = n:=by
  simp only [ag,je,zb]; omega
 refine enter af Tryz.func370 rfl (by decide +kernel) rfl fun hok w0 σ0 φ0 M=>?_
 clear hok
 repeat' (first|(refine h1H ?_; (refine h0H ?_; refine dR 16 [0] J J J J J J J J J (nB _ [IntKind.u32.wrap (n : Int),IntKind.u32.wrap ((n : Int).fdiv (2 ^ min (Int.toNat 32) IntKind.u64.bits))] n J hD hN) J J J ?_))|refine wG ?_)
 all_goals rfl
theorem FD{X Y L : List Int}{k : Nat}{c : Int}(hX : k < X.length)(hL : k < L.length)(h : ag (L.take k) + pw k * c = ag (X.take k) + ag (Y.take k)) :
  ag ((L.set k ((at_ X k + at_ Y k + c) % 4294967296)).take (k + 1)) + pw (k + 1) * ((at_ X k + at_ Y k + c) / 4294967296) = ag (X.take (k + 1)) + ag (Y.take (k + 1)):=by
 have hs : k < (L.set k ((at_ X k + at_ Y k + c) % 4294967296)).length:=by simpa using hL
 rw [bw hs,bw hX,List.take_set_of_le (Nat.le_refl _),dg]
 have e1 : at_ (L.set k ((at_ X k + at_ Y k + c) % 4294967296)) k = (at_ X k + at_ Y k + c) % 4294967296:=by simp [at_,hL]
 have e2 : ag (Y.take (k + 1)) = ag (Y.take k) + pw k * at_ Y k:=by
  by_cases hY : k < Y.length
  ·exact bw hY
  ·have : at_ Y k = 0:=by simp [at_,List.getD_eq_getElem?_getD,List.getElem?_eq_none (Nat.le_of_not_lt hY)]
   rw [this,List.take_of_length_le (by omega),List.take_of_length_le (by omega)]; simp
 rw [e1,e2]
 have e3 : (at_ X k + at_ Y k + c) % 4294967296 + 4294967296 * ((at_ X k + at_ Y k + c) / 4294967296) = at_ X k + at_ Y k + c:=by omega
 generalize (at_ X k + at_ Y k + c) % 4294967296 = r at e3 ⊢
 generalize (at_ X k + at_ Y k + c) / 4294967296 = q at e3 ⊢
 have e4 : pw k * r + 4294967296 * pw k * q = pw k * (at_ X k + at_ Y k + c):=by
  rw [← e3,Int.mul_add,Int.mul_comm 4294967296 (pw k),Int.mul_assoc]
 simp only [Int.mul_add] at e4 h ⊢
 omega
theorem jn{l : List Int}{k : Nat}(h : l.length≤k) : at_ l k = 0:=by simp [at_,List.getD_eq_getElem?_getD,List.getElem?_eq_none h]
theorem pE{X Y L : List Int}{k : Nat}{c b : Int}{R : List (List D)}(hX : Dg X)(hlt : k < X.length)(hb : at_ Y k = b)(hb2 : 0≤b∧b < 4294967296)(hr : R = L.map al)(hl2 : R.length = X.length + 1)(hL : Dg L)(hc : 0≤c∧c≤1)
  (hv : ag (L.take k) + pw k * c = ag (X.take k) + ag (Y.take k)) :
  k + 1≤X.length∧R.set k [.int .u32 ((at_ X k + b + c) % 4294967296)] = (L.set k ((at_ X k + b + c) % 4294967296)).map al∧(R.set k [.int .u32 ((at_ X k + b + c) % 4294967296)]).length = X.length + 1∧Dg (L.set k ((at_ X k + b + c) % 4294967296)) ∧
  (0≤(at_ X k + b + c) / 4294967296∧(at_ X k + b + c) / 4294967296≤1)∧ag ((L.set k ((at_ X k + b + c) % 4294967296)).take (k + 1)) + pw (k + 1) * ((at_ X k + b + c) / 4294967296) = ag (X.take (k + 1)) + ag (Y.take (k + 1)):=by
 have hLl : L.length = X.length + 1:=by rw [hr] at hl2; simpa using hl2
 have h1:=hX.at hlt
 subst hb
 refine ⟨hlt,?_,by simpa using hl2,hL.set (by omega),by omega,FD hlt (by omega) hv⟩
 rw [hr,List.map_set]; rfl
theorem BX{X L : List Int}{c : Int}{R : List (List D)}(hr : R = L.map al)(hl2 : R.length = X.length + 1) : (R.set (((X.map al).length : Int).toNat) [.int .u32 c]).take (X.length + 1) = (L.set X.length c).map al:=by
 rw [List.take_of_length_le (by simp; omega),List.length_map,Int.toNat_natCast,hr,List.map_set]; rfl
theorem rX{X Y L : List Int}{k : Nat}{c : Int}(hk : X.length≤k)(hk2 : k≤X.length)(hxy : Y.length≤X.length)(hLl : L.length = X.length + 1)(hL : Dg L)(hc : 0≤c∧c≤1)(hv : ag (L.take k) + pw k * c = ag (X.take k) + ag (Y.take k)) :
  Dg (L.set X.length c)∧(ag (L.set X.length c)).toNat = (ag X + ag Y).toNat:=by
 have e : k = X.length:=by omega
 subst e
 refine ⟨hL.set (by omega),?_⟩
 have hs : X.length < (L.set X.length c).length:=by simp; omega
 have h1:=bw hs
 rw [List.take_of_length_le (by simp; omega),List.take_set_of_le (Nat.le_refl _)] at h1
 have e1 : at_ (L.set X.length c) X.length = c:=by simp [at_,hLl]
 rw [e1,hv,List.take_of_length_le (Nat.le_refl _),List.take_of_length_le hxy] at h1
 rw [h1]
theorem NL(X Y : List Int)(hX : Dg X)(hY : Dg Y)(hn : X.length≤400)(hxy : Y.length≤X.length) : CallA Tryz.prog 356 [.one (.d (cO X)),.one (.d (cO Y))] [] (.one (.d (bu (ag X + ag Y).toNat))) []:=by
 have zr : (0 : Int)≤0∧(0 : Int) < 4294967296:=⟨by omega,by omega⟩
 have hsw : decide (((X.map al).length : Int) < ((Y.map al).length : Int)) = false:=by simpa using hxy
 refine enter af Tryz.func356 rfl (by decide +kernel) rfl fun hok w0 σ0 φ0 M=>?_
 clear hok
 repeat' (first|(refine h1H ?_; (refine h7H ?_; refine fi au 10 J J J (bO (n:=X.length + 1) J J J J J (by simp) (by simp) (by omega) (Nat.le_of_ble_eq_true J)) J J ?_))|(refine h1H ?_; (refine h0H ?_; first|refine dR 40 [10] J J J J J J J J J (nB _ (p.2.2.1.set X.length p.2.1) _ (BX hr hl2) (rX (by simpa using h) hk hxy (by rw [hr] at hl2; simpa using hl2) hL hc hv).1 (rX (by simpa using h) hk hxy (by rw [hr] at hl2; simpa using hl2) hL hc hv).2) J J J ?_|refine aa J J J J J J J J (zw _ _ _ (hX.at wB) (hY.at wB) hc) J ?_|refine aa J J J J J J J J (zw _ _ _ (hX.at wB) zr hc) J ?_))|refine wG ?_|(refine h4H ?_; first|refine ah J (fun h=>?_) (fun h=>?_)|refine ca 6 J [(0,_),(1,_),(5,_),(21,_)] (q4Q J J J J) (fun (p : Nat×Int×List Int×List (List D))=>[(22,.one (.d (.int .i64 (p.1 : Int)))),(6,.one (.d (.int .u32 p.2.1)))]) (fun (p : Nat×Int×List Int×List (List D))=>[(10,.row 1 4 p.2.2.2)]) (fun (p : Nat×Int×List Int×List (List D))=>p.1≤X.length∧p.2.2.2 = p.2.2.1.map al∧p.2.2.2.length = X.length + 1∧Dg p.2.2.1∧(0≤p.2.1∧p.2.1≤1)∧ag (p.2.2.1.take p.1) + pw p.1 * p.2.1 = ag (X.take p.1) + ag (Y.take p.1)) (fun (p : Nat×Int×List Int×List (List D))=>X.length - p.1) (0,0,List.replicate (X.length + 1) 0,List.replicate (X.length + 1) [.int .u32 0]) (q2Q J J) wK ?_ (fun p ⟨hk,hr,hl2,hL,hc,hv⟩=>?_))|(show Exists _; first|refine Exists.intro ((p.1 + 1,(at_ X p.1 + at_ Y p.1 + p.2.1) / 4294967296,p.2.2.1.set p.1 ((at_ X p.1 + at_ Y p.1 + p.2.1) % 4294967296),p.2.2.2.set p.1 [.int .u32 ((at_ X p.1 + at_ Y p.1 + p.2.1) % 4294967296)])) ⟨?_,?_,wK,(q2Q J J),(q4Q J J J J)⟩|refine Exists.intro ((p.1 + 1,(at_ X p.1 + 0 + p.2.1) / 4294967296,p.2.2.1.set p.1 ((at_ X p.1 + 0 + p.2.1) % 4294967296),p.2.2.2.set p.1 [.int .u32 ((at_ X p.1 + 0 + p.2.1) % 4294967296)])) ⟨?_,?_,wK,(q2Q J J),(q4Q J J J J)⟩))
 ·exact ⟨Nat.zero_le _,by simp [al],by simp,Dg.zeros _,⟨Int.le_refl _,Int.zero_le_ofNat 1⟩,by simp [ag]⟩
 ·exact pE hX (by simpa using ‹decide ((p.1 : Int) < ((X.map al).length : Int)) = true›) rfl (hY.at (by simpa using h)) hr hl2 hL hc hv
 ·have hlt : p.1 < X.length:=by simpa using ‹decide ((p.1 : Int) < ((X.map al).length : Int)) = true›
  show X.length - (p.1 + 1) < X.length - p.1
  omega
 ·exact pE hX (by simpa using ‹decide ((p.1 : Int) < ((X.map al).length : Int)) = true›) (jn (by simpa using h)) zr hr hl2 hL hc hv
 ·have hlt : p.1 < X.length:=by simpa using ‹decide ((p.1 : Int) < ((X.map al).length : Int)) = true›
  show X.length - (p.1 + 1) < X.length - p.1
  omega
 ·rfl
theorem NM(X Y : List Int)(hY : Dg Y)(hX : Dg X)(hn : Y.length≤400)(hlt0 : X.length < Y.length) : CallA Tryz.prog 356 [.one (.d (cO X)),.one (.d (cO Y))] [] (.one (.d (bu (ag Y + ag X).toNat))) []:=by
 have zr : (0 : Int)≤0∧(0 : Int) < 4294967296:=⟨by omega,by omega⟩
 have hxy : X.length≤Y.length:=by omega
 have hsw : decide (((X.map al).length : Int) < ((Y.map al).length : Int)) = true:=by simpa using hlt0
 refine enter af Tryz.func356 rfl (by decide +kernel) rfl fun hok w0 σ0 φ0 M=>?_
 clear hok
 repeat' (first|(refine h1H ?_; (refine h7H ?_; refine fi au 10 J J J (bO (n:=Y.length + 1) J J J J J (by simp) (by simp) (by omega) (Nat.le_of_ble_eq_true J)) J J ?_))|(refine h1H ?_; (refine h0H ?_; first|refine dR 40 [10] J J J J J J J J J (nB _ (p.2.2.1.set Y.length p.2.1) _ (BX hr hl2) (rX (by simpa using h) hk hxy (by rw [hr] at hl2; simpa using hl2) hL hc hv).1 (rX (by simpa using h) hk hxy (by rw [hr] at hl2; simpa using hl2) hL hc hv).2) J J J ?_|refine aa J J J J J J J J (zw _ _ _ (hY.at wB) (hX.at wB) hc) J ?_|refine aa J J J J J J J J (zw _ _ _ (hY.at wB) zr hc) J ?_))|refine wG ?_|(refine h4H ?_; first|refine ah J (fun h=>?_) (fun h=>?_)|refine ca 6 J [(0,_),(1,_),(5,_),(21,_)] (q4Q J J J J) (fun (p : Nat×Int×List Int×List (List D))=>[(22,.one (.d (.int .i64 (p.1 : Int)))),(6,.one (.d (.int .u32 p.2.1)))]) (fun (p : Nat×Int×List Int×List (List D))=>[(10,.row 1 4 p.2.2.2)]) (fun (p : Nat×Int×List Int×List (List D))=>p.1≤Y.length∧p.2.2.2 = p.2.2.1.map al∧p.2.2.2.length = Y.length + 1∧Dg p.2.2.1∧(0≤p.2.1∧p.2.1≤1)∧ag (p.2.2.1.take p.1) + pw p.1 * p.2.1 = ag (Y.take p.1) + ag (X.take p.1)) (fun (p : Nat×Int×List Int×List (List D))=>Y.length - p.1) (0,0,List.replicate (Y.length + 1) 0,List.replicate (Y.length + 1) [.int .u32 0]) (q2Q J J) wK ?_ (fun p ⟨hk,hr,hl2,hL,hc,hv⟩=>?_))|(show Exists _; first|refine Exists.intro ((p.1 + 1,(at_ Y p.1 + at_ X p.1 + p.2.1) / 4294967296,p.2.2.1.set p.1 ((at_ Y p.1 + at_ X p.1 + p.2.1) % 4294967296),p.2.2.2.set p.1 [.int .u32 ((at_ Y p.1 + at_ X p.1 + p.2.1) % 4294967296)])) ⟨?_,?_,wK,(q2Q J J),(q4Q J J J J)⟩|refine Exists.intro ((p.1 + 1,(at_ Y p.1 + 0 + p.2.1) / 4294967296,p.2.2.1.set p.1 ((at_ Y p.1 + 0 + p.2.1) % 4294967296),p.2.2.2.set p.1 [.int .u32 ((at_ Y p.1 + 0 + p.2.1) % 4294967296)])) ⟨?_,?_,wK,(q2Q J J),(q4Q J J J J)⟩))
 ·exact ⟨Nat.zero_le _,by simp [al],by simp,Dg.zeros _,⟨Int.le_refl _,Int.zero_le_ofNat 1⟩,by simp [ag]⟩
 ·exact pE hY (by simpa using ‹decide ((p.1 : Int) < ((Y.map al).length : Int)) = true›) rfl (hX.at (by simpa using h)) hr hl2 hL hc hv
 ·have hlt : p.1 < Y.length:=by simpa using ‹decide ((p.1 : Int) < ((Y.map al).length : Int)) = true›
  show Y.length - (p.1 + 1) < Y.length - p.1
  omega
 ·exact pE hY (by simpa using ‹decide ((p.1 : Int) < ((Y.map al).length : Int)) = true›) (jn (by simpa using h)) zr hr hl2 hL hc hv
 ·have hlt : p.1 < Y.length:=by simpa using ‹decide ((p.1 : Int) < ((Y.map al).length : Int)) = true›
  show Y.length - (p.1 + 1) < Y.length - p.1
  omega
 ·rfl
theorem Lg(m n : Nat)(hm : (dig m).length≤400)(hn : (dig n).length≤400) : CallA Tryz.prog 356 [.one (.d (bu m)),.one (.d (bu n))] [] (.one (.d (bu (m + n)))) []:=by
 obtain ⟨a1,a2,a3⟩:=cE m
 obtain ⟨b1,b2,b3⟩:=cE n
 rcases Nat.lt_or_ge (dig m).length (dig n).length with h | h
 ·have:=NM (dig m) (dig n) b1 a1 hn h
  rwa [a2,b2,show ((n : Int) + (m : Int)).toNat = m + n by omega] at this
 ·have:=NL (dig m) (dig n) a1 b1 hm h
  rwa [a2,b2,show ((m : Int) + (n : Int)).toNat = m + n by omega] at this
theorem Bi{X Y L : List Int}{k : Nat}{c b : Int}{R : List (List D)}(hX : Dg X)(hlt : k < X.length)(hb : at_ Y k = b)(hb2 : 0≤b∧b < 4294967296)(hr : R = L.map al)(hl2 : R.length = X.length)(hL : Dg L)(hc : 0≤c∧c≤1)
  (hv : ag (L.take k) = ag (X.take k) - ag (Y.take k) + pw k * c) :
  k + 1≤X.length∧R.set k [.int .u32 ((at_ X k - b - c) % 4294967296)] = (L.set k ((at_ X k - b - c) % 4294967296)).map al∧(R.set k [.int .u32 ((at_ X k - b - c) % 4294967296)]).length = X.length∧Dg (L.set k ((at_ X k - b - c) % 4294967296)) ∧
  (0≤(if at_ X k < b + c then (1 : Int) else 0)∧(if at_ X k < b + c then (1 : Int) else 0)≤1)∧ag ((L.set k ((at_ X k - b - c) % 4294967296)).take (k + 1)) = ag (X.take (k + 1)) - ag (Y.take (k + 1)) + pw (k + 1) * (if at_ X k < b + c then (1 : Int) else 0):=by
 have hLl : L.length = X.length:=by rw [hr] at hl2; simpa using hl2
 have h1:=hX.at hlt
 subst hb
 refine ⟨hlt,?_,by simpa using hl2,hL.set (by omega),by split <;> omega,?_⟩
 ·rw [hr,List.map_set]; rfl
 have hs : k < (L.set k ((at_ X k - at_ Y k - c) % 4294967296)).length:=by simp; omega
 have hLk : k < L.length:=by omega
 rw [bw hs,bw hlt,List.take_set_of_le (Nat.le_refl _),dg]
 have e1 : at_ (L.set k ((at_ X k - at_ Y k - c) % 4294967296)) k = (at_ X k - at_ Y k - c) % 4294967296:=by simp [at_,hLk]
 have e2 : ag (Y.take (k + 1)) = ag (Y.take k) + pw k * at_ Y k:=by
  by_cases hY : k < Y.length
  ·exact bw hY
  ·rw [jn (Nat.le_of_not_lt hY),List.take_of_length_le (by omega),List.take_of_length_le (by omega)]; simp
 rw [e1,e2,hv]
 have e3 : (at_ X k - at_ Y k - c) % 4294967296 = at_ X k - at_ Y k - c + 4294967296 * (if at_ X k < at_ Y k + c then (1 : Int) else 0):=by split <;> omega
 rw [e3]
 generalize (if at_ X k < at_ Y k + c then (1 : Int) else 0) = q
 have e4 : pw k * (at_ X k - at_ Y k - c + 4294967296 * q) = pw k * at_ X k - pw k * at_ Y k - pw k * c + 4294967296 * pw k * q:=by
  simp only [Int.mul_add,Int.mul_sub]
  rw [← Int.mul_assoc,Int.mul_comm (pw k) 4294967296]
 rw [e4]
 omega
theorem Ky{X Y L : List Int}{k : Nat}{c : Int}(hk : X.length≤k)(hk2 : k≤X.length)(hxy : Y.length≤X.length)(hle : ag Y≤ag X)(hLl : L.length = X.length)(hX : Dg X)(hL : Dg L)(hc : 0≤c∧c≤1)(hv : ag (L.take k) = ag (X.take k) - ag (Y.take k) + pw k * c) : (ag L).toNat = (ag X - ag Y).toNat:=by
 have e : k = X.length:=by omega
 subst e
 rw [List.take_of_length_le (by omega),List.take_of_length_le (Nat.le_refl _),List.take_of_length_le hxy] at hv
 have h1:=dv hL
 rw [hLl] at h1
 have hc' : c = 0∨c = 1:=by omega
 rcases hc' with rfl | rfl
 ·rw [hv]; simp
 ·exfalso; rw [Int.mul_one] at hv; omega
theorem Kz{X L : List Int}{R : List (List D)}(hr : R = L.map al)(hl2 : R.length = X.length) : R.take X.length = L.map al:=by
 rw [List.take_of_length_le (by omega),hr]
theorem OE(X Y : List Int)(hX : Dg X)(hY : Dg Y)(hn : X.length≤400)(hxy : Y.length≤X.length)(hle : ag Y≤ag X) : CallA Tryz.prog 377 [.one (.d (cO X)),.one (.d (cO Y))] [] (.one (.d (bu (ag X - ag Y).toNat))) []:=by
 have zr : (0 : Int)≤0∧(0 : Int) < 4294967296:=⟨by omega,by omega⟩
 refine enter af Tryz.func377 rfl (by decide +kernel) rfl fun hok w0 σ0 φ0 M=>?_
 clear hok
 repeat' (first|(refine h1H ?_; (refine h7H ?_; refine fi au 10 J J J (bO (n:=X.length) J J J J J (by simp) (by simp) (by omega) (Nat.le_of_ble_eq_true J)) J J ?_))|(refine h1H ?_; (refine h0H ?_; first|refine dR 40 [10] J J J J J J J J J (nB _ p.2.2.1 _ (Kz hr hl2) hL (Ky (by simpa using h) hk hxy hle (by rw [hr] at hl2; simpa using hl2) hX hL hc hv)) J J J ?_|refine aa J J J J J J J J (Dy _ _ _ (hX.at wB) (hY.at wB) hc) J ?_|refine aa J J J J J J J J (Dy _ _ _ (hX.at wB) zr hc) J ?_))|refine wG ?_|(refine h4H ?_; first|refine ah J (fun h=>?_) (fun h=>?_)|refine ca 4 J [(0,_),(1,_),(5,_),(13,_)] (q4Q J J J J) (fun (p : Nat×Int×List Int×List (List D))=>[(14,.one (.d (.int .i64 (p.1 : Int)))),(6,.one (.d (.int .u32 p.2.1)))]) (fun (p : Nat×Int×List Int×List (List D))=>[(10,.row 1 4 p.2.2.2)]) (fun (p : Nat×Int×List Int×List (List D))=>p.1≤X.length∧p.2.2.2 = p.2.2.1.map al∧p.2.2.2.length = X.length∧Dg p.2.2.1∧(0≤p.2.1∧p.2.1≤1)∧ag (p.2.2.1.take p.1) = ag (X.take p.1) - ag (Y.take p.1) + pw p.1 * p.2.1) (fun (p : Nat×Int×List Int×List (List D))=>X.length - p.1) (0,0,List.replicate X.length 0,List.replicate X.length [.int .u32 0]) (q2Q J J) wK ?_ (fun p ⟨hk,hr,hl2,hL,hc,hv⟩=>?_))|(show Exists _; first|refine Exists.intro ((p.1 + 1,(if at_ X p.1 < at_ Y p.1 + p.2.1 then 1 else 0),p.2.2.1.set p.1 ((at_ X p.1 - at_ Y p.1 - p.2.1) % 4294967296),p.2.2.2.set p.1 [.int .u32 ((at_ X p.1 - at_ Y p.1 - p.2.1) % 4294967296)])) ⟨?_,?_,wK,(q2Q J J),(q4Q J J J J)⟩|refine Exists.intro ((p.1 + 1,(if at_ X p.1 < 0 + p.2.1 then 1 else 0),p.2.2.1.set p.1 ((at_ X p.1 - 0 - p.2.1) % 4294967296),p.2.2.2.set p.1 [.int .u32 ((at_ X p.1 - 0 - p.2.1) % 4294967296)])) ⟨?_,?_,wK,(q2Q J J),(q4Q J J J J)⟩))
 ·exact ⟨Nat.zero_le _,by simp [al],by simp,Dg.zeros _,⟨Int.le_refl _,Int.zero_le_ofNat 1⟩,by simp [ag]⟩
 ·exact Bi hX (by simpa using ‹decide ((p.1 : Int) < ((X.map al).length : Int)) = true›) rfl (hY.at (by simpa using h)) hr hl2 hL hc hv
 ·have hlt : p.1 < X.length:=by simpa using ‹decide ((p.1 : Int) < ((X.map al).length : Int)) = true›
  show X.length - (p.1 + 1) < X.length - p.1
  omega
 ·exact Bi hX (by simpa using ‹decide ((p.1 : Int) < ((X.map al).length : Int)) = true›) (jn (by simpa using h)) zr hr hl2 hL hc hv
 ·have hlt : p.1 < X.length:=by simpa using ‹decide ((p.1 : Int) < ((X.map al).length : Int)) = true›
  show X.length - (p.1 + 1) < X.length - p.1
  omega
 ·rfl
theorem MP(m n : Nat)(hm : (dig m).length≤400)(h : n≤m) : CallA Tryz.prog 377 [.one (.d (bu m)),.one (.d (bu n))] [] (.one (.d (bu (m - n)))) []:=by
 obtain ⟨a1,a2,a3⟩:=cE m
 obtain ⟨b1,b2,b3⟩:=cE n
 have hl : (dig n).length≤(dig m).length:=by
  refine Nat.le_of_not_lt fun hc=>?_
  have:=nP hc; omega
 have:=OE (dig m) (dig n) a1 b1 hm hl (by omega)
 rwa [a2,b2,show ((m : Int) - (n : Int)).toNat = m - n by omega] at this
def wz(c x y o : Int) : Int:=IntKind.u64.wrap (c + IntKind.u64.wrap (IntKind.u64.wrap (IntKind.u64.wrap x * IntKind.u64.wrap y) + IntKind.u64.wrap o))
theorem As{x y : Int}(hx : 0≤x∧x < 4294967296)(hy : 0≤y∧y < 4294967296) : 0≤x * y∧x * y≤18446744065119617025:=by
 have h1 : x≤4294967295:=by omega
 have h2 : y≤4294967295:=by omega
 exact ⟨Int.mul_nonneg hx.1 hy.1,Int.le_trans (Int.mul_le_mul h1 h2 hy.1 (by omega)) (by decide)⟩
theorem cR{v : Int}(h0 : 0≤v)(h1 : v≤18446744073709551615) : IntKind.u64.wrap v = v:=by
 show v % 18446744073709551616 = v
 omega
theorem Kj{c x y o : Int}(hc : 0≤c∧c < 4294967296)(hx : 0≤x∧x < 4294967296)(hy : 0≤y∧y < 4294967296)(ho : 0≤o∧o < 4294967296) : wz c x y o = c + x * y + o∧0≤c + x * y + o∧c + x * y + o≤18446744073709551615:=by
 have h:=As hx hy
 unfold wz
 rw [cR hx.1 (by omega),cR hy.1 (by omega),cR ho.1 (by omega),cR h.1 (by omega),cR (v:=x * y + o) (by omega) (by omega),cR (by omega) (by omega)]
 omega
theorem eu{l : List Int}{k t : Nat}{x : Int}(h : t≠k) : at_ (l.set k x) t = at_ l t:=by
 simp [at_,List.getD_eq_getElem?_getD,List.getElem?_set,Ne.symm h]
theorem Ih{X Y L : List Int}{R : List (List D)}{i j : Nat}{c V T : Int}(hT : T = wz c (at_ X i) (at_ Y j) (at_ L (i + j)))(hX : Dg X)(hY : Dg Y)(hi : i < X.length)(hj : j < Y.length)(hr : R = L.map al)(hl : R.length = X.length + Y.length)(hL : Dg L)(hc : 0≤c∧c < 4294967296)
  (hz : ∀ t,i + Y.length≤t→at_ L t = 0) (hv : ag L + pw (i + j) * c = V + pw i * (at_ X i * ag (Y.take j))) :
  j + 1≤Y.length∧R.set (i + j) [.int .u32 (IntKind.u32.wrap T)] = (L.set (i + j) (IntKind.u32.wrap T)).map al∧(R.set (i + j) [.int .u32 (IntKind.u32.wrap T)]).length = X.length + Y.length∧Dg (L.set (i + j) (IntKind.u32.wrap T)) ∧
  (0≤T.fdiv (2 ^ min (Int.toNat 32) IntKind.u64.bits)∧T.fdiv (2 ^ min (Int.toNat 32) IntKind.u64.bits) < 4294967296)∧(∀ t,i + Y.length≤t→at_ (L.set (i + j) (IntKind.u32.wrap T)) t = 0) ∧
  ag (L.set (i + j) (IntKind.u32.wrap T)) + pw (i + (j + 1)) * T.fdiv (2 ^ min (Int.toNat 32) IntKind.u64.bits) = V + pw i * (at_ X i * ag (Y.take (j + 1))):=by
 have hLl : L.length = X.length + Y.length:=by rw [hr] at hl; simpa using hl
 have hk : i + j < L.length:=by omega
 obtain ⟨e,h0,h1⟩:=Kj hc (hX.at hi) (hY.at hj) (hL.at hk)
 rw [← hT] at e
 rw [je,zb]
 refine ⟨hj,by rw [hr,List.map_set]; rfl,by simpa using hl,hL.set (by omega),by omega,fun t ht=>by rw [eu (by omega)]; exact hz t ht,?_⟩
 rw [lj hk,bw hj,show i + (j + 1) = (i + j) + 1 by omega,dg]
 have e3 : T % 4294967296 + 4294967296 * (T / 4294967296) = T:=by omega
 generalize T % 4294967296 = r at e3 ⊢
 generalize T / 4294967296 = q at e3 ⊢
 have e4 : pw (i + j) * r + 4294967296 * pw (i + j) * q = pw (i + j) * c + pw (i + j) * (at_ X i * at_ Y j) + pw (i + j) * at_ L (i + j):=by
  rw [← Int.mul_add,← Int.mul_add,← e,← e3,Int.mul_add,Int.mul_comm 4294967296 (pw (i + j)),Int.mul_assoc]
 have e5 : pw i * (at_ X i * (ag (Y.take j) + pw j * at_ Y j)) = pw i * (at_ X i * ag (Y.take j)) + pw (i + j) * (at_ X i * at_ Y j):=by
  rw [Int.mul_add,Int.mul_add,ig,Int.mul_assoc (pw i) (pw j),Int.mul_left_comm (at_ X i) (pw j)]
 rw [e5,Int.mul_sub]
 omega
theorem Kk{X Y L : List Int}{R : List (List D)}{i j : Nat}{c V : Int}(hX : Dg X)(hY : Dg Y)(hi : i < X.length)(hj : j≤Y.length)(hj2 : Y.length≤j)(hr : R = L.map al)(hl : R.length = X.length + Y.length)(hL : Dg L)(hc : 0≤c∧c < 4294967296)
  (hz : ∀ t,i + Y.length≤t→at_ L t = 0) (hV : V = ag (X.take i) * ag Y) (hv : ag L + pw (i + j) * c = V + pw i * (at_ X i * ag (Y.take j))) :
  i + 1≤X.length∧R.set (i + (Y.map al).length) [.int .u32 c] = (L.set (i + Y.length) c).map al∧(R.set (i + (Y.map al).length) [.int .u32 c]).length = X.length + Y.length∧Dg (L.set (i + Y.length) c) ∧
  (∀ t,i + 1 + Y.length≤t→at_ (L.set (i + Y.length) c) t = 0)∧ag (L.set (i + Y.length) c) = ag (X.take (i + 1)) * ag Y:=by
 have hLl : L.length = X.length + Y.length:=by rw [hr] at hl; simpa using hl
 have e : j = Y.length:=by omega
 subst e
 rw [List.length_map]
 refine ⟨hi,by rw [hr,List.map_set]; rfl,by simpa using hl,hL.set hc,fun t ht=>by rw [eu (by omega)]; exact hz t (by omega),?_⟩
 rw [lj (by omega),hz _ (Nat.le_refl _),bw hi,Int.sub_zero,hv,hV,List.take_of_length_le (Nat.le_refl _),Int.add_mul,Int.mul_assoc]
theorem vM{n : Nat}{L : List Int}{R : List (List D)}(hr : R = L.map al)(hl : R.length = n) : R.take n = L.map al:=by rw [List.take_of_length_le (by omega),hr]
theorem Kl{X Y L : List Int}{k : Nat}(hv : ag L = ag (X.take k) * ag Y)(hk : k≤X.length)(h : X.length≤k) : (ag L).toNat = (ag X * ag Y).toNat:=by
 rw [hv,List.take_of_length_le h]
set_option maxHeartbeats 1000000 in
theorem Ol(X Y : List Int)(hX : Dg X)(hY : Dg Y)(hn : X.length≤400)(hm : Y.length≤400) : CallA Tryz.prog 361 [.one (.d (cO X)),.one (.d (cO Y))] [] (.one (.d (bu (ag X * ag Y).toNat))) []:=by
 refine enter af Tryz.func361 rfl (by decide +kernel) rfl fun hok w0 σ0 φ0 M=>?_
 clear hok
 repeat' (first|(refine h1H ?_; (refine h7H ?_; refine fi au 10 J J J (bO (n:=X.length + Y.length) J J J J J (by simp) (by simp) (by omega) (Nat.le_of_ble_eq_true J)) J J ?_))|(refine h1H ?_; (refine h0H ?_; refine dR 40 [10] J J J J J J J J J (nB _ p.2.1 _ (vM hr hl2) hL (Kl hv hk (by simpa using h))) J J J ?_))|refine wG ?_|(refine h4H ?_; first|refine ah J (fun h=>?_) (fun h=>?_)|refine ca 7 J [(1,_),(5,_),(6,_),(7,_),(17,_),(18,_),(19,_),(24,_),(25,_)] (q9Q J J J J J J J J J) (fun (q : Nat×Int×List Int×List (List D))=>[(26,.one (.d (.int .i64 (q.1 : Int)))),(8,.one (.d (.int .u64 q.2.1)))]) (fun (q : Nat×Int×List Int×List (List D))=>[(10,.row 1 4 q.2.2.2)]) (fun (q : Nat×Int×List Int×List (List D))=>q.1≤Y.length∧q.2.2.2 = q.2.2.1.map al∧q.2.2.2.length = X.length + Y.length∧Dg q.2.2.1∧(0≤q.2.1∧q.2.1 < 4294967296)∧(∀ t,p.1 + Y.length≤t→at_ q.2.2.1 t = 0)∧ag q.2.2.1 + pw (p.1 + q.1) * q.2.1 = ag p.2.1 + pw p.1 * (at_ X p.1 * ag (Y.take q.1))) (fun (q : Nat×Int×List Int×List (List D))=>Y.length - q.1) (0,0,p.2.1,p.2.2) (q2Q J J) wK ?_ (fun q ⟨hqk,hqr,hql,hqL,hqc,hqz,hqv⟩=>?_)|refine ca 3 J [(1,_),(5,_),(17,_),(18,_)] (q4Q J J J J) (fun (p : Nat×List Int×List (List D))=>[(19,.one (.d (.int .i64 (p.1 : Int))))]) (fun (p : Nat×List Int×List (List D))=>[(10,.row 1 4 p.2.2)]) (fun (p : Nat×List Int×List (List D))=>p.1≤X.length∧p.2.2 = p.2.1.map al∧p.2.2.length = X.length + Y.length∧Dg p.2.1∧(∀ t,p.1 + Y.length≤t→at_ p.2.1 t = 0)∧ag p.2.1 = ag (X.take p.1) * ag Y) (fun (p : Nat×List Int×List (List D))=>X.length - p.1) (0,List.replicate (X.length + Y.length) 0,List.replicate (X.length + Y.length) [.int .u32 0]) (q1Q J) wK ?_ (fun p ⟨hk,hr,hl2,hL,hz,hv⟩=>?_))|(show Exists _; first|refine Exists.intro ((p.1 + 1,q.2.2.1.set (p.1 + Y.length) q.2.1,q.2.2.2.set (p.1 + (Y.map al).length) [.int .u32 q.2.1])) ⟨?_,?_,wK,(q1Q J),(q4Q J J J J)⟩|refine Exists.intro ((q.1 + 1,(wz q.2.1 (at_ X p.1) (at_ Y q.1) (at_ q.2.2.1 (p.1 + q.1))).fdiv (2 ^ min (Int.toNat 32) IntKind.u64.bits),q.2.2.1.set (p.1 + q.1) (IntKind.u32.wrap (wz q.2.1 (at_ X p.1) (at_ Y q.1) (at_ q.2.2.1 (p.1 + q.1)))),q.2.2.2.set (p.1 + q.1) [.int .u32 (IntKind.u32.wrap (wz q.2.1 (at_ X p.1) (at_ Y q.1) (at_ q.2.2.1 (p.1 + q.1))))])) ⟨?_,?_,wK,(q2Q J J),(q9Q J J J J J J J J J)⟩))
 ·exact ⟨Nat.zero_le _,by simp [al],by simp,Dg.zeros _,fun t _=>by
   show at_ (List.replicate _ (0 : Int)) t = 0
   simp only [at_,List.getD_eq_getElem?_getD,List.getElem?_replicate]
   split <;> rfl,by
   show ag (List.replicate _ (0 : Int)) = ag (X.take 0) * ag Y
   rw [Ee,List.take_zero]; simp [ag]⟩
 ·exact ⟨Nat.zero_le _,hr,hl2,hL,⟨Int.le_refl _,by show (0 : Int) < 4294967296; omega⟩,hz,by
   show ag p.2.1 + pw (p.1 + 0) * 0 = ag p.2.1 + pw p.1 * (at_ X p.1 * ag (Y.take 0))
   rw [List.take_zero]; simp [ag]⟩
 ·exact Ih rfl hX hY (by simpa using ‹decide ((p.1 : Int) < ((X.map al).length : Int)) = true›) (by simpa using h) hqr hql hqL hqc hqz hqv
 ·have hlt : q.1 < Y.length:=by simpa using h
  show Y.length - (q.1 + 1) < Y.length - q.1
  omega
 ·exact Kk hX hY (by simpa using ‹decide ((p.1 : Int) < ((X.map al).length : Int)) = true›) hqk (by simpa using h) hqr hql hqL hqc hqz hv hqv
 ·have hlt : p.1 < X.length:=by simpa using ‹decide ((p.1 : Int) < ((X.map al).length : Int)) = true›
  show X.length - (p.1 + 1) < X.length - p.1
  omega
 ·rfl
theorem zR(m n : Nat)(hm : (dig m).length≤400)(hn : (dig n).length≤400) : CallA Tryz.prog 361 [.one (.d (bu m)),.one (.d (bu n))] [] (.one (.d (bu (m * n)))) []:=by
 obtain ⟨a1,a2,a3⟩:=cE m
 obtain ⟨b1,b2,b3⟩:=cE n
 have:=Ol (dig m) (dig n) a1 b1 hm hn
 rwa [a2,b2,show ((m : Int) * (n : Int)).toNat = m * n by rw [← Int.natCast_mul]; rfl] at this
end Go.Proofs.YtpejdgkaapnekaaGreat
