import Derived.Test.YtpejdgkaapnekaaGreatGP19
import Derived.Test.YtpejdgkaapnekaaGreatGE1
import Derived.Test.YtpejdgkaapnekaaGreatGP16
import Derived.Test.YtpejdgkaapnekaaGreatGP15
import Derived.Test.YtpejdgkaapnekaaGreatGP18
set_option linter.unusedVariables false
set_option linter.unusedSimpArgs false
set_option linter.unnecessarySimpa false
set_option maxHeartbeats 1000000
namespace Go.Proofs.YtpejdgkaapnekaaGreat
open Go Go.Abs
attribute [local irreducible] ac OkC ao ax ap aJ
set_option maxRecDepth 10000
def kQ(t : Int) : Bool:=decide (1≤t) && decide (t≤4)
def bB(op : Int)(l : List Int) : Int×Int :=
 if l.all kQ then (if cn op (at_ l 0) (at_ l 1) (at_ l 2) = 0 then (0,12) else (cn op (at_ l 0) (at_ l 1) (at_ l 2),0)) else (0,2)
def ie(p : Int×Int) : AV:=.tup [(false,[.d (.int .i64 p.1)]),(false,[.d (.int .i64 p.2)])]
theorem OD(op : Int)(l : List Int)(hop : 4≤op∧op≤22)(hl : (l.length : Int) = dq op) : CallA Tryz.prog 178 [.one (.d (.int .i64 op)),.one (.d (aL l))] [] (ie (bB op l)) []:=by
 have ha : (dq op == 0) = false:=by unfold dq; simp; omega
 have hn : (((l.map bD).length : Int) != dq op) = false:=by simp [hl]
 refine enter ae Tryz.func178 rfl (by decide +kernel) rfl fun hok w0 σ0 φ0 M=>?_
 have h1:=hok.2.1.sl.1; clear hok; simp only [List.length_map] at h1
 repeat' (first|(refine h1H ?_; (refine h0H ?_; first|refine aa J J J J J J J J (fq _) J ?_|refine aa J J J J J J J J (OE _ _ hop hl) J ?_))|refine wG ?_|(refine h1H ?_; (refine h5H ?_; refine aG J J J J (fun h=>?_) (fun h=>?_)))|(refine h4H ?_; first|refine ag J (fun h=>?_) (fun h=>?_)|refine aB 4 J [(0,_),(1,_)] (q2Q J J) (fun (k : Nat)=>[(6,.one (.d (.int .i64 k)))]) (fun (k : Nat)=>k≤l.length∧l.all kQ = (l.drop k).all kQ) (fun (k : Nat)=>l.length - k) 0 (q1Q J) ?_ (fun k ⟨hk,hs⟩=>?_))|(show Exists _; refine Exists.intro (k + 1) ⟨?_,?_,wK,(q1Q J),(q2Q J J)⟩))
 all_goals clear ha hn hl hop
 all_goals (try (((simp_all [bB,kQ,ie,am,List.drop_eq_nil_of_le]) <;> exact wL); done))
theorem ed(op : Int)(l : List Int)(n : Int)(k d : D)(f : FuncId)(caps : List D)(b : Bool)
  (h226 : CallA Tryz.prog 226 [.one (.d (.int .i64 op)),.one (.d (.int .i64 (l.map bD).length))] [] (.tup [(true,[.d (.int .i64 n),.d k,.d (.fn f caps),.d (.bool b),.d d]),(false,[.d (.bool true)])]) [])
  (hf : CallA Tryz.prog f (.one (.d (aL l))::caps.map fun x=>.one (.d x)) [] (.one (.d (.int .i64 (cn op (at_ l 0) (at_ l 1) (at_ l 2))))) []) :
  CallA Tryz.prog 175 [.one (.d (.int .i64 op)),.one (.d (aL l))] [] (ie (bB op l)) []:=by
 refine enter ae Tryz.func175 rfl (by decide +kernel) rfl fun hok w0 σ0 φ0 M=>?_
 have h1:=hok.2.1.sl.1; clear hok; simp only [List.length_map] at h1
 repeat' (first|(refine h1H ?_; (refine h0H ?_; first|refine aa J J J J J J J J (hf) J ?_|refine aw 16 J J J J J J J J (h226) J J J ?_))|refine wG ?_|(refine h1H ?_; (refine h5H ?_; refine aG J J J J (fun h=>?_) (fun h=>?_)))|(refine h4H ?_; first|refine ag J (fun h=>?_) (fun h=>?_)|refine aB 5 J [(1,_),(6,_),(20,_),(21,_)] (q4Q J J J J) (fun (k : Nat)=>[(22,.one (.d (.int .i64 k)))]) (fun (k : Nat)=>k≤l.length∧l.all kQ = (l.drop k).all kQ) (fun (k : Nat)=>l.length - k) 0 (q1Q J) ?_ (fun k ⟨hk,hs⟩=>?_))|(show Exists _; refine Exists.intro (k + 1) ⟨?_,?_,wK,(q1Q J),(q4Q J J J J)⟩))
 all_goals (try (((simp_all [bB,kQ,ie,am,List.drop_eq_nil_of_le]) <;> exact wL); done))
end Go.Proofs.YtpejdgkaapnekaaGreat
namespace Go.Proofs.YtpejdgkaapnekaaGreat
open Go Go.Abs
theorem bJ{l : List Int}(h : (l.length : Int) = 2) : ((l.length : Int) - 2).toNat = 0∧((l.length : Int) - 1).toNat = 1:=by omega
theorem wj{l : List Int}(h : (l.length : Int) = 3) : ((l.length : Int) - 2).toNat = 1∧((l.length : Int) - 1).toNat = 2:=by omega
theorem jN{a b : Int} : (if dg a = true then b8 a b else 0) = if dg a = true∧dg b = true then b8 a b else 0:=by
 unfold b8
 by_cases ha : dg a = true <;> by_cases hb : dg b = true <;> simp [ha,hb]
 intro h; subst h; exact absurd ha hb
theorem CB{a b : Int}(ha : dg a = true)(hb : dg b = true) : b8 a b≠0:=by
 have h0 : a≠0:=by rintro rfl; simp [dg] at ha
 unfold b8; split
 ·exact h0
 ·simp [ha,hb]
theorem Ob(op : Int)(l : List Int)(hop : 4≤op∧op≤22)(hl : (l.length : Int) = dq op) : CallA Tryz.prog 175 [.one (.d (.int .i64 op)),.one (.d (aL l))] [] (ie (bB op l)) []:=by
 have hlen : ∀ n : Int,(l.length : Int) = n→(((l.map bD).length : Nat) : Int) = n:=by intro n h; simpa using h
 have go : ∀ {f : FuncId} {caps : List D} {t t' : Int},CallA Tryz.prog f (.one (.d (aL l))::caps.map fun x=>.one (.d x)) [] (.one (.d (.int .i64 t))) []→t = t'→CallA Tryz.prog f (.one (.d (aL l))::caps.map fun x=>.one (.d x)) [] (.one (.d (.int .i64 t'))) []:=by
  intro f caps t t' h e; rwa [e] at h
 rcases oC hop with rfl | rfl | rfl | rfl | rfl | rfl | rfl | rfl | rfl | rfl | rfl | rfl | rfl | rfl | rfl | rfl | rfl | rfl | rfl <;> simp [dq] at hl
 ·exact ed _ _ _ _ _ _ _ _ (by rw [hlen 1 (by omega)]; exact Ep) (go (caps:=[]) (M6 l (by omega)) (by simp [cn]))
 ·exact ed _ _ _ _ _ _ _ _ (by rw [hlen 1 (by omega)]; exact Er) (go (caps:=[]) (Jg l (by omega)) (by simp [cn]))
 ·exact ed _ _ _ _ _ _ _ _ (by rw [hlen 1 (by omega)]; exact Es) (go (caps:=[.ptr [.fn 300 []]]) (M9 l (by omega)) (by
   simp only [cn]
   by_cases h : dg (at_ l 0) = true
   ·simp [h]
    simp [dg] at h
    omega
   ·simp [h]; rfl))
 ·exact ed _ _ _ _ _ _ _ _ (by rw [hlen 1 (by omega)]; exact Et) (go (caps:=[.ptr [.int .i64 1]]) (Jf (aL l) 1) (by simp [cn]))
 ·exact ed _ _ _ _ _ _ _ _ (by rw [hlen 1 (by omega)]; exact Eu) (go (caps:=[.ptr [.int .i64 2]]) (Jf (aL l) 2) (by simp [cn]))
 ·exact ed _ _ _ _ _ _ _ _ (by rw [hlen 2 (by omega)]; exact Ev) (go (caps:=[]) (BK l (by omega)) (by rw [(bJ hl).1,(bJ hl).2,jN]; simp [cn]))
 ·exact ed _ _ _ _ _ _ _ _ (by rw [hlen 2 (by omega)]; exact AJ) (go (caps:=[]) (BK l (by omega)) (by rw [(bJ hl).1,(bJ hl).2,jN]; simp [cn]))
 ·exact ed _ _ _ _ _ _ _ _ (by rw [hlen 2 (by omega)]; exact AK) (go (caps:=[]) (BK l (by omega)) (by rw [(bJ hl).1,(bJ hl).2,jN]; simp [cn]))
 ·exact ed _ _ _ _ _ _ _ _ (by rw [hlen 2 (by omega)]; exact AL) (go (caps:=[]) (M8 l (by omega)) (by
   rw [(bJ hl).1,(bJ hl).2,jN]
   by_cases h : dg (at_ l 0) = true∧dg (at_ l 1) = true
   ·rw [if_pos h,if_neg (CB h.1 h.2)]; simp [cn,h]
   ·rw [if_neg h]; simp [cn]; intro a; cases hb : dg (at_ l 1) with | false=>rfl | true=>exact absurd ⟨a,hb⟩ h))
 ·exact ed _ _ _ _ _ _ _ _ (by rw [hlen 2 (by omega)]; exact AM) (go (caps:=[]) (ut l (by omega)) (by rw [(bJ hl).1,(bJ hl).2]; simp [cn]))
 ·exact ed _ _ _ _ _ _ _ _ (by rw [hlen 2 (by omega)]; exact AN) (go (caps:=[]) (ut l (by omega)) (by rw [(bJ hl).1,(bJ hl).2]; simp [cn]))
 ·exact ed _ _ _ _ _ _ _ _ (by rw [hlen 2 (by omega)]; exact AO) (go (caps:=[]) (ut l (by omega)) (by rw [(bJ hl).1,(bJ hl).2]; simp [cn]))
 ·exact ed _ _ _ _ _ _ _ _ (by rw [hlen 2 (by omega)]; exact AP) (go (caps:=[]) (ut l (by omega)) (by rw [(bJ hl).1,(bJ hl).2]; simp [cn]))
 ·exact ed _ _ _ _ _ _ _ _ (by rw [hlen 2 (by omega)]; exact AQ) (go (caps:=[]) (ut l (by omega)) (by rw [(bJ hl).1,(bJ hl).2]; simp [cn]))
 ·exact ed _ _ _ _ _ _ _ _ (by rw [hlen 2 (by omega)]; exact AR) (go (caps:=[]) (ut l (by omega)) (by rw [(bJ hl).1,(bJ hl).2]; simp [cn]))
 ·exact ed _ _ _ _ _ _ _ _ (by rw [hlen 2 (by omega)]; exact AS) (go (caps:=[]) (Jh l (by omega)) (by
   rw [(bJ hl).1,(bJ hl).2]
   by_cases h : at_ l 0 = 1 <;> by_cases h2 : at_ l 1 = 1 <;> simp [cn,b8,h,h2,dg]
   intro e; omega))
 ·exact ed _ _ _ _ _ _ _ _ (by rw [hlen 2 (by omega)]; exact AT) (go (caps:=[]) (Jh l (by omega)) (by
   rw [(bJ hl).1,(bJ hl).2]
   by_cases h : at_ l 0 = 1 <;> by_cases h2 : at_ l 1 = 1 <;> simp [cn,b8,h,h2,dg]
   intro e; omega))
 ·exact ed _ _ _ _ _ _ _ _ (by rw [hlen 2 (by omega)]; exact AU) (go (caps:=[]) (xQ l (by omega)) (by rw [(bJ hl).1,(bJ hl).2]; simp [cn]))
 ·exact ed _ _ _ _ _ _ _ _ (by rw [hlen 3 (by omega)]; exact AW) (go (caps:=[]) (M7 l (by omega)) (by rw [(wj hl).1,(wj hl).2]; simp [cn]))
end Go.Proofs.YtpejdgkaapnekaaGreat
namespace Go.Proofs.YtpejdgkaapnekaaGreat
open Go Go.Abs
attribute [local irreducible] ac OkC ao ax ap aJ
set_option maxRecDepth 10000
def qE(k n d : Int)(s : List UInt8) : Int:=if fj k n d s 1 then 1 else if fj k n d s 2 then 2 else if fj k n d s 3 then 3 else 4
theorem Oa(k n d : Int)(s : List UInt8) : CallA Tryz.prog 174 [.agg [.d (.int .i64 k),.d (.int .i64 n),.d (.int .i64 d),.d (.str s)]] [] (.one (.d (.int .i64 (qE k n d s)))) []:=by
 refine enter ae Tryz.func174 rfl (by decide +kernel) rfl fun hok w0 σ0 φ0 M=>?_
 clear hok
 repeat' (first|(refine h1H ?_; (refine h0H ?_; refine aa J J J J J J J J (I7 _ _ _ _ _) J ?_))|refine wG ?_|(refine h4H ?_; first|refine ag J (fun h=>?_) (fun h=>?_)|refine pK 2 J 4 ?_))
 all_goals (try (((simp_all [qE,am,List.drop_eq_nil_of_le]) <;> exact wL); done))
end Go.Proofs.YtpejdgkaapnekaaGreat
namespace Go.Proofs.YtpejdgkaapnekaaGreat
open Go Go.Abs
def atI(ats : List Attr)(name : List UInt8) : Int:=aV (fun a : Attr=>a.name == name) ats 0
def lj(ds : List Dim)(name : List UInt8) : Int:=aV (fun a : Dim=>a.name == name) ds 0
def iR(ats : List Attr)(name : List UInt8) : Int×Int:=if atI ats name < 0 then (0,11) else ((at_ ats (atI ats name).toNat).type,0)
def kE(ds : List Dim)(name : List UInt8) : Int×Int:=if lj ds name < 0 then (0,11) else (2,0)
mutual
def ce(cst : Val→Int)(ds : List Dim)(ats : List Attr) : Scalar→Int×Int
 | .mk o n v a=>if o = 1 then (cst v,0) else if o = 2 then iR ats n else if o = 3 then kE ds n else
   match bX cst ds ats a with
   | .inl e=>(0,e)
   | .inr l=>bB o l
def bX(cst : Val→Int)(ds : List Dim)(ats : List Attr) : List Scalar→Sum Int (List Int)
 | []=>.inr []
 | x::r=>if (ce cst ds ats x).2≠0 then .inl (ce cst ds ats x).2 else
   match bX cst ds ats r with
   | .inl e=>.inl e
   | .inr l=>.inr ((ce cst ds ats x).1::l)
end
theorem kf{cst : Val→Int}{ds : List Dim}{ats : List Attr} : ∀ {s : Scalar},ce cst ds ats s = if s.op = 1 then (cst s.val,0) else if s.op = 2 then iR ats s.name else if s.op = 3 then kE ds s.name else
  match bX cst ds ats s.args with
  | .inl e=>(0,e)
  | .inr l=>bB s.op l
 | .mk _ _ _ _=>by simp only [ce,Scalar.op,Scalar.name,Scalar.val,Scalar.args]; rfl
theorem vS{cst : Val→Int}{ds : List Dim}{ats : List Attr} : ∀ {a : List Scalar} {l : List Int},bX cst ds ats a = .inr l→l.length = a.length
 | [],l,h=>by simp [bX] at h; subst h; rfl
 | x::r,l,h=>by
   simp only [bX] at h
   split at h
   ·cases h
   ·split at h
    ·cases h
    ·rename_i l2 h2
     cases h
     simp [vS h2]
def du(v : Val) : Int:=qE v.kind v.num v.den v.str
def gt(v : Val) : Int:=if v.kind = 1 then 1 else if v.kind = 3 then 4 else if v.den = 1 then 2 else 3
theorem Jr{v : Val}(h : dm v.kind v.num v.den v.str = true)(h0 : v.kind≠0) : du v = gt v:=by
 have hf : ∀ t,fj v.kind v.num v.den v.str t = (decide (1≤t) && (decide (t≤4) && (if v.kind = 0 then true else if v.kind = 1 then t == 1 else if v.kind = 2 then t == 3 || t == 2 && v.den == 1 else t == 4))):=by
  intro t; unfold fj; rw [h,Bool.true_and]
 have hk : v.kind = 1∨v.kind = 2∨v.kind = 3:=by
  unfold dm at h
  by_cases h1 : v.kind = 1
  ·exact .inl h1
  ·by_cases h2 : v.kind = 2
   ·exact .inr (.inl h2)
   ·by_cases h3 : v.kind = 3
    ·exact .inr (.inr h3)
    ·simp [h0,h1,h2,h3] at h
 unfold du gt qE
 rw [hf,hf,hf]
 rcases hk with hk | hk | hk <;> rw [hk] <;> simp
 all_goals (by_cases hd : v.den = 1 <;> simp [hd])
theorem vT{f g : Val→Int}{ds : List Dim}{ats : List Attr} : ∀ {l : List Scalar},(∀ x∈l,ce f ds ats x = ce g ds ats x)→bX f ds ats l = bX g ds ats l
 | [],_=>rfl
 | x::r,h=>by
   simp only [bX,h x (by simp),vT fun y hy=>h y (List.mem_cons_of_mem _ hy)]
theorem fV : ∀ {l : List Scalar},gV l = true→∀ x∈l,cW x = true
 | [],_,x,h=>by simp at h
 | y::r,h,x,hx=>by
   simp only [gV,Bool.and_eq_true] at h
   rcases List.mem_cons.1 hx with rfl | hx
   ·exact h.1
   ·exact fV h.2 x hx
theorem BP{s : Scalar}(h : cL s = true)(ho : s.op = 1) : dm s.val.kind s.val.num s.val.den s.val.str = true∧s.val.kind≠0:=by
 unfold cL at h
 rw [if_pos ho] at h
 simp only [Bool.and_eq_true,Bool.not_eq_true',beq_eq_false_iff_ne] at h
 exact ⟨h.1,h.2.1⟩
theorem FQ{ds : List Dim}{ats : List Attr}(s : Scalar) : cW s = true→ce du ds ats s = ce gt ds ats s:=by
 induction s using Scalar.ind with
 | h s ih =>
   intro h
   rw [eV,Bool.and_eq_true] at h
   rw [kf,kf,vT (f:=du) (g:=gt) fun x hx=>ih x hx (fV h.2 x hx)]
   by_cases ho : s.op = 1
   ·rw [if_pos ho,if_pos ho]
    obtain ⟨h1,h2⟩:=BP h.1 ho
    rw [Jr h1 h2]
   ·rw [if_neg ho,if_neg ho]
theorem jl{s : Scalar}(h : cL s = true)(h1 : s.op≠1)(h2 : s.op≠2)(h3 : s.op≠3) : (4≤s.op∧s.op≤22)∧(s.args.length : Int) = dq s.op:=by
 unfold cL at h
 rw [if_neg h1,if_neg (by rintro (h | h); exact h2 h; exact h3 h)] at h
 simp only [Bool.and_eq_true,decide_eq_true_eq,beq_iff_eq] at h
 refine ⟨?_,h.2.2.2⟩
 have:=h.1
 unfold dq at this
 omega
def F88(ds : List Dim)(ats : List Attr)(a : List Int×Bool×Int)(x : Scalar) : Bool×(List Int×Bool×Int) :=
 let push:=fun (l : List Int) (p : Int×Int)=>if p.2≠0 then (false,(a.1,true,p.2)) else (true,(l ++ [p.1],false,(0 : Int)))
 if x.op = 1 then push a.1 (du x.val,0) else if x.op = 2 then push a.1 (iR ats x.name) else if x.op = 3 then push a.1 (kE ds x.name) else
  push (a.1.take (a.1.length - x.args.length)) (bB x.op (a.1.drop (a.1.length - x.args.length)))
def oy(a : List Int×Bool×Int)(x : Scalar) : Prop:=a.2.1 = false∧a.2.2 = 0∧cL x = true∧a.1.length≤64∧(4≤x.op→x.args.length≤a.1.length)
theorem mach_list{ds : List Dim}{ats : List Attr} : ∀ {r : List Scalar},
  (∀ x∈r,∀ l : List Int,l.length + (aS x).length≤65→cT (F88 ds ats) oy (aS x) (l,false,0)∧(if (ce du ds ats x).2 = 0 then bt (F88 ds ats) (aS x) (l,false,0) = (true,(l ++ [(ce du ds ats x).1],false,0)) else ∃ l',bt (F88 ds ats) (aS x) (l,false,0) = (false,(l',true,(ce du ds ats x).2)))) →
  ∀ l : List Int,l.length + (aO r).length≤65→cT (F88 ds ats) oy (aO r) (l,false,0)∧(match bX du ds ats r with
    | .inr ts=>bt (F88 ds ats) (aO r) (l,false,0) = (true,(l ++ ts,false,0))
    | .inl e=>e≠0∧∃ l',bt (F88 ds ats) (aO r) (l,false,0) = (false,(l',true,e)))
 | [],_,l,hl=>⟨trivial,by simp [bX,aO,bt]⟩
 | x::r,h,l,hl=>by
   have hp : 1≤(aS x).length:=by rw [dB]; simp
   simp only [aO,List.length_append] at hl
   obtain ⟨h1,h2⟩:=h x (by simp) l (by omega)
   simp only [aO,bX]
   by_cases hz : (ce du ds ats x).2 = 0
   ·rw [if_pos hz] at h2
    have ih:=mach_list (r:=r) (fun y hy=>h y (List.mem_cons_of_mem _ hy)) (l ++ [(ce du ds ats x).1]) (by simp; omega)
    rw [eA,h2]
    simp only [if_true,hz,ne_eq,not_true_eq_false,if_false]
    refine ⟨okRun_of_app h1 (fun _=>by rw [h2]; exact ih.1),?_⟩
    have ih2:=ih.2
    cases ht : bX du ds ats r with
    | inl e=>rw [ht] at ih2; exact ih2
    | inr ts=>rw [ht] at ih2; simpa using ih2
   ·rw [if_neg hz] at h2
    obtain ⟨l',h2⟩:=h2
    rw [eA,h2]
    simp only [Bool.false_eq_true,if_false,hz,ne_eq,not_false_eq_true,if_true]
    exact ⟨okRun_of_app h1 (fun h=>by rw [h2] at h; cases h),trivial,l',rfl⟩
where
 okRun_of_app : ∀ {l m : List Scalar} {a : List Int×Bool×Int},cT (F88 ds ats) oy l a→((bt (F88 ds ats) l a).1 = true→cT (F88 ds ats) oy m (bt (F88 ds ats) l a).2)→cT (F88 ds ats) oy (l ++ m) a
  | [],_,_,_,h=>h rfl
  | x::l,m,a,h1,h2=>by
    simp only [List.cons_append,cT] at h1 ⊢
    refine ⟨h1.1,fun hx=>okRun_of_app (h1.2 hx) fun h=>?_⟩
    have e : bt (F88 ds ats) (x::l) a = bt (F88 ds ats) l (F88 ds ats a x).2:=by simp only [bt]; rw [if_pos hx]
    rw [e] at h2; exact h2 h
theorem lx : ∀ {r : List Scalar},r.length≤(aO r).length
 | []=>Nat.le_refl _
 | x::r=>by
   have:=lx (r:=r)
   have hp : 1≤(aS x).length:=by rw [dB]; simp
   simp only [aO,List.length_append,List.length_cons]; omega
theorem sd{s : Scalar}(h : cL s = true)(h3 : s.op = 1∨s.op = 2∨s.op = 3) : s.args = []:=by
 have : s.args.length = 0:=by
  unfold cL at h
  by_cases h1 : s.op = 1
  ·rw [if_pos h1] at h
   simp only [Bool.and_eq_true,beq_iff_eq] at h
   omega
  ·rw [if_neg h1,if_pos (by omega)] at h
   simp only [Bool.and_eq_true,beq_iff_eq] at h
   omega
 exact List.length_eq_zero_iff.1 this
theorem NP{ds : List Dim}{ats : List Attr}(s : Scalar) : cW s = true→∀ l : List Int,l.length + (aS s).length≤65→cT (F88 ds ats) oy (aS s) (l,false,0) ∧
  (if (ce du ds ats s).2 = 0 then bt (F88 ds ats) (aS s) (l,false,0) = (true,(l ++ [(ce du ds ats s).1],false,0)) else ∃ l',bt (F88 ds ats) (aS s) (l,false,0) = (false,(l',true,(ce du ds ats s).2))):=by
 induction s using Scalar.ind with
 | h s ih =>
   intro hp l hl
   rw [eV,Bool.and_eq_true] at hp
   have hL:=mach_list (ds:=ds) (ats:=ats) (r:=s.args) (fun x hx l hl=>ih x hx (fV hp.2 x hx) l hl)
   rw [dB] at hl ⊢
   simp only [List.length_append,List.length_cons,List.length_nil] at hl
   by_cases h3 : s.op = 1∨s.op = 2∨s.op = 3
   ·have ha : s.args = []:=sd hp.1 h3
    have hok : oy (l,false,0) s:=⟨rfl,rfl,hp.1,by show l.length≤64; omega,fun h=>by omega⟩
    have hF : F88 ds ats (l,false,0) s = if (ce du ds ats s).2≠0 then (false,(l,true,(ce du ds ats s).2)) else (true,(l ++ [(ce du ds ats s).1],false,0)):=by
     rw [kf]; simp only [F88]
     rcases h3 with h3 | h3 | h3 <;> simp [h3]
    rw [ha]
    simp only [aO,List.nil_append,cT,bt]
    rw [hF]
    refine ⟨⟨hok,fun _=>trivial⟩,?_⟩
    by_cases hz : (ce du ds ats s).2 = 0
    ·rw [if_pos hz]; simp [hz]
    ·rw [if_neg hz]; exact ⟨l,by simp [hz]⟩
   ·obtain ⟨hop,hlen⟩:=jl hp.1 (fun h=>h3 (.inl h)) (fun h=>h3 (.inr (.inl h))) (fun h=>h3 (.inr (.inr h)))
    obtain ⟨h4,h5⟩:=hL l (by omega)
    rw [kf,if_neg (fun h=>h3 (.inl h)),if_neg (fun h=>h3 (.inr (.inl h))),if_neg (fun h=>h3 (.inr (.inr h)))]
    cases ht : bX du ds ats s.args with
    | inl e =>
      rw [ht] at h5
      obtain ⟨he,l',h5⟩:=h5
      refine ⟨mach_list.okRun_of_app h4 (fun h=>by rw [h5] at h; cases h),?_⟩
      simp only
      rw [if_neg he,eA,h5]
      exact ⟨l',by simp⟩
    | inr ts =>
      rw [ht] at h5
      simp only at h5
      have hts:=vS ht
      have hle:=lx (r:=s.args)
      have hF : F88 ds ats (l ++ ts,false,0) s = if (bB s.op ts).2≠0 then (false,(l ++ ts,true,(bB s.op ts).2)) else (true,(l ++ [(bB s.op ts).1],false,0)):=by
       have hd : (l ++ ts).length - s.args.length = l.length:=by simp [hts]
       simp only [F88]
       rw [if_neg (fun h=>h3 (.inl h)),if_neg (fun h=>h3 (.inr (.inl h))),if_neg (fun h=>h3 (.inr (.inr h))),hd]
       simp
      refine ⟨mach_list.okRun_of_app h4 (fun _=>?_),?_⟩
      ·rw [h5]
       exact ⟨⟨rfl,rfl,hp.1,by simp; omega,fun _=>by simp [hts]⟩,fun _=>trivial⟩
      ·simp only
       rw [eA,h5]
       simp only [if_true,bt,hF]
       by_cases hz : (bB s.op ts).2 = 0
       ·rw [if_pos hz]; simp [hz]
       ·rw [if_neg hz]; exact ⟨l ++ ts,by simp [hz]⟩
theorem fh{α : Type}{p : α→Bool} : ∀ {l : List α} {k : Nat},0≤aV p l k→(k : Int)≤aV p l k∧aV p l k < k + l.length
 | [],k,h=>by simp [aV] at h
 | x::r,k,h=>by
   simp only [aV] at h ⊢
   split at h
   ·rename_i hx; rw [if_pos hx]; simp only [List.length_cons]; omega
   ·rename_i hx; rw [if_neg hx]
    have:=fh (l:=r) (k:=k + 1) h
    simp only [List.length_cons]; omega
theorem BQ{o : Int}{l : List Int}(h : (bB o l).2≠0) : (bB o l).1 = 0:=by
 unfold bB at h ⊢
 by_cases h4 : l.all kQ = true
 ·rw [if_pos h4] at h ⊢
  by_cases h5 : cn o (at_ l 0) (at_ l 1) (at_ l 2) = 0
  ·rw [if_pos h5]
  ·rw [if_neg h5] at h; simp at h
 ·rw [if_neg h4]
theorem FR{cst : Val→Int}{ds : List Dim}{ats : List Attr}{s : Scalar}(h : (ce cst ds ats s).2≠0) : (ce cst ds ats s).1 = 0:=by
 rw [kf] at h ⊢
 split
 ·rename_i h1; rw [if_pos h1] at h; simp at h
 ·rename_i h1; rw [if_neg h1] at h
  split
  ·rename_i h2; rw [if_pos h2] at h; unfold iR at h ⊢; split <;> simp_all
  ·rename_i h2; rw [if_neg h2] at h
   split
   ·rename_i h3; rw [if_pos h3] at h; unfold kE at h ⊢; split <;> simp_all
   ·rename_i h3; rw [if_neg h3] at h
    cases ht : bX cst ds ats s.args with
    | inl e=>rfl
    | inr l=>rw [ht] at h; exact BQ h
def af : List Int→Int
 | []=>0
 | d::r=>d + 4294967296 * af r
def Dg(l : List Int) : Prop:=∀ d∈l,0≤d∧d < 4294967296
def dig(n : Nat) : List Int:=if h : n = 0 then [] else ((n % 4294967296 : Nat) : Int)::dig (n / 4294967296)
 termination_by n
 decreasing_by omega
def pw(k : Nat) : Int:=4294967296 ^ k
theorem c5(k : Nat) : pw (k + 1) = 4294967296 * pw k:=by unfold pw; rw [Int.pow_succ,Int.mul_comm]
theorem lK : pw 0 = 1:=rfl
theorem ez(k : Nat) : 0 < pw k:=by
 induction k with
 | zero=>decide
 | succ k ih=>rw [c5]; omega
theorem gF(a b : Nat) : pw (a + b) = pw a * pw b:=by unfold pw; rw [Int.pow_add]
theorem jT : ∀ {a b : List Int},af (a ++ b) = af a + pw a.length * af b
 | [],b=>by simp [af,lK]
 | d::a,b=>by
   simp only [List.cons_append,af,jT (a:=a) (b:=b),List.length_cons,c5,Int.mul_add,Int.mul_assoc]
   omega
theorem Dg.cons{d : Int}{r : List Int}(h : Dg (d::r)) : (0≤d∧d < 4294967296)∧Dg r:=⟨h d List.mem_cons_self,fun x hx=>h x (List.mem_cons_of_mem _ hx)⟩
theorem Dg.at{l : List Int}(h : Dg l){i : Nat}(hi : i < l.length) : 0≤at_ l i∧at_ l i < 4294967296:=h _ (bM hi)
theorem Dg.take{l : List Int}(h : Dg l)(n : Nat) : Dg (l.take n):=fun d hd=>h d (List.mem_of_mem_take hd)
theorem Dg.drop{l : List Int}(h : Dg l)(n : Nat) : Dg (l.drop n):=fun d hd=>h d (List.mem_of_mem_drop hd)
theorem dh : ∀ {l : List Int},Dg l→0≤af l∧af l < pw l.length
 | [],_=>by simp [af,lK]
 | d::r,h=>by
   obtain ⟨h1,h2⟩:=h.cons
   have:=dh h2
   simp only [af,List.length_cons,c5]
   omega
theorem fg : dig 0 = []:=by rw [dig]; simp
theorem kn{n : Nat}(h : n≠0) : dig n = ((n % 4294967296 : Nat) : Int)::dig (n / 4294967296):=by rw [dig]; simp [h]
theorem cm : ∀ (n : Nat),Dg (dig n)∧af (dig n) = n∧(dig n = []∨at_ (dig n) ((dig n).length - 1)≠0):=by
 intro n
 induction n using Nat.strongRecOn with
 | _ n ih =>
   by_cases h : n = 0
   ·subst h; rw [fg]; exact ⟨fun d hd=>by simp at hd,rfl,.inl rfl⟩
   ·obtain ⟨i1,i2,i3⟩:=ih (n / 4294967296) (by omega)
    rw [kn h]
    refine ⟨fun d hd=>?_,?_,.inr ?_⟩
    ·rcases List.mem_cons.1 hd with rfl | hd
     ·omega
     ·exact i1 d hd
    ·simp only [af,i2]; omega
    ·rcases i3 with i3 | i3
     ·rw [i3]
      have h0 : n / 4294967296 = 0:=by rw [i3] at i2; simp only [af] at i2; omega
      show ((n % 4294967296 : Nat) : Int)≠0
      omega
     ·cases hd : dig (n / 4294967296) with
      | nil =>
        rw [hd] at i2; simp only [af] at i2
        show ((n % 4294967296 : Nat) : Int)≠0
        omega
      | cons e r =>
        rw [hd] at i3
        show at_ (_::e::r) (r.length + 1)≠0
        exact i3
theorem rT : ∀ {l : List Int},Dg l→(l = []∨at_ l (l.length - 1)≠0)→dig (af l).toNat = l
 | [],_,_=>by simp [af,fg]
 | d::r,h,hl=>by
   obtain ⟨h1,h2⟩:=h.cons
   have hb:=(dh h2).1
   have hr : r = []∨at_ r (r.length - 1)≠0:=by
    cases r with
    | nil=>exact .inl rfl
    | cons e s=>exact .inr (by rcases hl with hl | hl; · cases hl
                               ·exact hl)
   have ih:=rT h2 hr
   have hne : af (d::r)≠0:=by
    intro h0
    simp only [af] at h0
    have hd : d = 0:=by omega
    have hz : af r = 0:=by omega
    rw [hz] at ih
    have hr0 : r = []:=by rw [← ih]; simpa using fg
    subst hr0
    rcases hl with hl | hl
    ·cases hl
    ·exact hl hd
   have hn : (af (d::r)).toNat≠0:=by simp only [af] at hne ⊢; omega
   rw [kn hn]
   have e1 : (af (d::r)).toNat / 4294967296 = (af r).toNat:=by simp only [af]; omega
   have e2 : (((af (d::r)).toNat % 4294967296 : Nat) : Int) = d:=by simp only [af]; omega
   rw [e1,e2,ih]
theorem yF{l : List Int}{k : Nat}(h : Dg l)(hk : k≤l.length)(hv : af (l.take k) = af l)(hl : k = 0∨at_ l (k - 1)≠0) : dig (af l).toNat = l.take k:=by
 rw [← hv]
 refine rT (h.take k) ?_
 rcases hl with hl | hl
 ·subst hl; exact .inl (by simp)
 ·by_cases h0 : k = 0
  ·subst h0; exact .inl (by simp)
  ·refine .inr ?_
   rw [List.length_take,Nat.min_eq_left hk,sw (by omega)]
   exact hl
theorem bm{l : List Int}{k : Nat}(h : k < l.length) : af (l.take (k + 1)) = af (l.take k) + pw k * at_ l k:=by
 rw [eO h,jT,List.length_take,Nat.min_eq_left (by omega)]; simp [af]
theorem vC{l : List Int}{k : Nat}(h : k < l.length)(h0 : at_ l k = 0) : af (l.take (k + 1)) = af (l.take k):=by rw [bm h,h0]; simp
theorem ko{l : List Int}{k : Nat}{x : Int}(h : k < l.length) : af (l.set k x) = af l + pw k * (x - at_ l k):=by
 induction l generalizing k with
 | nil=>simp at h
 | cons d r ih =>
   cases k with
   | zero=>simp only [List.set_cons_zero,af,lK]; show _ = _ + 1 * (x - d); omega
   | succ k =>
     have:=ih (k:=k) (by simpa using h)
     simp only [List.set_cons_succ,af,this,c5,Int.mul_add,Int.mul_assoc]
     show _ = _ + 4294967296 * (pw k * (x - at_ r k))
     omega
theorem Dg.set{l : List Int}{k : Nat}{x : Int}(h : Dg l)(hx : 0≤x∧x < 4294967296) : Dg (l.set k x):=fun d hd=>by
 rcases List.mem_or_eq_of_mem_set hd with hd | rfl
 ·exact h d hd
 ·exact hx
theorem Dg.zeros(n : Nat) : Dg (List.replicate n 0):=fun d hd=>by rw [List.eq_of_mem_replicate hd]; omega
theorem Cv(n : Nat) : af (List.replicate n 0) = 0:=by
 induction n with
 | zero=>rfl
 | succ n ih=>simp [List.replicate_succ,af,ih]
theorem AI : ∀ {a b : List Int} {k : Nat},Dg a→Dg b→a.length = b.length→k < a.length→(∀ i,k < i→i < a.length→at_ a i = at_ b i)→at_ a k < at_ b k→af a < af b
 | x::a,y::b,k,ha,hb,hl,hk,he,h=>by
   obtain ⟨a1,a2⟩:=ha.cons
   obtain ⟨b1,b2⟩:=hb.cons
   have hl' : a.length = b.length:=by simpa using hl
   cases k with
   | zero =>
     have e : a = b:=gY hl' fun i hi=>he (i + 1) (by omega) (by simpa using hi)
     have h' : x < y:=h
     subst e; simp only [af]; omega
   | succ k =>
     have:=AI (k:=k) a2 b2 hl' (by simpa using hk) (fun i h1 h2=>he (i + 1) (by omega) (by simpa using h2)) h
     simp only [af]; omega
 | [],_,k,_,_,_,hk,_,_=>by simp at hk
 | _::_,[],k,_,_,hl,_,_,_=>by simp at hl
theorem yG{a b : List Int}(ha : Dg a)(hb : Dg b)(hn : b = []∨at_ b (b.length - 1)≠0)(hl : a.length < b.length) : af a < af b:=by
 have h1:=(dh ha).2
 have hne : b≠[]:=fun e=>by rw [e] at hl; simp at hl
 have hn':=hn.resolve_left hne
 have h2 : af b = af (b.take (b.length - 1)) + pw (b.length - 1) * at_ b (b.length - 1):=by
  have:=bm (l:=b) (k:=b.length - 1) (by omega)
  rwa [show b.length - 1 + 1 = b.length by omega,List.take_length] at this
 have h3:=(dh (hb.take (b.length - 1))).1
 have h4 : 1≤at_ b (b.length - 1):=by have:=hb.at (i:=b.length - 1) (by omega); omega
 have h5 : pw a.length≤pw (b.length - 1):=by
  obtain ⟨m,hm⟩ : ∃ m,b.length - 1 = a.length + m:=⟨b.length - 1 - a.length,by omega⟩
  rw [hm,gF]
  have:=Int.mul_le_mul_of_nonneg_left (show 1≤pw m by have:=ez m; omega) (Int.le_of_lt (ez a.length))
  omega
 have h6:=Int.mul_le_mul_of_nonneg_left h4 (Int.le_of_lt (ez (b.length - 1)))
 omega
def atX(ats : List Attr)(name : List UInt8) : Int:=aV (fun a : Attr=>a.name == name) ats 0
end Go.Proofs.YtpejdgkaapnekaaGreat
namespace Go.Proofs.YtpejdgkaapnekaaGreat
open Go Go.Abs
theorem lw{α : Type}{p : α→Bool} : ∀ {l : List α} {j : Nat},aV p l j < 0→∀ x∈l,p x = false
 | [],_,_,_,h=>by simp at h
 | x::l,j,h,y,hy=>by
   simp only [aV] at h
   split at h
   ·omega
   ·rename_i h1
    rcases List.mem_cons.1 hy with rfl | hy
    ·simpa using h1
    ·exact lw h y hy
section
variable {src kept : List (Int×Bool)} {ds : List Dim} {rule : Int}
end
theorem tC : ∀ {ats : List Attr} {vs : List Val},vs.length = ats.length→(f8 ats vs = 0↔∀ i,i < ats.length→fj (at_ vs i).kind (at_ vs i).num (at_ vs i).den (at_ vs i).str (at_ ats i).type = true)
 | [],[],_=>by simp [f8]
 | x::ats,v::vs,h=>by
   have ih:=tC (ats:=ats) (vs:=vs) (by simpa using h)
   simp only [f8]
   constructor
   ·intro h1 i hi
    split at h1
    ·omega
    ·rename_i h2
     cases i with
     | zero =>
       have h3 : fj v.kind v.num v.den v.str x.type = true:=by simpa using h2
       exact h3
     | succ i=>exact ih.1 h1 i (by simpa using hi)
   ·intro h1
    have h0 : fj v.kind v.num v.den v.str x.type = true:=h1 0 (by simp)
    rw [if_neg (by simp [h0])]
    exact ih.2 fun i hi=>h1 (i + 1) (by simpa using hi)
 | [],_::_,h=>by simp at h
 | _::_,[],h=>by simp at h
theorem Attr.ext{a b : Attr}(h1 : a.name = b.name)(h2 : a.type = b.type) : a = b:=by cases a; cases b; simp_all
end Go.Proofs.YtpejdgkaapnekaaGreat
namespace Go.Abs
open Go
variable {V : Env} {st : St} {o : Oper}
end Go.Abs
namespace Go.Abs
open Go
variable {P : Program} {V : Env} {st : St} {o : Oper}
theorem qe{t e : TypeId}{x y : Operand}{id m k k' b b' : Nat}{ik : IntKind}{i : Int}{xs : List (List D)}{z : List D}(ho : o.op = .indexAddr t x y)(ht : aR V.T t = some (e,k',b',z))(hx : ev st x = some (.one (.own id m)))
  (hl : look st.sto id = some (.row k b xs)) (hk : Nat.beq k k' = true) (hy : ev st y = some (.one (.d (.int ik i)))) (h0 : 0≤i) (hm : i < (m : Int)) : aQ V st o 0 = some ⟨.one (.rref id i.toNat 0),[],[]⟩:=by
 simp only [aQ,cF,bQ,ho,cj,oo,hx,hy,ht,hl,hk,h0,hm,decide_true,Bool.and_self,cond_true]
theorem db{t : TypeId}{x : Operand}{id j off k b s : Nat}{g : Bool}{xs : List (List D)}{el : List D}{v : AV}(ho : o.op = .load t x)(hx : ev st x = some (.one (.rref id j off)))(hT : iI V.T t = some (g,s))
  (hl : look st.sto id = some (.row k b xs)) (hj : xs[j]? = some el) (hv : eX g s ((el.drop off).map .d) = some v) : aQ V st o 0 = some ⟨v,[],[]⟩:=by
 simp only [aQ,cF,bQ,ho,cj,hx,hT,hl,kH,l0,fO,hj,hv]
theorem dI{t : TypeId}{x y : Operand}{id j off k b s : Nat}{g : Bool}{xs : List (List D)}{el el' ds : List D}{cs : List AC}{v : AV}(ho : o.op = .store t x y)(hd : o.dst = none)(hx : ev st x = some (.one (.rref id j off)))(hy : ev st y = some v)(hT : iI V.T t = some (g,s))
  (hl : look st.sto id = some (.row k b xs)) (hc : cellsOf v = some cs) (hs : Nat.beq cs.length s = true) (ha : eL cs = some ds) (hj : xs[j]? = some el) (hsp : cM off ds el = some el') : aQ V st o 0 = some ⟨.any,[(id,some (.row k b (xs.set j el')))],[]⟩:=by
 simp only [aQ,cF,bQ,ho,cj,hx,hy,hT,hl,hc,hs,ha,l5,fO,hj,hsp,cond_true]
 simp [hd,gq]
theorem uW{xs : List (List D)}{j : Nat}{el : List D}(h : j < xs.length) : (xs.set j el)[j]? = some el:=by simp [h]
theorem dJ{α : Type}[Inhabited α]{f : α→List D}{l : List α}{xs : List (List D)}{i : Nat}(h : xs = l.map f)(hi : i < xs.length) : xs[i]? = some (f (at_ l i)):=by
 subst h; exact iL (by simpa using hi)
theorem ca{t e : TypeId}{x y : Operand}{id n k b d : Nat}{i j : Int}{z : List D}(ho : o.op = .makeSlice t x y)(hd : o.dst = some d)(ht : aR V.T t = some (e,k,b,z))(hx : ev st x = some (.one (.d (.int .i64 i))))(hy : ev st y = some (.one (.d (.int .i64 j))))(hi : i = (n : Int))(hj : j = (n : Int))(hn : n≤1000)(hb : b≤100) :
  aQ V st o id = some ⟨.one (.own id n),[(id,some (.row k b (List.replicate n z)))],[id]⟩:=by
 subst hi; subst hj
 have h1 : Nat.ble (n * b) 1000000 = true:=Nat.ble_eq.mpr (Nat.le_trans (Nat.mul_le_mul hn hb) (by omega))
 have h2 : Nat.ble n 1000000 = true:=Nat.ble_eq.mpr (by omega)
 have h3 : (0 : Int)≤(n : Int):=Int.natCast_nonneg n
 simp only [aQ,cF,bQ,ho,cj,lh,hx,hy,ht,hd,gq,h3,decide_true,Int.toNat_natCast,h1,h2,Bool.and_self,cond_true]
end Go.Abs
namespace Go.Abs
open Go
variable {V : Env} {st : St} {o : Oper}
theorem j7{t e : TypeId}{x y : Operand}{k k' b b' : Nat}{ik : IntKind}{h : Int}{xs : List (List D)}{z : List D}(ho : o.op = .slice t x none (some y) none)(ht : aR V.T t = some (e,k',b',z))(hx : ev st x = some (.one (.d (.sl k b xs))))(hy : ev st y = some (.one (.d (.int ik h))))
  (hk : Nat.beq k k' = true) (h0 : 0≤h) (hm : h.toNat≤xs.length) : aQ V st o 0 = some ⟨.one (.d (.sl k b (xs.take h.toNat))),[],[]⟩:=by
 have e1 : Nat.ble h.toNat xs.length = true:=Nat.ble_eq.mpr hm
 have e0 : Nat.ble 0 h.toNat = true:=Nat.ble_eq.mpr (Nat.zero_le _)
 simp only [aQ,cF,bQ,ho,cj,fG,hx,hy,h0,decide_true,cond_true,fH,ht,hk,e0,e1,Bool.and_self,List.drop_zero]
theorem nC{t e : TypeId}{x y : Operand}{k k' b b' : Nat}{ik : IntKind}{h : Int}{xs : List (List D)}{z : List D}(ho : o.op = .slice t x (some y) none none)(ht : aR V.T t = some (e,k',b',z))(hx : ev st x = some (.one (.d (.sl k b xs))))(hy : ev st y = some (.one (.d (.int ik h))))
  (hk : Nat.beq k k' = true) (h0 : 0≤h) (hm : h.toNat≤xs.length) : aQ V st o 0 = some ⟨.one (.d (.sl k b (xs.drop h.toNat))),[],[]⟩:=by
 have e1 : Nat.ble h.toNat xs.length = true:=Nat.ble_eq.mpr hm
 have e2 : Nat.ble xs.length xs.length = true:=Nat.ble_eq.mpr (Nat.le_refl _)
 simp only [aQ,cF,bQ,ho,cj,fG,hx,hy,h0,decide_true,cond_true,fH,ht,hk,e1,e2,Bool.and_self,List.take_length]
end Go.Abs
namespace Go.Proofs.YtpejdgkaapnekaaGreat
open Go Go.Abs
attribute [local irreducible] ac OkC ao ax ap aJ
set_option maxRecDepth 10000
def ak(d : Int) : List D:=[.int .u32 d]
def cy(l : List Int) : D:=.sl 1 4 (l.map ak)
def bk(n : Nat) : D:=cy (dig n)
theorem y8{l : List Int}{p2 : List (List D)}{k j : Nat}(hr : p2 = (l.map ak).take k)(hk : k≤l.length)(hj : j < k) : p2[j]? = some (ak (at_ l j)):=by
 rw [hr,List.getElem?_take_of_lt hj]; exact iL (by omega)
theorem Jl(l : List Int)(h : Dg l) : CallA Tryz.prog 374 [.one (.d (cy l))] [] (.one (.d (bk (af l).toNat))) []:=by
 refine enter ae Tryz.func374 rfl (by decide +kernel) rfl fun hok w0 σ0 φ0 M=>?_
 have h1:=(OkD.sl hok.1).1
 clear hok
 simp only [List.length_map] at h1
 repeat' (first|(refine h1H ?_; (refine h9H ?_; refine s_e aq J J J (j7 J J J J J wB wB) ?_))|(refine h1H ?_; (refine xL ?_; refine s_e aq J J J (c3 J J J J J wB (y8 hr hk wB)) ?_))|refine wG ?_|(refine h1H ?_; (refine h5H ?_; refine aG J J J J (fun h=>?_) (fun h=>?_)))|(refine h4H ?_; first|refine ag J (fun h=>?_) (fun h=>?_)|refine aB 1 J [] aT (fun (p : Nat×List (List D))=>[(0,.one (.d (.sl 1 4 p.2)))]) (fun (p : Nat×List (List D))=>p.1≤l.length∧p.2.length = p.1∧p.2 = (l.map ak).take p.1∧af (l.take p.1) = af l) (fun (p : Nat×List (List D))=>p.1) (l.length,l.map ak) (q1Q J) ?_ (fun p ⟨hk,hq,hr,hv⟩=>?_))|(show Exists _; refine Exists.intro ((p.1 - 1,p.2.take (Int.toNat ((p.2.length : Int) - 1)))) ⟨?_,?_,wK,(q1Q J),aT⟩))
 ·exact ⟨Nat.le_refl _,by simp,(List.take_of_length_le (by simp)).symm,by simp⟩
 ·have e : ((p.2.length : Int) - 1).toNat = p.1 - 1:=by omega
  have h0 : (0 : Int) < (p.2.length : Int):=of_decide_eq_true ‹decide (_ < _) = true›
  have hz:=vC (l:=l) (k:=p.1 - 1) (by omega) (by rw [← e]; simpa using h)
  rw [show p.1 - 1 + 1 = p.1 by omega] at hz
  refine ⟨by show p.1 - 1≤_; omega,?_,?_,?_⟩
  ·show (p.2.take _).length = p.1 - 1
   rw [e]; simp; omega
  ·show p.2.take _ = (l.map ak).take (p.1 - 1)
   rw [e,hr,List.take_take,Nat.min_eq_left (by omega)]
  ·show af (l.take (p.1 - 1)) = _
   rw [← hz,hv]
 ·have h0 : (0 : Int) < (p.2.length : Int):=of_decide_eq_true ‹decide (_ < _) = true›
  show p.1 - 1 < p.1
  omega
 ·have e : ((p.2.length : Int) - 1).toNat = p.1 - 1:=by omega
  show AV.one (.d (.sl 1 4 p.2)) = AV.one (.d (.sl 1 4 ((dig (af l).toNat).map ak)))
  rw [yF ‹Dg l› hk hv (.inr (by rw [← e]; simpa using h)),hr,List.map_take]
 ·have h0 : ¬ (0 : Int) < (p.2.length : Int):=of_decide_eq_false (by simpa using h)
  show AV.one (.d (.sl 1 4 p.2)) = AV.one (.d (.sl 1 4 ((dig (af l).toNat).map ak)))
  rw [yF ‹Dg l› hk hv (.inl (by omega)),hr,List.map_take]
theorem u9 : dig 1 = [1]:=by rw [kn (by omega)]; simp [fg]
theorem Qy(n : Nat) : CallA Tryz.prog 379 [.one (.d (bk n))] [] (.one (.d (.bool (n == 1)))) []:=by
 obtain ⟨hD,hv,hl⟩:=cm n
 refine enter ae Tryz.func379 rfl (by decide +kernel) rfl fun hok w0 σ0 φ0 M=>?_
 clear hok
 repeat' (first|refine wG ?_|(refine h1H ?_; (refine h5H ?_; refine aG J J J J (fun h=>?_) (fun h=>?_))))
 ·have hlen : (dig n).length = 1:=by simp at h; omega
  match hd : dig n,hlen with
  | [d],_ =>
    rw [hd] at hv
    simp only [af] at hv
    show AV.one (.d (.bool (d == 1))) = _
    have e : (d == 1) = (n == 1):=by
     rw [Bool.eq_iff_iff]; simp only [beq_iff_eq]; omega
    rw [e]
 ·have hlen : (dig n).length≠1:=fun e=>by simp [e] at h
  have e : (n == 1) = false:=by
   refine beq_false_of_ne fun hn=>hlen ?_
   rw [hn,u9]; rfl
  rw [e]
theorem mT{m n : Nat}(h : (dig m).length < (dig n).length) : m < n:=by
 obtain ⟨a1,a2,a3⟩:=cm m
 obtain ⟨b1,b2,b3⟩:=cm n
 have:=yG a1 b1 b3 h
 omega
theorem Be{m n : Nat}{k : Nat}(hl : (dig m).length = (dig n).length)(hk : k < (dig m).length)(he : ∀ i,k < i→i < (dig m).length→at_ (dig m) i = at_ (dig n) i)(h : at_ (dig m) k < at_ (dig n) k) : m < n:=by
 obtain ⟨a1,a2,a3⟩:=cm m
 obtain ⟨b1,b2,b3⟩:=cm n
 have:=AI a1 b1 hl hk he h
 omega
theorem GB{m n : Nat}(hl : (dig m).length = (dig n).length)(he : ∀ i,i < (dig m).length→at_ (dig m) i = at_ (dig n) i) : m = n:=by
 have e : dig m = dig n:=List.ext_getElem hl fun i h1 h2=>by
  have:=he i h1
  simpa [at_,h1,h2] using this
 have a:=(cm m).2.1
 have b:=(cm n).2.1
 rw [e] at a
 omega
def gU(m n : Nat) : Int:=if m < n then -1 else if n < m then 1 else 0
theorem iu{m n : Nat}(h : m < n) : gU m n = -1:=if_pos h
theorem iv{m n : Nat}(h : n < m) : gU m n = 1:=by unfold gU; rw [if_neg (by omega),if_pos h]
theorem kc{m n : Nat}(h : m = n) : gU m n = 0:=by unfold gU; rw [if_neg (by omega),if_neg (by omega)]
theorem nN{a b : List Int}(h : (((a.map ak).length : Int) != ((b.map ak).length : Int)) = false) : a.length = b.length:=by simp at h; omega
theorem EL{a b : List Int}(h : (((a.map ak).length : Int) != ((b.map ak).length : Int)) = true) : a.length≠b.length:=fun e=>by simp [e] at h
theorem EK{a b : List Int}(h : decide (((a.map ak).length : Int) < ((b.map ak).length : Int)) = true) : a.length < b.length:=by simpa using h
theorem EM{a b : List Int}(h : decide (((a.map ak).length : Int) < ((b.map ak).length : Int)) = false) : b.length≤a.length:=by simpa using h
theorem uu(m n : Nat) : CallA Tryz.prog 369 [.one (.d (bk m)),.one (.d (bk n))] [] (.one (.d (.int .i64 (gU m n)))) []:=by
 refine enter ae Tryz.func369 rfl (by decide +kernel) rfl fun hok w0 σ0 φ0 M=>?_
 have h1:=(OkD.sl hok.1).1
 clear hok
 simp only [List.length_map] at h1
 repeat' (first|refine wG ?_|(refine h4H ?_; first|refine ag J (fun h=>?_) (fun h=>?_)|refine aB 6 J [(0,_),(1,_)] (q2Q J J) (fun (p : Int)=>[(5,.one (.d (.int .i64 p)))]) (fun (p : Int)=>-1≤p∧p < ((dig m).length : Int)∧(∀ i : Nat,p < (i : Int)→i < (dig m).length→at_ (dig m) i = at_ (dig n) i)) (fun (p : Int)=>(p + 1).toNat) ((((dig m).map ak).length : Int) - 1) (q1Q J) ?_ (fun p ⟨hk,hk2,hs⟩=>?_))|(show Exists _; refine Exists.intro ((p - 1)) ⟨?_,?_,wK,(q1Q J),(q2Q J J)⟩))
 ·rw [iu (mT (EK h))]
 ·rw [iv (mT (by
   have h2:=EL ‹_›
   have:=EM h; omega))]
 ·simp only [List.length_map]; exact ⟨by omega,by omega,fun i h2 h3=>by omega⟩
 ·have hl:=nN ‹_›
  have h0 : 0≤p:=of_decide_eq_true ‹decide (0≤p) = true›
  rw [iu (Be hl (k:=p.toNat) (by omega) (fun i h2 h3=>hs i (by omega) h3) (of_decide_eq_true h))]
 ·have hl:=nN ‹_›
  have h0 : 0≤p:=of_decide_eq_true ‹decide (0≤p) = true›
  have hne : at_ (dig m) p.toNat≠at_ (dig n) p.toNat:=by simpa using ‹(at_ (dig m) p.toNat != at_ (dig n) p.toNat) = true›
  have hle:=of_decide_eq_false h
  rw [iv (Be hl.symm (k:=p.toNat) (by omega) (fun i h2 h3=>(hs i (by omega) (by omega)).symm) (by omega))]
 ·have h0 : 0≤p:=of_decide_eq_true ‹decide (0≤p) = true›
  have he : at_ (dig m) p.toNat = at_ (dig n) p.toNat:=by simpa using h
  refine ⟨by omega,by omega,fun i h2 h3=>?_⟩
  rcases Int.lt_or_le p (i : Int) with h4 | h4
  ·exact hs i h4 h3
  ·have : i = p.toNat:=by omega
   rw [this,he]
 ·have h0 : 0≤p:=of_decide_eq_true ‹decide (0≤p) = true›
  omega
 ·have hl:=nN ‹_›
  have h0 : ¬ 0≤p:=of_decide_eq_false h
  rw [kc (GB hl fun i h3=>hs i (by omega) h3)]
def G4(a b : Int) : AV:=.tup [(false,[.d (.int .u32 a)]),(false,[.d (.int .u32 b)])]
theorem iG(v : Int) : IntKind.u32.wrap v = v % 4294967296:=rfl
theorem xJ(v : Int) : v.fdiv (2 ^ min (Int.toNat 32) IntKind.u64.bits) = v / 4294967296:=Int.fdiv_eq_ediv_of_nonneg v (by decide)
theorem NM(v : Int) : v.fdiv (2 ^ min (Int.toNat 31) IntKind.u32.bits) = v / 2147483648:=Int.fdiv_eq_ediv_of_nonneg v (by decide)
theorem bkm(v : BitVec IntKind.u32.bits) : BitVec.ofInt IntKind.u32.bits ((v.toNat : Int) % 4294967296) = v:=by
 have h : v.toNat < 4294967296:=v.isLt
 rw [show ((v.toNat : Int) % 4294967296) = (v.toNat : Int) by omega,BitVec.ofInt_natCast,BitVec.ofNat_toNat,BitVec.setWidth_eq]
theorem NO(v : BitVec 32) : (v.toNat : Int) % 4294967296 / 2147483648 = if v.msb = true then 1 else 0:=by
 have h : v.toNat < 4294967296:=v.isLt
 rw [BitVec.msb_eq_decide]
 split
 ·rename_i h2
  have:=of_decide_eq_true h2
  simp at this; omega
 ·rename_i h2
  have : ¬ _:=fun hh=>h2 (decide_eq_true hh)
  simp at this; omega
theorem DW{x : Int}(hx : 0≤x∧x < 4294967296) : ((BitVec.ofInt 32 x).toNat : Int) = x:=by
 rw [BitVec.toNat_ofInt]; simp; omega
theorem uz{x : Int}(hx : 0≤x∧x < 4294967296) : (BitVec.ofInt 32 x).msb = decide (2147483648≤x):=by
 have h:=DW hx
 rw [BitVec.msb_eq_decide,Bool.eq_iff_iff]
 simp only [decide_eq_true_eq]
 simp
 omega
theorem zV(X Y E : BitVec 32) : (((((BitVec.ofInt 32 4294967295 ^^^ X) &&& Y) ||| ((BitVec.ofInt 32 4294967295 ^^^ (X ^^^ Y)) &&& E)).toNat : Int)) % 4294967296 / 2147483648 = if ((!X.msb && Y.msb) || (!(X.msb ^^ Y.msb) && E.msb)) = true then 1 else 0:=by
 rw [NO]
 have h : (BitVec.ofInt 32 4294967295).msb = true:=by decide
 simp only [BitVec.msb_or,BitVec.msb_and,BitVec.msb_xor,h,Bool.true_xor]
theorem xZ(x y c : Int)(hx : 0≤x∧x < 4294967296)(hy : 0≤y∧y < 4294967296)(hc : 0≤c∧c≤1) : CallA Tryz.prog 376 [.one (.d (.int .u32 x)),.one (.d (.int .u32 y)),.one (.d (.int .u32 c))] [] (G4 ((x + y + c) % 4294967296) ((x + y + c) / 4294967296)) []:=by
 refine enter ae Tryz.func376 rfl (by decide +kernel) rfl fun hok w0 σ0 φ0 M=>?_
 clear hok
 repeat' (first|refine wG ?_)
 rw [iG,iG,xJ,show (x + y + c) / 4294967296 % 4294967296 = (x + y + c) / 4294967296 by omega]
 rfl
theorem BN(x y c : Int)(hx : 0≤x∧x < 4294967296)(hy : 0≤y∧y < 4294967296)(hc : 0≤c∧c≤1) : CallA Tryz.prog 384 [.one (.d (.int .u32 x)),.one (.d (.int .u32 y)),.one (.d (.int .u32 c))] [] (G4 ((x - y - c) % 4294967296) (if x < y + c then 1 else 0)) []:=by
 refine enter ae Tryz.func384 rfl (by decide +kernel) rfl fun hok w0 σ0 φ0 M=>?_
 clear hok
 repeat' (first|refine wG ?_)
 simp only [iG,NM,bkm]
 have hd : (((x - y) % 4294967296 - c) % 4294967296) = (x - y - c) % 4294967296:=by omega
 rw [hd]
 have hb:=zV (BitVec.ofInt 32 x) (BitVec.ofInt 32 y) (BitVec.ofInt 32 ((x - y - c) % 4294967296))
 rw [uz hx,uz hy,uz (by omega)] at hb
 refine congrArg (fun b=>AV.tup [(false,[.d (.int .u32 ((x - y - c) % 4294967296))]),(false,[.d (.int .u32 b)])]) (hb.trans ?_)
 by_cases h1 : 2147483648≤x <;> by_cases h2 : 2147483648≤y <;> by_cases h3 : 2147483648≤(x - y - c) % 4294967296 <;> by_cases h4 : x < y + c <;> simp [h1,h2,h3,h4] <;> omega
theorem mG(ys : List (List D))(l : List Int)(m : Nat)(hy : ys = l.map ak)(h : Dg l)(hm : (af l).toNat = m) : CallA Tryz.prog 374 [.one (.d (.sl 1 4 ys))] [] (.one (.d (bk m))) []:=by
 subst hy; subst hm; exact Jl l h
theorem Jp{a b : Int}(ha : 0≤a∧a < 4294967296)(hb : 0≤b∧b < 4294967296) : Dg [a,b]:=fun d hd=>by
 rcases List.mem_cons.1 hd with rfl | hd
 ·exact ha
 ·rw [List.mem_singleton.1 hd]; exact hb
theorem Jj(n : Nat)(hn : n < 18446744073709551616) : CallA Tryz.prog 370 [.one (.d (.int .u64 n))] [] (.one (.d (bk n))) []:=by
 have hD : Dg [IntKind.u32.wrap (n : Int),IntKind.u32.wrap ((n : Int).fdiv (2 ^ min (Int.toNat 32) IntKind.u64.bits))]:=Jp (by rw [iG]; omega) (by rw [iG]; omega)
 have hN : (af [IntKind.u32.wrap (n : Int),IntKind.u32.wrap ((n : Int).fdiv (2 ^ min (Int.toNat 32) IntKind.u64.bits))]).toNat = n:=by
  simp only [af,iG,xJ]; omega
 refine enter ae Tryz.func370 rfl (by decide +kernel) rfl fun hok w0 σ0 φ0 M=>?_
 clear hok
 repeat' (first|(refine h1H ?_; (refine h0H ?_; refine cS 16 [0] J J J J J J J J J (mG _ [IntKind.u32.wrap (n : Int),IntKind.u32.wrap ((n : Int).fdiv (2 ^ min (Int.toNat 32) IntKind.u64.bits))] n J hD hN) J J J ?_))|refine wG ?_)
 all_goals rfl
theorem DX{X Y L : List Int}{k : Nat}{c : Int}(hX : k < X.length)(hL : k < L.length)(h : af (L.take k) + pw k * c = af (X.take k) + af (Y.take k)) :
  af ((L.set k ((at_ X k + at_ Y k + c) % 4294967296)).take (k + 1)) + pw (k + 1) * ((at_ X k + at_ Y k + c) / 4294967296) = af (X.take (k + 1)) + af (Y.take (k + 1)):=by
 have hs : k < (L.set k ((at_ X k + at_ Y k + c) % 4294967296)).length:=by simpa using hL
 rw [bm hs,bm hX,List.take_set_of_le (Nat.le_refl _),c5]
 have e1 : at_ (L.set k ((at_ X k + at_ Y k + c) % 4294967296)) k = (at_ X k + at_ Y k + c) % 4294967296:=by simp [at_,hL]
 have e2 : af (Y.take (k + 1)) = af (Y.take k) + pw k * at_ Y k:=by
  by_cases hY : k < Y.length
  ·exact bm hY
  ·have : at_ Y k = 0:=by simp [at_,List.getD_eq_getElem?_getD,List.getElem?_eq_none (Nat.le_of_not_lt hY)]
   rw [this,List.take_of_length_le (by omega),List.take_of_length_le (by omega)]; simp
 rw [e1,e2]
 have e3 : (at_ X k + at_ Y k + c) % 4294967296 + 4294967296 * ((at_ X k + at_ Y k + c) / 4294967296) = at_ X k + at_ Y k + c:=by omega
 generalize (at_ X k + at_ Y k + c) % 4294967296 = r at e3 ⊢
 generalize (at_ X k + at_ Y k + c) / 4294967296 = q at e3 ⊢
 have e4 : pw k * r + 4294967296 * pw k * q = pw k * (at_ X k + at_ Y k + c):=by
  rw [← e3,Int.mul_add,Int.mul_comm 4294967296 (pw k),Int.mul_assoc]
 simp only [Int.mul_add] at e4 h ⊢
 omega
theorem iQ{l : List Int}{k : Nat}(h : l.length≤k) : at_ l k = 0:=by simp [at_,List.getD_eq_getElem?_getD,List.getElem?_eq_none h]
theorem ox{X Y L : List Int}{k : Nat}{c b : Int}{R : List (List D)}(hX : Dg X)(hlt : k < X.length)(hb : at_ Y k = b)(hb2 : 0≤b∧b < 4294967296)(hr : R = L.map ak)(hl2 : R.length = X.length + 1)(hL : Dg L)(hc : 0≤c∧c≤1)
  (hv : af (L.take k) + pw k * c = af (X.take k) + af (Y.take k)) :
  k + 1≤X.length∧R.set k [.int .u32 ((at_ X k + b + c) % 4294967296)] = (L.set k ((at_ X k + b + c) % 4294967296)).map ak∧(R.set k [.int .u32 ((at_ X k + b + c) % 4294967296)]).length = X.length + 1∧Dg (L.set k ((at_ X k + b + c) % 4294967296)) ∧
  (0≤(at_ X k + b + c) / 4294967296∧(at_ X k + b + c) / 4294967296≤1)∧af ((L.set k ((at_ X k + b + c) % 4294967296)).take (k + 1)) + pw (k + 1) * ((at_ X k + b + c) / 4294967296) = af (X.take (k + 1)) + af (Y.take (k + 1)):=by
 have hLl : L.length = X.length + 1:=by rw [hr] at hl2; simpa using hl2
 have h1:=hX.at hlt
 subst hb
 refine ⟨hlt,?_,by simpa using hl2,hL.set (by omega),by omega,DX hlt (by omega) hv⟩
 rw [hr,List.map_set]; rfl
theorem Ar{X L : List Int}{c : Int}{R : List (List D)}(hr : R = L.map ak)(hl2 : R.length = X.length + 1) : (R.set (((X.map ak).length : Int).toNat) [.int .u32 c]).take (X.length + 1) = (L.set X.length c).map ak:=by
 rw [List.take_of_length_le (by simp; omega),List.length_map,Int.toNat_natCast,hr,List.map_set]; rfl
theorem qD{X Y L : List Int}{k : Nat}{c : Int}(hk : X.length≤k)(hk2 : k≤X.length)(hxy : Y.length≤X.length)(hLl : L.length = X.length + 1)(hL : Dg L)(hc : 0≤c∧c≤1)(hv : af (L.take k) + pw k * c = af (X.take k) + af (Y.take k)) :
  Dg (L.set X.length c)∧(af (L.set X.length c)).toNat = (af X + af Y).toNat:=by
 have e : k = X.length:=by omega
 subst e
 refine ⟨hL.set (by omega),?_⟩
 have hs : X.length < (L.set X.length c).length:=by simp; omega
 have h1:=bm hs
 rw [List.take_of_length_le (by simp; omega),List.take_set_of_le (Nat.le_refl _)] at h1
 have e1 : at_ (L.set X.length c) X.length = c:=by simp [at_,hLl]
 rw [e1,hv,List.take_of_length_le (Nat.le_refl _),List.take_of_length_le hxy] at h1
 rw [h1]
theorem Lh(X Y : List Int)(hX : Dg X)(hY : Dg Y)(hn : X.length≤400)(hxy : Y.length≤X.length) : CallA Tryz.prog 356 [.one (.d (cy X)),.one (.d (cy Y))] [] (.one (.d (bk (af X + af Y).toNat))) []:=by
 have zr : (0 : Int)≤0∧(0 : Int) < 4294967296:=⟨by omega,by omega⟩
 have hsw : decide (((X.map ak).length : Int) < ((Y.map ak).length : Int)) = false:=by simpa using hxy
 refine enter ae Tryz.func356 rfl (by decide +kernel) rfl fun hok w0 σ0 φ0 M=>?_
 clear hok
 repeat' (first|(refine h1H ?_; (refine h7H ?_; refine fi aq 10 J J J (ca (n:=X.length + 1) J J J J J (by simp) (by simp) (by omega) (Nat.le_of_ble_eq_true J)) J J ?_))|(refine h1H ?_; (refine h0H ?_; first|refine cS 40 [10] J J J J J J J J J (mG _ (p.2.2.1.set X.length p.2.1) _ (Ar hr hl2) (qD (by simpa using h) hk hxy (by rw [hr] at hl2; simpa using hl2) hL hc hv).1 (qD (by simpa using h) hk hxy (by rw [hr] at hl2; simpa using hl2) hL hc hv).2) J J J ?_|refine aa J J J J J J J J (xZ _ _ _ (hX.at wB) (hY.at wB) hc) J ?_|refine aa J J J J J J J J (xZ _ _ _ (hX.at wB) zr hc) J ?_))|refine wG ?_|(refine h4H ?_; first|refine ag J (fun h=>?_) (fun h=>?_)|refine b0 6 J [(0,_),(1,_),(5,_),(21,_)] (q4Q J J J J) (fun (p : Nat×Int×List Int×List (List D))=>[(22,.one (.d (.int .i64 (p.1 : Int)))),(6,.one (.d (.int .u32 p.2.1)))]) (fun (p : Nat×Int×List Int×List (List D))=>[(10,.row 1 4 p.2.2.2)]) (fun (p : Nat×Int×List Int×List (List D))=>p.1≤X.length∧p.2.2.2 = p.2.2.1.map ak∧p.2.2.2.length = X.length + 1∧Dg p.2.2.1∧(0≤p.2.1∧p.2.1≤1)∧af (p.2.2.1.take p.1) + pw p.1 * p.2.1 = af (X.take p.1) + af (Y.take p.1)) (fun (p : Nat×Int×List Int×List (List D))=>X.length - p.1) (0,0,List.replicate (X.length + 1) 0,List.replicate (X.length + 1) [.int .u32 0]) (q2Q J J) wK ?_ (fun p ⟨hk,hr,hl2,hL,hc,hv⟩=>?_))|(show Exists _; first|refine Exists.intro ((p.1 + 1,(at_ X p.1 + at_ Y p.1 + p.2.1) / 4294967296,p.2.2.1.set p.1 ((at_ X p.1 + at_ Y p.1 + p.2.1) % 4294967296),p.2.2.2.set p.1 [.int .u32 ((at_ X p.1 + at_ Y p.1 + p.2.1) % 4294967296)])) ⟨?_,?_,wK,(q2Q J J),(q4Q J J J J)⟩|refine Exists.intro ((p.1 + 1,(at_ X p.1 + 0 + p.2.1) / 4294967296,p.2.2.1.set p.1 ((at_ X p.1 + 0 + p.2.1) % 4294967296),p.2.2.2.set p.1 [.int .u32 ((at_ X p.1 + 0 + p.2.1) % 4294967296)])) ⟨?_,?_,wK,(q2Q J J),(q4Q J J J J)⟩))
 ·exact ⟨Nat.zero_le _,by simp [ak],by simp,Dg.zeros _,⟨Int.le_refl _,Int.zero_le_ofNat 1⟩,by simp [af]⟩
 ·exact ox hX (by simpa using ‹decide ((p.1 : Int) < ((X.map ak).length : Int)) = true›) rfl (hY.at (by simpa using h)) hr hl2 hL hc hv
 ·have hlt : p.1 < X.length:=by simpa using ‹decide ((p.1 : Int) < ((X.map ak).length : Int)) = true›
  show X.length - (p.1 + 1) < X.length - p.1
  omega
 ·exact ox hX (by simpa using ‹decide ((p.1 : Int) < ((X.map ak).length : Int)) = true›) (iQ (by simpa using h)) zr hr hl2 hL hc hv
 ·have hlt : p.1 < X.length:=by simpa using ‹decide ((p.1 : Int) < ((X.map ak).length : Int)) = true›
  show X.length - (p.1 + 1) < X.length - p.1
  omega
 ·rfl
theorem Li(X Y : List Int)(hY : Dg Y)(hX : Dg X)(hn : Y.length≤400)(hlt0 : X.length < Y.length) : CallA Tryz.prog 356 [.one (.d (cy X)),.one (.d (cy Y))] [] (.one (.d (bk (af Y + af X).toNat))) []:=by
 have zr : (0 : Int)≤0∧(0 : Int) < 4294967296:=⟨by omega,by omega⟩
 have hxy : X.length≤Y.length:=by omega
 have hsw : decide (((X.map ak).length : Int) < ((Y.map ak).length : Int)) = true:=by simpa using hlt0
 refine enter ae Tryz.func356 rfl (by decide +kernel) rfl fun hok w0 σ0 φ0 M=>?_
 clear hok
 repeat' (first|(refine h1H ?_; (refine h7H ?_; refine fi aq 10 J J J (ca (n:=Y.length + 1) J J J J J (by simp) (by simp) (by omega) (Nat.le_of_ble_eq_true J)) J J ?_))|(refine h1H ?_; (refine h0H ?_; first|refine cS 40 [10] J J J J J J J J J (mG _ (p.2.2.1.set Y.length p.2.1) _ (Ar hr hl2) (qD (by simpa using h) hk hxy (by rw [hr] at hl2; simpa using hl2) hL hc hv).1 (qD (by simpa using h) hk hxy (by rw [hr] at hl2; simpa using hl2) hL hc hv).2) J J J ?_|refine aa J J J J J J J J (xZ _ _ _ (hY.at wB) (hX.at wB) hc) J ?_|refine aa J J J J J J J J (xZ _ _ _ (hY.at wB) zr hc) J ?_))|refine wG ?_|(refine h4H ?_; first|refine ag J (fun h=>?_) (fun h=>?_)|refine b0 6 J [(0,_),(1,_),(5,_),(21,_)] (q4Q J J J J) (fun (p : Nat×Int×List Int×List (List D))=>[(22,.one (.d (.int .i64 (p.1 : Int)))),(6,.one (.d (.int .u32 p.2.1)))]) (fun (p : Nat×Int×List Int×List (List D))=>[(10,.row 1 4 p.2.2.2)]) (fun (p : Nat×Int×List Int×List (List D))=>p.1≤Y.length∧p.2.2.2 = p.2.2.1.map ak∧p.2.2.2.length = Y.length + 1∧Dg p.2.2.1∧(0≤p.2.1∧p.2.1≤1)∧af (p.2.2.1.take p.1) + pw p.1 * p.2.1 = af (Y.take p.1) + af (X.take p.1)) (fun (p : Nat×Int×List Int×List (List D))=>Y.length - p.1) (0,0,List.replicate (Y.length + 1) 0,List.replicate (Y.length + 1) [.int .u32 0]) (q2Q J J) wK ?_ (fun p ⟨hk,hr,hl2,hL,hc,hv⟩=>?_))|(show Exists _; first|refine Exists.intro ((p.1 + 1,(at_ Y p.1 + at_ X p.1 + p.2.1) / 4294967296,p.2.2.1.set p.1 ((at_ Y p.1 + at_ X p.1 + p.2.1) % 4294967296),p.2.2.2.set p.1 [.int .u32 ((at_ Y p.1 + at_ X p.1 + p.2.1) % 4294967296)])) ⟨?_,?_,wK,(q2Q J J),(q4Q J J J J)⟩|refine Exists.intro ((p.1 + 1,(at_ Y p.1 + 0 + p.2.1) / 4294967296,p.2.2.1.set p.1 ((at_ Y p.1 + 0 + p.2.1) % 4294967296),p.2.2.2.set p.1 [.int .u32 ((at_ Y p.1 + 0 + p.2.1) % 4294967296)])) ⟨?_,?_,wK,(q2Q J J),(q4Q J J J J)⟩))
 ·exact ⟨Nat.zero_le _,by simp [ak],by simp,Dg.zeros _,⟨Int.le_refl _,Int.zero_le_ofNat 1⟩,by simp [af]⟩
 ·exact ox hY (by simpa using ‹decide ((p.1 : Int) < ((Y.map ak).length : Int)) = true›) rfl (hX.at (by simpa using h)) hr hl2 hL hc hv
 ·have hlt : p.1 < Y.length:=by simpa using ‹decide ((p.1 : Int) < ((Y.map ak).length : Int)) = true›
  show Y.length - (p.1 + 1) < Y.length - p.1
  omega
 ·exact ox hY (by simpa using ‹decide ((p.1 : Int) < ((Y.map ak).length : Int)) = true›) (iQ (by simpa using h)) zr hr hl2 hL hc hv
 ·have hlt : p.1 < Y.length:=by simpa using ‹decide ((p.1 : Int) < ((Y.map ak).length : Int)) = true›
  show Y.length - (p.1 + 1) < Y.length - p.1
  omega
 ·rfl
theorem Jq(m n : Nat)(hm : (dig m).length≤400)(hn : (dig n).length≤400) : CallA Tryz.prog 356 [.one (.d (bk m)),.one (.d (bk n))] [] (.one (.d (bk (m + n)))) []:=by
 obtain ⟨a1,a2,a3⟩:=cm m
 obtain ⟨b1,b2,b3⟩:=cm n
 rcases Nat.lt_or_ge (dig m).length (dig n).length with h | h
 ·have:=Li (dig m) (dig n) b1 a1 hn h
  rwa [a2,b2,show ((n : Int) + (m : Int)).toNat = m + n by omega] at this
 ·have:=Lh (dig m) (dig n) a1 b1 hm h
  rwa [a2,b2,show ((m : Int) + (n : Int)).toNat = m + n by omega] at this
end Go.Proofs.YtpejdgkaapnekaaGreat
