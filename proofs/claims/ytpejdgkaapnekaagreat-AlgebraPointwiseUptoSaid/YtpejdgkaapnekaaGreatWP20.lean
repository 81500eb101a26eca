import Derived.Test.YtpejdgkaapnekaaGreatWP18
import Derived.Test.YtpejdgkaapnekaaGreatWE1
import Derived.Test.YtpejdgkaapnekaaGreatWP16
import Derived.Test.YtpejdgkaapnekaaGreatWP15
import Derived.Test.YtpejdgkaapnekaaGreatWP17
set_option linter.unusedVariables false
set_option linter.unusedSimpArgs false
set_option linter.unnecessarySimpa false
set_option maxHeartbeats 1000000
namespace Go.Proofs.YtpejdgkaapnekaaGreat
open Go Go.Abs
attribute [local irreducible] aa OkC aj av al aB
set_option maxRecDepth 10000
def kG(t : Int) : Bool:=decide (1≤t) && decide (t≤4)
def bx(op : Int)(l : List Int) : Int×Int :=
 if l.all kG then (if aQ op (at_ l 0) (at_ l 1) (at_ l 2) = 0 then (0,12) else (aQ op (at_ l 0) (at_ l 1) (at_ l 2),0)) else (0,2)
def ie(p : Int×Int) : AV:=.tup [(false,[.d (.int .i64 p.1)]),(false,[.d (.int .i64 p.2)])]
theorem Nu(op : Int)(l : List Int)(hop : 4≤op∧op≤22)(hl : (l.length : Int) = dQ op) : CallA Tryz.prog 178 [.one (.d (.int .i64 op)),.one (.d (aq l))] [] (ie (bx op l)) []:=by
 have ha : (dQ op == 0) = false:=by unfold dQ; simp; omega
 have hn : (((l.map b0).length : Int) != dQ op) = false:=by simp [hl]
 refine enter af Tryz.func178 rfl (by decide +kernel) rfl fun hok w0 σ0 φ0 M=>?_
 have h1:=hok.2.1.sl.1; clear hok; simp only [List.length_map] at h1
 repeat' (first|(refine h1H ?_; (refine h0H ?_; first|refine ab J J J J J J J J (Nv _) J ?_|refine ab J J J J J J J J (Nw _ _ hop hl) J ?_))|refine wG ?_|(refine h1H ?_; (refine h4H ?_; refine aG J J J J (fun h=>?_) (fun h=>?_)))|(refine h5H ?_; first|refine ai J (fun h=>?_) (fun h=>?_)|refine bg 4 J [(0,_),(1,_)] (q2Q J J) (fun (k : Nat)=>[(6,.one (.d (.int .i64 k)))]) (fun (k : Nat)=>k≤l.length∧l.all kG = (l.drop k).all kG) (fun (k : Nat)=>l.length - k) 0 (q1Q J) ?_ (fun k ⟨hk,hs⟩=>?_))|(show Exists _; refine Exists.intro (k + 1) ⟨?_,?_,wK,(q1Q J),(q2Q J J)⟩))
 all_goals clear ha hn hl hop
 all_goals (try (((simp_all [bx,kG,ie,ak,List.drop_eq_nil_of_le]) <;> exact wL); done))
theorem eb(op : Int)(l : List Int)(n : Int)(k d : D)(f : FuncId)(caps : List D)(b : Bool)
  (h226 : CallA Tryz.prog 226 [.one (.d (.int .i64 op)),.one (.d (.int .i64 (l.map b0).length))] [] (.tup [(true,[.d (.int .i64 n),.d k,.d (.fn f caps),.d (.bool b),.d d]),(false,[.d (.bool true)])]) [])
  (hf : CallA Tryz.prog f (.one (.d (aq l))::caps.map fun x=>.one (.d x)) [] (.one (.d (.int .i64 (aQ op (at_ l 0) (at_ l 1) (at_ l 2))))) []) :
  CallA Tryz.prog 175 [.one (.d (.int .i64 op)),.one (.d (aq l))] [] (ie (bx op l)) []:=by
 refine enter af Tryz.func175 rfl (by decide +kernel) rfl fun hok w0 σ0 φ0 M=>?_
 have h1:=hok.2.1.sl.1; clear hok; simp only [List.length_map] at h1
 repeat' (first|(refine h1H ?_; (refine h0H ?_; first|refine ab J J J J J J J J (hf) J ?_|refine aZ 16 J J J J J J J J (h226) J J J ?_))|refine wG ?_|(refine h1H ?_; (refine h4H ?_; refine aG J J J J (fun h=>?_) (fun h=>?_)))|(refine h5H ?_; first|refine ai J (fun h=>?_) (fun h=>?_)|refine bg 5 J [(1,_),(6,_),(20,_),(21,_)] (q4Q J J J J) (fun (k : Nat)=>[(22,.one (.d (.int .i64 k)))]) (fun (k : Nat)=>k≤l.length∧l.all kG = (l.drop k).all kG) (fun (k : Nat)=>l.length - k) 0 (q1Q J) ?_ (fun k ⟨hk,hs⟩=>?_))|(show Exists _; refine Exists.intro (k + 1) ⟨?_,?_,wK,(q1Q J),(q4Q J J J J)⟩))
 all_goals (try (((simp_all [bx,kG,ie,ak,List.drop_eq_nil_of_le]) <;> exact wL); done))
end Go.Proofs.YtpejdgkaapnekaaGreat
namespace Go.Proofs.YtpejdgkaapnekaaGreat
open Go Go.Abs
theorem bP{l : List Int}(h : (l.length : Int) = 2) : ((l.length : Int) - 2).toNat = 0∧((l.length : Int) - 1).toNat = 1:=by omega
theorem vU{l : List Int}(h : (l.length : Int) = 3) : ((l.length : Int) - 2).toNat = 1∧((l.length : Int) - 1).toNat = 2:=by omega
theorem jH{a b : Int} : (if bu a = true then bd a b else 0) = if bu a = true∧bu b = true then bd a b else 0:=by
 unfold bd
 by_cases ha : bu a = true <;> by_cases hb : bu b = true <;> simp [ha,hb]
 intro h; subst h; exact absurd ha hb
theorem Cp{a b : Int}(ha : bu a = true)(hb : bu b = true) : bd a b≠0:=by
 have h0 : a≠0:=by rintro rfl; simp [bu] at ha
 unfold bd; split
 ·exact h0
 ·simp [ha,hb]
theorem MS(op : Int)(l : List Int)(hop : 4≤op∧op≤22)(hl : (l.length : Int) = dQ op) : CallA Tryz.prog 175 [.one (.d (.int .i64 op)),.one (.d (aq l))] [] (ie (bx op l)) []:=by
 have hlen : ∀ n : Int,(l.length : Int) = n→(((l.map b0).length : Nat) : Int) = n:=by intro n h; simpa using h
 have go : ∀ {f : FuncId} {caps : List D} {t t' : Int},CallA Tryz.prog f (.one (.d (aq l))::caps.map fun x=>.one (.d x)) [] (.one (.d (.int .i64 t))) []→t = t'→CallA Tryz.prog f (.one (.d (aq l))::caps.map fun x=>.one (.d x)) [] (.one (.d (.int .i64 t'))) []:=by
  intro f caps t t' h e; rwa [e] at h
 rcases sh hop with rfl | rfl | rfl | rfl | rfl | rfl | rfl | rfl | rfl | rfl | rfl | rfl | rfl | rfl | rfl | rfl | rfl | rfl | rfl <;> simp [dQ] at hl
 ·exact eb _ _ _ _ _ _ _ _ (by rw [hlen 1 (by omega)]; exact D0) (go (caps:=[]) (LZ l (by omega)) (by simp [aQ]))
 ·exact eb _ _ _ _ _ _ _ _ (by rw [hlen 1 (by omega)]; exact D1) (go (caps:=[]) (ID l (by omega)) (by simp [aQ]))
 ·exact eb _ _ _ _ _ _ _ _ (by rw [hlen 1 (by omega)]; exact D2) (go (caps:=[.ptr [.fn 300 []]]) (Mc l (by omega)) (by
   simp only [aQ]
   by_cases h : bu (at_ l 0) = true
   ·simp [h]
    simp [bu] at h
    omega
   ·simp [h]; rfl))
 ·exact eb _ _ _ _ _ _ _ _ (by rw [hlen 1 (by omega)]; exact D3) (go (caps:=[.ptr [.int .i64 1]]) (IC (aq l) 1) (by simp [aQ]))
 ·exact eb _ _ _ _ _ _ _ _ (by rw [hlen 1 (by omega)]; exact D4) (go (caps:=[.ptr [.int .i64 2]]) (IC (aq l) 2) (by simp [aQ]))
 ·exact eb _ _ _ _ _ _ _ _ (by rw [hlen 2 (by omega)]; exact D5) (go (caps:=[]) (BF l (by omega)) (by rw [(bP hl).1,(bP hl).2,jH]; simp [aQ]))
 ·exact eb _ _ _ _ _ _ _ _ (by rw [hlen 2 (by omega)]; exact AD) (go (caps:=[]) (BF l (by omega)) (by rw [(bP hl).1,(bP hl).2,jH]; simp [aQ]))
 ·exact eb _ _ _ _ _ _ _ _ (by rw [hlen 2 (by omega)]; exact AE) (go (caps:=[]) (BF l (by omega)) (by rw [(bP hl).1,(bP hl).2,jH]; simp [aQ]))
 ·exact eb _ _ _ _ _ _ _ _ (by rw [hlen 2 (by omega)]; exact AF) (go (caps:=[]) (Mb l (by omega)) (by
   rw [(bP hl).1,(bP hl).2,jH]
   by_cases h : bu (at_ l 0) = true∧bu (at_ l 1) = true
   ·rw [if_pos h,if_neg (Cp h.1 h.2)]; simp [aQ,h]
   ·rw [if_neg h]; simp [aQ]; intro a; cases hb : bu (at_ l 1) with | false=>rfl | true=>exact absurd ⟨a,hb⟩ h))
 ·exact eb _ _ _ _ _ _ _ _ (by rw [hlen 2 (by omega)]; exact AG) (go (caps:=[]) (ud l (by omega)) (by rw [(bP hl).1,(bP hl).2]; simp [aQ]))
 ·exact eb _ _ _ _ _ _ _ _ (by rw [hlen 2 (by omega)]; exact AH) (go (caps:=[]) (ud l (by omega)) (by rw [(bP hl).1,(bP hl).2]; simp [aQ]))
 ·exact eb _ _ _ _ _ _ _ _ (by rw [hlen 2 (by omega)]; exact AI) (go (caps:=[]) (ud l (by omega)) (by rw [(bP hl).1,(bP hl).2]; simp [aQ]))
 ·exact eb _ _ _ _ _ _ _ _ (by rw [hlen 2 (by omega)]; exact AJ) (go (caps:=[]) (ud l (by omega)) (by rw [(bP hl).1,(bP hl).2]; simp [aQ]))
 ·exact eb _ _ _ _ _ _ _ _ (by rw [hlen 2 (by omega)]; exact AK) (go (caps:=[]) (ud l (by omega)) (by rw [(bP hl).1,(bP hl).2]; simp [aQ]))
 ·exact eb _ _ _ _ _ _ _ _ (by rw [hlen 2 (by omega)]; exact AL) (go (caps:=[]) (ud l (by omega)) (by rw [(bP hl).1,(bP hl).2]; simp [aQ]))
 ·exact eb _ _ _ _ _ _ _ _ (by rw [hlen 2 (by omega)]; exact AM) (go (caps:=[]) (IE l (by omega)) (by
   rw [(bP hl).1,(bP hl).2]
   by_cases h : at_ l 0 = 1 <;> by_cases h2 : at_ l 1 = 1 <;> simp [aQ,bd,h,h2,bu]
   intro e; omega))
 ·exact eb _ _ _ _ _ _ _ _ (by rw [hlen 2 (by omega)]; exact AN) (go (caps:=[]) (IE l (by omega)) (by
   rw [(bP hl).1,(bP hl).2]
   by_cases h : at_ l 0 = 1 <;> by_cases h2 : at_ l 1 = 1 <;> simp [aQ,bd,h,h2,bu]
   intro e; omega))
 ·exact eb _ _ _ _ _ _ _ _ (by rw [hlen 2 (by omega)]; exact AO) (go (caps:=[]) (xG l (by omega)) (by rw [(bP hl).1,(bP hl).2]; simp [aQ]))
 ·exact eb _ _ _ _ _ _ _ _ (by rw [hlen 3 (by omega)]; exact AP) (go (caps:=[]) (Ma l (by omega)) (by rw [(vU hl).1,(vU hl).2]; simp [aQ]))
end Go.Proofs.YtpejdgkaapnekaaGreat
namespace Go.Proofs.YtpejdgkaapnekaaGreat
open Go Go.Abs
attribute [local irreducible] aa OkC aj av al aB
set_option maxRecDepth 10000
def qz(k n d : Int)(s : List UInt8) : Int:=if dP k n d s 1 then 1 else if dP k n d s 2 then 2 else if dP k n d s 3 then 3 else 4
theorem MR(k n d : Int)(s : List UInt8) : CallA Tryz.prog 174 [.agg [.d (.int .i64 k),.d (.int .i64 n),.d (.int .i64 d),.d (.str s)]] [] (.one (.d (.int .i64 (qz k n d s)))) []:=by
 refine enter af Tryz.func174 rfl (by decide +kernel) rfl fun hok w0 σ0 φ0 M=>?_
 clear hok
 repeat' (first|(refine h1H ?_; (refine h0H ?_; refine ab J J J J J J J J (Iv _ _ _ _ _) J ?_))|refine wG ?_|(refine h5H ?_; first|refine ai J (fun h=>?_) (fun h=>?_)|refine pE 2 J 4 ?_))
 all_goals (try (((simp_all [qz,ak,List.drop_eq_nil_of_le]) <;> exact wL); done))
end Go.Proofs.YtpejdgkaapnekaaGreat
namespace Go.Proofs.YtpejdgkaapnekaaGreat
open Go Go.Abs
def atI(ats : List Attr)(name : List UInt8) : Int:=aI (fun a : Attr=>a.name == name) ats 0
def jY(ds : List Dim)(name : List UInt8) : Int:=aI (fun a : Dim=>a.name == name) ds 0
def gQ(ats : List Attr)(name : List UInt8) : Int×Int:=if atI ats name < 0 then (0,11) else ((at_ ats (atI ats name).toNat).type,0)
def jD(ds : List Dim)(name : List UInt8) : Int×Int:=if jY ds name < 0 then (0,11) else (2,0)
mutual
def bU(cst : Val→Int)(ds : List Dim)(ats : List Attr) : Scalar→Int×Int
 | .mk o n v a=>if o = 1 then (cst v,0) else if o = 2 then gQ ats n else if o = 3 then jD ds n else
   match bD cst ds ats a with
   | .inl e=>(0,e)
   | .inr l=>bx o l
def bD(cst : Val→Int)(ds : List Dim)(ats : List Attr) : List Scalar→Sum Int (List Int)
 | []=>.inr []
 | x::r=>if (bU cst ds ats x).2≠0 then .inl (bU cst ds ats x).2 else
   match bD cst ds ats r with
   | .inl e=>.inl e
   | .inr l=>.inr ((bU cst ds ats x).1::l)
end
theorem jf{cst : Val→Int}{ds : List Dim}{ats : List Attr} : ∀ {s : Scalar},bU cst ds ats s = if s.op = 1 then (cst s.val,0) else if s.op = 2 then gQ ats s.name else if s.op = 3 then jD ds s.name else
  match bD cst ds ats s.args with
  | .inl e=>(0,e)
  | .inr l=>bx s.op l
 | .mk _ _ _ _=>by simp only [bU,Scalar.op,Scalar.name,Scalar.val,Scalar.args]; rfl
theorem px{cst : Val→Int}{ds : List Dim}{ats : List Attr} : ∀ {a : List Scalar} {l : List Int},bD cst ds ats a = .inr l→l.length = a.length
 | [],l,h=>by simp [bD] at h; subst h; rfl
 | x::r,l,h=>by
   simp only [bD] at h
   split at h
   ·cases h
   ·split at h
    ·cases h
    ·rename_i l2 h2
     cases h
     simp [px h2]
def cv(v : Val) : Int:=qz v.kind v.num v.den v.str
def fL(v : Val) : Int:=if v.kind = 1 then 1 else if v.kind = 3 then 4 else if v.den = 1 then 2 else 3
theorem DK{v : Val}(h : cy v.kind v.num v.den v.str = true)(h0 : v.kind≠0) : cv v = fL v:=by
 have hf : ∀ t,dP v.kind v.num v.den v.str t = (decide (1≤t) && (decide (t≤4) && (if v.kind = 0 then true else if v.kind = 1 then t == 1 else if v.kind = 2 then t == 3 || t == 2 && v.den == 1 else t == 4))):=by
  intro t; unfold dP; rw [h,Bool.true_and]
 have hk : v.kind = 1∨v.kind = 2∨v.kind = 3:=by
  unfold cy at h
  by_cases h1 : v.kind = 1
  ·exact .inl h1
  ·by_cases h2 : v.kind = 2
   ·exact .inr (.inl h2)
   ·by_cases h3 : v.kind = 3
    ·exact .inr (.inr h3)
    ·simp [h0,h1,h2,h3] at h
 unfold cv fL qz
 rw [hf,hf,hf]
 rcases hk with hk | hk | hk <;> rw [hk] <;> simp
 all_goals (by_cases hd : v.den = 1 <;> simp [hd])
theorem vB{f g : Val→Int}{ds : List Dim}{ats : List Attr} : ∀ {l : List Scalar},(∀ x∈l,bU f ds ats x = bU g ds ats x)→bD f ds ats l = bD g ds ats l
 | [],_=>rfl
 | x::r,h=>by
   simp only [bD,h x (by simp),vB fun y hy=>h y (List.mem_cons_of_mem _ hy)]
theorem fM : ∀ {l : List Scalar},gR l = true→∀ x∈l,cS x = true
 | [],_,x,h=>by simp at h
 | y::r,h,x,hx=>by
   simp only [gR,Bool.and_eq_true] at h
   rcases List.mem_cons.1 hx with rfl | hx
   ·exact h.1
   ·exact fM h.2 x hx
theorem sU{s : Scalar}(h : cW s = true)(ho : s.op = 1) : cy s.val.kind s.val.num s.val.den s.val.str = true∧s.val.kind≠0:=by
 unfold cW at h
 rw [if_pos ho] at h
 simp only [Bool.and_eq_true,Bool.not_eq_true',beq_eq_false_iff_ne] at h
 exact ⟨h.1,h.2.1⟩
theorem Fp{ds : List Dim}{ats : List Attr}(s : Scalar) : cS s = true→bU cv ds ats s = bU fL ds ats s:=by
 induction s using Scalar.ind with
 | h s ih =>
   intro h
   rw [fI,Bool.and_eq_true] at h
   rw [jf,jf,vB (f:=cv) (g:=fL) fun x hx=>ih x hx (fM h.2 x hx)]
   by_cases ho : s.op = 1
   ·rw [if_pos ho,if_pos ho]
    obtain ⟨h1,h2⟩:=sU h.1 ho
    rw [DK h1 h2]
   ·rw [if_neg ho,if_neg ho]
theorem jg{s : Scalar}(h : cW s = true)(h1 : s.op≠1)(h2 : s.op≠2)(h3 : s.op≠3) : (4≤s.op∧s.op≤22)∧(s.args.length : Int) = dQ s.op:=by
 unfold cW at h
 rw [if_neg h1,if_neg (by rintro (h | h); exact h2 h; exact h3 h)] at h
 simp only [Bool.and_eq_true,decide_eq_true_eq,beq_iff_eq] at h
 refine ⟨?_,h.2.2.2⟩
 have:=h.1
 unfold dQ at this
 omega
def F88(ds : List Dim)(ats : List Attr)(a : List Int×Bool×Int)(x : Scalar) : Bool×(List Int×Bool×Int) :=
 let push:=fun (l : List Int) (p : Int×Int)=>if p.2≠0 then (false,(a.1,true,p.2)) else (true,(l ++ [p.1],false,(0 : Int)))
 if x.op = 1 then push a.1 (cv x.val,0) else if x.op = 2 then push a.1 (gQ ats x.name) else if x.op = 3 then push a.1 (jD ds x.name) else
  push (a.1.take (a.1.length - x.args.length)) (bx x.op (a.1.drop (a.1.length - x.args.length)))
def oz(a : List Int×Bool×Int)(x : Scalar) : Prop:=a.2.1 = false∧a.2.2 = 0∧cW x = true∧a.1.length≤64∧(4≤x.op→x.args.length≤a.1.length)
theorem mach_list{ds : List Dim}{ats : List Attr} : ∀ {r : List Scalar},
  (∀ x∈r,∀ l : List Int,l.length + (aR x).length≤65→cQ (F88 ds ats) oz (aR x) (l,false,0)∧(if (bU cv ds ats x).2 = 0 then br (F88 ds ats) (aR x) (l,false,0) = (true,(l ++ [(bU cv ds ats x).1],false,0)) else ∃ l',br (F88 ds ats) (aR x) (l,false,0) = (false,(l',true,(bU cv ds ats x).2)))) →
  ∀ l : List Int,l.length + (aH r).length≤65→cQ (F88 ds ats) oz (aH r) (l,false,0)∧(match bD cv ds ats r with
    | .inr ts=>br (F88 ds ats) (aH r) (l,false,0) = (true,(l ++ ts,false,0))
    | .inl e=>e≠0∧∃ l',br (F88 ds ats) (aH r) (l,false,0) = (false,(l',true,e)))
 | [],_,l,hl=>⟨trivial,by simp [bD,aH,br]⟩
 | x::r,h,l,hl=>by
   have hp : 1≤(aR x).length:=by rw [dV]; simp
   simp only [aH,List.length_append] at hl
   obtain ⟨h1,h2⟩:=h x (by simp) l (by omega)
   simp only [aH,bD]
   by_cases hz : (bU cv ds ats x).2 = 0
   ·rw [if_pos hz] at h2
    have ih:=mach_list (r:=r) (fun y hy=>h y (List.mem_cons_of_mem _ hy)) (l ++ [(bU cv ds ats x).1]) (by simp; omega)
    rw [eC,h2]
    simp only [if_true,hz,ne_eq,not_true_eq_false,if_false]
    refine ⟨okRun_of_app h1 (fun _=>by rw [h2]; exact ih.1),?_⟩
    have ih2:=ih.2
    cases ht : bD cv ds ats r with
    | inl e=>rw [ht] at ih2; exact ih2
    | inr ts=>rw [ht] at ih2; simpa using ih2
   ·rw [if_neg hz] at h2
    obtain ⟨l',h2⟩:=h2
    rw [eC,h2]
    simp only [Bool.false_eq_true,if_false,hz,ne_eq,not_false_eq_true,if_true]
    exact ⟨okRun_of_app h1 (fun h=>by rw [h2] at h; cases h),trivial,l',rfl⟩
where
 okRun_of_app : ∀ {l m : List Scalar} {a : List Int×Bool×Int},cQ (F88 ds ats) oz l a→((br (F88 ds ats) l a).1 = true→cQ (F88 ds ats) oz m (br (F88 ds ats) l a).2)→cQ (F88 ds ats) oz (l ++ m) a
  | [],_,_,_,h=>h rfl
  | x::l,m,a,h1,h2=>by
    simp only [List.cons_append,cQ] at h1 ⊢
    refine ⟨h1.1,fun hx=>okRun_of_app (h1.2 hx) fun h=>?_⟩
    have e : br (F88 ds ats) (x::l) a = br (F88 ds ats) l (F88 ds ats a x).2:=by simp only [br]; rw [if_pos hx]
    rw [e] at h2; exact h2 h
theorem k8 : ∀ {r : List Scalar},r.length≤(aH r).length
 | []=>Nat.le_refl _
 | x::r=>by
   have:=k8 (r:=r)
   have hp : 1≤(aR x).length:=by rw [dV]; simp
   simp only [aH,List.length_append,List.length_cons]; omega
theorem rX{s : Scalar}(h : cW s = true)(h3 : s.op = 1∨s.op = 2∨s.op = 3) : s.args = []:=by
 have : s.args.length = 0:=by
  unfold cW at h
  by_cases h1 : s.op = 1
  ·rw [if_pos h1] at h
   simp only [Bool.and_eq_true,beq_iff_eq] at h
   omega
  ·rw [if_neg h1,if_pos (by omega)] at h
   simp only [Bool.and_eq_true,beq_iff_eq] at h
   omega
 exact List.length_eq_zero_iff.1 this
theorem Mz{ds : List Dim}{ats : List Attr}(s : Scalar) : cS s = true→∀ l : List Int,l.length + (aR s).length≤65→cQ (F88 ds ats) oz (aR s) (l,false,0) ∧
  (if (bU cv ds ats s).2 = 0 then br (F88 ds ats) (aR s) (l,false,0) = (true,(l ++ [(bU cv ds ats s).1],false,0)) else ∃ l',br (F88 ds ats) (aR s) (l,false,0) = (false,(l',true,(bU cv ds ats s).2))):=by
 induction s using Scalar.ind with
 | h s ih =>
   intro hp l hl
   rw [fI,Bool.and_eq_true] at hp
   have hL:=mach_list (ds:=ds) (ats:=ats) (r:=s.args) (fun x hx l hl=>ih x hx (fM hp.2 x hx) l hl)
   rw [dV] at hl ⊢
   simp only [List.length_append,List.length_cons,List.length_nil] at hl
   by_cases h3 : s.op = 1∨s.op = 2∨s.op = 3
   ·have ha : s.args = []:=rX hp.1 h3
    have hok : oz (l,false,0) s:=⟨rfl,rfl,hp.1,by show l.length≤64; omega,fun h=>by omega⟩
    have hF : F88 ds ats (l,false,0) s = if (bU cv ds ats s).2≠0 then (false,(l,true,(bU cv ds ats s).2)) else (true,(l ++ [(bU cv ds ats s).1],false,0)):=by
     rw [jf]; simp only [F88]
     rcases h3 with h3 | h3 | h3 <;> simp [h3]
    rw [ha]
    simp only [aH,List.nil_append,cQ,br]
    rw [hF]
    refine ⟨⟨hok,fun _=>trivial⟩,?_⟩
    by_cases hz : (bU cv ds ats s).2 = 0
    ·rw [if_pos hz]; simp [hz]
    ·rw [if_neg hz]; exact ⟨l,by simp [hz]⟩
   ·obtain ⟨hop,hlen⟩:=jg hp.1 (fun h=>h3 (.inl h)) (fun h=>h3 (.inr (.inl h))) (fun h=>h3 (.inr (.inr h)))
    obtain ⟨h4,h5⟩:=hL l (by omega)
    rw [jf,if_neg (fun h=>h3 (.inl h)),if_neg (fun h=>h3 (.inr (.inl h))),if_neg (fun h=>h3 (.inr (.inr h)))]
    cases ht : bD cv ds ats s.args with
    | inl e =>
      rw [ht] at h5
      obtain ⟨he,l',h5⟩:=h5
      refine ⟨mach_list.okRun_of_app h4 (fun h=>by rw [h5] at h; cases h),?_⟩
      simp only
      rw [if_neg he,eC,h5]
      exact ⟨l',by simp⟩
    | inr ts =>
      rw [ht] at h5
      simp only at h5
      have hts:=px ht
      have hle:=k8 (r:=s.args)
      have hF : F88 ds ats (l ++ ts,false,0) s = if (bx s.op ts).2≠0 then (false,(l ++ ts,true,(bx s.op ts).2)) else (true,(l ++ [(bx s.op ts).1],false,0)):=by
       have hd : (l ++ ts).length - s.args.length = l.length:=by simp [hts]
       simp only [F88]
       rw [if_neg (fun h=>h3 (.inl h)),if_neg (fun h=>h3 (.inr (.inl h))),if_neg (fun h=>h3 (.inr (.inr h))),hd]
       simp
      refine ⟨mach_list.okRun_of_app h4 (fun _=>?_),?_⟩
      ·rw [h5]
       exact ⟨⟨rfl,rfl,hp.1,by simp; omega,fun _=>by simp [hts]⟩,fun _=>trivial⟩
      ·simp only
       rw [eC,h5]
       simp only [if_true,br,hF]
       by_cases hz : (bx s.op ts).2 = 0
       ·rw [if_pos hz]; simp [hz]
       ·rw [if_neg hz]; exact ⟨l ++ ts,by simp [hz]⟩
theorem ff{α : Type}{p : α→Bool} : ∀ {l : List α} {k : Nat},0≤aI p l k→(k : Int)≤aI p l k∧aI p l k < k + l.length
 | [],k,h=>by simp [aI] at h
 | x::r,k,h=>by
   simp only [aI] at h ⊢
   split at h
   ·rename_i hx; rw [if_pos hx]; simp only [List.length_cons]; omega
   ·rename_i hx; rw [if_neg hx]
    have:=ff (l:=r) (k:=k + 1) h
    simp only [List.length_cons]; omega
theorem BL{o : Int}{l : List Int}(h : (bx o l).2≠0) : (bx o l).1 = 0:=by
 unfold bx at h ⊢
 by_cases h4 : l.all kG = true
 ·rw [if_pos h4] at h ⊢
  by_cases h5 : aQ o (at_ l 0) (at_ l 1) (at_ l 2) = 0
  ·rw [if_pos h5]
  ·rw [if_neg h5] at h; simp at h
 ·rw [if_neg h4]
theorem Fq{cst : Val→Int}{ds : List Dim}{ats : List Attr}{s : Scalar}(h : (bU cst ds ats s).2≠0) : (bU cst ds ats s).1 = 0:=by
 rw [jf] at h ⊢
 split
 ·rename_i h1; rw [if_pos h1] at h; simp at h
 ·rename_i h1; rw [if_neg h1] at h
  split
  ·rename_i h2; rw [if_pos h2] at h; unfold gQ at h ⊢; split <;> simp_all
  ·rename_i h2; rw [if_neg h2] at h
   split
   ·rename_i h3; rw [if_pos h3] at h; unfold jD at h ⊢; split <;> simp_all
   ·rename_i h3; rw [if_neg h3] at h
    cases ht : bD cst ds ats s.args with
    | inl e=>rfl
    | inr l=>rw [ht] at h; exact BL h
def ae : List Int→Int
 | []=>0
 | d::r=>d + 4294967296 * ae r
def Dg(l : List Int) : Prop:=∀ d∈l,0≤d∧d < 4294967296
def dig(n : Nat) : List Int:=if h : n = 0 then [] else ((n % 4294967296 : Nat) : Int)::dig (n / 4294967296)
 termination_by n
 decreasing_by omega
def pw(k : Nat) : Int:=4294967296 ^ k
theorem cX(k : Nat) : pw (k + 1) = 4294967296 * pw k:=by unfold pw; rw [Int.pow_succ,Int.mul_comm]
theorem lC : pw 0 = 1:=rfl
theorem ez(k : Nat) : 0 < pw k:=by
 induction k with
 | zero=>decide
 | succ k ih=>rw [cX]; omega
theorem gC(a b : Nat) : pw (a + b) = pw a * pw b:=by unfold pw; rw [Int.pow_add]
theorem jN : ∀ {a b : List Int},ae (a ++ b) = ae a + pw a.length * ae b
 | [],b=>by simp [ae,lC]
 | d::a,b=>by
   simp only [List.cons_append,ae,jN (a:=a) (b:=b),List.length_cons,cX,Int.mul_add,Int.mul_assoc]
   omega
theorem Dg.cons{d : Int}{r : List Int}(h : Dg (d::r)) : (0≤d∧d < 4294967296)∧Dg r:=⟨h d List.mem_cons_self,fun x hx=>h x (List.mem_cons_of_mem _ hx)⟩
theorem Dg.at{l : List Int}(h : Dg l){i : Nat}(hi : i < l.length) : 0≤at_ l i∧at_ l i < 4294967296:=h _ (b9 hi)
theorem Dg.take{l : List Int}(h : Dg l)(n : Nat) : Dg (l.take n):=fun d hd=>h d (List.mem_of_mem_take hd)
theorem Dg.drop{l : List Int}(h : Dg l)(n : Nat) : Dg (l.drop n):=fun d hd=>h d (List.mem_of_mem_drop hd)
theorem df : ∀ {l : List Int},Dg l→0≤ae l∧ae l < pw l.length
 | [],_=>by simp [ae,lC]
 | d::r,h=>by
   obtain ⟨h1,h2⟩:=h.cons
   have:=df h2
   simp only [ae,List.length_cons,cX]
   omega
theorem fe : dig 0 = []:=by rw [dig]; simp
theorem j9{n : Nat}(h : n≠0) : dig n = ((n % 4294967296 : Nat) : Int)::dig (n / 4294967296):=by rw [dig]; simp [h]
theorem cq : ∀ (n : Nat),Dg (dig n)∧ae (dig n) = n∧(dig n = []∨at_ (dig n) ((dig n).length - 1)≠0):=by
 intro n
 induction n using Nat.strongRecOn with
 | _ n ih =>
   by_cases h : n = 0
   ·subst h; rw [fe]; exact ⟨fun d hd=>by simp at hd,rfl,.inl rfl⟩
   ·obtain ⟨i1,i2,i3⟩:=ih (n / 4294967296) (by omega)
    rw [j9 h]
    refine ⟨fun d hd=>?_,?_,.inr ?_⟩
    ·rcases List.mem_cons.1 hd with rfl | hd
     ·omega
     ·exact i1 d hd
    ·simp only [ae,i2]; omega
    ·rcases i3 with i3 | i3
     ·rw [i3]
      have h0 : n / 4294967296 = 0:=by rw [i3] at i2; simp only [ae] at i2; omega
      show ((n % 4294967296 : Nat) : Int)≠0
      omega
     ·cases hd : dig (n / 4294967296) with
      | nil =>
        rw [hd] at i2; simp only [ae] at i2
        show ((n % 4294967296 : Nat) : Int)≠0
        omega
      | cons e r =>
        rw [hd] at i3
        show at_ (_::e::r) (r.length + 1)≠0
        exact i3
theorem rL : ∀ {l : List Int},Dg l→(l = []∨at_ l (l.length - 1)≠0)→dig (ae l).toNat = l
 | [],_,_=>by simp [ae,fe]
 | d::r,h,hl=>by
   obtain ⟨h1,h2⟩:=h.cons
   have hb:=(df h2).1
   have hr : r = []∨at_ r (r.length - 1)≠0:=by
    cases r with
    | nil=>exact .inl rfl
    | cons e s=>exact .inr (by rcases hl with hl | hl; · cases hl
                               ·exact hl)
   have ih:=rL h2 hr
   have hne : ae (d::r)≠0:=by
    intro h0
    simp only [ae] at h0
    have hd : d = 0:=by omega
    have hz : ae r = 0:=by omega
    rw [hz] at ih
    have hr0 : r = []:=by rw [← ih]; simpa using fe
    subst hr0
    rcases hl with hl | hl
    ·cases hl
    ·exact hl hd
   have hn : (ae (d::r)).toNat≠0:=by simp only [ae] at hne ⊢; omega
   rw [j9 hn]
   have e1 : (ae (d::r)).toNat / 4294967296 = (ae r).toNat:=by simp only [ae]; omega
   have e2 : (((ae (d::r)).toNat % 4294967296 : Nat) : Int) = d:=by simp only [ae]; omega
   rw [e1,e2,ih]
theorem yu{l : List Int}{k : Nat}(h : Dg l)(hk : k≤l.length)(hv : ae (l.take k) = ae l)(hl : k = 0∨at_ l (k - 1)≠0) : dig (ae l).toNat = l.take k:=by
 rw [← hv]
 refine rL (h.take k) ?_
 rcases hl with hl | hl
 ·subst hl; exact .inl (by simp)
 ·by_cases h0 : k = 0
  ·subst h0; exact .inl (by simp)
  ·refine .inr ?_
   rw [List.length_take,Nat.min_eq_left hk,yw (by omega)]
   exact hl
theorem bk{l : List Int}{k : Nat}(h : k < l.length) : ae (l.take (k + 1)) = ae (l.take k) + pw k * at_ l k:=by
 rw [eL h,jN,List.length_take,Nat.min_eq_left (by omega)]; simp [ae]
theorem vj{l : List Int}{k : Nat}(h : k < l.length)(h0 : at_ l k = 0) : ae (l.take (k + 1)) = ae (l.take k):=by rw [bk h,h0]; simp
theorem ka{l : List Int}{k : Nat}{x : Int}(h : k < l.length) : ae (l.set k x) = ae l + pw k * (x - at_ l k):=by
 induction l generalizing k with
 | nil=>simp at h
 | cons d r ih =>
   cases k with
   | zero=>simp only [List.set_cons_zero,ae,lC]; show _ = _ + 1 * (x - d); omega
   | succ k =>
     have:=ih (k:=k) (by simpa using h)
     simp only [List.set_cons_succ,ae,this,cX,Int.mul_add,Int.mul_assoc]
     show _ = _ + 4294967296 * (pw k * (x - at_ r k))
     omega
theorem Dg.set{l : List Int}{k : Nat}{x : Int}(h : Dg l)(hx : 0≤x∧x < 4294967296) : Dg (l.set k x):=fun d hd=>by
 rcases List.mem_or_eq_of_mem_set hd with hd | rfl
 ·exact h d hd
 ·exact hx
theorem Dg.zeros(n : Nat) : Dg (List.replicate n 0):=fun d hd=>by rw [List.eq_of_mem_replicate hd]; omega
theorem Ci(n : Nat) : ae (List.replicate n 0) = 0:=by
 induction n with
 | zero=>rfl
 | succ n ih=>simp [List.replicate_succ,ae,ih]
theorem AB : ∀ {a b : List Int} {k : Nat},Dg a→Dg b→a.length = b.length→k < a.length→(∀ i,k < i→i < a.length→at_ a i = at_ b i)→at_ a k < at_ b k→ae a < ae b
 | x::a,y::b,k,ha,hb,hl,hk,he,h=>by
   obtain ⟨a1,a2⟩:=ha.cons
   obtain ⟨b1,b2⟩:=hb.cons
   have hl' : a.length = b.length:=by simpa using hl
   cases k with
   | zero =>
     have e : a = b:=gU hl' fun i hi=>he (i + 1) (by omega) (by simpa using hi)
     have h' : x < y:=h
     subst e; simp only [ae]; omega
   | succ k =>
     have:=AB (k:=k) a2 b2 hl' (by simpa using hk) (fun i h1 h2=>he (i + 1) (by omega) (by simpa using h2)) h
     simp only [ae]; omega
 | [],_,k,_,_,_,hk,_,_=>by simp at hk
 | _::_,[],k,_,_,hl,_,_,_=>by simp at hl
theorem yx{a b : List Int}(ha : Dg a)(hb : Dg b)(hn : b = []∨at_ b (b.length - 1)≠0)(hl : a.length < b.length) : ae a < ae b:=by
 have h1:=(df ha).2
 have hne : b≠[]:=fun e=>by rw [e] at hl; simp at hl
 have hn':=hn.resolve_left hne
 have h2 : ae b = ae (b.take (b.length - 1)) + pw (b.length - 1) * at_ b (b.length - 1):=by
  have:=bk (l:=b) (k:=b.length - 1) (by omega)
  rwa [show b.length - 1 + 1 = b.length by omega,List.take_length] at this
 have h3:=(df (hb.take (b.length - 1))).1
 have h4 : 1≤at_ b (b.length - 1):=by have:=hb.at (i:=b.length - 1) (by omega); omega
 have h5 : pw a.length≤pw (b.length - 1):=by
  obtain ⟨m,hm⟩ : ∃ m,b.length - 1 = a.length + m:=⟨b.length - 1 - a.length,by omega⟩
  rw [hm,gC]
  have:=Int.mul_le_mul_of_nonneg_left (show 1≤pw m by have:=ez m; omega) (Int.le_of_lt (ez a.length))
  omega
 have h6:=Int.mul_le_mul_of_nonneg_left h4 (Int.le_of_lt (ez (b.length - 1)))
 omega
end Go.Proofs.YtpejdgkaapnekaaGreat
namespace Go.Proofs.YtpejdgkaapnekaaGreat
open Go Go.Abs
attribute [local irreducible] aa OkC aj av al aB
set_option maxRecDepth 10000
def dB(a : Arr) : Int:=bE a.dims a.attrs a.cells
theorem MH(a : Arr) : CallA Tryz.prog 180 [fO a] [] (.one (.d (.bool (dB a != 0)))) []:=by
 unfold fO
 refine enter af Tryz.func180 rfl (by decide +kernel) rfl fun hok w0 σ0 φ0 M=>?_
 clear hok
 repeat' (first|(refine h1H ?_; (refine h0H ?_; refine ab J J J J J J J J (c59 _ _ _) J ?_))|refine wG ?_)
 all_goals rfl
theorem c31(a : Arr)(m : Int) : CallA Tryz.prog 31 [fO a,.one (.d (.int .i64 m))] [] (.one (.d (.bool (decide (m < (a.cells.length : Int)) || dB a != 0)))) []:=by
 unfold fO
 refine enter af Tryz.func31 rfl (by decide +kernel) rfl fun hok w0 σ0 φ0 M=>?_
 have h1:=(OkD.sl (hok.1 (.d (aK a.cells)) (by simp))).1; clear hok; simp only [List.length_map] at h1
 repeat' (first|(refine h1H ?_; (refine h0H ?_; refine ab J J J J J J J J (c59 _ _ _) J ?_))|refine wG ?_|(refine h1H ?_; (refine h4H ?_; refine aG J J J J (fun h=>?_) (fun h=>?_))))
 all_goals (try (((simp_all [dB,ak,List.drop_eq_nil_of_le]) <;> exact wL); done))
theorem MI(l : List Arr) : CallA Tryz.prog 230 [.one (.d (uk l)),.one (.d (.fn 180 []))] [] (.one (.d (.int .i64 (aI (fun a=>dB a != 0) l 0)))) []:=by
 refine enter af Tryz.func230 rfl (by decide +kernel) rfl fun hok w0 σ0 φ0 M=>?_
 have h1:=hok.1.sl; clear hok; simp only [List.length_map] at h1; replace h1:=h1.1
 repeat' (first|(refine h1H ?_; (refine h0H ?_; refine ab J J J J J J J J (MH _) J ?_))|refine wG ?_|(refine h5H ?_; first|refine ai J (fun h=>?_) (fun h=>?_)|refine bg 2 J [(0,_),(1,_),(7,_)] (q3Q J J J) (fun (k : Nat)=>[(8,.one (.d (.int .i64 k)))]) (fun (k : Nat)=>k≤l.length∧aI (fun a=>dB a != 0) l 0 = aI (fun a=>dB a != 0) (l.drop k) k) (fun (k : Nat)=>l.length - k) 0 (q1Q J) ?_ (fun k ⟨hk,hs⟩=>?_))|(show Exists _; refine Exists.intro (k + 1) ⟨?_,?_,wK,(q1Q J),(q3Q J J J)⟩))
 all_goals (try (((simp_all [aI,ak,List.drop_eq_nil_of_le]) <;> exact wL); done))
theorem MJ(l : List Arr) : CallA Tryz.prog 179 [.one (.d (uk l)),.one (.d (.fn 180 []))] [] (.one (.d (.bool (!decide (aI (fun a=>dB a != 0) l 0 < 0))))) []:=by
 refine enter af Tryz.func179 rfl (by decide +kernel) rfl fun hok w0 σ0 φ0 M=>?_
 clear hok
 repeat' (first|(refine h1H ?_; (refine h0H ?_; refine ab J J J J J J J J (MI _) J ?_))|refine wG ?_)
 all_goals (try (((simp_all [ak,List.drop_eq_nil_of_le]) <;> exact wL); done))
def dy(l : List Arr) : Bool:=l.all fun a=>dB a == 0
theorem sZ : ∀ (l : List Arr) (j : Nat),aI (fun a=>dB a != 0) l j < 0↔dy l = true
 | [],j=>by simp [aI,dy]
 | a::l,j=>by
   have ih:=sZ l (j + 1)
   simp only [aI,dy,List.all_cons,Bool.and_eq_true]
   by_cases h : dB a = 0
   ·rw [if_neg (by simp [h])]
    rw [ih]
    simp [h,dy]
   ·rw [if_pos (by simp [h])]
    constructor
    ·intro h1; omega
    ·intro h1; simp [h] at h1
theorem DP(l : List Arr)(j : Nat) : decide (aI (fun a=>dB a != 0) l j < 0) = dy l:=by
 rw [Bool.eq_iff_iff,decide_eq_true_eq,sZ]
theorem c96(l : List Arr) : CallA Tryz.prog 96 [.one (.d (uk l))] [] (.one (.d (.bool (dy l)))) []:=by
 refine enter af Tryz.func96 rfl (by decide +kernel) rfl fun hok w0 σ0 φ0 M=>?_
 clear hok
 repeat' (first|(refine h1H ?_; (refine h0H ?_; refine ab J J J J J J J J (MJ _) J ?_))|refine wG ?_)
 all_goals (try (((simp_all [DP,ak,List.drop_eq_nil_of_le]) <;> exact wL); done))
theorem c36(a b : List Val) : CallA Tryz.prog 36 [.one (.d (aP a)),.one (.d (aP b))] [] (.one (.d (.bool (qD iJ a b)))) []:=by
 refine enter af Tryz.func36 rfl (by decide +kernel) rfl fun hok w0 σ0 φ0 M=>?_
 have h1:=hok.1.sl; have h2:=hok.2.1.sl; clear hok; simp only [List.length_map] at h1 h2; replace h1:=h1.1; replace h2:=h2.1
 repeat' (first|refine wG ?_|(refine h5H ?_; first|refine ai J (fun h=>?_) (fun h=>?_)|refine bg 4 J [(0,_),(1,_)] (q2Q J J) (fun (k : Nat)=>[(5,.one (.d (.int .i64 k)))]) (fun (k : Nat)=>k≤a.length∧a.length = b.length∧qD iJ a b = lW iJ (a.drop k) (b.drop k)) (fun (k : Nat)=>a.length - k) 0 (q1Q J) ?_ (fun k ⟨hk,hq,hs⟩=>?_))|(show Exists _; refine Exists.intro (k + 1) ⟨?_,?_,wK,(q1Q J),(q2Q J J)⟩))
 all_goals (try (((simp_all [qD,lW,iJ,az,cT,eqD,ak,List.drop_eq_nil_of_le]) <;> exact wL); done))
theorem c98(ds : List Dim)(at' : List Int)(hl : at'.length = ds.length) : CallA Tryz.prog 98 [.one (.d (aw ds)),.one (.d (aq at'))] [] (.one (.d (.bool (bt ds at')))) []:=by
 refine enter af Tryz.func98 rfl (by decide +kernel) rfl fun hok w0 σ0 φ0 M=>?_
 have h1:=hok.1.sl; have h2:=hok.2.1.sl; clear hok; simp only [List.length_map] at h1 h2; replace h1:=h1.1; replace h2:=h2.1
 repeat' (first|refine wG ?_|(refine h1H ?_; (refine h4H ?_; refine aG J J J J (fun h=>?_) (fun h=>?_)))|(refine h5H ?_; first|refine ai J (fun h=>?_) (fun h=>?_)|refine bg 2 J [(0,_),(7,_),(8,_)] (q3Q J J J) (fun (k : Nat)=>[(9,.one (.d (.int .i64 k)))]) (fun (k : Nat)=>k≤at'.length∧at'.length = ds.length∧bt ds at' = bt (ds.drop k) (at'.drop k)) (fun (k : Nat)=>ds.length - k) 0 (q1Q J) ?_ (fun k ⟨hk,hq,hs⟩=>?_))|(show Exists _; refine Exists.intro (k + 1) ⟨?_,?_,wK,(q1Q J),(q3Q J J J)⟩))
 all_goals (try (((simp_all [bt,da,ak,List.drop_eq_nil_of_le]) <;> exact wL); done))
end Go.Proofs.YtpejdgkaapnekaaGreat
namespace Go.Proofs.YtpejdgkaapnekaaGreat
open Go Go.Abs
def atX(ats : List Attr)(name : List UInt8) : Int:=aI (fun a : Attr=>a.name == name) ats 0
end Go.Proofs.YtpejdgkaapnekaaGreat
namespace Go.Proofs.YtpejdgkaapnekaaGreat
open Go Go.Abs
theorem k7{α : Type}{p : α→Bool} : ∀ {l : List α} {j : Nat},aI p l j < 0→∀ x∈l,p x = false
 | [],_,_,_,h=>by simp at h
 | x::l,j,h,y,hy=>by
   simp only [aI] at h
   split at h
   ·omega
   ·rename_i h1
    rcases List.mem_cons.1 hy with rfl | hy
    ·simpa using h1
    ·exact k7 h y hy
section
variable {src kept : List (Int×Bool)} {ds : List Dim} {rule : Int}
end
theorem lb : ∀ {ats : List Attr} {vs : List Val},vs.length = ats.length→(fV ats vs = 0↔∀ i,i < ats.length→dP (at_ vs i).kind (at_ vs i).num (at_ vs i).den (at_ vs i).str (at_ ats i).type = true)
 | [],[],_=>by simp [fV]
 | x::ats,v::vs,h=>by
   have ih:=lb (ats:=ats) (vs:=vs) (by simpa using h)
   simp only [fV]
   constructor
   ·intro h1 i hi
    split at h1
    ·omega
    ·rename_i h2
     cases i with
     | zero =>
       have h3 : dP v.kind v.num v.den v.str x.type = true:=by simpa using h2
       exact h3
     | succ i=>exact ih.1 h1 i (by simpa using hi)
   ·intro h1
    have h0 : dP v.kind v.num v.den v.str x.type = true:=h1 0 (by simp)
    rw [if_neg (by simp [h0])]
    exact ih.2 fun i hi=>h1 (i + 1) (by simpa using hi)
 | [],_::_,h=>by simp at h
 | _::_,[],h=>by simp at h
theorem Attr.ext{a b : Attr}(h1 : a.name = b.name)(h2 : a.type = b.type) : a = b:=by cases a; cases b; simp_all
end Go.Proofs.YtpejdgkaapnekaaGreat
namespace Go.Abs
open Go
variable {P : Program} {c : Ctx} {σ σ' : Sig} {φ φ' : Pl} {w w' : World}
theorem HInv.ren{S : Sto}(r : Nat→Nat)(h : HInv σ φ S w)(hk : (cm (aV S) && cm (iv r (aV S)) && rN r (aV S) && aY S S) = true) :
  ∃ φ',HInv σ φ' (fw r S) w∧(∀ j o,look S j = some o→look (fw r S) (r j) = some (cu r o)∧φ' (r j) = φ j)∧(∀ t e,look (fw r S) t = some e→∃ j o,t = r j∧look S j = some o∧e = cu r o)∧∀ t,Pin t→φ' t = φ t:=by
 simp only [Bool.and_eq_true] at hk
 obtain ⟨⟨⟨h1,h2⟩,h3⟩,h4⟩:=hk
 classical
 let φ' : Pl:=fun t=>if h : ∃ i,i∈aV S∧r i = t then φ h.choose else φ t
 have hφ : ∀ {i : Nat},i∈aV S→φ' (r i) = φ i:=by
  intro i hi
  have hex : ∃ j,j∈aV S∧r j = r i:=⟨i,hi,rfl⟩
  show (if h : ∃ j,j∈aV S∧r j = r i then φ h.choose else φ (r i)) = φ i
  rw [dif_pos hex]
  have:=hex.choose_spec
  rw [mi h2 this.1 hi this.2]
 have hR : ∀ j o,look S j = some o→look (fw r S) (r j) = some (cu r o)∧φ' (r j) = φ j:=fun j o hj=>⟨mj h2 hj,hφ (lK hj)⟩
 refine ⟨φ',⟨h.sig,fun t e ht=>?_,fun t t' e e' p p' ht ht' hne hp hp'=>?_⟩,hR,fun t e ht=>dh h1 ht,fun t ht=>?_⟩
 ·obtain ⟨i,o,rfl,hi,rfl⟩:=dh h1 ht
  exact wJ hR hi (eT h4 hi) (h.obj _ _ hi)
 ·obtain ⟨i,o,rfl,hi,rfl⟩:=dh h1 ht
  obtain ⟨i',o',rfl,hi',rfl⟩:=dh h1 ht'
  rw [(hR _ _ hi).2] at hp
  rw [(hR _ _ hi').2] at hp'
  exact h.inj _ _ _ _ _ _ hi hi' (fun e=>hne (by rw [e])) hp hp'
 ·show (if h : ∃ j,j∈aV S∧r j = t then φ h.choose else φ t) = _
  split
  ·rename_i hex
   have hs:=hex.choose_spec
   have:=tV h3 hs.1 (by rw [hs.2]; exact ht)
   rw [hs.2] at this
   rw [← this]
  ·rfl
theorem yB{S : Sto}{r : Nat→Nat}(hR : ∀ j o,look S j = some o→look (fw r S) (r j) = some (cu r o)∧φ' (r j) = φ j) : ∀ {avs : List AV} {vs : List Value},c7 S avs = true→All2 (RepV σ φ S) avs vs→All2 (RepV σ φ' (fw r S)) (cE r avs) vs
 | [],[],_,_=>trivial
 | x::l,v::vs,h,ha=>by
   simp only [c7,Bool.and_eq_true] at h
   exact ⟨reV hR h.1 ha.1,yB hR h.2 ha.2⟩
 | [],_::_,_,ha=>ha.elim
 | _::_,[],_,ha=>ha.elim
theorem vH{f : FuncId}{avs avs0 : List AV}{s s0 s' s1 : Sto}{rav : AV}(q q' : Nat→Nat)(hC : CallA P f avs s rav s')(hs : fw q s0 = s)(ha : cE q avs0 = avs)(hs' : fw q' s' = s1)(hai : c7 s0 avs0 = true)(hfl : eF rav = true)
  (hk : (cm (aV s0) && cm (iv q (aV s0)) && rN q (aV s0) && aY s0 s0) = true) (hk' : (cm (aV s') && cm (iv q' (aV s')) && rN q' (aV s') && aY s' s') = true) : CallA P f avs0 s0 rav s1:=by
 subst hs; subst ha; subst hs'
 refine ⟨hC.fn,fun w σ φ vs hinv hargs=>?_⟩
 obtain ⟨φ1,h1,hR,hL,hp⟩:=hinv.ren q hk
 refine (hC.run w σ φ1 vs h1 (yB hR hai hargs)).mono ?_
 rintro e w' ⟨v,σ',φ',rfl,hret⟩
 obtain ⟨φ2,h2,hR2,hL2,hp2⟩:=hret.inv.ren q' hk'
 have hM : ∀ b,MOf φ1 (fw q s0) b→MOf φ s0 b:=by
  rintro b ⟨t,e,p,h3,h4,h5⟩
  obtain ⟨j,o,rfl,h6,rfl⟩:=hL t e h3
  rw [(hR _ _ h6).2] at h4
  exact ⟨j,o,p,h6,h4,h5⟩
 refine ⟨v,σ',φ2,rfl,hret.le,fun b hb=>?_,h2,pL hfl hret.rep,fun i e p hi hpi=>?_,fun t ht=>(hp2 t ht).trans ((hret.pin t ht).trans (hp t ht)),⟨hret.kept.os,hret.kept.tape,hret.kept.output,hret.kept.size,hret.kept.drawn,fun b hb hm=>hret.kept.block b hb fun h=>hm (hM b h)⟩⟩
 ·rcases hret.fresh b hb with h | h | h
  ·exact .inl h
  ·exact .inr (.inl h)
  ·exact .inr (.inr (hM b h))
 ·obtain ⟨j,o,rfl,h6,rfl⟩:=hL2 i e hi
  rw [(hR2 _ _ h6).2] at hpi
  rcases hret.mine _ _ _ h6 hpi with h | h
  ·exact .inl h
  ·exact .inr (hM _ h)
variable {V : Env} {T : Tab} {w0 : World} {σ0 : Sig} {φ0 : Pl} {M : Nat→Prop} {n : Nat} {rd : Option Nat} {mk : List Deferred} {ops : Array Oper} {o : Oper} {rest : List Oper} {fr : List (Nat×AV)} {sto : Sto} {K : St→Prop} {st st0 : St} {acc : List Tr}
theorem ta(i id : Nat){k b : Nat}(hl : look sto i = some (.box [.d .nil]))(hlt : (Nat.blt id 1000000 && (!bm id fr && !aC id sto && !bc sto id)) = true) : Imp c ⟨fr,sto⟩ ⟨fr,(id,.row k b [])::bJ i (.box [.own id 0]) sto⟩:=by
 simp only [Bool.and_eq_true,Bool.not_eq_true',Nat.blt_eq] at hlt
 obtain ⟨h1,⟨h2,h3⟩,h4⟩:=hlt
 intro a w σ φ hr
 have hn:=hr.nilRow (id:=id) (k:=k) (b:=b) (by simpa using h1) h2 h3
 have hne : id≠i:=by rintro rfl; simp [bc,hl] at h4
 have hE : Ext (fun _=>False) (bR φ id none) (bR φ id none) ((id,.row k b [])::sto) ((id,.row k b [])::bJ i (.box [.own id 0]) sto):=by
  intro j _
  cases hj : look ((id,AObj.row k b [])::bJ i (.box [.own id 0]) sto) j with
  | none=>exact .inl rfl
  | some e =>
    refine .inr ?_
    rcases ah hj with ⟨rfl,rfl⟩ | ⟨hne2,hj2⟩
    ·exact ⟨_,ay,rfl,_,rfl,compat.refl _⟩
    ·rw [cn] at hj2
     rcases ah hj2 with ⟨rfl,rfl⟩ | ⟨_,hj3⟩
     ·exact ⟨.box [.d .nil],by rw [aD hne2]; exact hl,rfl,.box [.own id 0],rfl,trivial⟩
     ·exact ⟨_,by rw [aD hne2]; exact hj3,rfl,_,rfl,compat.refl _⟩
 have hold : ∀ {j e},look ((id,AObj.row k b [])::bJ i (.box [.own id 0]) sto) j = some e→(j = i∧e = .box [.own id 0])∨look ((id,AObj.row k b [])::sto) j = some e:=by
  intro j e hj
  rcases ah hj with ⟨rfl,rfl⟩ | ⟨hne2,hj2⟩
  ·exact .inr ay
  ·rw [cn] at hj2
   rcases ah hj2 with ⟨rfl,rfl⟩ | ⟨_,hj3⟩
   ·exact .inl ⟨rfl,rfl⟩
   ·exact .inr (by rw [aD hne2]; exact hj3)
 have hi : look ((id,AObj.row k b [])::sto) i = some (.box [.d .nil]):=by rw [aD (fun e=>hne e.symm)]; exact hl
 refine ⟨σ,_,hn.le,hn.fresh,⟨hn.inv.sig,fun j e hj=>?_,fun j j' e e' p p' hj hj' hne2 hp hp'=>?_⟩,fun j e p hj hp=>?_,fun s v hv=>?_,hn.defers,hn.size,hn.fra,hn.pin⟩
 ·rcases hold hj with ⟨rfl,rfl⟩ | hj2
  ·obtain ⟨B,cc,vs,t,h5,h6,h7,h8⟩:=hn.inv.obj _ _ hi
   refine ⟨B,cc,vs,t,h5,h6,?_,h8⟩
   cases vs with
   | nil=>exact h7.elim
   | cons v vs =>
     obtain ⟨h9,h10⟩:=h7
     cases vs with
     | cons _ _=>exact h10.elim
     | nil =>
       replace h9:=RepC.d_inv h9
       cases h9
       exact ⟨.ownNil ay aA,trivial⟩
  ·exact (hn.inv.obj _ _ hj2).ext (X:=fun _=>False) (Sig.le_refl _) hE (fun j hj=>hj.elim) rfl fun _ _ _=>⟨rfl,rfl⟩
 ·have h5 : ∀ {j e},look ((id,AObj.row k b [])::bJ i (.box [.own id 0]) sto) j = some e→∃ e0,look ((id,AObj.row k b [])::sto) j = some e0:=by
   intro j e hj
   rcases hold hj with ⟨rfl,rfl⟩ | hj2
   ·exact ⟨_,hi⟩
   ·exact ⟨_,hj2⟩
  obtain ⟨_,h6⟩:=h5 hj
  obtain ⟨_,h7⟩:=h5 hj'
  exact hn.inv.inj _ _ _ _ _ _ h6 h7 hne2 hp hp'
 ·rcases hold hj with ⟨rfl,rfl⟩ | hj2
  ·exact hn.mine _ _ _ hi hp
  ·exact hn.mine _ _ _ hj2 hp
 ·obtain ⟨u,hu,hru⟩:=hn.slot s v hv
  exact ⟨u,hu,hru.ext (Sig.le_refl _) hE fun j hj=>hj.elim⟩
theorem eJ{t e : TypeId}{x y : Operand}{id m k k' b b' : Nat}{ik : IntKind}{h : Int}{xs : List (List D)}{z : List D}(ho : o.op = .slice t x none (some y) none)(ht : aN V.T t = some (e,k',b',z))(hx : ev st x = some (.one (.own id m)))(hy : ev st y = some (.one (.d (.int ik h))))
  (hl : look st.sto id = some (.row k b xs)) (hk : Nat.beq k k' = true) (h0 : 0≤h) (hm : h.toNat≤m) (hxs : m≤xs.length) : aL V st o 0 = some ⟨.one (.own id h.toNat),[],[]⟩:=by
 have e1 : Nat.ble h.toNat xs.length = true:=Nat.ble_eq.mpr (by omega)
 have e2 : Nat.ble h.toNat m = true:=Nat.ble_eq.mpr hm
 have e0 : Nat.ble 0 h.toNat = true:=Nat.ble_eq.mpr (Nat.zero_le _)
 simp only [aL,cI,bX,ho,cx,fK,hx,hy,h0,decide_true,cond_true,fY,ht,hl,hk,e0,e1,e2,Bool.and_self,Bool.or_true,Nat.beq_refl]
theorem nB{t e : TypeId}{x y : Operand}{id m k k' b b' : Nat}{ik : IntKind}{xs : List (List D)}{z : List D}(ho : o.op = .slice t x (some y) none none)(ht : aN V.T t = some (e,k',b',z))(hx : ev st x = some (.one (.own id m)))(hy : ev st y = some (.one (.d (.int ik 0))))
  (hl : look st.sto id = some (.row k b xs)) (hk : Nat.beq k k' = true) (hxs : m≤xs.length) : aL V st o 0 = some ⟨.one (.own id m),[],[]⟩:=by
 have e1 : Nat.ble m xs.length = true:=Nat.ble_eq.mpr hxs
 have e2 : Nat.ble m m = true:=Nat.ble_eq.mpr (Nat.le_refl _)
 have e0 : Nat.ble 0 m = true:=Nat.ble_eq.mpr (Nat.zero_le _)
 have e4 : (0 : Int)≤0:=Int.le_refl _
 simp only [aL,cI,bX,ho,cx,fK,hx,hy,e4,decide_true,cond_true,fY,ht,hl,hk,Int.toNat_zero,e0,e1,e2,Bool.and_self,Bool.or_true,Nat.beq_refl]
theorem o6{t e : TypeId}{x y : Operand}{id m k k' b b' : Nat}{ik : IntKind}{h : Int}{xs : List (List D)}{z : List D}(ho : o.op = .slice t x (some y) none none)(ht : aN V.T t = some (e,k',b',z))(hx : ev st x = some (.one (.own id m)))(hy : ev st y = some (.one (.d (.int ik h))))
  (hl : look st.sto id = some (.row k b xs)) (hk : Nat.beq k k' = true) (h0 : 0 < h) (hm : h.toNat≤m) (hxs : m≤xs.length) : aL V st o 0 = some ⟨.one (.sub id h.toNat (m - h.toNat)),[],[]⟩:=by
 have e1 : Nat.ble m xs.length = true:=Nat.ble_eq.mpr hxs
 have e2 : Nat.ble h.toNat m = true:=Nat.ble_eq.mpr hm
 have e3 : Nat.beq h.toNat 0 = false:=by
  cases hb : Nat.beq h.toNat 0 with
  | false=>rfl
  | true=>have:=Nat.eq_of_beq_eq_true hb; omega
 have e4 : (0 : Int)≤h:=by omega
 simp only [aL,cI,bX,ho,cx,fK,hx,hy,e4,decide_true,cond_true,fY,ht,hl,hk,e1,e2,e3,Bool.and_self,Bool.false_and,cond_false]
theorem dW(hT : aO P T){d : Nat}{t t2 e e2 k b k2 b2 k' b' id m : Nat}{z z2 : List D}{x y : Operand}{v : AV}{xs ys zs : List (List D)}
  (ho : o.op = .call { callee:=.builtin .append,args:=#[x,y],argTypes:=#[t,t2] }) (hg : o.guard = none) (hdst : o.dst = some d) (hd : Nat.blt d n = true) (ht : aN T t = some (e,k,b,z)) (ht2 : aN T t2 = some (e2,k2,b2,z2))
  (hlt : (Nat.blt id 1000000 || Nat.ble 2000000 id) = true) (hx : ev ⟨fr,sto⟩ x = some (.one (.own id m))) (hl : look sto id = some (.row k' b' xs)) (hkb : (Nat.beq k k' && Nat.beq b b') = true) (hy : ev ⟨fr,sto⟩ y = some v) (hs : eG ⟨fr,sto⟩ k v = some ys) (hzs : zs = xs.take m ++ ys)
  (hm : m≤100000000) (hys : ys.length≤100000) (hb : b≤100)
  (h : aa P ⟨w0,σ0,φ0,M,n,rd,mk⟩ ops rest ⟨(d,.one (.own id (m + ys.length)))::k6 id fr,bJ id (.row k b zs) (di id sto)⟩ K) : aa P ⟨w0,σ0,φ0,M,n,rd,mk⟩ ops (o::rest) ⟨fr,sto⟩ K:=by
 have h47 : (m + ys.length) * b≤2 ^ 47:=Nat.le_trans (Nat.mul_le_mul (show m + ys.length≤200000000 by omega) hb) (by omega)
 exact dN hT ho hg (by rw [hdst]; exact hd) ht ht2 hlt hx hl hkb hy hs hzs (by omega) h47 (by rw [hdst]; exact h)
theorem nC{d : Nat}{fop : Operand}{args : Array Operand}{ats : Array TypeId}{f : FuncId}{caps : List D}{avs avs' : List AV}{rav : AV}{rsto : Sto}{os : List (Nat×AObj)}(dl : List Nat)
  (ho : o.op = .call { callee:=.value fop,args:=args,argTypes:=ats }) (hg : o.guard = none) (hdst : o.dst = some d) (hd : Nat.blt d c.n = true) (hos : dq sto dl = some os) (hf : evS os ⟨fr,sto⟩ fop = some (.one (.d (.fn f caps))))
  (ha : jS os ⟨fr,sto⟩ args.toList = some avs) (hD : cb avs = true) (hap : (avs ++ caps.map fun x=>.one (.d x)) = avs') (hC : CallA P f avs' [] rav rsto) (hfl : eF rav = true)
  (k : aj P c ops st0 rest ⟨(d,rav)::fr,sto⟩ (⟨rav,[],dl,[]⟩::acc) K) : aj P c ops st0 (o::rest) ⟨fr,sto⟩ acc K:=by
 subst hap
 exact k5 hg (ve dl ho (by rw [hdst]; exact hd) hos hf ha hD hC hfl) (by rw [hdst]; exact k)
theorem Ar{bl : Nat}{g : Operand}{ps : Array Nat}{assign body code : Code}{Q : Exit→St→Prop}{st' : St}(hi : Imp c st st')(h : OkR P c bl g ps assign body code st' Q) : OkR P c bl g ps assign body code st Q:=fun a w σ φ hr=>by
 obtain ⟨σ',φ',hr'⟩:=hi a w σ φ hr
 exact h a w σ' φ' hr'
theorem xu{s' : Sto}(h : SubL sto s') : Imp c ⟨fr,sto⟩ ⟨fr,s'⟩:=fun a w σ φ hr=>⟨σ,φ,hr.dropTo fun i e hi=>h.look hi⟩
theorem gW(dl : List Nat){d : Nat}{fop : Operand}{args : Array Operand}{ats : Array TypeId}{f : FuncId}{caps : List D}{avs avs' : List AV}{rav : AV}{rsto : Sto}{os : List (Nat×AObj)}
  (ho : o.op = .call { callee:=.value fop,args:=args,argTypes:=ats }) (hg : o.guard = none) (hdst : o.dst = some d) (hd : Nat.blt d n = true) (hos : dq sto dl = some os) (hf : evS os ⟨fr,sto⟩ fop = some (.one (.d (.fn f caps))))
  (ha : jS os ⟨fr,sto⟩ args.toList = some avs) (hD : cb avs = true) (hap : (avs ++ caps.map fun x=>.one (.d x)) = avs') (hC : CallA P f avs' [] rav rsto) (hfl : eF rav = true)
  (h : aa P ⟨w0,σ0,φ0,M,n,rd,mk⟩ ops rest ⟨(d,rav)::fr,sto⟩ K) : aa P ⟨w0,σ0,φ0,M,n,rd,mk⟩ ops (o::rest) ⟨fr,sto⟩ K:=by
 subst hap
 obtain ⟨ss,h1,h2⟩:=hU (st:=⟨fr,sto⟩) hos
 exact iC ho hg (by rw [hdst]; exact hd) (cU h1) (by rw [h2]; exact hf) (by rw [lH h2]; exact ha) hD hC hfl (by rw [hdst]; exact h)
end Go.Abs
namespace Go.Abs
open Go
variable {P : Program} {c : Ctx} {T : Tab}
theorem eA(hT : aO P T){ops : Array Oper}{o : Oper}{rest : List Oper}{st : St}{K : St→Prop}{op : BinOp}{t ty : TypeId}{x y : Operand}{e : Bool}{k b : Nat}{xs : List (List D)}
  (ho : o.op = .binOp op t x y ty) (hop : ia op = some e) (hg : o.guard = none) (hd : aF c.n o.dst = true) (ht : (ke T t && nI (ev st y)) = true) (hx : ev st x = some (.one (.d (.sl k b xs))))
  (h : ∀ r : Bool,(r = true→xs = [])→aa P c ops rest ⟨bh o.dst (.one (.d (.bool (r == e)))) st.fr,st.sto⟩ K) : aa P c ops (o::rest) st K :=
 aX hg fun a w σ φ hr=>by
  rw [Bool.and_eq_true] at ht
  obtain ⟨el,hu⟩:=ry hT ht.1
  have hr1 : ∃ A n cap,a.eval x = .slice A n cap∧(A.isNone = true→xs = []):=by
   have h1:=RepC.d_inv (ax hr hx)
   generalize a.eval x = u at h1
   cases h1 with
   | sl vs hc h48 hb hk hA hh =>
     refine ⟨_,_,_,rfl,fun hn=>?_⟩
     cases xs with
     | nil=>rfl
     | cons z zs =>
       obtain ⟨B,o,cells,rfl,_⟩:=hA (by simp)
       simp at hn
  obtain ⟨A,n,cap,hx,hA⟩:=hr1
  have hy : a.eval y = .slice none 0 0:=by
   have h2:=ht.2
   unfold nI at h2
   split at h2
   ·rename_i hy
    have h1:=RepC.d_inv (ax hr hy)
    generalize a.eval y = u at h1
    cases h1; rfl
   ·cases h2
  refine ⟨.bool (A.isNone == e),w,_,σ,φ,?_,hr.put (v:=.one (.d (.bool (A.isNone == e)))) hd (RepC.d .bool),h _ hA⟩
  cases op <;> simp only [ia,Option.some.injEq,reduceCtorEq] at hop <;> subst hop
  ·simp [execOp,ho,hx,hy,bH,Lib.run_eql_slice_nil _ _ _ _ _ _ _ _ hu]
  ·simp [execOp,ho,hx,hy,bH,run_neq_slice_nil_any _ _ _ _ _ _ _ _ hu]
variable {w0 : World} {σ0 : Sig} {φ0 : Pl} {fr : List (Nat×AV)} {sto : Sto}
theorem Bs(i j0 id : Nat){k b : Nat}{cs : List AC}(hl : look sto i = some (.box cs))(hc : cs[j0]? = some (.d .nil))(hlt : (Nat.blt id 1000000 && (!bm id fr && !aC id sto && !bc sto id)) = true) : Imp c ⟨fr,sto⟩ ⟨fr,(id,.row k b [])::bJ i (.box (cs.set j0 (.own id 0))) sto⟩:=by
 simp only [Bool.and_eq_true,Bool.not_eq_true',Nat.blt_eq] at hlt
 obtain ⟨h1,⟨h2,h3⟩,h4⟩:=hlt
 intro a w σ φ hr
 have hn:=hr.nilRow (id:=id) (k:=k) (b:=b) (by simpa using h1) h2 h3
 have hne : id≠i:=by rintro rfl; simp [bc,hl] at h4
 have hE : Ext (fun _=>False) (bR φ id none) (bR φ id none) ((id,.row k b [])::sto) ((id,.row k b [])::bJ i (.box (cs.set j0 (.own id 0))) sto):=by
  intro j _
  cases hj : look ((id,AObj.row k b [])::bJ i (.box (cs.set j0 (.own id 0))) sto) j with
  | none=>exact .inl rfl
  | some e =>
    refine .inr ?_
    rcases ah hj with ⟨rfl,rfl⟩ | ⟨hne2,hj2⟩
    ·exact ⟨_,ay,rfl,_,rfl,compat.refl _⟩
    ·rw [cn] at hj2
     rcases ah hj2 with ⟨rfl,rfl⟩ | ⟨_,hj3⟩
     ·exact ⟨.box cs,by rw [aD hne2]; exact hl,rfl,.box (cs.set j0 (.own id 0)),rfl,trivial⟩
     ·exact ⟨_,by rw [aD hne2]; exact hj3,rfl,_,rfl,compat.refl _⟩
 have hold : ∀ {j e},look ((id,AObj.row k b [])::bJ i (.box (cs.set j0 (.own id 0))) sto) j = some e→(j = i∧e = .box (cs.set j0 (.own id 0)))∨look ((id,AObj.row k b [])::sto) j = some e:=by
  intro j e hj
  rcases ah hj with ⟨rfl,rfl⟩ | ⟨hne2,hj2⟩
  ·exact .inr ay
  ·rw [cn] at hj2
   rcases ah hj2 with ⟨rfl,rfl⟩ | ⟨_,hj3⟩
   ·exact .inl ⟨rfl,rfl⟩
   ·exact .inr (by rw [aD hne2]; exact hj3)
 have hi : look ((id,AObj.row k b [])::sto) i = some (.box cs):=by rw [aD (fun e=>hne e.symm)]; exact hl
 refine ⟨σ,_,hn.le,hn.fresh,⟨hn.inv.sig,fun j e hj=>?_,fun j j' e e' p p' hj hj' hne2 hp hp'=>?_⟩,fun j e p hj hp=>?_,fun s v hv=>?_,hn.defers,hn.size,hn.fra,hn.pin⟩
 ·rcases hold hj with ⟨rfl,rfl⟩ | hj2
  ·obtain ⟨B,cc,vs,t,h5,h6,h7,h8⟩:=hn.inv.obj _ _ hi
   refine ⟨B,cc,vs,t,h5,h6,All2.of_get (by rw [List.length_set]; exact h7.length) fun m x u hx hu=>?_,h8⟩
   by_cases hm : j0 = m
   ·subst hm
    have hlt : j0 < cs.length:=(List.getElem?_eq_some_iff.1 hc).1
    rw [List.getElem?_set_self hlt] at hx
    cases hx
    obtain ⟨u',hu',hr9⟩:=h7.get hc
    rw [hu] at hu'; cases hu'
    replace hr9:=RepC.d_inv hr9
    cases hr9
    exact .ownNil ay aA
   ·rw [List.getElem?_set_ne hm] at hx
    obtain ⟨u',hu',hr9⟩:=h7.get hx
    rw [hu] at hu'; cases hu'
    exact hr9.ext (Sig.le_refl _) hE fun j hj=>hj.elim
  ·exact (hn.inv.obj _ _ hj2).ext (X:=fun _=>False) (Sig.le_refl _) hE (fun j hj=>hj.elim) rfl fun _ _ _=>⟨rfl,rfl⟩
 ·have h5 : ∀ {j e},look ((id,AObj.row k b [])::bJ i (.box (cs.set j0 (.own id 0))) sto) j = some e→∃ e0,look ((id,AObj.row k b [])::sto) j = some e0:=by
   intro j e hj
   rcases hold hj with ⟨rfl,rfl⟩ | hj2
   ·exact ⟨_,hi⟩
   ·exact ⟨_,hj2⟩
  obtain ⟨_,h6⟩:=h5 hj
  obtain ⟨_,h7⟩:=h5 hj'
  exact hn.inv.inj _ _ _ _ _ _ h6 h7 hne2 hp hp'
 ·rcases hold hj with ⟨rfl,rfl⟩ | hj2
  ·exact hn.mine _ _ _ hi hp
  ·exact hn.mine _ _ _ hj2 hp
 ·obtain ⟨u,hu,hru⟩:=hn.slot s v hv
  exact ⟨u,hu,hru.ext (Sig.le_refl _) hE fun j hj=>hj.elim⟩
theorem xv{V : Env}{st : St}{o : Oper}{id i n k b k' b' : Nat}{t t2 : TypeId}{x y : Operand}{v : AV}{xs ys : List (List D)}{e : TypeId}{z : List D}{q : TypeId×Nat×Nat×List D}
  (ho : o.op = .call { callee:=.builtin .append,args:=⟨[x,y]⟩,argTypes:=⟨[t,t2]⟩ }) (ht : aN V.T t = some (e,k,b,z)) (ht2 : aN V.T t2 = some q) (hx : ev st x = some (.one (.own i n))) (hl : look st.sto i = some (.row k' b' xs))
  (hkb : (Nat.beq k k' && Nat.beq b b') = true) (hy : ev st y = some v) (hs : eG st k v = some ys) (h1 : n + ys.length≤1000000000) (h2 : (n + ys.length) * b≤100000000000) :
  aL V st o id = some ⟨.one (.own id (n + ys.length)),[(id,some (.row k b (xs.take n ++ ys))),(i,none)],[id]⟩:=by
 obtain ⟨q1,q2,q3,q4⟩:=q
 have e1 : Nat.ble (n + ys.length) 1000000000 = true:=by simpa using h1
 have e2 : Nat.ble ((n + ys.length) * b) 100000000000 = true:=by simpa using h2
 simp only [aL,cI,bX,ho,cx,rU,hx,hy,ht,ht2,hl,hs,hkb,e1,e2,cond_true,Bool.and_self,lG,List.map_cons,List.map_nil]
end Go.Abs
namespace Go.Abs
open Go
variable {P : Program} {c : Ctx} {fr : List (Nat×AV)} {sto : Sto}
def nmA(b : Bool×Bool) : Nat:=bif b.1 then 11 else 10
def nmB(b : Bool×Bool) : Nat:=bif b.2 then 13 else 12
def qN(i : Nat) : Nat:=bif Nat.beq i 11 then 10 else bif Nat.beq i 13 then 12 else i
theorem xt{α : Type}{f a b : List (Nat×α)}(h1 : SubL f a)(h2 : SubL f b) : SubL f (a ++ b):=by
 induction a with
 | nil=>exact h2
 | cons p r ih=>exact ⟨h1.1,ih h1.2⟩
theorem tX{f f' : List (Nat×AV)}{s s' : Sto}(hf : SubL f f')(hs : SubL s s') : Imp c ⟨f,s⟩ ⟨f',s'⟩:=Imp.trans (iO hf) (xu hs)
theorem ql{α : Type}{body : Code}{Q : Exit→St→Prop}(rg : Nat)(hrg : iQ body = rg){fr1 : List (Nat×AV)}{sto1 : Sto}(ha : Imp c ⟨fr,sto⟩ ⟨fr1,sto1⟩)(kept : List (Nat×AV))(hk : SubL fr1 kept)(L : Bool×Bool→α→List (Nat×AV))(S : Bool×Bool→α→Sto)(Inv : α→Prop)(μ : α→Nat)(x0 : α)
  (hL : SubL fr1 (L (false,false) x0)) (hS : SubL sto1 (S (false,false) x0)) (hq : ∀ b y,Imp c ⟨L b y ++ kept,S b y⟩ ⟨L (false,false) y ++ kept,S (false,false) y⟩) (h0 : Inv x0)
  (hround : ∀ x,Inv x→OkC P c body ⟨L (false,false) x ++ kept,S (false,false) x⟩ (av (fun st'=>∃ y b,Inv y∧μ y < μ x∧SubL st'.sto (S b y)∧SubL st'.fr (L b y)∧SubL st'.fr kept) Q)) : OkC P c (.loop body) ⟨fr,sto⟩ Q:=by
 refine bO (st':=⟨L (false,false) x0 ++ kept,S (false,false) x0⟩) (Imp.trans ha (tX (xt hL hk) hS)) ?_
 refine ng (fun n st=>∃ x,Inv x∧n = μ x∧st = ⟨L (false,false) x ++ kept,S (false,false) x⟩) (μ x0) ⟨x0,h0,rfl,rfl⟩ ?_
 rintro n st ⟨x,hx,rfl,rfl⟩
 refine iV (hround x hx) fun e st h=>?_
 cases e with
 | normal =>
   obtain ⟨y,b,hy,hlt,hs,h1,h2⟩:=h
   obtain ⟨f,s⟩:=st
   simp only at hs h1 h2
   exact ⟨μ y,_,hlt,⟨y,hy,rfl,rfl⟩,Imp.trans (tX (xt h1 h2) hs) (hq b y)⟩
 | _=>exact h
section
variable {w0 : World} {σ0 : Sig} {φ0 : Pl} {M : Nat→Prop} {n : Nat} {rd : Option Nat} {mk : List Deferred} {ops : Array Oper} {o : Oper} {rest : List Oper} {K : St→Prop} {st0 : St} {acc : List Tr}
theorem eo(k : Nat)(dl : List Nat){ss : St}{d : Nat}{fop : Operand}{args : Array Operand}{ats : Array TypeId}{f : FuncId}{caps : List D}{avs avs' : List AV}{rav rav' : AV}
  (ho : o.op = .call { callee:=.value fop,args:=args,argTypes:=ats }) (hg : o.guard = none) (hdst : o.dst = some d) (hd : Nat.blt d n = true) (hss : sealL ⟨fr,sto⟩ dl = some ss) (hf : ev ss fop = some (.one (.d (.fn f caps))))
  (ha : evL ss args.toList = some avs) (hD : cb avs = true) (hap : (avs ++ caps.map fun x=>.one (.d x)) = avs') (hC : CallA P f avs' [] rav [])
  (hk : (ch [] [] && Nat.ble (k + 16) 1000000 && cO [] rav && aY [] []) = true) (hfresh : lz k ⟨fr,dA dl sto⟩ = true) (hr : dp (rn k []) rav = rav')
  (h : aa P ⟨w0,σ0,φ0,M,n,rd,mk⟩ ops rest ⟨(d,rav')::fr,dA dl sto⟩ K) : aa P ⟨w0,σ0,φ0,M,n,rd,mk⟩ ops (o::rest) ⟨fr,sto⟩ K:=by
 subst hap; subst hr
 exact km k dl ho hg (by rw [hdst]; exact hd) hss hf ha hD hC hk (oh hfresh) (by rw [hdst]; exact h)
theorem tY(k : Nat)(dl : List Nat){os : List (Nat×AObj)}{d : Nat}{fop : Operand}{args : Array Operand}{ats : Array TypeId}{f : FuncId}{caps : List D}{avs avs' : List AV}{rav rav' : AV}
  (ho : o.op = .call { callee:=.value fop,args:=args,argTypes:=ats }) (hg : o.guard = none) (hdst : o.dst = some d) (hd : Nat.blt d c.n = true) (hos : dq sto dl = some os) (hf : evS os ⟨fr,sto⟩ fop = some (.one (.d (.fn f caps))))
  (ha : jS os ⟨fr,sto⟩ args.toList = some avs) (hD : cb avs = true) (hap : (avs ++ caps.map fun x=>.one (.d x)) = avs') (hC : CallA P f avs' [] rav [])
  (hk : (ch [] [] && Nat.ble (k + 16) 1000000 && cO [] rav && aY [] []) = true) (hr : dp (rn k []) rav = rav')
  (h : aj P c ops st0 rest ⟨(d,rav')::fr,cw (n5 dl) sto⟩ (kB k dl dl rav []::acc) K) : aj P c ops st0 (o::rest) ⟨fr,sto⟩ acc K:=by
 subst hap; subst hr
 refine k5 hg (vh k dl ho (by rw [hdst]; exact hd) hos hf ha hD hC hk) ?_
 rw [hdst]; exact h
end
theorem dU{V : Env}{st : St}{o : Oper}{id i n k b k' b' : Nat}{t t2 : TypeId}{x y : Operand}{v : AV}{xs ys : List (List D)}{e : TypeId}{z : List D}{q : TypeId×Nat×Nat×List D}
  (ho : o.op = .call { callee:=.builtin .append,args:=⟨[x,y]⟩,argTypes:=⟨[t,t2]⟩ }) (ht : aN V.T t = some (e,k,b,z)) (ht2 : aN V.T t2 = some q) (hx : ev st x = some (.one (.own i n))) (hl : look st.sto i = some (.row k' b' xs))
  (hkb : (Nat.beq k k' && Nat.beq b b') = true) (hy : ev st y = some v) (hs : eG st k v = some ys) (hn : n≤100000000) (hys : ys.length≤10000000) (hb : b≤100) :
  aL V st o id = some ⟨.one (.own id (n + ys.length)),[(id,some (.row k b (xs.take n ++ ys))),(i,none)],[id]⟩ :=
 xv ho ht ht2 hx hl hkb hy hs (by omega) (Nat.le_trans (Nat.mul_le_mul (show n + ys.length≤110000000 by omega) hb) (by omega))
end Go.Abs
namespace Go.Abs
open Go
variable {V : Env} {st : St} {o : Oper}
end Go.Abs
