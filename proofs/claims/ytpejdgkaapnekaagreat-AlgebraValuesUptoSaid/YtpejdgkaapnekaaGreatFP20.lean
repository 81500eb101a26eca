import Derived.Test.YtpejdgkaapnekaaGreatFP18
import Derived.Test.YtpejdgkaapnekaaGreatFE1
import Derived.Test.YtpejdgkaapnekaaGreatFP16
import Derived.Test.YtpejdgkaapnekaaGreatFP15
import Derived.Test.YtpejdgkaapnekaaGreatFP17
set_option linter.unusedVariables false
set_option linter.unusedSimpArgs false
set_option maxHeartbeats 1000000
namespace Go.Proofs.YtpejdgkaapnekaaGreat
open Go Go.Abs
attribute [local irreducible] ao OkC aU bg aV bA
set_option maxRecDepth 10000
def kl(t : Int) : Bool:=decide (1≤t) && decide (t≤4)
def ch(op : Int)(l : List Int) : Int×Int :=
 if l.all kl then (if cQ op (at_ l 0) (at_ l 1) (at_ l 2) = 0 then (0,12) else (cQ op (at_ l 0) (at_ l 1) (at_ l 2),0)) else (0,2)
def ie(p : Int×Int) : AV:=.tup [(false,[.d (.int .i64 p.1)]),(false,[.d (.int .i64 p.2)])]
theorem Ks(op : Int)(l : List Int)(hop : 4≤op∧op≤22)(hl : (l.length : Int) = dN op) : CallA Tryz.prog 178 [.one (.d (.int .i64 op)),.one (.d (bI l))] [] (ie (ch op l)) []:=by
 have ha : (dN op == 0) = false:=by unfold dN; simp; omega
 have hn : (((l.map dA).length : Int) != dN op) = false:=by simp [hl]
 refine enter ab Tryz.func178 rfl (by decide +kernel) rfl fun hok w0 σ0 φ0 M=>?_
 have h1:=hok.2.1.sl.1; clear hok; simp only [List.length_map] at h1
 repeat' (first|(refine h6H ?_; first|refine ac ?_|refine ah ab J J J J J ?_|(refine h0H ?_; first|refine aT J J (by first|assumption|rfl) ?_|refine bH J J (by first|assumption|rfl) J J ?_|refine bn J J J J (fun h=>?_) (fun h=>?_))|(refine h1H ?_; refine s_e aa J J J (aL J J J J (aN (by omega) (by omega))) ?_)|(refine h2H ?_; first|refine s_e aa J J J (aF J J (by first|rfl|assumption) J) ?_|refine s_e aa J J J (az J J (by first|rfl|assumption) J) ?_)|(refine h3H ?_; refine s_e aa J J J (ar J J J J J (by first|omega|((try simp only [a0A,a1A,a2A,a3A,a4A,a5A,a6A,a7A,a8A,a9A,au,av] at *); omega)) (aJ (by first|omega|((try simp only [a0A,a1A,a2A,a3A,a4A,a5A,a6A,a7A,a8A,a9A,au,av] at *); omega)))) ?_)|(refine h4H ?_; first|refine ag J J J J J J J J (fC _) J ?_|refine ag J J J J J J J J (Kt _ _ hop hl) J ?_))|(refine h7H ?_; first|refine al ?_|refine ae ?_|refine ay ?_|refine aw ?_|refine am ?_|refine aW ?_|refine bc J ?_|refine aZ J (by assumption) ?_|refine aA J (fun h=>?_) (fun h=>?_)|refine bk 4 J [(0,_),(1,_)] (q2Q J J) (fun (k : Nat)=>[(6,.one (.d (.int .i64 k)))]) (fun (k : Nat)=>k≤l.length∧l.all kl = (l.drop k).all kl) (fun (k : Nat)=>l.length - k) 0 (q1Q J) ?_ (fun k ⟨hk,hs⟩=>?_))|(show Exists _; refine Exists.intro (k + 1) ⟨?_,?_,(by (repeat' first|exact ap|refine af J ?_); done),(q1Q J),(q2Q J J)⟩)|refine ak ?_|refine aC ?_|refine bd ?_|refine aG ?_|refine aP ?_|refine aX J ?_|refine ai (.inl J) J J ?_)
 all_goals clear ha hn hl hop
 all_goals (try (((simp_all [ch,kl,ie,aO,List.drop_eq_nil_of_le]) <;> first | omega | (rw [Bool.eq_iff_iff]; simp; omega) | grind); done))
theorem eH(op : Int)(l : List Int)(n : Int)(k d : D)(f : FuncId)(caps : List D)(b : Bool)
  (h226 : CallA Tryz.prog 226 [.one (.d (.int .i64 op)),.one (.d (.int .i64 (l.map dA).length))] [] (.tup [(true,[.d (.int .i64 n),.d k,.d (.fn f caps),.d (.bool b),.d d]),(false,[.d (.bool true)])]) [])
  (hf : CallA Tryz.prog f (.one (.d (bI l))::caps.map fun x=>.one (.d x)) [] (.one (.d (.int .i64 (cQ op (at_ l 0) (at_ l 1) (at_ l 2))))) []) :
  CallA Tryz.prog 175 [.one (.d (.int .i64 op)),.one (.d (bI l))] [] (ie (ch op l)) []:=by
 refine enter ab Tryz.func175 rfl (by decide +kernel) rfl fun hok w0 σ0 φ0 M=>?_
 have h1:=hok.2.1.sl.1; clear hok; simp only [List.length_map] at h1
 repeat' (first|(refine h6H ?_; first|refine ac ?_|refine ah ab J J J J J ?_|(refine h0H ?_; first|refine aT J J (by first|assumption|rfl) ?_|refine bH J J (by first|assumption|rfl) J J ?_|refine bn J J J J (fun h=>?_) (fun h=>?_))|(refine h1H ?_; refine s_e aa J J J (aL J J J J (aN (by omega) (by omega))) ?_)|(refine h2H ?_; first|refine s_e aa J J J (aF J J (by first|rfl|assumption) J) ?_|refine s_e aa J J J (az J J (by first|rfl|assumption) J) ?_)|(refine h3H ?_; refine s_e aa J J J (ar J J J J J (by first|omega|((try simp only [a0A,a1A,a2A,a3A,a4A,a5A,a6A,a7A,a8A,a9A,au,av] at *); omega)) (aJ (by first|omega|((try simp only [a0A,a1A,a2A,a3A,a4A,a5A,a6A,a7A,a8A,a9A,au,av] at *); omega)))) ?_)|(refine h4H ?_; first|refine ag J J J J J J J J (hf) J ?_|refine ba 16 J J J J J J J J (h226) J J J ?_)|(refine h5H ?_; refine ax ab 0 J J J J J ?_)|refine aI aa J J J ?_)|(refine h7H ?_; first|refine al ?_|refine ae ?_|refine ay ?_|refine aw ?_|refine am ?_|refine aW ?_|refine bc J ?_|refine bm J ?_|refine aA J (fun h=>?_) (fun h=>?_)|refine bk 5 J [(1,_),(6,_),(20,_),(21,_)] (q4Q J J J J) (fun (k : Nat)=>[(22,.one (.d (.int .i64 k)))]) (fun (k : Nat)=>k≤l.length∧l.all kl = (l.drop k).all kl) (fun (k : Nat)=>l.length - k) 0 (q1Q J) ?_ (fun k ⟨hk,hs⟩=>?_))|(show Exists _; refine Exists.intro (k + 1) ⟨?_,?_,(by (repeat' first|exact ap|refine af J ?_); done),(q1Q J),(q4Q J J J J)⟩)|refine ak ?_|refine aC ?_|refine bd ?_|refine aG ?_|refine aP ?_|refine aX J ?_|refine ai (.inl J) J J ?_)
 all_goals (try (((simp_all [ch,kl,ie,aO,List.drop_eq_nil_of_le]) <;> first | omega | (rw [Bool.eq_iff_iff]; simp; omega) | grind); done))
end Go.Proofs.YtpejdgkaapnekaaGreat
namespace Go.Proofs.YtpejdgkaapnekaaGreat
open Go Go.Abs
theorem co{l : List Int}(h : (l.length : Int) = 2) : ((l.length : Int) - 2).toNat = 0∧((l.length : Int) - 1).toNat = 1:=by omega
theorem uG{l : List Int}(h : (l.length : Int) = 3) : ((l.length : Int) - 2).toNat = 1∧((l.length : Int) - 1).toNat = 2:=by omega
theorem ju{a b : Int} : (if dG a = true then cI a b else 0) = if dG a = true∧dG b = true then cI a b else 0:=by
 unfold cI
 by_cases ha : dG a = true <;> by_cases hb : dG b = true <;> simp [ha,hb]
 intro h; subst h; exact absurd ha hb
theorem AE{a b : Int}(ha : dG a = true)(hb : dG b = true) : cI a b≠0:=by
 have h0 : a≠0:=by rintro rfl; simp [dG] at ha
 unfold cI; split
 ·exact h0
 ·simp [ha,hb]
theorem J7(op : Int)(l : List Int)(hop : 4≤op∧op≤22)(hl : (l.length : Int) = dN op) : CallA Tryz.prog 175 [.one (.d (.int .i64 op)),.one (.d (bI l))] [] (ie (ch op l)) []:=by
 have hlen : ∀ n : Int,(l.length : Int) = n→(((l.map dA).length : Nat) : Int) = n:=by intro n h; simpa using h
 have go : ∀ {f : FuncId} {caps : List D} {t t' : Int},CallA Tryz.prog f (.one (.d (bI l))::caps.map fun x=>.one (.d x)) [] (.one (.d (.int .i64 t))) []→t = t'→CallA Tryz.prog f (.one (.d (bI l))::caps.map fun x=>.one (.d x)) [] (.one (.d (.int .i64 t'))) []:=by
  intro f caps t t' h e; rwa [e] at h
 rcases nM hop with rfl | rfl | rfl | rfl | rfl | rfl | rfl | rfl | rfl | rfl | rfl | rfl | rfl | rfl | rfl | rfl | rfl | rfl | rfl <;> simp [dN] at hl
 ·exact eH _ _ _ _ _ _ _ _ (by rw [hlen 1 (by omega)]; exact BZ) (go (caps:=[]) (Jt l (by omega)) (by simp [cQ]))
 ·exact eH _ _ _ _ _ _ _ _ (by rw [hlen 1 (by omega)]; exact B0) (go (caps:=[]) (Gq l (by omega)) (by simp [cQ]))
 ·exact eH _ _ _ _ _ _ _ _ (by rw [hlen 1 (by omega)]; exact B1) (go (caps:=[.ptr [.fn 300 []]]) (Jw l (by omega)) (by
   simp only [cQ]
   by_cases h : dG (at_ l 0) = true
   ·simp [h]
    simp [dG] at h
    omega
   ·simp [h]; rfl))
 ·exact eH _ _ _ _ _ _ _ _ (by rw [hlen 1 (by omega)]; exact B2) (go (caps:=[.ptr [.int .i64 1]]) (Gp (bI l) 1) (by simp [cQ]))
 ·exact eH _ _ _ _ _ _ _ _ (by rw [hlen 1 (by omega)]; exact B3) (go (caps:=[.ptr [.int .i64 2]]) (Gp (bI l) 2) (by simp [cQ]))
 ·exact eH _ _ _ _ _ _ _ _ (by rw [hlen 2 (by omega)]; exact B4) (go (caps:=[]) (zM l (by omega)) (by rw [(co hl).1,(co hl).2,ju]; simp [cQ]))
 ·exact eH _ _ _ _ _ _ _ _ (by rw [hlen 2 (by omega)]; exact yV) (go (caps:=[]) (zM l (by omega)) (by rw [(co hl).1,(co hl).2,ju]; simp [cQ]))
 ·exact eH _ _ _ _ _ _ _ _ (by rw [hlen 2 (by omega)]; exact yW) (go (caps:=[]) (zM l (by omega)) (by rw [(co hl).1,(co hl).2,ju]; simp [cQ]))
 ·exact eH _ _ _ _ _ _ _ _ (by rw [hlen 2 (by omega)]; exact yX) (go (caps:=[]) (Jv l (by omega)) (by
   rw [(co hl).1,(co hl).2,ju]
   by_cases h : dG (at_ l 0) = true∧dG (at_ l 1) = true
   ·rw [if_pos h,if_neg (AE h.1 h.2)]; simp [cQ,h]
   ·rw [if_neg h]; simp [cQ]; intro a; cases hb : dG (at_ l 1) with | false=>rfl | true=>exact absurd ⟨a,hb⟩ h))
 ·exact eH _ _ _ _ _ _ _ _ (by rw [hlen 2 (by omega)]; exact yY) (go (caps:=[]) (sZ l (by omega)) (by rw [(co hl).1,(co hl).2]; simp [cQ]))
 ·exact eH _ _ _ _ _ _ _ _ (by rw [hlen 2 (by omega)]; exact yZ) (go (caps:=[]) (sZ l (by omega)) (by rw [(co hl).1,(co hl).2]; simp [cQ]))
 ·exact eH _ _ _ _ _ _ _ _ (by rw [hlen 2 (by omega)]; exact y0) (go (caps:=[]) (sZ l (by omega)) (by rw [(co hl).1,(co hl).2]; simp [cQ]))
 ·exact eH _ _ _ _ _ _ _ _ (by rw [hlen 2 (by omega)]; exact y1) (go (caps:=[]) (sZ l (by omega)) (by rw [(co hl).1,(co hl).2]; simp [cQ]))
 ·exact eH _ _ _ _ _ _ _ _ (by rw [hlen 2 (by omega)]; exact y2) (go (caps:=[]) (sZ l (by omega)) (by rw [(co hl).1,(co hl).2]; simp [cQ]))
 ·exact eH _ _ _ _ _ _ _ _ (by rw [hlen 2 (by omega)]; exact y3) (go (caps:=[]) (sZ l (by omega)) (by rw [(co hl).1,(co hl).2]; simp [cQ]))
 ·exact eH _ _ _ _ _ _ _ _ (by rw [hlen 2 (by omega)]; exact y4) (go (caps:=[]) (Gr l (by omega)) (by
   rw [(co hl).1,(co hl).2]
   by_cases h : at_ l 0 = 1 <;> by_cases h2 : at_ l 1 = 1 <;> simp [cQ,cI,h,h2,dG]
   intro e; omega))
 ·exact eH _ _ _ _ _ _ _ _ (by rw [hlen 2 (by omega)]; exact y5) (go (caps:=[]) (Gr l (by omega)) (by
   rw [(co hl).1,(co hl).2]
   by_cases h : at_ l 0 = 1 <;> by_cases h2 : at_ l 1 = 1 <;> simp [cQ,cI,h,h2,dG]
   intro e; omega))
 ·exact eH _ _ _ _ _ _ _ _ (by rw [hlen 2 (by omega)]; exact y6) (go (caps:=[]) (wl l (by omega)) (by rw [(co hl).1,(co hl).2]; simp [cQ]))
 ·exact eH _ _ _ _ _ _ _ _ (by rw [hlen 3 (by omega)]; exact y7) (go (caps:=[]) (Ju l (by omega)) (by rw [(uG hl).1,(uG hl).2]; simp [cQ]))
end Go.Proofs.YtpejdgkaapnekaaGreat
namespace Go.Proofs.YtpejdgkaapnekaaGreat
open Go Go.Abs
attribute [local irreducible] ao OkC aU bg aV bA
set_option maxRecDepth 10000
def pG(k n d : Int)(s : List UInt8) : Int:=if iD k n d s 1 then 1 else if iD k n d s 2 then 2 else if iD k n d s 3 then 3 else 4
theorem J6(k n d : Int)(s : List UInt8) : CallA Tryz.prog 174 [.agg [.d (.int .i64 k),.d (.int .i64 n),.d (.int .i64 d),.d (.str s)]] [] (.one (.d (.int .i64 (pG k n d s)))) []:=by
 refine enter ab Tryz.func174 rfl (by decide +kernel) rfl fun hok w0 σ0 φ0 M=>?_
 clear hok
 repeat' (first|(refine h6H ?_; first|refine ac ?_|refine ah ab J J J J J ?_|(refine h1H ?_; refine s_e aa J J J (aL J J J J (aN (by omega) (by omega))) ?_)|(refine h4H ?_; refine ag J J J J J J J J (Gh _ _ _ _ _) J ?_)|(refine bC ?_; refine aM 0 J J J J J J ?_)|refine s_e aa J J J J ?_|refine cj aa 1 J J J J J J ?_)|(refine h7H ?_; first|refine al ?_|refine ae ?_|refine ay ?_|refine aw ?_|refine am ?_|refine aW ?_|refine bc J ?_|refine bm J ?_|refine aA J (fun h=>?_) (fun h=>?_)|refine oU 2 J 4 ?_)|refine ak ?_|refine aC ?_|refine bd ?_|refine aG ?_|refine aP ?_|refine aX J ?_|refine ai (.inl J) J J ?_)
 all_goals (try (((simp_all [pG,aO,List.drop_eq_nil_of_le]) <;> first | omega | (rw [Bool.eq_iff_iff]; simp; omega) | grind); done))
end Go.Proofs.YtpejdgkaapnekaaGreat
namespace Go.Proofs.YtpejdgkaapnekaaGreat
open Go Go.Abs
def atI(ats : List Attr)(name : List UInt8) : Int:=bS (fun a : Attr=>a.name == name) ats 0
def kB(ds : List Dim)(name : List UInt8) : Int:=bS (fun a : Dim=>a.name == name) ds 0
def iA(ats : List Attr)(name : List UInt8) : Int×Int:=if atI ats name < 0 then (0,11) else ((at_ ats (atI ats name).toNat).type,0)
def j7(ds : List Dim)(name : List UInt8) : Int×Int:=if kB ds name < 0 then (0,11) else (2,0)
mutual
def cM(cst : Val→Int)(ds : List Dim)(ats : List Attr) : Scalar→Int×Int
 | .mk o n v a=>if o = 1 then (cst v,0) else if o = 2 then iA ats n else if o = 3 then j7 ds n else
   match cB cst ds ats a with
   | .inl e=>(0,e)
   | .inr l=>ch o l
def cB(cst : Val→Int)(ds : List Dim)(ats : List Attr) : List Scalar→Sum Int (List Int)
 | []=>.inr []
 | x::r=>if (cM cst ds ats x).2≠0 then .inl (cM cst ds ats x).2 else
   match cB cst ds ats r with
   | .inl e=>.inl e
   | .inr l=>.inr ((cM cst ds ats x).1::l)
end
theorem jM{cst : Val→Int}{ds : List Dim}{ats : List Attr} : ∀ {s : Scalar},cM cst ds ats s = if s.op = 1 then (cst s.val,0) else if s.op = 2 then iA ats s.name else if s.op = 3 then j7 ds s.name else
  match cB cst ds ats s.args with
  | .inl e=>(0,e)
  | .inr l=>ch s.op l
 | .mk _ _ _ _=>by simp only [cM,Scalar.op,Scalar.name,Scalar.val,Scalar.args]; rfl
theorem up{cst : Val→Int}{ds : List Dim}{ats : List Attr} : ∀ {a : List Scalar} {l : List Int},cB cst ds ats a = .inr l→l.length = a.length
 | [],l,h=>by simp [cB] at h; subst h; rfl
 | x::r,l,h=>by
   simp only [cB] at h
   split at h
   ·cases h
   ·split at h
    ·cases h
    ·rename_i l2 h2
     cases h
     simp [up h2]
def dQ(v : Val) : Int:=pG v.kind v.num v.den v.str
def gt(v : Val) : Int:=if v.kind = 1 then 1 else if v.kind = 3 then 4 else if v.den = 1 then 2 else 3
theorem GB{v : Val}(h : dU v.kind v.num v.den v.str = true)(h0 : v.kind≠0) : dQ v = gt v:=by
 have hf : ∀ t,iD v.kind v.num v.den v.str t = (decide (1≤t) && (decide (t≤4) && (if v.kind = 0 then true else if v.kind = 1 then t == 1 else if v.kind = 2 then t == 3 || t == 2 && v.den == 1 else t == 4))):=by
  intro t; unfold iD; rw [h,Bool.true_and]
 have hk : v.kind = 1∨v.kind = 2∨v.kind = 3:=by
  unfold dU at h
  by_cases h1 : v.kind = 1
  ·exact .inl h1
  ·by_cases h2 : v.kind = 2
   ·exact .inr (.inl h2)
   ·by_cases h3 : v.kind = 3
    ·exact .inr (.inr h3)
    ·simp [h0,h1,h2,h3] at h
 unfold dQ gt pG
 rw [hf,hf,hf]
 rcases hk with hk | hk | hk <;> rw [hk] <;> simp
 all_goals (by_cases hd : v.den = 1 <;> simp [hd])
theorem uq{f g : Val→Int}{ds : List Dim}{ats : List Attr} : ∀ {l : List Scalar},(∀ x∈l,cM f ds ats x = cM g ds ats x)→cB f ds ats l = cB g ds ats l
 | [],_=>rfl
 | x::r,h=>by
   simp only [cB,h x (by simp),uq fun y hy=>h y (List.mem_cons_of_mem _ hy)]
theorem f6 : ∀ {l : List Scalar},gS l = true→∀ x∈l,dq x = true
 | [],_,x,h=>by simp at h
 | y::r,h,x,hx=>by
   simp only [gS,Bool.and_eq_true] at h
   rcases List.mem_cons.1 hx with rfl | hx
   ·exact h.1
   ·exact f6 h.2 x hx
theorem zR{s : Scalar}(h : dv s = true)(ho : s.op = 1) : dU s.val.kind s.val.num s.val.den s.val.str = true∧s.val.kind≠0:=by
 unfold dv at h
 rw [if_pos ho] at h
 simp only [Bool.and_eq_true,Bool.not_eq_true',beq_eq_false_iff_ne] at h
 exact ⟨h.1,h.2.1⟩
theorem Dr{ds : List Dim}{ats : List Attr}(s : Scalar) : dq s = true→cM dQ ds ats s = cM gt ds ats s:=by
 induction s using Scalar.ind with
 | h s ih =>
   intro h
   rw [fU,Bool.and_eq_true] at h
   rw [jM,jM,uq (f:=dQ) (g:=gt) fun x hx=>ih x hx (f6 h.2 x hx)]
   by_cases ho : s.op = 1
   ·rw [if_pos ho,if_pos ho]
    obtain ⟨h1,h2⟩:=zR h.1 ho
    rw [GB h1 h2]
   ·rw [if_neg ho,if_neg ho]
theorem iW{s : Scalar}(h : dv s = true)(h1 : s.op≠1)(h2 : s.op≠2)(h3 : s.op≠3) : (4≤s.op∧s.op≤22)∧(s.args.length : Int) = dN s.op:=by
 unfold dv at h
 rw [if_neg h1,if_neg (by rintro (h | h); exact h2 h; exact h3 h)] at h
 simp only [Bool.and_eq_true,decide_eq_true_eq,beq_iff_eq] at h
 refine ⟨?_,h.2.2.2⟩
 have:=h.1
 unfold dN at this
 omega
def F88(ds : List Dim)(ats : List Attr)(a : List Int×Bool×Int)(x : Scalar) : Bool×(List Int×Bool×Int) :=
 let push:=fun (l : List Int) (p : Int×Int)=>if p.2≠0 then (false,(a.1,true,p.2)) else (true,(l ++ [p.1],false,(0 : Int)))
 if x.op = 1 then push a.1 (dQ x.val,0) else if x.op = 2 then push a.1 (iA ats x.name) else if x.op = 3 then push a.1 (j7 ds x.name) else
  push (a.1.take (a.1.length - x.args.length)) (ch x.op (a.1.drop (a.1.length - x.args.length)))
def nG(a : List Int×Bool×Int)(x : Scalar) : Prop:=a.2.1 = false∧a.2.2 = 0∧dv x = true∧a.1.length≤64∧(4≤x.op→x.args.length≤a.1.length)
theorem mach_list{ds : List Dim}{ats : List Attr} : ∀ {r : List Scalar},
  (∀ x∈r,∀ l : List Int,l.length + (bB x).length≤65→dm (F88 ds ats) nG (bB x) (l,false,0)∧(if (cM dQ ds ats x).2 = 0 then b5 (F88 ds ats) (bB x) (l,false,0) = (true,(l ++ [(cM dQ ds ats x).1],false,0)) else ∃ l',b5 (F88 ds ats) (bB x) (l,false,0) = (false,(l',true,(cM dQ ds ats x).2)))) →
  ∀ l : List Int,l.length + (bt r).length≤65→dm (F88 ds ats) nG (bt r) (l,false,0)∧(match cB dQ ds ats r with
    | .inr ts=>b5 (F88 ds ats) (bt r) (l,false,0) = (true,(l ++ ts,false,0))
    | .inl e=>e≠0∧∃ l',b5 (F88 ds ats) (bt r) (l,false,0) = (false,(l',true,e)))
 | [],_,l,hl=>⟨trivial,by simp [cB,bt,b5]⟩
 | x::r,h,l,hl=>by
   have hp : 1≤(bB x).length:=by rw [dX]; simp
   simp only [bt,List.length_append] at hl
   obtain ⟨h1,h2⟩:=h x (by simp) l (by omega)
   simp only [bt,cB]
   by_cases hz : (cM dQ ds ats x).2 = 0
   ·rw [if_pos hz] at h2
    have ih:=mach_list (r:=r) (fun y hy=>h y (List.mem_cons_of_mem _ hy)) (l ++ [(cM dQ ds ats x).1]) (by simp; omega)
    rw [eR,h2]
    simp only [if_true,hz,ne_eq,not_true_eq_false,if_false]
    refine ⟨okRun_of_app h1 (fun _=>by rw [h2]; exact ih.1),?_⟩
    have ih2:=ih.2
    cases ht : cB dQ ds ats r with
    | inl e=>rw [ht] at ih2; exact ih2
    | inr ts=>rw [ht] at ih2; simpa using ih2
   ·rw [if_neg hz] at h2
    obtain ⟨l',h2⟩:=h2
    rw [eR,h2]
    simp only [Bool.false_eq_true,if_false,hz,ne_eq,not_false_eq_true,if_true]
    exact ⟨okRun_of_app h1 (fun h=>by rw [h2] at h; cases h),trivial,l',rfl⟩
where
 okRun_of_app : ∀ {l m : List Scalar} {a : List Int×Bool×Int},dm (F88 ds ats) nG l a→((b5 (F88 ds ats) l a).1 = true→dm (F88 ds ats) nG m (b5 (F88 ds ats) l a).2)→dm (F88 ds ats) nG (l ++ m) a
  | [],_,_,_,h=>h rfl
  | x::l,m,a,h1,h2=>by
    simp only [List.cons_append,dm] at h1 ⊢
    refine ⟨h1.1,fun hx=>okRun_of_app (h1.2 hx) fun h=>?_⟩
    have e : b5 (F88 ds ats) (x::l) a = b5 (F88 ds ats) l (F88 ds ats a x).2:=by simp only [b5]; rw [if_pos hx]
    rw [e] at h2; exact h2 h
theorem kK : ∀ {r : List Scalar},r.length≤(bt r).length
 | []=>Nat.le_refl _
 | x::r=>by
   have:=kK (r:=r)
   have hp : 1≤(bB x).length:=by rw [dX]; simp
   simp only [bt,List.length_append,List.length_cons]; omega
theorem qU{s : Scalar}(h : dv s = true)(h3 : s.op = 1∨s.op = 2∨s.op = 3) : s.args = []:=by
 have : s.args.length = 0:=by
  unfold dv at h
  by_cases h1 : s.op = 1
  ·rw [if_pos h1] at h
   simp only [Bool.and_eq_true,beq_iff_eq] at h
   omega
  ·rw [if_neg h1,if_pos (by omega)] at h
   simp only [Bool.and_eq_true,beq_iff_eq] at h
   omega
 exact List.length_eq_zero_iff.1 this
theorem JS{ds : List Dim}{ats : List Attr}(s : Scalar) : dq s = true→∀ l : List Int,l.length + (bB s).length≤65→dm (F88 ds ats) nG (bB s) (l,false,0) ∧
  (if (cM dQ ds ats s).2 = 0 then b5 (F88 ds ats) (bB s) (l,false,0) = (true,(l ++ [(cM dQ ds ats s).1],false,0)) else ∃ l',b5 (F88 ds ats) (bB s) (l,false,0) = (false,(l',true,(cM dQ ds ats s).2))):=by
 induction s using Scalar.ind with
 | h s ih =>
   intro hp l hl
   rw [fU,Bool.and_eq_true] at hp
   have hL:=mach_list (ds:=ds) (ats:=ats) (r:=s.args) (fun x hx l hl=>ih x hx (f6 hp.2 x hx) l hl)
   rw [dX] at hl ⊢
   simp only [List.length_append,List.length_cons,List.length_nil] at hl
   by_cases h3 : s.op = 1∨s.op = 2∨s.op = 3
   ·have ha : s.args = []:=qU hp.1 h3
    have hok : nG (l,false,0) s:=⟨rfl,rfl,hp.1,by show l.length≤64; omega,fun h=>by omega⟩
    have hF : F88 ds ats (l,false,0) s = if (cM dQ ds ats s).2≠0 then (false,(l,true,(cM dQ ds ats s).2)) else (true,(l ++ [(cM dQ ds ats s).1],false,0)):=by
     rw [jM]; simp only [F88]
     rcases h3 with h3 | h3 | h3 <;> simp [h3]
    rw [ha]
    simp only [bt,List.nil_append,dm,b5]
    rw [hF]
    refine ⟨⟨hok,fun _=>trivial⟩,?_⟩
    by_cases hz : (cM dQ ds ats s).2 = 0
    ·rw [if_pos hz]; simp [hz]
    ·rw [if_neg hz]; exact ⟨l,by simp [hz]⟩
   ·obtain ⟨hop,hlen⟩:=iW hp.1 (fun h=>h3 (.inl h)) (fun h=>h3 (.inr (.inl h))) (fun h=>h3 (.inr (.inr h)))
    obtain ⟨h4,h5⟩:=hL l (by omega)
    rw [jM,if_neg (fun h=>h3 (.inl h)),if_neg (fun h=>h3 (.inr (.inl h))),if_neg (fun h=>h3 (.inr (.inr h)))]
    cases ht : cB dQ ds ats s.args with
    | inl e =>
      rw [ht] at h5
      obtain ⟨he,l',h5⟩:=h5
      refine ⟨mach_list.okRun_of_app h4 (fun h=>by rw [h5] at h; cases h),?_⟩
      simp only
      rw [if_neg he,eR,h5]
      exact ⟨l',by simp⟩
    | inr ts =>
      rw [ht] at h5
      simp only at h5
      have hts:=up ht
      have hle:=kK (r:=s.args)
      have hF : F88 ds ats (l ++ ts,false,0) s = if (ch s.op ts).2≠0 then (false,(l ++ ts,true,(ch s.op ts).2)) else (true,(l ++ [(ch s.op ts).1],false,0)):=by
       have hd : (l ++ ts).length - s.args.length = l.length:=by simp [hts]
       simp only [F88]
       rw [if_neg (fun h=>h3 (.inl h)),if_neg (fun h=>h3 (.inr (.inl h))),if_neg (fun h=>h3 (.inr (.inr h))),hd]
       simp
      refine ⟨mach_list.okRun_of_app h4 (fun _=>?_),?_⟩
      ·rw [h5]
       exact ⟨⟨rfl,rfl,hp.1,by simp; omega,fun _=>by simp [hts]⟩,fun _=>trivial⟩
      ·simp only
       rw [eR,h5]
       simp only [if_true,b5,hF]
       by_cases hz : (ch s.op ts).2 = 0
       ·rw [if_pos hz]; simp [hz]
       ·rw [if_neg hz]; exact ⟨l ++ ts,by simp [hz]⟩
theorem fx{α : Type}{p : α→Bool} : ∀ {l : List α} {k : Nat},0≤bS p l k→(k : Int)≤bS p l k∧bS p l k < k + l.length
 | [],k,h=>by simp [bS] at h
 | x::r,k,h=>by
   simp only [bS] at h ⊢
   split at h
   ·rename_i hx; rw [if_pos hx]; simp only [List.length_cons]; omega
   ·rename_i hx; rw [if_neg hx]
    have:=fx (l:=r) (k:=k + 1) h
    simp only [List.length_cons]; omega
theorem zS{o : Int}{l : List Int}(h : (ch o l).2≠0) : (ch o l).1 = 0:=by
 unfold ch at h ⊢
 by_cases h4 : l.all kl = true
 ·rw [if_pos h4] at h ⊢
  by_cases h5 : cQ o (at_ l 0) (at_ l 1) (at_ l 2) = 0
  ·rw [if_pos h5]
  ·rw [if_neg h5] at h; simp at h
 ·rw [if_neg h4]
theorem Ds{cst : Val→Int}{ds : List Dim}{ats : List Attr}{s : Scalar}(h : (cM cst ds ats s).2≠0) : (cM cst ds ats s).1 = 0:=by
 rw [jM] at h ⊢
 split
 ·rename_i h1; rw [if_pos h1] at h; simp at h
 ·rename_i h1; rw [if_neg h1] at h
  split
  ·rename_i h2; rw [if_pos h2] at h; unfold iA at h ⊢; split <;> simp_all
  ·rename_i h2; rw [if_neg h2] at h
   split
   ·rename_i h3; rw [if_pos h3] at h; unfold j7 at h ⊢; split <;> simp_all
   ·rename_i h3; rw [if_neg h3] at h
    cases ht : cB cst ds ats s.args with
    | inl e=>rfl
    | inr l=>rw [ht] at h; exact zS h
end Go.Proofs.YtpejdgkaapnekaaGreat
namespace Go.Proofs.YtpejdgkaapnekaaGreat
open Go Go.Abs
def aq : List Int→Int
 | []=>0
 | d::r=>d + 4294967296 * aq r
def Dg(l : List Int) : Prop:=∀ d∈l,0≤d∧d < 4294967296
def dig(n : Nat) : List Int:=if h : n = 0 then [] else ((n % 4294967296 : Nat) : Int)::dig (n / 4294967296)
 termination_by n
 decreasing_by omega
def pw(k : Nat) : Int:=4294967296 ^ k
theorem dx(k : Nat) : pw (k + 1) = 4294967296 * pw k:=by unfold pw; rw [Int.pow_succ,Int.mul_comm]
theorem kW : pw 0 = 1:=rfl
theorem eQ(k : Nat) : 0 < pw k:=by
 induction k with
 | zero=>decide
 | succ k ih=>rw [dx]; omega
theorem gE(a b : Nat) : pw (a + b) = pw a * pw b:=by unfold pw; rw [Int.pow_add]
theorem jA : ∀ {a b : List Int},aq (a ++ b) = aq a + pw a.length * aq b
 | [],b=>by simp [aq,kW]
 | d::a,b=>by
   simp only [List.cons_append,aq,jA (a:=a) (b:=b),List.length_cons,dx,Int.mul_add,Int.mul_assoc]
   omega
theorem Dg.cons{d : Int}{r : List Int}(h : Dg (d::r)) : (0≤d∧d < 4294967296)∧Dg r:=⟨h d List.mem_cons_self,fun x hx=>h x (List.mem_cons_of_mem _ hx)⟩
theorem Dg.at{l : List Int}(h : Dg l){i : Nat}(hi : i < l.length) : 0≤at_ l i∧at_ l i < 4294967296:=h _ (ea hi)
theorem Dg.take{l : List Int}(h : Dg l)(n : Nat) : Dg (l.take n):=fun d hd=>h d (List.mem_of_mem_take hd)
theorem Dg.drop{l : List Int}(h : Dg l)(n : Nat) : Dg (l.drop n):=fun d hd=>h d (List.mem_of_mem_drop hd)
theorem dH : ∀ {l : List Int},Dg l→0≤aq l∧aq l < pw l.length
 | [],_=>by simp [aq,kW]
 | d::r,h=>by
   obtain ⟨h1,h2⟩:=h.cons
   have:=dH h2
   simp only [aq,List.length_cons,dx]
   omega
theorem fw : dig 0 = []:=by rw [dig]; simp
theorem jT{n : Nat}(h : n≠0) : dig n = ((n % 4294967296 : Nat) : Int)::dig (n / 4294967296):=by rw [dig]; simp [h]
theorem cP : ∀ (n : Nat),Dg (dig n)∧aq (dig n) = n∧(dig n = []∨at_ (dig n) ((dig n).length - 1)≠0):=by
 intro n
 induction n using Nat.strongRecOn with
 | _ n ih =>
   by_cases h : n = 0
   ·subst h; rw [fw]; exact ⟨fun d hd=>by simp at hd,rfl,.inl rfl⟩
   ·obtain ⟨i1,i2,i3⟩:=ih (n / 4294967296) (by omega)
    rw [jT h]
    refine ⟨fun d hd=>?_,?_,.inr ?_⟩
    ·rcases List.mem_cons.1 hd with rfl | hd
     ·omega
     ·exact i1 d hd
    ·simp only [aq,i2]; omega
    ·rcases i3 with i3 | i3
     ·rw [i3]
      have h0 : n / 4294967296 = 0:=by rw [i3] at i2; simp only [aq] at i2; omega
      show ((n % 4294967296 : Nat) : Int)≠0
      omega
     ·cases hd : dig (n / 4294967296) with
      | nil =>
        rw [hd] at i2; simp only [aq] at i2
        show ((n % 4294967296 : Nat) : Int)≠0
        omega
      | cons e r =>
        rw [hd] at i3
        show at_ (_::e::r) (r.length + 1)≠0
        exact i3
theorem qH : ∀ {l : List Int},Dg l→(l = []∨at_ l (l.length - 1)≠0)→dig (aq l).toNat = l
 | [],_,_=>by simp [aq,fw]
 | d::r,h,hl=>by
   obtain ⟨h1,h2⟩:=h.cons
   have hb:=(dH h2).1
   have hr : r = []∨at_ r (r.length - 1)≠0:=by
    cases r with
    | nil=>exact .inl rfl
    | cons e s=>exact .inr (by rcases hl with hl | hl; · cases hl
                               ·exact hl)
   have ih:=qH h2 hr
   have hne : aq (d::r)≠0:=by
    intro h0
    simp only [aq] at h0
    have hd : d = 0:=by omega
    have hz : aq r = 0:=by omega
    rw [hz] at ih
    have hr0 : r = []:=by rw [← ih]; simpa using fw
    subst hr0
    rcases hl with hl | hl
    ·cases hl
    ·exact hl hd
   have hn : (aq (d::r)).toNat≠0:=by simp only [aq] at hne ⊢; omega
   rw [jT hn]
   have e1 : (aq (d::r)).toNat / 4294967296 = (aq r).toNat:=by simp only [aq]; omega
   have e2 : (((aq (d::r)).toNat % 4294967296 : Nat) : Int) = d:=by simp only [aq]; omega
   rw [e1,e2,ih]
theorem wP{l : List Int}{k : Nat}(h : Dg l)(hk : k≤l.length)(hv : aq (l.take k) = aq l)(hl : k = 0∨at_ l (k - 1)≠0) : dig (aq l).toNat = l.take k:=by
 rw [← hv]
 refine qH (h.take k) ?_
 rcases hl with hl | hl
 ·subst hl; exact .inl (by simp)
 ·by_cases h0 : k = 0
  ·subst h0; exact .inl (by simp)
  ·refine .inr ?_
   rw [List.length_take,Nat.min_eq_left hk,re (by omega)]
   exact hl
theorem bV{l : List Int}{k : Nat}(h : k < l.length) : aq (l.take (k + 1)) = aq (l.take k) + pw k * at_ l k:=by
 rw [gl h,jA,List.length_take,Nat.min_eq_left (by omega)]; simp [aq]
theorem ub{l : List Int}{k : Nat}(h : k < l.length)(h0 : at_ l k = 0) : aq (l.take (k + 1)) = aq (l.take k):=by rw [bV h,h0]; simp
theorem jU{l : List Int}{k : Nat}{x : Int}(h : k < l.length) : aq (l.set k x) = aq l + pw k * (x - at_ l k):=by
 induction l generalizing k with
 | nil=>simp at h
 | cons d r ih =>
   cases k with
   | zero=>simp only [List.set_cons_zero,aq,kW]; show _ = _ + 1 * (x - d); omega
   | succ k =>
     have:=ih (k:=k) (by simpa using h)
     simp only [List.set_cons_succ,aq,this,dx,Int.mul_add,Int.mul_assoc]
     show _ = _ + 4294967296 * (pw k * (x - at_ r k))
     omega
theorem Dg.set{l : List Int}{k : Nat}{x : Int}(h : Dg l)(hx : 0≤x∧x < 4294967296) : Dg (l.set k x):=fun d hd=>by
 rcases List.mem_or_eq_of_mem_set hd with hd | rfl
 ·exact h d hd
 ·exact hx
theorem Dg.zeros(n : Nat) : Dg (List.replicate n 0):=fun d hd=>by rw [List.eq_of_mem_replicate hd]; omega
theorem Ax(n : Nat) : aq (List.replicate n 0) = 0:=by
 induction n with
 | zero=>rfl
 | succ n ih=>simp [List.replicate_succ,aq,ih]
theorem yU : ∀ {a b : List Int} {k : Nat},Dg a→Dg b→a.length = b.length→k < a.length→(∀ i,k < i→i < a.length→at_ a i = at_ b i)→at_ a k < at_ b k→aq a < aq b
 | x::a,y::b,k,ha,hb,hl,hk,he,h=>by
   obtain ⟨a1,a2⟩:=ha.cons
   obtain ⟨b1,b2⟩:=hb.cons
   have hl' : a.length = b.length:=by simpa using hl
   cases k with
   | zero =>
     have e : a = b:=wQ hl' fun i hi=>he (i + 1) (by omega) (by simpa using hi)
     have h' : x < y:=h
     subst e; simp only [aq]; omega
   | succ k =>
     have:=yU (k:=k) a2 b2 hl' (by simpa using hk) (fun i h1 h2=>he (i + 1) (by omega) (by simpa using h2)) h
     simp only [aq]; omega
 | [],_,k,_,_,_,hk,_,_=>by simp at hk
 | _::_,[],k,_,_,hl,_,_,_=>by simp at hl
theorem wR{a b : List Int}(ha : Dg a)(hb : Dg b)(hn : b = []∨at_ b (b.length - 1)≠0)(hl : a.length < b.length) : aq a < aq b:=by
 have h1:=(dH ha).2
 have hne : b≠[]:=fun e=>by rw [e] at hl; simp at hl
 have hn':=hn.resolve_left hne
 have h2 : aq b = aq (b.take (b.length - 1)) + pw (b.length - 1) * at_ b (b.length - 1):=by
  have:=bV (l:=b) (k:=b.length - 1) (by omega)
  rwa [show b.length - 1 + 1 = b.length by omega,List.take_length] at this
 have h3:=(dH (hb.take (b.length - 1))).1
 have h4 : 1≤at_ b (b.length - 1):=by have:=hb.at (i:=b.length - 1) (by omega); omega
 have h5 : pw a.length≤pw (b.length - 1):=by
  obtain ⟨m,hm⟩ : ∃ m,b.length - 1 = a.length + m:=⟨b.length - 1 - a.length,by omega⟩
  rw [hm,gE]
  have:=Int.mul_le_mul_of_nonneg_left (show 1≤pw m by have:=eQ m; omega) (Int.le_of_lt (eQ a.length))
  omega
 have h6:=Int.mul_le_mul_of_nonneg_left h4 (Int.le_of_lt (eQ (b.length - 1)))
 omega
end Go.Proofs.YtpejdgkaapnekaaGreat
namespace Go.Proofs.YtpejdgkaapnekaaGreat
open Go Go.Abs
attribute [local irreducible] ao OkC aU bg aV bA
set_option maxRecDepth 10000
end Go.Proofs.YtpejdgkaapnekaaGreat
namespace Go.Proofs.YtpejdgkaapnekaaGreat
open Go Go.Abs
end Go.Proofs.YtpejdgkaapnekaaGreat
namespace Go.Proofs.YtpejdgkaapnekaaGreat
open Go Go.Abs
section
variable {src kept : List (Int×Bool)} {ds : List Dim} {rule : Int}
end
theorem Attr.ext{a b : Attr}(h1 : a.name = b.name)(h2 : a.type = b.type) : a = b:=by cases a; cases b; simp_all
end Go.Proofs.YtpejdgkaapnekaaGreat
namespace Go.Abs
open Go
variable {P : Program} {c : Ctx} {σ σ' : Sig} {φ φ' : Pl} {w w' : World}
theorem HInv.ren{S : Sto}(r : Nat→Nat)(h : HInv σ φ S w)(hk : (cO (bJ S) && cO (im r (bJ S)) && qJ r (bJ S) && bL S S) = true) :
  ∃ φ',HInv σ φ' (fI r S) w∧(∀ j o,look S j = some o→look (fI r S) (r j) = some (cS r o)∧φ' (r j) = φ j)∧(∀ t e,look (fI r S) t = some e→∃ j o,t = r j∧look S j = some o∧e = cS r o)∧∀ t,Pin t→φ' t = φ t:=by
 simp only [Bool.and_eq_true] at hk
 obtain ⟨⟨⟨h1,h2⟩,h3⟩,h4⟩:=hk
 classical
 let φ' : Pl:=fun t=>if h : ∃ i,i∈bJ S∧r i = t then φ h.choose else φ t
 have hφ : ∀ {i : Nat},i∈bJ S→φ' (r i) = φ i:=by
  intro i hi
  have hex : ∃ j,j∈bJ S∧r j = r i:=⟨i,hi,rfl⟩
  show (if h : ∃ j,j∈bJ S∧r j = r i then φ h.choose else φ (r i)) = φ i
  rw [dif_pos hex]
  have:=hex.choose_spec
  rw [lJ h2 this.1 hi this.2]
 have hR : ∀ j o,look S j = some o→look (fI r S) (r j) = some (cS r o)∧φ' (r j) = φ j:=fun j o hj=>⟨lK h2 hj,hφ (lc hj)⟩
 refine ⟨φ',⟨h.sig,fun t e ht=>?_,fun t t' e e' p p' ht ht' hne hp hp'=>?_⟩,hR,fun t e ht=>dJ h1 ht,fun t ht=>?_⟩
 ·obtain ⟨i,o,rfl,hi,rfl⟩:=dJ h1 ht
  exact ve hR hi (ff h4 hi) (h.obj _ _ hi)
 ·obtain ⟨i,o,rfl,hi,rfl⟩:=dJ h1 ht
  obtain ⟨i',o',rfl,hi',rfl⟩:=dJ h1 ht'
  rw [(hR _ _ hi).2] at hp
  rw [(hR _ _ hi').2] at hp'
  exact h.inj _ _ _ _ _ _ hi hi' (fun e=>hne (by rw [e])) hp hp'
 ·show (if h : ∃ j,j∈bJ S∧r j = t then φ h.choose else φ t) = _
  split
  ·rename_i hex
   have hs:=hex.choose_spec
   have:=sR h3 hs.1 (by rw [hs.2]; exact ht)
   rw [hs.2] at this
   rw [← this]
  ·rfl
theorem wU{S : Sto}{r : Nat→Nat}(hR : ∀ j o,look S j = some o→look (fI r S) (r j) = some (cS r o)∧φ' (r j) = φ j) : ∀ {avs : List AV} {vs : List Value},dD S avs = true→All2 (RepV σ φ S) avs vs→All2 (RepV σ φ' (fI r S)) (da r avs) vs
 | [],[],_,_=>trivial
 | x::l,v::vs,h,ha=>by
   simp only [dD,Bool.and_eq_true] at h
   exact ⟨reV hR h.1 ha.1,wU hR h.2 ha.2⟩
 | [],_::_,_,ha=>ha.elim
 | _::_,[],_,ha=>ha.elim
theorem uv{f : FuncId}{avs avs0 : List AV}{s s0 s' s1 : Sto}{rav : AV}(q q' : Nat→Nat)(hC : CallA P f avs s rav s')(hs : fI q s0 = s)(ha : da q avs0 = avs)(hs' : fI q' s' = s1)(hai : dD s0 avs0 = true)(hfl : eV rav = true)
  (hk : (cO (bJ s0) && cO (im q (bJ s0)) && qJ q (bJ s0) && bL s0 s0) = true) (hk' : (cO (bJ s') && cO (im q' (bJ s')) && qJ q' (bJ s') && bL s' s') = true) : CallA P f avs0 s0 rav s1:=by
 subst hs; subst ha; subst hs'
 refine ⟨hC.fn,fun w σ φ vs hinv hargs=>?_⟩
 obtain ⟨φ1,h1,hR,hL,hp⟩:=hinv.ren q hk
 refine (hC.run w σ φ1 vs h1 (wU hR hai hargs)).mono ?_
 rintro e w' ⟨v,σ',φ',rfl,hret⟩
 obtain ⟨φ2,h2,hR2,hL2,hp2⟩:=hret.inv.ren q' hk'
 have hM : ∀ b,MOf φ1 (fI q s0) b→MOf φ s0 b:=by
  rintro b ⟨t,e,p,h3,h4,h5⟩
  obtain ⟨j,o,rfl,h6,rfl⟩:=hL t e h3
  rw [(hR _ _ h6).2] at h4
  exact ⟨j,o,p,h6,h4,h5⟩
 refine ⟨v,σ',φ2,rfl,hret.le,fun b hb=>?_,h2,oZ hfl hret.rep,fun i e p hi hpi=>?_,fun t ht=>(hp2 t ht).trans ((hret.pin t ht).trans (hp t ht)),⟨hret.kept.os,hret.kept.tape,hret.kept.output,hret.kept.size,hret.kept.drawn,fun b hb hm=>hret.kept.block b hb fun h=>hm (hM b h)⟩⟩
 ·rcases hret.fresh b hb with h | h | h
  ·exact .inl h
  ·exact .inr (.inl h)
  ·exact .inr (.inr (hM b h))
 ·obtain ⟨j,o,rfl,h6,rfl⟩:=hL2 i e hi
  rw [(hR2 _ _ h6).2] at hpi
  rcases hret.mine _ _ _ h6 hpi with h | h
  ·exact .inl h
  ·exact .inr (hM _ h)
variable {V : Env} {T : Tab} {w0 : World} {σ0 : Sig} {φ0 : Pl} {M : Nat→Prop} {n : Nat} {rd : Option Nat} {mk : List Deferred} {ops : Array Oper} {o : Oper} {rest : List Oper} {fr : List (Nat×AV)} {sto : Sto} {K : St→Prop} {st st0 : St} {acc : List Tr}
theorem rW(i id : Nat){k b : Nat}(hl : look sto i = some (.box [.d .nil]))(hlt : (Nat.blt id 1000000 && (!bY id fr && !br id sto && !bQ sto id)) = true) : Imp c ⟨fr,sto⟩ ⟨fr,(id,.row k b [])::cL i (.box [.own id 0]) sto⟩:=by
 simp only [Bool.and_eq_true,Bool.not_eq_true',Nat.blt_eq] at hlt
 obtain ⟨h1,⟨h2,h3⟩,h4⟩:=hlt
 intro a w σ φ hr
 have hn:=hr.nilRow (id:=id) (k:=k) (b:=b) (by simpa using h1) h2 h3
 have hne : id≠i:=by rintro rfl; simp [bQ,hl] at h4
 have hE : Ext (fun _=>False) (cw φ id none) (cw φ id none) ((id,.row k b [])::sto) ((id,.row k b [])::cL i (.box [.own id 0]) sto):=by
  intro j _
  cases hj : look ((id,AObj.row k b [])::cL i (.box [.own id 0]) sto) j with
  | none=>exact .inl rfl
  | some e =>
    refine .inr ?_
    rcases aB hj with ⟨rfl,rfl⟩ | ⟨hne2,hj2⟩
    ·exact ⟨_,bq,rfl,_,rfl,compat.refl _⟩
    ·rw [dg] at hj2
     rcases aB hj2 with ⟨rfl,rfl⟩ | ⟨_,hj3⟩
     ·exact ⟨.box [.d .nil],by rw [bx hne2]; exact hl,rfl,.box [.own id 0],rfl,trivial⟩
     ·exact ⟨_,by rw [bx hne2]; exact hj3,rfl,_,rfl,compat.refl _⟩
 have hold : ∀ {j e},look ((id,AObj.row k b [])::cL i (.box [.own id 0]) sto) j = some e→(j = i∧e = .box [.own id 0])∨look ((id,AObj.row k b [])::sto) j = some e:=by
  intro j e hj
  rcases aB hj with ⟨rfl,rfl⟩ | ⟨hne2,hj2⟩
  ·exact .inr bq
  ·rw [dg] at hj2
   rcases aB hj2 with ⟨rfl,rfl⟩ | ⟨_,hj3⟩
   ·exact .inl ⟨rfl,rfl⟩
   ·exact .inr (by rw [bx hne2]; exact hj3)
 have hi : look ((id,AObj.row k b [])::sto) i = some (.box [.d .nil]):=by rw [bx (fun e=>hne e.symm)]; exact hl
 refine ⟨σ,_,hn.le,hn.fresh,⟨hn.inv.sig,fun j e hj=>?_,fun j j' e e' p p' hj hj' hne2 hp hp'=>?_⟩,fun j e p hj hp=>?_,fun s v hv=>?_,hn.defers,hn.size,hn.fra,hn.pin⟩
 ·rcases hold hj with ⟨rfl,rfl⟩ | hj2
  ·obtain ⟨B,cc,vs,t,h5,h6,h7,h8⟩:=hn.inv.obj _ _ hi
   refine ⟨B,cc,vs,t,h5,h6,?_,h8⟩
   cases vs with
   | nil=>exact h7.elim
   | cons v vs =>
     obtain ⟨h9,h10⟩:=h7
     cases vs with
     | cons _ _=>exact h10.elim
     | nil =>
       replace h9:=RepC.d_inv h9
       cases h9
       exact ⟨.ownNil bq bo,trivial⟩
  ·exact (hn.inv.obj _ _ hj2).ext (X:=fun _=>False) (Sig.le_refl _) hE (fun j hj=>hj.elim) rfl fun _ _ _=>⟨rfl,rfl⟩
 ·have h5 : ∀ {j e},look ((id,AObj.row k b [])::cL i (.box [.own id 0]) sto) j = some e→∃ e0,look ((id,AObj.row k b [])::sto) j = some e0:=by
   intro j e hj
   rcases hold hj with ⟨rfl,rfl⟩ | hj2
   ·exact ⟨_,hi⟩
   ·exact ⟨_,hj2⟩
  obtain ⟨_,h6⟩:=h5 hj
  obtain ⟨_,h7⟩:=h5 hj'
  exact hn.inv.inj _ _ _ _ _ _ h6 h7 hne2 hp hp'
 ·rcases hold hj with ⟨rfl,rfl⟩ | hj2
  ·exact hn.mine _ _ _ hi hp
  ·exact hn.mine _ _ _ hj2 hp
 ·obtain ⟨u,hu,hru⟩:=hn.slot s v hv
  exact ⟨u,hu,hru.ext (Sig.le_refl _) hE fun j hj=>hj.elim⟩
theorem eZ{t e : TypeId}{x y : Operand}{id m k k' b b' : Nat}{ik : IntKind}{h : Int}{xs : List (List D)}{z : List D}(ho : o.op = .slice t x none (some y) none)(ht : bz V.T t = some (e,k',b',z))(hx : ev st x = some (.one (.own id m)))(hy : ev st y = some (.one (.d (.int ik h))))
  (hl : look st.sto id = some (.row k b xs)) (hk : Nat.beq k k' = true) (h0 : 0≤h) (hm : h.toNat≤m) (hxs : m≤xs.length) : bw V st o 0 = some ⟨.one (.own id h.toNat),[],[]⟩:=by
 have e1 : Nat.ble h.toNat xs.length = true:=Nat.ble_eq.mpr (by omega)
 have e2 : Nat.ble h.toNat m = true:=Nat.ble_eq.mpr hm
 have e0 : Nat.ble 0 h.toNat = true:=Nat.ble_eq.mpr (Nat.zero_le _)
 simp only [bw,de,cy,ho,cX,fZ,hx,hy,h0,decide_true,cond_true,gd,ht,hl,hk,e0,e1,e2,Bool.and_self,Bool.or_true,Nat.beq_refl]
theorem mR{t e : TypeId}{x y : Operand}{id m k k' b b' : Nat}{ik : IntKind}{xs : List (List D)}{z : List D}(ho : o.op = .slice t x (some y) none none)(ht : bz V.T t = some (e,k',b',z))(hx : ev st x = some (.one (.own id m)))(hy : ev st y = some (.one (.d (.int ik 0))))
  (hl : look st.sto id = some (.row k b xs)) (hk : Nat.beq k k' = true) (hxs : m≤xs.length) : bw V st o 0 = some ⟨.one (.own id m),[],[]⟩:=by
 have e1 : Nat.ble m xs.length = true:=Nat.ble_eq.mpr hxs
 have e2 : Nat.ble m m = true:=Nat.ble_eq.mpr (Nat.le_refl _)
 have e0 : Nat.ble 0 m = true:=Nat.ble_eq.mpr (Nat.zero_le _)
 have e4 : (0 : Int)≤0:=Int.le_refl _
 simp only [bw,de,cy,ho,cX,fZ,hx,hy,e4,decide_true,cond_true,gd,ht,hl,hk,Int.toNat_zero,e0,e1,e2,Bool.and_self,Bool.or_true,Nat.beq_refl]
theorem ol{t e : TypeId}{x y : Operand}{id m k k' b b' : Nat}{ik : IntKind}{h : Int}{xs : List (List D)}{z : List D}(ho : o.op = .slice t x (some y) none none)(ht : bz V.T t = some (e,k',b',z))(hx : ev st x = some (.one (.own id m)))(hy : ev st y = some (.one (.d (.int ik h))))
  (hl : look st.sto id = some (.row k b xs)) (hk : Nat.beq k k' = true) (h0 : 0 < h) (hm : h.toNat≤m) (hxs : m≤xs.length) : bw V st o 0 = some ⟨.one (.sub id h.toNat (m - h.toNat)),[],[]⟩:=by
 have e1 : Nat.ble m xs.length = true:=Nat.ble_eq.mpr hxs
 have e2 : Nat.ble h.toNat m = true:=Nat.ble_eq.mpr hm
 have e3 : Nat.beq h.toNat 0 = false:=by
  cases hb : Nat.beq h.toNat 0 with
  | false=>rfl
  | true=>have:=Nat.eq_of_beq_eq_true hb; omega
 have e4 : (0 : Int)≤h:=by omega
 simp only [bw,de,cy,ho,cX,fZ,hx,hy,e4,decide_true,cond_true,gd,ht,hl,hk,e1,e2,e3,Bool.and_self,Bool.false_and,cond_false]
theorem dY(hT : bE P T){d : Nat}{t t2 e e2 k b k2 b2 k' b' id m : Nat}{z z2 : List D}{x y : Operand}{v : AV}{xs ys zs : List (List D)}
  (ho : o.op = .call { callee:=.builtin .append,args:=#[x,y],argTypes:=#[t,t2] }) (hg : o.guard = none) (hdst : o.dst = some d) (hd : Nat.blt d n = true) (ht : bz T t = some (e,k,b,z)) (ht2 : bz T t2 = some (e2,k2,b2,z2))
  (hlt : (Nat.blt id 1000000 || Nat.ble 2000000 id) = true) (hx : ev ⟨fr,sto⟩ x = some (.one (.own id m))) (hl : look sto id = some (.row k' b' xs)) (hkb : (Nat.beq k k' && Nat.beq b b') = true) (hy : ev ⟨fr,sto⟩ y = some v) (hs : eW ⟨fr,sto⟩ k v = some ys) (hzs : zs = xs.take m ++ ys)
  (hm : m≤100000000) (hys : ys.length≤100000) (hb : b≤100)
  (h : ao P ⟨w0,σ0,φ0,M,n,rd,mk⟩ ops rest ⟨(d,.one (.own id (m + ys.length)))::kJ id fr,cL id (.row k b zs) (dK id sto)⟩ K) : ao P ⟨w0,σ0,φ0,M,n,rd,mk⟩ ops (o::rest) ⟨fr,sto⟩ K:=by
 have h47 : (m + ys.length) * b≤2 ^ 47:=Nat.le_trans (Nat.mul_le_mul (show m + ys.length≤200000000 by omega) hb) (by omega)
 exact wV hT ho hg (by rw [hdst]; exact hd) ht ht2 hlt hx hl hkb hy hs hzs (by omega) h47 (by rw [hdst]; exact h)
theorem pJ{d : Nat}{fop : Operand}{args : Array Operand}{ats : Array TypeId}{f : FuncId}{caps : List D}{avs avs' : List AV}{rav : AV}{rsto : Sto}{os : List (Nat×AObj)}(dl : List Nat)
  (ho : o.op = .call { callee:=.value fop,args:=args,argTypes:=ats }) (hg : o.guard = none) (hdst : o.dst = some d) (hd : Nat.blt d c.n = true) (hos : dS sto dl = some os) (hf : evS os ⟨fr,sto⟩ fop = some (.one (.d (.fn f caps))))
  (ha : jE os ⟨fr,sto⟩ args.toList = some avs) (hD : cT avs = true) (hap : (avs ++ caps.map fun x=>.one (.d x)) = avs') (hC : CallA P f avs' [] rav rsto) (hfl : eV rav = true)
  (k : aU P c ops st0 rest ⟨(d,rav)::fr,sto⟩ (⟨rav,[],dl,[]⟩::acc) K) : aU P c ops st0 (o::rest) ⟨fr,sto⟩ acc K:=by
 subst hap
 exact lH hg (t7 dl ho (by rw [hdst]; exact hd) hos hf ha hD hC hfl) (by rw [hdst]; exact k)
theorem yQ{bl : Nat}{g : Operand}{ps : Array Nat}{assign body code : Code}{Q : Exit→St→Prop}{st' : St}(hi : Imp c st st')(h : OkR P c bl g ps assign body code st' Q) : OkR P c bl g ps assign body code st Q:=fun a w σ φ hr=>by
 obtain ⟨σ',φ',hr'⟩:=hi a w σ φ hr
 exact h a w σ' φ' hr'
theorem wa{s' : Sto}(h : SubL sto s') : Imp c ⟨fr,sto⟩ ⟨fr,s'⟩:=fun a w σ φ hr=>⟨σ,φ,hr.dropTo fun i e hi=>h.look hi⟩
theorem DL(dl : List Nat){d : Nat}{fop : Operand}{args : Array Operand}{ats : Array TypeId}{f : FuncId}{caps : List D}{avs avs' : List AV}{rav : AV}{rsto : Sto}{os : List (Nat×AObj)}
  (ho : o.op = .call { callee:=.value fop,args:=args,argTypes:=ats }) (hg : o.guard = none) (hdst : o.dst = some d) (hd : Nat.blt d n = true) (hos : dS sto dl = some os) (hf : evS os ⟨fr,sto⟩ fop = some (.one (.d (.fn f caps))))
  (ha : jE os ⟨fr,sto⟩ args.toList = some avs) (hD : cT avs = true) (hap : (avs ++ caps.map fun x=>.one (.d x)) = avs') (hC : CallA P f avs' [] rav rsto) (hfl : eV rav = true)
  (h : ao P ⟨w0,σ0,φ0,M,n,rd,mk⟩ ops rest ⟨(d,rav)::fr,sto⟩ K) : ao P ⟨w0,σ0,φ0,M,n,rd,mk⟩ ops (o::rest) ⟨fr,sto⟩ K:=by
 subst hap
 obtain ⟨ss,h1,h2⟩:=gZ (st:=⟨fr,sto⟩) hos
 exact iu ho hg (by rw [hdst]; exact hd) (fT h1) (by rw [h2]; exact hf) (by rw [k9 h2]; exact ha) hD hC hfl (by rw [hdst]; exact h)
end Go.Abs
namespace Go.Abs
open Go
variable {P : Program} {c : Ctx} {T : Tab}
variable {w0 : World} {σ0 : Sig} {φ0 : Pl} {fr : List (Nat×AV)} {sto : Sto}
theorem wb{V : Env}{st : St}{o : Oper}{id i n k b k' b' : Nat}{t t2 : TypeId}{x y : Operand}{v : AV}{xs ys : List (List D)}{e : TypeId}{z : List D}{q : TypeId×Nat×Nat×List D}
  (ho : o.op = .call { callee:=.builtin .append,args:=⟨[x,y]⟩,argTypes:=⟨[t,t2]⟩ }) (ht : bz V.T t = some (e,k,b,z)) (ht2 : bz V.T t2 = some q) (hx : ev st x = some (.one (.own i n))) (hl : look st.sto i = some (.row k' b' xs))
  (hkb : (Nat.beq k k' && Nat.beq b b') = true) (hy : ev st y = some v) (hs : eW st k v = some ys) (h1 : n + ys.length≤1000000000) (h2 : (n + ys.length) * b≤100000000000) :
  bw V st o id = some ⟨.one (.own id (n + ys.length)),[(id,some (.row k b (xs.take n ++ ys))),(i,none)],[id]⟩:=by
 obtain ⟨q1,q2,q3,q4⟩:=q
 have e1 : Nat.ble (n + ys.length) 1000000000 = true:=by simpa using h1
 have e2 : Nat.ble ((n + ys.length) * b) 100000000000 = true:=by simpa using h2
 simp only [bw,de,cy,ho,cX,qR,hx,hy,ht,ht2,hl,hs,hkb,e1,e2,cond_true,Bool.and_self,kZ,List.map_cons,List.map_nil]
end Go.Abs
namespace Go.Abs
open Go
variable {P : Program} {c : Ctx} {fr : List (Nat×AV)} {sto : Sto}
def nmA(b : Bool×Bool) : Nat:=bif b.1 then 11 else 10
def qN(i : Nat) : Nat:=bif Nat.beq i 11 then 10 else bif Nat.beq i 13 then 12 else i
theorem vZ{α : Type}{f a b : List (Nat×α)}(h1 : SubL f a)(h2 : SubL f b) : SubL f (a ++ b):=by
 induction a with
 | nil=>exact h2
 | cons p r ih=>exact ⟨h1.1,ih h1.2⟩
theorem sT{f f' : List (Nat×AV)}{s s' : Sto}(hf : SubL f f')(hs : SubL s s') : Imp c ⟨f,s⟩ ⟨f',s'⟩:=Imp.trans (iI hf) (wa hs)
theorem sU{α : Type}{body : Code}{Q : Exit→St→Prop}(rg : Nat)(hrg : iK body = rg){fr1 : List (Nat×AV)}{sto1 : Sto}(ha : Imp c ⟨fr,sto⟩ ⟨fr1,sto1⟩)(kept : List (Nat×AV))(hk : SubL fr1 kept)(L : Bool×Bool→α→List (Nat×AV))(S : Bool×Bool→α→Sto)(Inv : α→Prop)(μ : α→Nat)(x0 : α)
  (hL : SubL fr1 (L (false,false) x0)) (hS : SubL sto1 (S (false,false) x0)) (hq : ∀ b y,Imp c ⟨L b y ++ kept,S b y⟩ ⟨L (false,false) y ++ kept,S (false,false) y⟩) (h0 : Inv x0)
  (hround : ∀ x,Inv x→OkC P c body ⟨L (false,false) x ++ kept,S (false,false) x⟩ (bg (fun st'=>∃ y b,Inv y∧μ y < μ x∧SubL st'.sto (S b y)∧SubL st'.fr (L b y)∧SubL st'.fr kept) Q)) : OkC P c (.loop body) ⟨fr,sto⟩ Q:=by
 refine dI (st':=⟨L (false,false) x0 ++ kept,S (false,false) x0⟩) (Imp.trans ha (sT (vZ hL hk) hS)) ?_
 refine mC (fun n st=>∃ x,Inv x∧n = μ x∧st = ⟨L (false,false) x ++ kept,S (false,false) x⟩) (μ x0) ⟨x0,h0,rfl,rfl⟩ ?_
 rintro n st ⟨x,hx,rfl,rfl⟩
 refine iO (hround x hx) fun e st h=>?_
 cases e with
 | normal =>
   obtain ⟨y,b,hy,hlt,hs,h1,h2⟩:=h
   obtain ⟨f,s⟩:=st
   simp only at hs h1 h2
   exact ⟨μ y,_,hlt,⟨y,hy,rfl,rfl⟩,Imp.trans (sT (vZ h1 h2) hs) (hq b y)⟩
 | _=>exact h
section
variable {w0 : World} {σ0 : Sig} {φ0 : Pl} {M : Nat→Prop} {n : Nat} {rd : Option Nat} {mk : List Deferred} {ops : Array Oper} {o : Oper} {rest : List Oper} {K : St→Prop} {st0 : St} {acc : List Tr}
theorem dL(k : Nat)(dl : List Nat){ss : St}{d : Nat}{fop : Operand}{args : Array Operand}{ats : Array TypeId}{f : FuncId}{caps : List D}{avs avs' : List AV}{rav rav' : AV}
  (ho : o.op = .call { callee:=.value fop,args:=args,argTypes:=ats }) (hg : o.guard = none) (hdst : o.dst = some d) (hd : Nat.blt d n = true) (hss : sealL ⟨fr,sto⟩ dl = some ss) (hf : ev ss fop = some (.one (.d (.fn f caps))))
  (ha : evL ss args.toList = some avs) (hD : cT avs = true) (hap : (avs ++ caps.map fun x=>.one (.d x)) = avs') (hC : CallA P f avs' [] rav [])
  (hk : (cW [] [] && Nat.ble (k + 16) 1000000 && dr [] rav && bL [] []) = true) (hfresh : mI k ⟨fr,d8 dl sto⟩ = true) (hr : dO (rn k []) rav = rav')
  (h : ao P ⟨w0,σ0,φ0,M,n,rd,mk⟩ ops rest ⟨(d,rav')::fr,d8 dl sto⟩ K) : ao P ⟨w0,σ0,φ0,M,n,rd,mk⟩ ops (o::rest) ⟨fr,sto⟩ K:=by
 subst hap; subst hr
 exact j6 k dl ho hg (by rw [hdst]; exact hd) hss hf ha hD hC hk (nt hfresh) (by rw [hdst]; exact h)
theorem yF(k : Nat)(dl : List Nat){os : List (Nat×AObj)}{d : Nat}{fop : Operand}{args : Array Operand}{ats : Array TypeId}{f : FuncId}{caps : List D}{avs avs' : List AV}{rav rav' : AV}
  (ho : o.op = .call { callee:=.value fop,args:=args,argTypes:=ats }) (hg : o.guard = none) (hdst : o.dst = some d) (hd : Nat.blt d c.n = true) (hos : dS sto dl = some os) (hf : evS os ⟨fr,sto⟩ fop = some (.one (.d (.fn f caps))))
  (ha : jE os ⟨fr,sto⟩ args.toList = some avs) (hD : cT avs = true) (hap : (avs ++ caps.map fun x=>.one (.d x)) = avs') (hC : CallA P f avs' [] rav [])
  (hk : (cW [] [] && Nat.ble (k + 16) 1000000 && dr [] rav && bL [] []) = true) (hr : dO (rn k []) rav = rav')
  (h : aU P c ops st0 rest ⟨(d,rav')::fr,c4 (nk dl) sto⟩ (la k dl dl rav []::acc) K) : aU P c ops st0 (o::rest) ⟨fr,sto⟩ acc K:=by
 subst hap; subst hr
 refine lH hg (t8 k dl ho (by rw [hdst]; exact hd) hos hf ha hD hC hk) ?_
 rw [hdst]; exact h
end
theorem kz{V : Env}{st : St}{o : Oper}{id i n k b k' b' : Nat}{t t2 : TypeId}{x y : Operand}{v : AV}{xs ys : List (List D)}{e : TypeId}{z : List D}{q : TypeId×Nat×Nat×List D}
  (ho : o.op = .call { callee:=.builtin .append,args:=⟨[x,y]⟩,argTypes:=⟨[t,t2]⟩ }) (ht : bz V.T t = some (e,k,b,z)) (ht2 : bz V.T t2 = some q) (hx : ev st x = some (.one (.own i n))) (hl : look st.sto i = some (.row k' b' xs))
  (hkb : (Nat.beq k k' && Nat.beq b b') = true) (hy : ev st y = some v) (hs : eW st k v = some ys) (hn : n≤100000000) (hys : ys.length≤10000000) (hb : b≤100) :
  bw V st o id = some ⟨.one (.own id (n + ys.length)),[(id,some (.row k b (xs.take n ++ ys))),(i,none)],[id]⟩ :=
 wb ho ht ht2 hx hl hkb hy hs (by omega) (Nat.le_trans (Nat.mul_le_mul (show n + ys.length≤110000000 by omega) hb) (by omega))
end Go.Abs
namespace Go.Abs
open Go
variable {V : Env} {st : St} {o : Oper}
end Go.Abs
namespace Go.Abs
open Go
variable {P : Program} {V : Env} {st : St} {o : Oper}
theorem b4{t e : TypeId}{x y : Operand}{id m k k' b b' : Nat}{ik : IntKind}{i : Int}{xs : List (List D)}{z : List D}(ho : o.op = .indexAddr t x y)(ht : bz V.T t = some (e,k',b',z))(hx : ev st x = some (.one (.own id m)))
  (hl : look st.sto id = some (.row k b xs)) (hk : Nat.beq k k' = true) (hy : ev st y = some (.one (.d (.int ik i)))) (h0 : 0≤i) (hm : i < (m : Int)) : bw V st o 0 = some ⟨.one (.rref id i.toNat 0),[],[]⟩:=by
 simp only [bw,de,cy,ho,cX,nz,hx,hy,ht,hl,hk,h0,hm,decide_true,Bool.and_self,cond_true]
theorem cu{t : TypeId}{x : Operand}{id j off k b s : Nat}{g : Bool}{xs : List (List D)}{el : List D}{v : AV}(ho : o.op = .load t x)(hx : ev st x = some (.one (.rref id j off)))(hT : iq V.T t = some (g,s))
  (hl : look st.sto id = some (.row k b xs)) (hj : xs[j]? = some el) (hv : fh g s ((el.drop off).map .d) = some v) : bw V st o 0 = some ⟨v,[],[]⟩:=by
 simp only [bw,de,cy,ho,cX,hx,hT,hl,ka,lk,fQ,hj,hv]
theorem bO{t : TypeId}{x y : Operand}{id j off k b s : Nat}{g : Bool}{xs : List (List D)}{el el' ds : List D}{cs : List AC}{v : AV}(ho : o.op = .store t x y)(hd : o.dst = none)(hx : ev st x = some (.one (.rref id j off)))(hy : ev st y = some v)(hT : iq V.T t = some (g,s))
  (hl : look st.sto id = some (.row k b xs)) (hc : cellsOf v = some cs) (hs : Nat.beq cs.length s = true) (ha : eY cs = some ds) (hj : xs[j]? = some el) (hsp : dh off ds el = some el') : bw V st o 0 = some ⟨.any,[(id,some (.row k b (xs.set j el')))],[]⟩:=by
 simp only [bw,de,cy,ho,cX,hx,hy,hT,hl,hc,hs,ha,ll,fQ,hj,hsp,cond_true]
 simp [hd,gq]
theorem yI{xs : List (List D)}{j : Nat}{el : List D}(h : j < xs.length) : (xs.set j el)[j]? = some el:=by simp [h]
theorem cg{α : Type}[Inhabited α]{f : α→List D}{l : List α}{xs : List (List D)}{i : Nat}(h : xs = l.map f)(hi : i < xs.length) : xs[i]? = some (f (at_ l i)):=by
 subst h; exact aJ (by simpa using hi)
theorem cK{t e : TypeId}{x y : Operand}{id n k b d : Nat}{i j : Int}{z : List D}(ho : o.op = .makeSlice t x y)(hd : o.dst = some d)(ht : bz V.T t = some (e,k,b,z))(hx : ev st x = some (.one (.d (.int .i64 i))))(hy : ev st y = some (.one (.d (.int .i64 j))))(hi : i = (n : Int))(hj : j = (n : Int))(hn : n≤1000)(hb : b≤100) :
  bw V st o id = some ⟨.one (.own id n),[(id,some (.row k b (List.replicate n z)))],[id]⟩:=by
 subst hi; subst hj
 have h1 : Nat.ble (n * b) 1000000 = true:=Nat.ble_eq.mpr (Nat.le_trans (Nat.mul_le_mul hn hb) (by omega))
 have h2 : Nat.ble n 1000000 = true:=Nat.ble_eq.mpr (by omega)
 have h3 : (0 : Int)≤(n : Int):=Int.natCast_nonneg n
 simp only [bw,de,cy,ho,cX,kA,hx,hy,ht,hd,gq,h3,decide_true,Int.toNat_natCast,h1,h2,Bool.and_self,cond_true]
end Go.Abs
namespace Go.Abs
open Go
variable {V : Env} {st : St} {o : Oper}
theorem mG{t e : TypeId}{x y : Operand}{k k' b b' : Nat}{ik : IntKind}{h : Int}{xs : List (List D)}{z : List D}(ho : o.op = .slice t x none (some y) none)(ht : bz V.T t = some (e,k',b',z))(hx : ev st x = some (.one (.d (.sl k b xs))))(hy : ev st y = some (.one (.d (.int ik h))))
  (hk : Nat.beq k k' = true) (h0 : 0≤h) (hm : h.toNat≤xs.length) : bw V st o 0 = some ⟨.one (.d (.sl k b (xs.take h.toNat))),[],[]⟩:=by
 have e1 : Nat.ble h.toNat xs.length = true:=Nat.ble_eq.mpr hm
 have e0 : Nat.ble 0 h.toNat = true:=Nat.ble_eq.mpr (Nat.zero_le _)
 simp only [bw,de,cy,ho,cX,fZ,hx,hy,h0,decide_true,cond_true,gd,ht,hk,e0,e1,Bool.and_self,List.drop_zero]
end Go.Abs
