import Derived.Test.YtpejdgkaapnekaaGreatKP16
import Derived.Test.YtpejdgkaapnekaaGreatKE1
import Derived.Test.YtpejdgkaapnekaaGreatKP15
import Derived.Test.YtpejdgkaapnekaaGreatKP14
set_option linter.unusedVariables false
set_option linter.unusedSimpArgs false
set_option maxHeartbeats 1000000
namespace Go.Proofs.YtpejdgkaapnekaaGreat
open Go Go.Abs
attribute [local irreducible] aa OkC ak av aq aI
set_option maxRecDepth 10000
def nM(t:Int):Bool:=decide (1≤t)&&decide (t≤4)
def ch(op:Int)(l:List Int):Int×Int :=
 if l.all nM then (if cI op (at_ l 0) (at_ l 1) (at_ l 2)=0 then (0,12) else (cI op (at_ l 0) (at_ l 1) (at_ l 2),0)) else (0,2)
def ie(p:Int×Int):AV:=.tup [(false,[.d (.int .i64 p.1)]),(false,[.d (.int .i64 p.2)])]
theorem fF(op:Int)(l:List Int)(n:Int)(k d:D)(f:FuncId)(caps:List D)(b:Bool)
  (h226:CallA Tryz.prog 226 [.one (.d (.int .i64 op)),.one (.d (.int .i64 (l.map aA).length))] [] (.tup [(true,[.d (.int .i64 n),.d k,.d (.fn f caps),.d (.bool b),.d d]),(false,[.d (.bool true)])]) [])
  (hf:CallA Tryz.prog f (.one (.d (ar l))::caps.map fun x=>.one (.d x)) [] (.one (.d (.int .i64 (cI op (at_ l 0) (at_ l 1) (at_ l 2))))) []) :
  CallA Tryz.prog 175 [.one (.d (.int .i64 op)),.one (.d (ar l))] [] (ie (ch op l)) []:=by
 refine enter af Tryz.func175 rfl (by decide +kernel) rfl fun hok w0 σ0 φ0 M=>?_
 have h1:=hok.2.1.sl.1;clear hok;simp only[WZ] at h1
 repeat' (first|(refine h1H ?_;(refine h0H ?_;first|refine ae J J J J J J J J (hf) J ?_|refine aM 16 J J J J J J J J (h226) J J J ?_))|refine wG ?_|(refine h1H ?_;(refine dv ?_;refine bx J J J J (fun h=>?_) (fun h=>?_)))|(refine h2H ?_;first|refine aj J (fun h=>?_) (fun h=>?_)|refine cu 5 J [(1,_),(6,_),(20,_),(21,_)] (q4Q J J J J) (fun (k:Nat)=>[(22,.one (.d (.int .i64 k)))]) (fun (k:Nat)=>k≤l.length∧l.all nM=(l.drop k).all nM) (fun (k:Nat)=>l.length-k) 0 (q1Q J) ?_ (fun k ⟨hk,hs⟩=>?_))|(show Exists _;refine Exists.intro (k+1) ⟨?_,?_,wK,(q1Q J),(q4Q J J J J)⟩))
 all_goals (try (((simp_all[ch,nM,ie,au,W7])<;>exact wL);done))
end Go.Proofs.YtpejdgkaapnekaaGreat
namespace Go.Proofs.YtpejdgkaapnekaaGreat
open Go Go.Abs
theorem cG{l:List Int}(h:(l.length:Int)=2):((l.length:Int)-2).toNat=0∧((l.length:Int)-1).toNat=1:=by omega
theorem zK{l:List Int}(h:(l.length:Int)=3):((l.length:Int)-2).toNat=1∧((l.length:Int)-1).toNat=2:=by omega
theorem lE{a b:Int}:(if eK a=true then cR a b else 0)=if eK a=true∧eK b=true then cR a b else 0:=by
 unfold cR
 by_cases ha:eK a=true<;>by_cases hb:eK b=true<;>simp[ha,hb]
 intro h;subst h;exact absurd ha hb
theorem GK{a b:Int}(ha:eK a=true)(hb:eK b=true):cR a b≠0:=by
 have h0:a≠0:=by rintro rfl;simp[eK] at ha
 unfold cR;split
 ·exact h0
 ·simp[ha,hb]
theorem T6(op:Int)(l:List Int)(hop:4≤op∧op≤22)(hl:(l.length:Int)=mq op):CallA Tryz.prog 175 [.one (.d (.int .i64 op)),.one (.d (ar l))] [] (ie (ch op l)) []:=by
 have hlen:∀ n:Int,(l.length:Int)=n→(((l.map aA).length:Nat):Int)=n:=by intro n h;simpa using h
 have go:∀ {f:FuncId} {caps:List D} {t t':Int},CallA Tryz.prog f (.one (.d (ar l))::caps.map fun x=>.one (.d x)) [] (.one (.d (.int .i64 t))) []→t=t'→CallA Tryz.prog f (.one (.d (ar l))::caps.map fun x=>.one (.d x)) [] (.one (.d (.int .i64 t'))) []:=by
  intro f caps t t' h e;rwa [e] at h
 rcases Cg hop with rfl|rfl|rfl|rfl|rfl|rfl|rfl|rfl|rfl|rfl|rfl|rfl|rfl|rfl|rfl|rfl|rfl|rfl|rfl<;>simp[mq] at hl
 ·exact fF _ _ _ _ _ _ _ _ (by rw[hlen 1 (by omega)];exact Iy) (go (caps:=[]) (Tk l (by omega)) (by simp[cI]))
 ·exact fF _ _ _ _ _ _ _ _ (by rw[hlen 1 (by omega)];exact Iz) (go (caps:=[]) (OY l (by omega)) (by simp[cI]))
 ·exact fF _ _ _ _ _ _ _ _ (by rw[hlen 1 (by omega)];exact IA) (go (caps:=[.ptr [.fn 300 []]]) (Tn l (by omega)) (by
   simp only[cI]
   by_cases h:eK (at_ l 0)=true
   ·simp[h]
    simp[eK] at h
    omega
   ·simp[h];rfl))
 ·exact fF _ _ _ _ _ _ _ _ (by rw[hlen 1 (by omega)];exact IB) (go (caps:=[.ptr [.int .i64 1]]) (OX (ar l) 1) (by simp[cI]))
 ·exact fF _ _ _ _ _ _ _ _ (by rw[hlen 1 (by omega)];exact IC) (go (caps:=[.ptr [.int .i64 2]]) (OX (ar l) 2) (by simp[cI]))
 ·exact fF _ _ _ _ _ _ _ _ (by rw[hlen 2 (by omega)];exact ID) (go (caps:=[]) (FP l (by omega)) (by rw[(cG hl).1,(cG hl).2,lE];simp[cI]))
 ·exact fF _ _ _ _ _ _ _ _ (by rw[hlen 2 (by omega)];exact EG) (go (caps:=[]) (FP l (by omega)) (by rw[(cG hl).1,(cG hl).2,lE];simp[cI]))
 ·exact fF _ _ _ _ _ _ _ _ (by rw[hlen 2 (by omega)];exact EH) (go (caps:=[]) (FP l (by omega)) (by rw[(cG hl).1,(cG hl).2,lE];simp[cI]))
 ·exact fF _ _ _ _ _ _ _ _ (by rw[hlen 2 (by omega)];exact EI) (go (caps:=[]) (Tm l (by omega)) (by
   rw[(cG hl).1,(cG hl).2,lE]
   by_cases h:eK (at_ l 0)=true∧eK (at_ l 1)=true
   ·rw[if_pos h,if_neg (GK h.1 h.2)];simp[cI,h]
   ·rw[if_neg h];simp[cI];intro a;cases hb:eK (at_ l 1) with|false=>rfl|true=>exact absurd ⟨a,hb⟩ h))
 ·exact fF _ _ _ _ _ _ _ _ (by rw[hlen 2 (by omega)];exact EJ) (go (caps:=[]) (xH l (by omega)) (by rw[(cG hl).1,(cG hl).2];simp[cI]))
 ·exact fF _ _ _ _ _ _ _ _ (by rw[hlen 2 (by omega)];exact EK) (go (caps:=[]) (xH l (by omega)) (by rw[(cG hl).1,(cG hl).2];simp[cI]))
 ·exact fF _ _ _ _ _ _ _ _ (by rw[hlen 2 (by omega)];exact EL) (go (caps:=[]) (xH l (by omega)) (by rw[(cG hl).1,(cG hl).2];simp[cI]))
 ·exact fF _ _ _ _ _ _ _ _ (by rw[hlen 2 (by omega)];exact EM) (go (caps:=[]) (xH l (by omega)) (by rw[(cG hl).1,(cG hl).2];simp[cI]))
 ·exact fF _ _ _ _ _ _ _ _ (by rw[hlen 2 (by omega)];exact EN) (go (caps:=[]) (xH l (by omega)) (by rw[(cG hl).1,(cG hl).2];simp[cI]))
 ·exact fF _ _ _ _ _ _ _ _ (by rw[hlen 2 (by omega)];exact EO) (go (caps:=[]) (xH l (by omega)) (by rw[(cG hl).1,(cG hl).2];simp[cI]))
 ·exact fF _ _ _ _ _ _ _ _ (by rw[hlen 2 (by omega)];exact EP) (go (caps:=[]) (OZ l (by omega)) (by
   rw[(cG hl).1,(cG hl).2]
   by_cases h:at_ l 0=1<;>by_cases h2:at_ l 1=1<;>simp[cI,cR,h,h2,eK]
   intro e;omega))
 ·exact fF _ _ _ _ _ _ _ _ (by rw[hlen 2 (by omega)];exact ER) (go (caps:=[]) (OZ l (by omega)) (by
   rw[(cG hl).1,(cG hl).2]
   by_cases h:at_ l 0=1<;>by_cases h2:at_ l 1=1<;>simp[cI,cR,h,h2,eK]
   intro e;omega))
 ·exact fF _ _ _ _ _ _ _ _ (by rw[hlen 2 (by omega)];exact ES) (go (caps:=[]) (Bs l (by omega)) (by rw[(cG hl).1,(cG hl).2];simp[cI]))
 ·exact fF _ _ _ _ _ _ _ _ (by rw[hlen 3 (by omega)];exact ET) (go (caps:=[]) (Tl l (by omega)) (by rw[(zK hl).1,(zK hl).2];simp[cI]))
end Go.Proofs.YtpejdgkaapnekaaGreat
namespace Go.Proofs.YtpejdgkaapnekaaGreat
open Go Go.Abs
attribute [local irreducible] aa OkC ak av aq aI
set_option maxRecDepth 10000
def tp(k n d:Int)(s:List UInt8):Int:=if ml k n d s 1 then 1 else if ml k n d s 2 then 2 else if ml k n d s 3 then 3 else 4
theorem T5(k n d:Int)(s:List UInt8):CallA Tryz.prog 174 [.agg [.d (.int .i64 k),.d (.int .i64 n),.d (.int .i64 d),.d (.str s)]] [] (.one (.d (.int .i64 (tp k n d s)))) []:=by
 refine enter af Tryz.func174 rfl (by decide +kernel) rfl fun hok w0 σ0 φ0 M=>?_
 clear hok
 repeat' (first|(refine h1H ?_;(refine h0H ?_;refine ae J J J J J J J J (OK _ _ _ _ _) J ?_))|refine wG ?_|(refine h2H ?_;first|refine aj J (fun h=>?_) (fun h=>?_)|refine Iv 2 J 4 ?_))
 all_goals (try (((simp_all[tp,au,W7])<;>exact wL);done))
end Go.Proofs.YtpejdgkaapnekaaGreat
namespace Go.Proofs.YtpejdgkaapnekaaGreat
open Go Go.Abs
def atI(ats:List Attr)(name:List UInt8):Int:=aK (fun a:Attr=>a.name==name) ats 0
def ph(ds:List Dim)(name:List UInt8):Int:=aK (fun a:Dim=>a.name==name) ds 0
def mI(ats:List Attr)(name:List UInt8):Int×Int:=if atI ats name<0 then (0,11) else ((at_ ats (atI ats name).toNat).type,0)
def oy(ds:List Dim)(name:List UInt8):Int×Int:=if ph ds name<0 then (0,11) else (2,0)
mutual
def dM(cst:Val→Int)(ds:List Dim)(ats:List Attr):Scalar→Int×Int
 | .mk o n v a=>if o=1 then (cst v,0) else if o=2 then mI ats n else if o=3 then oy ds n else
   match eT cst ds ats a with
   | .inl e=>(0,e)
   | .inr l=>ch o l
def eT(cst:Val→Int)(ds:List Dim)(ats:List Attr):List Scalar→Sum Int (List Int)
 | []=>.inr []
 | x::r=>if (dM cst ds ats x).2≠0 then .inl (dM cst ds ats x).2 else
   match eT cst ds ats r with
   | .inl e=>.inl e
   | .inr l=>.inr ((dM cst ds ats x).1::l)
end
theorem pN{cst:Val→Int}{ds:List Dim}{ats:List Attr}:∀ {s:Scalar},dM cst ds ats s=if s.op=1 then (cst s.val,0) else if s.op=2 then mI ats s.name else if s.op=3 then oy ds s.name else
  match eT cst ds ats s.args with
  | .inl e=>(0,e)
  | .inr l=>ch s.op l
 | .mk _ _ _ _=>by simp only[dM,Scalar.op,Scalar.name,Scalar.val,Scalar.args];rfl
theorem zd{cst:Val→Int}{ds:List Dim}{ats:List Attr}:∀ {a:List Scalar} {l:List Int},eT cst ds ats a=.inr l→l.length=a.length
 | [],l,h=>by simp[eT] at h;subst h;rfl
 | x::r,l,h=>by
   simp only[eT] at h
   split at h
   ·cases h
   ·split at h
    ·cases h
    ·rename_i l2 h2
     cases h
     simp[zd h2]
def dN(v:Val):Int:=tp v.kind v.num v.den v.str
theorem nr:∀ {l:List Scalar},mS l=true→∀ x∈l,gu x=true
 | [],_,x,h=>by simp at h
 | y::r,h,x,hx=>by
   simp only[mS,WX] at h
   rcases Xo.1 hx with rfl|hx
   ·exact h.1
   ·exact nr h.2 x hx
theorem oS{s:Scalar}(h:fh s=true)(h1:s.op≠1)(h2:s.op≠2)(h3:s.op≠3):(4≤s.op∧s.op≤22)∧(s.args.length:Int)=mq s.op:=by
 unfold fh at h
 rw[if_neg h1,if_neg (by rintro (h|h);exact h2 h;exact h3 h)] at h
 simp only[WX,Yi,beq_iff_eq] at h
 refine⟨?_,h.2.2.2⟩
 have:=h.1
 unfold mq at this
 omega
def F88(ds:List Dim)(ats:List Attr)(a:List Int×Bool×Int)(x:Scalar):Bool×(List Int×Bool×Int) :=
 let push:=fun (l:List Int) (p:Int×Int)=>if p.2≠0 then (false,(a.1,true,p.2)) else (true,(l++[p.1],false,(0:Int)))
 if x.op=1 then push a.1 (dN x.val,0) else if x.op=2 then push a.1 (mI ats x.name) else if x.op=3 then push a.1 (oy ds x.name) else
  push (a.1.take (a.1.length-x.args.length)) (ch x.op (a.1.drop (a.1.length-x.args.length)))
def re(a:List Int×Bool×Int)(x:Scalar):Prop:=a.2.1=false∧a.2.2=0∧fh x=true∧a.1.length≤64∧(4≤x.op→x.args.length≤a.1.length)
theorem mach_list{ds:List Dim}{ats:List Attr}:∀ {r:List Scalar},
  (∀ x∈r,∀ l:List Int,l.length+(bB x).length≤65→dQ (F88 ds ats) re (bB x) (l,false,0)∧(if (dM dN ds ats x).2=0 then bV (F88 ds ats) (bB x) (l,false,0)=(true,(l++[(dM dN ds ats x).1],false,0)) else ∃ l',bV (F88 ds ats) (bB x) (l,false,0)=(false,(l',true,(dM dN ds ats x).2)))) →
  ∀ l:List Int,l.length+(bk r).length≤65→dQ (F88 ds ats) re (bk r) (l,false,0)∧(match eT dN ds ats r with
    | .inr ts=>bV (F88 ds ats) (bk r) (l,false,0)=(true,(l++ts,false,0))
    | .inl e=>e≠0∧∃ l',bV (F88 ds ats) (bk r) (l,false,0)=(false,(l',true,e)))
 | [],_,l,hl=>⟨trivial,by simp[eT,bk,bV]⟩
 | x::r,h,l,hl=>by
   have hp:1≤(bB x).length:=by rw[gM];simp
   simp only[bk,W9] at hl
   obtain⟨h1,h2⟩:=h x (by simp) l (by omega)
   simp only[bk,eT]
   by_cases hz:(dM dN ds ats x).2=0
   ·rw[if_pos hz] at h2
    have ih:=mach_list (r:=r) (fun y hy=>h y (Xa _ hy)) (l++[(dM dN ds ats x).1]) (by simp;omega)
    rw[fS,h2]
    simp only[if_true,hz,ne_eq,not_true_eq_false,if_false]
    refine⟨okRun_of_app h1 (fun _=>by rw[h2];exact ih.1),?_⟩
    have ih2:=ih.2
    cases ht:eT dN ds ats r with
    | inl e=>rw[ht] at ih2;exact ih2
    | inr ts=>rw[ht] at ih2;simpa using ih2
   ·rw[if_neg hz] at h2
    obtain⟨l',h2⟩:=h2
    rw[fS,h2]
    simp only[XD,if_false,hz,ne_eq,not_false_eq_true,if_true]
    exact⟨okRun_of_app h1 (fun h=>by rw[h2] at h;cases h),trivial,l',rfl⟩
where
 okRun_of_app:∀ {l m:List Scalar} {a:List Int×Bool×Int},dQ (F88 ds ats) re l a→((bV (F88 ds ats) l a).1=true→dQ (F88 ds ats) re m (bV (F88 ds ats) l a).2)→dQ (F88 ds ats) re (l++m) a
  | [],_,_,_,h=>h rfl
  | x::l,m,a,h1,h2=>by
    simp only[XL,dQ] at h1 ⊢
    refine⟨h1.1,fun hx=>okRun_of_app (h1.2 hx) fun h=>?_⟩
    have e:bV (F88 ds ats) (x::l) a=bV (F88 ds ats) l (F88 ds ats a x).2:=by simp only[bV];rw[if_pos hx]
    rw[e] at h2;exact h2 h
theorem rj:∀ {r:List Scalar},r.length≤(bk r).length
 | []=>Xc _
 | x::r=>by
   have:=rj (r:=r)
   have hp:1≤(bB x).length:=by rw[gM];simp
   simp only[bk,W9,Xq];omega
theorem vh{s:Scalar}(h:fh s=true)(h3:s.op=1∨s.op=2∨s.op=3):s.args=[]:=by
 have:s.args.length=0:=by
  unfold fh at h
  by_cases h1:s.op=1
  ·rw[if_pos h1] at h
   simp only[WX,beq_iff_eq] at h
   omega
  ·rw[if_neg h1,if_pos (by omega)] at h
   simp only[WX,beq_iff_eq] at h
   omega
 exact List.length_eq_zero_iff.1 this
theorem TH{ds:List Dim}{ats:List Attr}(s:Scalar):gu s=true→∀ l:List Int,l.length+(bB s).length≤65→dQ (F88 ds ats) re (bB s) (l,false,0) ∧
  (if (dM dN ds ats s).2=0 then bV (F88 ds ats) (bB s) (l,false,0)=(true,(l++[(dM dN ds ats s).1],false,0)) else ∃ l',bV (F88 ds ats) (bB s) (l,false,0)=(false,(l',true,(dM dN ds ats s).2))):=by
 induction s using Scalar.ind with
 | h s ih =>
   intro hp l hl
   rw[oT,WX] at hp
   have hL:=mach_list (ds:=ds) (ats:=ats) (r:=s.args) (fun x hx l hl=>ih x hx (nr hp.2 x hx) l hl)
   rw[gM] at hl ⊢
   simp only[W9,Xq,List.length_nil] at hl
   by_cases h3:s.op=1∨s.op=2∨s.op=3
   ·have ha:s.args=[]:=vh hp.1 h3
    have hok:re (l,false,0) s:=⟨rfl,rfl,hp.1,by show l.length≤64;omega,fun h=>by omega⟩
    have hF:F88 ds ats (l,false,0) s=if (dM dN ds ats s).2≠0 then (false,(l,true,(dM dN ds ats s).2)) else (true,(l++[(dM dN ds ats s).1],false,0)):=by
     rw[pN];simp only[F88]
     rcases h3 with h3|h3|h3<;>simp[h3]
    rw[ha]
    simp only[bk,X3,dQ,bV]
    rw[hF]
    refine⟨⟨hok,fun _=>trivial⟩,?_⟩
    by_cases hz:(dM dN ds ats s).2=0
    ·rw[if_pos hz];simp[hz]
    ·rw[if_neg hz];exact⟨l,by simp[hz]⟩
   ·obtain⟨hop,hlen⟩:=oS hp.1 (fun h=>h3 (.inl h)) (fun h=>h3 (.inr (.inl h))) (fun h=>h3 (.inr (.inr h)))
    obtain⟨h4,h5⟩:=hL l (by omega)
    rw[pN,if_neg (fun h=>h3 (.inl h)),if_neg (fun h=>h3 (.inr (.inl h))),if_neg (fun h=>h3 (.inr (.inr h)))]
    cases ht:eT dN ds ats s.args with
    | inl e =>
      rw[ht] at h5
      obtain⟨he,l',h5⟩:=h5
      refine⟨mach_list.okRun_of_app h4 (fun h=>by rw[h5] at h;cases h),?_⟩
      simp only
      rw[if_neg he,fS,h5]
      exact⟨l',by simp⟩
    | inr ts =>
      rw[ht] at h5
      simp only at h5
      have hts:=zd ht
      have hle:=rj (r:=s.args)
      have hF:F88 ds ats (l++ts,false,0) s=if (ch s.op ts).2≠0 then (false,(l++ts,true,(ch s.op ts).2)) else (true,(l++[(ch s.op ts).1],false,0)):=by
       have hd:(l++ts).length-s.args.length=l.length:=by simp[hts]
       simp only[F88]
       rw[if_neg (fun h=>h3 (.inl h)),if_neg (fun h=>h3 (.inr (.inl h))),if_neg (fun h=>h3 (.inr (.inr h))),hd]
       simp
      refine⟨mach_list.okRun_of_app h4 (fun _=>?_),?_⟩
      ·rw[h5]
       exact⟨⟨rfl,rfl,hp.1,by simp;omega,fun _=>by simp[hts]⟩,fun _=>trivial⟩
      ·simp only
       rw[fS,h5]
       simp only[if_true,bV,hF]
       by_cases hz:(ch s.op ts).2=0
       ·rw[if_pos hz];simp[hz]
       ·rw[if_neg hz];exact⟨l++ts,by simp[hz]⟩
theorem mr{α:Type}{p:α→Bool}:∀ {l:List α} {k:Nat},0≤aK p l k→(k:Int)≤aK p l k∧aK p l k<k+l.length
 | [],k,h=>by simp[aK] at h
 | x::r,k,h=>by
   simp only[aK] at h ⊢
   split at h
   ·rename_i hx;rw[if_pos hx];simp only[Xq];omega
   ·rename_i hx;rw[if_neg hx]
    have:=mr (l:=r) (k:=k+1) h
    simp only[Xq];omega
theorem FT{o:Int}{l:List Int}(h:(ch o l).2≠0):(ch o l).1=0:=by
 unfold ch at h ⊢
 by_cases h4:l.all nM=true
 ·rw[if_pos h4] at h ⊢
  by_cases h5:cI o (at_ l 0) (at_ l 1) (at_ l 2)=0
  ·rw[if_pos h5]
  ·rw[if_neg h5] at h;simp at h
 ·rw[if_neg h4]
theorem Kl{cst:Val→Int}{ds:List Dim}{ats:List Attr}{s:Scalar}(h:(dM cst ds ats s).2≠0):(dM cst ds ats s).1=0:=by
 rw[pN] at h ⊢
 split
 ·rename_i h1;rw[if_pos h1] at h;simp at h
 ·rename_i h1;rw[if_neg h1] at h
  split
  ·rename_i h2;rw[if_pos h2] at h;unfold mI at h ⊢;split<;>simp_all
  ·rename_i h2;rw[if_neg h2] at h
   split
   ·rename_i h3;rw[if_pos h3] at h;unfold oy at h ⊢;split<;>simp_all
   ·rename_i h3;rw[if_neg h3] at h
    cases ht:eT cst ds ats s.args with
    | inl e=>rfl
    | inr l=>rw[ht] at h;exact FT h
def ag:List Int→Int
 | []=>0
 | d::r=>d+4294967296*ag r
def Dg(l:List Int):Prop:=∀ d∈l,0≤d∧d<4294967296
def dig(n:Nat):List Int:=if h:n=0 then [] else ((n % 4294967296:Nat):Int)::dig (n / 4294967296)
 termination_by n
 decreasing_by omega
def pw(k:Nat):Int:=4294967296^k
theorem dX(k:Nat):pw (k+1)=4294967296*pw k:=by unfold pw;rw[Int.pow_succ,XI]
theorem nJ:pw 0=1:=rfl
theorem fQ(k:Nat):0<pw k:=by
 induction k with
 | zero=>decide
 | succ k ih=>rw[dX];omega
theorem jj(a b:Nat):pw (a+b)=pw a*pw b:=by unfold pw;rw[Int.pow_add]
theorem lM:∀ {a b:List Int},ag (a++b)=ag a+pw a.length*ag b
 | [],b=>by simp[ag,nJ]
 | d::a,b=>by
   simp only[XL,ag,lM (a:=a) (b:=b),Xq,dX,XS,Xx]
   omega
theorem Dg.cons{d:Int}{r:List Int}(h:Dg (d::r)):(0≤d∧d<4294967296)∧Dg r:=⟨h d Xd,fun x hx=>h x (Xa _ hx)⟩
theorem Dg.at{l:List Int}(h:Dg l){i:Nat}(hi:i<l.length):0≤at_ l i∧at_ l i<4294967296:=h _ (aU hi)
theorem Dg.take{l:List Int}(h:Dg l)(n:Nat):Dg (l.take n):=fun d hd=>h d (List.mem_of_mem_take hd)
theorem Dg.drop{l:List Int}(h:Dg l)(n:Nat):Dg (l.drop n):=fun d hd=>h d (List.mem_of_mem_drop hd)
theorem eo:∀ {l:List Int},Dg l→0≤ag l∧ag l<pw l.length
 | [],_=>by simp[ag,nJ]
 | d::r,h=>by
   obtain⟨h1,h2⟩:=h.cons
   have:=eo h2
   simp only[ag,Xq,dX]
   omega
theorem gL:dig 0=[]:=by rw[dig];simp
theorem l8{n:Nat}(h:n≠0):dig n=((n % 4294967296:Nat):Int)::dig (n / 4294967296):=by rw[dig];simp[h]
theorem dt:∀ (n:Nat),Dg (dig n)∧ag (dig n)=n∧(dig n=[]∨at_ (dig n) ((dig n).length-1)≠0):=by
 intro n
 induction n using Nat.strongRecOn with
 | _ n ih =>
   by_cases h:n=0
   ·subst h;rw[gL];exact⟨fun d hd=>by simp at hd,rfl,.inl rfl⟩
   ·obtain⟨i1,i2,i3⟩:=ih (n / 4294967296) (by omega)
    rw[l8 h]
    refine⟨fun d hd=>?_,?_,.inr ?_⟩
    ·rcases Xo.1 hd with rfl|hd
     ·omega
     ·exact i1 d hd
    ·simp only[ag,i2];omega
    ·rcases i3 with i3|i3
     ·rw[i3]
      have h0:n / 4294967296=0:=by rw[i3] at i2;simp only[ag] at i2;omega
      show ((n % 4294967296:Nat):Int)≠0
      omega
     ·cases hd:dig (n / 4294967296) with
      | nil =>
        rw[hd] at i2;simp only[ag] at i2
        show ((n % 4294967296:Nat):Int)≠0
        omega
      | cons e r =>
        rw[hd] at i3
        show at_ (_::e::r) (r.length+1)≠0
        exact i3
theorem uM:∀ {l:List Int},Dg l→(l=[]∨at_ l (l.length-1)≠0)→dig (ag l).toNat=l
 | [],_,_=>by simp[ag,gL]
 | d::r,h,hl=>by
   obtain⟨h1,h2⟩:=h.cons
   have hb:=(eo h2).1
   have hr:r=[]∨at_ r (r.length-1)≠0:=by
    cases r with
    | nil=>exact .inl rfl
    | cons e s=>exact .inr (by rcases hl with hl|hl;· cases hl
                               ·exact hl)
   have ih:=uM h2 hr
   have hne:ag (d::r)≠0:=by
    intro h0
    simp only[ag] at h0
    have hd:d=0:=by omega
    have hz:ag r=0:=by omega
    rw[hz] at ih
    have hr0:r=[]:=by rw[← ih];simpa using gL
    subst hr0
    rcases hl with hl|hl
    ·cases hl
    ·exact hl hd
   have hn:(ag (d::r)).toNat≠0:=by simp only[ag] at hne ⊢;omega
   rw[l8 hn]
   have e1:(ag (d::r)).toNat / 4294967296=(ag r).toNat:=by simp only[ag];omega
   have e2:(((ag (d::r)).toNat % 4294967296:Nat):Int)=d:=by simp only[ag];omega
   rw[e1,e2,ih]
theorem B4{l:List Int}{k:Nat}(h:Dg l)(hk:k≤l.length)(hv:ag (l.take k)=ag l)(hl:k=0∨at_ l (k-1)≠0):dig (ag l).toNat=l.take k:=by
 rw[← hv]
 refine uM (h.take k) ?_
 rcases hl with hl|hl
 ·subst hl;exact .inl (by simp)
 ·by_cases h0:k=0
  ·subst h0;exact .inl (by simp)
  ·refine .inr ?_
   rw[XU,Nat.min_eq_left hk,A8 (by omega)]
   exact hl
theorem bK{l:List Int}{k:Nat}(h:k<l.length):ag (l.take (k+1))=ag (l.take k)+pw k*at_ l k:=by
 rw[ez h,lM,XU,Nat.min_eq_left (by omega)];simp[ag]
theorem yU{l:List Int}{k:Nat}(h:k<l.length)(h0:at_ l k=0):ag (l.take (k+1))=ag (l.take k):=by rw[bK h,h0];simp
theorem l9{l:List Int}{k:Nat}{x:Int}(h:k<l.length):ag (l.set k x)=ag l+pw k*(x-at_ l k):=by
 induction l generalizing k with
 | nil=>simp at h
 | cons d r ih =>
   cases k with
   | zero=>simp only[List.set_cons_zero,ag,nJ];show _=_+1*(x-d);omega
   | succ k =>
     have:=ih (k:=k) (by simpa using h)
     simp only[List.set_cons_succ,ag,this,dX,XS,Xx]
     show _=_+4294967296*(pw k*(x-at_ r k))
     omega
theorem Dg.set{l:List Int}{k:Nat}{x:Int}(h:Dg l)(hx:0≤x∧x<4294967296):Dg (l.set k x):=fun d hd=>by
 rcases List.mem_or_eq_of_mem_set hd with hd|rfl
 ·exact h d hd
 ·exact hx
theorem Dg.zeros(n:Nat):Dg (List.replicate n 0):=fun d hd=>by rw[XQ hd];omega
theorem GC(n:Nat):ag (List.replicate n 0)=0:=by
 induction n with
 | zero=>rfl
 | succ n ih=>simp[List.replicate_succ,ag,ih]
theorem EE:∀ {a b:List Int} {k:Nat},Dg a→Dg b→a.length=b.length→k<a.length→(∀ i,k<i→i<a.length→at_ a i=at_ b i)→at_ a k<at_ b k→ag a<ag b
 | x::a,y::b,k,ha,hb,hl,hk,he,h=>by
   obtain⟨a1,a2⟩:=ha.cons
   obtain⟨b1,b2⟩:=hb.cons
   have hl':a.length=b.length:=by simpa using hl
   cases k with
   | zero =>
     have e:a=b:=c5 hl' fun i hi=>he (i+1) (by omega) (by simpa using hi)
     have h':x<y:=h
     subst e;simp only[ag];omega
   | succ k =>
     have:=EE (k:=k) a2 b2 hl' (by simpa using hk) (fun i h1 h2=>he (i+1) (by omega) (by simpa using h2)) h
     simp only[ag];omega
 | [],_,k,_,_,_,hk,_,_=>by simp at hk
 | _::_,[],k,_,_,hl,_,_,_=>by simp at hl
theorem B5{a b:List Int}(ha:Dg a)(hb:Dg b)(hn:b=[]∨at_ b (b.length-1)≠0)(hl:a.length<b.length):ag a<ag b:=by
 have h1:=(eo ha).2
 have hne:b≠[]:=fun e=>by rw[e] at hl;simp at hl
 have hn':=hn.resolve_left hne
 have h2:ag b=ag (b.take (b.length-1))+pw (b.length-1)*at_ b (b.length-1):=by
  have:=bK (l:=b) (k:=b.length-1) (by omega)
  rwa [show b.length-1+1=b.length by omega,XT] at this
 have h3:=(eo (hb.take (b.length-1))).1
 have h4:1≤at_ b (b.length-1):=by have:=hb.at (i:=b.length-1) (by omega);omega
 have h5:pw a.length≤pw (b.length-1):=by
  obtain⟨m,hm⟩:∃ m,b.length-1=a.length+m:=⟨b.length-1-a.length,by omega⟩
  rw[hm,jj]
  have:=XG (show 1≤pw m by have:=fQ m;omega) (X7 (fQ a.length))
  omega
 have h6:=XG h4 (X7 (fQ (b.length-1)))
 omega
end Go.Proofs.YtpejdgkaapnekaaGreat
namespace Go.Proofs.YtpejdgkaapnekaaGreat
open Go Go.Abs
attribute [local irreducible] aa OkC ak av aq aI
set_option maxRecDepth 10000
def aF(a:Arr):Int:=bf a.dims a.attrs a.cells
theorem TO(a:Arr):CallA Tryz.prog 180 [aO a] [] (.one (.d (.bool (aF a != 0)))) []:=by
 unfold aO
 refine enter af Tryz.func180 rfl (by decide +kernel) rfl fun hok w0 σ0 φ0 M=>?_
 clear hok
 repeat' (first|(refine h1H ?_;(refine h0H ?_;refine ae J J J J J J J J (c59 _ _ _) J ?_))|refine wG ?_)
 all_goals rfl
theorem c31(a:Arr)(m:Int):CallA Tryz.prog 31 [aO a,.one (.d (.int .i64 m))] [] (.one (.d (.bool (decide (m<(a.cells.length:Int))||aF a != 0)))) []:=by
 unfold aO
 refine enter af Tryz.func31 rfl (by decide +kernel) rfl fun hok w0 σ0 φ0 M=>?_
 have h1:=(OkD.sl (hok.1 (.d (aC a.cells)) (by simp))).1;clear hok;simp only[WZ] at h1
 repeat' (first|(refine h1H ?_;(refine h0H ?_;refine ae J J J J J J J J (c59 _ _ _) J ?_))|refine wG ?_|(refine h1H ?_;(refine dv ?_;refine bx J J J J (fun h=>?_) (fun h=>?_))))
 all_goals (try (((simp_all[aF,au,W7])<;>exact wL);done))
theorem TP(l:List Arr):CallA Tryz.prog 230 [.one (.d (xT l)),.one (.d (.fn 180 []))] [] (.one (.d (.int .i64 (aK (fun a=>aF a != 0) l 0)))) []:=by
 refine enter af Tryz.func230 rfl (by decide +kernel) rfl fun hok w0 σ0 φ0 M=>?_
 have h1:=hok.1.sl;clear hok;simp only[WZ] at h1;replace h1:=h1.1
 repeat' (first|(refine h1H ?_;(refine h0H ?_;refine ae J J J J J J J J (TO _) J ?_))|refine wG ?_|(refine h2H ?_;first|refine aj J (fun h=>?_) (fun h=>?_)|refine cu 2 J [(0,_),(1,_),(7,_)] (q3Q J J J) (fun (k:Nat)=>[(8,.one (.d (.int .i64 k)))]) (fun (k:Nat)=>k≤l.length∧aK (fun a=>aF a != 0) l 0=aK (fun a=>aF a != 0) (l.drop k) k) (fun (k:Nat)=>l.length-k) 0 (q1Q J) ?_ (fun k ⟨hk,hs⟩=>?_))|(show Exists _;refine Exists.intro (k+1) ⟨?_,?_,wK,(q1Q J),(q3Q J J J)⟩))
 all_goals (try (((simp_all[aK,au,W7])<;>exact wL);done))
theorem TQ(l:List Arr):CallA Tryz.prog 179 [.one (.d (xT l)),.one (.d (.fn 180 []))] [] (.one (.d (.bool (!decide (aK (fun a=>aF a != 0) l 0<0))))) []:=by
 refine enter af Tryz.func179 rfl (by decide +kernel) rfl fun hok w0 σ0 φ0 M=>?_
 clear hok
 repeat' (first|(refine h1H ?_;(refine h0H ?_;refine ae J J J J J J J J (TP _) J ?_))|refine wG ?_)
 all_goals (try (((simp_all[au,W7])<;>exact wL);done))
def aG(l:List Arr):Bool:=l.all fun a=>aF a==0
theorem wE:∀ (l:List Arr) (j:Nat),aK (fun a=>aF a != 0) l j<0↔aG l=true
 | [],j=>by simp[aK,aG]
 | a::l,j=>by
   have ih:=wE l (j+1)
   simp only[aK,aG,List.all_cons,WX]
   by_cases h:aF a=0
   ·rw[if_neg (by simp[h])]
    rw[ih]
    simp[h,aG]
   ·rw[if_pos (by simp[h])]
    constructor
    ·intro h1;omega
    ·intro h1;simp[h] at h1
theorem Ii(l:List Arr)(j:Nat):decide (aK (fun a=>aF a != 0) l j<0)=aG l:=by
 rw[XR,Yi,wE]
theorem c96(l:List Arr):CallA Tryz.prog 96 [.one (.d (xT l))] [] (.one (.d (.bool (aG l)))) []:=by
 refine enter af Tryz.func96 rfl (by decide +kernel) rfl fun hok w0 σ0 φ0 M=>?_
 clear hok
 repeat' (first|(refine h1H ?_;(refine h0H ?_;refine ae J J J J J J J J (TQ _) J ?_))|refine wG ?_)
 all_goals (try (((simp_all[Ii,au,W7])<;>exact wL);done))
theorem TR(x y:Dim):CallA Tryz.prog 197 [.agg [.d (.str x.name),.d (.int .i64 x.lo),.d (.int .i64 x.hi)],.agg [.d (.str y.name),.d (.int .i64 y.lo),.d (.int .i64 y.hi)]] [] (.one (.d (.bool (x.name==y.name)))) []:=by
 refine enter af Tryz.func197 rfl (by decide +kernel) rfl fun hok w0 σ0 φ0 M=>?_
 clear hok
 repeat' (first|refine wG ?_)
 all_goals (try (((simp_all[au,W7])<;>exact wL);done))
theorem TS(a b:List Dim):CallA Tryz.prog 196 [.one (.d (ai a)),.one (.d (ai b)),.one (.d (.fn 197 []))] [] (.one (.d (.bool (eh a b)))) []:=by
 refine enter af Tryz.func196 rfl (by decide +kernel) rfl fun hok w0 σ0 φ0 M=>?_
 have h1:=hok.1.sl;have h2:=hok.2.1.sl;clear hok;simp only[WZ] at h1 h2;replace h1:=h1.1;replace h2:=h2.1
 repeat' (first|(refine h1H ?_;(refine h0H ?_;refine ae J J J J J J J J (TR _ _) J ?_))|refine wG ?_|(refine h2H ?_;first|refine aj J (fun h=>?_) (fun h=>?_)|refine cu 4 J [(1,_),(2,_),(15,_),(16,_)] (q4Q J J J J) (fun (k:Nat)=>[(17,.one (.d (.int .i64 k)))]) (fun (k:Nat)=>k≤a.length∧a.length=b.length∧eh a b=fl (fun x y=>x.name==y.name) (a.drop k) (b.drop k)) (fun (k:Nat)=>a.length-k) 0 (q1Q J) ?_ (fun k ⟨hk,hq,hs⟩=>?_))|(show Exists _;refine Exists.intro (k+1) ⟨?_,?_,wK,(q1Q J),(q4Q J J J J)⟩))
 all_goals (try (((simp_all[eh,bP,fl,au,W7])<;>exact wL);done))
theorem sB(a b:List Dim):CallA Tryz.prog 127 [.one (.d (ai a)),.one (.d (ai b))] [] (.one (.d (.bool (eh a b)))) []:=by
 refine enter af Tryz.func127 rfl (by decide +kernel) rfl fun hok w0 σ0 φ0 M=>?_
 clear hok
 repeat' (first|(refine h1H ?_;(refine h0H ?_;refine ae J J J J J J J J (TS _ _) J ?_))|refine wG ?_)
 all_goals (try (((simp_all[au,W7])<;>exact wL);done))
theorem Pm(a b:List Dim):CallA Tryz.prog 120 [.one (.d (ai a)),.one (.d (ai b))] [] (.one (.d (.bool (bP fY a b)))) []:=by
 refine enter af Tryz.func120 rfl (by decide +kernel) rfl fun hok w0 σ0 φ0 M=>?_
 have h1:=hok.1.sl;have h2:=hok.2.1.sl;clear hok;simp only[WZ] at h1 h2;replace h1:=h1.1;replace h2:=h2.1
 repeat' (first|refine wG ?_|(refine h2H ?_;first|refine aj J (fun h=>?_) (fun h=>?_)|refine cu 4 J [(0,_),(1,_),(12,_)] (q3Q J J J) (fun (k:Nat)=>[(13,.one (.d (.int .i64 k)))]) (fun (k:Nat)=>k≤a.length∧a.length=b.length∧bP fY a b=fl fY (a.drop k) (b.drop k)) (fun (k:Nat)=>a.length-k) 0 (q1Q J) ?_ (fun k ⟨hk,hq,hs⟩=>?_))|(show Exists _;refine Exists.intro (k+1) ⟨?_,?_,wK,(q1Q J),(q3Q J J J)⟩))
 all_goals (try (((simp_all[bP,fl,fY,ax,c9,eqD,au,W7])<;>exact wL);done))
theorem BI(a b:List Attr):CallA Tryz.prog 121 [.one (.d (ao a)),.one (.d (ao b))] [] (.one (.d (.bool (bP ej a b)))) []:=by
 refine enter af Tryz.func121 rfl (by decide +kernel) rfl fun hok w0 σ0 φ0 M=>?_
 have h1:=hok.1.sl;have h2:=hok.2.1.sl;clear hok;simp only[WZ] at h1 h2;replace h1:=h1.1;replace h2:=h2.1
 repeat' (first|refine wG ?_|(refine h2H ?_;first|refine aj J (fun h=>?_) (fun h=>?_)|refine cu 4 J [(0,_),(1,_),(12,_)] (q3Q J J J) (fun (k:Nat)=>[(13,.one (.d (.int .i64 k)))]) (fun (k:Nat)=>k≤a.length∧a.length=b.length∧bP ej a b=fl ej (a.drop k) (b.drop k)) (fun (k:Nat)=>a.length-k) 0 (q1Q J) ?_ (fun k ⟨hk,hq,hs⟩=>?_))|(show Exists _;refine Exists.intro (k+1) ⟨?_,?_,wK,(q1Q J),(q3Q J J J)⟩))
 all_goals (try (((simp_all[bP,fl,ej,aS,c9,eqD,au,W7])<;>exact wL);done))
theorem TT(a b:List Int):CallA Tryz.prog 124 [.one (.d (ar a)),.one (.d (ar b))] [] (.one (.d (.bool (bP (fun x y=>x==y) a b)))) []:=by
 refine enter af Tryz.func124 rfl (by decide +kernel) rfl fun hok w0 σ0 φ0 M=>?_
 have h1:=hok.1.sl;have h2:=hok.2.1.sl;clear hok;simp only[WZ] at h1 h2;replace h1:=h1.1;replace h2:=h2.1
 repeat' (first|refine wG ?_|(refine h2H ?_;first|refine aj J (fun h=>?_) (fun h=>?_)|refine cu 4 J [(0,_),(1,_),(12,_)] (q3Q J J J) (fun (k:Nat)=>[(13,.one (.d (.int .i64 k)))]) (fun (k:Nat)=>k≤a.length∧a.length=b.length∧bP (fun x y=>x==y) a b=fl (fun x y=>x==y) (a.drop k) (b.drop k)) (fun (k:Nat)=>a.length-k) 0 (q1Q J) ?_ (fun k ⟨hk,hq,hs⟩=>?_))|(show Exists _;refine Exists.intro (k+1) ⟨?_,?_,wK,(q1Q J),(q3Q J J J)⟩))
 all_goals (try (((simp_all[bP,fl,au,W7])<;>exact wL);done))
theorem TU(a b:List Val):CallA Tryz.prog 125 [.one (.d (aY a)),.one (.d (aY b))] [] (.one (.d (.bool (bP jP a b)))) []:=by
 refine enter af Tryz.func125 rfl (by decide +kernel) rfl fun hok w0 σ0 φ0 M=>?_
 have h1:=hok.1.sl;have h2:=hok.2.1.sl;clear hok;simp only[WZ] at h1 h2;replace h1:=h1.1;replace h2:=h2.1
 repeat' (first|refine wG ?_|(refine h2H ?_;first|refine aj J (fun h=>?_) (fun h=>?_)|refine cu 4 J [(0,_),(1,_),(12,_)] (q3Q J J J) (fun (k:Nat)=>[(13,.one (.d (.int .i64 k)))]) (fun (k:Nat)=>k≤a.length∧a.length=b.length∧bP jP a b=fl jP (a.drop k) (b.drop k)) (fun (k:Nat)=>a.length-k) 0 (q1Q J) ?_ (fun k ⟨hk,hq,hs⟩=>?_))|(show Exists _;refine Exists.intro (k+1) ⟨?_,?_,wK,(q1Q J),(q3Q J J J)⟩))
 all_goals (try (((simp_all[bP,fl,jP,aB,c9,eqD,au,W7])<;>exact wL);done))
theorem TV(x y:Cell):CallA Tryz.prog 123 [.agg [.d (ar x.at'),.d (aY x.vals)],.agg [.d (ar y.at'),.d (aY y.vals)]] [] (.one (.d (.bool (mT x y)))) []:=by
 refine enter af Tryz.func123 rfl (by decide +kernel) rfl fun hok w0 σ0 φ0 M=>?_
 clear hok
 repeat' (first|(refine h1H ?_;(refine h0H ?_;first|refine ae J J J J J J J J (TT _ _) J ?_|refine ae J J J J J J J J (TU _ _) J ?_))|refine wG ?_|(refine h1H ?_;(refine dv ?_;refine bx J J J J (fun h=>?_) (fun h=>?_))))
 all_goals (try (((simp_all[mT,au,W7])<;>exact wL);done))
theorem TW(a b:List Cell):CallA Tryz.prog 122 [.one (.d (aC a)),.one (.d (aC b)),.one (.d (.fn 123 []))] [] (.one (.d (.bool (bP mT a b)))) []:=by
 refine enter af Tryz.func122 rfl (by decide +kernel) rfl fun hok w0 σ0 φ0 M=>?_
 have h1:=hok.1.sl;have h2:=hok.2.1.sl;clear hok;simp only[WZ] at h1 h2;replace h1:=h1.1;replace h2:=h2.1
 repeat' (first|(refine h1H ?_;(refine h0H ?_;refine ae J J J J J J J J (TV _ _) J ?_))|refine wG ?_|(refine h2H ?_;first|refine aj J (fun h=>?_) (fun h=>?_)|refine cu 4 J [(1,_),(2,_),(15,_),(16,_)] (q4Q J J J J) (fun (k:Nat)=>[(17,.one (.d (.int .i64 k)))]) (fun (k:Nat)=>k≤a.length∧a.length=b.length∧bP mT a b=fl mT (a.drop k) (b.drop k)) (fun (k:Nat)=>a.length-k) 0 (q1Q J) ?_ (fun k ⟨hk,hq,hs⟩=>?_))|(show Exists _;refine Exists.intro (k+1) ⟨?_,?_,wK,(q1Q J),(q4Q J J J J)⟩))
 all_goals (try (((simp_all[bP,fl,au,W7])<;>exact wL);done))
def wF(a b:Arr):Bool:=aF a==0&&(aF b==0&&(bP fY a.dims b.dims&&(bP ej a.attrs b.attrs&&bP mT a.cells b.cells)))
theorem c32(a b:Arr):CallA Tryz.prog 32 [aO a,aO b] [] (.one (.d (.bool (wF a b)))) []:=by
 unfold aO
 refine enter af Tryz.func32 rfl (by decide +kernel) rfl fun hok w0 σ0 φ0 M=>?_
 clear hok
 repeat' (first|(refine h1H ?_;(refine h0H ?_;first|refine ae J J J J J J J J (c59 _ _ _) J ?_|refine ae J J J J J J J J (Pm _ _) J ?_|refine ae J J J J J J J J (BI _ _) J ?_|refine ae J J J J J J J J (TW _ _) J ?_))|refine wG ?_|(refine h1H ?_;(refine dv ?_;refine bx J J J J (fun h=>?_) (fun h=>?_)))|(refine h2H ?_;refine aj J (fun h=>?_) (fun h=>?_)))
 all_goals (try (((simp_all[wF,aF,au,W7])<;>exact wL);done))
theorem c98(ds:List Dim)(at':List Int)(hl:at'.length=ds.length):CallA Tryz.prog 98 [.one (.d (ai ds)),.one (.d (ar at'))] [] (.one (.d (.bool (bF ds at')))) []:=by
 refine enter af Tryz.func98 rfl (by decide +kernel) rfl fun hok w0 σ0 φ0 M=>?_
 have h1:=hok.1.sl;have h2:=hok.2.1.sl;clear hok;simp only[WZ] at h1 h2;replace h1:=h1.1;replace h2:=h2.1
 repeat' (first|refine wG ?_|(refine h1H ?_;(refine dv ?_;refine bx J J J J (fun h=>?_) (fun h=>?_)))|(refine h2H ?_;first|refine aj J (fun h=>?_) (fun h=>?_)|refine cu 2 J [(0,_),(7,_),(8,_)] (q3Q J J J) (fun (k:Nat)=>[(9,.one (.d (.int .i64 k)))]) (fun (k:Nat)=>k≤at'.length∧at'.length=ds.length∧bF ds at'=bF (ds.drop k) (at'.drop k)) (fun (k:Nat)=>ds.length-k) 0 (q1Q J) ?_ (fun k ⟨hk,hq,hs⟩=>?_))|(show Exists _;refine Exists.intro (k+1) ⟨?_,?_,wK,(q1Q J),(q3Q J J J)⟩))
 all_goals (try (((simp_all[bF,dW,au,W7])<;>exact wL);done))
end Go.Proofs.YtpejdgkaapnekaaGreat
namespace Go.Proofs.YtpejdgkaapnekaaGreat
open Go Go.Abs
def atX(ats:List Attr)(name:List UInt8):Int:=aK (fun a:Attr=>a.name==name) ats 0
def bO(ds:List Dim)(ats:List Attr)(name:List UInt8):Int×Bool:=if aV ds name<0 then (atX ats name,false) else (aV ds name,true)
def ry(ats:List Attr)(s:Int×Bool):Int:=bif s.2 then 2 else (at_ ats s.1.toNat).type
def ofS(s:Int×Bool)(c:Cell):Val:=bif s.2 then ⟨2,at_ c.at' s.1.toNat,1,[]⟩ else at_ c.vals s.1.toNat
def b6(src:List (Int×Bool))(c:Cell):List Int:=src.map fun s=>(ofS s c).num
def gx(src:List (Int×Bool))(ds:List Dim)(c:Cell):Option (List Int) :=
 if src.all (fun s=>(ofS s c).kind==2) then (if bF ds (b6 src c) then some (b6 src c) else none) else none
def lB(kept:List (Int×Bool))(at':List Int)(c:Cell):Cell:=⟨at',kept.map fun s=>ofS s c⟩
def gy(at':List Int)(cs:List Cell):Int:=aK (fun x:Cell=>x.at'==at') cs 0
def dR(src kept:List (Int×Bool))(ds:List Dim)(rule:Int)(cs:List Cell)(c:Cell):Option (List Cell) :=
 match gx src ds c with
 | none=>some cs
 | some at' =>
   if gy at' cs<0 then some (cs++[lB kept at' c])
   else if rule=1 then none
   else if rule=3 then some (cs.set (gy at' cs).toNat (lB kept at' c))
   else some cs
def gb(src kept:List (Int×Bool))(ds:List Dim)(rule:Int):List Cell→List Cell→Option (List Cell)
 | cs,[]=>some cs
 | cs,c::r=>match dR src kept ds rule cs c with|none=>none|some cs'=>gb src kept ds rule cs' r
def eW(a:Arr):List Dim→Int
 | []=>0
 | d::r=>if (bO a.dims a.attrs d.name).1<0 then 11 else if !(bO a.dims a.attrs d.name).2&&(at_ a.attrs (bO a.dims a.attrs d.name).1.toNat).type != 2 then 12 else eW a r
def ef(a:Arr):List (List UInt8)→Int
 | []=>0
 | n::r=>if (bO a.dims a.attrs n).1<0 then 11 else ef a r
def ja(a:Arr)(names:List (List UInt8)):List Attr:=names.map fun n=>⟨n,ry a.attrs (bO a.dims a.attrs n)⟩
def bG(a:Arr)(ds:List Dim):List (Int×Bool):=ds.map fun d=>bO a.dims a.attrs d.name
def bL(a:Arr)(names:List (List UInt8)):List (Int×Bool):=names.map fun n=>bO a.dims a.attrs n
def eX(a:Arr)(ds:List Dim)(names:List (List UInt8)):Int :=
 if eW a ds≠0 then eW a ds else if ef a names≠0 then ef a names else bo ds (ja a names)
def kT(a:Arr)(ds:List Dim)(names:List (List UInt8))(rule:Int):Option Arr×Int :=
 if bf a.dims a.attrs a.cells≠0∨rule<1∨3<rule then (none,2)
 else if eX a ds names≠0 then (none,eX a ds names)
 else match gb (bG a ds) (bL a names) ds rule [] a.cells with
  | none=>(none,19)
  | some cs=>cn ds (ja a names) cs
end Go.Proofs.YtpejdgkaapnekaaGreat
namespace Go.Proofs.YtpejdgkaapnekaaGreat
open Go Go.Abs
theorem Iq{cs:List Cell}:cs.Pairwise cE↔(cs.map Cell.at').Nodup:=by
 unfold List.Nodup;rw[X4];rfl
theorem zu{α β:Type}(f:α→β)(p:β→Bool):∀ (l:List α) (j:Nat),aK p (l.map f) j=aK (fun x=>p (f x)) l j
 | [],_=>rfl
 | x::l,j=>by simp only[XK,aK,zu f p l (j+1)]
theorem Ge{at':List Int}{cs:List Cell}:gy at' cs=aK (fun k=>k==at') (cs.map Cell.at') 0:=by
 unfold gy;rw[zu]
theorem jQ{α:Type}{p:α→Bool}:∀ {l:List α} {j:Nat},aK p l j<0→∀ x∈l,p x=false
 | [],_,_,_,h=>by simp at h
 | x::l,j,h,y,hy=>by
   simp only[aK] at h
   split at h
   ·omega
   ·rename_i h1
    rcases Xo.1 hy with rfl|hy
    ·simpa using h1
    ·exact jQ h y hy
theorem wM{at':List Int}{cs:List Cell}(h:¬ gy at' cs<0):∃ k:Nat,gy at' cs=(k:Int)∧k<cs.length∧(at_ cs k).at'=at':=by
 obtain⟨k,h1,h2,h3,_⟩:=ku h
 exact⟨k,by unfold gy;rw[h1];simp,h2,by simpa using h3⟩
theorem BY{cs:List Cell}{k:Nat}{y:Cell}(hk:k<cs.length)(h:(at_ cs k).at'=y.at'):(cs.set k y).map Cell.at'=cs.map Cell.at':=by
 refine c5 (by simp) fun i hi=>?_
 simp only[WZ,List.length_set] at hi
 rw[bj (by simpa using hi),bj hi,fP hi]
 split
 ·rename_i e;subst e;exact h.symm
 ·rfl
section
variable {src kept:List (Int×Bool)} {ds:List Dim} {rule:Int}
def jS(src:List (Int×Bool))(ds:List Dim)(ks:List (List Int))(c:Cell):List (List Int) :=
 match gx src ds c with
 | none=>ks
 | some at'=>if aK (fun k=>k==at') ks 0<0 then ks++[at'] else ks
theorem zw{cs cs':List Cell}{c:Cell}(h:dR src kept ds rule cs c=some cs'):cs'.map Cell.at'=jS src ds (cs.map Cell.at') c:=by
 cases e:gx src ds c with
 | none=>simp only[dR,jS,e] at h ⊢;cases h;rfl
 | some at' =>
   simp only[dR,jS,e] at h ⊢
   rw[← Ge]
   split at h
   ·rename_i h1;cases h
    rw[if_pos h1]
    simp[lB]
   ·rename_i h1
    rw[if_neg h1]
    split at h
    ·cases h
    split at h
    ·cases h
     obtain⟨k,h2,h3,h4⟩:=wM h1
     rw[h2,Xr]
     exact BY h3 h4
    ·cases h;rfl
theorem zx{cs cs':List Cell}{c:Cell}(h:dR src kept ds rule cs c=some cs')(hd:cs.Pairwise cE):cs'.Pairwise cE:=by
 rw[Iq] at hd ⊢
 rw[zw h]
 unfold jS
 split
 ·exact hd
 ·rename_i at' e
  split
  ·rename_i h1
   refine List.nodup_append.2 ⟨hd,by simp,fun x hx y hy e2=>?_⟩
   have:=jQ h1 x hx
   simp only[X6] at hy
   subst hy;subst e2
   simp at this
  ·exact hd
theorem Gf{cs:List Cell}{c:Cell}(hr:rule≠1):∃ cs',dR src kept ds rule cs c=some cs':=by
 unfold dR
 split
 ·exact⟨_,rfl⟩
 ·rename_i at' e
  by_cases h1:gy at' cs<0
  ·exact⟨_,by rw[if_pos h1]⟩
  ·rw[if_neg h1,if_neg hr]
   by_cases h3:rule=3
   ·exact⟨_,by rw[if_pos h3]⟩
   ·exact⟨_,by rw[if_neg h3]⟩
theorem Ey:∀ {l cs cs':List Cell},gb src kept ds rule cs l=some cs'→cs'.map Cell.at'=l.foldl (jS src ds) (cs.map Cell.at')
 | [],cs,cs',h=>by cases h;rfl
 | c::r,cs,cs',h=>by
   simp only[gb] at h
   split at h
   ·cases h
   ·rename_i cs1 h1
    rw[List.foldl_cons,← zw h1]
    exact Ey h
theorem AL(hr:rule≠1):∀ (l cs:List Cell),∃ cs',gb src kept ds rule cs l=some cs'
 | [],cs=>⟨cs,rfl⟩
 | c::l,cs=>by
   obtain⟨cs1,h1⟩:=Gf (src:=src) (kept:=kept) (ds:=ds) (rule:=rule) (cs:=cs) (c:=c) hr
   simp only[gb,h1]
   exact AL hr l cs1
theorem DH{ks:List (List Int)}{c:Cell}:(jS src ds ks c).length≤ks.length+1:=by
 unfold jS
 split
 ·omega
 ·split
  ·simp
  ·omega
theorem BZ:∀ {l:List Cell} {ks:List (List Int)},(l.foldl (jS src ds) ks).length≤ks.length+l.length
 | [],ks=>by simp
 | c::l,ks=>by
   rw[List.foldl_cons]
   have h1:=BZ (l:=l) (ks:=jS src ds ks c)
   have h2:=DH (src:=src) (ds:=ds) (ks:=ks) (c:=c)
   simp only[Xq];omega
theorem Ot{l cs:List Cell}(h:gb src kept ds rule [] l=some cs):cs.length≤l.length:=by
 have h1:=congrArg List.length (Ey h)
 have h2:=BZ (src:=src) (ds:=ds) (l:=l) (ks:=[])
 simp only[WZ,List.map_nil,List.length_nil] at h1 h2
 omega
end
theorem q9:∀ {ats:List Attr} {vs:List Val},vs.length=ats.length→(fR ats vs=0↔∀ i,i<ats.length→ml (at_ vs i).kind (at_ vs i).num (at_ vs i).den (at_ vs i).str (at_ ats i).type=true)
 | [],[],_=>by simp[fR]
 | x::ats,v::vs,h=>by
   have ih:=q9 (ats:=ats) (vs:=vs) (by simpa using h)
   simp only[fR]
   constructor
   ·intro h1 i hi
    split at h1
    ·omega
    ·rename_i h2
     cases i with
     | zero =>
       have h3:ml v.kind v.num v.den v.str x.type=true:=by simpa using h2
       exact h3
     | succ i=>exact ih.1 h1 i (by simpa using hi)
   ·intro h1
    have h0:ml v.kind v.num v.den v.str x.type=true:=h1 0 (by simp)
    rw[if_neg (by simp[h0])]
    exact ih.2 fun i hi=>h1 (i+1) (by simpa using hi)
 | [],_::_,h=>by simp at h
 | _::_,[],h=>by simp at h
theorem Ez{a:Arr}{name:List UInt8}(h:¬ (bO a.dims a.attrs name).1<0):(∃ k:Nat,bO a.dims a.attrs name=((k:Int),true)∧k<a.dims.length∧(at_ a.dims k).name=name)∨∃ k:Nat,bO a.dims a.attrs name=((k:Int),false)∧k<a.attrs.length∧(at_ a.attrs k).name=name:=by
 unfold bO at h ⊢
 by_cases h1:aV a.dims name<0
 ·rw[if_pos h1] at h ⊢
  obtain⟨k,h2,h3,h4,_⟩:=ku h
  refine .inr ⟨k,?_,h3,by simpa using h4⟩
  have:atX a.attrs name=(k:Int):=by unfold atX;rw[h2];simp
  rw[this]
 ·rw[if_neg h1]
  obtain⟨k,h2,h3,h4,_⟩:=kA h1
  exact .inl ⟨k,by rw[h2],h3,h4⟩
theorem wN{a:Arr}:∀ {names:List (List UInt8)},ef a names=0→∀ n∈names,¬ (bO a.dims a.attrs n).1<0
 | [],_,_,h=>by simp at h
 | x::r,h,n,hn=>by
   simp only[ef] at h
   split at h
   ·omega
   ·rename_i h1
    rcases Xo.1 hn with rfl|hn
    ·exact h1
    ·exact wN h n hn
theorem Hn{a:Arr}{ds:List Dim}{names:List (List UInt8)}(h:eX a ds names=0):eW a ds=0∧ef a names=0∧bo ds (ja a names)=0:=by
 unfold eX at h
 split at h
 ·rename_i h1;exact absurd h h1
 split at h
 ·rename_i h1;exact absurd h h1
 rename_i h1 h2
 exact⟨by simpa using h1,by simpa using h2,h⟩
theorem Attr.ext{a b:Attr}(h1:a.name=b.name)(h2:a.type=b.type):a=b:=by cases a;cases b;simp_all
end Go.Proofs.YtpejdgkaapnekaaGreat
namespace Go.Abs
open Go
variable {P:Program} {c:Ctx} {σ σ':Sig} {φ φ':Pl} {w w':World}
theorem HInv.ren{S:Sto}(r:Nat→Nat)(h:HInv σ φ S w)(hk:(dn (bn S)&&dn (jX r (bn S))&&uP r (bn S)&&bt S S)=true) :
  ∃ φ',HInv σ φ' (gW r S) w∧(∀ j o,look S j=some o→look (gW r S) (r j)=some (du r o)∧φ' (r j)=φ j)∧(∀ t e,look (gW r S) t=some e→∃ j o,t=r j∧look S j=some o∧e=du r o)∧∀ t,Pin t→φ' t=φ t:=by
 simp only[WX] at hk
 obtain⟨⟨⟨h1,h2⟩,h3⟩,h4⟩:=hk
 classical
 let φ':Pl:=fun t=>if h:∃ i,i∈bn S∧r i=t then φ h.choose else φ t
 have hφ:∀ {i:Nat},i∈bn S→φ' (r i)=φ i:=by
  intro i hi
  have hex:∃ j,j∈bn S∧r j=r i:=⟨i,hi,rfl⟩
  show (if h:∃ j,j∈bn S∧r j=r i then φ h.choose else φ (r i))=φ i
  rw[dif_pos hex]
  have:=hex.choose_spec
  rw[oI h2 this.1 hi this.2]
 have hR:∀ j o,look S j=some o→look (gW r S) (r j)=some (du r o)∧φ' (r j)=φ j:=fun j o hj=>⟨oJ h2 hj,hφ (nQ hj)⟩
 refine⟨φ',⟨h.sig,fun t e ht=>?_,fun t t' e e' p p' ht ht' hne hp hp'=>?_⟩,hR,fun t e ht=>ey h1 ht,fun t ht=>?_⟩
 ·obtain⟨i,o,rfl,hi,rfl⟩:=ey h1 ht
  exact Am hR hi (gq h4 hi) (h.obj _ _ hi)
 ·obtain⟨i,o,rfl,hi,rfl⟩:=ey h1 ht
  obtain⟨i',o',rfl,hi',rfl⟩:=ey h1 ht'
  rw[(hR _ _ hi).2] at hp
  rw[(hR _ _ hi').2] at hp'
  exact h.inj _ _ _ _ _ _ hi hi' (fun e=>hne (by rw[e])) hp hp'
 ·show (if h:∃ j,j∈bn S∧r j=t then φ h.choose else φ t)=_
  split
  ·rename_i hex
   have hs:=hex.choose_spec
   have:=xz h3 hs.1 (by rw[hs.2];exact ht)
   rw[hs.2] at this
   rw[← this]
  ·rfl
theorem B9{S:Sto}{r:Nat→Nat}(hR:∀ j o,look S j=some o→look (gW r S) (r j)=some (du r o)∧φ' (r j)=φ j):∀ {avs:List AV} {vs:List Value},dU S avs=true→All2 (RepV σ φ S) avs vs→All2 (RepV σ φ' (gW r S)) (dF r avs) vs
 | [],[],_,_=>trivial
 | x::l,v::vs,h,ha=>by
   simp only[dU,WX] at h
   exact⟨reV hR h.1 ha.1,B9 hR h.2 ha.2⟩
 | [],_::_,_,ha=>ha.elim
 | _::_,[],_,ha=>ha.elim
theorem sF{f:FuncId}{avs avs0:List AV}{s s0 s' s1:Sto}{rav:AV}(q q':Nat→Nat)(hC:CallA P f avs s rav s')(hs:gW q s0=s)(ha:dF q avs0=avs)(hs':gW q' s'=s1)(hai:dU s0 avs0=true)(hfl:fZ rav=true)
  (hk:(dn (bn s0)&&dn (jX q (bn s0))&&uP q (bn s0)&&bt s0 s0)=true) (hk':(dn (bn s')&&dn (jX q' (bn s'))&&uP q' (bn s')&&bt s' s')=true):CallA P f avs0 s0 rav s1:=by
 subst hs;subst ha;subst hs'
 refine⟨hC.fn,fun w σ φ vs hinv hargs=>?_⟩
 obtain⟨φ1,h1,hR,hL,hp⟩:=hinv.ren q hk
 refine (hC.run w σ φ1 vs h1 (B9 hR hai hargs)).mono ?_
 rintro e w' ⟨v,σ',φ',rfl,hret⟩
 obtain⟨φ2,h2,hR2,hL2,hp2⟩:=hret.inv.ren q' hk'
 have hM:∀ b,MOf φ1 (gW q s0) b→MOf φ s0 b:=by
  rintro b ⟨t,e,p,h3,h4,h5⟩
  obtain⟨j,o,rfl,h6,rfl⟩:=hL t e h3
  rw[(hR _ _ h6).2] at h4
  exact⟨j,o,p,h6,h4,h5⟩
 refine⟨v,σ',φ2,rfl,hret.le,fun b hb=>?_,h2,sM hfl hret.rep,fun i e p hi hpi=>?_,fun t ht=>(hp2 t ht).trans ((hret.pin t ht).trans (hp t ht)),⟨hret.kept.os,hret.kept.tape,hret.kept.output,hret.kept.size,hret.kept.drawn,fun b hb hm=>hret.kept.block b hb fun h=>hm (hM b h)⟩⟩
 ·rcases hret.fresh b hb with h|h|h
  ·exact .inl h
  ·exact .inr (.inl h)
  ·exact .inr (.inr (hM b h))
 ·obtain⟨j,o,rfl,h6,rfl⟩:=hL2 i e hi
  rw[(hR2 _ _ h6).2] at hpi
  rcases hret.mine _ _ _ h6 hpi with h|h
  ·exact .inl h
  ·exact .inr (hM _ h)
variable {V:Env} {T:Tab} {w0:World} {σ0:Sig} {φ0:Pl} {M:Nat→Prop} {n:Nat} {rd:Option Nat} {mk:List Deferred} {ops:Array Oper} {o:Oper} {rest:List Oper} {fr:List (Nat×AV)} {sto:Sto} {K:St→Prop} {st st0:St} {acc:List Tr}
theorem wI(i id:Nat){k b:Nat}(hl:look sto i=some (.box [.d .nil]))(hlt:(Nat.blt id 1000000&&(!br id fr&&!aN id sto&&!bw sto id))=true):Imp c ⟨fr,sto⟩ ⟨fr,(id,.row k b [])::cD i (.box [.own id 0]) sto⟩:=by
 simp only[WX,Xe,Yb] at hlt
 obtain⟨h1,⟨h2,h3⟩,h4⟩:=hlt
 intro a w σ φ hr
 have hn:=hr.nilRow (id:=id) (k:=k) (b:=b) (by simpa using h1) h2 h3
 have hne:id≠i:=by rintro rfl;simp[bw,hl] at h4
 have hE:Ext (fun _=>False) (cq φ id none) (cq φ id none) ((id,.row k b [])::sto) ((id,.row k b [])::cD i (.box [.own id 0]) sto):=by
  intro j _
  cases hj:look ((id,AObj.row k b [])::cD i (.box [.own id 0]) sto) j with
  | none=>exact .inl rfl
  | some e =>
    refine .inr ?_
    rcases ah hj with⟨rfl,rfl⟩|⟨hne2,hj2⟩
    ·exact⟨_,aH,rfl,_,rfl,compat.refl _⟩
    ·rw[dq] at hj2
     rcases ah hj2 with⟨rfl,rfl⟩|⟨_,hj3⟩
     ·exact⟨.box [.d .nil],by rw[aP hne2];exact hl,rfl,.box [.own id 0],rfl,trivial⟩
     ·exact⟨_,by rw[aP hne2];exact hj3,rfl,_,rfl,compat.refl _⟩
 have hold:∀ {j e},look ((id,AObj.row k b [])::cD i (.box [.own id 0]) sto) j=some e→(j=i∧e=.box [.own id 0])∨look ((id,AObj.row k b [])::sto) j=some e:=by
  intro j e hj
  rcases ah hj with⟨rfl,rfl⟩|⟨hne2,hj2⟩
  ·exact .inr aH
  ·rw[dq] at hj2
   rcases ah hj2 with⟨rfl,rfl⟩|⟨_,hj3⟩
   ·exact .inl ⟨rfl,rfl⟩
   ·exact .inr (by rw[aP hne2];exact hj3)
 have hi:look ((id,AObj.row k b [])::sto) i=some (.box [.d .nil]):=by rw[aP (fun e=>hne e.symm)];exact hl
 refine⟨σ,_,hn.le,hn.fresh,⟨hn.inv.sig,fun j e hj=>?_,fun j j' e e' p p' hj hj' hne2 hp hp'=>?_⟩,fun j e p hj hp=>?_,fun s v hv=>?_,hn.defers,hn.size,hn.fra,hn.pin⟩
 ·rcases hold hj with⟨rfl,rfl⟩|hj2
  ·obtain⟨B,cc,vs,t,h5,h6,h7,h8⟩:=hn.inv.obj _ _ hi
   refine⟨B,cc,vs,t,h5,h6,?_,h8⟩
   cases vs with
   | nil=>exact h7.elim
   | cons v vs =>
     obtain⟨h9,h10⟩:=h7
     cases vs with
     | cons _ _=>exact h10.elim
     | nil =>
       replace h9:=RepC.d_inv h9
       cases h9
       exact⟨.ownNil aH az,trivial⟩
  ·exact (hn.inv.obj _ _ hj2).ext (X:=fun _=>False) (Sig.le_refl _) hE (fun j hj=>hj.elim) rfl fun _ _ _=>⟨rfl,rfl⟩
 ·have h5:∀ {j e},look ((id,AObj.row k b [])::cD i (.box [.own id 0]) sto) j=some e→∃ e0,look ((id,AObj.row k b [])::sto) j=some e0:=by
   intro j e hj
   rcases hold hj with⟨rfl,rfl⟩|hj2
   ·exact⟨_,hi⟩
   ·exact⟨_,hj2⟩
  obtain⟨_,h6⟩:=h5 hj
  obtain⟨_,h7⟩:=h5 hj'
  exact hn.inv.inj _ _ _ _ _ _ h6 h7 hne2 hp hp'
 ·rcases hold hj with⟨rfl,rfl⟩|hj2
  ·exact hn.mine _ _ _ hi hp
  ·exact hn.mine _ _ _ hj2 hp
 ·obtain⟨u,hu,hru⟩:=hn.slot s v hv
  exact⟨u,hu,hru.ext (Sig.le_refl _) hE fun j hj=>hj.elim⟩
theorem gi{t e:TypeId}{x y:Operand}{id m k k' b b':Nat}{ik:IntKind}{h:Int}{xs:List (List D)}{z:List D}(ho:o.op=.slice t x none (some y) none)(ht:bc V.T t=some (e,k',b',z))(hx:ev st x=some (.one (.own id m)))(hy:ev st y=some (.one (.d (.int ik h))))
  (hl:look st.sto id=some (.row k b xs)) (hk:Nat.beq k k'=true) (h0:0≤h) (hm:h.toNat≤m) (hxs:m≤xs.length):aR V st o 0=some ⟨.one (.own id h.toNat),[],[]⟩:=by
 have e1:Nat.ble h.toNat xs.length=true:=Nat.ble_eq.mpr (by omega)
 have e2:Nat.ble h.toNat m=true:=Nat.ble_eq.mpr hm
 have e0:Nat.ble 0 h.toNat=true:=Nat.ble_eq.mpr (Xk _)
 simp only[aR,dg,cL,ho,df,iD,hx,hy,h0,decide_true,Yf,iK,ht,hl,hk,e0,e1,e2,XV,Bool.or_true,XN]
theorem qm{t e:TypeId}{x y:Operand}{id m k k' b b':Nat}{ik:IntKind}{xs:List (List D)}{z:List D}(ho:o.op=.slice t x (some y) none none)(ht:bc V.T t=some (e,k',b',z))(hx:ev st x=some (.one (.own id m)))(hy:ev st y=some (.one (.d (.int ik 0))))
  (hl:look st.sto id=some (.row k b xs)) (hk:Nat.beq k k'=true) (hxs:m≤xs.length):aR V st o 0=some ⟨.one (.own id m),[],[]⟩:=by
 have e1:Nat.ble m xs.length=true:=Nat.ble_eq.mpr hxs
 have e2:Nat.ble m m=true:=Nat.ble_eq.mpr (Xc _)
 have e0:Nat.ble 0 m=true:=Nat.ble_eq.mpr (Xk _)
 have e4:(0:Int)≤0:=Int.le_refl _
 simp only[aR,dg,cL,ho,df,iD,hx,hy,e4,decide_true,Yf,iK,ht,hl,hk,Int.toNat_zero,e0,e1,e2,XV,Bool.or_true,XN]
theorem rV{t e:TypeId}{x y:Operand}{id m k k' b b':Nat}{ik:IntKind}{h:Int}{xs:List (List D)}{z:List D}(ho:o.op=.slice t x (some y) none none)(ht:bc V.T t=some (e,k',b',z))(hx:ev st x=some (.one (.own id m)))(hy:ev st y=some (.one (.d (.int ik h))))
  (hl:look st.sto id=some (.row k b xs)) (hk:Nat.beq k k'=true) (h0:0<h) (hm:h.toNat≤m) (hxs:m≤xs.length):aR V st o 0=some ⟨.one (.sub id h.toNat (m-h.toNat)),[],[]⟩:=by
 have e1:Nat.ble m xs.length=true:=Nat.ble_eq.mpr hxs
 have e2:Nat.ble h.toNat m=true:=Nat.ble_eq.mpr hm
 have e3:Nat.beq h.toNat 0=false:=by
  cases hb:Nat.beq h.toNat 0 with
  | false=>rfl
  | true=>have:=W4 hb;omega
 have e4:(0:Int)≤h:=by omega
 simp only[aR,dg,cL,ho,df,iD,hx,hy,e4,decide_true,Yf,iK,ht,hl,hk,e1,e2,e3,XV,Bool.false_and,Ye]
theorem fV(hT:bg P T){d:Nat}{t t2 e e2 k b k2 b2 k' b' id m:Nat}{z z2:List D}{x y:Operand}{v:AV}{xs ys zs:List (List D)}
  (ho:o.op=.call { callee:=.builtin .append,args:=#[x,y],argTypes:=#[t,t2] }) (hg:o.guard=none) (hdst:o.dst=some d) (hd:Nat.blt d n=true) (ht:bc T t=some (e,k,b,z)) (ht2:bc T t2=some (e2,k2,b2,z2))
  (hlt:(Nat.blt id 1000000||Nat.ble 2000000 id)=true) (hx:ev ⟨fr,sto⟩ x=some (.one (.own id m))) (hl:look sto id=some (.row k' b' xs)) (hkb:(Nat.beq k k'&&Nat.beq b b')=true) (hy:ev ⟨fr,sto⟩ y=some v) (hs:ga ⟨fr,sto⟩ k v=some ys) (hzs:zs=xs.take m++ys)
  (hm:m≤100000000) (hys:ys.length≤100000) (hb:b≤100)
  (h:aa P ⟨w0,σ0,φ0,M,n,rd,mk⟩ ops rest ⟨(d,.one (.own id (m+ys.length)))::nq id fr,cD id (.row k b zs) (eA id sto)⟩ K):aa P ⟨w0,σ0,φ0,M,n,rd,mk⟩ ops (o::rest) ⟨fr,sto⟩ K:=by
 have h47:(m+ys.length)*b≤2^47:=Xg (Nat.mul_le_mul (show m+ys.length≤200000000 by omega) hb) (by omega)
 exact c6 hT ho hg (by rw[hdst];exact hd) ht ht2 hlt hx hl hkb hy hs hzs (by omega) h47 (by rw[hdst];exact h)
theorem tE{d:Nat}{fop:Operand}{args:Array Operand}{ats:Array TypeId}{f:FuncId}{caps:List D}{avs avs':List AV}{rav:AV}{rsto:Sto}{os:List (Nat×AObj)}(dl:List Nat)
  (ho:o.op=.call { callee:=.value fop,args:=args,argTypes:=ats }) (hg:o.guard=none) (hdst:o.dst=some d) (hd:Nat.blt d c.n=true) (hos:eF sto dl=some os) (hf:evS os ⟨fr,sto⟩ fop=some (.one (.d (.fn f caps))))
  (ha:lQ os ⟨fr,sto⟩ args.toList=some avs) (hD:c8 avs=true) (hap:(avs++caps.map fun x=>.one (.d x))=avs') (hC:CallA P f avs' [] rav rsto) (hfl:fZ rav=true)
  (k:ak P c ops st0 rest ⟨(d,rav)::fr,sto⟩ (⟨rav,[],dl,[]⟩::acc) K):ak P c ops st0 (o::rest) ⟨fr,sto⟩ acc K:=by
 subst hap
 exact mi hg (yR dl ho (by rw[hdst];exact hd) hos hf ha hD hC hfl) (by rw[hdst];exact k)
theorem Eu{bl:Nat}{g:Operand}{ps:Array Nat}{assign body code:Code}{Q:Exit→St→Prop}{st':St}(hi:Imp c st st')(h:OkR P c bl g ps assign body code st' Q):OkR P c bl g ps assign body code st Q:=fun a w σ φ hr=>by
 obtain⟨σ',φ',hr'⟩:=hi a w σ φ hr
 exact h a w σ' φ' hr'
theorem uX{s':Sto}(h:SubL sto s'):Imp c ⟨fr,sto⟩ ⟨fr,s'⟩:=fun a w σ φ hr=>⟨σ,φ,hr.dropTo fun i e hi=>h.look hi⟩
theorem aT(dl:List Nat){d:Nat}{fop:Operand}{args:Array Operand}{ats:Array TypeId}{f:FuncId}{caps:List D}{avs avs':List AV}{rav:AV}{rsto:Sto}{os:List (Nat×AObj)}
  (ho:o.op=.call { callee:=.value fop,args:=args,argTypes:=ats }) (hg:o.guard=none) (hdst:o.dst=some d) (hd:Nat.blt d n=true) (hos:eF sto dl=some os) (hf:evS os ⟨fr,sto⟩ fop=some (.one (.d (.fn f caps))))
  (ha:lQ os ⟨fr,sto⟩ args.toList=some avs) (hD:c8 avs=true) (hap:(avs++caps.map fun x=>.one (.d x))=avs') (hC:CallA P f avs' [] rav rsto) (hfl:fZ rav=true)
  (h:aa P ⟨w0,σ0,φ0,M,n,rd,mk⟩ ops rest ⟨(d,rav)::fr,sto⟩ K):aa P ⟨w0,σ0,φ0,M,n,rd,mk⟩ ops (o::rest) ⟨fr,sto⟩ K:=by
 subst hap
 obtain⟨ss,h1,h2⟩:=jH (st:=⟨fr,sto⟩) hos
 exact j9 ho hg (by rw[hdst];exact hd) (bq h1) (by rw[h2];exact hf) (by rw[nO h2];exact ha) hD hC hfl (by rw[hdst];exact h)
end Go.Abs
