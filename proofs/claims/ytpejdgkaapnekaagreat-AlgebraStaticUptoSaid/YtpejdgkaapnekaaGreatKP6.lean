import Derived.DeepKeys3
import Derived.Laws.StructEq
import Derived.MapKept
import Derived.RangeFuncIn
import Derived.Test.YtpejdgkaapnekaaGreatKP5
set_option linter.unusedVariables false
set_option linter.unusedSimpArgs false
set_option maxHeartbeats 1000000
namespace Go.Abs
open Go
variable {P:Program} {c:Ctx} {T:Tab} {σ:Sig} {φ:Pl} {w:World}
def sealL(st:St):List Nat→Option St
 | []=>some st
 | id::r=>match look st.sto id with
   | some o=>bif lV o then sealL ⟨jw id o st.fr,bS id o st.sto⟩ r else none
   | none=>none
def eR:List Nat→Sto→Sto
 | [],s=>s
 | i::l,s=>del i (eR l s)
theorem kO{dl:List Nat}{s:Sto}{i:Nat}{o:AObj}:look (eR dl s) i=some o→look s i=some o∧i ∉ dl:=by
 induction dl with
 | nil=>intro h;exact⟨h,by simp⟩
 | cons j r ih =>
   intro h
   obtain⟨h1,h2⟩:=ee h
   obtain⟨h3,h4⟩:=ih h2
   exact⟨h3,by simp[h1,h4]⟩
theorem zh{dl:List Nat}{s:Sto}{i:Nat}(hi:i ∉ dl):look (eR dl s) i=look s i:=by
 induction dl with
 | nil=>rfl
 | cons j r ih =>
   simp only[Xo,not_or] at hi
   simp only[eR]
   rw[ff hi.1,ih hi.2]
theorem Ie{dl:List Nat}{s:Sto}{i:Nat}(hi:i∈dl):look (eR dl s) i=none:=by
 cases h:look (eR dl s) i with
 | none=>rfl
 | some o=>exact absurd hi (kO h).2
theorem Rel.sealL:∀ {dl:List Nat} {st ss:St} {a:Act} {σ:Sig},sealL st dl=some ss→Rel c st a w σ φ →
  ∃ σs,σ.le σs∧Rel c ss a w σs φ∧∀ b,σs b=σ b∨∃ id o cc,id∈dl∧look st.sto id=some o∧φ id=some (b,cc)
 | [],st,ss,a,σ,h,hr=>by
   simp only[Go.Abs.sealL,W5] at h;subst h
   exact⟨σ,Sig.le_refl _,hr,fun _=>.inl rfl⟩
 | id::r,st,ss,a,σ,h,hr=>by
   simp only[Go.Abs.sealL] at h
   split at h<;>(try (simp at h;done))
   rename_i o hl
   cases hc:lV o<;>simp only[hc,Yf,Ye,reduceCtorEq] at h
   obtain⟨σ',hS⟩:=hr.inv.sealSig hl hc
   have hle:=hS.le
   have hr':Rel c ⟨jw id o st.fr,bS id o st.sto⟩ a w σ' φ:=by
    refine⟨Sig.le_trans hr.le hle,fun b hb=>?_,hr.inv.sealing hl hS,fun i e p hi hp=>?_,fun s v hv=>?_,hr.defers,hr.size,hr.fra,hr.pin⟩
    ·rcases hS with⟨_,rfl⟩|⟨B,cap,arr,t,hp,hh,hs,rfl⟩
     ·exact hr.fresh b hb
     ·by_cases e:b=B
      ·subst e
       exact .inr (hr.mine _ _ _ hl hp)
      ·simp[eS,e] at hb;exact hr.fresh b hb
    ·obtain⟨_,e0,h0,_⟩:=eI hi
     exact hr.mine _ _ _ h0 hp
    ·obtain⟨v0,h1,rfl⟩:=pz hv
     obtain⟨u,h2,h3⟩:=hr.slot s v0 h1
     exact⟨u,h2,y6 hr.inv hl hS h3⟩
   obtain⟨σs,h1,h2,h3⟩:=Rel.sealL h hr'
   refine⟨σs,Sig.le_trans hle h1,h2,fun b=>?_⟩
   rcases h3 b with h4|⟨i,o',cc,h5,h6,h7⟩
   ·rcases hS with⟨_,rfl⟩|⟨B,cap,arr,t,hp,hh,hs,rfl⟩
    ·exact .inl h4
    ·by_cases e:b=B
     ·subst e;exact .inr ⟨id,o,cap,by simp,hl,hp⟩
     ·exact .inl (h4.trans (by simp[eS,e]))
   ·obtain⟨_,e0,h8,_⟩:=eI h6
    exact .inr ⟨i,e0,cc,by simp[h5],h8,h7⟩
theorem Rel.given{dl:List Nat}{st ss:St}{a:Act}(h:Go.Abs.sealL st dl=some ss)(hr:Rel c st a w σ φ):∃ σs,Rel c ss a w σs φ∧Rel c ⟨st.fr,eR dl st.sto⟩ a w σs φ:=by
 obtain⟨σs,hle,hrs,hb⟩:=Rel.sealL h hr
 have hE:Ext (fun _=>False) φ φ st.sto (eR dl st.sto):=by
  intro i _
  by_cases hi:i∈dl
  ·exact .inl (Ie hi)
  ·cases hl:look st.sto i with
   | none=>exact .inl (by rw[zh hi];exact hl)
   | some e=>exact .inr ⟨e,rfl,rfl,e,by rw[zh hi];exact hl,compat.refl _⟩
 refine⟨σs,hrs,hrs.le,hrs.fresh,⟨hrs.inv.sig,fun i e hi=>?_,fun i i' e e' p p' hi hi'=>?_⟩,fun i e p hi hp=>?_,fun s v hv=>?_,hr.defers,hr.size,hr.fra,hr.pin⟩
 ·obtain⟨h1,h2⟩:=kO hi
  have ho:=hr.inv.obj _ _ h1
  refine ho.ext (X:=fun _=>False) hle hE (fun j hj=>hj.elim) rfl fun B cc hB=>⟨rfl,?_⟩
  rcases hb B with h3|⟨j,o,cc',h4,h5,h6⟩
  ·exact h3
  ·have:=hr.inv.inj _ _ _ _ (B,cc) (B,cc') h1 h5 (fun e=>h2 (e ▸ h4)) hB h6
   exact absurd rfl this
 ·exact hr.inv.inj _ _ _ _ _ _ (kO hi).1 (kO hi').1
 ·exact hr.mine _ _ _ (kO hi).1 hp
 ·obtain⟨u,hu,hru⟩:=hr.slot s v hv
  exact⟨u,hu,hru.ext hle hE fun j hj=>hj.elim⟩
theorem b7{st:St}{r:Nat→Nat}:∀ {l:Sto},CompatL st r [] l
 | []=>trivial
 | _::l=>⟨fun i e h=>by simp[look] at h,b7⟩
theorem zi:∀ {ds:List D},c8 (ds.map fun x=>AV.one (.d x))=true
 | []=>rfl
 | _::l=>by simp only[XK,c8,avD,zi (ds:=l),XV]
theorem BE:∀ {a b:List AV},c8 a=true→c8 b=true→c8 (a++b)=true
 | [],_,_,h=>h
 | x::l,b,h,h'=>by
   simp only[c8,WX] at h
   simp only[XL,c8,h.1,BE h.2 h',XV]
theorem mn{ops:Array Oper}{o:Oper}{rest:List Oper}{st ss:St}{K:St→Prop}{fop:Operand}{args:Array Operand}{ats:Array TypeId}{f:FuncId}{caps:List D}{avs:List AV}{rav:AV}{rsto:Sto}(k:Nat)(dl:List Nat)
  (ho:o.op=.call { callee:=.value fop,args:=args,argTypes:=ats }) (hg:o.guard=none) (hd:aX c.n o.dst=true) (hss:sealL st dl=some ss) (hf:ev ss fop=some (.one (.d (.fn f caps))))
  (ha:evL ss args.toList=some avs) (hD:c8 avs=true) (hC:CallA P f (avs++caps.map fun x=>.one (.d x)) [] rav rsto)
  (hk:(c7 [] rsto&&Nat.ble (k+16) 1000000&&dG rsto rav&&bt rsto rsto)=true) (hfresh:lz k ⟨st.fr,eR dl st.sto⟩)
  (h:aa P c ops rest ⟨bI o.dst (eC (rn k []) rav) st.fr,eL (rn k []) (eR dl st.sto) rsto⟩ K):aa P c ops (o::rest) st K:=by
 refine mw hg fun a w σ φ hr=>?_
 obtain⟨σs,hs,hr1⟩:=hr.given hss
 have hfr:=aD hs hf
 replace hfr:=RepC.d_inv hfr
 generalize hfe:a.eval fop=fv at hfr
 simp only[WX] at hk
 cases hfr with
 | fn cvs hl hcs =>
   have hcaps:All2 (RepV σs φ (eR dl st.sto)) (caps.map fun x=>.one (.d x)) cvs:=by
    refine All2.of_get (by simp[hl]) fun j x v hx hv=>?_
    simp only[X1,Option.map_eq_some_iff] at hx
    obtain⟨d,hd,rfl⟩:=hx
    exact RepC.d (hcs j d v hd hv)
   have hargs:=vi (σ':=σs) (φ':=φ) (sto':=eR dl st.sto) (Sig.le_refl _) hD (iT hs ha)
   refine⟨f,_,_,rk ho hfe hC.fn,BF (o:=o) k [] hr1 hd hC (by rw[vj,oU,Ig hD];exact hargs.append hcaps) trivial b7 ?_ hfresh,?_⟩
   ·simp only[gG,jV,iB,gU,bt,Bool.true_and,Bool.and_true,hk.1.1.1,hk.1.1.2,hk.1.2,hk.2,Ep (BE hD zi)]
   rintro e w' ⟨v,σ',φ',rfl,hr'⟩
   exact⟨v,_,σ',φ',rfl,hr',h⟩
def xx(r:Nat→Nat):Sto→List (Nat×Option AObj)
 | []=>[]
 | (j,o)::l=>(r j,some (du r o))::xx r l
def qK:List Nat→List (Nat×Option AObj)
 | []=>[]
 | i::l=>(i,none)::qK l
theorem lP{s:Sto}:∀ {dl:List Nat},dh (qK dl) s=eR dl s
 | []=>rfl
 | i::l=>by simp only[qK,dh,eR,lP (dl:=l)]
theorem lO{r:Nat→Nat}{s:Sto}{d:List (Nat×Option AObj)}:∀ {rs:Sto},dh (xx r rs++d) s=eL r (dh d s) rs
 | []=>rfl
 | (j,o)::l=>by simp only[xx,XL,dh,eL,lO (rs:=l)]
def rng(k:Nat):Nat→List Nat
 | 0=>[]
 | n+1=>(k+n)::rng k n
theorem rng_mem{k i:Nat}:∀ {n:Nat},i∈rng k n↔k≤i∧i<k+n
 | 0=>by simp only[rng,List.not_mem_nil,false_iff];omega
 | n+1=>by simp only[rng,Xo,rng_mem (n:=n)];omega
def k6(k:Nat)(dl ri:List Nat)(rav:AV)(rsto:Sto):Tr:=⟨eC (rn k []) rav,xx (rn k []) rsto++qK dl,ri,rng k 16⟩
theorem pA{i:Nat}{s:Sto}(h:aN i s=false):∀ {dl:List Nat},aN i (eR dl s)=false
 | []=>h
 | _::l=>nt (pA h (dl:=l))
theorem sA{o:Oper}{st:St}{fop:Operand}{args:Array Operand}{ats:Array TypeId}{f:FuncId}{caps:List D}{avs:List AV}{rav:AV}{rsto:Sto}(k:Nat)
  (ho:o.op=.call { callee:=.value fop,args:=args,argTypes:=ats }) (hd:aX c.n o.dst=true) (hf:ev st fop=some (.one (.d (.fn f caps))))
  (ha:evL st args.toList=some avs) (hD:c8 avs=true) (hC:CallA P f (avs++caps.map fun x=>.one (.d x)) [] rav rsto)
  (hk:(c7 [] rsto&&Nat.ble (k+16) 1000000&&dG rsto rav&&bt rsto rsto)=true):Loc P c o st (k6 k [] [] rav rsto):=by
 intro st2 hs hri hnew ops rest K h
 have he:∀ {x:Operand},x∈o.op.operands.toList→ev st2 x=ev st x:=fun hx=>fJ hs hx
 rw[ho] at he
 have ha2:evL st2 args.toList=some avs:=(kn fun x hx=>he (by simp[Op.operands,Call.operands];exact .inr (by simpa using hx))).trans ha
 refine mn (o:={ o with guard:=none }) k [] ho rfl hd rfl ((he (by simp[Op.operands,Call.operands])).trans hf) ha2 hD hC hk (fun i h1 h2=>?_) ?_
 ·exact hnew i (rng_mem.2 ⟨h1,h2⟩)
 ·simp only[k6,qK,Yt] at h
  have:=lO (r:=rn k []) (s:=st2.sto) (d:=[]) (rs:=rsto)
  simp only[Yt] at this
  rw[this] at h
  exact h
def eF(s:Sto):List Nat→Option (List (Nat×AObj))
 | []=>some []
 | id::r=>match look s id with
   | some o=>bif lV o then (match eF (bS id o s) r with|some l=>some ((id,o)::l)|none=>none) else none
   | none=>none
def Ih:List (Nat×AObj)→AV→AV
 | [],v=>v
 | (id,o)::r,v=>Ih r (wj id o v)
def evS(os:List (Nat×AObj))(st:St)(x:Operand):Option AV:=match ev st x with|some v=>some (Ih os v)|none=>none
def lQ(os:List (Nat×AObj))(st:St):List Operand→Option (List AV)
 | []=>some []
 | x::r=>match evS os st x with
   | some v=>(match lQ os st r with|some l=>some (v::l)|none=>none)
   | none=>none
theorem qk{id:Nat}{o:AObj}:∀ {fr:List (Nat×AV)} {s:Nat},look (jw id o fr) s=match look fr s with|some v=>some (wj id o v)|none=>none
 | [],_=>rfl
 | (t,v)::l,s=>by
   simp only[jw,look]
   cases Nat.beq t s with
   | true=>rfl
   | false=>simp only[Ye];exact qk
theorem jH:∀ {dl:List Nat} {st:St} {os:List (Nat×AObj)},eF st.sto dl=some os→∃ ss,sealL st dl=some ss∧∀ x,ev ss x=evS os st x
 | [],st,os,h=>by
   simp only[eF,W5] at h;subst h
   refine⟨st,rfl,fun x=>?_⟩
   unfold evS
   cases ev st x<;>rfl
 | id::r,st,os,h=>by
   simp only[eF] at h
   split at h<;>(try (simp at h;done))
   rename_i o hl
   cases hc:lV o<;>simp only[hc,Yf,Ye,reduceCtorEq] at h
   split at h<;>simp at h
   rename_i l hr
   subst h
   obtain⟨ss,h1,h2⟩:=jH (st:=⟨jw id o st.fr,bS id o st.sto⟩) hr
   refine⟨ss,by simp only[sealL,hl,hc,Yf];exact h1,fun x=>?_⟩
   rw[h2]
   cases x with
   | tmp t =>
     simp only[evS,ev]
     rw[qk]
     cases look st.fr t<;>rfl
   | const v =>
     simp only[evS,ev]
     cases cst v<;>rfl
   | func f=>rfl
   | global g=>rfl
theorem nO{os:List (Nat×AObj)}{st ss:St}(h:∀ x,ev ss x=evS os st x):∀ {l:List Operand},evL ss l=lQ os st l
 | []=>rfl
 | x::r=>by simp only[evL,lQ,h x,nO h (l:=r)]<;>rfl
theorem oV{id:Nat}{o:AObj}{s:Sto}{i:Nat}(hi:i≠id):look (bS id o s) i=match look s i with|some e=>some (qX id o e)|none=>none:=by
 cases hl:look s i with
 | none=>exact ni hl
 | some e=>exact jb hi hl
theorem nj{id:Nat}{o:AObj}{s:Sto}:look (bS id o s) id=none:=by
 cases hl:look (bS id o s) id with
 | none=>rfl
 | some e=>exact absurd rfl (eI hl).1
theorem k5:∀ {dl:List Nat} {s s2:Sto},(∀ i∈dl,look s2 i=look s i)→eF s2 dl=eF s dl
 | [],_,_,_=>rfl
 | id::r,s,s2,h=>by
   simp only[eF]
   rw[h id Xd]
   cases hl:look s id with
   | none=>rfl
   | some o =>
     simp only
     have:eF (bS id o s2) r=eF (bS id o s) r:=k5 fun i hi=>by
      by_cases e:i=id
      ·subst e;rw[nj,nj]
      ·rw[oV e,oV e,h i (Xa _ hi)]
     rw[this]
theorem oD{os:List (Nat×AObj)}{st st2:St}:∀ {l:List Operand},(∀ x∈l,ev st2 x=ev st x)→lQ os st2 l=lQ os st l
 | [],_=>rfl
 | x::r,h=>by
   simp only[lQ,evS,h x Xd,oD (l:=r) fun y hy=>h y (Xa _ hy)]
theorem yS{o:Oper}{st:St}{fop:Operand}{args:Array Operand}{ats:Array TypeId}{f:FuncId}{caps:List D}{avs:List AV}{rav:AV}{rsto:Sto}{os:List (Nat×AObj)}(k:Nat)(dl:List Nat)
  (ho:o.op=.call { callee:=.value fop,args:=args,argTypes:=ats }) (hd:aX c.n o.dst=true) (hos:eF st.sto dl=some os) (hf:evS os st fop=some (.one (.d (.fn f caps))))
  (ha:lQ os st args.toList=some avs) (hD:c8 avs=true) (hC:CallA P f (avs++caps.map fun x=>.one (.d x)) [] rav rsto)
  (hk:(c7 [] rsto&&Nat.ble (k+16) 1000000&&dG rsto rav&&bt rsto rsto)=true):Loc P c o st (k6 k dl dl rav rsto):=by
 intro st2 hs hri hnew ops rest K h
 have he:∀ {x:Operand},x∈o.op.operands.toList→ev st2 x=ev st x:=fun hx=>fJ hs hx
 rw[ho] at he
 have hos2:eF st2.sto dl=some os:=(k5 hri).trans hos
 obtain⟨ss,h1,h2⟩:=jH hos2
 have ha2:evL ss args.toList=some avs:=by
  rw[nO h2,oD (st:=st) fun x hx=>he (by simp[Op.operands,Call.operands];exact .inr (by simpa using hx))]
  exact ha
 have hf2:ev ss fop=some (.one (.d (.fn f caps))):=by
  rw[h2]
  unfold evS
  rw[he (x:=fop) (by simp[Op.operands,Call.operands])]
  exact hf
 refine mn (o:={ o with guard:=none }) k dl ho rfl hd h1 hf2 ha2 hD hC hk (fun i h3 h4=>?_) ?_
 ·obtain⟨n1,n2,n3⟩:=hnew i (rng_mem.2 ⟨h3,h4⟩)
  refine⟨?_,n2,pA n3⟩
  cases hl:look (eR dl st2.sto) i with
  | none=>rfl
  | some e=>rw[(kO hl).1] at n1;cases n1
 ·simp only[k6] at h
  rw[lO,lP] at h
  exact h
end Go.Abs
namespace Go.Abs
open Go
variable {P:Program} {c:Ctx} {T:Tab} {σ:Sig} {φ:Pl} {w:World}
inductive KK where
 | int (k:IntKind)|bool|str
def bU:KK→D→Prop
 | .int k,.int k' _=>k'=k
 | .bool,.bool _=>True
 | .str,.str _=>True
 | _,_=>False
def qb(F:TypeId→Option (List KK)):Nat→List Field→Option (List KK)
 | _,[]=>some []
 | off,f::r=>match F f.type with
   | some ks => bif Nat.beq f.offset off && (f.name != "_") then (match qb F (off + ks.length) r with | some l => some (ks ++ l) | none => none) else none
   | none=>none
def gn(P:Program):Nat→TypeId→Option (List KK)
 | 0,_=>none
 | d+1,t=>match P.underlying t with
   | some .bool=>bif Nat.beq (P.cellsOf t) 1 then some [.bool] else none
   | some (.int q)=>bif Nat.beq (P.cellsOf t) 1 then some [.int q] else none
   | some .string=>bif Nat.beq (P.cellsOf t) 1 then some [.str] else none
   | some (.array n e)=>match gn P d e with
     | some ks=>bif Nat.beq (n*ks.length) (P.cellsOf t) then some (List.replicate n ks).flatten else none
     | none=>none
   | some (.struct fs)=>match qb (gn P d) 0 fs.toList with
     | some l=>bif Nat.beq l.length (P.cellsOf t) then some l else none
     | none=>none
   | _=>none
def k7:D→Lit
 | .int k n=>.int k n
 | .bool b=>.bool b
 | .str s=>.string s
 | _=>.nil
theorem k9:∀ (d:Nat) {t:TypeId} {ks:List KK},gn P d t=some ks→ks.length=P.cellsOf t
 | 0,_,_,h=>by simp[gn] at h
 | d+1,t,ks,h=>by
   have hone:∀ {k:KK},(bif Nat.beq (P.cellsOf t) 1 then some [k] else none)=some ks→ks.length=P.cellsOf t:=by
    intro k h
    cases hb:Nat.beq (P.cellsOf t) 1<;>simp only[hb,Yf,Ye,reduceCtorEq,W5] at h
    subst h
    rw[W4 hb];rfl
   simp only[gn] at h
   split at h
   ·exact hone h
   ·exact hone h
   ·exact hone h
   ·rename_i n e _
    split at h<;>(try (simp at h;done))
    rename_i k' hk
    cases hb:Nat.beq (n*k'.length) (P.cellsOf t)<;>simp only[hb,Yf,Ye,reduceCtorEq,W5] at h
    subst h
    rw[← W4 hb,cP (k:=k'.length) (fun x hx=>by rw[XQ hx])]
    simp
   ·split at h<;>(try (simp at h;done))
    rename_i l hl
    cases hb:Nat.beq l.length (P.cellsOf t)<;>simp only[hb,Yf,Ye,reduceCtorEq,W5] at h
    subst h
    exact W4 hb
   ·simp at h
theorem zc{α β:Type}{f:α→Option β}{g:α→β}:∀ {l:List α},(∀ a∈l,f a=some (g a))→l.mapM f=some (l.map g)
 | [],_=>rfl
 | a::l,h=>by
   rw[List.mapM_cons,h a Xd,zc fun b hb=>h b (Xa _ hb)]
   rfl
theorem uc{α:Type}{m:Nat}:∀ {n:Nat} {l:List α},l.length=n*m→((List.range n).map fun i=>(l.drop (i*m)).take m).flatten=l
 | 0,l,h=>by simp at h;simp[h]
 | n+1,l,h=>by
   rw[List.range_succ_eq_map]
   simp only[XK,XX,List.flatten_cons,Nat.zero_mul,List.drop_zero]
   have h1:(l.drop m).length=n*m:=by rw[List.length_drop,h,Nat.succ_mul];omega
   have ih:=uc (m:=m) (n:=n) (l:=l.drop m) h1
   have e:((fun i=>(l.drop (i*m)).take m) ∘ Nat.succ)=fun i=>((l.drop m).drop (i*m)).take m:=by
    funext i
    simp only[Function.comp,List.drop_drop,Nat.succ_mul,Nat.succ_eq_add_one,X2,Nat.one_mul]
    rw[Nat.add_comm]
   rw[e,ih,X8]
theorem iJ:∀ (d:Nat) {t:TypeId} {ks:List KK} {ds:List D} {vs:List Value},gn P d t=some ks→All2 (Rep σ) ds vs→All2 bU ks ds→P.keyLits d t vs=some (ds.map k7)
 | 0,_,_,_,_,h,_,_=>by simp[gn] at h
 | d+1,t,ks,ds,vs,h,hr,hf=>by
   have hlen:=k9 (d+1) h
   have hl1:=hr.length
   have hl2:=hf.length
   have one:∀ {k:KK},(bif Nat.beq (P.cellsOf t) 1 then some [k] else none)=some ks→∃ x v,ds=[x]∧vs=[v]∧Rep σ x v∧bU k x:=by
    intro k h
    cases hb:Nat.beq (P.cellsOf t) 1<;>simp only[hb,Yf,Ye,reduceCtorEq,W5] at h
    subst h
    match ds,vs,hr,hf with
    | [x],[v],hr,hf=>exact⟨x,v,rfl,rfl,hr.1,hf.1⟩
   simp only[gn] at h
   split at h
   ·rename_i hu
    obtain⟨x,v,rfl,rfl,h1,h2⟩:=one h
    cases h1<;>simp[bU] at h2
    simp[Program.keyLits,hu,k7]
   ·rename_i q hu
    obtain⟨x,v,rfl,rfl,h1,h2⟩:=one h
    cases h1<;>simp[bU] at h2
    rename_i k n hin
    subst h2
    have hwf:(Lit.int k n).wf=true:=by simp[Lit.wf,hin.1,hin.2]
    simp[Program.keyLits,hu,k7,hwf]
   ·rename_i hu
    obtain⟨x,v,rfl,rfl,h1,h2⟩:=one h
    cases h1<;>simp[bU] at h2
    rename_i s hs
    have:s.toArray.size≤maxLen:=by simp[maxLen];omega
    have hsz:(ByteArray.mk s.toArray).size≤maxLen:=this
    simp[Program.keyLits,hu,k7,hsz]
   ·rename_i n e hu
    split at h<;>(try (simp at h;done))
    rename_i k' hk
    cases hb:Nat.beq (n*k'.length) (P.cellsOf t)<;>simp only[hb,Yf,Ye,reduceCtorEq,W5] at h
    subst h
    have hce:=k9 d hk
    have hn:=W4 hb
    simp only[Program.keyLits,hu]
    rw[if_pos (by omega),← hce]
    have hds:ds.length=n*k'.length:=by omega
    rw[zc (g:=fun i=>((ds.drop (i*k'.length)).take k'.length).map k7) fun i hi=>?_]
    ·simp only[Option.map_some,W5]
     have:=uc (m:=k'.length) (n:=n) (l:=ds.map k7) (by simpa using hds)
     rw[← this]
     congr 1
     refine List.map_congr_left fun i _=>?_
     rw[List.map_take,List.map_drop]
    ·simp only[List.mem_range] at hi
     refine iJ d hk ((hr.drop _).take _) ?_
     have hx:((List.replicate n k').flatten.drop (i*k'.length)).take k'.length=k':=by
      have h3:=fun (j:Nat)=>fg (k:=k'.length) (xs:=List.replicate n k') (i:=i) (j:=j) (x:=k') (fun x hx=>by rw[XQ hx])
      refine List.ext_getElem? fun j=>?_
      rw[XH]
      split
      ·rename_i hj
       rw[XC]
       exact h3 j (by simp[hi]) hj
      ·rename_i hj
       rw[List.getElem?_eq_none (by omega)]
     have:=(hf.drop (i*k'.length)).take k'.length
     rw[hx] at this
     exact this
   ·rename_i fs hu
    split at h<;>(try (simp at h;done))
    rename_i l hl
    cases hb:Nat.beq l.length (P.cellsOf t)<;>simp only[hb,Yf,Ye,reduceCtorEq,W5] at h
    subst h
    -- the fields, one behind the other
    have key:∀ (gs:List Field) (off:Nat) (l:List KK) (ds:List D) (vs0 vs:List Value),qb (gn P d) off gs=some l→vs0.length=off→All2 (Rep σ) ds vs→All2 bU l ds →
      gs.all (·.name != "_") = true ∧ ∃ Ls : List (List Lit), gs.mapM (fun f => P.keyLits d f.type (((vs0 ++ vs).drop f.offset).take (P.cellsOf f.type))) = some Ls ∧ Ls.flatten = ds.map k7 := by
     intro gs
     induction gs with
     | nil =>
       intro off l ds vs0 vs hs _ hr hf
       simp only[qb,W5] at hs;subst hs
       have:ds=[]:=by cases ds with
        | nil=>rfl
        | cons _ _=>exact hf.elim
       subst this
       exact⟨rfl,[],rfl,rfl⟩
     | cons f r ih =>
       intro off l ds vs0 vs hs h0 hr hf
       simp only[qb] at hs
       split at hs<;>(try (simp at hs;done))
       rename_i k' hk
       cases hb : Nat.beq f.offset off && (f.name != "_") <;> simp only [hb, Yf, Ye, reduceCtorEq] at hs
       rw[WX] at hb
       have hoff:=W4 hb.1
       split at hs<;>simp at hs
       rename_i l' hl'
       subst hs
       have hce:=k9 d hk
       have hfl:=hf.length
       have hrl:=hr.length
       simp only[W9] at hfl
       have hf1:All2 bU k' (ds.take k'.length):=by
        have:=hf.take k'.length
        rwa [List.take_left] at this
       have hf2:All2 bU l' (ds.drop k'.length):=by
        have:=hf.drop k'.length
        rwa [List.drop_left] at this
       have h1:=iJ d hk (hr.take k'.length) hf1
       obtain⟨h2,Ls,h3,h4⟩:=ih (off+k'.length) l' (ds.drop k'.length) (vs0++vs.take k'.length) (vs.drop k'.length) hl' (by simp;omega) (hr.drop _) hf2
       refine⟨by simp only[List.all_cons,hb.2,h2,XV],(ds.take k'.length).map k7::Ls,?_,?_⟩
       ·rw[List.mapM_cons]
        have e1:((vs0++vs).drop f.offset).take (P.cellsOf f.type)=vs.take k'.length:=by
         rw[hoff,← h0,List.drop_left,hce]
        have e2:(vs0++vs.take k'.length)++vs.drop k'.length=vs0++vs:=by rw[X5,X8]
        rw[e2] at h3
        rw[e1,h1,h3]
        rfl
       ·rw[List.flatten_cons,h4,← XB,X8]
    obtain⟨h1,Ls,h2,h3⟩:=key fs.toList 0 l ds [] vs hl rfl hr hf
    simp only[Program.keyLits,hu]
    have hall : fs.all (·.name != "_") = true := by rw [← Array.all_toList]; exact h1
    rw[if_pos ⟨by omega,hall⟩]
    simp only[X3] at h2
    rw[h2]
    simp[h3]
   ·simp at h
end Go.Abs
namespace Go.Abs
open Go
variable {P:Program} {c:Ctx} {T:Tab} {σ:Sig} {φ:Pl} {w:World}
def FD:KK→D→Bool
 | .int k,.int k' _=>kEq k' k
 | .bool,.bool _=>true
 | .str,.str _=>true
 | _,_=>false
def gm:List KK→List D→Bool
 | [],[]=>true
 | k::ks,d::ds=>FD k d&&gm ks ds
 | _,_=>false
theorem MB{k:KK}{d:D}(h:FD k d=true):bU k d:=by
 cases k<;>cases d<;>simp[FD,bU] at h ⊢
 exact gR h
theorem gH:∀ {ks:List KK} {ds:List D},gm ks ds=true→All2 bU ks ds
 | [],[],_=>trivial
 | _::_,_::_,h=>by
   simp only[gm,WX] at h
   exact⟨MB h.1,gH h.2⟩
 | [],_::_,h=>by simp[gm] at h
 | _::_,[],h=>by simp[gm] at h
def eqD:D→D→Bool
 | .int _ x,.int _ y=>x==y
 | .bool x,.bool y=>x==y
 | .str x,.str y=>x==y
 | _,_=>false
def c9:List D→List D→Bool
 | [],[]=>true
 | x::xs,y::ys=>eqD x y&&c9 xs ys
 | _,_=>false
theorem AT:∀ {ks:List KK} {ds es:List D},All2 bU ks ds→All2 bU ks es→(c9 ds es=true↔ds.map k7=es.map k7)
 | [],[],[],_,_=>by simp[c9]
 | k::ks,d::ds,e::es,h,h'=>by
   have ih:=AT h.2 h'.2
   have h1:=h.1
   have h2:=h'.1
   simp only[c9,WX,XK,List.cons.injEq,ih]
   refine and_congr_left fun _=>?_
   cases k<;>cases d<;>simp only[bU] at h1<;>cases e<;>simp only[bU] at h2<;>simp[eqD,k7,h1,h2]
 | [],_::_,_,h,_=>h.elim
 | _::_,[],_,h,_=>h.elim
 | [],[],_::_,_,h=>h.elim
 | _::_,_::_,[],_,h=>h.elim
def k8(P:Program)(t:TypeId):Bool:=match P.underlying t with|some (.struct _)|some (.array _ _)=>true|_=>false
abbrev uL:=List (Nat×List KK)
structure EOk (P:Program) (t:TypeId) (ks:List KK):Prop where
 shape:gn P 6 t=some ks
 key:P.keyTypeAt 6 t=true
 agg:k8 P t=true
 guard:P.eqGuardType P.depth t=false
def AU(P:Program)(E:uL):Prop:=∀ t ks,look E t=some ks→EOk P t ks
theorem vS{t:TypeId}{ks:List KK}(h:EOk P t ks){vs:List Value}(hl:vs.length=ks.length):(Value.agg vs.toArray).formed P t=true:=by
 have hs:=k9 6 h.shape
 have ha:=h.agg
 unfold k8 at ha
 unfold Value.formed
 split at ha<;>simp_all
theorem yT{t:TypeId}{ks:List KK}(h:EOk P t ks){ds es:List D}{vs us:List Value}(h1:All2 (Rep σ) ds vs)(h2:All2 (Rep σ) es us)(f1:All2 bU ks ds)(f2:All2 bU ks es)(w:World) :
  (Op.equalIn 10000 t (.agg vs.toArray) (.agg us.toArray)).run P w=.ok (c9 ds es) w:=by
 have l1:=h1.length
 have l2:=h2.length
 have l3:=f1.length
 have l4:=f2.length
 obtain⟨r,hr,hiff⟩:=run_equalIn_deep 9994 6 t h.key w 6 6 _ _ _ _ (vS h (vs:=vs) (by omega)) (vS h (vs:=us) (by omega)) (iJ 6 h.shape h1 f1) (iJ 6 h.shape h2 f2)
 have:r=c9 ds es:=by
  have h3:=AT f1 f2
  cases r<;>cases he:c9 ds es<;>simp_all
 rw[← this]
 exact hr
def JL(E:uL)(t:TypeId):Option AV→Option AV→Option Bool
 | some (.agg c1),some (.agg c2)=>match look E t,gf c1,gf c2 with
   | some ks,some ds,some es=>bif gm ks ds&&gm ks es then some (c9 ds es) else none
   | _,_,_=>none
 | _,_=>none
def jI:BinOp→Option Bool
 | .eql=>some true
 | .neq=>some false
 | _=>none
theorem HC{E:uL}(hE:AU P E){ops:Array Oper}{o:Oper}{rest:List Oper}{st:St}{K:St→Prop}{op:BinOp}{t ty:TypeId}{x y:Operand}{b e:Bool}
  (ho:o.op=.binOp op t x y ty) (hop:jI op=some e) (hg:o.guard=none) (hd:aX c.n o.dst=true) (hv:JL E t (ev st x) (ev st y)=some b)
  (h:aa P c ops rest ⟨bI o.dst (.one (.d (.bool (b==e)))) st.fr,st.sto⟩ K):aa P c ops (o::rest) st K :=
 bu hg fun a w σ φ hr=>by
  unfold JL at hv
  split at hv<;>(try (simp at hv;done))
  rename_i c1 c2 hx hy
  split at hv<;>(try (simp at hv;done))
  rename_i ks ds es hl h1 h2
  cases hb:gm ks ds&&gm ks es<;>simp only[hb,Yf,Ye,reduceCtorEq,W5] at hv
  subst hv
  rw[WX] at hb
  have hk:=hE t ks hl
  obtain rfl:=lR h1
  obtain rfl:=lR h2
  obtain⟨vs,hvs,r1⟩:=aD hr hx
  obtain⟨us,hus,r2⟩:=aD hr hy
  have heq:=yT hk (oF r1) (oF r2) (gH hb.1) (gH hb.2) w
  have hgd:=run_eqGuard_agg (P:=P) (w:=w) op t x y vs.toArray us.toArray hk.guard
  refine⟨.bool (c9 ds es==e),w,_,σ,φ,?_,hr.put (v:=.one (.d (.bool (c9 ds es==e)))) hd (RepC.d .bool),h⟩
  cases op<;>simp only[jI,W5,reduceCtorEq] at hop<;>subst hop
  ·simp only[execOp,ho,hvs,hus,Xl,hgd,Xb,run_eql_struct,heq,Xt]
   simp
  ·simp only[execOp,ho,hvs,hus,Xl,hgd,Xb,run_neq_struct,heq,Xt]
   simp
end Go.Abs
namespace Go.Abs
open Go
variable {P:Program} {c:Ctx} {T:Tab} {σ:Sig} {φ:Pl} {w:World}
structure KOk (P:Program) (t:TypeId) (kg:Bool) (ks:List KK):Prop where
 shape:gn P 6 t=some ks
 key:P.keyTypeAt 6 t=true
 agg:k8 P t=kg
theorem BK{k:KK}{d e:D}{v u:Value}(hd:bU k d)(he:bU k e)(hv:Rep σ d v)(hu:Rep σ e u):(eqD d e=true↔v=u):=by
 cases k<;>cases d<;>simp only[bU] at hd<;>cases e<;>simp only[bU] at he<;>cases hv<;>cases hu<;>simp[eqD,hd,he]
theorem zl:∀ {ks:List KK} {ds es:List D} {vs us:List Value},All2 bU ks ds→All2 bU ks es→All2 (Rep σ) ds vs→All2 (Rep σ) es us→(c9 ds es=true↔vs=us)
 | [],[],[],[],[],_,_,_,_=>by simp[c9]
 | k::ks,d::ds,e::es,v::vs,u::us,h1,h2,h3,h4=>by
   simp only[c9,WX,List.cons.injEq,BK h1.1 h2.1 h3.1 h4.1,zl h1.2 h2.2 h3.2 h4.2]
 | [],_::_,_,_,_,h,_,_,_=>h.elim
 | _::_,[],_,_,_,h,_,_,_=>h.elim
 | [],[],_::_,_,_,_,h,_,_=>h.elim
 | _::_,_::_,[],_,_,_,h,_,_=>h.elim
 | [],[],[],_::_,_,_,_,h,_=>h.elim
 | _::_,_::_,_::_,[],_,_,_,h,_=>h.elim
 | [],[],[],[],_::_,_,_,_,h=>h.elim
 | _::_,_::_,_::_,_::_,[],_,_,_,h=>h.elim
def cO(kd:List D):List (List D×List D)→Nat→Option (Nat×List D)
 | [],_=>none
 | (k,v)::r,i=>bif c9 kd k then some (i,v) else cO kd r (i+1)
theorem js{ds:List D}{v:Value}(h:RepD σ true ds v):∃ vs:List Value,v=.agg vs.toArray∧All2 (Rep σ) ds vs:=h
theorem jt{ds:List D}{v:Value}(h:RepD σ false ds v):∃ d,ds=[d]∧Rep σ d v:=by
 match ds,h with
 | [d],h=>exact⟨d,rfl,h.1⟩
 | [],h=>exact h.elim
 | _::_::_,h=>exact h.2.elim
theorem qn{t:TypeId}{ks:List KK}(hE:EOk P t ks){vg:Bool}{kd:List D}{kv:Value}(hk:RepD σ true kd kv)(hf:All2 bU ks kd)(w:World) :
  ∀ {es:List (List D×List D)} {ents:List MapEntry} {i n:Nat},RepE σ true vg n es ents→(∀ p∈es,All2 bU ks p.1) →
    (cO kd es i=none∧(Instr.findAsking t kv ents i).run P w=.ok none w)∨∃ j e vd,cO kd es i=some (i+j,vd)∧(Instr.findAsking t kv ents i).run P w=.ok (some (i+j,e.val)) w∧ents[j]?=some e∧RepD σ vg vd e.val
 | [],[],i,n,_,_=>.inl ⟨rfl,by simp[Instr.findAsking]⟩
 | p::es,e::ents,i,n,h,hall=>by
   obtain⟨h1,h2,h3,h4⟩:=h
   obtain⟨kvs,rfl,hkr⟩:=js hk
   obtain⟨evs,hev,her⟩:=js h1
   have heq:=yT hE hkr her hf (hall p Xd) w
   have heq':(Op.equal t (.agg kvs.toArray) e.key).run P w=.ok (c9 kd p.1) w:=by
    rw[hev];exact heq
   cases hb:c9 kd p.1 with
   | true =>
     refine .inr ⟨0,e,p.2,?_,?_,rfl,h2⟩
     ·simp only[cO,hb,Yf,Nat.add_zero]
     ·rw[hb] at heq'
      simp[Instr.findAsking,heq']
   | false =>
     rw[hb] at heq'
     rcases qn hE hk hf w (i:=i+1) h4 (fun q hq=>hall q (Xa _ hq)) with⟨h5,h6⟩|⟨j,e',vd,h5,h6,h7,h8⟩
     ·refine .inl ⟨?_,?_⟩
      ·simp only[cO,hb,Ye];exact h5
      ·simp[Instr.findAsking,heq',h6]
     ·refine .inr ⟨j+1,e',vd,?_,?_,by simpa using h7,h8⟩
      ·simp only[cO,hb,Ye];rw[h5,show i+1+j=i+(j+1) by omega]
      ·simp[Instr.findAsking,heq',h6];omega
 | [],_::_,_,_,h,_=>h.elim
 | _::_,[],_,_,h,_=>h.elim
end Go.Abs
namespace Go.Abs
open Go
variable {P:Program} {c:Ctx} {T:Tab} {σ:Sig} {φ:Pl} {w:World}
def pa:KK→TypeDesc
 | .int k=>.int k
 | .bool=>.bool
 | .str=>.string
theorem DJ{k:KK}{d e:D}{v u:Value}(hd:bU k d)(he:bU k e)(hv:Rep σ d v)(hu:Rep σ e u):Instr.sameNow (pa k) v u=some (eqD d e):=by
 cases k<;>cases d<;>simp only[bU] at hd<;>cases e<;>simp only[bU] at he<;>cases hv<;>cases hu
 ·subst hd;subst he;simp[pa,Instr.sameNow,eqD]
 ·simp[pa,Instr.sameNow,eqD]
 ·rename_i s s' _ _
  simp only[pa,Instr.sameNow,eqD,W5]
  have h1:(((⟨s.toArray⟩:ByteArray)==⟨s'.toArray⟩)=true)↔((s==s')=true):=by
   rw[MapKept.bytes_beq];simp
  exact XR.2 h1
theorem uo{k:KK}{vg:Bool}{d:D}{kv:Value}(hk:Rep σ d kv)(hf:bU k d) :
  ∀ {es:List (List D×List D)} {ents:List MapEntry} {i n:Nat},RepE σ false vg n es ents→(∀ p∈es,All2 bU [k] p.1) →
    (cO [d] es i=none∧Instr.findNow (pa k) kv ents i=some none)∨∃ j e vd,cO [d] es i=some (i+j,vd)∧Instr.findNow (pa k) kv ents i=some (some (i+j,e.val))∧ents[j]?=some e∧RepD σ vg vd e.val
 | [],[],i,n,_,_=>.inl ⟨rfl,rfl⟩
 | p::es,e::ents,i,n,h,hall=>by
   obtain⟨h1,h2,h3,h4⟩:=h
   obtain⟨d',hd',her⟩:=jt h1
   have hp:=hall p Xd
   rw[hd'] at hp
   have heq:=DJ hf hp.1 hk her
   have hcmp:c9 [d] p.1=eqD d d':=by rw[hd'];simp[c9]
   cases hb:eqD d d' with
   | true =>
     refine .inr ⟨0,e,p.2,?_,?_,rfl,h2⟩
     ·simp only[cO,hcmp,hb,Yf,Nat.add_zero]
     ·rw[hb] at heq
      simp only[Instr.findNow,heq,Nat.add_zero]
   | false =>
     rw[hb] at heq
     rcases uo hk hf (i:=i+1) h4 (fun q hq=>hall q (Xa _ hq)) with⟨h5,h6⟩|⟨j,e',vd,h5,h6,h7,h8⟩
     ·refine .inl ⟨?_,?_⟩
      ·simp only[cO,hcmp,hb,Ye];exact h5
      ·simp only[Instr.findNow,heq];exact h6
     ·refine .inr ⟨j+1,e',vd,?_,?_,by simpa using h7,h8⟩
      ·simp only[cO,hcmp,hb,Ye];rw[h5,show i+1+j=i+(j+1) by omega]
      ·simp only[Instr.findNow,heq];rw[h6,show i+1+j=i+(j+1) by omega]
 | [],_::_,_,_,h,_=>h.elim
 | _::_,[],_,_,h,_=>h.elim
end Go.Abs
namespace Go.Abs
open Go
variable {P:Program} {c:Ctx} {T:Tab} {σ:Sig} {φ:Pl} {w:World}
def KeyOk(P:Program)(t:TypeId)(kg:Bool)(ks:List KK):Prop :=
 gn P 6 t=some ks∧P.keyTypeAt 6 t=true∧k8 P t=kg∧P.eqGuardType P.depth t=false∧(kg=false→∃ k,ks=[k]∧P.underlying t=some (pa k))
theorem KeyOk.eok{t:TypeId}{ks:List KK}(h:KeyOk P t true ks):EOk P t ks:=⟨h.1,h.2.1,h.2.2.1,h.2.2.2.1⟩
theorem IE{g:Bool}{ds:List D}{v:Value}(h:RepD σ g ds v):All2 (Rep σ) ds v.cells.toList:=by
 cases g with
 | true =>
   obtain⟨vs,rfl,h1⟩:=js h
   simpa[Value.cells] using h1
 | false =>
   obtain⟨d,rfl,h1⟩:=jt h
   have h2:=h1.oneCell
   have:v.cells.toList=[v]:=by
    cases v<;>first|rfl|simp[Value.oneCell] at h2
   rw[this]
   exact⟨h1,trivial⟩
theorem om{t:TypeId}{kg:Bool}{ks:List KK}(h:KeyOk P t kg ks){kd:List D}{kv:Value}(hk:RepD σ kg kd kv)(hf:All2 bU ks kd)(em:Bool)(w:World):(Instr.checkKey em 10000 t kv).run P w=.ok () w:=by
 obtain⟨h1,h2,h3,_⟩:=h
 refine run_checkKey_deep em 9994 6 t h2 w 6 kv _ ?_ (iJ 6 h1 (IE hk) hf)
 cases kg with
 | true =>
   obtain⟨vs,rfl,hr⟩:=js hk
   have l1:=hr.length
   have l2:=hf.length
   have hs:=k9 6 h1
   unfold k8 at h3
   unfold Value.formed
   split at h3<;>simp_all
 | false =>
   obtain⟨d,rfl,hr⟩:=jt hk
   unfold k8 at h3
   match ks,hf with
   | [k],hf =>
     have hk1:=hf.1
     cases k<;>cases d<;>simp only[bU] at hk1<;>cases hr<;>simp only[Value.formed]<;>(split<;>simp_all)
theorem pD{t:TypeId}{kg vg:Bool}{ks:List KK}(h:KeyOk P t kg ks){kd:List D}{kv:Value}(hk:RepD σ kg kd kv)(hf:All2 bU ks kd)(w:World){es:List (List D×List D)}{ents:List MapEntry}{n:Nat}
  (hr:RepE σ kg vg n es ents) (hall:∀ p∈es,All2 bU ks p.1) :
  (cO kd es 0=none∧(Instr.findKey t kv ents).run P w=.ok none w)∨∃ j e vd,cO kd es 0=some (j,vd)∧(Instr.findKey t kv ents).run P w=.ok (some (j,e.val)) w∧ents[j]?=some e∧RepD σ vg vd e.val:=by
 cases kg with
 | false =>
   obtain⟨k,rfl,hu⟩:=h.2.2.2.2 rfl
   obtain⟨d,rfl,hkr⟩:=jt hk
   rcases uo hkr hf.1 (i:=0) hr hall with⟨h1,h2⟩|⟨j,e,vd,h1,h2,h3,h4⟩
   ·exact .inl ⟨h1,by simp[Instr.findKey,Ym hu,h2]⟩
   ·rw[Xp] at h1 h2
    exact .inr ⟨j,e,vd,h1,by simp[Instr.findKey,Ym hu,h2],h3,h4⟩
 | true =>
   have hE:=h.eok
   have hu:∃ u,P.underlying t=some u∧dI u=true:=by
    have:=hE.agg
    unfold k8 at this
    split at this<;>(try (simp at this;done))<;>exact⟨_,by assumption,rfl⟩
   obtain⟨u,hu,hua⟩:=hu
   have hnow:Instr.findNow u kv ents 0=some none∧ents=[]∨Instr.findNow u kv ents 0=none:=by
    cases ents with
    | nil=>exact .inl ⟨rfl,rfl⟩
    | cons e r =>
      refine .inr ?_
      have:Instr.sameNow u kv e.key=none:=by cases u<;>simp[dI] at hua<;>rfl
      simp only[Instr.findNow,this]
   rcases qn hE hk hf w (i:=0) hr hall with⟨h1,h2⟩|⟨j,e,vd,h1,h2,h3,h4⟩
   ·refine .inl ⟨h1,?_⟩
    rcases hnow with⟨hn,_⟩|hn
    ·simp[Instr.findKey,Ym hu,hn]
    ·simp[Instr.findKey,Ym hu,hn,h2]
   ·rw[Xp] at h1 h2
    refine .inr ⟨j,e,vd,h1,?_,h3,h4⟩
    rcases hnow with⟨_,rfl⟩|hn
    ·simp at h3
    ·simp[Instr.findKey,Ym hu,hn,h2]
end Go.Abs
namespace Go.Abs
open Go
variable {P:Program} {c:Ctx} {T:Tab} {σ:Sig} {φ:Pl} {w:World}
theorem Ad{ops:Array Oper}{o:Oper}{rest:List Oper}{st:St}{K:St→Prop}{d id:Nat}{t:TypeId}(kg vg:Bool)(ho:o.op=.makeMap t none)(hg:o.guard=none)(hdst:o.dst=some d)(hd:(Nat.blt d c.n&&Nat.blt id 1000000)=true)
  (hm1:br id st.fr=false) (hm2:aN id st.sto=false)
  (h:aa P c ops rest ⟨(d,.one (.mapr id))::st.fr,(id,.map kg vg [])::st.sto⟩ K):aa P c ops (o::rest) st K :=
 bu hg fun a w σ φ hr=>by
  have hobj:ObjRep σ (cq φ id (some (w.heap.size,0))) ((id,.map kg vg [])::st.sto) (w.alloc (.map #[] 0)) id (.map kg vg []) :=
   ⟨w.heap.size,0,[],az,da w _,trivial,jK hr.inv⟩
  refine⟨.map (some w.heap.size),w.alloc (.map #[] 0),_,σ,cq φ id (some (w.heap.size,0)),?_,?_,h⟩
  ·simp[execOp,ho,Instr.makeMap]
  rw[hdst]
  simp only[WX] at hd
  have hd':aX c.n (some d)=true:=hd.1
  refine hr.putTo (dst:=some d) (st':=⟨st.fr,(id,.map kg vg [])::st.sto⟩) hd' hr.le hr.fresh (hr.inv.add hm2 hobj) ?_ (hr.fra.alloc _) (fun i hi=>by
   have:i≠id:=by have:=W6 hd.2;omega
   rw[aL this];exact hr.pin i hi) (fun _=>RepC.mapr (cap:=0) aH az) ?_
  ·intro i e p hi hp
   rcases ah hi with⟨rfl,rfl⟩|⟨hne,hi⟩
   ·rw[az] at hp;cases hp;exact .inl hr.fra.size
   ·rw[aL hne] at hp;exact hr.mine _ _ _ hi hp
  ·intro s x _ hx
   exact⟨x,hx,fun z hz=>hz.ext (Sig.le_refl _) Ext.add fun j hj=>by cases hj;exact dP hm1 hx⟩
def JU(g:Bool)(ds:List D):Option (Bool×List AC):=match g,ds with
 | true,ds=>some (true,ds.map .d)
 | false,[d]=>some (false,[.d d])
 | _,_=>none
theorem JV{g:Bool}{ds:List D}{v:Value}{p:Bool×List AC}{sto:Sto}(h:JU g ds=some p)(hr:RepD σ g ds v):RepT σ φ sto p v:=by
 unfold JU at h
 split at h<;>simp at h<;>subst h
 ·obtain⟨vs,rfl,h1⟩:=js hr
  refine⟨vs,rfl,?_⟩
  have:∀ {ds:List D} {vs:List Value},All2 (Rep σ) ds vs→All2 (RepC σ φ sto) (ds.map .d) vs:=by
   intro ds
   induction ds with
   | nil=>intro vs h;cases vs with
     | nil=>trivial
     | cons _ _=>exact h.elim
   | cons d ds ih=>intro vs h;cases vs with
     | nil=>exact h.elim
     | cons v vs=>exact⟨.d h.1,ih h.2⟩
  exact this h1
 ·obtain⟨d,e,h1⟩:=jt hr
  cases e
  exact⟨.d h1,trivial⟩
end Go.Abs
namespace Go.Abs
open Go
variable {P:Program} {c:Ctx} {T:Tab} {σ:Sig} {φ:Pl} {w:World}
structure MTy where
 kt:TypeId
 et:TypeId
 kg:Bool
 ks:List KK
 vg:Bool
 z:List D
structure MOk (P:Program) (t:TypeId) (m:MTy):Prop where
 und:P.underlying t=some (.map m.kt m.et)
 key:KeyOk P m.kt m.kg m.ks
 zero:∃ (i:TypeInfo) (zv:Value),P.info? m.et=some i∧i.zero=some zv∧(∀ σ:Sig,RepD σ m.vg m.z zv)
def jB(g:Bool):AV→Option (List D)
 | .one (.d d)=>bif g then none else some [d]
 | .agg cs=>bif g then gf cs else none
 | _=>none
theorem ny{g:Bool}{v:AV}{ds:List D}{sto:Sto}(h:jB g v=some ds){u:Value}(hr:RepV σ φ sto v u):RepD σ g ds u:=by
 unfold jB at h
 split at h
 ·cases g<;>simp at h
  subst h
  exact⟨RepC.d_inv hr,trivial⟩
 ·cases g<;>simp only[Yf,Ye,reduceCtorEq] at h
  obtain rfl:=lR h
  obtain⟨vs,rfl,h1⟩:=hr
  exact⟨vs,rfl,oF h1⟩
 ·simp at h
def fM(ks:List KK):List (List D×List D)→Bool
 | []=>true
 | p::r=>gm ks p.1&&fM ks r
theorem jT{ks:List KK}:∀ {es:List (List D×List D)},fM ks es=true→∀ p∈es,All2 bU ks p.1
 | [],_,p,h=>by simp at h
 | q::r,h,p,hp=>by
   simp only[fM,WX] at h
   rcases Xo.1 hp with rfl|hp
   ·exact gH h.1
   ·exact jT h.2 p hp
def WO:Bool×List AC→AV
 | (true,cs)=>.agg cs
 | (false,c::_)=>.one c
 | (false,[])=>.any
def sS(g:Bool)(ds:List D)(b ok:Bool):Option AV :=
 match JU g ds with
 | none=>none
 | some p=>some (bif ok then .tup [p,(false,[.d (.bool b)])] else WO p)
def o6(m:MTy)(es:List (List D×List D))(kd:List D)(ok:Bool):Option AV :=
 match cO kd es 0 with
 | some (_,vd)=>sS m.vg vd true ok
 | none=>sS m.vg m.z false ok
theorem Dh{g b ok:Bool}{ds:List D}{v:AV}{sto:Sto}(h:sS g ds b ok=some v){u:Value}(hr:RepD σ g ds u) :
  RepV σ φ sto v (if ok then .tuple #[u,.bool b] else u):=by
 unfold sS at h
 split at h<;>simp at h
 rename_i p hp
 subst h
 have h1:RepT σ φ sto p u:=JV hp hr
 cases ok with
 | true=>exact⟨[u,.bool b],rfl,h1,⟨RepC.d .bool,trivial⟩,trivial⟩
 | false =>
   simp only[Ye,XD,if_false]
   obtain⟨g',cs⟩:=p
   cases g' with
   | true=>exact h1
   | false =>
     match cs,h1 with
     | [c],h1=>exact h1.1
     | [],h1=>exact h1.elim
     | _::_::_,h1=>exact h1.2.elim
theorem Fj{st:St}{a:Act}(hr:Rel c st a w σ φ){x:Operand}{id:Nat}{kg vg:Bool}{es:List (List D×List D)}(hx:ev st x=some (.one (.mapr id)))(hl:look st.sto id=some (.map kg vg es)) :
  ∃ (B cap:Nat) (ents:List MapEntry),a.eval x=.map (some B)∧φ id=some (B,cap)∧w.heap[B]?=some (.map ents.toArray es.length)∧RepE σ kg vg 0 es ents∧σ B=none:=by
 have h1:RepC σ φ st.sto (.mapr id) (a.eval x):=aD hr hx
 generalize hux:a.eval x=ux at h1
 cases h1 with
 | dead hxx _=>simp[bY,cy hl] at hxx
 | mapr hl' hp =>
   rename_i B cap kg' vg' es'
   rw[hl] at hl';cases hl'
   obtain⟨B',c',ents,hp',hh,he,hσ⟩:=hr.inv.obj _ _ hl
   rw[hp] at hp';cases hp'
   exact⟨B,cap,ents,rfl,hp,hh,he,hσ⟩
theorem sR{ops:Array Oper}{o:Oper}{rest:List Oper}{st:St}{K:St→Prop}{t:TypeId}{m:MTy}{x y:Operand}{ok:Bool}{id:Nat}{es:List (List D×List D)}{ky v:AV}{kd:List D}(hM:MOk P t m)
  (ho:o.op=.lookup t x y ok) (hg:o.guard=none) (hd:aX c.n o.dst=true) (hx:ev st x=some (.one (.mapr id))) (hl:look st.sto id=some (.map m.kg m.vg es))
  (hy:ev st y=some ky) (hk:jB m.kg ky=some kd) (hf:gm m.ks kd=true) (hall:fM m.ks es=true) (hv:o6 m es kd ok=some v)
  (h:aa P c ops rest ⟨bI o.dst v st.fr,st.sto⟩ K):aa P c ops (o::rest) st K :=
 bu hg fun a w σ φ hr=>by
  obtain⟨B,cap,ents,hux,hp,hh,he,hσ⟩:=Fj hr hx hl
  have hkr:=ny hk (aD hr hy)
  have hchk:=fun em=>om hM.key hkr (gH hf) em w
  have hget:=MapKept.run_getObj_map (P:=P) hh
  obtain⟨i,zv,hi,hz,hzr⟩:=hM.zero
  have hfin:∃ u,(execOp a.eval o).run P w=.ok (.value u) w∧RepV σ φ st.sto v u:=by
   rcases pD hM.key hkr (gH hf) w he (jT hall) with⟨h1,h2⟩|⟨j,e,vd,h1,h2,h3,h4⟩
   ·simp only[o6,h1] at hv
    refine⟨_,?_,Dh hv (hzr σ)⟩
    simp only[execOp,ho,hux,Instr.lookup,Xl,Ym hM.und,Xb,hget,Xt,hchk,h2,eQ hi hz]
   ·simp only[o6,h1] at hv
    refine⟨_,?_,Dh hv h4⟩
    simp only[execOp,ho,hux,Instr.lookup,Xl,Ym hM.und,Xb,hget,Xt,hchk,h2]
  obtain⟨u,hrun,hru⟩:=hfin
  exact⟨u,w,_,σ,φ,hrun,hr.put hd hru,h⟩
def ig(kd vd:List D):List (List D×List D)→List (List D×List D)
 | []=>[(kd,vd)]
 | p::r=>bif c9 kd p.1 then (p.1,vd)::r else p::ig kd vd r
theorem EB{g:Bool}{ks:List KK}{ds es:List D}{v u:Value}(hf:All2 bU ks ds)(he:All2 bU ks es)(hv:RepD σ g ds v)(hu:RepD σ g es u)(h:c9 ds es=true):v=u:=by
 cases g with
 | true =>
   obtain⟨vs,rfl,h1⟩:=js hv
   obtain⟨us,rfl,h2⟩:=js hu
   rw[(zl hf he h1 h2).1 h]
 | false =>
   obtain⟨d,rfl,h1⟩:=jt hv
   obtain⟨e,rfl,h2⟩:=jt hu
   match ks,hf,he with
   | [k],hf,he =>
     simp only[c9,Bool.and_true] at h
     exact (BK hf.1 he.1 h1 h2).1 h
theorem tn{k:KK}{d:D}{v:Value}(n:Nat)(hf:bU k d)(hv:Rep σ d v):Instr.sameBits n v v=true:=by
 cases k<;>cases d<;>simp only[bU] at hf<;>cases hv<;>cases n<;>simp[Instr.sameBits,MapKept.bytes_beq]
theorem Ai{ks:List KK}(n:Nat):∀ {ds:List D} {vs:List Value},All2 bU ks ds→All2 (Rep σ) ds vs→((vs.zip vs).all fun (x,y)=>Instr.sameBits n x y)=true:=by
 induction ks with
 | nil =>
   intro ds vs h1 h2
   match ds,vs,h1,h2 with
   | [],[],_,_=>rfl
 | cons k ks ih =>
   intro ds vs h1 h2
   match ds,vs,h1,h2 with
   | d::ds,v::vs,h1,h2 =>
     simp only[List.zip_cons_cons,List.all_cons,tn n h1.1 h2.1,Bool.true_and]
     exact ih h1.2 h2.2
theorem rW{g:Bool}{ks:List KK}{ds:List D}{v:Value}(hf:All2 bU ks ds)(hv:RepD σ g ds v):Instr.sameBits 10000 v v=true:=by
 cases g with
 | true =>
   obtain⟨vs,rfl,h1⟩:=js hv
   simp only[Instr.sameBits,beq_self_eq_true,Bool.true_and]
   exact Ai 9999 hf h1
 | false =>
   obtain⟨d,rfl,h1⟩:=jt hv
   match ks,hf with
   | [k],hf=>exact tn _ hf.1 h1
theorem zZ{kg vg:Bool}{kd vd:List D}{kv vv:Value}(hk:RepD σ kg kd kv)(hv:RepD σ vg vd vv):∀ {n i:Nat} {es:List (List D×List D)} {ents:List MapEntry},RepE σ kg vg n es ents→cO kd es i=none →
  RepE σ kg vg n (ig kd vd es) (ents++[{ key:=kv,val:=vv,born:=n+es.length }])
 | _,_,[],[],_,_=>⟨hk,hv,by simp,trivial⟩
 | n,i,p::es,e::ents,h,hf=>by
   simp only[cO] at hf
   cases hb:c9 kd p.1 with
   | true=>simp[hb] at hf
   | false =>
     simp only[hb,Ye] at hf
     have ih:=zZ hk hv (n:=n+1) h.2.2.2 hf
     simp only[ig,hb,Ye,XL,Xq]
     rw[show n+(es.length+1)=n+1+es.length by omega]
     exact⟨h.1,h.2.1,h.2.2.1,ih⟩
 | _,_,[],_::_,h,_=>h.elim
 | _,_,_::_,[],h,_=>h.elim
theorem Di{kd:List D}:∀ {es:List (List D×List D)} {i p:Nat} {v:List D},cO kd es i=some (p,v)→i≤p
 | [],_,_,_,h=>by simp[cO] at h
 | q::r,i,p,v,h=>by
   simp only[cO] at h
   cases hb:c9 kd q.1 with
   | true=>simp[hb] at h;omega
   | false=>simp only[hb,Ye] at h;have:=Di h;omega
theorem z1{kg vg:Bool}{ks:List KK}{kd vd:List D}{kv vv:Value}(hfk:All2 bU ks kd)(hk:RepD σ kg kd kv)(hv:RepD σ vg vd vv):∀ {n i j:Nat} {es:List (List D×List D)} {ents:List MapEntry} {v0:List D},RepE σ kg vg n es ents →
  (∀ p∈es,All2 bU ks p.1)→cO kd es i=some (i+j,v0)→∃ e,ents[j]?=some e∧e.key=kv∧RepE σ kg vg n (ig kd vd es) (ents.modify j fun e=>{ e with key:=kv,val:=vv })
 | _,_,_,[],[],_,_,_,hf=>by simp[cO] at hf
 | n,i,j,p::es,e::ents,v0,h,hall,hf=>by
   simp only[cO] at hf
   cases hb:c9 kd p.1 with
   | true =>
     simp only[hb,Yf,W5,XJ] at hf
     obtain rfl:j=0:=by omega
     have hke:=EB hfk (hall p Xd) hk h.1 hb
     refine⟨e,rfl,hke.symm,?_⟩
     simp only[ig,hb,Yf,List.modify_zero_cons]
     exact⟨by rw[hke];exact h.1,hv,h.2.2.1,h.2.2.2⟩
   | false =>
     simp only[hb,Ye] at hf
     have hge:=Di hf
     obtain⟨j,rfl⟩:∃ j',j=j'+1:=⟨j-1,by omega⟩
     obtain⟨e',h1,h2,h3⟩:=z1 hfk hk hv (n:=n+1) (i:=i+1) (j:=j) h.2.2.2 (fun q hq=>hall q (Xa _ hq)) (by rw[hf];congr 2;omega)
     refine⟨e',by simpa using h1,h2,?_⟩
     simp only[ig,hb,Ye,List.modify_succ_cons]
     exact⟨h.1,h.2.1,h.2.2.1,h3⟩
 | _,_,_,[],_::_,_,h,_,_=>h.elim
 | _,_,_,_::_,[],_,h,_,_=>h.elim
theorem vJ{kd vd:List D}:∀ {es:List (List D×List D)} {i:Nat},(cO kd es i=none→(ig kd vd es).length=es.length+1)∧(cO kd es i≠none→(ig kd vd es).length=es.length)
 | [],i=>by simp[cO,ig]
 | p::r,i=>by
   have ih:=vJ (kd:=kd) (vd:=vd) (es:=r) (i:=i+1)
   simp only[cO,ig]
   cases hb:c9 kd p.1 with
   | true=>simp
   | false =>
     simp only[Ye,Xq]
     exact⟨fun h=>by rw[ih.1 h],fun h=>by rw[ih.2 h]⟩
theorem Rel.writeO{st:St}{a:Act}{w':World}(h:Rel c st a w σ φ){id B cap:Nat}{o o':AObj}(hl:look st.sto id=some o)(hp:φ id=some (B,cap))
  (hw:∀ b,b≠B→w'.heap[b]?=w.heap[b]?) (hsz:w.heap.size≤w'.heap.size∧w.drawn≤w'.drawn) (hos:w'.os=w.os) (htape:w'.tape=w.tape) (hout:w'.output=w.output)
  (hc:compat o o') (hobj:ObjRep σ φ ((id,o')::st.sto) w' id o') :
  ∃ σ' φ',Rel c ⟨st.fr,cD id o' st.sto⟩ a w' σ' φ':=by
 have hE:Ext (fun _=>False) φ φ st.sto ((id,o')::st.sto):=Ext.upd hl hc
 have hm:=h.mine _ _ _ hl hp
 have h1:Rel c ⟨st.fr,(id,o')::st.sto⟩ a w' σ φ:=by
  refine⟨h.le,h.fresh,h.inv.set hl hp ((h.inv.obj _ _ hl).sig hp) hw hc hobj,fun i e p hi hpi=>?_,fun s v hv=>?_,h.defers,h.size,?_,h.pin⟩
  ·rcases ah hi with⟨rfl,rfl⟩|⟨_,hi⟩
   ·rw[hp] at hpi;cases hpi;exact hm
   ·exact h.mine _ _ _ hi hpi
  ·obtain⟨u,hu,hru⟩:=h.slot s v hv
   exact⟨u,hu,hru.ext (Sig.le_refl _) hE fun j hj=>by cases hj⟩
  ·refine⟨hos.trans h.fra.os,htape.trans h.fra.tape,hout.trans h.fra.output,Xg h.fra.size hsz.1,Xg h.fra.drawn hsz.2,fun b hb hM=>?_⟩
   have:b≠B:=by
    rintro rfl
    rcases hm with hm|hm
    ·simp only at hm;omega
    ·exact hM hm
   rw[hw b this]
   exact h.fra.block b hb hM
 exact pX (fun i=>dq) a _ σ φ h1
theorem o7{ops:Array Oper}{o:Oper}{rest:List Oper}{st:St}{K:St→Prop}{t:TypeId}{m:MTy}{x y z:Operand}{id:Nat}{es:List (List D×List D)}{ky vl:AV}{kd vd:List D}(hM:MOk P t m)
  (ho:o.op=.mapUpdate t x y z) (hg:o.guard=none) (hdst:o.dst=none) (hx:ev st x=some (.one (.mapr id))) (hl:look st.sto id=some (.map m.kg m.vg es))
  (hy:ev st y=some ky) (hk:jB m.kg ky=some kd) (hf:gm m.ks kd=true) (hall:fM m.ks es=true) (hz:ev st z=some vl) (hv:jB m.vg vl=some vd)
  (h:aa P c ops rest ⟨st.fr,cD id (.map m.kg m.vg (ig kd vd es)) st.sto⟩ K):aa P c ops (o::rest) st K:=by
 refine ra hg fun a w σ φ hr=>?_
 obtain⟨B,cap,ents,hux,hp,hh,he,hσ⟩:=Fj hr hx hl
 have hkr:=ny hk (aD hr hy)
 have hvr:=ny hv (aD hr hz)
 have hchk:=fun em=>om hM.key hkr (gH hf) em w
 have hget:=MapKept.run_getObj_map (P:=P) hh
 have hset:=fun o=>MapKept.run_setObj_map (P:=P) o hh
 have hlt:B<w.heap.size:=(Xm.1 hh).1
 have fin:∀ (ents':List MapEntry),RepE σ m.kg m.vg 0 (ig kd vd es) ents' →
   ∃ σ' φ',Rel c ⟨st.fr,cD id (.map m.kg m.vg (ig kd vd es)) st.sto⟩ a { w with heap:=w.heap.setIfInBounds B (.map ents'.toArray (ig kd vd es).length) } σ' φ':=by
  intro ents' he'
  refine hr.writeO (o':=.map m.kg m.vg (ig kd vd es)) hl hp (fun b hb=>?_) (by simp) rfl rfl rfl ⟨rfl,rfl⟩ ⟨B,cap,ents',hp,?_,he',hσ⟩
  ·simp[Xu (fun e=>hb e.symm)]
  ·simp[hlt]
 rcases pD hM.key hkr (gH hf) w he (jT hall) with⟨h1,h2⟩|⟨j,e,vd0,h1,h2,h3,h4⟩
 ·have he':=zZ hkr hvr he h1
  rw[Xp] at he'
  obtain⟨σ',φ',hr'⟩:=fin _ he'
  refine⟨_,_,σ',φ',?_,by rw[hdst];exact hr',h⟩
  have hlen:=(vJ (kd:=kd) (vd:=vd) (es:=es) (i:=0)).1 h1
  simp only[execOp,ho,hux,Instr.mapUpdate,Xl,Ym hM.und,Xb,hget,Xt,hchk,h2,hset,hlen,List.push_toArray]
 ·obtain⟨e',h5,h6,h7⟩:=z1 (gH hf) hkr hvr (i:=0) (j:=j) he (jT hall) (by rw[Xp];exact h1)
  rw[h3] at h5;cases h5
  obtain⟨σ',φ',hr'⟩:=fin _ h7
  refine⟨_,_,σ',φ',?_,by rw[hdst];exact hr',h⟩
  have hlen:=(vJ (kd:=kd) (vd:=vd) (es:=es) (i:=0)).2 (by rw[h1];simp)
  have hold:((ents[j]?.map (·.key)).getD (a.eval y))=a.eval y:=by rw[h3];simp[h6]
  have hks:(Instr.keyThatStays (a.eval y) (a.eval y)).run P w=.ok (a.eval y) w:=by
   unfold Instr.keyThatStays
   simp[rW (gH hf) hkr]
  simp only[execOp,ho,hux,Instr.mapUpdate,Xl,Ym hM.und,Xb,hget,Xt,hchk,h2,hset,hlen,List.getElem?_toArray,hold,hks,List.modify_toArray]
end Go.Abs
namespace Go.Abs
open Go
variable {P:Program} {c:Ctx} {T:Tab} {σ:Sig} {φ:Pl} {sto:Sto} {w:World}
structure YieldA (P:Program) (id:Nat) (args:List AV) (sto:Sto) (rav:AV) (rsto:Sto):Prop where
 run:∀ (w:World) (σ:Sig) (φ:Pl) (vs:List Value) (B cp:Nat),HInv σ φ sto w→φ id=some (B,cp)→All2 (RepV σ φ sto) args vs →
  ∃ fn tmps assign body,(Instr.yield B vs.toArray).run P w=.ok (.round B fn tmps assign body) w ∧
    RoundIn Fence.wide 0 P B fn tmps assign body w fun e w'=>∃ v σ' φ',e=.returned v∧RetP rav rsto w σ φ (MOf φ sto) v w' σ' φ'
theorem jn{c:Ctx}(h:c.rd=none):fnc c=Fence.wide:=by
 unfold fnc;rw[h];rfl
theorem zt{a:Act}{o:Oper}{fop:Operand}{args:Array Operand}{ats:Array TypeId}{B:Nat}{nx:Next}(ho:o.op=.call { callee:=.value fop,args:=args,argTypes:=ats })
  (hf:a.eval fop=.func (.yield B) #[] #[]) (h:(Instr.yield B (args.toList.map a.eval).toArray).run P w=.ok nx w):(execOp a.eval o).run P w=.ok nx w:=by
 have e:(#[]++args.map a.eval)=(args.toList.map a.eval).toArray:=by
  apply Array.ext';simp
 simp only[execOp,ho,resolve,Deferred.ofValue,hf,invoke,Xl,Xt,Xb]
 rw[e,h]
theorem Dt{ops:Array Oper}{o:Oper}{rest:List Oper}{st:St}{K:St→Prop}{fop:Operand}{args:Array Operand}{ats:Array TypeId}{i jd:Nat}{cargs:List AV}{cs rs:Sto}{rav:AV}(k:Nat)(ρ:List (Nat×Nat))
  (hrd:c.rd=none) (ho:o.op=.call { callee:=.value fop,args:=args,argTypes:=ats }) (hg:o.guard=none) (hd:aX c.n o.dst=true) (hf:ev st fop=some (.one (.yl i))) (hj:look ρ jd=some i)
  (ha:evL st args.toList=some (dF (rn k ρ) cargs)) (hY:YieldA P jd cargs cs rav rs) (hpass:Pass st (rn k ρ) ρ cs) (hcomp:CompatL st (rn k ρ) ρ rs)
  (hk:(gG ρ&&jV ρ&&iB cs ρ&&gU ρ&&c7 ρ rs&&dU cs cargs&&bt cs cs&&dG rs rav&&bt rs rs&&Nat.ble (k+16) 1000000)=true) (hfresh:lz k st)
  (h:aa P c ops rest ⟨bI o.dst (eC (rn k ρ) rav) st.fr,eL (rn k ρ) (gT ρ st.sto) rs⟩ K):aa P c ops (o::rest) st K:=by
 intro a w σ φ Q hr hQ
 have hk':=hk
 simp only[WX,Nat.ble_eq] at hk'
 obtain⟨⟨⟨⟨⟨⟨⟨⟨⟨hbig,hinj⟩,hall⟩,hnd⟩,hko⟩,hai⟩,hci⟩,hri⟩,hrs⟩,hkl⟩:=hk'
 obtain⟨oj,hoj⟩:=jq (wV hall hj)
 obtain⟨i',h1,h2⟩:=hpass.look hoj
 rw[hj] at h1;cases h1
 have hfr:RepC σ φ st.sto (.yl i) (a.eval fop):=aD hr hf
 generalize hfe:a.eval fop=fv at hfr
 cases hfr with
 | dead hxx _=>simp[bY,cy h2] at hxx
 | yl hl hp =>
   rename_i B cap li fr s p
   obtain⟨fn,tmps,assign,body,hy,hR⟩:=hY.run w σ (phC φ ρ) _ B cap (Ci hbig hinj hpass hci hr.inv) ((fW hj).trans hp) (unL hbig hpass hai (iT hr ha))
   refine wpListIn_plain hg fun K' hK=>⟨fun f _=>iL c f,?_⟩
   rw[jx (by simp) (zt ho hfe hy),Oper.uponIn_round,jn hrd]
   refine⟨fun h=>by simp[Fence.wide] at h,hR.mono fun e w' he=>?_⟩
   obtain⟨v,σ',φ',rfl,hret⟩:=he
   obtain⟨σ2,φ2,h3,_⟩:=ym k ρ hr hd hpass hcomp hk hfresh hret
   exact hK _ _ (h _ _ _ _ _ h3 hQ)
end Go.Abs
namespace Go.Abs
open Go
variable {P:Program} {c:Ctx} {T:Tab} {σ:Sig} {φ:Pl} {sto:Sto} {w:World}
def gX:List Nat→List AV→List (Nat×AV)→List (Nat×AV)
 | p::ps,v::vs,fr=>gX ps vs ((p,v)::fr)
 | _,_,fr=>fr
def ka(n:Nat):List Nat→Bool
 | []=>true
 | p::r=>Nat.blt p n&&ka n r
theorem sf:∀ {ps:List Nat} {args:List AV} {fr:List (Nat×AV)} {vs:List Value} {tmps:Array Value},ka tmps.size ps=true→All2 (RepV σ φ sto) args vs→ps.length=vs.length →
  (∀ s v,look fr s=some v→∃ u,tmps[s]?=some u∧RepV σ φ sto v u) →
  ((ps.zip vs).foldl (fun (t:Array Value) (p:Nat×Value)=>t.setIfInBounds p.1 p.2) tmps).size=tmps.size ∧
  ∀ s v,look (gX ps args fr) s=some v→∃ u,((ps.zip vs).foldl (fun (t:Array Value) (p:Nat×Value)=>t.setIfInBounds p.1 p.2) tmps)[s]?=some u∧RepV σ φ sto v u
 | [],args,fr,vs,tmps,_,_,_,h=>⟨by simp,by
   intro s v hv
   have:gX [] args fr=fr:=by cases args<;>rfl
   rw[this] at hv
   simpa using h s v hv⟩
 | p::ps,a::args,fr,v::vs,tmps,hb,ha,hl,h=>by
   simp only[ka,WX,Yb] at hb
   simp only[List.zip_cons_cons,List.foldl_cons,gX]
   have ih:=sf (ps:=ps) (args:=args) (fr:=(p,a)::fr) (vs:=vs) (tmps:=tmps.setIfInBounds p v) (by simpa using hb.2) ha.2 (by simpa using hl) (by
    intro s x hx
    rcases ah hx with⟨rfl,rfl⟩|⟨hne,hx⟩
    ·exact⟨v,by simp[hb.1],ha.1⟩
    ·obtain⟨u,hu,hru⟩:=h s x hx
     exact⟨u,by rw[Xu (fun e=>hne e.symm)];exact hu,hru⟩)
   exact⟨by rw[ih.1];simp,ih.2⟩
 | _::_,[],_,_::_,_,_,ha,_,_=>ha.elim
 | _::_,_::_,_,[],_,_,ha,_,_=>ha.elim
 | _::_,[],_,[],_,_,_,hl,_=>by simp at hl
theorem tX{ps:Array Nat}{vs:List Value}{tmps:Array Value} :
  (ps.zip vs.toArray).foldl (fun (t:Array Value) (p:Nat×Value)=>t.setIfInBounds p.1 p.2) tmps=(ps.toList.zip vs).foldl (fun (t:Array Value) (p:Nat×Value)=>t.setIfInBounds p.1 p.2) tmps:=by
 rw[← Array.foldl_toList,Array.toList_zip]
theorem Rel.retP{w:World}{σ:Sig}{φ:Pl}{sto:Sto}{n:Nat}{rd:Option Nat}{mk:List Deferred}{st':St}{a':Act}{w':World}{σ':Sig}{φ':Pl}{rav:AV}{rsto:Sto}{u:Value}
  (hr:Rel ⟨w,σ,φ,MOf φ sto,n,rd,mk⟩ st' a' w' σ' φ') (hru:RepV σ' φ' st'.sto rav u) (hsub:SubL st'.sto rsto):RetP rav rsto w σ φ (MOf φ sto) u w' σ' φ' :=
 ⟨hr.le,hr.fresh,⟨hr.inv.sig,fun i e hi=>(hr.inv.obj _ _ (hsub.look hi)).ext (X:=fun _=>False) (Sig.le_refl _) (Ext.sub hsub) (fun j hj=>hj.elim) rfl fun _ _ _=>⟨rfl,rfl⟩,
  fun i i' e e' p p' hi hi'=>hr.inv.inj _ _ _ _ _ _ (hsub.look hi) (hsub.look hi')⟩,hru.ext (Sig.le_refl _) (Ext.sub hsub) (fun j hj=>hj.elim),
  fun i e p hi hp=>hr.mine _ _ _ (hsub.look hi) hp,hr.pin,⟨hr.fra.os,hr.fra.tape,hr.fra.output,hr.fra.size,hr.fra.drawn,hr.fra.block⟩⟩
def A7:Exit→Option Code
 | .ret=>some .ret
 | .exit id=>some (.exit id)
 | _=>none
def dp(id:Nat)(rav:AV)(rsto:Sto)(e:Exit)(st:St):Prop :=
 ∃ li fr p,look st.sto id=some (.loop li fr .busy p) ∧
   ((e=.normal∧rav=.one (.d (.bool true))∧SubL (cD id (.loop li fr .ready none) st.sto) rsto) ∨
    (∃ j,A7 e=some j∧rav=.one (.d (.bool false))∧SubL (cD id (.loop li fr .done (some j)) st.sto) rsto))
theorem uW{st:St}{a:Act}(hr:Rel c st a w σ φ){id B cp:Nat}{li:LI}{fr:List (Nat×AV)}{s:LoopState}{p:Option Code}(hl:look st.sto id=some (.loop li fr s p))(hp:φ id=some (B,cp)) :
  ∃ r:Loop,w.heap[B]?=some (.loop r)∧(r.state=s∧r.pending=p∧r.params=li.params∧r.assign=li.assign∧r.body=li.body∧r.tmps.size=li.n):=by
 obtain⟨B',c',r,h1,h2,h3,_⟩:=hr.inv.obj _ _ hl
 rw[hp] at h1;cases h1
 exact⟨r,h2,h3⟩
theorem Rel.mark{st:St}{a:Act}(hr:Rel c st a w σ φ){id B cp:Nat}{li:LI}{fr:List (Nat×AV)}{s:LoopState}{p:Option Code}(hl:look st.sto id=some (.loop li fr s p))(hp:φ id=some (B,cp))
  {r:Loop} (hh:w.heap[B]?=some (.loop r)) (s':LoopState) (p':Option Code) (r':Loop) (hr':r'={ r with state:=s',pending:=p' }) :
  ∃ σ' φ',Rel c ⟨st.fr,cD id (.loop li fr s' p') st.sto⟩ a { w with heap:=w.heap.setIfInBounds B (.loop r') } σ' φ':=by
 subst hr'
 obtain⟨B',c',r0,h1,h2,⟨h3,h4,h6,h7,h8,h9⟩,h10,h11⟩:=hr.inv.obj _ _ hl
 rw[hp] at h1;cases h1
 rw[hh] at h2;cases h2
 have hlt:B<w.heap.size:=(Xm.1 hh).1
 have hE:Ext (fun _=>False) φ φ st.sto ((id,.loop li fr s' p')::st.sto):=Ext.upd hl trivial
 refine hr.writeO (o':=.loop li fr s' p') hl hp (fun b hb=>?_) (by simp) rfl rfl rfl trivial ⟨B,cp,{ r with state:=s',pending:=p' },hp,?_,⟨rfl,rfl,h6,h7,h8,h9⟩,fun s v hv=>?_,h11⟩
 ·simp[Xu (fun e=>hb e.symm)]
 ·simp[hlt]
 ·obtain⟨u,hu,hru⟩:=h10 s v hv
  exact⟨u,hu,hru.ext (Sig.le_refl _) hE fun j hj=>hj.elim⟩
theorem mj{B:Nat}{r:Loop}(h:w.heap[B]?=some (.loop r)):(Instr.getLoop B).run P w=.ok r w:=by
 simp[Instr.getLoop,getObj,Sem.run,h]
theorem pt{B:Nat}{r:Loop}(h:w.heap[B]?=some (.loop r))(o:Obj):(setObj B o).run P w=.ok () { w with heap:=w.heap.setIfInBounds B o }:=by
 simp[setObj,Sem.run,h]
theorem sb{id:Nat}{li:LI}{fr:List (Nat×AV)}{args:List AV}{sto:Sto}{rav:AV}{rsto:Sto}(hid:Pin id)(hl:look sto id=some (.loop li fr .ready none))
  (hps:(ka li.n li.params.toList&&Nat.beq li.params.toList.length args.length)=true)
  (h:∀ (w0:World) (σ0:Sig) (φ0:Pl) (M:Nat→Prop) (B:Nat),OkC P ⟨w0,σ0,φ0,M,li.n,some B,[]⟩ li.assign ⟨gX li.params.toList args fr,sto⟩
   (fun e st1=>e=.normal∧∃ li1 fr1,look st1.sto id=some (.loop li1 fr1 .ready none) ∧
    OkC P ⟨w0,σ0,φ0,M,li.n,some B,[]⟩ li.body ⟨st1.fr,cD id (.loop li1 fr1 .busy none) st1.sto⟩ (dp id rav rsto))):YieldA P id args sto rav rsto:=by
 refine⟨fun w σ φ vs B cp hinv hp hargs=>?_⟩
 simp only[WX] at hps
 have hlen:=hargs.length
 have hpl:=W4 hps.2
 obtain⟨B',c',r,h1,h2,⟨h3,h4,h6,h7,h8,h9⟩,h10,h11⟩:=hinv.obj _ _ hl
 rw[hp] at h1;cases h1
 have hslot:=sf (σ:=σ) (φ:=φ) (sto:=sto) (ps:=li.params.toList) (args:=args) (fr:=fr) (vs:=vs) (tmps:=r.tmps) (by rw[h9];exact hps.1) hargs (by omega) h10
 refine⟨r.fn,(r.params.zip vs.toArray).foldl (fun tmps (t,a)=>tmps.setIfInBounds t a) r.tmps,r.assign,r.body,?_,?_⟩
 ·have:¬ (vs.toArray.size≠r.params.size):=by
   rw[h6];simp;rw[← hlen,← hpl];simp
  simp only[Instr.yield,Xl,mj h2,Xb,if_neg this,Xt]
 refine roundIn_of_wpIn trivial ?_
 rw[h7,h8]
 have e0:((r.params.zip vs.toArray).foldl (fun tmps (t,a)=>tmps.setIfInBounds t a) r.tmps)=(li.params.toList.zip vs).foldl (fun (t:Array Value) (p:Nat×Value)=>t.setIfInBounds p.1 p.2) r.tmps:=by
  rw[h6];exact tX
 rw[e0]
 have hrel:Rel ⟨w,σ,φ,MOf φ sto,li.n,some B,[]⟩ ⟨gX li.params.toList args fr,sto⟩ { tmps:=(li.params.toList.zip vs).foldl (fun (t:Array Value) (p:Nat×Value)=>t.setIfInBounds p.1 p.2) r.tmps,defers:=[] } w σ φ :=
  ⟨Sig.le_refl _,fun b hb=>.inl hb,hinv,fun id e p hi hp=>.inr ⟨id,e,p,hi,hp,rfl⟩,hslot.2,rfl,hslot.1.trans h9,⟨rfl,rfl,rfl,Xc _,Xc _,fun _ _ _=>rfl⟩,fun _ _=>rfl⟩
 refine wpIn_mono (h w σ φ (MOf φ sto) B _ _ _ _ hrel) ?_
 rintro e a1 w1 ⟨st1,σ1,φ1,⟨rfl,li1,fr1,hl1,hbody⟩,hrE⟩
 have hr1:=hrE.rel (by simp)
 have hp1:φ1 id=some (B,cp):=(hr1.pin id hid).trans hp
 obtain⟨r1,hh1,hs1⟩:=uW hr1 hl1 hp1
 obtain⟨σ2,φ2,hr2⟩:=hr1.mark hl1 hp1 hh1 .busy none { r1 with state:=.busy } (by rw[← hs1.2.1])
 refine⟨_,?_,wpIn_mono (hbody _ _ _ _ hr2) ?_⟩
 ·simp only[Instr.beginRound,Xl,mj hh1,Xb,pt hh1,hs1.1,Xt]
 rintro e a2 w2 ⟨st2,σ3,φ3,⟨li2,fr2,p2,hl2,hq⟩,hrE2⟩
 have fin:∀ {a2:Act} {s':LoopState} {p':Option Code} {b:Bool},Rel ⟨w,σ,φ,MOf φ sto,li.n,some B,[]⟩ st2 a2 w2 σ3 φ3→rav=.one (.d (.bool b))→SubL (cD id (.loop li2 fr2 s' p') st2.sto) rsto→(s'=if p'.isNone then .ready else .done)→b=p'.isNone →
   ∃ v w',(Instr.endRound B p').run P w2=.ok v w'∧∃ v' σ' φ',Ending.returned v=.returned v'∧RetP rav rsto w σ φ (MOf φ sto) v' w' σ' φ':=by
  intro a2 s' p' b hr3 hrav hsub hs' hb
  have hp3:φ3 id=some (B,cp):=(hr3.pin id hid).trans hp
  obtain⟨r3,hh3,hs3⟩:=uW hr3 hl2 hp3
  obtain⟨σ4,φ4,hr4⟩:=hr3.mark hl2 hp3 hh3 s' p' { r3 with state:=s',pending:=p' } rfl
  refine⟨.bool b,_,?_,.bool b,σ4,φ4,rfl,hr4.retP (by rw[hrav];exact RepC.d .bool) hsub⟩
  subst hs' hb
  simp only[Instr.endRound,Xl,mj hh3,Xb,pt hh3,Xt]
 rcases hq with⟨rfl,hrav,hsub⟩|⟨j,hj,hrav,hsub⟩
 ·exact fin (hrE2.rel (by simp)) hrav hsub rfl rfl
 ·have hr3:∃ a2,Rel ⟨w,σ,φ,MOf φ sto,li.n,some B,[]⟩ st2 a2 w2 σ3 φ3:=by
   rcases hrE2 with h|⟨_,_,_,_,_,h⟩
   ·exact⟨_,h⟩
   ·exact⟨_,h⟩
  obtain⟨a3,hr3⟩:=hr3
  cases e<;>simp only[A7,W5,reduceCtorEq] at hj<;>subst hj
  ·exact fin hr3 hrav hsub rfl rfl
  ·exact fin hr3 hrav hsub rfl rfl
end Go.Abs
