import Derived.Test.YtpejdgkaapnekaaGreatKP8
import Derived.Test.YtpejdgkaapnekaaGreatKP4
set_option linter.unusedVariables false
set_option linter.unusedSimpArgs false
set_option maxHeartbeats 1000000
namespace Go.Abs
open Go
variable {P:Program} {c:Ctx} {T:Tab} {σ:Sig} {φ:Pl} {w:World}
def CO(d:Nat)(v:AV):List (Nat×AV)→List (Nat×AV)
 | []=>[(d,v)]
 | (t,x)::r=>bif Nat.beq t d then (d,v)::r else (t,x)::CO d v r
def mF(d:Option Nat)(v:AV)(fr:List (Nat×AV)):List (Nat×AV):=match d with
 | none=>fr
 | some d=>CO d v fr
theorem tk{d:Nat}{v:AV}:∀ {fr:List (Nat×AV)} {t:Nat},look (CO d v fr) t=look ((d,v)::fr) t
 | [],_=>rfl
 | (s,x)::r,t=>by
   simp only[CO]
   cases hb:Nat.beq s d with
   | true =>
     have:=W4 hb;subst this
     simp only[Yf,look]
     cases Nat.beq s t<;>rfl
   | false =>
     simp only[Ye,look,tk (fr:=r)]
     cases h1:Nat.beq s t with
     | false=>rfl
     | true =>
       have e1:=W4 h1;subst e1
       cases h2:Nat.beq d s with
       | false=>rfl
       | true=>have:=W4 h2;subst this;rw[XN] at hb;cases hb
theorem jU{d:Option Nat}{v:AV}{fr:List (Nat×AV)}{t:Nat}:look (mF d v fr) t=look (bI d v fr) t:=by
 cases d with
 | none=>rfl
 | some d=>exact tk
def qy:List (Nat×AV)→List (Nat×AV)
 | []=>[]
 | (d,v)::r=>CO d v (qy r)
theorem uB:∀ {fr:List (Nat×AV)} {t:Nat},look (qy fr) t=look fr t
 | [],_=>rfl
 | (d,v)::r,t=>by
   simp only[qy,tk,look,uB (fr:=r)]
theorem qz{fr fr':List (Nat×AV)}{sto:Sto}(h:∀ t,look fr' t=look fr t):Imp c ⟨fr,sto⟩ ⟨fr',sto⟩:=fun _ _ σ φ hr=>⟨σ,φ,hr.cong (st':=⟨fr',sto⟩) h fun _=>rfl⟩
def mY(opsA:Array Oper)(st:St)(o:Oper):Option Bool :=
 match o.guard with
 | none=>some true
 | some (j,want)=>match gQ st opsA j with
   | some y=>some (y==some want)
   | none=>none
def I9(o:Oper)(f:FuncId)(caps:List Operand)(st:St)(dl:List Nat):Option St :=
 match dl with
 | []=>none
 | dl=>(match sealL st dl with
   | some ss=>(match evL ss caps with
     | some avs=>(match lH avs with|some ds=>some ⟨mF o.dst (.one (.d (.fn f ds))) ss.fr,ss.sto⟩|none=>none)
     | none=>none)
   | none=>none)
def Jb:Option AV→Bool
 | some (.one (.rref _ _ _))=>true
 | _=>false
def CP(V:Env)(o:Oper)(st:St)(dl:List Nat):Option St :=
 match dl with
 | []=>none
 | dl=>(match sealL st dl with
   | some ss=>(match aR V ss o 0 with
     | some ⟨v,wr,[]⟩=>some ⟨mF o.dst v ss.fr,dh wr ss.sto⟩
     | _=>none)
   | none=>none)
def GS(V:Env)(st:St)(o:Oper):Option St :=
 match o.op with
 | .makeFunc (.func f) ⟨[]⟩ caps=>I9 o f caps.toList st (dS st.sto (cX st caps.toList) [])
 | .store _ x y=>bif Jb (ev st x) then CP V o st (dS st.sto (tP st y) []) else none
 | _=>none
theorem Je{V:Env}(hV:EnvOk P V){opsA:Array Oper}{l:List Oper}{st st':St}{o:Oper}{K:St→Prop}{dl:List Nat}(hd:aX c.n o.dst=true)(h:CP V o st dl=some st')(hk:aa P c opsA l st' K):aa P c opsA ({ o with guard:=none }::l) st K:=by
 unfold CP at h
 split at h<;>(try (simp at h;done))
 split at h<;>(try (simp at h;done))
 rename_i ss hss
 split at h<;>simp at h
 rename_i v wr hs
 subst h
 have hi:Imp c st ss:=fun a w σ φ hr=>by
  obtain⟨σs,_,h3,_⟩:=Rel.sealL hss hr
  exact⟨σs,φ,h3⟩
 exact cV hi (rB hV hd hs rfl (fun i hi=>by simp at hi) opsA l K (cV (qz fun t=>jU) hk))
theorem K9{V:Env}(hV:EnvOk P V){opsA:Array Oper}{l:List Oper}{st st':St}{o:Oper}{K:St→Prop}(hd:aX c.n o.dst=true)(h:GS V st o=some st')(hk:aa P c opsA l st' K):aa P c opsA ({ o with guard:=none }::l) st K:=by
 unfold GS at h
 split at h<;>(try (simp at h;done))
 rotate_left
 ·rename_i t x y ho
  cases hb:Jb (ev st x)<;>simp only[hb,Yf,Ye,reduceCtorEq] at h
  exact Je hV hd h hk
 rename_i f caps ho
 generalize dS st.sto (cX st caps.toList) []=dl at h
 unfold I9 at h
 split at h<;>(try (simp at h;done))
 split at h<;>(try (simp at h;done))
 rename_i ss hss
 split at h<;>(try (simp at h;done))
 rename_i avs ha
 split at h<;>simp at h
 rename_i ds hds
 subst h
 refine bu rfl fun a w σ φ hr=>?_
 obtain⟨σs,_,hs,_⟩:=Rel.sealL hss hr
 have h1:=pc hds (iT hs ha)
 refine⟨.func (.func f) #[] (caps.toList.map a.eval).toArray,w,⟨bI o.dst (.one (.d (.fn f ds))) ss.fr,ss.sto⟩,σs,φ,?_,hs.put (v:=.one (.d (.fn f ds))) hd (RepC.d (.fn _ h1.length.symm fun j d v hd hv=>?_)),cV (qz fun t=>jU) hk⟩
 ·have e:(caps.toList.map a.eval).toArray=caps.map a.eval:=by rw[← Array.toList_map,Array.toArray_toList]
  rw[e]
  simp[execOp,ho,Instr.makeFunc]
 ·obtain⟨u,hu,hru⟩:=h1.get hd
  rw[hv] at hu;cases hu;exact hru
def CQ(orc:Orc)(ow:Bool)(id:Nat)(st:St)(dst:Option Nat)(fop:Operand)(args:List Operand)(dl:List Nat):Option St :=
 match sealL st dl with
 | some ss=>(match ev ss fop,evL ss args with
   | some (.one (.d (.fn f caps))),some avs=>bif c8 avs then (match orc (some f) ow (avs++caps.map fun x=>.one (.d x)) [] with
     | some (rav,rsto)=>bif fZ rav then some ⟨mF dst rav st.fr,st.sto⟩
       else bif c7 [] rsto&&Nat.ble (id+16) 1000000&&dG rsto rav&&bt rsto rsto&&eM ss (rng id 16) then some ⟨mF dst (eC (rn id []) rav) ss.fr,dh (xx (rn id []) rsto) ss.sto⟩ else none
     | none=>none) else none
   | _,_=>none)
 | none=>none
theorem Jf{orc:Orc}(hO:OrcOk P orc){ow:Bool}{id:Nat}{opsA:Array Oper}{l:List Oper}{st st':St}{o:Oper}{K:St→Prop}{fop:Operand}{args:Array Operand}{ats:Array TypeId}{dl:List Nat}(ho:o.op=.call { callee:=.value fop,args:=args,argTypes:=ats })
  (hd:aX c.n o.dst=true) (h:CQ orc ow id st o.dst fop args.toList dl=some st') (hk:aa P c opsA l st' K):aa P c opsA ({ o with guard:=none }::l) st K:=by
 unfold CQ at h
 split at h<;>(try (simp at h;done))
 rename_i ss hss
 split at h<;>(try (simp at h;done))
 rename_i f caps avs hf ha
 cases hD:c8 avs<;>simp only[hD,Yf,Ye,reduceCtorEq] at h
 split at h<;>(try (simp at h;done))
 rename_i rav rsto hor
 have hi:Imp c st ss:=fun a w σ φ hr=>by
  obtain⟨σs,_,h3,_⟩:=Rel.sealL hss hr
  exact⟨σs,φ,h3⟩
 cases hfl:fZ rav with
 | true =>
   simp only[hfl,Yf,W5] at h
   subst h
   exact j9 (o:={ o with guard:=none }) ho rfl hd hi hf ha hD (hO.call _ _ _ _ _ _ hor) hfl (cV (qz fun t=>jU) hk)
 | false =>
   simp only[hfl,Ye] at h
   cases hb:c7 [] rsto&&Nat.ble (id+16) 1000000&&dG rsto rav&&bt rsto rsto&&eM ss (rng id 16)<;>simp only[hb,Yf,Ye,reduceCtorEq,W5] at h
   subst h
   rw[WX] at hb
   refine cV hi (mn (o:={ o with guard:=none }) id [] ho rfl hd rfl hf ha hD (hO.call _ _ _ _ _ _ hor) hb.1 (fun i h1 h2=>?_) (cV (qz fun t=>jU) ?_))
   ·exact fB hb.2 i (rng_mem.2 ⟨h1,h2⟩)
   ·have:=lO (r:=rn id []) (s:=ss.sto) (d:=[]) (rs:=rsto)
    simp only[Yt,dh] at this
    rw[this] at hk
    exact hk
def La(V:Env)(mf:FuncId→Bool)(orc:Orc)(yf ow:Bool)(st:St)(o:Oper):Option St :=
 match GS V st o with
 | some st'=>some st'
 | none=>match o.op with
   | .call { callee:=.value fop,args,.. }=>(match ev st fop with
     | some (.one (.d (.fn f _)))=>bif mf f then
       (match xTr V mf orc yf ow (mJ st) st o with|some tr=>some ⟨mF o.dst tr.v st.fr,dh tr.wr st.sto⟩|none=>none)
       else CQ orc ow (mJ st) st o.dst fop args.toList (dS st.sto (cX st args.toList) [])
     | _=>(match xTr V mf orc yf ow (mJ st) st o with|some tr=>some ⟨mF o.dst tr.v st.fr,dh tr.wr st.sto⟩|none=>none))
   | _=>(match xTr V mf orc yf ow (mJ st) st o with|some tr=>some ⟨mF o.dst tr.v st.fr,dh tr.wr st.sto⟩|none=>none)
theorem N3{V:Env}(hV:EnvOk P V){mf:FuncId→Bool}{orc:Orc}(hO:OrcOk P orc){yf ow:Bool}(hy:yf=true→c.rd=none){opsA:Array Oper}{l:List Oper}{st st':St}{o:Oper}{K:St→Prop}(hd:aX c.n o.dst=true)(h:La V mf orc yf ow st o=some st')
  (hk:aa P c opsA l st' K):aa P c opsA ({ o with guard:=none }::l) st K:=by
 have key:∀ {st':St},(match xTr V mf orc yf ow (mJ st) st o with|some tr=>some (⟨mF o.dst tr.v st.fr,dh tr.wr st.sto⟩:St)|none=>none)=some st'→aa P c opsA l st' K→aa P c opsA ({ o with guard:=none }::l) st K:=by
  intro st' h hk
  split at h<;>simp at h
  rename_i tr htr
  subst h
  obtain⟨hl,hf⟩:=HB hV hO hy hd htr
  exact hl st (fun _ _=>rfl) (fun _ _=>rfl) hf opsA l _ (cV (qz fun t=>jU) hk)
 unfold La at h
 split at h
 ·rename_i s1 hs1
  simp only[W5] at h;subst h
  exact K9 hV hd hs1 hk
 split at h
 ·rename_i fop args ats ho
  split at h
  ·rename_i f caps hf
   cases hm:mf f with
   | true=>simp only[hm,Yf] at h;exact key h hk
   | false=>simp only[hm,Ye] at h;exact Jf hO ho hd h hk
  ·exact key h hk
 ·exact key h hk
def yC(V:Env)(mf:FuncId→Bool)(orc:Orc)(yf ow:Bool)(n:Nat)(opsA:Array Oper):List Oper→St→Option St
 | [],st=>some st
 | o::r,st=>bif aX n o.dst then (match mY opsA st o with
   | some true=>(match La V mf orc yf ow st o with
     | some st'=>yC V mf orc yf ow n opsA r st'
     | none=>none)
   | some false=>yC V mf orc yf ow n opsA r ⟨mF o.dst (.tup []) st.fr,st.sto⟩
   | none=>none) else none
theorem yD{V:Env}(hV:EnvOk P V){mf:FuncId→Bool}{orc:Orc}(hO:OrcOk P orc){yf ow:Bool}(hy:yf=true→c.rd=none){opsA:Array Oper}:∀ {l:List Oper} {st st':St},yC V mf orc yf ow c.n opsA l st=some st'→aa P c opsA l st (fun s=>s=st')
 | [],st,st',h=>by
   simp only[yC,W5] at h;subst h
   exact tb rfl
 | o::r,st,st',h=>by
   simp only[yC] at h
   cases hd:aX c.n o.dst<;>simp only[hd,Yf,Ye,reduceCtorEq] at h
   cases hg:mY opsA st o with
   | none=>simp[hg] at h
   | some b =>
     cases b with
     | true =>
       simp only[hg] at h
       have hk:aa P c opsA ({ o with guard:=none }::r) st (fun s=>s=st'):=by
        split at h<;>(try (simp at h;done))
        rename_i s1 hs1
        exact N3 hV hO hy hd hs1 (yD hV hO hy h)
       unfold mY at hg
       cases hgd:o.guard with
       | none =>
         have:({ o with guard:=none }:Oper)=o:=by obtain⟨_,_,_,_,_,g⟩:=o;simp only at hgd;subst hgd;rfl
         rw[this] at hk;exact hk
       | some gw =>
         obtain⟨j,want⟩:=gw
         simp only[hgd] at hg
         split at hg<;>simp at hg
         rename_i b hb
         subst hg
         exact ue hgd hb rfl hk
     | false =>
       simp only[hg] at h
       unfold mY at hg
       cases hgd:o.guard with
       | none=>simp[hgd] at hg
       | some gw =>
         obtain⟨j,want⟩:=gw
         simp only[hgd] at hg
         split at hg<;>simp at hg
         rename_i b hb
         exact sC hgd hb (by simpa using hg) hd (cV (qz fun t=>jU) (yD hV hO hy h))
def tQ(V:Env)(mf:FuncId→Bool)(orc:Orc)(yf ow:Bool)(n:Nat)(opsA:Array Oper)(st0:St):Nat→List Oper→St→List Tr→Option St
 | _,[],st,acc=>bif lU opsA.toList st0 acc.reverse then some ⟨qy st.fr,st.sto⟩ else none
 | lo,o::r,st,acc=>bif aX n o.dst then (match mY opsA st o with
   | some true=>(match xTr V mf orc yf ow lo st o with
     | some tr=>tQ V mf orc yf ow n opsA st0 (mx tr.new lo) r ⟨bI o.dst tr.v st.fr,dh tr.wr st.sto⟩ (tr::acc)
     | none=>none)
   | some false=>tQ V mf orc yf ow n opsA st0 lo r ⟨bI o.dst (.tup []) st.fr,st.sto⟩ (Tr.none::acc)
   | none=>none) else none
theorem vG{V:Env}(hV:EnvOk P V){mf:FuncId→Bool}{orc:Orc}(hO:OrcOk P orc){yf ow:Bool}(hy:yf=true→c.rd=none){opsA:Array Oper}{st0:St}:∀ {l:List Oper} {lo:Nat} {st st':St} {acc:List Tr},tQ V mf orc yf ow c.n opsA st0 lo l st acc=some st' →
  ak P c opsA st0 l st acc (fun s=>(⟨qy s.fr,s.sto⟩:St)=st')
 | [],lo,st,st',acc,h=>by
   simp only[tQ] at h
   cases hb:lU opsA.toList st0 acc.reverse<;>simp only[hb,Yf,Ye,reduceCtorEq,W5] at h
   exact⟨hb,h⟩
 | o::r,lo,st,st',acc,h=>by
   simp only[tQ] at h
   cases hd:aX c.n o.dst<;>simp only[hd,Yf,Ye,reduceCtorEq] at h
   have hgok:∀ {b:Bool},mY opsA st o=some b→gl opsA st o b:=by
    intro b hg
    unfold mY at hg
    unfold gl
    cases hgd:o.guard with
    | none=>simp only[hgd,W5] at hg ⊢;exact hg.symm
    | some gw =>
      obtain⟨j,want⟩:=gw
      simp only[hgd] at hg ⊢
      split at hg<;>simp at hg
      rename_i b' hb
      exact⟨b',hb,hg.symm⟩
   cases hg:mY opsA st o with
   | none=>simp[hg] at h
   | some b =>
     cases b with
     | true =>
       simp only[hg] at h
       split at h<;>(try (simp at h;done))
       rename_i tr htr
       exact⟨true,tr,hgok hg,fun _=>(HB hV hO hy hd htr).1,fun e=>by simp at e,fun e=>by simp at e,vG hV hO hy h⟩
     | false =>
       simp only[hg] at h
       exact⟨false,Tr.none,hgok hg,fun e=>by simp at e,fun _=>rfl,fun _=>hd,vG hV hO hy h⟩
inductive XE where
 | norm|ex (id:Nat)|ret
 /-- off the end, a loop's mark standing -/
 | mk
def XE.e:XE→Exit
 | .norm|.mk=>.normal
 | .ex i=>.exit i
 | .ret=>.ret
def lI(f:St→Option (XE×St)):Nat→St→Option (XE×St)
 | 0,_=>none
 | n+1,st=>match f st with
   | some (.norm,st')=>lI f n st'
   | some (.mk,_)=>none
   | r=>r
def N4:LoopState→Bool
 | .busy=>false
 | _=>true
def pOk:Option Code→Bool
 | none=>true
 | some .ret=>true
 | _=>false
def sa(st:St)(ids:List Nat)(idl:Nat)(li:LI)(os:List (Nat×AObj))(caps:List D)(rav:AV)(j:Nat)(liR:LI)(frR:List (Nat×AV))(s':LoopState)(p':Option Code)(rs:Sto):Bool :=
 Nat.beq j 1000000&&pq (idl::ids) os&&!cT idl ids&&gF ((idl,.loop li (cN ids st.fr []) .ready none)::st.sto) (cj 1000000 (idl::ids)) rs &&
 hkB (idl+1) (idl::ids) ((1000000,.loop li (dO (inv 1000000 (idl::ids)) (cN ids st.fr [])) .ready none)::iW (inv 1000000 (idl::ids)) os) ((.one (.yl 1000000))::caps.map fun x=>.one (.d x)) rav ((1000000,.loop liR frR s' p')::rs) &&
 (Nat.blt idl (idl+1)&&mc st.sto idl&&!br idl st.fr&&!aN idl st.sto&&Nat.ble (idl+1+16) 1000000&&rK (idl+1) (cN ids st.fr [])&&mc rs 1000000) &&
 eM st (rng (idl+1) 16)&&N4 s'&&pOk p'
def Ff(orc:Orc)(li:LI)(st:St)(f:FuncId)(caps:List D)(ids:List Nat)(idl:Nat):Option (Option Code×St) :=
 match jG st.sto ids with
 | some os=>(match orc (some f) false ((.one (.yl 1000000))::caps.map fun x=>.one (.d x)) ((1000000,.loop li (dO (inv 1000000 (idl::ids)) (cN ids st.fr [])) .ready none)::iW (inv 1000000 (idl::ids)) os) with
   | some (rav,(j,.loop liR frR s' p')::rs)=>bif sa st ids idl li os caps rav j liR frR s' p' rs then some (p',⟨st.fr,kE (idl+1) (cj 1000000 (idl::ids)) rs st.sto⟩) else none
   | _=>none)
 | none=>none
def CR(orc:Orc)(n:Nat)(g:Operand)(ps:Array Nat)(assign body:Code)(st:St):Option (Option Code×St) :=
 match ev st g with
 | some (.one (.d (.fn f caps)))=>Ff orc ⟨n,ps,assign,body⟩ st f caps (jF st.sto 1000 (kV st.fr) []) (mJ st)
 | _=>none
theorem zS{orc:Orc}(hO:OrcOk P orc){g:Operand}{ps:Array Nat}{assign body:Code}{st st':St}{p:Option Code}(hrd:c.rd=none)(hmk:c.mks=[])(h:CR orc c.n g ps assign body st=some (p,st')) :
  ∀ (a:Act) (w:World) (σ:Sig) (φ:Pl),Rel c st a w σ φ→(Code.rangeFunc g ps assign body).wpIn (fnc c) 0 P (fun e a' w' =>
    (p=none∧e=.normal∧∃ c1 σ' φ',A4 c c1∧Rel c1 st' a' w' σ' φ')∨(p=some .ret∧e=.ret∧∃ σ' φ',RelE c .ret st' a' w' σ' φ')) a w:=by
 unfold CR at h
 split at h<;>(try (simp at h;done))
 rename_i f caps hg
 generalize jF st.sto 1000 (kV st.fr) []=ids at h
 generalize mJ st=idl at h
 unfold Ff at h
 split at h<;>(try (simp at h;done))
 rename_i os hos
 split at h<;>(try (simp at h;done))
 rename_i rav j liR frR s' p' rs hor
 cases hb:sa st ids idl ⟨c.n,ps,assign,body⟩ os caps rav j liR frR s' p' rs<;>simp only[hb,Yf,Ye,reduceCtorEq,W5,XJ] at h
 obtain⟨rfl,rfl⟩:=h
 unfold sa at hb
 simp only[WX,Xe] at hb
 obtain⟨⟨⟨⟨⟨⟨⟨⟨hj,hall⟩,hni⟩,hcm⟩,hk⟩,hi⟩,hfr⟩,hbu⟩,hp⟩:=hb
 have hj':=W4 hj
 subst hj'
 have hren:dO (rn (idl+1) (cj 1000000 (idl::ids))) (dO (inv 1000000 (idl::ids)) (cN ids st.fr []))=cN ids st.fr [] :=
  oC fun i hi=>r7 (by simp only[cT,Xs];exact .inr (lh i hi))
 have hne:∀ i∈ids,i≠idl:=by
  intro i hmem e
  rw[e] at hmem
  rw[memL_iff.2 hmem] at hni;cases hni
 have e:dO (rn (idl+1) ((1000000,idl)::cj 1000001 ids)) (dO (inv 1000000 (idl::ids)) (cN ids st.fr []))=cN ids st.fr []:=hren
 refine yW (k:=idl+1) (idl:=idl) (ρ:=cj 1000001 ids) hrd hmk hg (hO.call _ _ _ _ _ _ hor) (fun s v hv=>?_) ?_ ?_ hk ?_ ?_ ?_ ?_
 ·rw[e] at hv
  exact (iP hv).2
 ·exact kZ (s:=(idl,_)::st.sto) ((kY (s:=st.sto) fun i hi=>aP (hne i hi)).trans hos) hall
 ·refine j8 (s:=(idl,.loop ⟨c.n,ps,assign,body⟩ (cN ids st.fr []) .ready none)::st.sto) (fun j i _=>?_) hcm
  show look ((idl,AObj.loop _ _ _ _)::st.sto) i=_
  rw[e]
 ·rw[e]
  simp only[WX,Xe]
  exact hi
 ·intro i h1 h2
  exact fB hfr i (rng_mem.2 ⟨h1,h2⟩)
 ·rintro rfl;cases hbu
 ·unfold pOk at hp
  split at hp
  ·exact .inl rfl
  ·exact .inr rfl
  ·cases hp
def cB(V:Env)(mf:FuncId→Bool)(rg:List Nat)(orc:Orc)(n:Nat):Bool→Bool→Code→St→Option (XE×St)
 | _,_,.skip,st=>some (.norm,st)
 | _,yf,.region id ops true,st=>match tQ V mf orc yf (cT id rg) n ops st (mJ st) ops.toList st [] with|some st'=>some (.norm,st')|none=>none
 | _,yf,.region id ops false,st=>match yC V mf orc yf (cT id rg) n ops ops.toList st with|some st'=>some (.norm,st')|none=>none
 | rf,_,.rangeFunc g ps assign body,st=>bif rf then (match CR orc n g ps assign body st with
   | some (none,st')=>some (.mk,st')
   | some (some _,st')=>some (.ret,st')
   | none=>none) else none
 | rf,yf,.seq x y,st=>match cB V mf rg orc n rf yf x st with
   | some (.norm,st')=>cB V mf rg orc n rf yf y st'
   | some (.mk,st')=>(match cB V mf rg orc n false yf y st' with
     | some (.norm,s)=>some (.mk,s)
     | some (.ret,s)=>some (.ret,s)
     | _=>none)
   | r=>r
 | rf,yf,.cond o x y,st=>match ev st o with
   | some (.one (.d (.bool true)))=>cB V mf rg orc n rf yf x st
   | some (.one (.d (.bool false)))=>cB V mf rg orc n rf yf y st
   | _=>none
 | rf,yf,.block id x,st=>match cB V mf rg orc n rf yf x st with
   | some (.ex i,st')=>bif Nat.beq i id then some (.norm,st') else some (.ex i,st')
   | r=>r
 | rf,yf,.loop x,st=>lI (fun s=>cB V mf rg orc n rf yf x s) 100000 st
 | _,_,.exit id,st=>some (.ex id,st)
 | _,_,.ret,st=>some (.ret,st)
 | _,_,_,_=>none
def Qx(c:Ctx)(e:XE)(st:St)(a:Act)(w:World)(σ:Sig)(φ:Pl):Prop :=
 match e with
 | .mk=>∃ c1,A4 c c1∧Rel c1 st a w σ φ
 | e=>RelE c e.e st a w σ φ
def OkX(P:Program)(c:Ctx)(code:Code)(st:St)(e:XE)(st':St):Prop :=
 ∀ (a:Act) (w:World) (σ:Sig) (φ:Pl),Rel c st a w σ φ→code.wpIn (fnc c) 0 P (fun x a' w'=>x=e.e∧∃ σ' φ',Qx c e st' a' w' σ' φ') a w
def CS(e:XE)(st':St):Exit→St→Prop:=fun x s=>x=e.e∧s=st'
theorem OkX.of{code:Code}{st st':St}{e:XE}(he:e≠.mk)(h:OkC P c code st (CS e st')):OkX P c code st e st':=by
 intro a w σ φ hr
 refine wpIn_mono (h a w σ φ hr) ?_
 rintro x a' w' ⟨s,σ',φ',⟨rfl,rfl⟩,h2⟩
 refine⟨rfl,σ',φ',?_⟩
 cases e<;>first|exact absurd rfl he|exact h2
theorem OkX.okC{code:Code}{st st':St}{e:XE}(he:e≠.mk)(h:OkX P c code st e st'):OkC P c code st (CS e st'):=by
 intro a w σ φ hr
 refine wpIn_mono (h a w σ φ hr) ?_
 rintro x a' w' ⟨rfl,σ',φ',h2⟩
 refine⟨st',σ',φ',⟨rfl,rfl⟩,?_⟩
 cases e<;>first|exact absurd rfl he|exact h2
theorem xi{V:Env}{mf:FuncId→Bool}{rg:List Nat}{orc:Orc}{n:Nat}:∀ (z:Code) {st s:St},cB V mf rg orc n false false z st≠some (.mk,s):=by
 intro z
 induction z with
 | region id ops d =>
   intro st s h
   cases d<;>simp only[cB] at h<;>split at h<;>simp at h
 | seq x y ihx ihy =>
   intro st s h
   simp only[cB] at h
   split at h
   ·exact ihy h
   ·rename_i h1;exact ihx h1
   ·rename_i h1 h2;exact h2 _ h
 | cond o x y ihx ihy =>
   intro st s h
   simp only[cB] at h
   split at h
   ·exact ihx h
   ·exact ihy h
   ·simp at h
 | block id x ih =>
   intro st s h
   simp only[cB] at h
   split at h
   ·rename_i i st' h1
    cases hb:Nat.beq i id<;>simp[hb] at h
   ·exact ih h
 | loop x ih =>
   intro st s h
   simp only[cB] at h
   have key:∀ (m:Nat) (st:St),lI (fun s=>cB V mf rg orc n false false x s) m st≠some (.mk,s):=by
    intro m
    induction m with
    | zero=>intro st h;simp[lI] at h
    | succ m ihm =>
      intro st h
      simp only[lI] at h
      split at h
      ·exact ihm _ h
      ·simp at h
      ·rename_i h1 h2;exact h2 _ h
   exact key _ _ h
 | _=>intro st s h;simp[cB] at h
theorem Jg{V:Env}(hV:EnvOk P V){mf:FuncId→Bool}{rg:List Nat}{orc:Orc}(hO:OrcOk P orc)(hm:P.follows .mixedOrders=true):∀ (code:Code) (rf yf:Bool) (c:Ctx) (st:St) (e:XE) (st':St),(yf=true→c.rd=none)→(rf=true→c.rd=none∧c.mks=[])→cB V mf rg orc c.n rf yf code st=some (e,st')→OkX P c code st e st':=by
 intro code
 induction code with
 | skip =>
   intro rf yf c st e st' hy hr h
   simp only[cB,W5,XJ] at h
   obtain⟨rfl,rfl⟩:=h
   exact .of (by simp) (Fa ⟨rfl,rfl⟩)
 | region id ops d =>
   intro rf yf c st e st' hy hr h
   cases d with
   | true =>
     simp only[cB] at h
     split at h<;>simp at h
     rename_i s hs
     obtain⟨rfl,rfl⟩:=h
     have h1:OkC P c (.region id ops true) st (fun x s'=>x=.normal∧(⟨qy s'.fr,s'.sto⟩:St)=s) :=
      wh hm (by
       have:=vG (c:=c) hV hO hy hs
       simpa using this)
     refine .of (by simp) ?_
     intro a w σ φ hr
     refine wpIn_mono (h1 a w σ φ hr) ?_
     rintro e a' w' ⟨s',σ',φ',⟨rfl,rfl⟩,h2⟩
     exact⟨_,σ',φ',⟨rfl,rfl⟩,.inl ((h2.rel (by simp)).cong (fun _=>uB) fun _=>rfl)⟩
   | false =>
     simp only[cB] at h
     split at h<;>simp at h
     rename_i s hs
     obtain⟨rfl,rfl⟩:=h
     exact .of (by simp) (zP (GU (yD hV hO hy hs) fun s hs=>⟨rfl,hs⟩))
 | rangeFunc g ps assign body =>
   intro rf yf c st e st' hy hr h
   simp only[cB] at h
   cases rf with
   | false=>simp at h
   | true =>
     obtain⟨hr1,hr2⟩:=hr rfl
     simp only[Yf] at h
     intro a w σ φ hrel
     split at h<;>simp at h
     ·rename_i s1 hx
      obtain⟨rfl,rfl⟩:=h
      refine wpIn_mono (zS hO hr1 hr2 hx a w σ φ hrel) ?_
      rintro x a' w' (⟨_,rfl,c1,σ',φ',h1,h2⟩|⟨h,_⟩)
      ·exact⟨rfl,σ',φ',c1,h1,h2⟩
      ·cases h
     ·rename_i cd s1 hx
      obtain⟨rfl,rfl⟩:=h
      refine wpIn_mono (zS hO hr1 hr2 hx a w σ φ hrel) ?_
      rintro x a' w' (⟨h,_⟩|⟨_,rfl,σ',φ',h2⟩)
      ·cases h
      ·exact⟨rfl,σ',φ',h2⟩
 | seq x y ihx ihy =>
   intro rf yf c st e st' hy hr h
   simp only[cB] at h
   intro a w σ φ hrel
   cases hx:cB V mf rg orc c.n rf yf x st with
   | none=>simp[hx] at h
   | some r =>
     obtain⟨e1,s1⟩:=r
     refine wpIn_seq (wpIn_mono (ihx _ _ _ _ _ _ hy hr hx a w σ φ hrel) ?_)
     rintro ex a1 w1 ⟨rfl,σ1,φ1,h1⟩
     cases e1 with
     | norm =>
       simp only[hx] at h
       exact ihy _ _ _ _ _ _ hy hr h a1 w1 σ1 φ1 (RelE.rel h1 (by simp[XE.e]))
     | ex i=>simp only[hx,W5,XJ] at h;obtain⟨rfl,rfl⟩:=h;exact⟨rfl,σ1,φ1,h1⟩
     | ret=>simp only[hx,W5,XJ] at h;obtain⟨rfl,rfl⟩:=h;exact⟨rfl,σ1,φ1,h1⟩
     | mk =>
       simp only[hx] at h
       obtain⟨c1,⟨g1,g2,g3,g4⟩,h2⟩:=h1
       have hrun:∀ {e2:XE} {s2:St},cB V mf rg orc c.n false yf y s1=some (e2,s2)→y.wpIn (fnc c) 0 P (fun x a' w'=>x=e2.e∧∃ σ' φ',Qx c1 e2 s2 a' w' σ' φ') a1 w1:=by
        intro e2 s2 hq
        rw[← g1] at hq
        have h3:=ihy false yf c1 s1 e2 s2 (fun _=>g2) (fun h=>by cases h) hq a1 w1 σ1 φ1 h2
        cases yf with
        | true =>
          have hf:fnc c1=fnc c:=by rw[jn g2,jn (hy rfl)]
          rwa [hf] at h3
        | false =>
          cases rf with
          | true =>
            have hf:fnc c1=fnc c:=by rw[jn g2,jn (hr rfl).1]
            rwa [hf] at h3
          | false =>
            exfalso
            have none:∀ (z:Code) {st:St} {s:St},cB V mf rg orc c.n false false z st≠some (.mk,s):=xi
            exact none x hx
       split at h<;>(try (simp at h;done))
       ·rename_i s2 hs2
        simp only[W5,XJ] at h
        obtain⟨rfl,rfl⟩:=h
        refine wpIn_mono (hrun hs2) ?_
        rintro x a' w' ⟨rfl,σ',φ',h4⟩
        exact⟨rfl,σ',φ',c1,⟨g1,g2,g3,g4⟩,RelE.rel h4 (by simp[XE.e])⟩
       ·rename_i s2 hs2
        simp only[W5,XJ] at h
        obtain⟨rfl,rfl⟩:=h
        refine wpIn_mono (hrun hs2) ?_
        rintro x a' w' ⟨rfl,σ',φ',h4⟩
        refine⟨rfl,σ',φ',?_⟩
        rcases (show RelE c1 .ret _ a' w' σ' φ' from h4) with h5|⟨_,r,_,_,_,h5⟩
        ·exact g4 _ _ _ _ _ h5
        ·exact absurd h5.defers.symm g3
 | cond o x y ihx ihy =>
   intro rf yf c st e st' hy hr h
   simp only[cB] at h
   intro a w σ φ hrel
   split at h
   ·rename_i hb
    have h1:=RepC.d_inv (aD hrel hb)
    generalize hu:a.eval o=u at h1
    cases h1
    exact wpIn_cond_true hu (ihx _ _ _ _ _ _ hy hr h a w σ φ hrel)
   ·rename_i hb
    have h1:=RepC.d_inv (aD hrel hb)
    generalize hu:a.eval o=u at h1
    cases h1
    exact wpIn_cond_false hu (ihy _ _ _ _ _ _ hy hr h a w σ φ hrel)
   ·simp at h
 | block id x ih =>
   intro rf yf c st e st' hy hr h
   simp only[cB] at h
   intro a w σ φ hrel
   cases hx:cB V mf rg orc c.n rf yf x st with
   | none=>simp[hx] at h
   | some r =>
     obtain⟨e1,s1⟩:=r
     refine wpIn_block (wpIn_mono (ih _ _ _ _ _ _ hy hr hx a w σ φ hrel) ?_)
     rintro ex a1 w1 ⟨rfl,σ1,φ1,h1⟩
     cases e1 with
     | norm=>simp only[hx,W5,XJ] at h;obtain⟨rfl,rfl⟩:=h;exact⟨rfl,σ1,φ1,h1⟩
     | ret=>simp only[hx,W5,XJ] at h;obtain⟨rfl,rfl⟩:=h;exact⟨rfl,σ1,φ1,h1⟩
     | mk=>simp only[hx,W5,XJ] at h;obtain⟨rfl,rfl⟩:=h;exact⟨rfl,σ1,φ1,h1⟩
     | ex i =>
       simp only[hx] at h
       cases hb:Nat.beq i id with
       | true =>
         have hi:=W4 hb
         simp only[hb,Yf,W5,XJ] at h
         obtain⟨rfl,rfl⟩:=h
         simp only[XE.e,Exit.inBlock]
         rw[if_pos hi]
         exact⟨trivial,σ1,φ1,.inl (RelE.rel h1 (by simp[XE.e]))⟩
       | false =>
         simp only[hb,Ye,W5,XJ] at h
         obtain⟨rfl,rfl⟩:=h
         have hi:i≠id:=by rintro rfl;rw[XN] at hb;cases hb
         simp only[XE.e,Exit.inBlock]
         rw[if_neg hi]
         exact⟨trivial,σ1,φ1,h1⟩
 | loop x ih =>
   intro rf yf c st e st' hy hr h
   simp only[cB] at h
   have hne:∀ {n:Nat} {s:St},lI (fun s=>cB V mf rg orc c.n rf yf x s) n s=some (e,st')→e≠.mk:=by
    intro n
    induction n with
    | zero=>intro s h;simp[lI] at h
    | succ n ihn =>
      intro s h
      simp only[lI] at h
      split at h
      ·exact ihn h
      ·simp at h
      ·rename_i h1 h2
       rintro rfl
       exact h2 _ h
   refine .of (hne h) (pQ (fun n s=>lI (fun s=>cB V mf rg orc c.n rf yf x s) n s=some (e,st')) 100000 h fun n s hs=>?_)
   cases n with
   | zero=>simp[lI] at hs
   | succ n =>
     simp only[lI] at hs
     cases hx:cB V mf rg orc c.n rf yf x s with
     | none=>simp[hx] at hs
     | some r =>
       obtain⟨e1,s1⟩:=r
       by_cases hmk:e1=.mk
       ·subst hmk;simp[hx] at hs
       refine kF ((ih _ _ _ _ _ _ hy hr hx).okC hmk) ?_
       rintro ex s' ⟨rfl,rfl⟩
       cases e1 with
       | norm=>simp only[hx] at hs;exact⟨n,_,by omega,hs,Imp.refl _⟩
       | ex i=>simp only[hx,W5,XJ] at hs;obtain⟨rfl,rfl⟩:=hs;exact⟨rfl,rfl⟩
       | ret=>simp only[hx,W5,XJ] at hs;obtain⟨rfl,rfl⟩:=hs;exact⟨rfl,rfl⟩
       | mk=>exact absurd rfl hmk
 | exit id =>
   intro rf yf c st e st' hy hr h
   simp only[cB,W5,XJ] at h
   obtain⟨rfl,rfl⟩:=h
   exact .of (by simp) (Fb ⟨rfl,rfl⟩)
 | ret =>
   intro rf yf c st e st' hy hr h
   simp only[cB,W5,XJ] at h
   obtain⟨rfl,rfl⟩:=h
   exact .of (by simp) (cr ⟨rfl,rfl⟩)
 | _=>intros;simp_all[cB]
theorem vH{V:Env}(hV:EnvOk P V){mf:FuncId→Bool}{rg:List Nat}{orc:Orc}(hO:OrcOk P orc)(hm:P.follows .mixedOrders=true)(code:Code)(rf yf:Bool)(c:Ctx)(st:St)(e:XE)(st':St)(hy:yf=true→c.rd=none)(hr:rf=true→c.rd=none∧c.mks=[])(h:cB V mf rg orc c.n rf yf code st=some (e,st'))(he:e≠.mk):OkC P c code st (CS e st') :=
 (Jg hV hO hm code rf yf c st e st' hy hr h).okC he
theorem Jh{code:Code}{st s' ss:St}{e:XE}(h:OkC P c code st (CS e s'))(hi:∀ {a:Act} {w:World} {σ:Sig} {φ:Pl} {mk:List Deferred},Rel { c with mks:=mk } s' a w σ φ→∃ σ2 φ2,Rel { c with mks:=mk } ss a w σ2 φ2):OkC P c code st (CS e ss):=by
 intro a w σ φ hr
 refine wpIn_mono (h a w σ φ hr) ?_
 rintro ex a' w' ⟨s'',σ',φ',⟨rfl,rfl⟩,hE⟩
 rcases hE with hr'|⟨he',r,hd,hh,hge,hr'⟩
 ·obtain⟨σ2,φ2,h4⟩:=hi (mk:=c.mks) hr'
  exact⟨ss,σ2,φ2,⟨rfl,rfl⟩,.inl h4⟩
 ·obtain⟨σ2,φ2,h4⟩:=hi (mk:=c.mks) hr'
  exact⟨ss,σ2,φ2,⟨rfl,rfl⟩,.inr ⟨he',r,hd,hh,hge,h4⟩⟩
def rL:List ResultVar→List Nat
 | []=>[]
 | .tmp t::r=>t::rL r
 | .cell a _::r=>a::rL r
def kj(l:List Nat):List (Nat×AV)→List (Nat×AV)
 | []=>[]
 | (s,v)::r=>bif cT s l then (s,v)::kj l r else kj l r
theorem pK{l:List Nat}:∀ {fr:List (Nat×AV)} {s:Nat} {v:AV},look (kj l fr) s=some v→look fr s=some v
 | [],_,_,h=>by simp[kj,look] at h
 | (t,x)::r,s,v,h=>by
   simp only[kj] at h
   cases hm:cT t l with
   | true =>
     simp only[hm,Yf] at h
     rcases ah h with⟨rfl,rfl⟩|⟨hne,h⟩
     ·exact aH
     ·rw[aP hne];exact pK h
   | false =>
     simp only[hm,Ye] at h
     by_cases e:s=t
     ·subst e
      exfalso
      have key:∀ {fr:List (Nat×AV)} {s:Nat} {v:AV},look (kj l fr) s=some v→cT s l=true:=by
       intro fr
       induction fr with
       | nil=>intro s v h;simp[kj,look] at h
       | cons p r ih =>
         intro s v h
         obtain⟨t,x⟩:=p
         simp only[kj] at h
         cases hm:cT t l with
         | true =>
           simp only[hm,Yf] at h
           rcases ah h with⟨rfl,rfl⟩|⟨_,h⟩
           ·exact hm
           ·exact ih h
         | false=>simp only[hm,Ye] at h;exact ih h
      rw[key h] at hm;cases hm
     ·rw[aP e];exact pK h
def GV(T:Tab)(ow:Bool)(rs:List ResultVar)(cs:Sto)(st:St):Option St :=
 match nR T st rs with
 | some l=>(match sealL st (bif ow then [] else dS st.sto (np (tq l)) []) with
   | some ss=>Ay (kj (rL rs) ss.fr) ss.sto (bn cs) (np (jF ss.sto 1000 (Az ss.sto (bn cs)++kV (kj (rL rs) ss.fr)) []))
   | none=>none)
 | none=>none
theorem Lb{T:Tab}{ow:Bool}{rs:List ResultVar}{cs:Sto}{st st':St}{a:Act}(h:GV T ow rs cs st=some st')(hr:Rel c st a w σ φ):∃ σ2 φ2,Rel c st' a w σ2 φ2:=by
 unfold GV at h
 split at h<;>(try (simp at h;done))
 split at h<;>(try (simp at h;done))
 rename_i ss hss
 obtain⟨σs,_,h1,_⟩:=Rel.sealL hss hr
 obtain⟨φ2,h2⟩:=h1.endTo (fun s v hv=>pK hv) h
 exact⟨σs,φ2,h2⟩
def RU(cs s:Sto)(more:List Nat):List Nat:=bn cs++np (jF s 1000 (Az s (bn cs)++more) [])
def Lc(V:Env)(mf:FuncId→Bool)(rg:List Nat)(orc:Orc)(ow:Bool)(fn:Func)(code:Code)(args:List AV)(cs:Sto):Option (AV×Sto) :=
 bif Nat.ble args.length fn.ntmps then (match cB V mf rg orc fn.ntmps true true code ⟨mW 0 args,cs⟩ with
  | some (.ex _,_)=>none
  | some (.mk,_)=>none
  | some (_,st)=>(match GV V.T ow fn.results.toList cs st with
    | some ss=>(match nR V.T ss fn.results.toList with
      | some l'=>(match qO l' with|some rav=>some (rav,gB ss.sto (RU cs ss.sto (cH rav)))|none=>none)
      | none=>none)
    | none=>none)
  | none=>none) else none
theorem N5{V:Env}(hV:EnvOk P V){mf:FuncId→Bool}{rg:List Nat}{ow:Bool}{orc:Orc}(hO:OrcOk P orc)(hm:P.follows .mixedOrders=true){f:FuncId}{fn:Func}{code:Code}{args:List AV}{cs rs:Sto}{rav:AV}(hf:P.funcs[f]?=some fn)(hb:fn.body=some code)
  (hname : (fn.name == "runtime.NumGoroutine") = false) (h : Lc V mf rg orc ow fn code args cs = some (rav, rs)) : CallA P f args cs rav rs := by
 unfold Lc at h
 cases hn:Nat.ble args.length fn.ntmps<;>simp only[hn,Yf,Ye,reduceCtorEq] at h
 refine uv hV.T hf hb hname hn fun w0 σ0 φ0 M=>?_
 split at h
 ·simp at h
 ·simp at h
 ·rename_i e st hne hne2 hx
  split at h<;>(try (simp at h;done))
  rename_i ss hss
  split at h<;>(try (simp at h;done))
  rename_i l' hl'
  split at h<;>simp at h
  rename_i rav' hrav
  obtain⟨rfl,rfl⟩:=h
  have hok:=vH hV hO hm code true true ⟨w0,σ0,φ0,M,fn.ntmps,none,[]⟩ _ _ _ (fun _=>rfl) (fun _=>⟨rfl,rfl⟩) hx (by rintro rfl;exact hne2 rfl)
  refine kF (Jh hok fun hr=>Lb hss hr) ?_
  rintro ex s ⟨rfl,rfl⟩
  refine⟨?_,l',hl',hrav,keepK_sub⟩
  cases e with
  | norm=>exact .inr rfl
  | ret=>exact .inl rfl
  | ex i=>exact absurd rfl (hne i)
  | mk=>exact absurd rfl hne2
 ·simp at h
def Ld(cs:Sto)(st:St):Option St:=Ay [] st.sto (bn cs) (np (jF st.sto 1000 (Az st.sto (bn cs)) []))
def CT(V:Env)(mf:FuncId→Bool)(rg:List Nat)(orc:Orc)(j:Nat)(args:List AV)(cs:Sto):Option (AV×Sto) :=
 match look cs j with
 | some (.loop li fr .ready none)=>bif (Nat.ble 1000000 j&&Nat.blt j 2000000)&&(ka li.n li.params.toList&&Nat.beq li.params.toList.length args.length) then
   (match cB V mf rg orc li.n false false li.assign ⟨gX li.params.toList args fr,cs⟩ with
   | some (.norm,st1)=>(match look st1.sto j with
     | some (.loop li1 fr1 .ready none)=>(match cB V mf rg orc li.n false false li.body ⟨st1.fr,cD j (.loop li1 fr1 .busy none) st1.sto⟩ with
       | some (e,st2)=>(match Ld cs st2 with
         | some ss=>(match look ss.sto j with
           | some (.loop li2 fr2 .busy _)=>(match e with
             | .norm=>some (.one (.d (.bool true)),gB (cD j (.loop li2 fr2 .ready none) ss.sto) (bn ss.sto))
             | .ret=>some (.one (.d (.bool false)),gB (cD j (.loop li2 fr2 .done (some .ret)) ss.sto) (bn ss.sto))
             | .ex i=>some (.one (.d (.bool false)),gB (cD j (.loop li2 fr2 .done (some (.exit i))) ss.sto) (bn ss.sto))
             | .mk=>none)
           | _=>none)
         | none=>none)
       | none=>none)
     | _=>none)
   | _=>none) else none
 | _=>none
theorem Ji{V:Env}(hV:EnvOk P V){mf:FuncId→Bool}{rg:List Nat}{orc:Orc}(hO:OrcOk P orc)(hm:P.follows .mixedOrders=true){j:Nat}{args:List AV}{cs rs:Sto}{rav:AV}(h:CT V mf rg orc j args cs=some (rav,rs)):YieldA P j args cs rav rs:=by
 unfold CT at h
 split at h<;>(try (simp at h;done))
 rename_i li fr hl
 cases hb:(Nat.ble 1000000 j&&Nat.blt j 2000000)&&(ka li.n li.params.toList&&Nat.beq li.params.toList.length args.length)<;>simp only[hb,Yf,Ye,reduceCtorEq] at h
 rw[WX] at hb
 split at h<;>(try (simp at h;done))
 rename_i st1 hx1
 split at h<;>(try (simp at h;done))
 rename_i li1 fr1 hl1
 split at h<;>(try (simp at h;done))
 rename_i e st2 hx2
 split at h<;>(try (simp at h;done))
 rename_i ss hss
 split at h<;>(try (simp at h;done))
 rename_i li2 fr2 p2 hl2
 refine sb (by have:=hb.1;simp only[WX,Nat.ble_eq,Yb] at this;exact this) hl hb.2 fun w0 σ0 φ0 M B=>?_
 have h1:=vH hV hO hm li.assign false false ⟨w0,σ0,φ0,M,li.n,some B,[]⟩ _ _ _ (fun h=>by cases h) (fun h=>by cases h) hx1 (by simp)
 have h2:=vH hV hO hm li.body false false ⟨w0,σ0,φ0,M,li.n,some B,[]⟩ _ _ _ (fun h=>by cases h) (fun h=>by cases h) hx2 (by rintro rfl;exact xi _ hx2)
 have h3:=Jh (ss:=ss) h2 (fun {a w σ φ mk} hr=>by
  obtain⟨φ2,h⟩:=hr.endTo (fr2:=[]) (fun s v hv=>by simp[look] at hv) hss
  exact⟨σ,φ2,h⟩)
 refine kF h1 ?_
 rintro ex s ⟨rfl,rfl⟩
 refine⟨rfl,li1,fr1,hl1,kF h3 ?_⟩
 rintro ex s ⟨rfl,rfl⟩
 refine⟨li2,fr2,p2,hl2,?_⟩
 cases e with
 | norm =>
   simp only[W5,XJ] at h
   obtain⟨rfl,rfl⟩:=h
   exact .inl ⟨rfl,rfl,keepK_sub⟩
 | ret =>
   simp only[W5,XJ] at h
   obtain⟨rfl,rfl⟩:=h
   exact .inr ⟨_,rfl,rfl,keepK_sub⟩
 | ex i =>
   simp only[W5,XJ] at h
   obtain⟨rfl,rfl⟩:=h
   exact .inr ⟨_,rfl,rfl,keepK_sub⟩
 | mk=>simp at h
structure Cfg where
 mf:List Nat
 ow:List (Nat×List Nat)
def Cfg.rg(cf:Cfg)(f:Nat):List Nat:=match look cf.ow f with|some l=>l|none=>[]
def vr(P:Program)(V:Env)(cf:Cfg)(sp:Orc):Nat→Orc
 | 0=>sp
 | n+1=>fun f ow avs cs=>match sp f ow avs cs with
   | some r=>some r
   | none=>match f with
     | some f=>(match P.funcs[f]? with
       | some fn=>match fn.body with
         | some code=>Lc V (fun f=>cT f cf.mf) (cf.rg f) (vr P V cf sp n) ow fn code avs cs
         | none=>none
       | none=>none)
     | none=>(match avs with
       | .one (.yl j)::args=>CT V (fun f=>cT f cf.mf) [] (vr P V cf sp n) j args cs
       | _=>none)
theorem tI {P : Program} {V : Env} (hV : EnvOk P V) (hm : P.follows .mixedOrders = true) (hname : ∀ (f : FuncId) (fn : Func), P.funcs[f]? = some fn → (fn.name == "runtime.NumGoroutine") = false) {cf : Cfg} {sp : Orc} (hs : OrcOk P sp) : ∀ n, OrcOk P (vr P V cf sp n)
 | 0=>hs
 | n+1=>by
   refine⟨fun f b avs cs r s h=>?_,fun j b avs cs r s h=>?_⟩
   ·simp only[vr] at h
    split at h
    ·rename_i r' hr
     simp at h;subst h
     exact hs.call f b avs cs _ _ hr
    split at h<;>(try (simp at h;done))
    rename_i fn hf
    split at h<;>(try (simp at h;done))
    rename_i code hc
    exact N5 hV (tI hV hm hname hs n) hm hf hc (hname f fn hf) h
   ·simp only[vr] at h
    split at h
    ·rename_i r' hr
     simp at h;subst h
     exact hs.yld j b avs cs _ _ hr
    exact Ji hV (tI hV hm hname hs n) hm h
end Go.Abs
namespace Go.Abs
open Go
def lEq{α:Type}(eq:α→α→Bool):List α→List α→Bool
 | [],[]=>true
 | x::xs,y::ys=>eq x y&&lEq eq xs ys
 | _,_=>false
theorem eZ{α:Type}{eq:α→α→Bool}(h:∀ a b,eq a b=true→a=b):∀ {x y:List α},lEq eq x y=true→x=y
 | [],[],_=>rfl
 | a::x,b::y,he=>by
   simp only[lEq,WX] at he
   rw[h _ _ he.1,eZ h he.2]
 | [],_::_,he=>by simp[lEq] at he
 | _::_,[],he=>by simp[lEq] at he
def iEq:Int→Int→Bool
 | .ofNat a,.ofNat b=>Nat.beq a b
 | .negSucc a,.negSucc b=>Nat.beq a b
 | _,_=>false
theorem Qj{a b:Int}(h:iEq a b=true):a=b:=by
 cases a<;>cases b<;>simp only[iEq,reduceCtorEq] at h<;>rw[W4 h]
def Qk(a b:UInt8):Bool:=Nat.beq a.toNat b.toNat
theorem NQ(a b:UInt8)(h:Qk a b=true):a=b:=UInt8.toNat.inj (W4 h)
def dEq:Nat→D→D→Bool
 | 0,_,_=>false
 | _+1,.int k x,.int k' y=>kEq k k'&&iEq x y
 | _+1,.bool x,.bool y=>bEq x y
 | _+1,.str x,.str y=>lEq Qk x y
 | _+1,.nil,.nil=>true
 | n+1,.sl k b xs,.sl k' b' ys=>Nat.beq k k'&&(Nat.beq b b'&&lEq (lEq (dEq n)) xs ys)
 | n+1,.ptr xs,.ptr ys=>lEq (dEq n) xs ys
 | n+1,.fn f xs,.fn g ys=>Nat.beq f g&&lEq (dEq n) xs ys
 | _+1,_,_=>false
theorem tc:∀ n a b,dEq n a b=true→a=b
 | 0,_,_,h=>by simp[dEq] at h
 | n+1,a,b,h=>by
   have ih:=tc n
   cases a<;>cases b<;>simp only[dEq,WX,reduceCtorEq] at h
   ·rw[gR h.1,Qj h.2]
   ·rw[jl h]
   ·rw[eZ NQ h]
   ·rfl
   ·rw[W4 h.1,W4 h.2.1,eZ (fun _ _=>eZ ih) h.2.2]
   ·rw[eZ ih h]
   ·rw[W4 (n:=_) (m:=_) h.1,eZ ih h.2]
def cEq:AC→AC→Bool
 | .d x,.d y=>dEq 20 x y
 | .own a b,.own a' b'=>Nat.beq a a'&&Nat.beq b b'
 | .sub a b c,.sub a' b' c'=>Nat.beq a a'&&(Nat.beq b b'&&Nat.beq c c')
 | .ref a b,.ref a' b'=>Nat.beq a a'&&Nat.beq b b'
 | .rref a b c,.rref a' b' c'=>Nat.beq a a'&&(Nat.beq b b'&&Nat.beq c c')
 | .yl a,.yl b=>Nat.beq a b
 | .mapr a,.mapr b=>Nat.beq a b
 | .bsl a b c,.bsl a' b' c'=>Nat.beq a a'&&(Nat.beq b b'&&Nat.beq c c')
 | .junk,.junk=>true
 | _,_=>false
theorem xd(a b:AC)(h:cEq a b=true):a=b:=by
 cases a<;>cases b<;>simp only[cEq,WX,reduceCtorEq] at h
 ·rw[tc _ _ _ h]
 ·rw[W4 h.1,W4 h.2]
 ·rw[W4 h.1,W4 h.2.1,W4 h.2.2]
 ·rw[W4 h.1,W4 h.2]
 ·rw[W4 h.1,W4 h.2.1,W4 h.2.2]
 ·rw[W4 h]
 ·rw[W4 h]
 ·rw[W4 h.1,W4 h.2.1,W4 h.2.2]
 ·rfl
def tEq(a b:Bool×List AC):Bool:=bEq a.1 b.1&&lEq cEq a.2 b.2
theorem Ql(a b:Bool×List AC)(h:tEq a b=true):a=b:=by
 obtain⟨a1,a2⟩:=a;obtain⟨b1,b2⟩:=b
 simp only[tEq,WX] at h
 rw[jl h.1,eZ xd h.2]
def vEq:AV→AV→Bool
 | .one a,.one b=>cEq a b
 | .agg a,.agg b=>lEq cEq a b
 | .tup a,.tup b=>lEq tEq a b
 | .any,.any=>true
 | _,_=>false
theorem I0(a b:AV)(h:vEq a b=true):a=b:=by
 cases a<;>cases b<;>simp only[vEq,reduceCtorEq] at h
 ·rw[xd _ _ h]
 ·rw[eZ xd h]
 ·rw[eZ Ql h]
 ·rfl
def KO(a b:List D×List D):Bool:=lEq (dEq 20) a.1 b.1&&lEq (dEq 20) a.2 b.2
theorem NR(a b:List D×List D)(h:KO a b=true):a=b:=by
 obtain⟨a1,a2⟩:=a;obtain⟨b1,b2⟩:=b
 simp only[KO,WX] at h
 rw[eZ (tc _) h.1,eZ (tc _) h.2]
def oEq:AObj→AObj→Bool
 | .box a,.box b=>lEq cEq a b
 | .row k b xs,.row k' b' ys=>Nat.beq k k'&&(Nat.beq b b'&&lEq (lEq (dEq 20)) xs ys)
 | .map g v xs,.map g' v' ys=>bEq g g'&&(bEq v v'&&lEq KO xs ys)
 | _,_=>false
theorem Qm(a b:AObj)(h:oEq a b=true):a=b:=by
 cases a<;>cases b<;>simp only[oEq,WX,reduceCtorEq] at h
 ·rw[eZ xd h]
 ·rw[W4 h.1,W4 h.2.1,eZ (fun _ _=>eZ (tc _)) h.2.2]
 ·rw[jl h.1,jl h.2.1,eZ NR h.2.2]
def pEq(a b:Nat×AObj):Bool:=Nat.beq a.1 b.1&&oEq a.2 b.2
theorem I1(a b:Nat×AObj)(h:pEq a b=true):a=b:=by
 obtain⟨a1,a2⟩:=a;obtain⟨b1,b2⟩:=b
 simp only[pEq,WX] at h
 rw[W4 (n:=_) (m:=_) h.1,Qm _ _ h.2]
structure Ent where
 f:FuncId
 ow:Bool
 avs:List AV
 cs:Sto
 r:AV
 s:Sto
def cK(P:Program)(e:Ent):Prop:=CallA P e.f e.avs e.cs e.r e.s
def CE(e:Ent)(f:FuncId)(ow:Bool)(avs:List AV)(cs:Sto):Bool :=
 Nat.beq e.f f&&(bEq e.ow ow&&(lEq vEq e.avs avs&&lEq pEq e.cs cs))
def spT:List Ent→Orc
 | [],_,_,_,_=>none
 | _,none,_,_,_=>none
 | e::l,some f,ow,avs,cs=>bif CE e f ow avs cs then some (e.r,e.s) else spT l (some f) ow avs cs
def GN(P:Program):List Ent→Prop
 | []=>True
 | e::l=>cK P e∧GN P l
theorem B6{P:Program}:∀ {l:List Ent},GN P l→OrcOk P (spT l)
 | [],_=>⟨fun f b avs cs r s h=>by simp[spT] at h,fun j b avs cs r s h=>by simp[spT] at h⟩
 | e::l,hl=>by
   refine⟨fun f b avs cs r s h=>?_,fun j b avs cs r s h=>by simp[spT] at h⟩
   simp only[spT] at h
   cases hb:CE e f b avs cs with
   | false=>simp only[hb,Ye] at h;exact (B6 hl.2).call f b avs cs r s h
   | true =>
     simp only[hb,Yf,W5,XJ] at h
     obtain⟨rfl,rfl⟩:=h
     simp only[CE,WX] at hb
     have h1:=W4 (n:=_) (m:=_) hb.1
     have h2:=eZ I0 hb.2.2.1
     have h3:=eZ I1 hb.2.2.2
     subst h1;subst h2;subst h3
     exact hl.1
def bh(P:Program)(V:Env)(cf:Cfg)(l:List Ent)(n:Nat)(e:Ent):Bool :=
 match vr P V cf (spT l) n (some e.f) e.ow e.avs e.cs with
 | some (r,s)=>vEq r e.r&&lEq pEq s e.s
 | none=>false
structure ProgOk (P:Program) (V:Env):Prop where
 env:EnvOk P V
 mo:P.follows .mixedOrders=true
 name : ∀ (f : FuncId) (fn : Func), P.funcs[f]? = some fn → (fn.name == "runtime.NumGoroutine") = false
theorem bD{P:Program}{V:Env}(hP:ProgOk P V){cf:Cfg}{l:List Ent}(hl:GN P l){n:Nat}{e:Ent}(h:bh P V cf l n e=true):cK P e:=by
 unfold bh at h
 split at h<;>(try (simp at h;done))
 rename_i r s hr
 simp only[WX] at h
 have h1:=I0 _ _ h.1
 have h2:=eZ I1 h.2
 subst h1;subst h2
 exact (tI hP.env hP.mo hP.name (B6 hl) n).call _ _ _ _ _ _ hr
def kkB:List KK→List KK→Bool
 | [],[]=>true
 | .int k::r,.int k'::r'=>kEq k k'&&kkB r r'
 | .bool::r,.bool::r'=>kkB r r'
 | .str::r,.str::r'=>kkB r r'
 | _,_=>false
theorem wQ:∀ {a b:List KK},kkB a b=true→a=b
 | [],[],_=>rfl
 | .int k::r,.int k'::r',h=>by
   simp only[kkB,WX] at h
   rw[gR h.1,wQ h.2]
 | .bool::r,.bool::r',h=>by rw[wQ (show kkB r r'=true from h)]
 | .str::r,.str::r',h=>by rw[wQ (show kkB r r'=true from h)]
 | [],_::_,h=>by simp[kkB] at h
 | .int _::_,[],h=>by simp[kkB] at h
 | .bool::_,[],h=>by simp[kkB] at h
 | .str::_,[],h=>by simp[kkB] at h
 | .int _::_,.bool::_,h=>by simp[kkB] at h
 | .int _::_,.str::_,h=>by simp[kkB] at h
 | .bool::_,.int _::_,h=>by simp[kkB] at h
 | .bool::_,.str::_,h=>by simp[kkB] at h
 | .str::_,.int _::_,h=>by simp[kkB] at h
 | .str::_,.bool::_,h=>by simp[kkB] at h
def shB(P:Program)(t:TypeId)(ks:List KK):Bool:=match gn P 6 t with|some l=>kkB l ks|none=>false
theorem II{P:Program}{t:TypeId}{ks:List KK}(h:shB P t ks=true):gn P 6 t=some ks:=by
 unfold shB at h
 split at h
 ·rename_i l hl
  rw[hl,wQ h]
 ·cases h
def eB(P:Program)(t:TypeId)(ks:List KK):Bool:=shB P t ks&&P.keyTypeAt 6 t&&k8 P t&&!P.eqGuardType P.depth t
def GG(P:Program):uL→Bool
 | []=>true
 | (t,ks)::r=>eB P t ks&&GG P r
theorem Bk{P:Program}:∀ {E:uL},GG P E=true→AU P E
 | [],_=>fun t ks h=>by simp[look] at h
 | (t',ks')::r,h=>by
   simp only[GG,WX] at h
   intro t ks hl
   rcases ah hl with⟨rfl,rfl⟩|⟨_,hl⟩
   ·have h1:=h.1
    simp only[eB,WX,Xe] at h1
    exact⟨II h1.1.1.1,h1.1.1.2,h1.1.2,h1.2⟩
   ·exact Bk h.2 t ks hl
def Cc(P:Program)(t:TypeId):List KK→Bool
 | [.int k]=>(match P.underlying t with|some (.int k')=>kEq k' k|_=>false)
 | [.bool]=>(match P.underlying t with|some .bool=>true|_=>false)
 | [.str]=>(match P.underlying t with|some .string=>true|_=>false)
 | _=>false
theorem IJ{P:Program}{t:TypeId}{ks:List KK}(h:Cc P t ks=true):∃ k,ks=[k]∧P.underlying t=some (pa k):=by
 unfold Cc at h
 split at h
 ·split at h
  ·rename_i k k' hu
   refine⟨_,rfl,?_⟩
   rw[hu,gR h];rfl
  ·cases h
 ·split at h
  ·rename_i hu;exact⟨_,rfl,hu⟩
  ·cases h
 ·split at h
  ·rename_i hu;exact⟨_,rfl,hu⟩
  ·cases h
 ·cases h
def mB(P:Program)(t:TypeId)(m:MTy):Bool :=
 (match P.underlying t with|some (.map k e)=>Nat.beq k m.kt&&Nat.beq e m.et|_=>false) &&
 (shB P m.kt m.ks&&P.keyTypeAt 6 m.kt&&bEq (k8 P m.kt) m.kg&&!P.eqGuardType P.depth m.kt&&(m.kg||Cc P m.kt m.ks)) &&
 (match P.info? m.et with
  | some i=>(match i.zero with
    | some zv=>oo m.z zv.cells.toList&&m.z.all iX&&(if m.vg then wR zv else (zv.oneCell&&Nat.beq m.z.length 1))
    | none=>false)
  | none=>false)
theorem Ry{P:Program}{t:TypeId}{m:MTy}(h:mB P t m=true):MOk P t m:=by
 unfold mB at h
 simp only[WX] at h
 obtain⟨⟨h1,h2⟩,h3⟩:=h
 refine⟨?_,?_,?_⟩
 ·split at h1
  ·rename_i k e hu
   simp only[WX] at h1
   rw[hu,W4 h1.1,W4 h1.2]
  ·cases h1
 ·obtain⟨⟨⟨⟨a1,a2⟩,a3⟩,a4⟩,a5⟩:=h2
  refine⟨II a1,a2,jl a3,by simpa using a4,fun hk=>?_⟩
  rw[hk,Bool.false_or] at a5
  exact IJ a5
 ·split at h3
  ·rename_i i hi
   split at h3
   ·rename_i zv hz
    simp only[WX] at h3
    obtain⟨⟨b1,b2⟩,b3⟩:=h3
    refine⟨i,zv,hi,hz,fun σ=>?_⟩
    have hall:∀ x∈m.z,iX x=true:=by simpa using b2
    have hcells:=sW b1
    have hrep:All2 (Rep σ) m.z (m.z.map jW):=by
     have:∀ {l:List D},(∀ x∈l,iX x=true)→All2 (Rep σ) l (l.map jW):=by
      intro l
      induction l with
      | nil=>intro _;trivial
      | cons d l ih=>intro h;exact⟨n4 (h d (by simp)),ih fun x hx=>h x (by simp[hx])⟩
     exact this hall
    cases hg:m.vg with
    | true =>
      rw[hg] at b3
      simp only[if_true] at b3
      cases zv<;>simp[wR] at b3
      rename_i cs
      refine⟨cs.toList,by simp,?_⟩
      rw[show cs.toList=m.z.map jW from hcells]
      exact hrep
    | false =>
      rw[hg] at b3
      simp only[XD,if_false,WX] at b3
      have hl:=W4 b3.2
      have hone:zv.cells.toList=[zv]:=by
       have:=b3.1
       cases zv<;>first|rfl|simp[Value.oneCell] at this
      rw[hone] at hcells
      show All2 (Rep σ) m.z [zv]
      rw[hcells]
      exact hrep
   ·cases h3
  ·cases h3
def GH(P:Program):FJ→Bool
 | []=>true
 | (t,m)::r=>mB P t m&&GH P r
theorem Bl{P:Program}:∀ {M:FJ},GH P M=true→∀ t m,look M t=some m→MOk P t m
 | [],_=>fun t ks h=>by simp[look] at h
 | (t',ks')::r,h=>by
   simp only[GH,WX] at h
   intro t ks hl
   rcases ah hl with⟨rfl,rfl⟩|⟨_,hl⟩
   ·exact Ry h.1
   ·exact Bl h.2 t ks hl
end Go.Abs
namespace Go.Abs
open Go
variable {P:Program} {T:Tab} {w0:World} {σ0:Sig} {φ0:Pl} {M:Nat→Prop} {n:Nat} {rd:Option Nat} {mk:List Deferred} {ops:Array Oper} {o:Oper} {rest:List Oper} {fr:List (Nat×AV)} {sto:Sto} {K:St→Prop}
theorem kl(hT:bg P T){d:Nat}{v:AV}(hg:o.guard=none)(hdst:o.dst=some d)(hd:Nat.blt d n=true)(hv:cL T ⟨fr,sto⟩ o.op=some v)
  (h:aa P ⟨w0,σ0,φ0,M,n,rd,mk⟩ ops rest ⟨(d,v)::fr,sto⟩ K):aa P ⟨w0,σ0,φ0,M,n,rd,mk⟩ ops (o::rest) ⟨fr,sto⟩ K :=
 y7 hT hg (by rw[hdst];exact hd) hv (by rw[hdst];exact h)
def Er:BinOp→Bool
 | .add|.sub|.mul=>true
 | _=>false
def LU:BinOp→Int→Int→Int
 | .add,x,y=>x+y
 | .sub,x,y=>x-y
 | _,x,y=>x*y
theorem xU{k:IntKind}{z:Int}(h:inR k z):k.wrap z=z:=by
 unfold inR at h
 unfold IntKind.wrap
 cases k<;>simp[IntKind.signed,IntKind.bits,IntKind.min,IntKind.max] at h ⊢<;>(try split)<;>omega
theorem fx{z:Int}(h1:-9223372036854775808≤z)(h2:z≤9223372036854775807):IntKind.i64.wrap z=z :=
 xU ⟨by simp[IntKind.min,IntKind.signed,IntKind.bits];exact h1,by simp[IntKind.max,IntKind.signed,IntKind.bits];exact h2⟩
theorem Es{j:Nat}{want b:Bool}(hg:o.guard=some (j,want))(hb:gQ ⟨fr,sto⟩ ops j=some (some b))(hw:b=want)
  (h:aa P ⟨w0,σ0,φ0,M,n,rd,mk⟩ ops ({ o with guard:=none }::rest) ⟨fr,sto⟩ K):aa P ⟨w0,σ0,φ0,M,n,rd,mk⟩ ops (o::rest) ⟨fr,sto⟩ K:=ue hg hb hw h
theorem LV{d j:Nat}{want b:Bool}(hg:o.guard=some (j,want))(hb:gQ ⟨fr,sto⟩ ops j=some (some b))(hw:b=!want)(hdst:o.dst=some d)(hd:Nat.blt d n=true)
  (h:aa P ⟨w0,σ0,φ0,M,n,rd,mk⟩ ops rest ⟨(d,.tup [])::fr,sto⟩ K):aa P ⟨w0,σ0,φ0,M,n,rd,mk⟩ ops (o::rest) ⟨fr,sto⟩ K :=
 sC hg hb (by rw[hw];cases want<;>simp) (by rw[hdst];exact hd) (by rw[hdst];exact h)
end Go.Abs
