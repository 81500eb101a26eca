import Derived.Test.YtpejdgkaapnekaaGreatFP9
import Derived.Test.YtpejdgkaapnekaaGreatFP5
set_option linter.unusedVariables false
set_option linter.unusedSimpArgs false
set_option maxHeartbeats 1000000
namespace Go.Abs
open Go
variable {P : Program} {c : Ctx} {T : Tab} {σ : Sig} {φ : Pl} {w : World}
def xx(d : Nat)(v : AV) : List (Nat×AV)→List (Nat×AV)
 | []=>[(d,v)]
 | (t,x)::r=>bif Nat.beq t d then (d,v)::r else (t,x)::xx d v r
def kc(d : Option Nat)(v : AV)(fr : List (Nat×AV)) : List (Nat×AV):=match d with
 | none=>fr
 | some d=>xx d v fr
theorem pt{d : Nat}{v : AV} : ∀ {fr : List (Nat×AV)} {t : Nat},look (xx d v fr) t = look ((d,v)::fr) t
 | [],_=>rfl
 | (s,x)::r,t=>by
   simp only [xx]
   cases hb : Nat.beq s d with
   | true =>
     have:=Nat.eq_of_beq_eq_true hb; subst this
     simp only [cond_true,look]
     cases Nat.beq s t <;> rfl
   | false =>
     simp only [cond_false,look,pt (fr:=r)]
     cases h1 : Nat.beq s t with
     | false=>rfl
     | true =>
       have e1:=Nat.eq_of_beq_eq_true h1; subst e1
       cases h2 : Nat.beq d s with
       | false=>rfl
       | true=>have:=Nat.eq_of_beq_eq_true h2; subst this; rw [Nat.beq_refl] at hb; cases hb
theorem ii{d : Option Nat}{v : AV}{fr : List (Nat×AV)}{t : Nat} : look (kc d v fr) t = look (bX d v fr) t:=by
 cases d with
 | none=>rfl
 | some d=>exact pt
def mY : List (Nat×AV)→List (Nat×AV)
 | []=>[]
 | (d,v)::r=>xx d v (mY r)
theorem qx : ∀ {fr : List (Nat×AV)} {t : Nat},look (mY fr) t = look fr t
 | [],_=>rfl
 | (d,v)::r,t=>by
   simp only [mY,pt,look,qx (fr:=r)]
theorem mZ{fr fr' : List (Nat×AV)}{sto : Sto}(h : ∀ t,look fr' t = look fr t) : Imp c ⟨fr,sto⟩ ⟨fr',sto⟩:=fun _ _ σ φ hr=>⟨σ,φ,hr.cong (st':=⟨fr',sto⟩) h fun _=>rfl⟩
def kq(opsA : Array Oper)(st : St)(o : Oper) : Option Bool :=
 match o.guard with
 | none=>some true
 | some (j,want)=>match f7 st opsA j with
   | some y=>some (y == some want)
   | none=>none
def Cp(o : Oper)(f : FuncId)(caps : List Operand)(st : St)(dl : List Nat) : Option St :=
 match dl with
 | []=>none
 | dl=>(match sealL st dl with
   | some ss=>(match evL ss caps with
     | some avs=>(match jw avs with | some ds=>some ⟨kc o.dst (.one (.d (.fn f ds))) ss.fr,ss.sto⟩ | none=>none)
     | none=>none)
   | none=>none)
def Cq : Option AV→Bool
 | some (.one (.rref _ _ _))=>true
 | _=>false
def xz(V : Env)(o : Oper)(st : St)(dl : List Nat) : Option St :=
 match dl with
 | []=>none
 | dl=>(match sealL st dl with
   | some ss=>(match bw V ss o 0 with
     | some ⟨v,wr,[]⟩=>some ⟨kc o.dst v ss.fr,c4 wr ss.sto⟩
     | _=>none)
   | none=>none)
def AO(V : Env)(st : St)(o : Oper) : Option St :=
 match o.op with
 | .makeFunc (.func f) ⟨[]⟩ caps=>Cp o f caps.toList st (dp st.sto (cE st caps.toList) [])
 | .store _ x y=>bif Cq (ev st x) then xz V o st (dp st.sto (pU st y) []) else none
 | _=>none
theorem Cr{V : Env}(hV : EnvOk P V){opsA : Array Oper}{l : List Oper}{st st' : St}{o : Oper}{K : St→Prop}{dl : List Nat}(hd : bu c.n o.dst = true)(h : xz V o st dl = some st')(hk : ao P c opsA l st' K) : ao P c opsA ({ o with guard:=none }::l) st K:=by
 unfold xz at h
 split at h <;> (try (simp at h; done))
 split at h <;> (try (simp at h; done))
 rename_i ss hss
 split at h <;> simp at h
 rename_i v wr hs
 subst h
 have hi : Imp c st ss:=fun a w σ φ hr=>by
  obtain ⟨σs,_,h3,_⟩:=Rel.sealL hss hr
  exact ⟨σs,φ,h3⟩
 exact eo hi (nT hV hd hs rfl (fun i hi=>by simp at hi) opsA l K (eo (mZ fun t=>ii) hk))
theorem D8{V : Env}(hV : EnvOk P V){opsA : Array Oper}{l : List Oper}{st st' : St}{o : Oper}{K : St→Prop}(hd : bu c.n o.dst = true)(h : AO V st o = some st')(hk : ao P c opsA l st' K) : ao P c opsA ({ o with guard:=none }::l) st K:=by
 unfold AO at h
 split at h <;> (try (simp at h; done))
 rotate_left
 ·rename_i t x y ho
  cases hb : Cq (ev st x) <;> simp only [hb,cond_true,cond_false,reduceCtorEq] at h
  exact Cr hV hd h hk
 rename_i f caps ho
 generalize dp st.sto (cE st caps.toList) [] = dl at h
 unfold Cp at h
 split at h <;> (try (simp at h; done))
 split at h <;> (try (simp at h; done))
 rename_i ss hss
 split at h <;> (try (simp at h; done))
 rename_i avs ha
 split at h <;> simp at h
 rename_i ds hds
 subst h
 refine bM rfl fun a w σ φ hr=>?_
 obtain ⟨σs,_,hs,_⟩:=Rel.sealL hss hr
 have h1:=l0 hds (gm hs ha)
 refine ⟨.func (.func f) #[] (caps.toList.map a.eval).toArray,w,⟨bX o.dst (.one (.d (.fn f ds))) ss.fr,ss.sto⟩,σs,φ,?_,hs.put (v:=.one (.d (.fn f ds))) hd (RepC.d (.fn _ h1.length.symm fun j d v hd hv=>?_)),eo (mZ fun t=>ii) hk⟩
 ·have e : (caps.toList.map a.eval).toArray = caps.map a.eval:=by rw [← Array.toList_map,Array.toArray_toList]
  rw [e]
  simp [execOp,ho,Instr.makeFunc]
 ·obtain ⟨u,hu,hru⟩:=h1.get hd
  rw [hv] at hu; cases hu; exact hru
def xA(orc : Orc)(ow : Bool)(id : Nat)(st : St)(dst : Option Nat)(fop : Operand)(args : List Operand)(dl : List Nat) : Option St :=
 match sealL st dl with
 | some ss=>(match ev ss fop,evL ss args with
   | some (.one (.d (.fn f caps))),some avs=>bif cT avs then (match orc (some f) ow (avs ++ caps.map fun x=>.one (.d x)) [] with
     | some (rav,rsto)=>bif eV rav then some ⟨kc dst rav st.fr,st.sto⟩
       else bif cW [] rsto && Nat.ble (id + 16) 1000000 && dr rsto rav && bL rsto rsto && dZ ss (rng id 16) then some ⟨kc dst (dO (rn id []) rav) ss.fr,c4 (sO (rn id []) rsto) ss.sto⟩ else none
     | none=>none) else none
   | _,_=>none)
 | none=>none
theorem Ct{orc : Orc}(hO : OrcOk P orc){ow : Bool}{id : Nat}{opsA : Array Oper}{l : List Oper}{st st' : St}{o : Oper}{K : St→Prop}{fop : Operand}{args : Array Operand}{ats : Array TypeId}{dl : List Nat}(ho : o.op = .call { callee:=.value fop,args:=args,argTypes:=ats })
  (hd : bu c.n o.dst = true) (h : xA orc ow id st o.dst fop args.toList dl = some st') (hk : ao P c opsA l st' K) : ao P c opsA ({ o with guard:=none }::l) st K:=by
 unfold xA at h
 split at h <;> (try (simp at h; done))
 rename_i ss hss
 split at h <;> (try (simp at h; done))
 rename_i f caps avs hf ha
 cases hD : cT avs <;> simp only [hD,cond_true,cond_false,reduceCtorEq] at h
 split at h <;> (try (simp at h; done))
 rename_i rav rsto hor
 have hi : Imp c st ss:=fun a w σ φ hr=>by
  obtain ⟨σs,_,h3,_⟩:=Rel.sealL hss hr
  exact ⟨σs,φ,h3⟩
 cases hfl : eV rav with
 | true =>
   simp only [hfl,cond_true,Option.some.injEq] at h
   subst h
   exact iu (o:={ o with guard:=none }) ho rfl hd hi hf ha hD (hO.call _ _ _ _ _ _ hor) hfl (eo (mZ fun t=>ii) hk)
 | false =>
   simp only [hfl,cond_false] at h
   cases hb : cW [] rsto && Nat.ble (id + 16) 1000000 && dr rsto rav && bL rsto rsto && dZ ss (rng id 16) <;> simp only [hb,cond_true,cond_false,reduceCtorEq,Option.some.injEq] at h
   subst h
   rw [Bool.and_eq_true] at hb
   refine eo hi (j6 (o:={ o with guard:=none }) id [] ho rfl hd rfl hf ha hD (hO.call _ _ _ _ _ _ hor) hb.1 (fun i h1 h2=>?_) (eo (mZ fun t=>ii) ?_))
   ·exact eE hb.2 i (rng_mem.2 ⟨h1,h2⟩)
   ·have:=jC (r:=rn id []) (s:=ss.sto) (d:=[]) (rs:=rsto)
    simp only [List.append_nil,c4] at this
    rw [this] at hk
    exact hk
def D9(V : Env)(mf : FuncId→Bool)(orc : Orc)(yf ow : Bool)(st : St)(o : Oper) : Option St :=
 match AO V st o with
 | some st'=>some st'
 | none=>match o.op with
   | .call { callee:=.value fop,args,.. }=>(match ev st fop with
     | some (.one (.d (.fn f _)))=>bif mf f then
       (match xTr V mf orc yf ow (ke st) st o with | some tr=>some ⟨kc o.dst tr.v st.fr,c4 tr.wr st.sto⟩ | none=>none)
       else xA orc ow (ke st) st o.dst fop args.toList (dp st.sto (cE st args.toList) [])
     | _=>(match xTr V mf orc yf ow (ke st) st o with | some tr=>some ⟨kc o.dst tr.v st.fr,c4 tr.wr st.sto⟩ | none=>none))
   | _=>(match xTr V mf orc yf ow (ke st) st o with | some tr=>some ⟨kc o.dst tr.v st.fr,c4 tr.wr st.sto⟩ | none=>none)
theorem FV{V : Env}(hV : EnvOk P V){mf : FuncId→Bool}{orc : Orc}(hO : OrcOk P orc){yf ow : Bool}(hy : yf = true→c.rd = none){opsA : Array Oper}{l : List Oper}{st st' : St}{o : Oper}{K : St→Prop}(hd : bu c.n o.dst = true)(h : D9 V mf orc yf ow st o = some st')
  (hk : ao P c opsA l st' K) : ao P c opsA ({ o with guard:=none }::l) st K:=by
 have key : ∀ {st' : St},(match xTr V mf orc yf ow (ke st) st o with | some tr=>some (⟨kc o.dst tr.v st.fr,c4 tr.wr st.sto⟩ : St) | none=>none) = some st'→ao P c opsA l st' K→ao P c opsA ({ o with guard:=none }::l) st K:=by
  intro st' h hk
  split at h <;> simp at h
  rename_i tr htr
  subst h
  obtain ⟨hl,hf⟩:=Bn hV hO hy hd htr
  exact hl st (fun _ _=>rfl) (fun _ _=>rfl) hf opsA l _ (eo (mZ fun t=>ii) hk)
 unfold D9 at h
 split at h
 ·rename_i s1 hs1
  simp only [Option.some.injEq] at h; subst h
  exact D8 hV hd hs1 hk
 split at h
 ·rename_i fop args ats ho
  split at h
  ·rename_i f caps hf
   cases hm : mf f with
   | true=>simp only [hm,cond_true] at h; exact key h hk
   | false=>simp only [hm,cond_false] at h; exact Ct hO ho hd h hk
  ·exact key h hk
 ·exact key h hk
def tM(V : Env)(mf : FuncId→Bool)(orc : Orc)(yf ow : Bool)(n : Nat)(opsA : Array Oper) : List Oper→St→Option St
 | [],st=>some st
 | o::r,st=>bif bu n o.dst then (match kq opsA st o with
   | some true=>(match D9 V mf orc yf ow st o with
     | some st'=>tM V mf orc yf ow n opsA r st'
     | none=>none)
   | some false=>tM V mf orc yf ow n opsA r ⟨kc o.dst (.tup []) st.fr,st.sto⟩
   | none=>none) else none
theorem tN{V : Env}(hV : EnvOk P V){mf : FuncId→Bool}{orc : Orc}(hO : OrcOk P orc){yf ow : Bool}(hy : yf = true→c.rd = none){opsA : Array Oper} : ∀ {l : List Oper} {st st' : St},tM V mf orc yf ow c.n opsA l st = some st'→ao P c opsA l st (fun s=>s = st')
 | [],st,st',h=>by
   simp only [tM,Option.some.injEq] at h; subst h
   exact ac rfl
 | o::r,st,st',h=>by
   simp only [tM] at h
   cases hd : bu c.n o.dst <;> simp only [hd,cond_true,cond_false,reduceCtorEq] at h
   cases hg : kq opsA st o with
   | none=>simp [hg] at h
   | some b =>
     cases b with
     | true =>
       simp only [hg] at h
       have hk : ao P c opsA ({ o with guard:=none }::r) st (fun s=>s = st'):=by
        split at h <;> (try (simp at h; done))
        rename_i s1 hs1
        exact FV hV hO hy hd hs1 (tN hV hO hy h)
       unfold kq at hg
       cases hgd : o.guard with
       | none =>
         have : ({ o with guard:=none } : Oper) = o:=by obtain ⟨_,_,_,_,_,g⟩:=o; simp only at hgd; subst hgd; rfl
         rw [this] at hk; exact hk
       | some gw =>
         obtain ⟨j,want⟩:=gw
         simp only [hgd] at hg
         split at hg <;> simp at hg
         rename_i b hb
         subst hg
         exact qg hgd hb rfl hk
     | false =>
       simp only [hg] at h
       unfold kq at hg
       cases hgd : o.guard with
       | none=>simp [hgd] at hg
       | some gw =>
         obtain ⟨j,want⟩:=gw
         simp only [hgd] at hg
         split at hg <;> simp at hg
         rename_i b hb
         exact oQ hgd hb (by simpa using hg) hd (eo (mZ fun t=>ii) (tN hV hO hy h))
def pV(V : Env)(mf : FuncId→Bool)(orc : Orc)(yf ow : Bool)(n : Nat)(opsA : Array Oper)(st0 : St) : Nat→List Oper→St→List Tr→Option St
 | _,[],st,acc=>bif jG opsA.toList st0 acc.reverse then some ⟨mY st.fr,st.sto⟩ else none
 | lo,o::r,st,acc=>bif bu n o.dst then (match kq opsA st o with
   | some true=>(match xTr V mf orc yf ow lo st o with
     | some tr=>pV V mf orc yf ow n opsA st0 (mx tr.new lo) r ⟨bX o.dst tr.v st.fr,c4 tr.wr st.sto⟩ (tr::acc)
     | none=>none)
   | some false=>pV V mf orc yf ow n opsA st0 lo r ⟨bX o.dst (.tup []) st.fr,st.sto⟩ (Tr.none::acc)
   | none=>none) else none
theorem rt{V : Env}(hV : EnvOk P V){mf : FuncId→Bool}{orc : Orc}(hO : OrcOk P orc){yf ow : Bool}(hy : yf = true→c.rd = none){opsA : Array Oper}{st0 : St} : ∀ {l : List Oper} {lo : Nat} {st st' : St} {acc : List Tr},pV V mf orc yf ow c.n opsA st0 lo l st acc = some st' →
  aU P c opsA st0 l st acc (fun s=>(⟨mY s.fr,s.sto⟩ : St) = st')
 | [],lo,st,st',acc,h=>by
   simp only [pV] at h
   cases hb : jG opsA.toList st0 acc.reverse <;> simp only [hb,cond_true,cond_false,reduceCtorEq,Option.some.injEq] at h
   exact ⟨hb,h⟩
 | o::r,lo,st,st',acc,h=>by
   simp only [pV] at h
   cases hd : bu c.n o.dst <;> simp only [hd,cond_true,cond_false,reduceCtorEq] at h
   have hgok : ∀ {b : Bool},kq opsA st o = some b→fN opsA st o b:=by
    intro b hg
    unfold kq at hg
    unfold fN
    cases hgd : o.guard with
    | none=>simp only [hgd,Option.some.injEq] at hg ⊢; exact hg.symm
    | some gw =>
      obtain ⟨j,want⟩:=gw
      simp only [hgd] at hg ⊢
      split at hg <;> simp at hg
      rename_i b' hb
      exact ⟨b',hb,hg.symm⟩
   cases hg : kq opsA st o with
   | none=>simp [hg] at h
   | some b =>
     cases b with
     | true =>
       simp only [hg] at h
       split at h <;> (try (simp at h; done))
       rename_i tr htr
       exact ⟨true,tr,hgok hg,fun _=>(Bn hV hO hy hd htr).1,fun e=>by simp at e,fun e=>by simp at e,rt hV hO hy h⟩
     | false =>
       simp only [hg] at h
       exact ⟨false,Tr.none,hgok hg,fun e=>by simp at e,fun _=>rfl,fun _=>hd,rt hV hO hy h⟩
inductive XE where
 | norm | ex (id : Nat) | ret
 /-- off the end, a loop's mark standing -/
 | mk
def XE.e : XE→Exit
 | .norm | .mk=>.normal
 | .ex i=>.exit i
 | .ret=>.ret
def jx(f : St→Option (XE×St)) : Nat→St→Option (XE×St)
 | 0,_=>none
 | n + 1,st=>match f st with
   | some (.norm,st')=>jx f n st'
   | some (.mk,_)=>none
   | r=>r
def FW : LoopState→Bool
 | .busy=>false
 | _=>true
def pOk : Option Code→Bool
 | none=>true
 | some .ret=>true
 | _=>false
def oz(st : St)(ids : List Nat)(idl : Nat)(li : LI)(os : List (Nat×AObj))(caps : List D)(rav : AV)(j : Nat)(liR : LI)(frR : List (Nat×AV))(s' : LoopState)(p' : Option Code)(rs : Sto) : Bool :=
 Nat.beq j 1000000 && l9 (idl::ids) os && !cC idl ids && fl ((idl,.loop li (cx ids st.fr []) .ready none)::st.sto) (cb 1000000 (idl::ids)) rs &&
 hkB (idl + 1) (idl::ids) ((1000000,.loop li (dj (inv 1000000 (idl::ids)) (cx ids st.fr [])) .ready none)::gp (inv 1000000 (idl::ids)) os) ((.one (.yl 1000000))::caps.map fun x=>.one (.d x)) rav ((1000000,.loop liR frR s' p')::rs) &&
 (Nat.blt idl (idl + 1) && jX st.sto idl && !bY idl st.fr && !br idl st.sto && Nat.ble (idl + 1 + 16) 1000000 && n7 (idl + 1) (cx ids st.fr []) && jX rs 1000000) &&
 dZ st (rng (idl + 1) 16) && FW s' && pOk p'
def zj(orc : Orc)(li : LI)(st : St)(f : FuncId)(caps : List D)(ids : List Nat)(idl : Nat) : Option (Option Code×St) :=
 match gY st.sto ids with
 | some os=>(match orc (some f) false ((.one (.yl 1000000))::caps.map fun x=>.one (.d x)) ((1000000,.loop li (dj (inv 1000000 (idl::ids)) (cx ids st.fr [])) .ready none)::gp (inv 1000000 (idl::ids)) os) with
   | some (rav,(j,.loop liR frR s' p')::rs)=>bif oz st ids idl li os caps rav j liR frR s' p' rs then some (p',⟨st.fr,iN (idl + 1) (cb 1000000 (idl::ids)) rs st.sto⟩) else none
   | _=>none)
 | none=>none
def xB(orc : Orc)(n : Nat)(g : Operand)(ps : Array Nat)(assign body : Code)(st : St) : Option (Option Code×St) :=
 match ev st g with
 | some (.one (.d (.fn f caps)))=>zj orc ⟨n,ps,assign,body⟩ st f caps (gX st.sto 1000 (i8 st.fr) []) (ke st)
 | _=>none
theorem uN{orc : Orc}(hO : OrcOk P orc){g : Operand}{ps : Array Nat}{assign body : Code}{st st' : St}{p : Option Code}(hrd : c.rd = none)(hmk : c.mks = [])(h : xB orc c.n g ps assign body st = some (p,st')) :
  ∀ (a : Act) (w : World) (σ : Sig) (φ : Pl),Rel c st a w σ φ→(Code.rangeFunc g ps assign body).wpIn (fnc c) 0 P (fun e a' w' =>
    (p = none∧e = .normal∧∃ c1 σ' φ',vT c c1∧Rel c1 st' a' w' σ' φ')∨(p = some .ret∧e = .ret∧∃ σ' φ',RelE c .ret st' a' w' σ' φ')) a w:=by
 unfold xB at h
 split at h <;> (try (simp at h; done))
 rename_i f caps hg
 generalize gX st.sto 1000 (i8 st.fr) [] = ids at h
 generalize ke st = idl at h
 unfold zj at h
 split at h <;> (try (simp at h; done))
 rename_i os hos
 split at h <;> (try (simp at h; done))
 rename_i rav j liR frR s' p' rs hor
 cases hb : oz st ids idl ⟨c.n,ps,assign,body⟩ os caps rav j liR frR s' p' rs <;> simp only [hb,cond_true,cond_false,reduceCtorEq,Option.some.injEq,Prod.mk.injEq] at h
 obtain ⟨rfl,rfl⟩:=h
 unfold oz at hb
 simp only [Bool.and_eq_true,Bool.not_eq_true'] at hb
 obtain ⟨⟨⟨⟨⟨⟨⟨⟨hj,hall⟩,hni⟩,hcm⟩,hk⟩,hi⟩,hfr⟩,hbu⟩,hp⟩:=hb
 have hj':=Nat.eq_of_beq_eq_true hj
 subst hj'
 have hren : dj (rn (idl + 1) (cb 1000000 (idl::ids))) (dj (inv 1000000 (idl::ids)) (cx ids st.fr [])) = cx ids st.fr [] :=
  lB fun i hi=>oq (by simp only [cC,Bool.or_eq_true]; exact .inr (jj i hi))
 have hne : ∀ i∈ids,i≠idl:=by
  intro i hmem e
  rw [e] at hmem
  rw [memL_iff.2 hmem] at hni; cases hni
 have e : dj (rn (idl + 1) ((1000000,idl)::cb 1000001 ids)) (dj (inv 1000000 (idl::ids)) (cx ids st.fr [])) = cx ids st.fr []:=hren
 refine ud (k:=idl + 1) (idl:=idl) (ρ:=cb 1000001 ids) hrd hmk hg (hO.call _ _ _ _ _ _ hor) (fun s v hv=>?_) ?_ ?_ hk ?_ ?_ ?_ ?_
 ·rw [e] at hv
  exact (gj hv).2
 ·exact jc (s:=(idl,_)::st.sto) ((jb (s:=st.sto) fun i hi=>bx (hne i hi)).trans hos) hall
 ·refine ir (s:=(idl,.loop ⟨c.n,ps,assign,body⟩ (cx ids st.fr []) .ready none)::st.sto) (fun j i _=>?_) hcm
  show look ((idl,AObj.loop _ _ _ _)::st.sto) i = _
  rw [e]
 ·rw [e]
  simp only [Bool.and_eq_true,Bool.not_eq_true']
  exact hi
 ·intro i h1 h2
  exact eE hfr i (rng_mem.2 ⟨h1,h2⟩)
 ·rintro rfl; cases hbu
 ·unfold pOk at hp
  split at hp
  ·exact .inl rfl
  ·exact .inr rfl
  ·cases hp
def cm(V : Env)(mf : FuncId→Bool)(rg : List Nat)(orc : Orc)(n : Nat) : Bool→Bool→Code→St→Option (XE×St)
 | _,_,.skip,st=>some (.norm,st)
 | _,yf,.region id ops true,st=>match pV V mf orc yf (cC id rg) n ops st (ke st) ops.toList st [] with | some st'=>some (.norm,st') | none=>none
 | _,yf,.region id ops false,st=>match tM V mf orc yf (cC id rg) n ops ops.toList st with | some st'=>some (.norm,st') | none=>none
 | rf,_,.rangeFunc g ps assign body,st=>bif rf then (match xB orc n g ps assign body st with
   | some (none,st')=>some (.mk,st')
   | some (some _,st')=>some (.ret,st')
   | none=>none) else none
 | rf,yf,.seq x y,st=>match cm V mf rg orc n rf yf x st with
   | some (.norm,st')=>cm V mf rg orc n rf yf y st'
   | some (.mk,st')=>(match cm V mf rg orc n false yf y st' with
     | some (.norm,s)=>some (.mk,s)
     | some (.ret,s)=>some (.ret,s)
     | _=>none)
   | r=>r
 | rf,yf,.cond o x y,st=>match ev st o with
   | some (.one (.d (.bool true)))=>cm V mf rg orc n rf yf x st
   | some (.one (.d (.bool false)))=>cm V mf rg orc n rf yf y st
   | _=>none
 | rf,yf,.block id x,st=>match cm V mf rg orc n rf yf x st with
   | some (.ex i,st')=>bif Nat.beq i id then some (.norm,st') else some (.ex i,st')
   | r=>r
 | rf,yf,.loop x,st=>jx (fun s=>cm V mf rg orc n rf yf x s) 100000 st
 | _,_,.exit id,st=>some (.ex id,st)
 | _,_,.ret,st=>some (.ret,st)
 | _,_,_,_=>none
def HO(c : Ctx)(e : XE)(st : St)(a : Act)(w : World)(σ : Sig)(φ : Pl) : Prop :=
 match e with
 | .mk=>∃ c1,vT c c1∧Rel c1 st a w σ φ
 | e=>RelE c e.e st a w σ φ
def OkX(P : Program)(c : Ctx)(code : Code)(st : St)(e : XE)(st' : St) : Prop :=
 ∀ (a : Act) (w : World) (σ : Sig) (φ : Pl),Rel c st a w σ φ→code.wpIn (fnc c) 0 P (fun x a' w'=>x = e.e∧∃ σ' φ',HO c e st' a' w' σ' φ') a w
def xC(e : XE)(st' : St) : Exit→St→Prop:=fun x s=>x = e.e∧s = st'
theorem OkX.of{code : Code}{st st' : St}{e : XE}(he : e≠.mk)(h : OkC P c code st (xC e st')) : OkX P c code st e st':=by
 intro a w σ φ hr
 refine wpIn_mono (h a w σ φ hr) ?_
 rintro x a' w' ⟨s,σ',φ',⟨rfl,rfl⟩,h2⟩
 refine ⟨rfl,σ',φ',?_⟩
 cases e <;> first | exact absurd rfl he | exact h2
theorem OkX.okC{code : Code}{st st' : St}{e : XE}(he : e≠.mk)(h : OkX P c code st e st') : OkC P c code st (xC e st'):=by
 intro a w σ φ hr
 refine wpIn_mono (h a w σ φ hr) ?_
 rintro x a' w' ⟨rfl,σ',φ',h2⟩
 refine ⟨st',σ',φ',⟨rfl,rfl⟩,?_⟩
 cases e <;> first | exact absurd rfl he | exact h2
theorem sA{V : Env}{mf : FuncId→Bool}{rg : List Nat}{orc : Orc}{n : Nat} : ∀ (z : Code) {st s : St},cm V mf rg orc n false false z st≠some (.mk,s):=by
 intro z
 induction z with
 | region id ops d =>
   intro st s h
   cases d <;> simp only [cm] at h <;> split at h <;> simp at h
 | seq x y ihx ihy =>
   intro st s h
   simp only [cm] at h
   split at h
   ·exact ihy h
   ·rename_i h1; exact ihx h1
   ·rename_i h1 h2; exact h2 _ h
 | cond o x y ihx ihy =>
   intro st s h
   simp only [cm] at h
   split at h
   ·exact ihx h
   ·exact ihy h
   ·simp at h
 | block id x ih =>
   intro st s h
   simp only [cm] at h
   split at h
   ·rename_i i st' h1
    cases hb : Nat.beq i id <;> simp [hb] at h
   ·exact ih h
 | loop x ih =>
   intro st s h
   simp only [cm] at h
   have key : ∀ (m : Nat) (st : St),jx (fun s=>cm V mf rg orc n false false x s) m st≠some (.mk,s):=by
    intro m
    induction m with
    | zero=>intro st h; simp [jx] at h
    | succ m ihm =>
      intro st h
      simp only [jx] at h
      split at h
      ·exact ihm _ h
      ·simp at h
      ·rename_i h1 h2; exact h2 _ h
   exact key _ _ h
 | _=>intro st s h; simp [cm] at h
theorem Cu{V : Env}(hV : EnvOk P V){mf : FuncId→Bool}{rg : List Nat}{orc : Orc}(hO : OrcOk P orc)(hm : P.follows .mixedOrders = true) : ∀ (code : Code) (rf yf : Bool) (c : Ctx) (st : St) (e : XE) (st' : St),(yf = true→c.rd = none)→(rf = true→c.rd = none∧c.mks = [])→cm V mf rg orc c.n rf yf code st = some (e,st')→OkX P c code st e st':=by
 intro code
 induction code with
 | skip =>
   intro rf yf c st e st' hy hr h
   simp only [cm,Option.some.injEq,Prod.mk.injEq] at h
   obtain ⟨rfl,rfl⟩:=h
   exact .of (by simp) (aw ⟨rfl,rfl⟩)
 | region id ops d =>
   intro rf yf c st e st' hy hr h
   cases d with
   | true =>
     simp only [cm] at h
     split at h <;> simp at h
     rename_i s hs
     obtain ⟨rfl,rfl⟩:=h
     have h1 : OkC P c (.region id ops true) st (fun x s'=>x = .normal∧(⟨mY s'.fr,s'.sto⟩ : St) = s) :=
      aR hm (by
       have:=rt (c:=c) hV hO hy hs
       simpa using this)
     refine .of (by simp) ?_
     intro a w σ φ hr
     refine wpIn_mono (h1 a w σ φ hr) ?_
     rintro e a' w' ⟨s',σ',φ',⟨rfl,rfl⟩,h2⟩
     exact ⟨_,σ',φ',⟨rfl,rfl⟩,.inl ((h2.rel (by simp)).cong (fun _=>qx) fun _=>rfl)⟩
   | false =>
     simp only [cm] at h
     split at h <;> simp at h
     rename_i s hs
     obtain ⟨rfl,rfl⟩:=h
     exact .of (by simp) (ae (AP (tN hV hO hy hs) fun s hs=>⟨rfl,hs⟩))
 | rangeFunc g ps assign body =>
   intro rf yf c st e st' hy hr h
   simp only [cm] at h
   cases rf with
   | false=>simp at h
   | true =>
     obtain ⟨hr1,hr2⟩:=hr rfl
     simp only [cond_true] at h
     intro a w σ φ hrel
     split at h <;> simp at h
     ·rename_i s1 hx
      obtain ⟨rfl,rfl⟩:=h
      refine wpIn_mono (uN hO hr1 hr2 hx a w σ φ hrel) ?_
      rintro x a' w' (⟨_,rfl,c1,σ',φ',h1,h2⟩ | ⟨h,_⟩)
      ·exact ⟨rfl,σ',φ',c1,h1,h2⟩
      ·cases h
     ·rename_i cd s1 hx
      obtain ⟨rfl,rfl⟩:=h
      refine wpIn_mono (uN hO hr1 hr2 hx a w σ φ hrel) ?_
      rintro x a' w' (⟨h,_⟩ | ⟨_,rfl,σ',φ',h2⟩)
      ·cases h
      ·exact ⟨rfl,σ',φ',h2⟩
 | seq x y ihx ihy =>
   intro rf yf c st e st' hy hr h
   simp only [cm] at h
   intro a w σ φ hrel
   cases hx : cm V mf rg orc c.n rf yf x st with
   | none=>simp [hx] at h
   | some r =>
     obtain ⟨e1,s1⟩:=r
     refine wpIn_seq (wpIn_mono (ihx _ _ _ _ _ _ hy hr hx a w σ φ hrel) ?_)
     rintro ex a1 w1 ⟨rfl,σ1,φ1,h1⟩
     cases e1 with
     | norm =>
       simp only [hx] at h
       exact ihy _ _ _ _ _ _ hy hr h a1 w1 σ1 φ1 (RelE.rel h1 (by simp [XE.e]))
     | ex i=>simp only [hx,Option.some.injEq,Prod.mk.injEq] at h; obtain ⟨rfl,rfl⟩:=h; exact ⟨rfl,σ1,φ1,h1⟩
     | ret=>simp only [hx,Option.some.injEq,Prod.mk.injEq] at h; obtain ⟨rfl,rfl⟩:=h; exact ⟨rfl,σ1,φ1,h1⟩
     | mk =>
       simp only [hx] at h
       obtain ⟨c1,⟨g1,g2,g3,g4⟩,h2⟩:=h1
       have hrun : ∀ {e2 : XE} {s2 : St},cm V mf rg orc c.n false yf y s1 = some (e2,s2)→y.wpIn (fnc c) 0 P (fun x a' w'=>x = e2.e∧∃ σ' φ',HO c1 e2 s2 a' w' σ' φ') a1 w1:=by
        intro e2 s2 hq
        rw [← g1] at hq
        have h3:=ihy false yf c1 s1 e2 s2 (fun _=>g2) (fun h=>by cases h) hq a1 w1 σ1 φ1 h2
        cases yf with
        | true =>
          have hf : fnc c1 = fnc c:=by rw [gH g2,gH (hy rfl)]
          rwa [hf] at h3
        | false =>
          cases rf with
          | true =>
            have hf : fnc c1 = fnc c:=by rw [gH g2,gH (hr rfl).1]
            rwa [hf] at h3
          | false =>
            exfalso
            have none : ∀ (z : Code) {st : St} {s : St},cm V mf rg orc c.n false false z st≠some (.mk,s):=sA
            exact none x hx
       split at h <;> (try (simp at h; done))
       ·rename_i s2 hs2
        simp only [Option.some.injEq,Prod.mk.injEq] at h
        obtain ⟨rfl,rfl⟩:=h
        refine wpIn_mono (hrun hs2) ?_
        rintro x a' w' ⟨rfl,σ',φ',h4⟩
        exact ⟨rfl,σ',φ',c1,⟨g1,g2,g3,g4⟩,RelE.rel h4 (by simp [XE.e])⟩
       ·rename_i s2 hs2
        simp only [Option.some.injEq,Prod.mk.injEq] at h
        obtain ⟨rfl,rfl⟩:=h
        refine wpIn_mono (hrun hs2) ?_
        rintro x a' w' ⟨rfl,σ',φ',h4⟩
        refine ⟨rfl,σ',φ',?_⟩
        rcases (show RelE c1 .ret _ a' w' σ' φ' from h4) with h5 | ⟨_,r,_,_,_,h5⟩
        ·exact g4 _ _ _ _ _ h5
        ·exact absurd h5.defers.symm g3
 | cond o x y ihx ihy =>
   intro rf yf c st e st' hy hr h
   simp only [cm] at h
   intro a w σ φ hrel
   split at h
   ·rename_i hb
    have h1:=RepC.d_inv (bh hrel hb)
    generalize hu : a.eval o = u at h1
    cases h1
    exact wpIn_cond_true hu (ihx _ _ _ _ _ _ hy hr h a w σ φ hrel)
   ·rename_i hb
    have h1:=RepC.d_inv (bh hrel hb)
    generalize hu : a.eval o = u at h1
    cases h1
    exact wpIn_cond_false hu (ihy _ _ _ _ _ _ hy hr h a w σ φ hrel)
   ·simp at h
 | block id x ih =>
   intro rf yf c st e st' hy hr h
   simp only [cm] at h
   intro a w σ φ hrel
   cases hx : cm V mf rg orc c.n rf yf x st with
   | none=>simp [hx] at h
   | some r =>
     obtain ⟨e1,s1⟩:=r
     refine wpIn_block (wpIn_mono (ih _ _ _ _ _ _ hy hr hx a w σ φ hrel) ?_)
     rintro ex a1 w1 ⟨rfl,σ1,φ1,h1⟩
     cases e1 with
     | norm=>simp only [hx,Option.some.injEq,Prod.mk.injEq] at h; obtain ⟨rfl,rfl⟩:=h; exact ⟨rfl,σ1,φ1,h1⟩
     | ret=>simp only [hx,Option.some.injEq,Prod.mk.injEq] at h; obtain ⟨rfl,rfl⟩:=h; exact ⟨rfl,σ1,φ1,h1⟩
     | mk=>simp only [hx,Option.some.injEq,Prod.mk.injEq] at h; obtain ⟨rfl,rfl⟩:=h; exact ⟨rfl,σ1,φ1,h1⟩
     | ex i =>
       simp only [hx] at h
       cases hb : Nat.beq i id with
       | true =>
         have hi:=Nat.eq_of_beq_eq_true hb
         simp only [hb,cond_true,Option.some.injEq,Prod.mk.injEq] at h
         obtain ⟨rfl,rfl⟩:=h
         simp only [XE.e,Exit.inBlock]
         rw [if_pos hi]
         exact ⟨trivial,σ1,φ1,.inl (RelE.rel h1 (by simp [XE.e]))⟩
       | false =>
         simp only [hb,cond_false,Option.some.injEq,Prod.mk.injEq] at h
         obtain ⟨rfl,rfl⟩:=h
         have hi : i≠id:=by rintro rfl; rw [Nat.beq_refl] at hb; cases hb
         simp only [XE.e,Exit.inBlock]
         rw [if_neg hi]
         exact ⟨trivial,σ1,φ1,h1⟩
 | loop x ih =>
   intro rf yf c st e st' hy hr h
   simp only [cm] at h
   have hne : ∀ {n : Nat} {s : St},jx (fun s=>cm V mf rg orc c.n rf yf x s) n s = some (e,st')→e≠.mk:=by
    intro n
    induction n with
    | zero=>intro s h; simp [jx] at h
    | succ n ihn =>
      intro s h
      simp only [jx] at h
      split at h
      ·exact ihn h
      ·simp at h
      ·rename_i h1 h2
       rintro rfl
       exact h2 _ h
   refine .of (hne h) (mC (fun n s=>jx (fun s=>cm V mf rg orc c.n rf yf x s) n s = some (e,st')) 100000 h fun n s hs=>?_)
   cases n with
   | zero=>simp [jx] at hs
   | succ n =>
     simp only [jx] at hs
     cases hx : cm V mf rg orc c.n rf yf x s with
     | none=>simp [hx] at hs
     | some r =>
       obtain ⟨e1,s1⟩:=r
       by_cases hmk : e1 = .mk
       ·subst hmk; simp [hx] at hs
       refine iO ((ih _ _ _ _ _ _ hy hr hx).okC hmk) ?_
       rintro ex s' ⟨rfl,rfl⟩
       cases e1 with
       | norm=>simp only [hx] at hs; exact ⟨n,_,by omega,hs,Imp.refl _⟩
       | ex i=>simp only [hx,Option.some.injEq,Prod.mk.injEq] at hs; obtain ⟨rfl,rfl⟩:=hs; exact ⟨rfl,rfl⟩
       | ret=>simp only [hx,Option.some.injEq,Prod.mk.injEq] at hs; obtain ⟨rfl,rfl⟩:=hs; exact ⟨rfl,rfl⟩
       | mk=>exact absurd rfl hmk
 | exit id =>
   intro rf yf c st e st' hy hr h
   simp only [cm,Option.some.injEq,Prod.mk.injEq] at h
   obtain ⟨rfl,rfl⟩:=h
   exact .of (by simp) (aW ⟨rfl,rfl⟩)
 | ret =>
   intro rf yf c st e st' hy hr h
   simp only [cm,Option.some.injEq,Prod.mk.injEq] at h
   obtain ⟨rfl,rfl⟩:=h
   exact .of (by simp) (am ⟨rfl,rfl⟩)
 | _=>intros; simp_all [cm]
theorem ru{V : Env}(hV : EnvOk P V){mf : FuncId→Bool}{rg : List Nat}{orc : Orc}(hO : OrcOk P orc)(hm : P.follows .mixedOrders = true)(code : Code)(rf yf : Bool)(c : Ctx)(st : St)(e : XE)(st' : St)(hy : yf = true→c.rd = none)(hr : rf = true→c.rd = none∧c.mks = [])(h : cm V mf rg orc c.n rf yf code st = some (e,st'))(he : e≠.mk) : OkC P c code st (xC e st') :=
 (Cu hV hO hm code rf yf c st e st' hy hr h).okC he
theorem Cv{code : Code}{st s' ss : St}{e : XE}(h : OkC P c code st (xC e s'))(hi : ∀ {a : Act} {w : World} {σ : Sig} {φ : Pl} {mk : List Deferred},Rel { c with mks:=mk } s' a w σ φ→∃ σ2 φ2,Rel { c with mks:=mk } ss a w σ2 φ2) : OkC P c code st (xC e ss):=by
 intro a w σ φ hr
 refine wpIn_mono (h a w σ φ hr) ?_
 rintro ex a' w' ⟨s'',σ',φ',⟨rfl,rfl⟩,hE⟩
 rcases hE with hr' | ⟨he',r,hd,hh,hge,hr'⟩
 ·obtain ⟨σ2,φ2,h4⟩:=hi (mk:=c.mks) hr'
  exact ⟨ss,σ2,φ2,⟨rfl,rfl⟩,.inl h4⟩
 ·obtain ⟨σ2,φ2,h4⟩:=hi (mk:=c.mks) hr'
  exact ⟨ss,σ2,φ2,⟨rfl,rfl⟩,.inr ⟨he',r,hd,hh,hge,h4⟩⟩
def n8 : List ResultVar→List Nat
 | []=>[]
 | .tmp t::r=>t::n8 r
 | .cell a _::r=>a::n8 r
def iC(l : List Nat) : List (Nat×AV)→List (Nat×AV)
 | []=>[]
 | (s,v)::r=>bif cC s l then (s,v)::iC l r else iC l r
theorem ms{l : List Nat} : ∀ {fr : List (Nat×AV)} {s : Nat} {v : AV},look (iC l fr) s = some v→look fr s = some v
 | [],_,_,h=>by simp [iC,look] at h
 | (t,x)::r,s,v,h=>by
   simp only [iC] at h
   cases hm : cC t l with
   | true =>
     simp only [hm,cond_true] at h
     rcases aB h with ⟨rfl,rfl⟩ | ⟨hne,h⟩
     ·exact bq
     ·rw [bx hne]; exact ms h
   | false =>
     simp only [hm,cond_false] at h
     by_cases e : s = t
     ·subst e
      exfalso
      have key : ∀ {fr : List (Nat×AV)} {s : Nat} {v : AV},look (iC l fr) s = some v→cC s l = true:=by
       intro fr
       induction fr with
       | nil=>intro s v h; simp [iC,look] at h
       | cons p r ih =>
         intro s v h
         obtain ⟨t,x⟩:=p
         simp only [iC] at h
         cases hm : cC t l with
         | true =>
           simp only [hm,cond_true] at h
           rcases aB h with ⟨rfl,rfl⟩ | ⟨_,h⟩
           ·exact hm
           ·exact ih h
         | false=>simp only [hm,cond_false] at h; exact ih h
      rw [key h] at hm; cases hm
     ·rw [bx e]; exact ms h
def AQ(T : Tab)(ow : Bool)(rs : List ResultVar)(cs : Sto)(st : St) : Option St :=
 match ld T st rs with
 | some l=>(match sealL st (bif ow then [] else dp st.sto (kI (pA l)) []) with
   | some ss=>vq (iC (n8 rs) ss.fr) ss.sto (bJ cs) (kI (gX ss.sto 1000 (vr ss.sto (bJ cs) ++ i8 (iC (n8 rs) ss.fr)) []))
   | none=>none)
 | none=>none
theorem Ea{T : Tab}{ow : Bool}{rs : List ResultVar}{cs : Sto}{st st' : St}{a : Act}(h : AQ T ow rs cs st = some st')(hr : Rel c st a w σ φ) : ∃ σ2 φ2,Rel c st' a w σ2 φ2:=by
 unfold AQ at h
 split at h <;> (try (simp at h; done))
 split at h <;> (try (simp at h; done))
 rename_i ss hss
 obtain ⟨σs,_,h1,_⟩:=Rel.sealL hss hr
 obtain ⟨φ2,h2⟩:=h1.endTo (fun s v hv=>ms hv) h
 exact ⟨σs,φ2,h2⟩
def II(cs s : Sto)(more : List Nat) : List Nat:=bJ cs ++ kI (gX s 1000 (vr s (bJ cs) ++ more) [])
def Eb(V : Env)(mf : FuncId→Bool)(rg : List Nat)(orc : Orc)(ow : Bool)(fn : Func)(code : Code)(args : List AV)(cs : Sto) : Option (AV×Sto) :=
 bif Nat.ble args.length fn.ntmps then (match cm V mf rg orc fn.ntmps true true code ⟨ko 0 args,cs⟩ with
  | some (.ex _,_)=>none
  | some (.mk,_)=>none
  | some (_,st)=>(match AQ V.T ow fn.results.toList cs st with
    | some ss=>(match ld V.T ss fn.results.toList with
      | some l'=>(match np l' with | some rav=>some (rav,fi ss.sto (II cs ss.sto (cq rav))) | none=>none)
      | none=>none)
    | none=>none)
  | none=>none) else none
theorem FX{V : Env}(hV : EnvOk P V){mf : FuncId→Bool}{rg : List Nat}{ow : Bool}{orc : Orc}(hO : OrcOk P orc)(hm : P.follows .mixedOrders = true){f : FuncId}{fn : Func}{code : Code}{args : List AV}{cs rs : Sto}{rav : AV}(hf : P.funcs[f]? = some fn)(hb : fn.body = some code)
  (hname : (fn.name == "runtime.NumGoroutine") = false) (h : Eb V mf rg orc ow fn code args cs = some (rav, rs)) : CallA P f args cs rav rs := by
 unfold Eb at h
 cases hn : Nat.ble args.length fn.ntmps <;> simp only [hn,cond_true,cond_false,reduceCtorEq] at h
 refine qt hV.T hf hb hname hn fun w0 σ0 φ0 M=>?_
 split at h
 ·simp at h
 ·simp at h
 ·rename_i e st hne hne2 hx
  split at h <;> (try (simp at h; done))
  rename_i ss hss
  split at h <;> (try (simp at h; done))
  rename_i l' hl'
  split at h <;> simp at h
  rename_i rav' hrav
  obtain ⟨rfl,rfl⟩:=h
  have hok:=ru hV hO hm code true true ⟨w0,σ0,φ0,M,fn.ntmps,none,[]⟩ _ _ _ (fun _=>rfl) (fun _=>⟨rfl,rfl⟩) hx (by rintro rfl; exact hne2 rfl)
  refine iO (Cv hok fun hr=>Ea hss hr) ?_
  rintro ex s ⟨rfl,rfl⟩
  refine ⟨?_,l',hl',hrav,keepK_sub⟩
  cases e with
  | norm=>exact .inr rfl
  | ret=>exact .inl rfl
  | ex i=>exact absurd rfl (hne i)
  | mk=>exact absurd rfl hne2
 ·simp at h
def Ec(cs : Sto)(st : St) : Option St:=vq [] st.sto (bJ cs) (kI (gX st.sto 1000 (vr st.sto (bJ cs)) []))
def xD(V : Env)(mf : FuncId→Bool)(rg : List Nat)(orc : Orc)(j : Nat)(args : List AV)(cs : Sto) : Option (AV×Sto) :=
 match look cs j with
 | some (.loop li fr .ready none)=>bif (Nat.ble 1000000 j && Nat.blt j 2000000) && (iv li.n li.params.toList && Nat.beq li.params.toList.length args.length) then
   (match cm V mf rg orc li.n false false li.assign ⟨fK li.params.toList args fr,cs⟩ with
   | some (.norm,st1)=>(match look st1.sto j with
     | some (.loop li1 fr1 .ready none)=>(match cm V mf rg orc li.n false false li.body ⟨st1.fr,cL j (.loop li1 fr1 .busy none) st1.sto⟩ with
       | some (e,st2)=>(match Ec cs st2 with
         | some ss=>(match look ss.sto j with
           | some (.loop li2 fr2 .busy _)=>(match e with
             | .norm=>some (.one (.d (.bool true)),fi (cL j (.loop li2 fr2 .ready none) ss.sto) (bJ ss.sto))
             | .ret=>some (.one (.d (.bool false)),fi (cL j (.loop li2 fr2 .done (some .ret)) ss.sto) (bJ ss.sto))
             | .ex i=>some (.one (.d (.bool false)),fi (cL j (.loop li2 fr2 .done (some (.exit i))) ss.sto) (bJ ss.sto))
             | .mk=>none)
           | _=>none)
         | none=>none)
       | none=>none)
     | _=>none)
   | _=>none) else none
 | _=>none
theorem Cw{V : Env}(hV : EnvOk P V){mf : FuncId→Bool}{rg : List Nat}{orc : Orc}(hO : OrcOk P orc)(hm : P.follows .mixedOrders = true){j : Nat}{args : List AV}{cs rs : Sto}{rav : AV}(h : xD V mf rg orc j args cs = some (rav,rs)) : YieldA P j args cs rav rs:=by
 unfold xD at h
 split at h <;> (try (simp at h; done))
 rename_i li fr hl
 cases hb : (Nat.ble 1000000 j && Nat.blt j 2000000) && (iv li.n li.params.toList && Nat.beq li.params.toList.length args.length) <;> simp only [hb,cond_true,cond_false,reduceCtorEq] at h
 rw [Bool.and_eq_true] at hb
 split at h <;> (try (simp at h; done))
 rename_i st1 hx1
 split at h <;> (try (simp at h; done))
 rename_i li1 fr1 hl1
 split at h <;> (try (simp at h; done))
 rename_i e st2 hx2
 split at h <;> (try (simp at h; done))
 rename_i ss hss
 split at h <;> (try (simp at h; done))
 rename_i li2 fr2 p2 hl2
 refine oC (by have:=hb.1; simp only [Bool.and_eq_true,Nat.ble_eq,Nat.blt_eq] at this; exact this) hl hb.2 fun w0 σ0 φ0 M B=>?_
 have h1:=ru hV hO hm li.assign false false ⟨w0,σ0,φ0,M,li.n,some B,[]⟩ _ _ _ (fun h=>by cases h) (fun h=>by cases h) hx1 (by simp)
 have h2:=ru hV hO hm li.body false false ⟨w0,σ0,φ0,M,li.n,some B,[]⟩ _ _ _ (fun h=>by cases h) (fun h=>by cases h) hx2 (by rintro rfl; exact sA _ hx2)
 have h3:=Cv (ss:=ss) h2 (fun {a w σ φ mk} hr=>by
  obtain ⟨φ2,h⟩:=hr.endTo (fr2:=[]) (fun s v hv=>by simp [look] at hv) hss
  exact ⟨σ,φ2,h⟩)
 refine iO h1 ?_
 rintro ex s ⟨rfl,rfl⟩
 refine ⟨rfl,li1,fr1,hl1,iO h3 ?_⟩
 rintro ex s ⟨rfl,rfl⟩
 refine ⟨li2,fr2,p2,hl2,?_⟩
 cases e with
 | norm =>
   simp only [Option.some.injEq,Prod.mk.injEq] at h
   obtain ⟨rfl,rfl⟩:=h
   exact .inl ⟨rfl,rfl,keepK_sub⟩
 | ret =>
   simp only [Option.some.injEq,Prod.mk.injEq] at h
   obtain ⟨rfl,rfl⟩:=h
   exact .inr ⟨_,rfl,rfl,keepK_sub⟩
 | ex i =>
   simp only [Option.some.injEq,Prod.mk.injEq] at h
   obtain ⟨rfl,rfl⟩:=h
   exact .inr ⟨_,rfl,rfl,keepK_sub⟩
 | mk=>simp at h
structure Cfg where
 mf : List Nat
 ow : List (Nat×List Nat)
def Cfg.rg(cf : Cfg)(f : Nat) : List Nat:=match look cf.ow f with | some l=>l | none=>[]
def rj(P : Program)(V : Env)(cf : Cfg)(sp : Orc) : Nat→Orc
 | 0=>sp
 | n + 1=>fun f ow avs cs=>match sp f ow avs cs with
   | some r=>some r
   | none=>match f with
     | some f=>(match P.funcs[f]? with
       | some fn=>match fn.body with
         | some code=>Eb V (fun f=>cC f cf.mf) (cf.rg f) (rj P V cf sp n) ow fn code avs cs
         | none=>none
       | none=>none)
     | none=>(match avs with
       | .one (.yl j)::args=>xD V (fun f=>cC f cf.mf) [] (rj P V cf sp n) j args cs
       | _=>none)
theorem pO {P : Program} {V : Env} (hV : EnvOk P V) (hm : P.follows .mixedOrders = true) (hname : ∀ (f : FuncId) (fn : Func), P.funcs[f]? = some fn → (fn.name == "runtime.NumGoroutine") = false) {cf : Cfg} {sp : Orc} (hs : OrcOk P sp) : ∀ n, OrcOk P (rj P V cf sp n)
 | 0=>hs
 | n + 1=>by
   refine ⟨fun f b avs cs r s h=>?_,fun j b avs cs r s h=>?_⟩
   ·simp only [rj] at h
    split at h
    ·rename_i r' hr
     simp at h; subst h
     exact hs.call f b avs cs _ _ hr
    split at h <;> (try (simp at h; done))
    rename_i fn hf
    split at h <;> (try (simp at h; done))
    rename_i code hc
    exact FX hV (pO hV hm hname hs n) hm hf hc (hname f fn hf) h
   ·simp only [rj] at h
    split at h
    ·rename_i r' hr
     simp at h; subst h
     exact hs.yld j b avs cs _ _ hr
    exact Cw hV (pO hV hm hname hs n) hm h
end Go.Abs
namespace Go.Abs
open Go
def lEq{α : Type}(eq : α→α→Bool) : List α→List α→Bool
 | [],[]=>true
 | x::xs,y::ys=>eq x y && lEq eq xs ys
 | _,_=>false
theorem eb{α : Type}{eq : α→α→Bool}(h : ∀ a b,eq a b = true→a = b) : ∀ {x y : List α},lEq eq x y = true→x = y
 | [],[],_=>rfl
 | a::x,b::y,he=>by
   simp only [lEq,Bool.and_eq_true] at he
   rw [h _ _ he.1,eb h he.2]
 | [],_::_,he=>by simp [lEq] at he
 | _::_,[],he=>by simp [lEq] at he
def iEq : Int→Int→Bool
 | .ofNat a,.ofNat b=>Nat.beq a b
 | .negSucc a,.negSucc b=>Nat.beq a b
 | _,_=>false
theorem HA{a b : Int}(h : iEq a b = true) : a = b:=by
 cases a <;> cases b <;> simp only [iEq,reduceCtorEq] at h <;> rw [Nat.eq_of_beq_eq_true h]
def HB(a b : UInt8) : Bool:=Nat.beq a.toNat b.toNat
theorem FL(a b : UInt8)(h : HB a b = true) : a = b:=UInt8.toNat.inj (Nat.eq_of_beq_eq_true h)
def dEq : Nat→D→D→Bool
 | 0,_,_=>false
 | _ + 1,.int k x,.int k' y=>kEq k k' && iEq x y
 | _ + 1,.bool x,.bool y=>bEq x y
 | _ + 1,.str x,.str y=>lEq HB x y
 | _ + 1,.nil,.nil=>true
 | n + 1,.sl k b xs,.sl k' b' ys=>Nat.beq k k' && (Nat.beq b b' && lEq (lEq (dEq n)) xs ys)
 | n + 1,.ptr xs,.ptr ys=>lEq (dEq n) xs ys
 | n + 1,.fn f xs,.fn g ys=>Nat.beq f g && lEq (dEq n) xs ys
 | _ + 1,_,_=>false
theorem pn : ∀ n a b,dEq n a b = true→a = b
 | 0,_,_,h=>by simp [dEq] at h
 | n + 1,a,b,h=>by
   have ih:=pn n
   cases a <;> cases b <;> simp only [dEq,Bool.and_eq_true,reduceCtorEq] at h
   ·rw [fB h.1,HA h.2]
   ·rw [gF h]
   ·rw [eb FL h]
   ·rfl
   ·rw [Nat.eq_of_beq_eq_true h.1,Nat.eq_of_beq_eq_true h.2.1,eb (fun _ _=>eb ih) h.2.2]
   ·rw [eb ih h]
   ·rw [Nat.eq_of_beq_eq_true (n:=_) (m:=_) h.1,eb ih h.2]
def cEq : AC→AC→Bool
 | .d x,.d y=>dEq 20 x y
 | .own a b,.own a' b'=>Nat.beq a a' && Nat.beq b b'
 | .sub a b c,.sub a' b' c'=>Nat.beq a a' && (Nat.beq b b' && Nat.beq c c')
 | .ref a b,.ref a' b'=>Nat.beq a a' && Nat.beq b b'
 | .rref a b c,.rref a' b' c'=>Nat.beq a a' && (Nat.beq b b' && Nat.beq c c')
 | .yl a,.yl b=>Nat.beq a b
 | .mapr a,.mapr b=>Nat.beq a b
 | .bsl a b c,.bsl a' b' c'=>Nat.beq a a' && (Nat.beq b b' && Nat.beq c c')
 | .junk,.junk=>true
 | _,_=>false
theorem su(a b : AC)(h : cEq a b = true) : a = b:=by
 cases a <;> cases b <;> simp only [cEq,Bool.and_eq_true,reduceCtorEq] at h
 ·rw [pn _ _ _ h]
 ·rw [Nat.eq_of_beq_eq_true h.1,Nat.eq_of_beq_eq_true h.2]
 ·rw [Nat.eq_of_beq_eq_true h.1,Nat.eq_of_beq_eq_true h.2.1,Nat.eq_of_beq_eq_true h.2.2]
 ·rw [Nat.eq_of_beq_eq_true h.1,Nat.eq_of_beq_eq_true h.2]
 ·rw [Nat.eq_of_beq_eq_true h.1,Nat.eq_of_beq_eq_true h.2.1,Nat.eq_of_beq_eq_true h.2.2]
 ·rw [Nat.eq_of_beq_eq_true h]
 ·rw [Nat.eq_of_beq_eq_true h]
 ·rw [Nat.eq_of_beq_eq_true h.1,Nat.eq_of_beq_eq_true h.2.1,Nat.eq_of_beq_eq_true h.2.2]
 ·rfl
def tEq(a b : Bool×List AC) : Bool:=bEq a.1 b.1 && lEq cEq a.2 b.2
theorem HC(a b : Bool×List AC)(h : tEq a b = true) : a = b:=by
 obtain ⟨a1,a2⟩:=a; obtain ⟨b1,b2⟩:=b
 simp only [tEq,Bool.and_eq_true] at h
 rw [gF h.1,eb su h.2]
def vEq : AV→AV→Bool
 | .one a,.one b=>cEq a b
 | .agg a,.agg b=>lEq cEq a b
 | .tup a,.tup b=>lEq tEq a b
 | .any,.any=>true
 | _,_=>false
theorem Ck(a b : AV)(h : vEq a b = true) : a = b:=by
 cases a <;> cases b <;> simp only [vEq,reduceCtorEq] at h
 ·rw [su _ _ h]
 ·rw [eb su h]
 ·rw [eb HC h]
 ·rfl
def DZ(a b : List D×List D) : Bool:=lEq (dEq 20) a.1 b.1 && lEq (dEq 20) a.2 b.2
theorem FM(a b : List D×List D)(h : DZ a b = true) : a = b:=by
 obtain ⟨a1,a2⟩:=a; obtain ⟨b1,b2⟩:=b
 simp only [DZ,Bool.and_eq_true] at h
 rw [eb (pn _) h.1,eb (pn _) h.2]
def oEq : AObj→AObj→Bool
 | .box a,.box b=>lEq cEq a b
 | .row k b xs,.row k' b' ys=>Nat.beq k k' && (Nat.beq b b' && lEq (lEq (dEq 20)) xs ys)
 | .map g v xs,.map g' v' ys=>bEq g g' && (bEq v v' && lEq DZ xs ys)
 | _,_=>false
theorem HD(a b : AObj)(h : oEq a b = true) : a = b:=by
 cases a <;> cases b <;> simp only [oEq,Bool.and_eq_true,reduceCtorEq] at h
 ·rw [eb su h]
 ·rw [Nat.eq_of_beq_eq_true h.1,Nat.eq_of_beq_eq_true h.2.1,eb (fun _ _=>eb (pn _)) h.2.2]
 ·rw [gF h.1,gF h.2.1,eb FM h.2.2]
def pEq(a b : Nat×AObj) : Bool:=Nat.beq a.1 b.1 && oEq a.2 b.2
theorem Cl(a b : Nat×AObj)(h : pEq a b = true) : a = b:=by
 obtain ⟨a1,a2⟩:=a; obtain ⟨b1,b2⟩:=b
 simp only [pEq,Bool.and_eq_true] at h
 rw [Nat.eq_of_beq_eq_true (n:=_) (m:=_) h.1,HD _ _ h.2]
structure Ent where
 f : FuncId
 ow : Bool
 avs : List AV
 cs : Sto
 r : AV
 s : Sto
def cr(P : Program)(e : Ent) : Prop:=CallA P e.f e.avs e.cs e.r e.s
def xn(e : Ent)(f : FuncId)(ow : Bool)(avs : List AV)(cs : Sto) : Bool :=
 Nat.beq e.f f && (bEq e.ow ow && (lEq vEq e.avs avs && lEq pEq e.cs cs))
def spT : List Ent→Orc
 | [],_,_,_,_=>none
 | _,none,_,_,_=>none
 | e::l,some f,ow,avs,cs=>bif xn e f ow avs cs then some (e.r,e.s) else spT l (some f) ow avs cs
def AI(P : Program) : List Ent→Prop
 | []=>True
 | e::l=>cr P e∧AI P l
theorem wS{P : Program} : ∀ {l : List Ent},AI P l→OrcOk P (spT l)
 | [],_=>⟨fun f b avs cs r s h=>by simp [spT] at h,fun j b avs cs r s h=>by simp [spT] at h⟩
 | e::l,hl=>by
   refine ⟨fun f b avs cs r s h=>?_,fun j b avs cs r s h=>by simp [spT] at h⟩
   simp only [spT] at h
   cases hb : xn e f b avs cs with
   | false=>simp only [hb,cond_false] at h; exact (wS hl.2).call f b avs cs r s h
   | true =>
     simp only [hb,cond_true,Option.some.injEq,Prod.mk.injEq] at h
     obtain ⟨rfl,rfl⟩:=h
     simp only [xn,Bool.and_eq_true] at hb
     have h1:=Nat.eq_of_beq_eq_true (n:=_) (m:=_) hb.1
     have h2:=eb Ck hb.2.2.1
     have h3:=eb Cl hb.2.2.2
     subst h1; subst h2; subst h3
     exact hl.1
def bF(P : Program)(V : Env)(cf : Cfg)(l : List Ent)(n : Nat)(e : Ent) : Bool :=
 match rj P V cf (spT l) n (some e.f) e.ow e.avs e.cs with
 | some (r,s)=>vEq r e.r && lEq pEq s e.s
 | none=>false
structure ProgOk (P : Program) (V : Env) : Prop where
 env : EnvOk P V
 mo : P.follows .mixedOrders = true
 name : ∀ (f : FuncId) (fn : Func), P.funcs[f]? = some fn → (fn.name == "runtime.NumGoroutine") = false
theorem bR{P : Program}{V : Env}(hP : ProgOk P V){cf : Cfg}{l : List Ent}(hl : AI P l){n : Nat}{e : Ent}(h : bF P V cf l n e = true) : cr P e:=by
 unfold bF at h
 split at h <;> (try (simp at h; done))
 rename_i r s hr
 simp only [Bool.and_eq_true] at h
 have h1:=Ck _ _ h.1
 have h2:=eb Cl h.2
 subst h1; subst h2
 exact (pO hP.env hP.mo hP.name (wS hl) n).call _ _ _ _ _ _ hr
end Go.Abs
namespace Go.Abs
open Go
def kkB : List KK→List KK→Bool
 | [],[]=>true
 | .int k::r,.int k'::r'=>kEq k k' && kkB r r'
 | .bool::r,.bool::r'=>kkB r r'
 | .str::r,.str::r'=>kkB r r'
 | _,_=>false
theorem r9 : ∀ {a b : List KK},kkB a b = true→a = b
 | [],[],_=>rfl
 | .int k::r,.int k'::r',h=>by
   simp only [kkB,Bool.and_eq_true] at h
   rw [fB h.1,r9 h.2]
 | .bool::r,.bool::r',h=>by rw [r9 (show kkB r r' = true from h)]
 | .str::r,.str::r',h=>by rw [r9 (show kkB r r' = true from h)]
 | [],_::_,h=>by simp [kkB] at h
 | .int _::_,[],h=>by simp [kkB] at h
 | .bool::_,[],h=>by simp [kkB] at h
 | .str::_,[],h=>by simp [kkB] at h
 | .int _::_,.bool::_,h=>by simp [kkB] at h
 | .int _::_,.str::_,h=>by simp [kkB] at h
 | .bool::_,.int _::_,h=>by simp [kkB] at h
 | .bool::_,.str::_,h=>by simp [kkB] at h
 | .str::_,.int _::_,h=>by simp [kkB] at h
 | .str::_,.bool::_,h=>by simp [kkB] at h
def shB(P : Program)(t : TypeId)(ks : List KK) : Bool:=match fc P 6 t with | some l=>kkB l ks | none=>false
theorem B7{P : Program}{t : TypeId}{ks : List KK}(h : shB P t ks = true) : fc P 6 t = some ks:=by
 unfold shB at h
 split at h
 ·rename_i l hl
  rw [hl,r9 h]
 ·cases h
def eB(P : Program)(t : TypeId)(ks : List KK) : Bool:=shB P t ks && P.keyTypeAt 6 t && jg P t && !P.eqGuardType P.depth t
def Az(P : Program) : qG→Bool
 | []=>true
 | (t,ks)::r=>eB P t ks && Az P r
theorem wd{P : Program} : ∀ {E : qG},Az P E = true→vJ P E
 | [],_=>fun t ks h=>by simp [look] at h
 | (t',ks')::r,h=>by
   simp only [Az,Bool.and_eq_true] at h
   intro t ks hl
   rcases aB hl with ⟨rfl,rfl⟩ | ⟨_,hl⟩
   ·have h1:=h.1
    simp only [eB,Bool.and_eq_true,Bool.not_eq_true'] at h1
    exact ⟨B7 h1.1.1.1,h1.1.1.2,h1.1.2,h1.2⟩
   ·exact wd h.2 t ks hl
def wW(P : Program)(t : TypeId) : List KK→Bool
 | [.int k]=>(match P.underlying t with | some (.int k')=>kEq k' k | _=>false)
 | [.bool]=>(match P.underlying t with | some .bool=>true | _=>false)
 | [.str]=>(match P.underlying t with | some .string=>true | _=>false)
 | _=>false
theorem B8{P : Program}{t : TypeId}{ks : List KK}(h : wW P t ks = true) : ∃ k,ks = [k]∧P.underlying t = some (lY k):=by
 unfold wW at h
 split at h
 ·split at h
  ·rename_i k k' hu
   refine ⟨_,rfl,?_⟩
   rw [hu,fB h]; rfl
  ·cases h
 ·split at h
  ·rename_i hu; exact ⟨_,rfl,hu⟩
  ·cases h
 ·split at h
  ·rename_i hu; exact ⟨_,rfl,hu⟩
  ·cases h
 ·cases h
def mB(P : Program)(t : TypeId)(m : MTy) : Bool :=
 (match P.underlying t with | some (.map k e)=>Nat.beq k m.kt && Nat.beq e m.et | _=>false) &&
 (shB P m.kt m.ks && P.keyTypeAt 6 m.kt && bEq (jg P m.kt) m.kg && !P.eqGuardType P.depth m.kt && (m.kg || wW P m.kt m.ks)) &&
 (match P.info? m.et with
  | some i=>(match i.zero with
    | some zv=>lu m.z zv.cells.toList && m.z.all gr && (if m.vg then sa zv else (zv.oneCell && Nat.beq m.z.length 1))
    | none=>false)
  | none=>false)
theorem Iw{P : Program}{t : TypeId}{m : MTy}(h : mB P t m = true) : MOk P t m:=by
 unfold mB at h
 simp only [Bool.and_eq_true] at h
 obtain ⟨⟨h1,h2⟩,h3⟩:=h
 refine ⟨?_,?_,?_⟩
 ·split at h1
  ·rename_i k e hu
   simp only [Bool.and_eq_true] at h1
   rw [hu,Nat.eq_of_beq_eq_true h1.1,Nat.eq_of_beq_eq_true h1.2]
  ·cases h1
 ·obtain ⟨⟨⟨⟨a1,a2⟩,a3⟩,a4⟩,a5⟩:=h2
  refine ⟨B7 a1,a2,gF a3,by simpa using a4,fun hk=>?_⟩
  rw [hk,Bool.false_or] at a5
  exact B8 a5
 ·split at h3
  ·rename_i i hi
   split at h3
   ·rename_i zv hz
    simp only [Bool.and_eq_true] at h3
    obtain ⟨⟨b1,b2⟩,b3⟩:=h3
    refine ⟨i,zv,hi,hz,fun σ=>?_⟩
    have hall : ∀ x∈m.z,gr x = true:=by simpa using b2
    have hcells:=pj b1
    have hrep : All2 (Rep σ) m.z (m.z.map il):=by
     have : ∀ {l : List D},(∀ x∈l,gr x = true)→All2 (Rep σ) l (l.map il):=by
      intro l
      induction l with
      | nil=>intro _; trivial
      | cons d l ih=>intro h; exact ⟨lm (h d (by simp)),ih fun x hx=>h x (by simp [hx])⟩
     exact this hall
    cases hg : m.vg with
    | true =>
      rw [hg] at b3
      simp only [if_true] at b3
      cases zv <;> simp [sa] at b3
      rename_i cs
      refine ⟨cs.toList,by simp,?_⟩
      rw [show cs.toList = m.z.map il from hcells]
      exact hrep
    | false =>
      rw [hg] at b3
      simp only [Bool.false_eq_true,if_false,Bool.and_eq_true] at b3
      have hl:=Nat.eq_of_beq_eq_true b3.2
      have hone : zv.cells.toList = [zv]:=by
       have:=b3.1
       cases zv <;> first | rfl | simp [Value.oneCell] at this
      rw [hone] at hcells
      show All2 (Rep σ) m.z [zv]
      rw [hcells]
      exact hrep
   ·cases h3
  ·cases h3
def AA(P : Program) : zI→Bool
 | []=>true
 | (t,m)::r=>mB P t m && AA P r
theorem we{P : Program} : ∀ {M : zI},AA P M = true→∀ t m,look M t = some m→MOk P t m
 | [],_=>fun t ks h=>by simp [look] at h
 | (t',ks')::r,h=>by
   simp only [AA,Bool.and_eq_true] at h
   intro t ks hl
   rcases aB hl with ⟨rfl,rfl⟩ | ⟨_,hl⟩
   ·exact Iw h.1
   ·exact we h.2 t ks hl
end Go.Abs
namespace Go.Abs
open Go
variable {P : Program} {T : Tab} {w0 : World} {σ0 : Sig} {φ0 : Pl} {M : Nat→Prop} {n : Nat} {rd : Option Nat} {mk : List Deferred} {ops : Array Oper} {o : Oper} {rest : List Oper} {fr : List (Nat×AV)} {sto : Sto} {K : St→Prop}
theorem dk(hT : bE P T){d : Nat}{v : AV}(hg : o.guard = none)(hdst : o.dst = some d)(hd : Nat.blt d n = true)(hv : cy T ⟨fr,sto⟩ o.op = some v)
  (h : ao P ⟨w0,σ0,φ0,M,n,rd,mk⟩ ops rest ⟨(d,v)::fr,sto⟩ K) : ao P ⟨w0,σ0,φ0,M,n,rd,mk⟩ ops (o::rest) ⟨fr,sto⟩ K :=
 ui hT hg (by rw [hdst]; exact hd) hv (by rw [hdst]; exact h)
def yN : BinOp→Bool
 | .add | .sub | .mul=>true
 | _=>false
def EA : BinOp→Int→Int→Int
 | .add,x,y=>x + y
 | .sub,x,y=>x - y
 | _,x,y=>x * y
theorem tn{k : IntKind}{z : Int}(h : inR k z) : k.wrap z = z:=by
 unfold inR at h
 unfold IntKind.wrap
 cases k <;> simp [IntKind.signed,IntKind.bits,IntKind.min,IntKind.max] at h ⊢ <;> (try split) <;> omega
theorem aN{z : Int}(h1 : -9223372036854775808≤z)(h2 : z≤9223372036854775807) : IntKind.i64.wrap z = z :=
 tn ⟨by simp [IntKind.min,IntKind.signed,IntKind.bits]; exact h1,by simp [IntKind.max,IntKind.signed,IntKind.bits]; exact h2⟩
theorem aT{j : Nat}{want b : Bool}(hg : o.guard = some (j,want))(hb : f7 ⟨fr,sto⟩ ops j = some (some b))(hw : b = want)
  (h : ao P ⟨w0,σ0,φ0,M,n,rd,mk⟩ ops ({ o with guard:=none }::rest) ⟨fr,sto⟩ K) : ao P ⟨w0,σ0,φ0,M,n,rd,mk⟩ ops (o::rest) ⟨fr,sto⟩ K:=qg hg hb hw h
theorem bH{d j : Nat}{want b : Bool}(hg : o.guard = some (j,want))(hb : f7 ⟨fr,sto⟩ ops j = some (some b))(hw : b = !want)(hdst : o.dst = some d)(hd : Nat.blt d n = true)
  (h : ao P ⟨w0,σ0,φ0,M,n,rd,mk⟩ ops rest ⟨(d,.tup [])::fr,sto⟩ K) : ao P ⟨w0,σ0,φ0,M,n,rd,mk⟩ ops (o::rest) ⟨fr,sto⟩ K :=
 oQ hg hb (by rw [hw]; cases want <;> simp) (by rw [hdst]; exact hd) (by rw [hdst]; exact h)
end Go.Abs
