import Derived.Test.YtpejdgkaapnekaaGreatWP9
import Derived.Test.YtpejdgkaapnekaaGreatWP5
set_option linter.unusedVariables false
set_option linter.unusedSimpArgs false
set_option linter.unnecessarySimpa false
set_option maxHeartbeats 1000000
namespace Go.Abs
open Go
variable {P : Program} {c : Ctx} {T : Tab} {σ : Sig} {φ : Pl} {w : World}
def za(d : Nat)(v : AV) : List (Nat×AV)→List (Nat×AV)
 | []=>[(d,v)]
 | (t,x)::r=>bif Nat.beq t d then (d,v)::r else (t,x)::za d v r
def kz(d : Option Nat)(v : AV)(fr : List (Nat×AV)) : List (Nat×AV):=match d with
 | none=>fr
 | some d=>za d v fr
theorem qg{d : Nat}{v : AV} : ∀ {fr : List (Nat×AV)} {t : Nat},look (za d v fr) t = look ((d,v)::fr) t
 | [],_=>rfl
 | (s,x)::r,t=>by
   simp only [za]
   cases hb : Nat.beq s d with
   | true =>
     have:=Nat.eq_of_beq_eq_true hb; subst this
     simp only [cond_true,look]
     cases Nat.beq s t <;> rfl
   | false =>
     simp only [cond_false,look,qg (fr:=r)]
     cases h1 : Nat.beq s t with
     | false=>rfl
     | true =>
       have e1:=Nat.eq_of_beq_eq_true h1; subst e1
       cases h2 : Nat.beq d s with
       | false=>rfl
       | true=>have:=Nat.eq_of_beq_eq_true h2; subst this; rw [Nat.beq_refl] at hb; cases hb
theorem iq{d : Option Nat}{v : AV}{fr : List (Nat×AV)}{t : Nat} : look (kz d v fr) t = look (bh d v fr) t:=by
 cases d with
 | none=>rfl
 | some d=>exact qg
def nL : List (Nat×AV)→List (Nat×AV)
 | []=>[]
 | (d,v)::r=>za d v (nL r)
theorem rC : ∀ {fr : List (Nat×AV)} {t : Nat},look (nL fr) t = look fr t
 | [],_=>rfl
 | (d,v)::r,t=>by
   simp only [nL,qg,look,rC (fr:=r)]
theorem nM{fr fr' : List (Nat×AV)}{sto : Sto}(h : ∀ t,look fr' t = look fr t) : Imp c ⟨fr,sto⟩ ⟨fr',sto⟩:=fun _ _ σ φ hr=>⟨σ,φ,hr.cong (st':=⟨fr',sto⟩) h fun _=>rfl⟩
def kO(opsA : Array Oper)(st : St)(o : Oper) : Option Bool :=
 match o.guard with
 | none=>some true
 | some (j,want)=>match fj st opsA j with
   | some y=>some (y == some want)
   | none=>none
def Eu(o : Oper)(f : FuncId)(caps : List Operand)(st : St)(dl : List Nat) : Option St :=
 match dl with
 | []=>none
 | dl=>(match sealL st dl with
   | some ss=>(match evL ss caps with
     | some avs=>(match jJ avs with | some ds=>some ⟨kz o.dst (.one (.d (.fn f ds))) ss.fr,ss.sto⟩ | none=>none)
     | none=>none)
   | none=>none)
def Ev : Option AV→Bool
 | some (.one (.rref _ _ _))=>true
 | _=>false
def zb(V : Env)(o : Oper)(st : St)(dl : List Nat) : Option St :=
 match dl with
 | []=>none
 | dl=>(match sealL st dl with
   | some ss=>(match aL V ss o 0 with
     | some ⟨v,wr,[]⟩=>some ⟨kz o.dst v ss.fr,cw wr ss.sto⟩
     | _=>none)
   | none=>none)
def CC(V : Env)(st : St)(o : Oper) : Option St :=
 match o.op with
 | .makeFunc (.func f) ⟨[]⟩ caps=>Eu o f caps.toList st (cR st.sto (b6 st caps.toList) [])
 | .store _ x y=>bif Ev (ev st x) then zb V o st (cR st.sto (qO st y) []) else none
 | _=>none
theorem Ew{V : Env}(hV : EnvOk P V){opsA : Array Oper}{l : List Oper}{st st' : St}{o : Oper}{K : St→Prop}{dl : List Nat}(hd : aF c.n o.dst = true)(h : zb V o st dl = some st')(hk : aa P c opsA l st' K) : aa P c opsA ({ o with guard:=none }::l) st K:=by
 unfold zb at h
 split at h <;> (try (simp at h; done))
 split at h <;> (try (simp at h; done))
 rename_i ss hss
 split at h <;> simp at h
 rename_i v wr hs
 subst h
 have hi : Imp c st ss:=fun a w σ φ hr=>by
  obtain ⟨σs,_,h3,_⟩:=Rel.sealL hss hr
  exact ⟨σs,φ,h3⟩
 exact dO hi (oK hV hd hs rfl (fun i hi=>by simp at hi) opsA l K (dO (nM fun t=>iq) hk))
theorem Gh{V : Env}(hV : EnvOk P V){opsA : Array Oper}{l : List Oper}{st st' : St}{o : Oper}{K : St→Prop}(hd : aF c.n o.dst = true)(h : CC V st o = some st')(hk : aa P c opsA l st' K) : aa P c opsA ({ o with guard:=none }::l) st K:=by
 unfold CC at h
 split at h <;> (try (simp at h; done))
 rotate_left
 ·rename_i t x y ho
  cases hb : Ev (ev st x) <;> simp only [hb,cond_true,cond_false,reduceCtorEq] at h
  exact Ew hV hd h hk
 rename_i f caps ho
 generalize cR st.sto (b6 st caps.toList) [] = dl at h
 unfold Eu at h
 split at h <;> (try (simp at h; done))
 split at h <;> (try (simp at h; done))
 rename_i ss hss
 split at h <;> (try (simp at h; done))
 rename_i avs ha
 split at h <;> simp at h
 rename_i ds hds
 subst h
 refine aX rfl fun a w σ φ hr=>?_
 obtain ⟨σs,_,hs,_⟩:=Rel.sealL hss hr
 have h1:=mD hds (gi hs ha)
 refine ⟨.func (.func f) #[] (caps.toList.map a.eval).toArray,w,⟨bh o.dst (.one (.d (.fn f ds))) ss.fr,ss.sto⟩,σs,φ,?_,hs.put (v:=.one (.d (.fn f ds))) hd (RepC.d (.fn _ h1.length.symm fun j d v hd hv=>?_)),dO (nM fun t=>iq) hk⟩
 ·have e : (caps.toList.map a.eval).toArray = caps.map a.eval:=by rw [← Array.toList_map,Array.toArray_toList]
  rw [e]
  simp [execOp,ho,Instr.makeFunc]
 ·obtain ⟨u,hu,hru⟩:=h1.get hd
  rw [hv] at hu; cases hu; exact hru
def zc(orc : Orc)(ow : Bool)(id : Nat)(st : St)(dst : Option Nat)(fop : Operand)(args : List Operand)(dl : List Nat) : Option St :=
 match sealL st dl with
 | some ss=>(match ev ss fop,evL ss args with
   | some (.one (.d (.fn f caps))),some avs=>bif cb avs then (match orc (some f) ow (avs ++ caps.map fun x=>.one (.d x)) [] with
     | some (rav,rsto)=>bif eF rav then some ⟨kz dst rav st.fr,st.sto⟩
       else bif ch [] rsto && Nat.ble (id + 16) 1000000 && cO rsto rav && aY rsto rsto && dz ss (rng id 16) then some ⟨kz dst (dp (rn id []) rav) ss.fr,cw (tU (rn id []) rsto) ss.sto⟩ else none
     | none=>none) else none
   | _,_=>none)
 | none=>none
theorem Ex{orc : Orc}(hO : OrcOk P orc){ow : Bool}{id : Nat}{opsA : Array Oper}{l : List Oper}{st st' : St}{o : Oper}{K : St→Prop}{fop : Operand}{args : Array Operand}{ats : Array TypeId}{dl : List Nat}(ho : o.op = .call { callee:=.value fop,args:=args,argTypes:=ats })
  (hd : aF c.n o.dst = true) (h : zc orc ow id st o.dst fop args.toList dl = some st') (hk : aa P c opsA l st' K) : aa P c opsA ({ o with guard:=none }::l) st K:=by
 unfold zc at h
 split at h <;> (try (simp at h; done))
 rename_i ss hss
 split at h <;> (try (simp at h; done))
 rename_i f caps avs hf ha
 cases hD : cb avs <;> simp only [hD,cond_true,cond_false,reduceCtorEq] at h
 split at h <;> (try (simp at h; done))
 rename_i rav rsto hor
 have hi : Imp c st ss:=fun a w σ φ hr=>by
  obtain ⟨σs,_,h3,_⟩:=Rel.sealL hss hr
  exact ⟨σs,φ,h3⟩
 cases hfl : eF rav with
 | true =>
   simp only [hfl,cond_true,Option.some.injEq] at h
   subst h
   exact iC (o:={ o with guard:=none }) ho rfl hd hi hf ha hD (hO.call _ _ _ _ _ _ hor) hfl (dO (nM fun t=>iq) hk)
 | false =>
   simp only [hfl,cond_false] at h
   cases hb : ch [] rsto && Nat.ble (id + 16) 1000000 && cO rsto rav && aY rsto rsto && dz ss (rng id 16) <;> simp only [hb,cond_true,cond_false,reduceCtorEq,Option.some.injEq] at h
   subst h
   rw [Bool.and_eq_true] at hb
   refine dO hi (km (o:={ o with guard:=none }) id [] ho rfl hd rfl hf ha hD (hO.call _ _ _ _ _ _ hor) hb.1 (fun i h1 h2=>?_) (dO (nM fun t=>iq) ?_))
   ·exact dZ hb.2 i (rng_mem.2 ⟨h1,h2⟩)
   ·have:=jQ (r:=rn id []) (s:=ss.sto) (d:=[]) (rs:=rsto)
    simp only [List.append_nil,cw] at this
    rw [this] at hk
    exact hk
def Gi(V : Env)(mf : FuncId→Bool)(orc : Orc)(yf ow : Bool)(st : St)(o : Oper) : Option St :=
 match CC V st o with
 | some st'=>some st'
 | none=>match o.op with
   | .call { callee:=.value fop,args,.. }=>(match ev st fop with
     | some (.one (.d (.fn f _)))=>bif mf f then
       (match xTr V mf orc yf ow (kA st) st o with | some tr=>some ⟨kz o.dst tr.v st.fr,cw tr.wr st.sto⟩ | none=>none)
       else zc orc ow (kA st) st o.dst fop args.toList (cR st.sto (b6 st args.toList) [])
     | _=>(match xTr V mf orc yf ow (kA st) st o with | some tr=>some ⟨kz o.dst tr.v st.fr,cw tr.wr st.sto⟩ | none=>none))
   | _=>(match xTr V mf orc yf ow (kA st) st o with | some tr=>some ⟨kz o.dst tr.v st.fr,cw tr.wr st.sto⟩ | none=>none)
theorem H2{V : Env}(hV : EnvOk P V){mf : FuncId→Bool}{orc : Orc}(hO : OrcOk P orc){yf ow : Bool}(hy : yf = true→c.rd = none){opsA : Array Oper}{l : List Oper}{st st' : St}{o : Oper}{K : St→Prop}(hd : aF c.n o.dst = true)(h : Gi V mf orc yf ow st o = some st')
  (hk : aa P c opsA l st' K) : aa P c opsA ({ o with guard:=none }::l) st K:=by
 have key : ∀ {st' : St},(match xTr V mf orc yf ow (kA st) st o with | some tr=>some (⟨kz o.dst tr.v st.fr,cw tr.wr st.sto⟩ : St) | none=>none) = some st'→aa P c opsA l st' K→aa P c opsA ({ o with guard:=none }::l) st K:=by
  intro st' h hk
  split at h <;> simp at h
  rename_i tr htr
  subst h
  obtain ⟨hl,hf⟩:=Dm hV hO hy hd htr
  exact hl st (fun _ _=>rfl) (fun _ _=>rfl) hf opsA l _ (dO (nM fun t=>iq) hk)
 unfold Gi at h
 split at h
 ·rename_i s1 hs1
  simp only [Option.some.injEq] at h; subst h
  exact Gh hV hd hs1 hk
 split at h
 ·rename_i fop args ats ho
  split at h
  ·rename_i f caps hf
   cases hm : mf f with
   | true=>simp only [hm,cond_true] at h; exact key h hk
   | false=>simp only [hm,cond_false] at h; exact Ex hO ho hd h hk
  ·exact key h hk
 ·exact key h hk
def uQ(V : Env)(mf : FuncId→Bool)(orc : Orc)(yf ow : Bool)(n : Nat)(opsA : Array Oper) : List Oper→St→Option St
 | [],st=>some st
 | o::r,st=>bif aF n o.dst then (match kO opsA st o with
   | some true=>(match Gi V mf orc yf ow st o with
     | some st'=>uQ V mf orc yf ow n opsA r st'
     | none=>none)
   | some false=>uQ V mf orc yf ow n opsA r ⟨kz o.dst (.tup []) st.fr,st.sto⟩
   | none=>none) else none
theorem uR{V : Env}(hV : EnvOk P V){mf : FuncId→Bool}{orc : Orc}(hO : OrcOk P orc){yf ow : Bool}(hy : yf = true→c.rd = none){opsA : Array Oper} : ∀ {l : List Oper} {st st' : St},uQ V mf orc yf ow c.n opsA l st = some st'→aa P c opsA l st (fun s=>s = st')
 | [],st,st',h=>by
   simp only [uQ,Option.some.injEq] at h; subst h
   exact p7 rfl
 | o::r,st,st',h=>by
   simp only [uQ] at h
   cases hd : aF c.n o.dst <;> simp only [hd,cond_true,cond_false,reduceCtorEq] at h
   cases hg : kO opsA st o with
   | none=>simp [hg] at h
   | some b =>
     cases b with
     | true =>
       simp only [hg] at h
       have hk : aa P c opsA ({ o with guard:=none }::r) st (fun s=>s = st'):=by
        split at h <;> (try (simp at h; done))
        rename_i s1 hs1
        exact H2 hV hO hy hd hs1 (uR hV hO hy h)
       unfold kO at hg
       cases hgd : o.guard with
       | none =>
         have : ({ o with guard:=none } : Oper) = o:=by obtain ⟨_,_,_,_,_,g⟩:=o; simp only at hgd; subst hgd; rfl
         rw [this] at hk; exact hk
       | some gw =>
         obtain ⟨j,want⟩:=gw
         simp only [hgd] at hg
         split at hg <;> simp at hg
         rename_i b hb
         subst hg
         exact q7 hgd hb rfl hk
     | false =>
       simp only [hg] at h
       unfold kO at hg
       cases hgd : o.guard with
       | none=>simp [hgd] at hg
       | some gw =>
         obtain ⟨j,want⟩:=gw
         simp only [hgd] at hg
         split at hg <;> simp at hg
         rename_i b hb
         exact pA hgd hb (by simpa using hg) hd (dO (nM fun t=>iq) (uR hV hO hy h))
def qP(V : Env)(mf : FuncId→Bool)(orc : Orc)(yf ow : Bool)(n : Nat)(opsA : Array Oper)(st0 : St) : Nat→List Oper→St→List Tr→Option St
 | _,[],st,acc=>bif jU opsA.toList st0 acc.reverse then some ⟨nL st.fr,st.sto⟩ else none
 | lo,o::r,st,acc=>bif aF n o.dst then (match kO opsA st o with
   | some true=>(match xTr V mf orc yf ow lo st o with
     | some tr=>qP V mf orc yf ow n opsA st0 (mx tr.new lo) r ⟨bh o.dst tr.v st.fr,cw tr.wr st.sto⟩ (tr::acc)
     | none=>none)
   | some false=>qP V mf orc yf ow n opsA st0 lo r ⟨bh o.dst (.tup []) st.fr,st.sto⟩ (Tr.none::acc)
   | none=>none) else none
theorem su{V : Env}(hV : EnvOk P V){mf : FuncId→Bool}{orc : Orc}(hO : OrcOk P orc){yf ow : Bool}(hy : yf = true→c.rd = none){opsA : Array Oper}{st0 : St} : ∀ {l : List Oper} {lo : Nat} {st st' : St} {acc : List Tr},qP V mf orc yf ow c.n opsA st0 lo l st acc = some st' →
  aj P c opsA st0 l st acc (fun s=>(⟨nL s.fr,s.sto⟩ : St) = st')
 | [],lo,st,st',acc,h=>by
   simp only [qP] at h
   cases hb : jU opsA.toList st0 acc.reverse <;> simp only [hb,cond_true,cond_false,reduceCtorEq,Option.some.injEq] at h
   exact ⟨hb,h⟩
 | o::r,lo,st,st',acc,h=>by
   simp only [qP] at h
   cases hd : aF c.n o.dst <;> simp only [hd,cond_true,cond_false,reduceCtorEq] at h
   have hgok : ∀ {b : Bool},kO opsA st o = some b→eN opsA st o b:=by
    intro b hg
    unfold kO at hg
    unfold eN
    cases hgd : o.guard with
    | none=>simp only [hgd,Option.some.injEq] at hg ⊢; exact hg.symm
    | some gw =>
      obtain ⟨j,want⟩:=gw
      simp only [hgd] at hg ⊢
      split at hg <;> simp at hg
      rename_i b' hb
      exact ⟨b',hb,hg.symm⟩
   cases hg : kO opsA st o with
   | none=>simp [hg] at h
   | some b =>
     cases b with
     | true =>
       simp only [hg] at h
       split at h <;> (try (simp at h; done))
       rename_i tr htr
       exact ⟨true,tr,hgok hg,fun _=>(Dm hV hO hy hd htr).1,fun e=>by simp at e,fun e=>by simp at e,su hV hO hy h⟩
     | false =>
       simp only [hg] at h
       exact ⟨false,Tr.none,hgok hg,fun e=>by simp at e,fun _=>rfl,fun _=>hd,su hV hO hy h⟩
inductive XE where
 | norm | ex (id : Nat) | ret
 /-- off the end, a loop's mark standing -/
 | mk
def XE.e : XE→Exit
 | .norm | .mk=>.normal
 | .ex i=>.exit i
 | .ret=>.ret
def jK(f : St→Option (XE×St)) : Nat→St→Option (XE×St)
 | 0,_=>none
 | n + 1,st=>match f st with
   | some (.norm,st')=>jK f n st'
   | some (.mk,_)=>none
   | r=>r
def H3 : LoopState→Bool
 | .busy=>false
 | _=>true
def pOk : Option Code→Bool
 | none=>true
 | some .ret=>true
 | _=>false
def pd(st : St)(ids : List Nat)(idl : Nat)(li : LI)(os : List (Nat×AObj))(caps : List D)(rav : AV)(j : Nat)(liR : LI)(frR : List (Nat×AV))(s' : LoopState)(p' : Option Code)(rs : Sto) : Bool :=
 Nat.beq j 1000000 && mI (idl::ids) os && !b5 idl ids && eY ((idl,.loop li (bW ids st.fr []) .ready none)::st.sto) (bC 1000000 (idl::ids)) rs &&
 hkB (idl + 1) (idl::ids) ((1000000,.loop li (cN (inv 1000000 (idl::ids)) (bW ids st.fr [])) .ready none)::gl (inv 1000000 (idl::ids)) os) ((.one (.yl 1000000))::caps.map fun x=>.one (.d x)) rav ((1000000,.loop liR frR s' p')::rs) &&
 (Nat.blt idl (idl + 1) && kh st.sto idl && !bm idl st.fr && !aC idl st.sto && Nat.ble (idl + 1 + 16) 1000000 && oU (idl + 1) (bW ids st.fr []) && kh rs 1000000) &&
 dz st (rng (idl + 1) 16) && H3 s' && pOk p'
def Bb(orc : Orc)(li : LI)(st : St)(f : FuncId)(caps : List D)(ids : List Nat)(idl : Nat) : Option (Option Code×St) :=
 match hJ st.sto ids with
 | some os=>(match orc (some f) false ((.one (.yl 1000000))::caps.map fun x=>.one (.d x)) ((1000000,.loop li (cN (inv 1000000 (idl::ids)) (bW ids st.fr [])) .ready none)::gl (inv 1000000 (idl::ids)) os) with
   | some (rav,(j,.loop liR frR s' p')::rs)=>bif pd st ids idl li os caps rav j liR frR s' p' rs then some (p',⟨st.fr,iU (idl + 1) (bC 1000000 (idl::ids)) rs st.sto⟩) else none
   | _=>none)
 | none=>none
def zd(orc : Orc)(n : Nat)(g : Operand)(ps : Array Nat)(assign body : Code)(st : St) : Option (Option Code×St) :=
 match ev st g with
 | some (.one (.d (.fn f caps)))=>Bb orc ⟨n,ps,assign,body⟩ st f caps (gZ st.sto 1000 (jl st.fr) []) (kA st)
 | _=>none
theorem wg{orc : Orc}(hO : OrcOk P orc){g : Operand}{ps : Array Nat}{assign body : Code}{st st' : St}{p : Option Code}(hrd : c.rd = none)(hmk : c.mks = [])(h : zd orc c.n g ps assign body st = some (p,st')) :
  ∀ (a : Act) (w : World) (σ : Sig) (φ : Pl),Rel c st a w σ φ→(Code.rangeFunc g ps assign body).wpIn (fnc c) 0 P (fun e a' w' =>
    (p = none∧e = .normal∧∃ c1 σ' φ',xm c c1∧Rel c1 st' a' w' σ' φ')∨(p = some .ret∧e = .ret∧∃ σ' φ',RelE c .ret st' a' w' σ' φ')) a w:=by
 unfold zd at h
 split at h <;> (try (simp at h; done))
 rename_i f caps hg
 generalize gZ st.sto 1000 (jl st.fr) [] = ids at h
 generalize kA st = idl at h
 unfold Bb at h
 split at h <;> (try (simp at h; done))
 rename_i os hos
 split at h <;> (try (simp at h; done))
 rename_i rav j liR frR s' p' rs hor
 cases hb : pd st ids idl ⟨c.n,ps,assign,body⟩ os caps rav j liR frR s' p' rs <;> simp only [hb,cond_true,cond_false,reduceCtorEq,Option.some.injEq,Prod.mk.injEq] at h
 obtain ⟨rfl,rfl⟩:=h
 unfold pd at hb
 simp only [Bool.and_eq_true,Bool.not_eq_true'] at hb
 obtain ⟨⟨⟨⟨⟨⟨⟨⟨hj,hall⟩,hni⟩,hcm⟩,hk⟩,hi⟩,hfr⟩,hbu⟩,hp⟩:=hb
 have hj':=Nat.eq_of_beq_eq_true hj
 subst hj'
 have hren : cN (rn (idl + 1) (bC 1000000 (idl::ids))) (cN (inv 1000000 (idl::ids)) (bW ids st.fr [])) = bW ids st.fr [] :=
  ma fun i hi=>o9 (by simp only [b5,Bool.or_eq_true]; exact .inr (jw i hi))
 have hne : ∀ i∈ids,i≠idl:=by
  intro i hmem e
  rw [e] at hmem
  rw [memL_iff.2 hmem] at hni; cases hni
 have e : cN (rn (idl + 1) ((1000000,idl)::bC 1000001 ids)) (cN (inv 1000000 (idl::ids)) (bW ids st.fr [])) = bW ids st.fr []:=hren
 refine vm (k:=idl + 1) (idl:=idl) (ρ:=bC 1000001 ids) hrd hmk hg (hO.call _ _ _ _ _ _ hor) (fun s v hv=>?_) ?_ ?_ hk ?_ ?_ ?_ ?_
 ·rw [e] at hv
  exact (gg hv).2
 ·exact jq (s:=(idl,_)::st.sto) ((jo (s:=st.sto) fun i hi=>aD (hne i hi)).trans hos) hall
 ·refine iB (s:=(idl,.loop ⟨c.n,ps,assign,body⟩ (bW ids st.fr []) .ready none)::st.sto) (fun j i _=>?_) hcm
  show look ((idl,AObj.loop _ _ _ _)::st.sto) i = _
  rw [e]
 ·rw [e]
  simp only [Bool.and_eq_true,Bool.not_eq_true']
  exact hi
 ·intro i h1 h2
  exact dZ hfr i (rng_mem.2 ⟨h1,h2⟩)
 ·rintro rfl; cases hbu
 ·unfold pOk at hp
  split at hp
  ·exact .inl rfl
  ·exact .inr rfl
  ·cases hp
def bI(V : Env)(mf : FuncId→Bool)(rg : List Nat)(orc : Orc)(n : Nat) : Bool→Bool→Code→St→Option (XE×St)
 | _,_,.skip,st=>some (.norm,st)
 | _,yf,.region id ops true,st=>match qP V mf orc yf (b5 id rg) n ops st (kA st) ops.toList st [] with | some st'=>some (.norm,st') | none=>none
 | _,yf,.region id ops false,st=>match uQ V mf orc yf (b5 id rg) n ops ops.toList st with | some st'=>some (.norm,st') | none=>none
 | rf,_,.rangeFunc g ps assign body,st=>bif rf then (match zd orc n g ps assign body st with
   | some (none,st')=>some (.mk,st')
   | some (some _,st')=>some (.ret,st')
   | none=>none) else none
 | rf,yf,.seq x y,st=>match bI V mf rg orc n rf yf x st with
   | some (.norm,st')=>bI V mf rg orc n rf yf y st'
   | some (.mk,st')=>(match bI V mf rg orc n false yf y st' with
     | some (.norm,s)=>some (.mk,s)
     | some (.ret,s)=>some (.ret,s)
     | _=>none)
   | r=>r
 | rf,yf,.cond o x y,st=>match ev st o with
   | some (.one (.d (.bool true)))=>bI V mf rg orc n rf yf x st
   | some (.one (.d (.bool false)))=>bI V mf rg orc n rf yf y st
   | _=>none
 | rf,yf,.block id x,st=>match bI V mf rg orc n rf yf x st with
   | some (.ex i,st')=>bif Nat.beq i id then some (.norm,st') else some (.ex i,st')
   | r=>r
 | rf,yf,.loop x,st=>jK (fun s=>bI V mf rg orc n rf yf x s) 100000 st
 | _,_,.exit id,st=>some (.ex id,st)
 | _,_,.ret,st=>some (.ret,st)
 | _,_,_,_=>none
def JW(c : Ctx)(e : XE)(st : St)(a : Act)(w : World)(σ : Sig)(φ : Pl) : Prop :=
 match e with
 | .mk=>∃ c1,xm c c1∧Rel c1 st a w σ φ
 | e=>RelE c e.e st a w σ φ
def OkX(P : Program)(c : Ctx)(code : Code)(st : St)(e : XE)(st' : St) : Prop :=
 ∀ (a : Act) (w : World) (σ : Sig) (φ : Pl),Rel c st a w σ φ→code.wpIn (fnc c) 0 P (fun x a' w'=>x = e.e∧∃ σ' φ',JW c e st' a' w' σ' φ') a w
def ze(e : XE)(st' : St) : Exit→St→Prop:=fun x s=>x = e.e∧s = st'
theorem OkX.of{code : Code}{st st' : St}{e : XE}(he : e≠.mk)(h : OkC P c code st (ze e st')) : OkX P c code st e st':=by
 intro a w σ φ hr
 refine wpIn_mono (h a w σ φ hr) ?_
 rintro x a' w' ⟨s,σ',φ',⟨rfl,rfl⟩,h2⟩
 refine ⟨rfl,σ',φ',?_⟩
 cases e <;> first | exact absurd rfl he | exact h2
theorem OkX.okC{code : Code}{st st' : St}{e : XE}(he : e≠.mk)(h : OkX P c code st e st') : OkC P c code st (ze e st'):=by
 intro a w σ φ hr
 refine wpIn_mono (h a w σ φ hr) ?_
 rintro x a' w' ⟨rfl,σ',φ',h2⟩
 refine ⟨st',σ',φ',⟨rfl,rfl⟩,?_⟩
 cases e <;> first | exact absurd rfl he | exact h2
theorem tI{V : Env}{mf : FuncId→Bool}{rg : List Nat}{orc : Orc}{n : Nat} : ∀ (z : Code) {st s : St},bI V mf rg orc n false false z st≠some (.mk,s):=by
 intro z
 induction z with
 | region id ops d =>
   intro st s h
   cases d <;> simp only [bI] at h <;> split at h <;> simp at h
 | seq x y ihx ihy =>
   intro st s h
   simp only [bI] at h
   split at h
   ·exact ihy h
   ·rename_i h1; exact ihx h1
   ·rename_i h1 h2; exact h2 _ h
 | cond o x y ihx ihy =>
   intro st s h
   simp only [bI] at h
   split at h
   ·exact ihx h
   ·exact ihy h
   ·simp at h
 | block id x ih =>
   intro st s h
   simp only [bI] at h
   split at h
   ·rename_i i st' h1
    cases hb : Nat.beq i id <;> simp [hb] at h
   ·exact ih h
 | loop x ih =>
   intro st s h
   simp only [bI] at h
   have key : ∀ (m : Nat) (st : St),jK (fun s=>bI V mf rg orc n false false x s) m st≠some (.mk,s):=by
    intro m
    induction m with
    | zero=>intro st h; simp [jK] at h
    | succ m ihm =>
      intro st h
      simp only [jK] at h
      split at h
      ·exact ihm _ h
      ·simp at h
      ·rename_i h1 h2; exact h2 _ h
   exact key _ _ h
 | _=>intro st s h; simp [bI] at h
theorem Ey{V : Env}(hV : EnvOk P V){mf : FuncId→Bool}{rg : List Nat}{orc : Orc}(hO : OrcOk P orc)(hm : P.follows .mixedOrders = true) : ∀ (code : Code) (rf yf : Bool) (c : Ctx) (st : St) (e : XE) (st' : St),(yf = true→c.rd = none)→(rf = true→c.rd = none∧c.mks = [])→bI V mf rg orc c.n rf yf code st = some (e,st')→OkX P c code st e st':=by
 intro code
 induction code with
 | skip =>
   intro rf yf c st e st' hy hr h
   simp only [bI,Option.some.injEq,Prod.mk.injEq] at h
   obtain ⟨rfl,rfl⟩:=h
   exact .of (by simp) (A5 ⟨rfl,rfl⟩)
 | region id ops d =>
   intro rf yf c st e st' hy hr h
   cases d with
   | true =>
     simp only [bI] at h
     split at h <;> simp at h
     rename_i s hs
     obtain ⟨rfl,rfl⟩:=h
     have h1 : OkC P c (.region id ops true) st (fun x s'=>x = .normal∧(⟨nL s'.fr,s'.sto⟩ : St) = s) :=
      sM hm (by
       have:=su (c:=c) hV hO hy hs
       simpa using this)
     refine .of (by simp) ?_
     intro a w σ φ hr
     refine wpIn_mono (h1 a w σ φ hr) ?_
     rintro e a' w' ⟨s',σ',φ',⟨rfl,rfl⟩,h2⟩
     exact ⟨_,σ',φ',⟨rfl,rfl⟩,.inl ((h2.rel (by simp)).cong (fun _=>rC) fun _=>rfl)⟩
   | false =>
     simp only [bI] at h
     split at h <;> simp at h
     rename_i s hs
     obtain ⟨rfl,rfl⟩:=h
     exact .of (by simp) (wa (CD (uR hV hO hy hs) fun s hs=>⟨rfl,hs⟩))
 | rangeFunc g ps assign body =>
   intro rf yf c st e st' hy hr h
   simp only [bI] at h
   cases rf with
   | false=>simp at h
   | true =>
     obtain ⟨hr1,hr2⟩:=hr rfl
     simp only [cond_true] at h
     intro a w σ φ hrel
     split at h <;> simp at h
     ·rename_i s1 hx
      obtain ⟨rfl,rfl⟩:=h
      refine wpIn_mono (wg hO hr1 hr2 hx a w σ φ hrel) ?_
      rintro x a' w' (⟨_,rfl,c1,σ',φ',h1,h2⟩ | ⟨h,_⟩)
      ·exact ⟨rfl,σ',φ',c1,h1,h2⟩
      ·cases h
     ·rename_i cd s1 hx
      obtain ⟨rfl,rfl⟩:=h
      refine wpIn_mono (wg hO hr1 hr2 hx a w σ φ hrel) ?_
      rintro x a' w' (⟨h,_⟩ | ⟨_,rfl,σ',φ',h2⟩)
      ·cases h
      ·exact ⟨rfl,σ',φ',h2⟩
 | seq x y ihx ihy =>
   intro rf yf c st e st' hy hr h
   simp only [bI] at h
   intro a w σ φ hrel
   cases hx : bI V mf rg orc c.n rf yf x st with
   | none=>simp [hx] at h
   | some r =>
     obtain ⟨e1,s1⟩:=r
     refine wpIn_seq (wpIn_mono (ihx _ _ _ _ _ _ hy hr hx a w σ φ hrel) ?_)
     rintro ex a1 w1 ⟨rfl,σ1,φ1,h1⟩
     cases e1 with
     | norm =>
       simp only [hx] at h
       exact ihy _ _ _ _ _ _ hy hr h a1 w1 σ1 φ1 (RelE.rel h1 (by simp [XE.e]))
     | ex i=>simp only [hx,Option.some.injEq,Prod.mk.injEq] at h; obtain ⟨rfl,rfl⟩:=h; exact ⟨rfl,σ1,φ1,h1⟩
     | ret=>simp only [hx,Option.some.injEq,Prod.mk.injEq] at h; obtain ⟨rfl,rfl⟩:=h; exact ⟨rfl,σ1,φ1,h1⟩
     | mk =>
       simp only [hx] at h
       obtain ⟨c1,⟨g1,g2,g3,g4⟩,h2⟩:=h1
       have hrun : ∀ {e2 : XE} {s2 : St},bI V mf rg orc c.n false yf y s1 = some (e2,s2)→y.wpIn (fnc c) 0 P (fun x a' w'=>x = e2.e∧∃ σ' φ',JW c1 e2 s2 a' w' σ' φ') a1 w1:=by
        intro e2 s2 hq
        rw [← g1] at hq
        have h3:=ihy false yf c1 s1 e2 s2 (fun _=>g2) (fun h=>by cases h) hq a1 w1 σ1 φ1 h2
        cases yf with
        | true =>
          have hf : fnc c1 = fnc c:=by rw [gH g2,gH (hy rfl)]
          rwa [hf] at h3
        | false =>
          cases rf with
          | true =>
            have hf : fnc c1 = fnc c:=by rw [gH g2,gH (hr rfl).1]
            rwa [hf] at h3
          | false =>
            exfalso
            have none : ∀ (z : Code) {st : St} {s : St},bI V mf rg orc c.n false false z st≠some (.mk,s):=tI
            exact none x hx
       split at h <;> (try (simp at h; done))
       ·rename_i s2 hs2
        simp only [Option.some.injEq,Prod.mk.injEq] at h
        obtain ⟨rfl,rfl⟩:=h
        refine wpIn_mono (hrun hs2) ?_
        rintro x a' w' ⟨rfl,σ',φ',h4⟩
        exact ⟨rfl,σ',φ',c1,⟨g1,g2,g3,g4⟩,RelE.rel h4 (by simp [XE.e])⟩
       ·rename_i s2 hs2
        simp only [Option.some.injEq,Prod.mk.injEq] at h
        obtain ⟨rfl,rfl⟩:=h
        refine wpIn_mono (hrun hs2) ?_
        rintro x a' w' ⟨rfl,σ',φ',h4⟩
        refine ⟨rfl,σ',φ',?_⟩
        rcases (show RelE c1 .ret _ a' w' σ' φ' from h4) with h5 | ⟨_,r,_,_,_,h5⟩
        ·exact g4 _ _ _ _ _ h5
        ·exact absurd h5.defers.symm g3
 | cond o x y ihx ihy =>
   intro rf yf c st e st' hy hr h
   simp only [bI] at h
   intro a w σ φ hrel
   split at h
   ·rename_i hb
    have h1:=RepC.d_inv (ax hrel hb)
    generalize hu : a.eval o = u at h1
    cases h1
    exact wpIn_cond_true hu (ihx _ _ _ _ _ _ hy hr h a w σ φ hrel)
   ·rename_i hb
    have h1:=RepC.d_inv (ax hrel hb)
    generalize hu : a.eval o = u at h1
    cases h1
    exact wpIn_cond_false hu (ihy _ _ _ _ _ _ hy hr h a w σ φ hrel)
   ·simp at h
 | block id x ih =>
   intro rf yf c st e st' hy hr h
   simp only [bI] at h
   intro a w σ φ hrel
   cases hx : bI V mf rg orc c.n rf yf x st with
   | none=>simp [hx] at h
   | some r =>
     obtain ⟨e1,s1⟩:=r
     refine wpIn_block (wpIn_mono (ih _ _ _ _ _ _ hy hr hx a w σ φ hrel) ?_)
     rintro ex a1 w1 ⟨rfl,σ1,φ1,h1⟩
     cases e1 with
     | norm=>simp only [hx,Option.some.injEq,Prod.mk.injEq] at h; obtain ⟨rfl,rfl⟩:=h; exact ⟨rfl,σ1,φ1,h1⟩
     | ret=>simp only [hx,Option.some.injEq,Prod.mk.injEq] at h; obtain ⟨rfl,rfl⟩:=h; exact ⟨rfl,σ1,φ1,h1⟩
     | mk=>simp only [hx,Option.some.injEq,Prod.mk.injEq] at h; obtain ⟨rfl,rfl⟩:=h; exact ⟨rfl,σ1,φ1,h1⟩
     | ex i =>
       simp only [hx] at h
       cases hb : Nat.beq i id with
       | true =>
         have hi:=Nat.eq_of_beq_eq_true hb
         simp only [hb,cond_true,Option.some.injEq,Prod.mk.injEq] at h
         obtain ⟨rfl,rfl⟩:=h
         simp only [XE.e,Exit.inBlock]
         rw [if_pos hi]
         exact ⟨trivial,σ1,φ1,.inl (RelE.rel h1 (by simp [XE.e]))⟩
       | false =>
         simp only [hb,cond_false,Option.some.injEq,Prod.mk.injEq] at h
         obtain ⟨rfl,rfl⟩:=h
         have hi : i≠id:=by rintro rfl; rw [Nat.beq_refl] at hb; cases hb
         simp only [XE.e,Exit.inBlock]
         rw [if_neg hi]
         exact ⟨trivial,σ1,φ1,h1⟩
 | loop x ih =>
   intro rf yf c st e st' hy hr h
   simp only [bI] at h
   have hne : ∀ {n : Nat} {s : St},jK (fun s=>bI V mf rg orc c.n rf yf x s) n s = some (e,st')→e≠.mk:=by
    intro n
    induction n with
    | zero=>intro s h; simp [jK] at h
    | succ n ihn =>
      intro s h
      simp only [jK] at h
      split at h
      ·exact ihn h
      ·simp at h
      ·rename_i h1 h2
       rintro rfl
       exact h2 _ h
   refine .of (hne h) (ng (fun n s=>jK (fun s=>bI V mf rg orc c.n rf yf x s) n s = some (e,st')) 100000 h fun n s hs=>?_)
   cases n with
   | zero=>simp [jK] at hs
   | succ n =>
     simp only [jK] at hs
     cases hx : bI V mf rg orc c.n rf yf x s with
     | none=>simp [hx] at hs
     | some r =>
       obtain ⟨e1,s1⟩:=r
       by_cases hmk : e1 = .mk
       ·subst hmk; simp [hx] at hs
       refine iV ((ih _ _ _ _ _ _ hy hr hx).okC hmk) ?_
       rintro ex s' ⟨rfl,rfl⟩
       cases e1 with
       | norm=>simp only [hx] at hs; exact ⟨n,_,by omega,hs,Imp.refl _⟩
       | ex i=>simp only [hx,Option.some.injEq,Prod.mk.injEq] at hs; obtain ⟨rfl,rfl⟩:=hs; exact ⟨rfl,rfl⟩
       | ret=>simp only [hx,Option.some.injEq,Prod.mk.injEq] at hs; obtain ⟨rfl,rfl⟩:=hs; exact ⟨rfl,rfl⟩
       | mk=>exact absurd rfl hmk
 | exit id =>
   intro rf yf c st e st' hy hr h
   simp only [bI,Option.some.injEq,Prod.mk.injEq] at h
   obtain ⟨rfl,rfl⟩:=h
   exact .of (by simp) (A7 ⟨rfl,rfl⟩)
 | ret =>
   intro rf yf c st e st' hy hr h
   simp only [bI,Option.some.injEq,Prod.mk.injEq] at h
   obtain ⟨rfl,rfl⟩:=h
   exact .of (by simp) (dg ⟨rfl,rfl⟩)
 | _=>intros; simp_all [bI]
theorem sv{V : Env}(hV : EnvOk P V){mf : FuncId→Bool}{rg : List Nat}{orc : Orc}(hO : OrcOk P orc)(hm : P.follows .mixedOrders = true)(code : Code)(rf yf : Bool)(c : Ctx)(st : St)(e : XE)(st' : St)(hy : yf = true→c.rd = none)(hr : rf = true→c.rd = none∧c.mks = [])(h : bI V mf rg orc c.n rf yf code st = some (e,st'))(he : e≠.mk) : OkC P c code st (ze e st') :=
 (Ey hV hO hm code rf yf c st e st' hy hr h).okC he
theorem Ez{code : Code}{st s' ss : St}{e : XE}(h : OkC P c code st (ze e s'))(hi : ∀ {a : Act} {w : World} {σ : Sig} {φ : Pl} {mk : List Deferred},Rel { c with mks:=mk } s' a w σ φ→∃ σ2 φ2,Rel { c with mks:=mk } ss a w σ2 φ2) : OkC P c code st (ze e ss):=by
 intro a w σ φ hr
 refine wpIn_mono (h a w σ φ hr) ?_
 rintro ex a' w' ⟨s'',σ',φ',⟨rfl,rfl⟩,hE⟩
 rcases hE with hr' | ⟨he',r,hd,hh,hge,hr'⟩
 ·obtain ⟨σ2,φ2,h4⟩:=hi (mk:=c.mks) hr'
  exact ⟨ss,σ2,φ2,⟨rfl,rfl⟩,.inl h4⟩
 ·obtain ⟨σ2,φ2,h4⟩:=hi (mk:=c.mks) hr'
  exact ⟨ss,σ2,φ2,⟨rfl,rfl⟩,.inr ⟨he',r,hd,hh,hge,h4⟩⟩
def oV : List ResultVar→List Nat
 | []=>[]
 | .tmp t::r=>t::oV r
 | .cell a _::r=>a::oV r
def iI(l : List Nat) : List (Nat×AV)→List (Nat×AV)
 | []=>[]
 | (s,v)::r=>bif b5 s l then (s,v)::iI l r else iI l r
theorem mW{l : List Nat} : ∀ {fr : List (Nat×AV)} {s : Nat} {v : AV},look (iI l fr) s = some v→look fr s = some v
 | [],_,_,h=>by simp [iI,look] at h
 | (t,x)::r,s,v,h=>by
   simp only [iI] at h
   cases hm : b5 t l with
   | true =>
     simp only [hm,cond_true] at h
     rcases ah h with ⟨rfl,rfl⟩ | ⟨hne,h⟩
     ·exact ay
     ·rw [aD hne]; exact mW h
   | false =>
     simp only [hm,cond_false] at h
     by_cases e : s = t
     ·subst e
      exfalso
      have key : ∀ {fr : List (Nat×AV)} {s : Nat} {v : AV},look (iI l fr) s = some v→b5 s l = true:=by
       intro fr
       induction fr with
       | nil=>intro s v h; simp [iI,look] at h
       | cons p r ih =>
         intro s v h
         obtain ⟨t,x⟩:=p
         simp only [iI] at h
         cases hm : b5 t l with
         | true =>
           simp only [hm,cond_true] at h
           rcases ah h with ⟨rfl,rfl⟩ | ⟨_,h⟩
           ·exact hm
           ·exact ih h
         | false=>simp only [hm,cond_false] at h; exact ih h
      rw [key h] at hm; cases hm
     ·rw [aD e]; exact mW h
def CE(T : Tab)(ow : Bool)(rs : List ResultVar)(cs : Sto)(st : St) : Option St :=
 match lL T st rs with
 | some l=>(match sealL st (bif ow then [] else cR st.sto (kZ (qn l)) []) with
   | some ss=>wV (iI (oV rs) ss.fr) ss.sto (aV cs) (kZ (gZ ss.sto 1000 (wW ss.sto (aV cs) ++ jl (iI (oV rs) ss.fr)) []))
   | none=>none)
 | none=>none
theorem Gj{T : Tab}{ow : Bool}{rs : List ResultVar}{cs : Sto}{st st' : St}{a : Act}(h : CE T ow rs cs st = some st')(hr : Rel c st a w σ φ) : ∃ σ2 φ2,Rel c st' a w σ2 φ2:=by
 unfold CE at h
 split at h <;> (try (simp at h; done))
 split at h <;> (try (simp at h; done))
 rename_i ss hss
 obtain ⟨σs,_,h1,_⟩:=Rel.sealL hss hr
 obtain ⟨φ2,h2⟩:=h1.endTo (fun s v hv=>mW hv) h
 exact ⟨σs,φ2,h2⟩
def KV(cs s : Sto)(more : List Nat) : List Nat:=aV cs ++ kZ (gZ s 1000 (wW s (aV cs) ++ more) [])
def Gk(V : Env)(mf : FuncId→Bool)(rg : List Nat)(orc : Orc)(ow : Bool)(fn : Func)(code : Code)(args : List AV)(cs : Sto) : Option (AV×Sto) :=
 bif Nat.ble args.length fn.ntmps then (match bI V mf rg orc fn.ntmps true true code ⟨kM 0 args,cs⟩ with
  | some (.ex _,_)=>none
  | some (.mk,_)=>none
  | some (_,st)=>(match CE V.T ow fn.results.toList cs st with
    | some ss=>(match lL V.T ss fn.results.toList with
      | some l'=>(match oc l' with | some rav=>some (rav,eW ss.sto (KV cs ss.sto (bQ rav))) | none=>none)
      | none=>none)
    | none=>none)
  | none=>none) else none
theorem H4{V : Env}(hV : EnvOk P V){mf : FuncId→Bool}{rg : List Nat}{ow : Bool}{orc : Orc}(hO : OrcOk P orc)(hm : P.follows .mixedOrders = true){f : FuncId}{fn : Func}{code : Code}{args : List AV}{cs rs : Sto}{rav : AV}(hf : P.funcs[f]? = some fn)(hb : fn.body = some code)
  (hname : (fn.name == "runtime.NumGoroutine") = false) (h : Gk V mf rg orc ow fn code args cs = some (rav, rs)) : CallA P f args cs rav rs := by
 unfold Gk at h
 cases hn : Nat.ble args.length fn.ntmps <;> simp only [hn,cond_true,cond_false,reduceCtorEq] at h
 refine ru hV.T hf hb hname hn fun w0 σ0 φ0 M=>?_
 split at h
 ·simp at h
 ·simp at h
 ·rename_i e st hne hne2 hx
  split at h <;> (try (simp at h; done))
  rename_i ss hss
  split at h <;> (try (simp at h; done))
  rename_i l' hl'
  split at h <;> simp at h
  rename_i rav' hrav
  obtain ⟨rfl,rfl⟩:=h
  have hok:=sv hV hO hm code true true ⟨w0,σ0,φ0,M,fn.ntmps,none,[]⟩ _ _ _ (fun _=>rfl) (fun _=>⟨rfl,rfl⟩) hx (by rintro rfl; exact hne2 rfl)
  refine iV (Ez hok fun hr=>Gj hss hr) ?_
  rintro ex s ⟨rfl,rfl⟩
  refine ⟨?_,l',hl',hrav,keepK_sub⟩
  cases e with
  | norm=>exact .inr rfl
  | ret=>exact .inl rfl
  | ex i=>exact absurd rfl (hne i)
  | mk=>exact absurd rfl hne2
 ·simp at h
def Gl(cs : Sto)(st : St) : Option St:=wV [] st.sto (aV cs) (kZ (gZ st.sto 1000 (wW st.sto (aV cs)) []))
def zf(V : Env)(mf : FuncId→Bool)(rg : List Nat)(orc : Orc)(j : Nat)(args : List AV)(cs : Sto) : Option (AV×Sto) :=
 match look cs j with
 | some (.loop li fr .ready none)=>bif (Nat.ble 1000000 j && Nat.blt j 2000000) && (iD li.n li.params.toList && Nat.beq li.params.toList.length args.length) then
   (match bI V mf rg orc li.n false false li.assign ⟨fy li.params.toList args fr,cs⟩ with
   | some (.norm,st1)=>(match look st1.sto j with
     | some (.loop li1 fr1 .ready none)=>(match bI V mf rg orc li.n false false li.body ⟨st1.fr,bJ j (.loop li1 fr1 .busy none) st1.sto⟩ with
       | some (e,st2)=>(match Gl cs st2 with
         | some ss=>(match look ss.sto j with
           | some (.loop li2 fr2 .busy _)=>(match e with
             | .norm=>some (.one (.d (.bool true)),eW (bJ j (.loop li2 fr2 .ready none) ss.sto) (aV ss.sto))
             | .ret=>some (.one (.d (.bool false)),eW (bJ j (.loop li2 fr2 .done (some .ret)) ss.sto) (aV ss.sto))
             | .ex i=>some (.one (.d (.bool false)),eW (bJ j (.loop li2 fr2 .done (some (.exit i))) ss.sto) (aV ss.sto))
             | .mk=>none)
           | _=>none)
         | none=>none)
       | none=>none)
     | _=>none)
   | _=>none) else none
 | _=>none
theorem EA{V : Env}(hV : EnvOk P V){mf : FuncId→Bool}{rg : List Nat}{orc : Orc}(hO : OrcOk P orc)(hm : P.follows .mixedOrders = true){j : Nat}{args : List AV}{cs rs : Sto}{rav : AV}(h : zf V mf rg orc j args cs = some (rav,rs)) : YieldA P j args cs rav rs:=by
 unfold zf at h
 split at h <;> (try (simp at h; done))
 rename_i li fr hl
 cases hb : (Nat.ble 1000000 j && Nat.blt j 2000000) && (iD li.n li.params.toList && Nat.beq li.params.toList.length args.length) <;> simp only [hb,cond_true,cond_false,reduceCtorEq] at h
 rw [Bool.and_eq_true] at hb
 split at h <;> (try (simp at h; done))
 rename_i st1 hx1
 split at h <;> (try (simp at h; done))
 rename_i li1 fr1 hl1
 split at h <;> (try (simp at h; done))
 rename_i e st2 hx2
 split at h <;> (try (simp at h; done))
 rename_i ss hss
 split at h <;> (try (simp at h; done))
 rename_i li2 fr2 p2 hl2
 refine pg (by have:=hb.1; simp only [Bool.and_eq_true,Nat.ble_eq,Nat.blt_eq] at this; exact this) hl hb.2 fun w0 σ0 φ0 M B=>?_
 have h1:=sv hV hO hm li.assign false false ⟨w0,σ0,φ0,M,li.n,some B,[]⟩ _ _ _ (fun h=>by cases h) (fun h=>by cases h) hx1 (by simp)
 have h2:=sv hV hO hm li.body false false ⟨w0,σ0,φ0,M,li.n,some B,[]⟩ _ _ _ (fun h=>by cases h) (fun h=>by cases h) hx2 (by rintro rfl; exact tI _ hx2)
 have h3:=Ez (ss:=ss) h2 (fun {a w σ φ mk} hr=>by
  obtain ⟨φ2,h⟩:=hr.endTo (fr2:=[]) (fun s v hv=>by simp [look] at hv) hss
  exact ⟨σ,φ2,h⟩)
 refine iV h1 ?_
 rintro ex s ⟨rfl,rfl⟩
 refine ⟨rfl,li1,fr1,hl1,iV h3 ?_⟩
 rintro ex s ⟨rfl,rfl⟩
 refine ⟨li2,fr2,p2,hl2,?_⟩
 cases e with
 | norm =>
   simp only [Option.some.injEq,Prod.mk.injEq] at h
   obtain ⟨rfl,rfl⟩:=h
   exact .inl ⟨rfl,rfl,keepK_sub⟩
 | ret =>
   simp only [Option.some.injEq,Prod.mk.injEq] at h
   obtain ⟨rfl,rfl⟩:=h
   exact .inr ⟨_,rfl,rfl,keepK_sub⟩
 | ex i =>
   simp only [Option.some.injEq,Prod.mk.injEq] at h
   obtain ⟨rfl,rfl⟩:=h
   exact .inr ⟨_,rfl,rfl,keepK_sub⟩
 | mk=>simp at h
structure Cfg where
 mf : List Nat
 ow : List (Nat×List Nat)
def Cfg.rg(cf : Cfg)(f : Nat) : List Nat:=match look cf.ow f with | some l=>l | none=>[]
def sf(P : Program)(V : Env)(cf : Cfg)(sp : Orc) : Nat→Orc
 | 0=>sp
 | n + 1=>fun f ow avs cs=>match sp f ow avs cs with
   | some r=>some r
   | none=>match f with
     | some f=>(match P.funcs[f]? with
       | some fn=>match fn.body with
         | some code=>Gk V (fun f=>b5 f cf.mf) (cf.rg f) (sf P V cf sp n) ow fn code avs cs
         | none=>none
       | none=>none)
     | none=>(match avs with
       | .one (.yl j)::args=>zf V (fun f=>b5 f cf.mf) [] (sf P V cf sp n) j args cs
       | _=>none)
theorem qI {P : Program} {V : Env} (hV : EnvOk P V) (hm : P.follows .mixedOrders = true) (hname : ∀ (f : FuncId) (fn : Func), P.funcs[f]? = some fn → (fn.name == "runtime.NumGoroutine") = false) {cf : Cfg} {sp : Orc} (hs : OrcOk P sp) : ∀ n, OrcOk P (sf P V cf sp n)
 | 0=>hs
 | n + 1=>by
   refine ⟨fun f b avs cs r s h=>?_,fun j b avs cs r s h=>?_⟩
   ·simp only [sf] at h
    split at h
    ·rename_i r' hr
     simp at h; subst h
     exact hs.call f b avs cs _ _ hr
    split at h <;> (try (simp at h; done))
    rename_i fn hf
    split at h <;> (try (simp at h; done))
    rename_i code hc
    exact H4 hV (qI hV hm hname hs n) hm hf hc (hname f fn hf) h
   ·simp only [sf] at h
    split at h
    ·rename_i r' hr
     simp at h; subst h
     exact hs.yld j b avs cs _ _ hr
    exact EA hV (qI hV hm hname hs n) hm h
end Go.Abs
namespace Go.Abs
open Go
def lEq{α : Type}(eq : α→α→Bool) : List α→List α→Bool
 | [],[]=>true
 | x::xs,y::ys=>eq x y && lEq eq xs ys
 | _,_=>false
theorem dF{α : Type}{eq : α→α→Bool}(h : ∀ a b,eq a b = true→a = b) : ∀ {x y : List α},lEq eq x y = true→x = y
 | [],[],_=>rfl
 | a::x,b::y,he=>by
   simp only [lEq,Bool.and_eq_true] at he
   rw [h _ _ he.1,dF h he.2]
 | [],_::_,he=>by simp [lEq] at he
 | _::_,[],he=>by simp [lEq] at he
def iEq : Int→Int→Bool
 | .ofNat a,.ofNat b=>Nat.beq a b
 | .negSucc a,.negSucc b=>Nat.beq a b
 | _,_=>false
theorem JG{a b : Int}(h : iEq a b = true) : a = b:=by
 cases a <;> cases b <;> simp only [iEq,reduceCtorEq] at h <;> rw [Nat.eq_of_beq_eq_true h]
def JH(a b : UInt8) : Bool:=Nat.beq a.toNat b.toNat
theorem HP(a b : UInt8)(h : JH a b = true) : a = b:=UInt8.toNat.inj (Nat.eq_of_beq_eq_true h)
def dEq : Nat→D→D→Bool
 | 0,_,_=>false
 | _ + 1,.int k x,.int k' y=>kEq k k' && iEq x y
 | _ + 1,.bool x,.bool y=>bEq x y
 | _ + 1,.str x,.str y=>lEq JH x y
 | _ + 1,.nil,.nil=>true
 | n + 1,.sl k b xs,.sl k' b' ys=>Nat.beq k k' && (Nat.beq b b' && lEq (lEq (dEq n)) xs ys)
 | n + 1,.ptr xs,.ptr ys=>lEq (dEq n) xs ys
 | n + 1,.fn f xs,.fn g ys=>Nat.beq f g && lEq (dEq n) xs ys
 | _ + 1,_,_=>false
theorem p8 : ∀ n a b,dEq n a b = true→a = b
 | 0,_,_,h=>by simp [dEq] at h
 | n + 1,a,b,h=>by
   have ih:=p8 n
   cases a <;> cases b <;> simp only [dEq,Bool.and_eq_true,reduceCtorEq] at h
   ·rw [fl h.1,JG h.2]
   ·rw [gE h]
   ·rw [dF HP h]
   ·rfl
   ·rw [Nat.eq_of_beq_eq_true h.1,Nat.eq_of_beq_eq_true h.2.1,dF (fun _ _=>dF ih) h.2.2]
   ·rw [dF ih h]
   ·rw [Nat.eq_of_beq_eq_true (n:=_) (m:=_) h.1,dF ih h.2]
def cEq : AC→AC→Bool
 | .d x,.d y=>dEq 20 x y
 | .own a b,.own a' b'=>Nat.beq a a' && Nat.beq b b'
 | .sub a b c,.sub a' b' c'=>Nat.beq a a' && (Nat.beq b b' && Nat.beq c c')
 | .ref a b,.ref a' b'=>Nat.beq a a' && Nat.beq b b'
 | .rref a b c,.rref a' b' c'=>Nat.beq a a' && (Nat.beq b b' && Nat.beq c c')
 | .yl a,.yl b=>Nat.beq a b
 | .mapr a,.mapr b=>Nat.beq a b
 | .bsl a b c,.bsl a' b' c'=>Nat.beq a a' && (Nat.beq b b' && Nat.beq c c')
 | .junk,.junk=>true
 | _,_=>false
theorem tD(a b : AC)(h : cEq a b = true) : a = b:=by
 cases a <;> cases b <;> simp only [cEq,Bool.and_eq_true,reduceCtorEq] at h
 ·rw [p8 _ _ _ h]
 ·rw [Nat.eq_of_beq_eq_true h.1,Nat.eq_of_beq_eq_true h.2]
 ·rw [Nat.eq_of_beq_eq_true h.1,Nat.eq_of_beq_eq_true h.2.1,Nat.eq_of_beq_eq_true h.2.2]
 ·rw [Nat.eq_of_beq_eq_true h.1,Nat.eq_of_beq_eq_true h.2]
 ·rw [Nat.eq_of_beq_eq_true h.1,Nat.eq_of_beq_eq_true h.2.1,Nat.eq_of_beq_eq_true h.2.2]
 ·rw [Nat.eq_of_beq_eq_true h]
 ·rw [Nat.eq_of_beq_eq_true h]
 ·rw [Nat.eq_of_beq_eq_true h.1,Nat.eq_of_beq_eq_true h.2.1,Nat.eq_of_beq_eq_true h.2.2]
 ·rfl
def tEq(a b : Bool×List AC) : Bool:=bEq a.1 b.1 && lEq cEq a.2 b.2
theorem JI(a b : Bool×List AC)(h : tEq a b = true) : a = b:=by
 obtain ⟨a1,a2⟩:=a; obtain ⟨b1,b2⟩:=b
 simp only [tEq,Bool.and_eq_true] at h
 rw [gE h.1,dF tD h.2]
def vEq : AV→AV→Bool
 | .one a,.one b=>cEq a b
 | .agg a,.agg b=>lEq cEq a b
 | .tup a,.tup b=>lEq tEq a b
 | .any,.any=>true
 | _,_=>false
theorem Ek(a b : AV)(h : vEq a b = true) : a = b:=by
 cases a <;> cases b <;> simp only [vEq,reduceCtorEq] at h
 ·rw [tD _ _ h]
 ·rw [dF tD h]
 ·rw [dF JI h]
 ·rfl
def FZ(a b : List D×List D) : Bool:=lEq (dEq 20) a.1 b.1 && lEq (dEq 20) a.2 b.2
theorem HQ(a b : List D×List D)(h : FZ a b = true) : a = b:=by
 obtain ⟨a1,a2⟩:=a; obtain ⟨b1,b2⟩:=b
 simp only [FZ,Bool.and_eq_true] at h
 rw [dF (p8 _) h.1,dF (p8 _) h.2]
def oEq : AObj→AObj→Bool
 | .box a,.box b=>lEq cEq a b
 | .row k b xs,.row k' b' ys=>Nat.beq k k' && (Nat.beq b b' && lEq (lEq (dEq 20)) xs ys)
 | .map g v xs,.map g' v' ys=>bEq g g' && (bEq v v' && lEq FZ xs ys)
 | _,_=>false
theorem JJ(a b : AObj)(h : oEq a b = true) : a = b:=by
 cases a <;> cases b <;> simp only [oEq,Bool.and_eq_true,reduceCtorEq] at h
 ·rw [dF tD h]
 ·rw [Nat.eq_of_beq_eq_true h.1,Nat.eq_of_beq_eq_true h.2.1,dF (fun _ _=>dF (p8 _)) h.2.2]
 ·rw [gE h.1,gE h.2.1,dF HQ h.2.2]
def pEq(a b : Nat×AObj) : Bool:=Nat.beq a.1 b.1 && oEq a.2 b.2
theorem Em(a b : Nat×AObj)(h : pEq a b = true) : a = b:=by
 obtain ⟨a1,a2⟩:=a; obtain ⟨b1,b2⟩:=b
 simp only [pEq,Bool.and_eq_true] at h
 rw [Nat.eq_of_beq_eq_true (n:=_) (m:=_) h.1,JJ _ _ h.2]
structure Ent where
 f : FuncId
 ow : Bool
 avs : List AV
 cs : Sto
 r : AV
 s : Sto
def bT(P : Program)(e : Ent) : Prop:=CallA P e.f e.avs e.cs e.r e.s
def yY(e : Ent)(f : FuncId)(ow : Bool)(avs : List AV)(cs : Sto) : Bool :=
 Nat.beq e.f f && (bEq e.ow ow && (lEq vEq e.avs avs && lEq pEq e.cs cs))
def spT : List Ent→Orc
 | [],_,_,_,_=>none
 | _,none,_,_,_=>none
 | e::l,some f,ow,avs,cs=>bif yY e f ow avs cs then some (e.r,e.s) else spT l (some f) ow avs cs
def Cv(P : Program) : List Ent→Prop
 | []=>True
 | e::l=>bT P e∧Cv P l
theorem yy{P : Program} : ∀ {l : List Ent},Cv P l→OrcOk P (spT l)
 | [],_=>⟨fun f b avs cs r s h=>by simp [spT] at h,fun j b avs cs r s h=>by simp [spT] at h⟩
 | e::l,hl=>by
   refine ⟨fun f b avs cs r s h=>?_,fun j b avs cs r s h=>by simp [spT] at h⟩
   simp only [spT] at h
   cases hb : yY e f b avs cs with
   | false=>simp only [hb,cond_false] at h; exact (yy hl.2).call f b avs cs r s h
   | true =>
     simp only [hb,cond_true,Option.some.injEq,Prod.mk.injEq] at h
     obtain ⟨rfl,rfl⟩:=h
     simp only [yY,Bool.and_eq_true] at hb
     have h1:=Nat.eq_of_beq_eq_true (n:=_) (m:=_) hb.1
     have h2:=dF Ek hb.2.2.1
     have h3:=dF Em hb.2.2.2
     subst h1; subst h2; subst h3
     exact hl.1
def aS(P : Program)(V : Env)(cf : Cfg)(l : List Ent)(n : Nat)(e : Ent) : Bool :=
 match sf P V cf (spT l) n (some e.f) e.ow e.avs e.cs with
 | some (r,s)=>vEq r e.r && lEq pEq s e.s
 | none=>false
structure ProgOk (P : Program) (V : Env) : Prop where
 env : EnvOk P V
 mo : P.follows .mixedOrders = true
 name : ∀ (f : FuncId) (fn : Func), P.funcs[f]? = some fn → (fn.name == "runtime.NumGoroutine") = false
theorem bf{P : Program}{V : Env}(hP : ProgOk P V){cf : Cfg}{l : List Ent}(hl : Cv P l){n : Nat}{e : Ent}(h : aS P V cf l n e = true) : bT P e:=by
 unfold aS at h
 split at h <;> (try (simp at h; done))
 rename_i r s hr
 simp only [Bool.and_eq_true] at h
 have h1:=Ek _ _ h.1
 have h2:=dF Em h.2
 subst h1; subst h2
 exact (qI hP.env hP.mo hP.name (yy hl) n).call _ _ _ _ _ _ hr
def kkB : List KK→List KK→Bool
 | [],[]=>true
 | .int k::r,.int k'::r'=>kEq k k' && kkB r r'
 | .bool::r,.bool::r'=>kkB r r'
 | .str::r,.str::r'=>kkB r r'
 | _,_=>false
theorem tl : ∀ {a b : List KK},kkB a b = true→a = b
 | [],[],_=>rfl
 | .int k::r,.int k'::r',h=>by
   simp only [kkB,Bool.and_eq_true] at h
   rw [fl h.1,tl h.2]
 | .bool::r,.bool::r',h=>by rw [tl (show kkB r r' = true from h)]
 | .str::r,.str::r',h=>by rw [tl (show kkB r r' = true from h)]
 | [],_::_,h=>by simp [kkB] at h
 | .int _::_,[],h=>by simp [kkB] at h
 | .bool::_,[],h=>by simp [kkB] at h
 | .str::_,[],h=>by simp [kkB] at h
 | .int _::_,.bool::_,h=>by simp [kkB] at h
 | .int _::_,.str::_,h=>by simp [kkB] at h
 | .bool::_,.int _::_,h=>by simp [kkB] at h
 | .bool::_,.str::_,h=>by simp [kkB] at h
 | .str::_,.int _::_,h=>by simp [kkB] at h
 | .str::_,.bool::_,h=>by simp [kkB] at h
def shB(P : Program)(t : TypeId)(ks : List KK) : Bool:=match eQ P 6 t with | some l=>kkB l ks | none=>false
theorem D9{P : Program}{t : TypeId}{ks : List KK}(h : shB P t ks = true) : eQ P 6 t = some ks:=by
 unfold shB at h
 split at h
 ·rename_i l hl
  rw [hl,tl h]
 ·cases h
def eB(P : Program)(t : TypeId)(ks : List KK) : Bool:=shB P t ks && P.keyTypeAt 6 t && jt P t && !P.eqGuardType P.depth t
def Cl(P : Program) : rK→Bool
 | []=>true
 | (t,ks)::r=>eB P t ks && Cl P r
theorem xx{P : Program} : ∀ {E : rK},Cl P E = true→xe P E
 | [],_=>fun t ks h=>by simp [look] at h
 | (t',ks')::r,h=>by
   simp only [Cl,Bool.and_eq_true] at h
   intro t ks hl
   rcases ah hl with ⟨rfl,rfl⟩ | ⟨_,hl⟩
   ·have h1:=h.1
    simp only [eB,Bool.and_eq_true,Bool.not_eq_true'] at h1
    exact ⟨D9 h1.1.1.1,h1.1.1.2,h1.1.2,h1.2⟩
   ·exact xx h.2 t ks hl
def yE(P : Program)(t : TypeId) : List KK→Bool
 | [.int k]=>(match P.underlying t with | some (.int k')=>kEq k' k | _=>false)
 | [.bool]=>(match P.underlying t with | some .bool=>true | _=>false)
 | [.str]=>(match P.underlying t with | some .string=>true | _=>false)
 | _=>false
theorem Ea{P : Program}{t : TypeId}{ks : List KK}(h : yE P t ks = true) : ∃ k,ks = [k]∧P.underlying t = some (mA k):=by
 unfold yE at h
 split at h
 ·split at h
  ·rename_i k k' hu
   refine ⟨_,rfl,?_⟩
   rw [hu,fl h]; rfl
  ·cases h
 ·split at h
  ·rename_i hu; exact ⟨_,rfl,hu⟩
  ·cases h
 ·split at h
  ·rename_i hu; exact ⟨_,rfl,hu⟩
  ·cases h
 ·cases h
def mB(P : Program)(t : TypeId)(m : MTy) : Bool :=
 (match P.underlying t with | some (.map k e)=>Nat.beq k m.kt && Nat.beq e m.et | _=>false) &&
 (shB P m.kt m.ks && P.keyTypeAt 6 m.kt && bEq (jt P m.kt) m.kg && !P.eqGuardType P.depth m.kt && (m.kg || yE P m.kt m.ks)) &&
 (match P.info? m.et with
  | some i=>(match i.zero with
    | some zv=>lZ m.z zv.cells.toList && m.z.all gp && (if m.vg then tm zv else (zv.oneCell && Nat.beq m.z.length 1))
    | none=>false)
  | none=>false)
theorem KH{P : Program}{t : TypeId}{m : MTy}(h : mB P t m = true) : MOk P t m:=by
 unfold mB at h
 simp only [Bool.and_eq_true] at h
 obtain ⟨⟨h1,h2⟩,h3⟩:=h
 refine ⟨?_,?_,?_⟩
 ·split at h1
  ·rename_i k e hu
   simp only [Bool.and_eq_true] at h1
   rw [hu,Nat.eq_of_beq_eq_true h1.1,Nat.eq_of_beq_eq_true h1.2]
  ·cases h1
 ·obtain ⟨⟨⟨⟨a1,a2⟩,a3⟩,a4⟩,a5⟩:=h2
  refine ⟨D9 a1,a2,gE a3,by simpa using a4,fun hk=>?_⟩
  rw [hk,Bool.false_or] at a5
  exact Ea a5
 ·split at h3
  ·rename_i i hi
   split at h3
   ·rename_i zv hz
    simp only [Bool.and_eq_true] at h3
    obtain ⟨⟨b1,b2⟩,b3⟩:=h3
    refine ⟨i,zv,hi,hz,fun σ=>?_⟩
    have hall : ∀ x∈m.z,gp x = true:=by simpa using b2
    have hcells:=pU b1
    have hrep : All2 (Rep σ) m.z (m.z.map iu):=by
     have : ∀ {l : List D},(∀ x∈l,gp x = true)→All2 (Rep σ) l (l.map iu):=by
      intro l
      induction l with
      | nil=>intro _; trivial
      | cons d l ih=>intro h; exact ⟨lR (h d (by simp)),ih fun x hx=>h x (by simp [hx])⟩
     exact this hall
    cases hg : m.vg with
    | true =>
      rw [hg] at b3
      simp only [if_true] at b3
      cases zv <;> simp [tm] at b3
      rename_i cs
      refine ⟨cs.toList,by simp,?_⟩
      rw [show cs.toList = m.z.map iu from hcells]
      exact hrep
    | false =>
      rw [hg] at b3
      simp only [Bool.false_eq_true,if_false,Bool.and_eq_true] at b3
      have hl:=Nat.eq_of_beq_eq_true b3.2
      have hone : zv.cells.toList = [zv]:=by
       have:=b3.1
       cases zv <;> first | rfl | simp [Value.oneCell] at this
      rw [hone] at hcells
      show All2 (Rep σ) m.z [zv]
      rw [hcells]
      exact hrep
   ·cases h3
  ·cases h3
def Cn(P : Program) : BA→Bool
 | []=>true
 | (t,m)::r=>mB P t m && Cn P r
theorem xy{P : Program} : ∀ {M : BA},Cn P M = true→∀ t m,look M t = some m→MOk P t m
 | [],_=>fun t ks h=>by simp [look] at h
 | (t',ks')::r,h=>by
   simp only [Cn,Bool.and_eq_true] at h
   intro t ks hl
   rcases ah hl with ⟨rfl,rfl⟩ | ⟨_,hl⟩
   ·exact KH h.1
   ·exact xy h.2 t ks hl
end Go.Abs
namespace Go.Abs
open Go
variable {P : Program} {T : Tab} {w0 : World} {σ0 : Sig} {φ0 : Pl} {M : Nat→Prop} {n : Nat} {rd : Option Nat} {mk : List Deferred} {ops : Array Oper} {o : Oper} {rest : List Oper} {fr : List (Nat×AV)} {sto : Sto} {K : St→Prop}
theorem iK(hT : aO P T){d : Nat}{v : AV}(hg : o.guard = none)(hdst : o.dst = some d)(hd : Nat.blt d n = true)(hv : bX T ⟨fr,sto⟩ o.op = some v)
  (h : aa P ⟨w0,σ0,φ0,M,n,rd,mk⟩ ops rest ⟨(d,v)::fr,sto⟩ K) : aa P ⟨w0,σ0,φ0,M,n,rd,mk⟩ ops (o::rest) ⟨fr,sto⟩ K :=
 vr hT hg (by rw [hdst]; exact hd) hv (by rw [hdst]; exact h)
def Al : BinOp→Bool
 | .add | .sub | .mul=>true
 | _=>false
def GJ : BinOp→Int→Int→Int
 | .add,x,y=>x + y
 | .sub,x,y=>x - y
 | _,x,y=>x * y
theorem um{k : IntKind}{z : Int}(h : inR k z) : k.wrap z = z:=by
 unfold inR at h
 unfold IntKind.wrap
 cases k <;> simp [IntKind.signed,IntKind.bits,IntKind.min,IntKind.max] at h ⊢ <;> (try split) <;> omega
theorem ga{z : Int}(h1 : -9223372036854775808≤z)(h2 : z≤9223372036854775807) : IntKind.i64.wrap z = z :=
 um ⟨by simp [IntKind.min,IntKind.signed,IntKind.bits]; exact h1,by simp [IntKind.max,IntKind.signed,IntKind.bits]; exact h2⟩
theorem Am{j : Nat}{want b : Bool}(hg : o.guard = some (j,want))(hb : fj ⟨fr,sto⟩ ops j = some (some b))(hw : b = want)
  (h : aa P ⟨w0,σ0,φ0,M,n,rd,mk⟩ ops ({ o with guard:=none }::rest) ⟨fr,sto⟩ K) : aa P ⟨w0,σ0,φ0,M,n,rd,mk⟩ ops (o::rest) ⟨fr,sto⟩ K:=q7 hg hb hw h
theorem GK{d j : Nat}{want b : Bool}(hg : o.guard = some (j,want))(hb : fj ⟨fr,sto⟩ ops j = some (some b))(hw : b = !want)(hdst : o.dst = some d)(hd : Nat.blt d n = true)
  (h : aa P ⟨w0,σ0,φ0,M,n,rd,mk⟩ ops rest ⟨(d,.tup [])::fr,sto⟩ K) : aa P ⟨w0,σ0,φ0,M,n,rd,mk⟩ ops (o::rest) ⟨fr,sto⟩ K :=
 pA hg hb (by rw [hw]; cases want <;> simp) (by rw [hdst]; exact hd) (by rw [hdst]; exact h)
end Go.Abs
