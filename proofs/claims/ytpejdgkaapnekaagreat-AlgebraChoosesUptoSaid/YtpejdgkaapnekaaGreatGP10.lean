import Derived.Test.YtpejdgkaapnekaaGreatGP9
import Derived.Test.YtpejdgkaapnekaaGreatGP5
set_option linter.unusedVariables false
set_option linter.unusedSimpArgs false
set_option linter.unnecessarySimpa false
set_option maxHeartbeats 1000000
namespace Go.Abs
open Go
variable {P : Program} {c : Ctx} {T : Tab} {σ : Sig} {φ : Pl} {w : World}
def zk(d : Nat)(v : AV) : List (Nat×AV)→List (Nat×AV)
 | []=>[(d,v)]
 | (t,x)::r=>bif Nat.beq t d then (d,v)::r else (t,x)::zk d v r
def kK(d : Option Nat)(v : AV)(fr : List (Nat×AV)) : List (Nat×AV):=match d with
 | none=>fr
 | some d=>zk d v fr
theorem qn{d : Nat}{v : AV} : ∀ {fr : List (Nat×AV)} {t : Nat},look (zk d v fr) t = look ((d,v)::fr) t
 | [],_=>rfl
 | (s,x)::r,t=>by
   simp only [zk]
   cases hb : Nat.beq s d with
   | true =>
     have:=Nat.eq_of_beq_eq_true hb; subst this
     simp only [cond_true,look]
     cases Nat.beq s t <;> rfl
   | false =>
     simp only [cond_false,look,qn (fr:=r)]
     cases h1 : Nat.beq s t with
     | false=>rfl
     | true =>
       have e1:=Nat.eq_of_beq_eq_true h1; subst e1
       cases h2 : Nat.beq d s with
       | false=>rfl
       | true=>have:=Nat.eq_of_beq_eq_true h2; subst this; rw [Nat.beq_refl] at hb; cases hb
theorem iB{d : Option Nat}{v : AV}{fr : List (Nat×AV)}{t : Nat} : look (kK d v fr) t = look (bj d v fr) t:=by
 cases d with
 | none=>rfl
 | some d=>exact qn
def nR : List (Nat×AV)→List (Nat×AV)
 | []=>[]
 | (d,v)::r=>zk d v (nR r)
theorem rJ : ∀ {fr : List (Nat×AV)} {t : Nat},look (nR fr) t = look fr t
 | [],_=>rfl
 | (d,v)::r,t=>by
   simp only [nR,qn,look,rJ (fr:=r)]
theorem nS{fr fr' : List (Nat×AV)}{sto : Sto}(h : ∀ t,look fr' t = look fr t) : Imp c ⟨fr,sto⟩ ⟨fr',sto⟩:=fun _ _ σ φ hr=>⟨σ,φ,hr.cong (st':=⟨fr',sto⟩) h fun _=>rfl⟩
def kX(opsA : Array Oper)(st : St)(o : Oper) : Option Bool :=
 match o.guard with
 | none=>some true
 | some (j,want)=>match fW st opsA j with
   | some y=>some (y == some want)
   | none=>none
def ET(o : Oper)(f : FuncId)(caps : List Operand)(st : St)(dl : List Nat) : Option St :=
 match dl with
 | []=>none
 | dl=>(match sealL st dl with
   | some ss=>(match evL ss caps with
     | some avs=>(match jP avs with | some ds=>some ⟨kK o.dst (.one (.d (.fn f ds))) ss.fr,ss.sto⟩ | none=>none)
     | none=>none)
   | none=>none)
def EU : Option AV→Bool
 | some (.one (.rref _ _ _))=>true
 | _=>false
def zl(V : Env)(o : Oper)(st : St)(dl : List Nat) : Option St :=
 match dl with
 | []=>none
 | dl=>(match sealL st dl with
   | some ss=>(match aQ V ss o 0 with
     | some ⟨v,wr,[]⟩=>some ⟨kK o.dst v ss.fr,cC wr ss.sto⟩
     | _=>none)
   | none=>none)
def CQ(V : Env)(st : St)(o : Oper) : Option St :=
 match o.op with
 | .makeFunc (.func f) ⟨[]⟩ caps=>ET o f caps.toList st (cV st.sto (bZ st caps.toList) [])
 | .store _ x y=>bif EU (ev st x) then zl V o st (cV st.sto (qV st y) []) else none
 | _=>none
theorem EV{V : Env}(hV : EnvOk P V){opsA : Array Oper}{l : List Oper}{st st' : St}{o : Oper}{K : St→Prop}{dl : List Nat}(hd : aP c.n o.dst = true)(h : zl V o st dl = some st')(hk : ac P c opsA l st' K) : ac P c opsA ({ o with guard:=none }::l) st K:=by
 unfold zl at h
 split at h <;> (try (simp at h; done))
 split at h <;> (try (simp at h; done))
 rename_i ss hss
 split at h <;> simp at h
 rename_i v wr hs
 subst h
 have hi : Imp c st ss:=fun a w σ φ hr=>by
  obtain ⟨σs,_,h3,_⟩:=Rel.sealL hss hr
  exact ⟨σs,φ,h3⟩
 exact dU hi (oO hV hd hs rfl (fun i hi=>by simp at hi) opsA l K (dU (nS fun t=>iB) hk))
theorem GG{V : Env}(hV : EnvOk P V){opsA : Array Oper}{l : List Oper}{st st' : St}{o : Oper}{K : St→Prop}(hd : aP c.n o.dst = true)(h : CQ V st o = some st')(hk : ac P c opsA l st' K) : ac P c opsA ({ o with guard:=none }::l) st K:=by
 unfold CQ at h
 split at h <;> (try (simp at h; done))
 rotate_left
 ·rename_i t x y ho
  cases hb : EU (ev st x) <;> simp only [hb,cond_true,cond_false,reduceCtorEq] at h
  exact EV hV hd h hk
 rename_i f caps ho
 generalize cV st.sto (bZ st caps.toList) [] = dl at h
 unfold ET at h
 split at h <;> (try (simp at h; done))
 split at h <;> (try (simp at h; done))
 rename_i ss hss
 split at h <;> (try (simp at h; done))
 rename_i avs ha
 split at h <;> simp at h
 rename_i ds hds
 subst h
 refine ba rfl fun a w σ φ hr=>?_
 obtain ⟨σs,_,hs,_⟩:=Rel.sealL hss hr
 have h1:=mS hds (gm hs ha)
 refine ⟨.func (.func f) #[] (caps.toList.map a.eval).toArray,w,⟨bj o.dst (.one (.d (.fn f ds))) ss.fr,ss.sto⟩,σs,φ,?_,hs.put (v:=.one (.d (.fn f ds))) hd (RepC.d (.fn _ h1.length.symm fun j d v hd hv=>?_)),dU (nS fun t=>iB) hk⟩
 ·have e : (caps.toList.map a.eval).toArray = caps.map a.eval:=by rw [← Array.toList_map,Array.toArray_toList]
  rw [e]
  simp [execOp,ho,Instr.makeFunc]
 ·obtain ⟨u,hu,hru⟩:=h1.get hd
  rw [hv] at hu; cases hu; exact hru
def zm(orc : Orc)(ow : Bool)(id : Nat)(st : St)(dst : Option Nat)(fop : Operand)(args : List Operand)(dl : List Nat) : Option St :=
 match sealL st dl with
 | some ss=>(match ev ss fop,evL ss args with
   | some (.one (.d (.fn f caps))),some avs=>bif cq avs then (match orc (some f) ow (avs ++ caps.map fun x=>.one (.d x)) [] with
     | some (rav,rsto)=>bif eH rav then some ⟨kK dst rav st.fr,st.sto⟩
       else bif cw [] rsto && Nat.ble (id + 16) 1000000 && cX rsto rav && bd rsto rsto && dE ss (rng id 16) then some ⟨kK dst (dr (rn id []) rav) ss.fr,cC (uk (rn id []) rsto) ss.sto⟩ else none
     | none=>none) else none
   | _,_=>none)
 | none=>none
theorem EW{orc : Orc}(hO : OrcOk P orc){ow : Bool}{id : Nat}{opsA : Array Oper}{l : List Oper}{st st' : St}{o : Oper}{K : St→Prop}{fop : Operand}{args : Array Operand}{ats : Array TypeId}{dl : List Nat}(ho : o.op = .call { callee:=.value fop,args:=args,argTypes:=ats })
  (hd : aP c.n o.dst = true) (h : zm orc ow id st o.dst fop args.toList dl = some st') (hk : ac P c opsA l st' K) : ac P c opsA ({ o with guard:=none }::l) st K:=by
 unfold zm at h
 split at h <;> (try (simp at h; done))
 rename_i ss hss
 split at h <;> (try (simp at h; done))
 rename_i f caps avs hf ha
 cases hD : cq avs <;> simp only [hD,cond_true,cond_false,reduceCtorEq] at h
 split at h <;> (try (simp at h; done))
 rename_i rav rsto hor
 have hi : Imp c st ss:=fun a w σ φ hr=>by
  obtain ⟨σs,_,h3,_⟩:=Rel.sealL hss hr
  exact ⟨σs,φ,h3⟩
 cases hfl : eH rav with
 | true =>
   simp only [hfl,cond_true,Option.some.injEq] at h
   subst h
   exact iK (o:={ o with guard:=none }) ho rfl hd hi hf ha hD (hO.call _ _ _ _ _ _ hor) hfl (dU (nS fun t=>iB) hk)
 | false =>
   simp only [hfl,cond_false] at h
   cases hb : cw [] rsto && Nat.ble (id + 16) 1000000 && cX rsto rav && bd rsto rsto && dE ss (rng id 16) <;> simp only [hb,cond_true,cond_false,reduceCtorEq,Option.some.injEq] at h
   subst h
   rw [Bool.and_eq_true] at hb
   refine dU hi (kC (o:={ o with guard:=none }) id [] ho rfl hd rfl hf ha hD (hO.call _ _ _ _ _ _ hor) hb.1 (fun i h1 h2=>?_) (dU (nS fun t=>iB) ?_))
   ·exact ea hb.2 i (rng_mem.2 ⟨h1,h2⟩)
   ·have:=jX (r:=rn id []) (s:=ss.sto) (d:=[]) (rs:=rsto)
    simp only [List.append_nil,cC] at this
    rw [this] at hk
    exact hk
def GH(V : Env)(mf : FuncId→Bool)(orc : Orc)(yf ow : Bool)(st : St)(o : Oper) : Option St :=
 match CQ V st o with
 | some st'=>some st'
 | none=>match o.op with
   | .call { callee:=.value fop,args,.. }=>(match ev st fop with
     | some (.one (.d (.fn f _)))=>bif mf f then
       (match xTr V mf orc yf ow (kL st) st o with | some tr=>some ⟨kK o.dst tr.v st.fr,cC tr.wr st.sto⟩ | none=>none)
       else zm orc ow (kL st) st o.dst fop args.toList (cV st.sto (bZ st args.toList) [])
     | _=>(match xTr V mf orc yf ow (kL st) st o with | some tr=>some ⟨kK o.dst tr.v st.fr,cC tr.wr st.sto⟩ | none=>none))
   | _=>(match xTr V mf orc yf ow (kL st) st o with | some tr=>some ⟨kK o.dst tr.v st.fr,cC tr.wr st.sto⟩ | none=>none)
theorem IH{V : Env}(hV : EnvOk P V){mf : FuncId→Bool}{orc : Orc}(hO : OrcOk P orc){yf ow : Bool}(hy : yf = true→c.rd = none){opsA : Array Oper}{l : List Oper}{st st' : St}{o : Oper}{K : St→Prop}(hd : aP c.n o.dst = true)(h : GH V mf orc yf ow st o = some st')
  (hk : ac P c opsA l st' K) : ac P c opsA ({ o with guard:=none }::l) st K:=by
 have key : ∀ {st' : St},(match xTr V mf orc yf ow (kL st) st o with | some tr=>some (⟨kK o.dst tr.v st.fr,cC tr.wr st.sto⟩ : St) | none=>none) = some st'→ac P c opsA l st' K→ac P c opsA ({ o with guard:=none }::l) st K:=by
  intro st' h hk
  split at h <;> simp at h
  rename_i tr htr
  subst h
  obtain ⟨hl,hf⟩:=DB hV hO hy hd htr
  exact hl st (fun _ _=>rfl) (fun _ _=>rfl) hf opsA l _ (dU (nS fun t=>iB) hk)
 unfold GH at h
 split at h
 ·rename_i s1 hs1
  simp only [Option.some.injEq] at h; subst h
  exact GG hV hd hs1 hk
 split at h
 ·rename_i fop args ats ho
  split at h
  ·rename_i f caps hf
   cases hm : mf f with
   | true=>simp only [hm,cond_true] at h; exact key h hk
   | false=>simp only [hm,cond_false] at h; exact EW hO ho hd h hk
  ·exact key h hk
 ·exact key h hk
def vb(V : Env)(mf : FuncId→Bool)(orc : Orc)(yf ow : Bool)(n : Nat)(opsA : Array Oper) : List Oper→St→Option St
 | [],st=>some st
 | o::r,st=>bif aP n o.dst then (match kX opsA st o with
   | some true=>(match GH V mf orc yf ow st o with
     | some st'=>vb V mf orc yf ow n opsA r st'
     | none=>none)
   | some false=>vb V mf orc yf ow n opsA r ⟨kK o.dst (.tup []) st.fr,st.sto⟩
   | none=>none) else none
theorem vc{V : Env}(hV : EnvOk P V){mf : FuncId→Bool}{orc : Orc}(hO : OrcOk P orc){yf ow : Bool}(hy : yf = true→c.rd = none){opsA : Array Oper} : ∀ {l : List Oper} {st st' : St},vb V mf orc yf ow c.n opsA l st = some st'→ac P c opsA l st (fun s=>s = st')
 | [],st,st',h=>by
   simp only [vb,Option.some.injEq] at h; subst h
   exact qf rfl
 | o::r,st,st',h=>by
   simp only [vb] at h
   cases hd : aP c.n o.dst <;> simp only [hd,cond_true,cond_false,reduceCtorEq] at h
   cases hg : kX opsA st o with
   | none=>simp [hg] at h
   | some b =>
     cases b with
     | true =>
       simp only [hg] at h
       have hk : ac P c opsA ({ o with guard:=none }::r) st (fun s=>s = st'):=by
        split at h <;> (try (simp at h; done))
        rename_i s1 hs1
        exact IH hV hO hy hd hs1 (vc hV hO hy h)
       unfold kX at hg
       cases hgd : o.guard with
       | none =>
         have : ({ o with guard:=none } : Oper) = o:=by obtain ⟨_,_,_,_,_,g⟩:=o; simp only at hgd; subst hgd; rfl
         rw [this] at hk; exact hk
       | some gw =>
         obtain ⟨j,want⟩:=gw
         simp only [hgd] at hg
         split at hg <;> simp at hg
         rename_i b hb
         subst hg
         exact rp hgd hb rfl hk
     | false =>
       simp only [hg] at h
       unfold kX at hg
       cases hgd : o.guard with
       | none=>simp [hgd] at hg
       | some gw =>
         obtain ⟨j,want⟩:=gw
         simp only [hgd] at hg
         split at hg <;> simp at hg
         rename_i b hb
         exact pG hgd hb (by simpa using hg) hd (dU (nS fun t=>iB) (vc hV hO hy h))
def qW(V : Env)(mf : FuncId→Bool)(orc : Orc)(yf ow : Bool)(n : Nat)(opsA : Array Oper)(st0 : St) : Nat→List Oper→St→List Tr→Option St
 | _,[],st,acc=>bif j8 opsA.toList st0 acc.reverse then some ⟨nR st.fr,st.sto⟩ else none
 | lo,o::r,st,acc=>bif aP n o.dst then (match kX opsA st o with
   | some true=>(match xTr V mf orc yf ow lo st o with
     | some tr=>qW V mf orc yf ow n opsA st0 (mx tr.new lo) r ⟨bj o.dst tr.v st.fr,cC tr.wr st.sto⟩ (tr::acc)
     | none=>none)
   | some false=>qW V mf orc yf ow n opsA st0 lo r ⟨bj o.dst (.tup []) st.fr,st.sto⟩ (Tr.none::acc)
   | none=>none) else none
theorem sK{V : Env}(hV : EnvOk P V){mf : FuncId→Bool}{orc : Orc}(hO : OrcOk P orc){yf ow : Bool}(hy : yf = true→c.rd = none){opsA : Array Oper}{st0 : St} : ∀ {l : List Oper} {lo : Nat} {st st' : St} {acc : List Tr},qW V mf orc yf ow c.n opsA st0 lo l st acc = some st' →
  ao P c opsA st0 l st acc (fun s=>(⟨nR s.fr,s.sto⟩ : St) = st')
 | [],lo,st,st',acc,h=>by
   simp only [qW] at h
   cases hb : j8 opsA.toList st0 acc.reverse <;> simp only [hb,cond_true,cond_false,reduceCtorEq,Option.some.injEq] at h
   exact ⟨hb,h⟩
 | o::r,lo,st,st',acc,h=>by
   simp only [qW] at h
   cases hd : aP c.n o.dst <;> simp only [hd,cond_true,cond_false,reduceCtorEq] at h
   have hgok : ∀ {b : Bool},kX opsA st o = some b→fK opsA st o b:=by
    intro b hg
    unfold kX at hg
    unfold fK
    cases hgd : o.guard with
    | none=>simp only [hgd,Option.some.injEq] at hg ⊢; exact hg.symm
    | some gw =>
      obtain ⟨j,want⟩:=gw
      simp only [hgd] at hg ⊢
      split at hg <;> simp at hg
      rename_i b' hb
      exact ⟨b',hb,hg.symm⟩
   cases hg : kX opsA st o with
   | none=>simp [hg] at h
   | some b =>
     cases b with
     | true =>
       simp only [hg] at h
       split at h <;> (try (simp at h; done))
       rename_i tr htr
       exact ⟨true,tr,hgok hg,fun _=>(DB hV hO hy hd htr).1,fun e=>by simp at e,fun e=>by simp at e,sK hV hO hy h⟩
     | false =>
       simp only [hg] at h
       exact ⟨false,Tr.none,hgok hg,fun e=>by simp at e,fun _=>rfl,fun _=>hd,sK hV hO hy h⟩
inductive XE where
 | norm | ex (id : Nat) | ret
 /-- off the end, a loop's mark standing -/
 | mk
def XE.e : XE→Exit
 | .norm | .mk=>.normal
 | .ex i=>.exit i
 | .ret=>.ret
def jQ(f : St→Option (XE×St)) : Nat→St→Option (XE×St)
 | 0,_=>none
 | n + 1,st=>match f st with
   | some (.norm,st')=>jQ f n st'
   | some (.mk,_)=>none
   | r=>r
def II : LoopState→Bool
 | .busy=>false
 | _=>true
def pOk : Option Code→Bool
 | none=>true
 | some .ret=>true
 | _=>false
def pn(st : St)(ids : List Nat)(idl : Nat)(li : LI)(os : List (Nat×AObj))(caps : List D)(rav : AV)(j : Nat)(liR : LI)(frR : List (Nat×AV))(s' : LoopState)(p' : Option Code)(rs : Sto) : Bool :=
 Nat.beq j 1000000 && mX (idl::ids) os && !bY idl ids && fa ((idl,.loop li (bS ids st.fr []) .ready none)::st.sto) (bA 1000000 (idl::ids)) rs &&
 hkB (idl + 1) (idl::ids) ((1000000,.loop li (cP (inv 1000000 (idl::ids)) (bS ids st.fr [])) .ready none)::gp (inv 1000000 (idl::ids)) os) ((.one (.yl 1000000))::caps.map fun x=>.one (.d x)) rav ((1000000,.loop liR frR s' p')::rs) &&
 (Nat.blt idl (idl + 1) && kx st.sto idl && !bn idl st.fr && !aM idl st.sto && Nat.ble (idl + 1 + 16) 1000000 && o9 (idl + 1) (bS ids st.fr []) && kx rs 1000000) &&
 dE st (rng (idl + 1) 16) && II s' && pOk p'
def Bf(orc : Orc)(li : LI)(st : St)(f : FuncId)(caps : List D)(ids : List Nat)(idl : Nat) : Option (Option Code×St) :=
 match ig st.sto ids with
 | some os=>(match orc (some f) false ((.one (.yl 1000000))::caps.map fun x=>.one (.d x)) ((1000000,.loop li (cP (inv 1000000 (idl::ids)) (bS ids st.fr [])) .ready none)::gp (inv 1000000 (idl::ids)) os) with
   | some (rav,(j,.loop liR frR s' p')::rs)=>bif pn st ids idl li os caps rav j liR frR s' p' rs then some (p',⟨st.fr,jc (idl + 1) (bA 1000000 (idl::ids)) rs st.sto⟩) else none
   | _=>none)
 | none=>none
def zn(orc : Orc)(n : Nat)(g : Operand)(ps : Array Nat)(assign body : Code)(st : St) : Option (Option Code×St) :=
 match ev st g with
 | some (.one (.d (.fn f caps)))=>Bf orc ⟨n,ps,assign,body⟩ st f caps (ic st.sto 1000 (ju st.fr) []) (kL st)
 | _=>none
theorem wv{orc : Orc}(hO : OrcOk P orc){g : Operand}{ps : Array Nat}{assign body : Code}{st st' : St}{p : Option Code}(hrd : c.rd = none)(hmk : c.mks = [])(h : zn orc c.n g ps assign body st = some (p,st')) :
  ∀ (a : Act) (w : World) (σ : Sig) (φ : Pl),Rel c st a w σ φ→(Code.rangeFunc g ps assign body).wpIn (fnc c) 0 P (fun e a' w' =>
    (p = none∧e = .normal∧∃ c1 σ' φ',xv c c1∧Rel c1 st' a' w' σ' φ')∨(p = some .ret∧e = .ret∧∃ σ' φ',RelE c .ret st' a' w' σ' φ')) a w:=by
 unfold zn at h
 split at h <;> (try (simp at h; done))
 rename_i f caps hg
 generalize ic st.sto 1000 (ju st.fr) [] = ids at h
 generalize kL st = idl at h
 unfold Bf at h
 split at h <;> (try (simp at h; done))
 rename_i os hos
 split at h <;> (try (simp at h; done))
 rename_i rav j liR frR s' p' rs hor
 cases hb : pn st ids idl ⟨c.n,ps,assign,body⟩ os caps rav j liR frR s' p' rs <;> simp only [hb,cond_true,cond_false,reduceCtorEq,Option.some.injEq,Prod.mk.injEq] at h
 obtain ⟨rfl,rfl⟩:=h
 unfold pn at hb
 simp only [Bool.and_eq_true,Bool.not_eq_true'] at hb
 obtain ⟨⟨⟨⟨⟨⟨⟨⟨hj,hall⟩,hni⟩,hcm⟩,hk⟩,hi⟩,hfr⟩,hbu⟩,hp⟩:=hb
 have hj':=Nat.eq_of_beq_eq_true hj
 subst hj'
 have hren : cP (rn (idl + 1) (bA 1000000 (idl::ids))) (cP (inv 1000000 (idl::ids)) (bS ids st.fr [])) = bS ids st.fr [] :=
  ms fun i hi=>pj (by simp only [bY,Bool.or_eq_true]; exact .inr (jE i hi))
 have hne : ∀ i∈ids,i≠idl:=by
  intro i hmem e
  rw [e] at hmem
  rw [memL_iff.2 hmem] at hni; cases hni
 have e : cP (rn (idl + 1) ((1000000,idl)::bA 1000001 ids)) (cP (inv 1000000 (idl::ids)) (bS ids st.fr [])) = bS ids st.fr []:=hren
 refine vE (k:=idl + 1) (idl:=idl) (ρ:=bA 1000001 ids) hrd hmk hg (hO.call _ _ _ _ _ _ hor) (fun s v hv=>?_) ?_ ?_ hk ?_ ?_ ?_ ?_
 ·rw [e] at hv
  exact (gj hv).2
 ·exact jy (s:=(idl,_)::st.sto) ((jx (s:=st.sto) fun i hi=>aN (hne i hi)).trans hos) hall
 ·refine iJ (s:=(idl,.loop ⟨c.n,ps,assign,body⟩ (bS ids st.fr []) .ready none)::st.sto) (fun j i _=>?_) hcm
  show look ((idl,AObj.loop _ _ _ _)::st.sto) i = _
  rw [e]
 ·rw [e]
  simp only [Bool.and_eq_true,Bool.not_eq_true']
  exact hi
 ·intro i h1 h2
  exact ea hfr i (rng_mem.2 ⟨h1,h2⟩)
 ·rintro rfl; cases hbu
 ·unfold pOk at hp
  split at hp
  ·exact .inl rfl
  ·exact .inr rfl
  ·cases hp
def bG(V : Env)(mf : FuncId→Bool)(rg : List Nat)(orc : Orc)(n : Nat) : Bool→Bool→Code→St→Option (XE×St)
 | _,_,.skip,st=>some (.norm,st)
 | _,yf,.region id ops true,st=>match qW V mf orc yf (bY id rg) n ops st (kL st) ops.toList st [] with | some st'=>some (.norm,st') | none=>none
 | _,yf,.region id ops false,st=>match vb V mf orc yf (bY id rg) n ops ops.toList st with | some st'=>some (.norm,st') | none=>none
 | rf,_,.rangeFunc g ps assign body,st=>bif rf then (match zn orc n g ps assign body st with
   | some (none,st')=>some (.mk,st')
   | some (some _,st')=>some (.ret,st')
   | none=>none) else none
 | rf,yf,.seq x y,st=>match bG V mf rg orc n rf yf x st with
   | some (.norm,st')=>bG V mf rg orc n rf yf y st'
   | some (.mk,st')=>(match bG V mf rg orc n false yf y st' with
     | some (.norm,s)=>some (.mk,s)
     | some (.ret,s)=>some (.ret,s)
     | _=>none)
   | r=>r
 | rf,yf,.cond o x y,st=>match ev st o with
   | some (.one (.d (.bool true)))=>bG V mf rg orc n rf yf x st
   | some (.one (.d (.bool false)))=>bG V mf rg orc n rf yf y st
   | _=>none
 | rf,yf,.block id x,st=>match bG V mf rg orc n rf yf x st with
   | some (.ex i,st')=>bif Nat.beq i id then some (.norm,st') else some (.ex i,st')
   | r=>r
 | rf,yf,.loop x,st=>jQ (fun s=>bG V mf rg orc n rf yf x s) 100000 st
 | _,_,.exit id,st=>some (.ex id,st)
 | _,_,.ret,st=>some (.ret,st)
 | _,_,_,_=>none
def KL(c : Ctx)(e : XE)(st : St)(a : Act)(w : World)(σ : Sig)(φ : Pl) : Prop :=
 match e with
 | .mk=>∃ c1,xv c c1∧Rel c1 st a w σ φ
 | e=>RelE c e.e st a w σ φ
def OkX(P : Program)(c : Ctx)(code : Code)(st : St)(e : XE)(st' : St) : Prop :=
 ∀ (a : Act) (w : World) (σ : Sig) (φ : Pl),Rel c st a w σ φ→code.wpIn (fnc c) 0 P (fun x a' w'=>x = e.e∧∃ σ' φ',KL c e st' a' w' σ' φ') a w
def zo(e : XE)(st' : St) : Exit→St→Prop:=fun x s=>x = e.e∧s = st'
theorem OkX.of{code : Code}{st st' : St}{e : XE}(he : e≠.mk)(h : OkC P c code st (zo e st')) : OkX P c code st e st':=by
 intro a w σ φ hr
 refine wpIn_mono (h a w σ φ hr) ?_
 rintro x a' w' ⟨s,σ',φ',⟨rfl,rfl⟩,h2⟩
 refine ⟨rfl,σ',φ',?_⟩
 cases e <;> first | exact absurd rfl he | exact h2
theorem OkX.okC{code : Code}{st st' : St}{e : XE}(he : e≠.mk)(h : OkX P c code st e st') : OkC P c code st (zo e st'):=by
 intro a w σ φ hr
 refine wpIn_mono (h a w σ φ hr) ?_
 rintro x a' w' ⟨rfl,σ',φ',h2⟩
 refine ⟨st',σ',φ',⟨rfl,rfl⟩,?_⟩
 cases e <;> first | exact absurd rfl he | exact h2
theorem t6{V : Env}{mf : FuncId→Bool}{rg : List Nat}{orc : Orc}{n : Nat} : ∀ (z : Code) {st s : St},bG V mf rg orc n false false z st≠some (.mk,s):=by
 intro z
 induction z with
 | region id ops d =>
   intro st s h
   cases d <;> simp only [bG] at h <;> split at h <;> simp at h
 | seq x y ihx ihy =>
   intro st s h
   simp only [bG] at h
   split at h
   ·exact ihy h
   ·rename_i h1; exact ihx h1
   ·rename_i h1 h2; exact h2 _ h
 | cond o x y ihx ihy =>
   intro st s h
   simp only [bG] at h
   split at h
   ·exact ihx h
   ·exact ihy h
   ·simp at h
 | block id x ih =>
   intro st s h
   simp only [bG] at h
   split at h
   ·rename_i i st' h1
    cases hb : Nat.beq i id <;> simp [hb] at h
   ·exact ih h
 | loop x ih =>
   intro st s h
   simp only [bG] at h
   have key : ∀ (m : Nat) (st : St),jQ (fun s=>bG V mf rg orc n false false x s) m st≠some (.mk,s):=by
    intro m
    induction m with
    | zero=>intro st h; simp [jQ] at h
    | succ m ihm =>
      intro st h
      simp only [jQ] at h
      split at h
      ·exact ihm _ h
      ·simp at h
      ·rename_i h1 h2; exact h2 _ h
   exact key _ _ h
 | _=>intro st s h; simp [bG] at h
theorem EX{V : Env}(hV : EnvOk P V){mf : FuncId→Bool}{rg : List Nat}{orc : Orc}(hO : OrcOk P orc)(hm : P.follows .mixedOrders = true) : ∀ (code : Code) (rf yf : Bool) (c : Ctx) (st : St) (e : XE) (st' : St),(yf = true→c.rd = none)→(rf = true→c.rd = none∧c.mks = [])→bG V mf rg orc c.n rf yf code st = some (e,st')→OkX P c code st e st':=by
 intro code
 induction code with
 | skip =>
   intro rf yf c st e st' hy hr h
   simp only [bG,Option.some.injEq,Prod.mk.injEq] at h
   obtain ⟨rfl,rfl⟩:=h
   exact .of (by simp) (Ba ⟨rfl,rfl⟩)
 | region id ops d =>
   intro rf yf c st e st' hy hr h
   cases d with
   | true =>
     simp only [bG] at h
     split at h <;> simp at h
     rename_i s hs
     obtain ⟨rfl,rfl⟩:=h
     have h1 : OkC P c (.region id ops true) st (fun x s'=>x = .normal∧(⟨nR s'.fr,s'.sto⟩ : St) = s) :=
      sZ hm (by
       have:=sK (c:=c) hV hO hy hs
       simpa using this)
     refine .of (by simp) ?_
     intro a w σ φ hr
     refine wpIn_mono (h1 a w σ φ hr) ?_
     rintro e a' w' ⟨s',σ',φ',⟨rfl,rfl⟩,h2⟩
     exact ⟨_,σ',φ',⟨rfl,rfl⟩,.inl ((h2.rel (by simp)).cong (fun _=>rJ) fun _=>rfl)⟩
   | false =>
     simp only [bG] at h
     split at h <;> simp at h
     rename_i s hs
     obtain ⟨rfl,rfl⟩:=h
     exact .of (by simp) (wp (CR (vc hV hO hy hs) fun s hs=>⟨rfl,hs⟩))
 | rangeFunc g ps assign body =>
   intro rf yf c st e st' hy hr h
   simp only [bG] at h
   cases rf with
   | false=>simp at h
   | true =>
     obtain ⟨hr1,hr2⟩:=hr rfl
     simp only [cond_true] at h
     intro a w σ φ hrel
     split at h <;> simp at h
     ·rename_i s1 hx
      obtain ⟨rfl,rfl⟩:=h
      refine wpIn_mono (wv hO hr1 hr2 hx a w σ φ hrel) ?_
      rintro x a' w' (⟨_,rfl,c1,σ',φ',h1,h2⟩ | ⟨h,_⟩)
      ·exact ⟨rfl,σ',φ',c1,h1,h2⟩
      ·cases h
     ·rename_i cd s1 hx
      obtain ⟨rfl,rfl⟩:=h
      refine wpIn_mono (wv hO hr1 hr2 hx a w σ φ hrel) ?_
      rintro x a' w' (⟨h,_⟩ | ⟨_,rfl,σ',φ',h2⟩)
      ·cases h
      ·exact ⟨rfl,σ',φ',h2⟩
 | seq x y ihx ihy =>
   intro rf yf c st e st' hy hr h
   simp only [bG] at h
   intro a w σ φ hrel
   cases hx : bG V mf rg orc c.n rf yf x st with
   | none=>simp [hx] at h
   | some r =>
     obtain ⟨e1,s1⟩:=r
     refine wpIn_seq (wpIn_mono (ihx _ _ _ _ _ _ hy hr hx a w σ φ hrel) ?_)
     rintro ex a1 w1 ⟨rfl,σ1,φ1,h1⟩
     cases e1 with
     | norm =>
       simp only [hx] at h
       exact ihy _ _ _ _ _ _ hy hr h a1 w1 σ1 φ1 (RelE.rel h1 (by simp [XE.e]))
     | ex i=>simp only [hx,Option.some.injEq,Prod.mk.injEq] at h; obtain ⟨rfl,rfl⟩:=h; exact ⟨rfl,σ1,φ1,h1⟩
     | ret=>simp only [hx,Option.some.injEq,Prod.mk.injEq] at h; obtain ⟨rfl,rfl⟩:=h; exact ⟨rfl,σ1,φ1,h1⟩
     | mk =>
       simp only [hx] at h
       obtain ⟨c1,⟨g1,g2,g3,g4⟩,h2⟩:=h1
       have hrun : ∀ {e2 : XE} {s2 : St},bG V mf rg orc c.n false yf y s1 = some (e2,s2)→y.wpIn (fnc c) 0 P (fun x a' w'=>x = e2.e∧∃ σ' φ',KL c1 e2 s2 a' w' σ' φ') a1 w1:=by
        intro e2 s2 hq
        rw [← g1] at hq
        have h3:=ihy false yf c1 s1 e2 s2 (fun _=>g2) (fun h=>by cases h) hq a1 w1 σ1 φ1 h2
        cases yf with
        | true =>
          have hf : fnc c1 = fnc c:=by rw [gK g2,gK (hy rfl)]
          rwa [hf] at h3
        | false =>
          cases rf with
          | true =>
            have hf : fnc c1 = fnc c:=by rw [gK g2,gK (hr rfl).1]
            rwa [hf] at h3
          | false =>
            exfalso
            have none : ∀ (z : Code) {st : St} {s : St},bG V mf rg orc c.n false false z st≠some (.mk,s):=t6
            exact none x hx
       split at h <;> (try (simp at h; done))
       ·rename_i s2 hs2
        simp only [Option.some.injEq,Prod.mk.injEq] at h
        obtain ⟨rfl,rfl⟩:=h
        refine wpIn_mono (hrun hs2) ?_
        rintro x a' w' ⟨rfl,σ',φ',h4⟩
        exact ⟨rfl,σ',φ',c1,⟨g1,g2,g3,g4⟩,RelE.rel h4 (by simp [XE.e])⟩
       ·rename_i s2 hs2
        simp only [Option.some.injEq,Prod.mk.injEq] at h
        obtain ⟨rfl,rfl⟩:=h
        refine wpIn_mono (hrun hs2) ?_
        rintro x a' w' ⟨rfl,σ',φ',h4⟩
        refine ⟨rfl,σ',φ',?_⟩
        rcases (show RelE c1 .ret _ a' w' σ' φ' from h4) with h5 | ⟨_,r,_,_,_,h5⟩
        ·exact g4 _ _ _ _ _ h5
        ·exact absurd h5.defers.symm g3
 | cond o x y ihx ihy =>
   intro rf yf c st e st' hy hr h
   simp only [bG] at h
   intro a w σ φ hrel
   split at h
   ·rename_i hb
    have h1:=RepC.d_inv (aC hrel hb)
    generalize hu : a.eval o = u at h1
    cases h1
    exact wpIn_cond_true hu (ihx _ _ _ _ _ _ hy hr h a w σ φ hrel)
   ·rename_i hb
    have h1:=RepC.d_inv (aC hrel hb)
    generalize hu : a.eval o = u at h1
    cases h1
    exact wpIn_cond_false hu (ihy _ _ _ _ _ _ hy hr h a w σ φ hrel)
   ·simp at h
 | block id x ih =>
   intro rf yf c st e st' hy hr h
   simp only [bG] at h
   intro a w σ φ hrel
   cases hx : bG V mf rg orc c.n rf yf x st with
   | none=>simp [hx] at h
   | some r =>
     obtain ⟨e1,s1⟩:=r
     refine wpIn_block (wpIn_mono (ih _ _ _ _ _ _ hy hr hx a w σ φ hrel) ?_)
     rintro ex a1 w1 ⟨rfl,σ1,φ1,h1⟩
     cases e1 with
     | norm=>simp only [hx,Option.some.injEq,Prod.mk.injEq] at h; obtain ⟨rfl,rfl⟩:=h; exact ⟨rfl,σ1,φ1,h1⟩
     | ret=>simp only [hx,Option.some.injEq,Prod.mk.injEq] at h; obtain ⟨rfl,rfl⟩:=h; exact ⟨rfl,σ1,φ1,h1⟩
     | mk=>simp only [hx,Option.some.injEq,Prod.mk.injEq] at h; obtain ⟨rfl,rfl⟩:=h; exact ⟨rfl,σ1,φ1,h1⟩
     | ex i =>
       simp only [hx] at h
       cases hb : Nat.beq i id with
       | true =>
         have hi:=Nat.eq_of_beq_eq_true hb
         simp only [hb,cond_true,Option.some.injEq,Prod.mk.injEq] at h
         obtain ⟨rfl,rfl⟩:=h
         simp only [XE.e,Exit.inBlock]
         rw [if_pos hi]
         exact ⟨trivial,σ1,φ1,.inl (RelE.rel h1 (by simp [XE.e]))⟩
       | false =>
         simp only [hb,cond_false,Option.some.injEq,Prod.mk.injEq] at h
         obtain ⟨rfl,rfl⟩:=h
         have hi : i≠id:=by rintro rfl; rw [Nat.beq_refl] at hb; cases hb
         simp only [XE.e,Exit.inBlock]
         rw [if_neg hi]
         exact ⟨trivial,σ1,φ1,h1⟩
 | loop x ih =>
   intro rf yf c st e st' hy hr h
   simp only [bG] at h
   have hne : ∀ {n : Nat} {s : St},jQ (fun s=>bG V mf rg orc c.n rf yf x s) n s = some (e,st')→e≠.mk:=by
    intro n
    induction n with
    | zero=>intro s h; simp [jQ] at h
    | succ n ihn =>
      intro s h
      simp only [jQ] at h
      split at h
      ·exact ihn h
      ·simp at h
      ·rename_i h1 h2
       rintro rfl
       exact h2 _ h
   refine .of (hne h) (ny (fun n s=>jQ (fun s=>bG V mf rg orc c.n rf yf x s) n s = some (e,st')) 100000 h fun n s hs=>?_)
   cases n with
   | zero=>simp [jQ] at hs
   | succ n =>
     simp only [jQ] at hs
     cases hx : bG V mf rg orc c.n rf yf x s with
     | none=>simp [hx] at hs
     | some r =>
       obtain ⟨e1,s1⟩:=r
       by_cases hmk : e1 = .mk
       ·subst hmk; simp [hx] at hs
       refine je ((ih _ _ _ _ _ _ hy hr hx).okC hmk) ?_
       rintro ex s' ⟨rfl,rfl⟩
       cases e1 with
       | norm=>simp only [hx] at hs; exact ⟨n,_,by omega,hs,Imp.refl _⟩
       | ex i=>simp only [hx,Option.some.injEq,Prod.mk.injEq] at hs; obtain ⟨rfl,rfl⟩:=hs; exact ⟨rfl,rfl⟩
       | ret=>simp only [hx,Option.some.injEq,Prod.mk.injEq] at hs; obtain ⟨rfl,rfl⟩:=hs; exact ⟨rfl,rfl⟩
       | mk=>exact absurd rfl hmk
 | exit id =>
   intro rf yf c st e st' hy hr h
   simp only [bG,Option.some.injEq,Prod.mk.injEq] at h
   obtain ⟨rfl,rfl⟩:=h
   exact .of (by simp) (Bb ⟨rfl,rfl⟩)
 | ret =>
   intro rf yf c st e st' hy hr h
   simp only [bG,Option.some.injEq,Prod.mk.injEq] at h
   obtain ⟨rfl,rfl⟩:=h
   exact .of (by simp) (cv ⟨rfl,rfl⟩)
 | _=>intros; simp_all [bG]
theorem sL{V : Env}(hV : EnvOk P V){mf : FuncId→Bool}{rg : List Nat}{orc : Orc}(hO : OrcOk P orc)(hm : P.follows .mixedOrders = true)(code : Code)(rf yf : Bool)(c : Ctx)(st : St)(e : XE)(st' : St)(hy : yf = true→c.rd = none)(hr : rf = true→c.rd = none∧c.mks = [])(h : bG V mf rg orc c.n rf yf code st = some (e,st'))(he : e≠.mk) : OkC P c code st (zo e st') :=
 (EX hV hO hm code rf yf c st e st' hy hr h).okC he
theorem EY{code : Code}{st s' ss : St}{e : XE}(h : OkC P c code st (zo e s'))(hi : ∀ {a : Act} {w : World} {σ : Sig} {φ : Pl} {mk : List Deferred},Rel { c with mks:=mk } s' a w σ φ→∃ σ2 φ2,Rel { c with mks:=mk } ss a w σ2 φ2) : OkC P c code st (zo e ss):=by
 intro a w σ φ hr
 refine wpIn_mono (h a w σ φ hr) ?_
 rintro ex a' w' ⟨s'',σ',φ',⟨rfl,rfl⟩,hE⟩
 rcases hE with hr' | ⟨he',r,hd,hh,hge,hr'⟩
 ·obtain ⟨σ2,φ2,h4⟩:=hi (mk:=c.mks) hr'
  exact ⟨ss,σ2,φ2,⟨rfl,rfl⟩,.inl h4⟩
 ·obtain ⟨σ2,φ2,h4⟩:=hi (mk:=c.mks) hr'
  exact ⟨ss,σ2,φ2,⟨rfl,rfl⟩,.inr ⟨he',r,hd,hh,hge,h4⟩⟩
def pa : List ResultVar→List Nat
 | []=>[]
 | .tmp t::r=>t::pa r
 | .cell a _::r=>a::pa r
def iV(l : List Nat) : List (Nat×AV)→List (Nat×AV)
 | []=>[]
 | (s,v)::r=>bif bY s l then (s,v)::iV l r else iV l r
theorem np{l : List Nat} : ∀ {fr : List (Nat×AV)} {s : Nat} {v : AV},look (iV l fr) s = some v→look fr s = some v
 | [],_,_,h=>by simp [iV,look] at h
 | (t,x)::r,s,v,h=>by
   simp only [iV] at h
   cases hm : bY t l with
   | true =>
     simp only [hm,cond_true] at h
     rcases ah h with ⟨rfl,rfl⟩ | ⟨hne,h⟩
     ·exact aI
     ·rw [aN hne]; exact np h
   | false =>
     simp only [hm,cond_false] at h
     by_cases e : s = t
     ·subst e
      exfalso
      have key : ∀ {fr : List (Nat×AV)} {s : Nat} {v : AV},look (iV l fr) s = some v→bY s l = true:=by
       intro fr
       induction fr with
       | nil=>intro s v h; simp [iV,look] at h
       | cons p r ih =>
         intro s v h
         obtain ⟨t,x⟩:=p
         simp only [iV] at h
         cases hm : bY t l with
         | true =>
           simp only [hm,cond_true] at h
           rcases ah h with ⟨rfl,rfl⟩ | ⟨_,h⟩
           ·exact hm
           ·exact ih h
         | false=>simp only [hm,cond_false] at h; exact ih h
      rw [key h] at hm; cases hm
     ·rw [aN e]; exact np h
def CS(T : Tab)(ow : Bool)(rs : List ResultVar)(cs : Sto)(st : St) : Option St :=
 match lT T st rs with
 | some l=>(match sealL st (bif ow then [] else cV st.sto (lu (qt l)) []) with
   | some ss=>w8 (iV (pa rs) ss.fr) ss.sto (aY cs) (lu (ic ss.sto 1000 (w9 ss.sto (aY cs) ++ ju (iV (pa rs) ss.fr)) []))
   | none=>none)
 | none=>none
theorem GI{T : Tab}{ow : Bool}{rs : List ResultVar}{cs : Sto}{st st' : St}{a : Act}(h : CS T ow rs cs st = some st')(hr : Rel c st a w σ φ) : ∃ σ2 φ2,Rel c st' a w σ2 φ2:=by
 unfold CS at h
 split at h <;> (try (simp at h; done))
 split at h <;> (try (simp at h; done))
 rename_i ss hss
 obtain ⟨σs,_,h1,_⟩:=Rel.sealL hss hr
 obtain ⟨φ2,h2⟩:=h1.endTo (fun s v hv=>np hv) h
 exact ⟨σs,φ2,h2⟩
def LW(cs s : Sto)(more : List Nat) : List Nat:=aY cs ++ lu (ic s 1000 (w9 s (aY cs) ++ more) [])
def GJ(V : Env)(mf : FuncId→Bool)(rg : List Nat)(orc : Orc)(ow : Bool)(fn : Func)(code : Code)(args : List AV)(cs : Sto) : Option (AV×Sto) :=
 bif Nat.ble args.length fn.ntmps then (match bG V mf rg orc fn.ntmps true true code ⟨kV 0 args,cs⟩ with
  | some (.ex _,_)=>none
  | some (.mk,_)=>none
  | some (_,st)=>(match CS V.T ow fn.results.toList cs st with
    | some ss=>(match lT V.T ss fn.results.toList with
      | some l'=>(match oc l' with | some rav=>some (rav,eY ss.sto (LW cs ss.sto (bK rav))) | none=>none)
      | none=>none)
    | none=>none)
  | none=>none) else none
theorem IJ{V : Env}(hV : EnvOk P V){mf : FuncId→Bool}{rg : List Nat}{ow : Bool}{orc : Orc}(hO : OrcOk P orc)(hm : P.follows .mixedOrders = true){f : FuncId}{fn : Func}{code : Code}{args : List AV}{cs rs : Sto}{rav : AV}(hf : P.funcs[f]? = some fn)(hb : fn.body = some code)
  (hname : (fn.name == "runtime.NumGoroutine") = false) (h : GJ V mf rg orc ow fn code args cs = some (rav, rs)) : CallA P f args cs rav rs := by
 unfold GJ at h
 cases hn : Nat.ble args.length fn.ntmps <;> simp only [hn,cond_true,cond_false,reduceCtorEq] at h
 refine rF hV.T hf hb hname hn fun w0 σ0 φ0 M=>?_
 split at h
 ·simp at h
 ·simp at h
 ·rename_i e st hne hne2 hx
  split at h <;> (try (simp at h; done))
  rename_i ss hss
  split at h <;> (try (simp at h; done))
  rename_i l' hl'
  split at h <;> simp at h
  rename_i rav' hrav
  obtain ⟨rfl,rfl⟩:=h
  have hok:=sL hV hO hm code true true ⟨w0,σ0,φ0,M,fn.ntmps,none,[]⟩ _ _ _ (fun _=>rfl) (fun _=>⟨rfl,rfl⟩) hx (by rintro rfl; exact hne2 rfl)
  refine je (EY hok fun hr=>GI hss hr) ?_
  rintro ex s ⟨rfl,rfl⟩
  refine ⟨?_,l',hl',hrav,keepK_sub⟩
  cases e with
  | norm=>exact .inr rfl
  | ret=>exact .inl rfl
  | ex i=>exact absurd rfl (hne i)
  | mk=>exact absurd rfl hne2
 ·simp at h
def GK(cs : Sto)(st : St) : Option St:=w8 [] st.sto (aY cs) (lu (ic st.sto 1000 (w9 st.sto (aY cs)) []))
def zp(V : Env)(mf : FuncId→Bool)(rg : List Nat)(orc : Orc)(j : Nat)(args : List AV)(cs : Sto) : Option (AV×Sto) :=
 match look cs j with
 | some (.loop li fr .ready none)=>bif (Nat.ble 1000000 j && Nat.blt j 2000000) && (iM li.n li.params.toList && Nat.beq li.params.toList.length args.length) then
   (match bG V mf rg orc li.n false false li.assign ⟨fE li.params.toList args fr,cs⟩ with
   | some (.norm,st1)=>(match look st1.sto j with
     | some (.loop li1 fr1 .ready none)=>(match bG V mf rg orc li.n false false li.body ⟨st1.fr,bH j (.loop li1 fr1 .busy none) st1.sto⟩ with
       | some (e,st2)=>(match GK cs st2 with
         | some ss=>(match look ss.sto j with
           | some (.loop li2 fr2 .busy _)=>(match e with
             | .norm=>some (.one (.d (.bool true)),eY (bH j (.loop li2 fr2 .ready none) ss.sto) (aY ss.sto))
             | .ret=>some (.one (.d (.bool false)),eY (bH j (.loop li2 fr2 .done (some .ret)) ss.sto) (aY ss.sto))
             | .ex i=>some (.one (.d (.bool false)),eY (bH j (.loop li2 fr2 .done (some (.exit i))) ss.sto) (aY ss.sto))
             | .mk=>none)
           | _=>none)
         | none=>none)
       | none=>none)
     | _=>none)
   | _=>none) else none
 | _=>none
theorem EZ{V : Env}(hV : EnvOk P V){mf : FuncId→Bool}{rg : List Nat}{orc : Orc}(hO : OrcOk P orc)(hm : P.follows .mixedOrders = true){j : Nat}{args : List AV}{cs rs : Sto}{rav : AV}(h : zp V mf rg orc j args cs = some (rav,rs)) : YieldA P j args cs rav rs:=by
 unfold zp at h
 split at h <;> (try (simp at h; done))
 rename_i li fr hl
 cases hb : (Nat.ble 1000000 j && Nat.blt j 2000000) && (iM li.n li.params.toList && Nat.beq li.params.toList.length args.length) <;> simp only [hb,cond_true,cond_false,reduceCtorEq] at h
 rw [Bool.and_eq_true] at hb
 split at h <;> (try (simp at h; done))
 rename_i st1 hx1
 split at h <;> (try (simp at h; done))
 rename_i li1 fr1 hl1
 split at h <;> (try (simp at h; done))
 rename_i e st2 hx2
 split at h <;> (try (simp at h; done))
 rename_i ss hss
 split at h <;> (try (simp at h; done))
 rename_i li2 fr2 p2 hl2
 refine pq (by have:=hb.1; simp only [Bool.and_eq_true,Nat.ble_eq,Nat.blt_eq] at this; exact this) hl hb.2 fun w0 σ0 φ0 M B=>?_
 have h1:=sL hV hO hm li.assign false false ⟨w0,σ0,φ0,M,li.n,some B,[]⟩ _ _ _ (fun h=>by cases h) (fun h=>by cases h) hx1 (by simp)
 have h2:=sL hV hO hm li.body false false ⟨w0,σ0,φ0,M,li.n,some B,[]⟩ _ _ _ (fun h=>by cases h) (fun h=>by cases h) hx2 (by rintro rfl; exact t6 _ hx2)
 have h3:=EY (ss:=ss) h2 (fun {a w σ φ mk} hr=>by
  obtain ⟨φ2,h⟩:=hr.endTo (fr2:=[]) (fun s v hv=>by simp [look] at hv) hss
  exact ⟨σ,φ2,h⟩)
 refine je h1 ?_
 rintro ex s ⟨rfl,rfl⟩
 refine ⟨rfl,li1,fr1,hl1,je h3 ?_⟩
 rintro ex s ⟨rfl,rfl⟩
 refine ⟨li2,fr2,p2,hl2,?_⟩
 cases e with
 | norm =>
   simp only [Option.some.injEq,Prod.mk.injEq] at h
   obtain ⟨rfl,rfl⟩:=h
   exact .inl ⟨rfl,rfl,keepK_sub⟩
 | ret =>
   simp only [Option.some.injEq,Prod.mk.injEq] at h
   obtain ⟨rfl,rfl⟩:=h
   exact .inr ⟨_,rfl,rfl,keepK_sub⟩
 | ex i =>
   simp only [Option.some.injEq,Prod.mk.injEq] at h
   obtain ⟨rfl,rfl⟩:=h
   exact .inr ⟨_,rfl,rfl,keepK_sub⟩
 | mk=>simp at h
structure Cfg where
 mf : List Nat
 ow : List (Nat×List Nat)
def Cfg.rg(cf : Cfg)(f : Nat) : List Nat:=match look cf.ow f with | some l=>l | none=>[]
def sx(P : Program)(V : Env)(cf : Cfg)(sp : Orc) : Nat→Orc
 | 0=>sp
 | n + 1=>fun f ow avs cs=>match sp f ow avs cs with
   | some r=>some r
   | none=>match f with
     | some f=>(match P.funcs[f]? with
       | some fn=>match fn.body with
         | some code=>GJ V (fun f=>bY f cf.mf) (cf.rg f) (sx P V cf sp n) ow fn code avs cs
         | none=>none
       | none=>none)
     | none=>(match avs with
       | .one (.yl j)::args=>zp V (fun f=>bY f cf.mf) [] (sx P V cf sp n) j args cs
       | _=>none)
theorem qP {P : Program} {V : Env} (hV : EnvOk P V) (hm : P.follows .mixedOrders = true) (hname : ∀ (f : FuncId) (fn : Func), P.funcs[f]? = some fn → (fn.name == "runtime.NumGoroutine") = false) {cf : Cfg} {sp : Orc} (hs : OrcOk P sp) : ∀ n, OrcOk P (sx P V cf sp n)
 | 0=>hs
 | n + 1=>by
   refine ⟨fun f b avs cs r s h=>?_,fun j b avs cs r s h=>?_⟩
   ·simp only [sx] at h
    split at h
    ·rename_i r' hr
     simp at h; subst h
     exact hs.call f b avs cs _ _ hr
    split at h <;> (try (simp at h; done))
    rename_i fn hf
    split at h <;> (try (simp at h; done))
    rename_i code hc
    exact IJ hV (qP hV hm hname hs n) hm hf hc (hname f fn hf) h
   ·simp only [sx] at h
    split at h
    ·rename_i r' hr
     simp at h; subst h
     exact hs.yld j b avs cs _ _ hr
    exact EZ hV (qP hV hm hname hs n) hm h
end Go.Abs
namespace Go.Abs
open Go
def lEq{α : Type}(eq : α→α→Bool) : List α→List α→Bool
 | [],[]=>true
 | x::xs,y::ys=>eq x y && lEq eq xs ys
 | _,_=>false
theorem dH{α : Type}{eq : α→α→Bool}(h : ∀ a b,eq a b = true→a = b) : ∀ {x y : List α},lEq eq x y = true→x = y
 | [],[],_=>rfl
 | a::x,b::y,he=>by
   simp only [lEq,Bool.and_eq_true] at he
   rw [h _ _ he.1,dH h he.2]
 | [],_::_,he=>by simp [lEq] at he
 | _::_,[],he=>by simp [lEq] at he
def iEq : Int→Int→Bool
 | .ofNat a,.ofNat b=>Nat.beq a b
 | .negSucc a,.negSucc b=>Nat.beq a b
 | _,_=>false
theorem Kv{a b : Int}(h : iEq a b = true) : a = b:=by
 cases a <;> cases b <;> simp only [iEq,reduceCtorEq] at h <;> rw [Nat.eq_of_beq_eq_true h]
def Kw(a b : UInt8) : Bool:=Nat.beq a.toNat b.toNat
theorem Iv(a b : UInt8)(h : Kw a b = true) : a = b:=UInt8.toNat.inj (Nat.eq_of_beq_eq_true h)
def dEq : Nat→D→D→Bool
 | 0,_,_=>false
 | _ + 1,.int k x,.int k' y=>kEq k k' && iEq x y
 | _ + 1,.bool x,.bool y=>bEq x y
 | _ + 1,.str x,.str y=>lEq Kw x y
 | _ + 1,.nil,.nil=>true
 | n + 1,.sl k b xs,.sl k' b' ys=>Nat.beq k k' && (Nat.beq b b' && lEq (lEq (dEq n)) xs ys)
 | n + 1,.ptr xs,.ptr ys=>lEq (dEq n) xs ys
 | n + 1,.fn f xs,.fn g ys=>Nat.beq f g && lEq (dEq n) xs ys
 | _ + 1,_,_=>false
theorem qg : ∀ n a b,dEq n a b = true→a = b
 | 0,_,_,h=>by simp [dEq] at h
 | n + 1,a,b,h=>by
   have ih:=qg n
   cases a <;> cases b <;> simp only [dEq,Bool.and_eq_true,reduceCtorEq] at h
   ·rw [fp h.1,Kv h.2]
   ·rw [gI h]
   ·rw [dH Iv h]
   ·rfl
   ·rw [Nat.eq_of_beq_eq_true h.1,Nat.eq_of_beq_eq_true h.2.1,dH (fun _ _=>dH ih) h.2.2]
   ·rw [dH ih h]
   ·rw [Nat.eq_of_beq_eq_true (n:=_) (m:=_) h.1,dH ih h.2]
def cEq : AC→AC→Bool
 | .d x,.d y=>dEq 20 x y
 | .own a b,.own a' b'=>Nat.beq a a' && Nat.beq b b'
 | .sub a b c,.sub a' b' c'=>Nat.beq a a' && (Nat.beq b b' && Nat.beq c c')
 | .ref a b,.ref a' b'=>Nat.beq a a' && Nat.beq b b'
 | .rref a b c,.rref a' b' c'=>Nat.beq a a' && (Nat.beq b b' && Nat.beq c c')
 | .yl a,.yl b=>Nat.beq a b
 | .mapr a,.mapr b=>Nat.beq a b
 | .bsl a b c,.bsl a' b' c'=>Nat.beq a a' && (Nat.beq b b' && Nat.beq c c')
 | .junk,.junk=>true
 | _,_=>false
theorem tT(a b : AC)(h : cEq a b = true) : a = b:=by
 cases a <;> cases b <;> simp only [cEq,Bool.and_eq_true,reduceCtorEq] at h
 ·rw [qg _ _ _ h]
 ·rw [Nat.eq_of_beq_eq_true h.1,Nat.eq_of_beq_eq_true h.2]
 ·rw [Nat.eq_of_beq_eq_true h.1,Nat.eq_of_beq_eq_true h.2.1,Nat.eq_of_beq_eq_true h.2.2]
 ·rw [Nat.eq_of_beq_eq_true h.1,Nat.eq_of_beq_eq_true h.2]
 ·rw [Nat.eq_of_beq_eq_true h.1,Nat.eq_of_beq_eq_true h.2.1,Nat.eq_of_beq_eq_true h.2.2]
 ·rw [Nat.eq_of_beq_eq_true h]
 ·rw [Nat.eq_of_beq_eq_true h]
 ·rw [Nat.eq_of_beq_eq_true h.1,Nat.eq_of_beq_eq_true h.2.1,Nat.eq_of_beq_eq_true h.2.2]
 ·rfl
def tEq(a b : Bool×List AC) : Bool:=bEq a.1 b.1 && lEq cEq a.2 b.2
theorem Kx(a b : Bool×List AC)(h : tEq a b = true) : a = b:=by
 obtain ⟨a1,a2⟩:=a; obtain ⟨b1,b2⟩:=b
 simp only [tEq,Bool.and_eq_true] at h
 rw [gI h.1,dH tT h.2]
def vEq : AV→AV→Bool
 | .one a,.one b=>cEq a b
 | .agg a,.agg b=>lEq cEq a b
 | .tup a,.tup b=>lEq tEq a b
 | .any,.any=>true
 | _,_=>false
theorem EN(a b : AV)(h : vEq a b = true) : a = b:=by
 cases a <;> cases b <;> simp only [vEq,reduceCtorEq] at h
 ·rw [tT _ _ h]
 ·rw [dH tT h]
 ·rw [dH Kx h]
 ·rfl
def Gu(a b : List D×List D) : Bool:=lEq (dEq 20) a.1 b.1 && lEq (dEq 20) a.2 b.2
theorem Iw(a b : List D×List D)(h : Gu a b = true) : a = b:=by
 obtain ⟨a1,a2⟩:=a; obtain ⟨b1,b2⟩:=b
 simp only [Gu,Bool.and_eq_true] at h
 rw [dH (qg _) h.1,dH (qg _) h.2]
def oEq : AObj→AObj→Bool
 | .box a,.box b=>lEq cEq a b
 | .row k b xs,.row k' b' ys=>Nat.beq k k' && (Nat.beq b b' && lEq (lEq (dEq 20)) xs ys)
 | .map g v xs,.map g' v' ys=>bEq g g' && (bEq v v' && lEq Gu xs ys)
 | _,_=>false
theorem Ky(a b : AObj)(h : oEq a b = true) : a = b:=by
 cases a <;> cases b <;> simp only [oEq,Bool.and_eq_true,reduceCtorEq] at h
 ·rw [dH tT h]
 ·rw [Nat.eq_of_beq_eq_true h.1,Nat.eq_of_beq_eq_true h.2.1,dH (fun _ _=>dH (qg _)) h.2.2]
 ·rw [gI h.1,gI h.2.1,dH Iw h.2.2]
def pEq(a b : Nat×AObj) : Bool:=Nat.beq a.1 b.1 && oEq a.2 b.2
theorem EO(a b : Nat×AObj)(h : pEq a b = true) : a = b:=by
 obtain ⟨a1,a2⟩:=a; obtain ⟨b1,b2⟩:=b
 simp only [pEq,Bool.and_eq_true] at h
 rw [Nat.eq_of_beq_eq_true (n:=_) (m:=_) h.1,Ky _ _ h.2]
structure Ent where
 f : FuncId
 ow : Bool
 avs : List AV
 cs : Sto
 r : AV
 s : Sto
def bO(P : Program)(e : Ent) : Prop:=CallA P e.f e.avs e.cs e.r e.s
def za(e : Ent)(f : FuncId)(ow : Bool)(avs : List AV)(cs : Sto) : Bool :=
 Nat.beq e.f f && (bEq e.ow ow && (lEq vEq e.avs avs && lEq pEq e.cs cs))
def spT : List Ent→Orc
 | [],_,_,_,_=>none
 | _,none,_,_,_=>none
 | e::l,some f,ow,avs,cs=>bif za e f ow avs cs then some (e.r,e.s) else spT l (some f) ow avs cs
def CJ(P : Program) : List Ent→Prop
 | []=>True
 | e::l=>bO P e∧CJ P l
theorem yH{P : Program} : ∀ {l : List Ent},CJ P l→OrcOk P (spT l)
 | [],_=>⟨fun f b avs cs r s h=>by simp [spT] at h,fun j b avs cs r s h=>by simp [spT] at h⟩
 | e::l,hl=>by
   refine ⟨fun f b avs cs r s h=>?_,fun j b avs cs r s h=>by simp [spT] at h⟩
   simp only [spT] at h
   cases hb : za e f b avs cs with
   | false=>simp only [hb,cond_false] at h; exact (yH hl.2).call f b avs cs r s h
   | true =>
     simp only [hb,cond_true,Option.some.injEq,Prod.mk.injEq] at h
     obtain ⟨rfl,rfl⟩:=h
     simp only [za,Bool.and_eq_true] at hb
     have h1:=Nat.eq_of_beq_eq_true (n:=_) (m:=_) hb.1
     have h2:=dH EN hb.2.2.1
     have h3:=dH EO hb.2.2.2
     subst h1; subst h2; subst h3
     exact hl.1
def aX(P : Program)(V : Env)(cf : Cfg)(l : List Ent)(n : Nat)(e : Ent) : Bool :=
 match sx P V cf (spT l) n (some e.f) e.ow e.avs e.cs with
 | some (r,s)=>vEq r e.r && lEq pEq s e.s
 | none=>false
structure ProgOk (P : Program) (V : Env) : Prop where
 env : EnvOk P V
 mo : P.follows .mixedOrders = true
 name : ∀ (f : FuncId) (fn : Func), P.funcs[f]? = some fn → (fn.name == "runtime.NumGoroutine") = false
theorem bi{P : Program}{V : Env}(hP : ProgOk P V){cf : Cfg}{l : List Ent}(hl : CJ P l){n : Nat}{e : Ent}(h : aX P V cf l n e = true) : bO P e:=by
 unfold aX at h
 split at h <;> (try (simp at h; done))
 rename_i r s hr
 simp only [Bool.and_eq_true] at h
 have h1:=EN _ _ h.1
 have h2:=dH EO h.2
 subst h1; subst h2
 exact (qP hP.env hP.mo hP.name (yH hl) n).call _ _ _ _ _ _ hr
def kkB : List KK→List KK→Bool
 | [],[]=>true
 | .int k::r,.int k'::r'=>kEq k k' && kkB r r'
 | .bool::r,.bool::r'=>kkB r r'
 | .str::r,.str::r'=>kkB r r'
 | _,_=>false
theorem tG : ∀ {a b : List KK},kkB a b = true→a = b
 | [],[],_=>rfl
 | .int k::r,.int k'::r',h=>by
   simp only [kkB,Bool.and_eq_true] at h
   rw [fp h.1,tG h.2]
 | .bool::r,.bool::r',h=>by rw [tG (show kkB r r' = true from h)]
 | .str::r,.str::r',h=>by rw [tG (show kkB r r' = true from h)]
 | [],_::_,h=>by simp [kkB] at h
 | .int _::_,[],h=>by simp [kkB] at h
 | .bool::_,[],h=>by simp [kkB] at h
 | .str::_,[],h=>by simp [kkB] at h
 | .int _::_,.bool::_,h=>by simp [kkB] at h
 | .int _::_,.str::_,h=>by simp [kkB] at h
 | .bool::_,.int _::_,h=>by simp [kkB] at h
 | .bool::_,.str::_,h=>by simp [kkB] at h
 | .str::_,.int _::_,h=>by simp [kkB] at h
 | .str::_,.bool::_,h=>by simp [kkB] at h
def shB(P : Program)(t : TypeId)(ks : List KK) : Bool:=match eS P 6 t with | some l=>kkB l ks | none=>false
theorem Ey{P : Program}{t : TypeId}{ks : List KK}(h : shB P t ks = true) : eS P 6 t = some ks:=by
 unfold shB at h
 split at h
 ·rename_i l hl
  rw [hl,tG h]
 ·cases h
def eB(P : Program)(t : TypeId)(ks : List KK) : Bool:=shB P t ks && P.keyTypeAt 6 t && jB P t && !P.eqGuardType P.depth t
def Cx(P : Program) : rS→Bool
 | []=>true
 | (t,ks)::r=>eB P t ks && Cx P r
theorem xG{P : Program} : ∀ {E : rS},Cx P E = true→xn P E
 | [],_=>fun t ks h=>by simp [look] at h
 | (t',ks')::r,h=>by
   simp only [Cx,Bool.and_eq_true] at h
   intro t ks hl
   rcases ah hl with ⟨rfl,rfl⟩ | ⟨_,hl⟩
   ·have h1:=h.1
    simp only [eB,Bool.and_eq_true,Bool.not_eq_true'] at h1
    exact ⟨Ey h1.1.1.1,h1.1.1.2,h1.1.2,h1.2⟩
   ·exact xG h.2 t ks hl
def yL(P : Program)(t : TypeId) : List KK→Bool
 | [.int k]=>(match P.underlying t with | some (.int k')=>kEq k' k | _=>false)
 | [.bool]=>(match P.underlying t with | some .bool=>true | _=>false)
 | [.str]=>(match P.underlying t with | some .string=>true | _=>false)
 | _=>false
theorem Ez{P : Program}{t : TypeId}{ks : List KK}(h : yL P t ks = true) : ∃ k,ks = [k]∧P.underlying t = some (mQ k):=by
 unfold yL at h
 split at h
 ·split at h
  ·rename_i k k' hu
   refine ⟨_,rfl,?_⟩
   rw [hu,fp h]; rfl
  ·cases h
 ·split at h
  ·rename_i hu; exact ⟨_,rfl,hu⟩
  ·cases h
 ·split at h
  ·rename_i hu; exact ⟨_,rfl,hu⟩
  ·cases h
 ·cases h
def mB(P : Program)(t : TypeId)(m : MTy) : Bool :=
 (match P.underlying t with | some (.map k e)=>Nat.beq k m.kt && Nat.beq e m.et | _=>false) &&
 (shB P m.kt m.ks && P.keyTypeAt 6 m.kt && bEq (jB P m.kt) m.kg && !P.eqGuardType P.depth m.kt && (m.kg || yL P m.kt m.ks)) &&
 (match P.info? m.et with
  | some i=>(match i.zero with
    | some zv=>mg m.z zv.cells.toList && m.z.all gr && (if m.vg then tH zv else (zv.oneCell && Nat.beq m.z.length 1))
    | none=>false)
  | none=>false)
theorem LE{P : Program}{t : TypeId}{m : MTy}(h : mB P t m = true) : MOk P t m:=by
 unfold mB at h
 simp only [Bool.and_eq_true] at h
 obtain ⟨⟨h1,h2⟩,h3⟩:=h
 refine ⟨?_,?_,?_⟩
 ·split at h1
  ·rename_i k e hu
   simp only [Bool.and_eq_true] at h1
   rw [hu,Nat.eq_of_beq_eq_true h1.1,Nat.eq_of_beq_eq_true h1.2]
  ·cases h1
 ·obtain ⟨⟨⟨⟨a1,a2⟩,a3⟩,a4⟩,a5⟩:=h2
  refine ⟨Ey a1,a2,gI a3,by simpa using a4,fun hk=>?_⟩
  rw [hk,Bool.false_or] at a5
  exact Ez a5
 ·split at h3
  ·rename_i i hi
   split at h3
   ·rename_i zv hz
    simp only [Bool.and_eq_true] at h3
    obtain ⟨⟨b1,b2⟩,b3⟩:=h3
    refine ⟨i,zv,hi,hz,fun σ=>?_⟩
    have hall : ∀ x∈m.z,gr x = true:=by simpa using b2
    have hcells:=pZ b1
    have hrep : All2 (Rep σ) m.z (m.z.map iD):=by
     have : ∀ {l : List D},(∀ x∈l,gr x = true)→All2 (Rep σ) l (l.map iD):=by
      intro l
      induction l with
      | nil=>intro _; trivial
      | cons d l ih=>intro h; exact ⟨l6 (h d (by simp)),ih fun x hx=>h x (by simp [hx])⟩
     exact this hall
    cases hg : m.vg with
    | true =>
      rw [hg] at b3
      simp only [if_true] at b3
      cases zv <;> simp [tH] at b3
      rename_i cs
      refine ⟨cs.toList,by simp,?_⟩
      rw [show cs.toList = m.z.map iD from hcells]
      exact hrep
    | false =>
      rw [hg] at b3
      simp only [Bool.false_eq_true,if_false,Bool.and_eq_true] at b3
      have hl:=Nat.eq_of_beq_eq_true b3.2
      have hone : zv.cells.toList = [zv]:=by
       have:=b3.1
       cases zv <;> first | rfl | simp [Value.oneCell] at this
      rw [hone] at hcells
      show All2 (Rep σ) m.z [zv]
      rw [hcells]
      exact hrep
   ·cases h3
  ·cases h3
def Cy(P : Program) : BD→Bool
 | []=>true
 | (t,m)::r=>mB P t m && Cy P r
theorem xH{P : Program} : ∀ {M : BD},Cy P M = true→∀ t m,look M t = some m→MOk P t m
 | [],_=>fun t ks h=>by simp [look] at h
 | (t',ks')::r,h=>by
   simp only [Cy,Bool.and_eq_true] at h
   intro t ks hl
   rcases ah hl with ⟨rfl,rfl⟩ | ⟨_,hl⟩
   ·exact LE h.1
   ·exact xH h.2 t ks hl
end Go.Abs
namespace Go.Abs
open Go
variable {P : Program} {T : Tab} {w0 : World} {σ0 : Sig} {φ0 : Pl} {M : Nat→Prop} {n : Nat} {rd : Option Nat} {mk : List Deferred} {ops : Array Oper} {o : Oper} {rest : List Oper} {fr : List (Nat×AV)} {sto : Sto} {K : St→Prop}
theorem iW(hT : aU P T){d : Nat}{v : AV}(hg : o.guard = none)(hdst : o.dst = some d)(hd : Nat.blt d n = true)(hv : bQ T ⟨fr,sto⟩ o.op = some v)
  (h : ac P ⟨w0,σ0,φ0,M,n,rd,mk⟩ ops rest ⟨(d,v)::fr,sto⟩ K) : ac P ⟨w0,σ0,φ0,M,n,rd,mk⟩ ops (o::rest) ⟨fr,sto⟩ K :=
 vL hT hg (by rw [hdst]; exact hd) hv (by rw [hdst]; exact h)
def Av : BinOp→Bool
 | .add | .sub | .mul=>true
 | _=>false
def G9 : BinOp→Int→Int→Int
 | .add,x,y=>x + y
 | .sub,x,y=>x - y
 | _,x,y=>x * y
theorem uG{k : IntKind}{z : Int}(h : inR k z) : k.wrap z = z:=by
 unfold inR at h
 unfold IntKind.wrap
 cases k <;> simp [IntKind.signed,IntKind.bits,IntKind.min,IntKind.max] at h ⊢ <;> (try split) <;> omega
theorem gf{z : Int}(h1 : -9223372036854775808≤z)(h2 : z≤9223372036854775807) : IntKind.i64.wrap z = z :=
 uG ⟨by simp [IntKind.min,IntKind.signed,IntKind.bits]; exact h1,by simp [IntKind.max,IntKind.signed,IntKind.bits]; exact h2⟩
theorem Aw{j : Nat}{want b : Bool}(hg : o.guard = some (j,want))(hb : fW ⟨fr,sto⟩ ops j = some (some b))(hw : b = want)
  (h : ac P ⟨w0,σ0,φ0,M,n,rd,mk⟩ ops ({ o with guard:=none }::rest) ⟨fr,sto⟩ K) : ac P ⟨w0,σ0,φ0,M,n,rd,mk⟩ ops (o::rest) ⟨fr,sto⟩ K:=rp hg hb hw h
theorem Ha{d j : Nat}{want b : Bool}(hg : o.guard = some (j,want))(hb : fW ⟨fr,sto⟩ ops j = some (some b))(hw : b = !want)(hdst : o.dst = some d)(hd : Nat.blt d n = true)
  (h : ac P ⟨w0,σ0,φ0,M,n,rd,mk⟩ ops rest ⟨(d,.tup [])::fr,sto⟩ K) : ac P ⟨w0,σ0,φ0,M,n,rd,mk⟩ ops (o::rest) ⟨fr,sto⟩ K :=
 pG hg hb (by rw [hw]; cases want <;> simp) (by rw [hdst]; exact hd) (by rw [hdst]; exact h)
end Go.Abs
