import Derived.Test.YtpejdgkaapnekaaGreatJP9
import Derived.Test.YtpejdgkaapnekaaGreatJP5
set_option linter.unusedVariables false
set_option linter.unusedSimpArgs false
set_option maxHeartbeats 1000000
namespace Go.Abs
open Go
variable {P : Program} {c : Ctx} {T : Tab} {σ : Sig} {φ : Pl} {w : World}
def vh(d : Nat)(v : AV) : List (Nat×AV)→List (Nat×AV)
 | []=>[(d,v)]
 | (t,x)::r=>bif Nat.beq t d then (d,v)::r else (t,x)::vh d v r
def je(d : Option Nat)(v : AV)(fr : List (Nat×AV)) : List (Nat×AV):=match d with
 | none=>fr
 | some d=>vh d v fr
theorem nQ{d : Nat}{v : AV} : ∀ {fr : List (Nat×AV)} {t : Nat},look (vh d v fr) t = look ((d,v)::fr) t
 | [],_=>rfl
 | (s,x)::r,t=>by
   simp only [vh]
   cases hb : Nat.beq s d with
   | true =>
     have:=Nat.eq_of_beq_eq_true hb; subst this
     simp only [cond_true,look]
     cases Nat.beq s t <;> rfl
   | false =>
     simp only [cond_false,look,nQ (fr:=r)]
     cases h1 : Nat.beq s t with
     | false=>rfl
     | true =>
       have e1:=Nat.eq_of_beq_eq_true h1; subst e1
       cases h2 : Nat.beq d s with
       | false=>rfl
       | true=>have:=Nat.eq_of_beq_eq_true h2; subst this; rw [Nat.beq_refl] at hb; cases hb
theorem fW{d : Option Nat}{v : AV}{fr : List (Nat×AV)}{t : Nat} : look (je d v fr) t = look (aU d v fr) t:=by
 cases d with
 | none=>rfl
 | some d=>exact nQ
def lU : List (Nat×AV)→List (Nat×AV)
 | []=>[]
 | (d,v)::r=>vh d v (lU r)
theorem oX : ∀ {fr : List (Nat×AV)} {t : Nat},look (lU fr) t = look fr t
 | [],_=>rfl
 | (d,v)::r,t=>by
   simp only [lU,nQ,look,oX (fr:=r)]
theorem lV{fr fr' : List (Nat×AV)}{sto : Sto}(h : ∀ t,look fr' t = look fr t) : Imp c ⟨fr,sto⟩ ⟨fr',sto⟩:=fun _ _ σ φ hr=>⟨σ,φ,hr.cong (st':=⟨fr',sto⟩) h fun _=>rfl⟩
def jq(opsA : Array Oper)(st : St)(o : Oper) : Option Bool :=
 match o.guard with
 | none=>some true
 | some (j,want)=>match eV st opsA j with
   | some y=>some (y == some want)
   | none=>none
def Aq(o : Oper)(f : FuncId)(caps : List Operand)(st : St)(dl : List Nat) : Option St :=
 match dl with
 | []=>none
 | dl=>(match sealL st dl with
   | some ss=>(match evL ss caps with
     | some avs=>(match im avs with | some ds=>some ⟨je o.dst (.one (.d (.fn f ds))) ss.fr,ss.sto⟩ | none=>none)
     | none=>none)
   | none=>none)
def Ar : Option AV→Bool
 | some (.one (.rref _ _ _))=>true
 | _=>false
def vi(V : Env)(o : Oper)(st : St)(dl : List Nat) : Option St :=
 match dl with
 | []=>none
 | dl=>(match sealL st dl with
   | some ss=>(match aM V ss o 0 with
     | some ⟨v,wr,[]⟩=>some ⟨je o.dst v ss.fr,cn wr ss.sto⟩
     | _=>none)
   | none=>none)
def yM(V : Env)(st : St)(o : Oper) : Option St :=
 match o.op with
 | .makeFunc (.func f) ⟨[]⟩ caps=>Aq o f caps.toList st (cM st.sto (b0 st caps.toList) [])
 | .store _ x y=>bif Ar (ev st x) then vi V o st (cM st.sto (ou st y) []) else none
 | _=>none
theorem As{V : Env}(hV : EnvOk P V){opsA : Array Oper}{l : List Oper}{st st' : St}{o : Oper}{K : St→Prop}{dl : List Nat}(hd : aH c.n o.dst = true)(h : vi V o st dl = some st')(hk : aa P c opsA l st' K) : aa P c opsA ({ o with guard:=none }::l) st K:=by
 unfold vi at h
 split at h <;> (try (simp at h; done))
 split at h <;> (try (simp at h; done))
 rename_i ss hss
 split at h <;> simp at h
 rename_i v wr hs
 subst h
 have hi : Imp c st ss:=fun a w σ φ hr=>by
  obtain ⟨σs,_,h3,_⟩:=Rel.sealL hss hr
  exact ⟨σs,φ,h3⟩
 exact ct hi (mE hV hd hs rfl (fun i hi=>by simp at hi) opsA l K (ct (lV fun t=>fW) hk))
theorem BS{V : Env}(hV : EnvOk P V){opsA : Array Oper}{l : List Oper}{st st' : St}{o : Oper}{K : St→Prop}(hd : aH c.n o.dst = true)(h : yM V st o = some st')(hk : aa P c opsA l st' K) : aa P c opsA ({ o with guard:=none }::l) st K:=by
 unfold yM at h
 split at h <;> (try (simp at h; done))
 rotate_left
 ·rename_i t x y ho
  cases hb : Ar (ev st x) <;> simp only [hb,cond_true,cond_false,reduceCtorEq] at h
  exact As hV hd h hk
 rename_i f caps ho
 generalize cM st.sto (b0 st caps.toList) [] = dl at h
 unfold Aq at h
 split at h <;> (try (simp at h; done))
 split at h <;> (try (simp at h; done))
 rename_i ss hss
 split at h <;> (try (simp at h; done))
 rename_i avs ha
 split at h <;> simp at h
 rename_i ds hds
 subst h
 refine aR rfl fun a w σ φ hr=>?_
 obtain ⟨σs,_,hs,_⟩:=Rel.sealL hss hr
 have h1:=kP hds (gH hs ha)
 refine ⟨.func (.func f) #[] (caps.toList.map a.eval).toArray,w,⟨aU o.dst (.one (.d (.fn f ds))) ss.fr,ss.sto⟩,σs,φ,?_,hs.put (v:=.one (.d (.fn f ds))) hd (RepC.d (.fn _ h1.length.symm fun j d v hd hv=>?_)),ct (lV fun t=>fW) hk⟩
 ·have e : (caps.toList.map a.eval).toArray = caps.map a.eval:=by rw [← Array.toList_map,Array.toArray_toList]
  rw [e]
  simp [execOp,ho,Instr.makeFunc]
 ·obtain ⟨u,hu,hru⟩:=h1.get hd
  rw [hv] at hu; cases hu; exact hru
def vj(orc : Orc)(ow : Bool)(id : Nat)(st : St)(dst : Option Nat)(fop : Operand)(args : List Operand)(dl : List Nat) : Option St :=
 match sealL st dl with
 | some ss=>(match ev ss fop,evL ss args with
   | some (.one (.d (.fn f caps))),some avs=>bif cm avs then (match orc (some f) ow (avs ++ caps.map fun x=>.one (.d x)) [] with
     | some (rav,rsto)=>bif fN rav then some ⟨je dst rav st.fr,st.sto⟩
       else bif cA [] rsto && Nat.ble (id + 16) 1000000 && dp rsto rav && bt rsto rsto && dj ss (rng id 16) then some ⟨je dst (dF (rn id []) rav) ss.fr,cn (q5 (rn id []) rsto) ss.sto⟩ else none
     | none=>none) else none
   | _,_=>none)
 | none=>none
theorem Au{orc : Orc}(hO : OrcOk P orc){ow : Bool}{id : Nat}{opsA : Array Oper}{l : List Oper}{st st' : St}{o : Oper}{K : St→Prop}{fop : Operand}{args : Array Operand}{ats : Array TypeId}{dl : List Nat}(ho : o.op = .call { callee:=.value fop,args:=args,argTypes:=ats })
  (hd : aH c.n o.dst = true) (h : vj orc ow id st o.dst fop args.toList dl = some st') (hk : aa P c opsA l st' K) : aa P c opsA ({ o with guard:=none }::l) st K:=by
 unfold vj at h
 split at h <;> (try (simp at h; done))
 rename_i ss hss
 split at h <;> (try (simp at h; done))
 rename_i f caps avs hf ha
 cases hD : cm avs <;> simp only [hD,cond_true,cond_false,reduceCtorEq] at h
 split at h <;> (try (simp at h; done))
 rename_i rav rsto hor
 have hi : Imp c st ss:=fun a w σ φ hr=>by
  obtain ⟨σs,_,h3,_⟩:=Rel.sealL hss hr
  exact ⟨σs,φ,h3⟩
 cases hfl : fN rav with
 | true =>
   simp only [hfl,cond_true,Option.some.injEq] at h
   subst h
   exact gb (o:={ o with guard:=none }) ho rfl hd hi hf ha hD (hO.call _ _ _ _ _ _ hor) hfl (ct (lV fun t=>fW) hk)
 | false =>
   simp only [hfl,cond_false] at h
   cases hb : cA [] rsto && Nat.ble (id + 16) 1000000 && dp rsto rav && bt rsto rsto && dj ss (rng id 16) <;> simp only [hb,cond_true,cond_false,reduceCtorEq,Option.some.injEq] at h
   subst h
   rw [Bool.and_eq_true] at hb
   refine ct hi (iX (o:={ o with guard:=none }) id [] ho rfl hd rfl hf ha hD (hO.call _ _ _ _ _ _ hor) hb.1 (fun i h1 h2=>?_) (ct (lV fun t=>fW) ?_))
   ·exact ef hb.2 i (rng_mem.2 ⟨h1,h2⟩)
   ·have:=iy (r:=rn id []) (s:=ss.sto) (d:=[]) (rs:=rsto)
    simp only [List.append_nil,cn] at this
    rw [this] at hk
    exact hk
def BT(V : Env)(mf : FuncId→Bool)(orc : Orc)(yf ow : Bool)(st : St)(o : Oper) : Option St :=
 match yM V st o with
 | some st'=>some st'
 | none=>match o.op with
   | .call { callee:=.value fop,args,.. }=>(match ev st fop with
     | some (.one (.d (.fn f _)))=>bif mf f then
       (match xTr V mf orc yf ow (jf st) st o with | some tr=>some ⟨je o.dst tr.v st.fr,cn tr.wr st.sto⟩ | none=>none)
       else vj orc ow (jf st) st o.dst fop args.toList (cM st.sto (b0 st args.toList) [])
     | _=>(match xTr V mf orc yf ow (jf st) st o with | some tr=>some ⟨je o.dst tr.v st.fr,cn tr.wr st.sto⟩ | none=>none))
   | _=>(match xTr V mf orc yf ow (jf st) st o with | some tr=>some ⟨je o.dst tr.v st.fr,cn tr.wr st.sto⟩ | none=>none)
theorem Ds{V : Env}(hV : EnvOk P V){mf : FuncId→Bool}{orc : Orc}(hO : OrcOk P orc){yf ow : Bool}(hy : yf = true→c.rd = none){opsA : Array Oper}{l : List Oper}{st st' : St}{o : Oper}{K : St→Prop}(hd : aH c.n o.dst = true)(h : BT V mf orc yf ow st o = some st')
  (hk : aa P c opsA l st' K) : aa P c opsA ({ o with guard:=none }::l) st K:=by
 have key : ∀ {st' : St},(match xTr V mf orc yf ow (jf st) st o with | some tr=>some (⟨je o.dst tr.v st.fr,cn tr.wr st.sto⟩ : St) | none=>none) = some st'→aa P c opsA l st' K→aa P c opsA ({ o with guard:=none }::l) st K:=by
  intro st' h hk
  split at h <;> simp at h
  rename_i tr htr
  subst h
  obtain ⟨hl,hf⟩:=ze hV hO hy hd htr
  exact hl st (fun _ _=>rfl) (fun _ _=>rfl) hf opsA l _ (ct (lV fun t=>fW) hk)
 unfold BT at h
 split at h
 ·rename_i s1 hs1
  simp only [Option.some.injEq] at h; subst h
  exact BS hV hd hs1 hk
 split at h
 ·rename_i fop args ats ho
  split at h
  ·rename_i f caps hf
   cases hm : mf f with
   | true=>simp only [hm,cond_true] at h; exact key h hk
   | false=>simp only [hm,cond_false] at h; exact Au hO ho hd h hk
  ·exact key h hk
 ·exact key h hk
def rI(V : Env)(mf : FuncId→Bool)(orc : Orc)(yf ow : Bool)(n : Nat)(opsA : Array Oper) : List Oper→St→Option St
 | [],st=>some st
 | o::r,st=>bif aH n o.dst then (match jq opsA st o with
   | some true=>(match BT V mf orc yf ow st o with
     | some st'=>rI V mf orc yf ow n opsA r st'
     | none=>none)
   | some false=>rI V mf orc yf ow n opsA r ⟨je o.dst (.tup []) st.fr,st.sto⟩
   | none=>none) else none
theorem rJ{V : Env}(hV : EnvOk P V){mf : FuncId→Bool}{orc : Orc}(hO : OrcOk P orc){yf ow : Bool}(hy : yf = true→c.rd = none){opsA : Array Oper} : ∀ {l : List Oper} {st st' : St},rI V mf orc yf ow c.n opsA l st = some st'→aa P c opsA l st (fun s=>s = st')
 | [],st,st',h=>by
   simp only [rI,Option.some.injEq] at h; subst h
   exact nN rfl
 | o::r,st,st',h=>by
   simp only [rI] at h
   cases hd : aH c.n o.dst <;> simp only [hd,cond_true,cond_false,reduceCtorEq] at h
   cases hg : jq opsA st o with
   | none=>simp [hg] at h
   | some b =>
     cases b with
     | true =>
       simp only [hg] at h
       have hk : aa P c opsA ({ o with guard:=none }::r) st (fun s=>s = st'):=by
        split at h <;> (try (simp at h; done))
        rename_i s1 hs1
        exact Ds hV hO hy hd hs1 (rJ hV hO hy h)
       unfold jq at hg
       cases hgd : o.guard with
       | none =>
         have : ({ o with guard:=none } : Oper) = o:=by obtain ⟨_,_,_,_,_,g⟩:=o; simp only at hgd; subst hgd; rfl
         rw [this] at hk; exact hk
       | some gw =>
         obtain ⟨j,want⟩:=gw
         simp only [hgd] at hg
         split at hg <;> simp at hg
         rename_i b hb
         subst hg
         exact oL hgd hb rfl hk
     | false =>
       simp only [hg] at h
       unfold jq at hg
       cases hgd : o.guard with
       | none=>simp [hgd] at hg
       | some gw =>
         obtain ⟨j,want⟩:=gw
         simp only [hgd] at hg
         split at hg <;> simp at hg
         rename_i b hb
         exact nv hgd hb (by simpa using hg) hd (ct (lV fun t=>fW) (rJ hV hO hy h))
def ov(V : Env)(mf : FuncId→Bool)(orc : Orc)(yf ow : Bool)(n : Nat)(opsA : Array Oper)(st0 : St) : Nat→List Oper→St→List Tr→Option St
 | _,[],st,acc=>bif iK opsA.toList st0 acc.reverse then some ⟨lU st.fr,st.sto⟩ else none
 | lo,o::r,st,acc=>bif aH n o.dst then (match jq opsA st o with
   | some true=>(match xTr V mf orc yf ow lo st o with
     | some tr=>ov V mf orc yf ow n opsA st0 (mx tr.new lo) r ⟨aU o.dst tr.v st.fr,cn tr.wr st.sto⟩ (tr::acc)
     | none=>none)
   | some false=>ov V mf orc yf ow n opsA st0 lo r ⟨aU o.dst (.tup []) st.fr,st.sto⟩ (Tr.none::acc)
   | none=>none) else none
theorem pO{V : Env}(hV : EnvOk P V){mf : FuncId→Bool}{orc : Orc}(hO : OrcOk P orc){yf ow : Bool}(hy : yf = true→c.rd = none){opsA : Array Oper}{st0 : St} : ∀ {l : List Oper} {lo : Nat} {st st' : St} {acc : List Tr},ov V mf orc yf ow c.n opsA st0 lo l st acc = some st' →
  aq P c opsA st0 l st acc (fun s=>(⟨lU s.fr,s.sto⟩ : St) = st')
 | [],lo,st,st',acc,h=>by
   simp only [ov] at h
   cases hb : iK opsA.toList st0 acc.reverse <;> simp only [hb,cond_true,cond_false,reduceCtorEq,Option.some.injEq] at h
   exact ⟨hb,h⟩
 | o::r,lo,st,st',acc,h=>by
   simp only [ov] at h
   cases hd : aH c.n o.dst <;> simp only [hd,cond_true,cond_false,reduceCtorEq] at h
   have hgok : ∀ {b : Bool},jq opsA st o = some b→eK opsA st o b:=by
    intro b hg
    unfold jq at hg
    unfold eK
    cases hgd : o.guard with
    | none=>simp only [hgd,Option.some.injEq] at hg ⊢; exact hg.symm
    | some gw =>
      obtain ⟨j,want⟩:=gw
      simp only [hgd] at hg ⊢
      split at hg <;> simp at hg
      rename_i b' hb
      exact ⟨b',hb,hg.symm⟩
   cases hg : jq opsA st o with
   | none=>simp [hg] at h
   | some b =>
     cases b with
     | true =>
       simp only [hg] at h
       split at h <;> (try (simp at h; done))
       rename_i tr htr
       exact ⟨true,tr,hgok hg,fun _=>(ze hV hO hy hd htr).1,fun e=>by simp at e,fun e=>by simp at e,pO hV hO hy h⟩
     | false =>
       simp only [hg] at h
       exact ⟨false,Tr.none,hgok hg,fun e=>by simp at e,fun _=>rfl,fun _=>hd,pO hV hO hy h⟩
inductive XE where
 | norm | ex (id : Nat) | ret
 /-- off the end, a loop's mark standing -/
 | mk
def XE.e : XE→Exit
 | .norm | .mk=>.normal
 | .ex i=>.exit i
 | .ret=>.ret
def iq(f : St→Option (XE×St)) : Nat→St→Option (XE×St)
 | 0,_=>none
 | n + 1,st=>match f st with
   | some (.norm,st')=>iq f n st'
   | some (.mk,_)=>none
   | r=>r
def Dt : LoopState→Bool
 | .busy=>false
 | _=>true
def pOk : Option Code→Bool
 | none=>true
 | some .ret=>true
 | _=>false
def vk(st : St)(ids : List Nat)(idl : Nat)(li : LI)(os : List (Nat×AObj))(caps : List D)(rav : AV)(j : Nat)(liR : LI)(frR : List (Nat×AV))(s' : LoopState)(p' : Option Code)(rs : Sto) : Bool :=
 Nat.beq j 1000000 && kW (idl::ids) os && !ck idl ids && eu ((idl,.loop li (cE ids st.fr []) .ready none)::st.sto) (bK 1000000 (idl::ids)) rs &&
 hkB (idl + 1) (idl::ids) ((1000000,.loop li (dt (inv 1000000 (idl::ids)) (cE ids st.fr [])) .ready none)::fq (inv 1000000 (idl::ids)) os) ((.one (.yl 1000000))::caps.map fun x=>.one (.d x)) rav ((1000000,.loop liR frR s' p')::rs) &&
 (Nat.blt idl (idl + 1) && iS st.sto idl && !aT idl st.fr && !aK idl st.sto && Nat.ble (idl + 1 + 16) 1000000 && mK (idl + 1) (cE ids st.fr []) && iS rs 1000000) &&
 dj st (rng (idl + 1) 16) && Dt s' && pOk p'
def xc(orc : Orc)(li : LI)(st : St)(f : FuncId)(caps : List D)(ids : List Nat)(idl : Nat) : Option (Option Code×St) :=
 match gk st.sto ids with
 | some os=>(match orc (some f) false ((.one (.yl 1000000))::caps.map fun x=>.one (.d x)) ((1000000,.loop li (dt (inv 1000000 (idl::ids)) (cE ids st.fr [])) .ready none)::fq (inv 1000000 (idl::ids)) os) with
   | some (rav,(j,.loop liR frR s' p')::rs)=>bif vk st ids idl li os caps rav j liR frR s' p' rs then some (p',⟨st.fr,kQ (idl + 1) (bK 1000000 (idl::ids)) rs st.sto⟩) else none
   | _=>none)
 | none=>none
def vm(orc : Orc)(n : Nat)(g : Operand)(ps : Array Nat)(assign body : Code)(st : St) : Option (Option Code×St) :=
 match ev st g with
 | some (.one (.d (.fn f caps)))=>xc orc ⟨n,ps,assign,body⟩ st f caps (fK st.sto 1000 (gM st.fr) []) (jf st)
 | _=>none
theorem sN{orc : Orc}(hO : OrcOk P orc){g : Operand}{ps : Array Nat}{assign body : Code}{st st' : St}{p : Option Code}(hrd : c.rd = none)(hmk : c.mks = [])(h : vm orc c.n g ps assign body st = some (p,st')) :
  ∀ (a : Act) (w : World) (σ : Sig) (φ : Pl),Rel c st a w σ φ→(Code.rangeFunc g ps assign body).wpIn (fnc c) 0 P (fun e a' w' =>
    (p = none∧e = .normal∧∃ c1 σ' φ',yN c c1∧Rel c1 st' a' w' σ' φ')∨(p = some .ret∧e = .ret∧∃ σ' φ',RelE c .ret st' a' w' σ' φ')) a w:=by
 unfold vm at h
 split at h <;> (try (simp at h; done))
 rename_i f caps hg
 generalize fK st.sto 1000 (gM st.fr) [] = ids at h
 generalize jf st = idl at h
 unfold xc at h
 split at h <;> (try (simp at h; done))
 rename_i os hos
 split at h <;> (try (simp at h; done))
 rename_i rav j liR frR s' p' rs hor
 cases hb : vk st ids idl ⟨c.n,ps,assign,body⟩ os caps rav j liR frR s' p' rs <;> simp only [hb,cond_true,cond_false,reduceCtorEq,Option.some.injEq,Prod.mk.injEq] at h
 obtain ⟨rfl,rfl⟩:=h
 unfold vk at hb
 simp only [Bool.and_eq_true,Bool.not_eq_true'] at hb
 obtain ⟨⟨⟨⟨⟨⟨⟨⟨hj,hall⟩,hni⟩,hcm⟩,hk⟩,hi⟩,hfr⟩,hbu⟩,hp⟩:=hb
 have hj':=Nat.eq_of_beq_eq_true hj
 subst hj'
 have hren : dt (rn (idl + 1) (bK 1000000 (idl::ids))) (dt (inv 1000000 (idl::ids)) (cE ids st.fr [])) = cE ids st.fr [] :=
  mV fun i hi=>pV (by simp only [ck,Bool.or_eq_true]; exact .inr (jG i hi))
 have hne : ∀ i∈ids,i≠idl:=by
  intro i hmem e
  rw [e] at hmem
  rw [memL_iff.2 hmem] at hni; cases hni
 have e : dt (rn (idl + 1) ((1000000,idl)::bK 1000001 ids)) (dt (inv 1000000 (idl::ids)) (cE ids st.fr [])) = cE ids st.fr []:=hren
 refine Av (k:=idl + 1) (idl:=idl) (ρ:=bK 1000001 ids) hrd hmk hg (hO.call _ _ _ _ _ _ hor) (fun s v hv=>?_) ?_ ?_ hk ?_ ?_ ?_ ?_
 ·rw [e] at hv
  exact (gi hv).2
 ·exact jA (s:=(idl,_)::st.sto) ((jz (s:=st.sto) fun i hi=>aG (hne i hi)).trans hos) hall
 ·refine iU (s:=(idl,.loop ⟨c.n,ps,assign,body⟩ (cE ids st.fr []) .ready none)::st.sto) (fun j i _=>?_) hcm
  show look ((idl,AObj.loop _ _ _ _)::st.sto) i = _
  rw [e]
 ·rw [e]
  simp only [Bool.and_eq_true,Bool.not_eq_true']
  exact hi
 ·intro i h1 h2
  exact ef hfr i (rng_mem.2 ⟨h1,h2⟩)
 ·rintro rfl; cases hbu
 ·unfold pOk at hp
  split at hp
  ·exact .inl rfl
  ·exact .inr rfl
  ·cases hp
def bE(V : Env)(mf : FuncId→Bool)(rg : List Nat)(orc : Orc)(n : Nat) : Bool→Bool→Code→St→Option (XE×St)
 | _,_,.skip,st=>some (.norm,st)
 | _,yf,.region id ops true,st=>match ov V mf orc yf (ck id rg) n ops st (jf st) ops.toList st [] with | some st'=>some (.norm,st') | none=>none
 | _,yf,.region id ops false,st=>match rI V mf orc yf (ck id rg) n ops ops.toList st with | some st'=>some (.norm,st') | none=>none
 | rf,_,.rangeFunc g ps assign body,st=>bif rf then (match vm orc n g ps assign body st with
   | some (none,st')=>some (.mk,st')
   | some (some _,st')=>some (.ret,st')
   | none=>none) else none
 | rf,yf,.seq x y,st=>match bE V mf rg orc n rf yf x st with
   | some (.norm,st')=>bE V mf rg orc n rf yf y st'
   | some (.mk,st')=>(match bE V mf rg orc n false yf y st' with
     | some (.norm,s)=>some (.mk,s)
     | some (.ret,s)=>some (.ret,s)
     | _=>none)
   | r=>r
 | rf,yf,.cond o x y,st=>match ev st o with
   | some (.one (.d (.bool true)))=>bE V mf rg orc n rf yf x st
   | some (.one (.d (.bool false)))=>bE V mf rg orc n rf yf y st
   | _=>none
 | rf,yf,.block id x,st=>match bE V mf rg orc n rf yf x st with
   | some (.ex i,st')=>bif Nat.beq i id then some (.norm,st') else some (.ex i,st')
   | r=>r
 | rf,yf,.loop x,st=>iq (fun s=>bE V mf rg orc n rf yf x s) 100000 st
 | _,_,.exit id,st=>some (.ex id,st)
 | _,_,.ret,st=>some (.ret,st)
 | _,_,_,_=>none
def Ez(c : Ctx)(e : XE)(st : St)(a : Act)(w : World)(σ : Sig)(φ : Pl) : Prop :=
 match e with
 | .mk=>∃ c1,yN c c1∧Rel c1 st a w σ φ
 | e=>RelE c e.e st a w σ φ
def OkX(P : Program)(c : Ctx)(code : Code)(st : St)(e : XE)(st' : St) : Prop :=
 ∀ (a : Act) (w : World) (σ : Sig) (φ : Pl),Rel c st a w σ φ→code.wpIn (fnc c) 0 P (fun x a' w'=>x = e.e∧∃ σ' φ',Ez c e st' a' w' σ' φ') a w
def vn(e : XE)(st' : St) : Exit→St→Prop:=fun x s=>x = e.e∧s = st'
theorem OkX.of{code : Code}{st st' : St}{e : XE}(he : e≠.mk)(h : OkC P c code st (vn e st')) : OkX P c code st e st':=by
 intro a w σ φ hr
 refine wpIn_mono (h a w σ φ hr) ?_
 rintro x a' w' ⟨s,σ',φ',⟨rfl,rfl⟩,h2⟩
 refine ⟨rfl,σ',φ',?_⟩
 cases e <;> first | exact absurd rfl he | exact h2
theorem OkX.okC{code : Code}{st st' : St}{e : XE}(he : e≠.mk)(h : OkX P c code st e st') : OkC P c code st (vn e st'):=by
 intro a w σ φ hr
 refine wpIn_mono (h a w σ φ hr) ?_
 rintro x a' w' ⟨rfl,σ',φ',h2⟩
 refine ⟨st',σ',φ',⟨rfl,rfl⟩,?_⟩
 cases e <;> first | exact absurd rfl he | exact h2
theorem qP{V : Env}{mf : FuncId→Bool}{rg : List Nat}{orc : Orc}{n : Nat} : ∀ (z : Code) {st s : St},bE V mf rg orc n false false z st≠some (.mk,s):=by
 intro z
 induction z with
 | region id ops d =>
   intro st s h
   cases d <;> simp only [bE] at h <;> split at h <;> simp at h
 | seq x y ihx ihy =>
   intro st s h
   simp only [bE] at h
   split at h
   ·exact ihy h
   ·rename_i h1; exact ihx h1
   ·rename_i h1 h2; exact h2 _ h
 | cond o x y ihx ihy =>
   intro st s h
   simp only [bE] at h
   split at h
   ·exact ihx h
   ·exact ihy h
   ·simp at h
 | block id x ih =>
   intro st s h
   simp only [bE] at h
   split at h
   ·rename_i i st' h1
    cases hb : Nat.beq i id <;> simp [hb] at h
   ·exact ih h
 | loop x ih =>
   intro st s h
   simp only [bE] at h
   have key : ∀ (m : Nat) (st : St),iq (fun s=>bE V mf rg orc n false false x s) m st≠some (.mk,s):=by
    intro m
    induction m with
    | zero=>intro st h; simp [iq] at h
    | succ m ihm =>
      intro st h
      simp only [iq] at h
      split at h
      ·exact ihm _ h
      ·simp at h
      ·rename_i h1 h2; exact h2 _ h
   exact key _ _ h
 | _=>intro st s h; simp [bE] at h
theorem Aw{V : Env}(hV : EnvOk P V){mf : FuncId→Bool}{rg : List Nat}{orc : Orc}(hO : OrcOk P orc)(hm : P.follows .mixedOrders = true) : ∀ (code : Code) (rf yf : Bool) (c : Ctx) (st : St) (e : XE) (st' : St),(yf = true→c.rd = none)→(rf = true→c.rd = none∧c.mks = [])→bE V mf rg orc c.n rf yf code st = some (e,st')→OkX P c code st e st':=by
 intro code
 induction code with
 | skip =>
   intro rf yf c st e st' hy hr h
   simp only [bE,Option.some.injEq,Prod.mk.injEq] at h
   obtain ⟨rfl,rfl⟩:=h
   exact .of (by simp) (xa ⟨rfl,rfl⟩)
 | region id ops d =>
   intro rf yf c st e st' hy hr h
   cases d with
   | true =>
     simp only [bE] at h
     split at h <;> simp at h
     rename_i s hs
     obtain ⟨rfl,rfl⟩:=h
     have h1 : OkC P c (.region id ops true) st (fun x s'=>x = .normal∧(⟨lU s'.fr,s'.sto⟩ : St) = s) :=
      p9 hm (by
       have:=pO (c:=c) hV hO hy hs
       simpa using this)
     refine .of (by simp) ?_
     intro a w σ φ hr
     refine wpIn_mono (h1 a w σ φ hr) ?_
     rintro e a' w' ⟨s',σ',φ',⟨rfl,rfl⟩,h2⟩
     exact ⟨_,σ',φ',⟨rfl,rfl⟩,.inl ((h2.rel (by simp)).cong (fun _=>oX) fun _=>rfl)⟩
   | false =>
     simp only [bE] at h
     split at h <;> simp at h
     rename_i s hs
     obtain ⟨rfl,rfl⟩:=h
     exact .of (by simp) (sL (yO (rJ hV hO hy hs) fun s hs=>⟨rfl,hs⟩))
 | rangeFunc g ps assign body =>
   intro rf yf c st e st' hy hr h
   simp only [bE] at h
   cases rf with
   | false=>simp at h
   | true =>
     obtain ⟨hr1,hr2⟩:=hr rfl
     simp only [cond_true] at h
     intro a w σ φ hrel
     split at h <;> simp at h
     ·rename_i s1 hx
      obtain ⟨rfl,rfl⟩:=h
      refine wpIn_mono (sN hO hr1 hr2 hx a w σ φ hrel) ?_
      rintro x a' w' (⟨_,rfl,c1,σ',φ',h1,h2⟩ | ⟨h,_⟩)
      ·exact ⟨rfl,σ',φ',c1,h1,h2⟩
      ·cases h
     ·rename_i cd s1 hx
      obtain ⟨rfl,rfl⟩:=h
      refine wpIn_mono (sN hO hr1 hr2 hx a w σ φ hrel) ?_
      rintro x a' w' (⟨h,_⟩ | ⟨_,rfl,σ',φ',h2⟩)
      ·cases h
      ·exact ⟨rfl,σ',φ',h2⟩
 | seq x y ihx ihy =>
   intro rf yf c st e st' hy hr h
   simp only [bE] at h
   intro a w σ φ hrel
   cases hx : bE V mf rg orc c.n rf yf x st with
   | none=>simp [hx] at h
   | some r =>
     obtain ⟨e1,s1⟩:=r
     refine wpIn_seq (wpIn_mono (ihx _ _ _ _ _ _ hy hr hx a w σ φ hrel) ?_)
     rintro ex a1 w1 ⟨rfl,σ1,φ1,h1⟩
     cases e1 with
     | norm =>
       simp only [hx] at h
       exact ihy _ _ _ _ _ _ hy hr h a1 w1 σ1 φ1 (RelE.rel h1 (by simp [XE.e]))
     | ex i=>simp only [hx,Option.some.injEq,Prod.mk.injEq] at h; obtain ⟨rfl,rfl⟩:=h; exact ⟨rfl,σ1,φ1,h1⟩
     | ret=>simp only [hx,Option.some.injEq,Prod.mk.injEq] at h; obtain ⟨rfl,rfl⟩:=h; exact ⟨rfl,σ1,φ1,h1⟩
     | mk =>
       simp only [hx] at h
       obtain ⟨c1,⟨g1,g2,g3,g4⟩,h2⟩:=h1
       have hrun : ∀ {e2 : XE} {s2 : St},bE V mf rg orc c.n false yf y s1 = some (e2,s2)→y.wpIn (fnc c) 0 P (fun x a' w'=>x = e2.e∧∃ σ' φ',Ez c1 e2 s2 a' w' σ' φ') a1 w1:=by
        intro e2 s2 hq
        rw [← g1] at hq
        have h3:=ihy false yf c1 s1 e2 s2 (fun _=>g2) (fun h=>by cases h) hq a1 w1 σ1 φ1 h2
        cases yf with
        | true =>
          have hf : fnc c1 = fnc c:=by rw [kl g2,kl (hy rfl)]
          rwa [hf] at h3
        | false =>
          cases rf with
          | true =>
            have hf : fnc c1 = fnc c:=by rw [kl g2,kl (hr rfl).1]
            rwa [hf] at h3
          | false =>
            exfalso
            have none : ∀ (z : Code) {st : St} {s : St},bE V mf rg orc c.n false false z st≠some (.mk,s):=qP
            exact none x hx
       split at h <;> (try (simp at h; done))
       ·rename_i s2 hs2
        simp only [Option.some.injEq,Prod.mk.injEq] at h
        obtain ⟨rfl,rfl⟩:=h
        refine wpIn_mono (hrun hs2) ?_
        rintro x a' w' ⟨rfl,σ',φ',h4⟩
        exact ⟨rfl,σ',φ',c1,⟨g1,g2,g3,g4⟩,RelE.rel h4 (by simp [XE.e])⟩
       ·rename_i s2 hs2
        simp only [Option.some.injEq,Prod.mk.injEq] at h
        obtain ⟨rfl,rfl⟩:=h
        refine wpIn_mono (hrun hs2) ?_
        rintro x a' w' ⟨rfl,σ',φ',h4⟩
        refine ⟨rfl,σ',φ',?_⟩
        rcases (show RelE c1 .ret _ a' w' σ' φ' from h4) with h5 | ⟨_,r,_,_,_,h5⟩
        ·exact g4 _ _ _ _ _ h5
        ·exact absurd h5.defers.symm g3
 | cond o x y ihx ihy =>
   intro rf yf c st e st' hy hr h
   simp only [bE] at h
   intro a w σ φ hrel
   split at h
   ·rename_i hb
    have h1:=RepC.d_inv (aw hrel hb)
    generalize hu : a.eval o = u at h1
    cases h1
    exact wpIn_cond_true hu (ihx _ _ _ _ _ _ hy hr h a w σ φ hrel)
   ·rename_i hb
    have h1:=RepC.d_inv (aw hrel hb)
    generalize hu : a.eval o = u at h1
    cases h1
    exact wpIn_cond_false hu (ihy _ _ _ _ _ _ hy hr h a w σ φ hrel)
   ·simp at h
 | block id x ih =>
   intro rf yf c st e st' hy hr h
   simp only [bE] at h
   intro a w σ φ hrel
   cases hx : bE V mf rg orc c.n rf yf x st with
   | none=>simp [hx] at h
   | some r =>
     obtain ⟨e1,s1⟩:=r
     refine wpIn_block (wpIn_mono (ih _ _ _ _ _ _ hy hr hx a w σ φ hrel) ?_)
     rintro ex a1 w1 ⟨rfl,σ1,φ1,h1⟩
     cases e1 with
     | norm=>simp only [hx,Option.some.injEq,Prod.mk.injEq] at h; obtain ⟨rfl,rfl⟩:=h; exact ⟨rfl,σ1,φ1,h1⟩
     | ret=>simp only [hx,Option.some.injEq,Prod.mk.injEq] at h; obtain ⟨rfl,rfl⟩:=h; exact ⟨rfl,σ1,φ1,h1⟩
     | mk=>simp only [hx,Option.some.injEq,Prod.mk.injEq] at h; obtain ⟨rfl,rfl⟩:=h; exact ⟨rfl,σ1,φ1,h1⟩
     | ex i =>
       simp only [hx] at h
       cases hb : Nat.beq i id with
       | true =>
         have hi:=Nat.eq_of_beq_eq_true hb
         simp only [hb,cond_true,Option.some.injEq,Prod.mk.injEq] at h
         obtain ⟨rfl,rfl⟩:=h
         simp only [XE.e,Exit.inBlock]
         rw [if_pos hi]
         exact ⟨trivial,σ1,φ1,.inl (RelE.rel h1 (by simp [XE.e]))⟩
       | false =>
         simp only [hb,cond_false,Option.some.injEq,Prod.mk.injEq] at h
         obtain ⟨rfl,rfl⟩:=h
         have hi : i≠id:=by rintro rfl; rw [Nat.beq_refl] at hb; cases hb
         simp only [XE.e,Exit.inBlock]
         rw [if_neg hi]
         exact ⟨trivial,σ1,φ1,h1⟩
 | loop x ih =>
   intro rf yf c st e st' hy hr h
   simp only [bE] at h
   have hne : ∀ {n : Nat} {s : St},iq (fun s=>bE V mf rg orc c.n rf yf x s) n s = some (e,st')→e≠.mk:=by
    intro n
    induction n with
    | zero=>intro s h; simp [iq] at h
    | succ n ihn =>
      intro s h
      simp only [iq] at h
      split at h
      ·exact ihn h
      ·simp at h
      ·rename_i h1 h2
       rintro rfl
       exact h2 _ h
   refine .of (hne h) (nY (fun n s=>iq (fun s=>bE V mf rg orc c.n rf yf x s) n s = some (e,st')) 100000 h fun n s hs=>?_)
   cases n with
   | zero=>simp [iq] at hs
   | succ n =>
     simp only [iq] at hs
     cases hx : bE V mf rg orc c.n rf yf x s with
     | none=>simp [hx] at hs
     | some r =>
       obtain ⟨e1,s1⟩:=r
       by_cases hmk : e1 = .mk
       ·subst hmk; simp [hx] at hs
       refine iJ ((ih _ _ _ _ _ _ hy hr hx).okC hmk) ?_
       rintro ex s' ⟨rfl,rfl⟩
       cases e1 with
       | norm=>simp only [hx] at hs; exact ⟨n,_,by omega,hs,Imp.refl _⟩
       | ex i=>simp only [hx,Option.some.injEq,Prod.mk.injEq] at hs; obtain ⟨rfl,rfl⟩:=hs; exact ⟨rfl,rfl⟩
       | ret=>simp only [hx,Option.some.injEq,Prod.mk.injEq] at hs; obtain ⟨rfl,rfl⟩:=hs; exact ⟨rfl,rfl⟩
       | mk=>exact absurd rfl hmk
 | exit id =>
   intro rf yf c st e st' hy hr h
   simp only [bE,Option.some.injEq,Prod.mk.injEq] at h
   obtain ⟨rfl,rfl⟩:=h
   exact .of (by simp) (xb ⟨rfl,rfl⟩)
 | ret =>
   intro rf yf c st e st' hy hr h
   simp only [bE,Option.some.injEq,Prod.mk.injEq] at h
   obtain ⟨rfl,rfl⟩:=h
   exact .of (by simp) (bV ⟨rfl,rfl⟩)
 | _=>intros; simp_all [bE]
theorem pP{V : Env}(hV : EnvOk P V){mf : FuncId→Bool}{rg : List Nat}{orc : Orc}(hO : OrcOk P orc)(hm : P.follows .mixedOrders = true)(code : Code)(rf yf : Bool)(c : Ctx)(st : St)(e : XE)(st' : St)(hy : yf = true→c.rd = none)(hr : rf = true→c.rd = none∧c.mks = [])(h : bE V mf rg orc c.n rf yf code st = some (e,st'))(he : e≠.mk) : OkC P c code st (vn e st') :=
 (Aw hV hO hm code rf yf c st e st' hy hr h).okC he
theorem Ax{code : Code}{st s' ss : St}{e : XE}(h : OkC P c code st (vn e s'))(hi : ∀ {a : Act} {w : World} {σ : Sig} {φ : Pl} {mk : List Deferred},Rel { c with mks:=mk } s' a w σ φ→∃ σ2 φ2,Rel { c with mks:=mk } ss a w σ2 φ2) : OkC P c code st (vn e ss):=by
 intro a w σ φ hr
 refine wpIn_mono (h a w σ φ hr) ?_
 rintro ex a' w' ⟨s'',σ',φ',⟨rfl,rfl⟩,hE⟩
 rcases hE with hr' | ⟨he',r,hd,hh,hge,hr'⟩
 ·obtain ⟨σ2,φ2,h4⟩:=hi (mk:=c.mks) hr'
  exact ⟨ss,σ2,φ2,⟨rfl,rfl⟩,.inl h4⟩
 ·obtain ⟨σ2,φ2,h4⟩:=hi (mk:=c.mks) hr'
  exact ⟨ss,σ2,φ2,⟨rfl,rfl⟩,.inr ⟨he',r,hd,hh,hge,h4⟩⟩
def mL : List ResultVar→List Nat
 | []=>[]
 | .tmp t::r=>t::mL r
 | .cell a _::r=>a::mL r
def gj(l : List Nat) : List (Nat×AV)→List (Nat×AV)
 | []=>[]
 | (s,v)::r=>bif ck s l then (s,v)::gj l r else gj l r
theorem lx{l : List Nat} : ∀ {fr : List (Nat×AV)} {s : Nat} {v : AV},look (gj l fr) s = some v→look fr s = some v
 | [],_,_,h=>by simp [gj,look] at h
 | (t,x)::r,s,v,h=>by
   simp only [gj] at h
   cases hm : ck t l with
   | true =>
     simp only [hm,cond_true] at h
     rcases ae h with ⟨rfl,rfl⟩ | ⟨hne,h⟩
     ·exact ay
     ·rw [aG hne]; exact lx h
   | false =>
     simp only [hm,cond_false] at h
     by_cases e : s = t
     ·subst e
      exfalso
      have key : ∀ {fr : List (Nat×AV)} {s : Nat} {v : AV},look (gj l fr) s = some v→ck s l = true:=by
       intro fr
       induction fr with
       | nil=>intro s v h; simp [gj,look] at h
       | cons p r ih =>
         intro s v h
         obtain ⟨t,x⟩:=p
         simp only [gj] at h
         cases hm : ck t l with
         | true =>
           simp only [hm,cond_true] at h
           rcases ae h with ⟨rfl,rfl⟩ | ⟨_,h⟩
           ·exact hm
           ·exact ih h
         | false=>simp only [hm,cond_false] at h; exact ih h
      rw [key h] at hm; cases hm
     ·rw [aG e]; exact lx h
def yP(T : Tab)(ow : Bool)(rs : List ResultVar)(cs : Sto)(st : St) : Option St :=
 match ll T st rs with
 | some l=>(match sealL st (bif ow then [] else cM st.sto (ox (nV l)) []) with
   | some ss=>tt (gj (mL rs) ss.fr) ss.sto (bq cs) (ox (fK ss.sto 1000 (tu ss.sto (bq cs) ++ gM (gj (mL rs) ss.fr)) []))
   | none=>none)
 | none=>none
theorem BU{T : Tab}{ow : Bool}{rs : List ResultVar}{cs : Sto}{st st' : St}{a : Act}(h : yP T ow rs cs st = some st')(hr : Rel c st a w σ φ) : ∃ σ2 φ2,Rel c st' a w σ2 φ2:=by
 unfold yP at h
 split at h <;> (try (simp at h; done))
 split at h <;> (try (simp at h; done))
 rename_i ss hss
 obtain ⟨σs,_,h1,_⟩:=Rel.sealL hss hr
 obtain ⟨φ2,h2⟩:=h1.endTo (fun s v hv=>lx hv) h
 exact ⟨σs,φ2,h2⟩
def E7(cs s : Sto)(more : List Nat) : List Nat:=bq cs ++ ox (fK s 1000 (tu s (bq cs) ++ more) [])
def BV(V : Env)(mf : FuncId→Bool)(rg : List Nat)(orc : Orc)(ow : Bool)(fn : Func)(code : Code)(args : List AV)(cs : Sto) : Option (AV×Sto) :=
 bif Nat.ble args.length fn.ntmps then (match bE V mf rg orc fn.ntmps true true code ⟨jo 0 args,cs⟩ with
  | some (.ex _,_)=>none
  | some (.mk,_)=>none
  | some (_,st)=>(match yP V.T ow fn.results.toList cs st with
    | some ss=>(match ll V.T ss fn.results.toList with
      | some l'=>(match oh l' with | some rav=>some (rav,ep ss.sto (E7 cs ss.sto (bJ rav))) | none=>none)
      | none=>none)
    | none=>none)
  | none=>none) else none
theorem Du{V : Env}(hV : EnvOk P V){mf : FuncId→Bool}{rg : List Nat}{ow : Bool}{orc : Orc}(hO : OrcOk P orc)(hm : P.follows .mixedOrders = true){f : FuncId}{fn : Func}{code : Code}{args : List AV}{cs rs : Sto}{rav : AV}(hf : P.funcs[f]? = some fn)(hb : fn.body = some code)
  (hname : (fn.name == "runtime.NumGoroutine") = false) (h : BV V mf rg orc ow fn code args cs = some (rav, rs)) : CallA P f args cs rav rs := by
 unfold BV at h
 cases hn : Nat.ble args.length fn.ntmps <;> simp only [hn,cond_true,cond_false,reduceCtorEq] at h
 refine oT hV.T hf hb hname hn fun w0 σ0 φ0 M=>?_
 split at h
 ·simp at h
 ·simp at h
 ·rename_i e st hne hne2 hx
  split at h <;> (try (simp at h; done))
  rename_i ss hss
  split at h <;> (try (simp at h; done))
  rename_i l' hl'
  split at h <;> simp at h
  rename_i rav' hrav
  obtain ⟨rfl,rfl⟩:=h
  have hok:=pP hV hO hm code true true ⟨w0,σ0,φ0,M,fn.ntmps,none,[]⟩ _ _ _ (fun _=>rfl) (fun _=>⟨rfl,rfl⟩) hx (by rintro rfl; exact hne2 rfl)
  refine iJ (Ax hok fun hr=>BU hss hr) ?_
  rintro ex s ⟨rfl,rfl⟩
  refine ⟨?_,l',hl',hrav,keepK_sub⟩
  cases e with
  | norm=>exact .inr rfl
  | ret=>exact .inl rfl
  | ex i=>exact absurd rfl (hne i)
  | mk=>exact absurd rfl hne2
 ·simp at h
def BW(cs : Sto)(st : St) : Option St:=tt [] st.sto (bq cs) (ox (fK st.sto 1000 (tu st.sto (bq cs)) []))
def vo(V : Env)(mf : FuncId→Bool)(rg : List Nat)(orc : Orc)(j : Nat)(args : List AV)(cs : Sto) : Option (AV×Sto) :=
 match look cs j with
 | some (.loop li fr .ready none)=>bif (Nat.ble 1000000 j && Nat.blt j 2000000) && (lL li.n li.params.toList && Nat.beq li.params.toList.length args.length) then
   (match bE V mf rg orc li.n false false li.assign ⟨iI li.params.toList args fr,cs⟩ with
   | some (.norm,st1)=>(match look st1.sto j with
     | some (.loop li1 fr1 .ready none)=>(match bE V mf rg orc li.n false false li.body ⟨st1.fr,cg j (.loop li1 fr1 .busy none) st1.sto⟩ with
       | some (e,st2)=>(match BW cs st2 with
         | some ss=>(match look ss.sto j with
           | some (.loop li2 fr2 .busy _)=>(match e with
             | .norm=>some (.one (.d (.bool true)),ep (cg j (.loop li2 fr2 .ready none) ss.sto) (bq ss.sto))
             | .ret=>some (.one (.d (.bool false)),ep (cg j (.loop li2 fr2 .done (some .ret)) ss.sto) (bq ss.sto))
             | .ex i=>some (.one (.d (.bool false)),ep (cg j (.loop li2 fr2 .done (some (.exit i))) ss.sto) (bq ss.sto))
             | .mk=>none)
           | _=>none)
         | none=>none)
       | none=>none)
     | _=>none)
   | _=>none) else none
 | _=>none
theorem Ay{V : Env}(hV : EnvOk P V){mf : FuncId→Bool}{rg : List Nat}{orc : Orc}(hO : OrcOk P orc)(hm : P.follows .mixedOrders = true){j : Nat}{args : List AV}{cs rs : Sto}{rav : AV}(h : vo V mf rg orc j args cs = some (rav,rs)) : YieldA P j args cs rav rs:=by
 unfold vo at h
 split at h <;> (try (simp at h; done))
 rename_i li fr hl
 cases hb : (Nat.ble 1000000 j && Nat.blt j 2000000) && (lL li.n li.params.toList && Nat.beq li.params.toList.length args.length) <;> simp only [hb,cond_true,cond_false,reduceCtorEq] at h
 rw [Bool.and_eq_true] at hb
 split at h <;> (try (simp at h; done))
 rename_i st1 hx1
 split at h <;> (try (simp at h; done))
 rename_i li1 fr1 hl1
 split at h <;> (try (simp at h; done))
 rename_i e st2 hx2
 split at h <;> (try (simp at h; done))
 rename_i ss hss
 split at h <;> (try (simp at h; done))
 rename_i li2 fr2 p2 hl2
 refine tS (by have:=hb.1; simp only [Bool.and_eq_true,Nat.ble_eq,Nat.blt_eq] at this; exact this) hl hb.2 fun w0 σ0 φ0 M B=>?_
 have h1:=pP hV hO hm li.assign false false ⟨w0,σ0,φ0,M,li.n,some B,[]⟩ _ _ _ (fun h=>by cases h) (fun h=>by cases h) hx1 (by simp)
 have h2:=pP hV hO hm li.body false false ⟨w0,σ0,φ0,M,li.n,some B,[]⟩ _ _ _ (fun h=>by cases h) (fun h=>by cases h) hx2 (by rintro rfl; exact qP _ hx2)
 have h3:=Ax (ss:=ss) h2 (fun {a w σ φ mk} hr=>by
  obtain ⟨φ2,h⟩:=hr.endTo (fr2:=[]) (fun s v hv=>by simp [look] at hv) hss
  exact ⟨σ,φ2,h⟩)
 refine iJ h1 ?_
 rintro ex s ⟨rfl,rfl⟩
 refine ⟨rfl,li1,fr1,hl1,iJ h3 ?_⟩
 rintro ex s ⟨rfl,rfl⟩
 refine ⟨li2,fr2,p2,hl2,?_⟩
 cases e with
 | norm =>
   simp only [Option.some.injEq,Prod.mk.injEq] at h
   obtain ⟨rfl,rfl⟩:=h
   exact .inl ⟨rfl,rfl,keepK_sub⟩
 | ret =>
   simp only [Option.some.injEq,Prod.mk.injEq] at h
   obtain ⟨rfl,rfl⟩:=h
   exact .inr ⟨_,rfl,rfl,keepK_sub⟩
 | ex i =>
   simp only [Option.some.injEq,Prod.mk.injEq] at h
   obtain ⟨rfl,rfl⟩:=h
   exact .inr ⟨_,rfl,rfl,keepK_sub⟩
 | mk=>simp at h
structure Cfg where
 mf : List Nat
 ow : List (Nat×List Nat)
def Cfg.rg(cf : Cfg)(f : Nat) : List Nat:=match look cf.ow f with | some l=>l | none=>[]
def rF(P : Program)(V : Env)(cf : Cfg)(sp : Orc) : Nat→Orc
 | 0=>sp
 | n + 1=>fun f ow avs cs=>match sp f ow avs cs with
   | some r=>some r
   | none=>match f with
     | some f=>(match P.funcs[f]? with
       | some fn=>match fn.body with
         | some code=>BV V (fun f=>ck f cf.mf) (cf.rg f) (rF P V cf sp n) ow fn code avs cs
         | none=>none
       | none=>none)
     | none=>(match avs with
       | .one (.yl j)::args=>vo V (fun f=>ck f cf.mf) [] (rF P V cf sp n) j args cs
       | _=>none)
theorem rG {P : Program} {V : Env} (hV : EnvOk P V) (hm : P.follows .mixedOrders = true) (hname : ∀ (f : FuncId) (fn : Func), P.funcs[f]? = some fn → (fn.name == "runtime.NumGoroutine") = false) {cf : Cfg} {sp : Orc} (hs : OrcOk P sp) : ∀ n, OrcOk P (rF P V cf sp n)
 | 0=>hs
 | n + 1=>by
   refine ⟨fun f b avs cs r s h=>?_,fun j b avs cs r s h=>?_⟩
   ·simp only [rF] at h
    split at h
    ·rename_i r' hr
     simp at h; subst h
     exact hs.call f b avs cs _ _ hr
    split at h <;> (try (simp at h; done))
    rename_i fn hf
    split at h <;> (try (simp at h; done))
    rename_i code hc
    exact Du hV (rG hV hm hname hs n) hm hf hc (hname f fn hf) h
   ·simp only [rF] at h
    split at h
    ·rename_i r' hr
     simp at h; subst h
     exact hs.yld j b avs cs _ _ hr
    exact Ay hV (rG hV hm hname hs n) hm h
end Go.Abs
namespace Go.Abs
open Go
def lEq{α : Type}(eq : α→α→Bool) : List α→List α→Bool
 | [],[]=>true
 | x::xs,y::ys=>eq x y && lEq eq xs ys
 | _,_=>false
theorem dv{α : Type}{eq : α→α→Bool}(h : ∀ a b,eq a b = true→a = b) : ∀ {x y : List α},lEq eq x y = true→x = y
 | [],[],_=>rfl
 | a::x,b::y,he=>by
   simp only [lEq,Bool.and_eq_true] at he
   rw [h _ _ he.1,dv h he.2]
 | [],_::_,he=>by simp [lEq] at he
 | _::_,[],he=>by simp [lEq] at he
def iEq : Int→Int→Bool
 | .ofNat a,.ofNat b=>Nat.beq a b
 | .negSucc a,.negSucc b=>Nat.beq a b
 | _,_=>false
theorem Er{a b : Int}(h : iEq a b = true) : a = b:=by
 cases a <;> cases b <;> simp only [iEq,reduceCtorEq] at h <;> rw [Nat.eq_of_beq_eq_true h]
def Es(a b : UInt8) : Bool:=Nat.beq a.toNat b.toNat
theorem Dq(a b : UInt8)(h : Es a b = true) : a = b:=UInt8.toNat.inj (Nat.eq_of_beq_eq_true h)
def dEq : Nat→D→D→Bool
 | 0,_,_=>false
 | _ + 1,.int k x,.int k' y=>kEq k k' && iEq x y
 | _ + 1,.bool x,.bool y=>bEq x y
 | _ + 1,.str x,.str y=>lEq Es x y
 | _ + 1,.nil,.nil=>true
 | n + 1,.sl k b xs,.sl k' b' ys=>Nat.beq k k' && (Nat.beq b b' && lEq (lEq (dEq n)) xs ys)
 | n + 1,.ptr xs,.ptr ys=>lEq (dEq n) xs ys
 | n + 1,.fn f xs,.fn g ys=>Nat.beq f g && lEq (dEq n) xs ys
 | _ + 1,_,_=>false
theorem nO : ∀ n a b,dEq n a b = true→a = b
 | 0,_,_,h=>by simp [dEq] at h
 | n + 1,a,b,h=>by
   have ih:=nO n
   cases a <;> cases b <;> simp only [dEq,Bool.and_eq_true,reduceCtorEq] at h
   ·rw [eE h.1,Er h.2]
   ·rw [ft h]
   ·rw [dv Dq h]
   ·rfl
   ·rw [Nat.eq_of_beq_eq_true h.1,Nat.eq_of_beq_eq_true h.2.1,dv (fun _ _=>dv ih) h.2.2]
   ·rw [dv ih h]
   ·rw [Nat.eq_of_beq_eq_true (n:=_) (m:=_) h.1,dv ih h.2]
def cEq : AC→AC→Bool
 | .d x,.d y=>dEq 20 x y
 | .own a b,.own a' b'=>Nat.beq a a' && Nat.beq b b'
 | .sub a b c,.sub a' b' c'=>Nat.beq a a' && (Nat.beq b b' && Nat.beq c c')
 | .ref a b,.ref a' b'=>Nat.beq a a' && Nat.beq b b'
 | .rref a b c,.rref a' b' c'=>Nat.beq a a' && (Nat.beq b b' && Nat.beq c c')
 | .yl a,.yl b=>Nat.beq a b
 | .mapr a,.mapr b=>Nat.beq a b
 | .bsl a b c,.bsl a' b' c'=>Nat.beq a a' && (Nat.beq b b' && Nat.beq c c')
 | .junk,.junk=>true
 | _,_=>false
theorem qK(a b : AC)(h : cEq a b = true) : a = b:=by
 cases a <;> cases b <;> simp only [cEq,Bool.and_eq_true,reduceCtorEq] at h
 ·rw [nO _ _ _ h]
 ·rw [Nat.eq_of_beq_eq_true h.1,Nat.eq_of_beq_eq_true h.2]
 ·rw [Nat.eq_of_beq_eq_true h.1,Nat.eq_of_beq_eq_true h.2.1,Nat.eq_of_beq_eq_true h.2.2]
 ·rw [Nat.eq_of_beq_eq_true h.1,Nat.eq_of_beq_eq_true h.2]
 ·rw [Nat.eq_of_beq_eq_true h.1,Nat.eq_of_beq_eq_true h.2.1,Nat.eq_of_beq_eq_true h.2.2]
 ·rw [Nat.eq_of_beq_eq_true h]
 ·rw [Nat.eq_of_beq_eq_true h]
 ·rw [Nat.eq_of_beq_eq_true h.1,Nat.eq_of_beq_eq_true h.2.1,Nat.eq_of_beq_eq_true h.2.2]
 ·rfl
def tEq(a b : Bool×List AC) : Bool:=bEq a.1 b.1 && lEq cEq a.2 b.2
theorem Et(a b : Bool×List AC)(h : tEq a b = true) : a = b:=by
 obtain ⟨a1,a2⟩:=a; obtain ⟨b1,b2⟩:=b
 simp only [tEq,Bool.and_eq_true] at h
 rw [ft h.1,dv qK h.2]
def vEq : AV→AV→Bool
 | .one a,.one b=>cEq a b
 | .agg a,.agg b=>lEq cEq a b
 | .tup a,.tup b=>lEq tEq a b
 | .any,.any=>true
 | _,_=>false
theorem Ah(a b : AV)(h : vEq a b = true) : a = b:=by
 cases a <;> cases b <;> simp only [vEq,reduceCtorEq] at h
 ·rw [qK _ _ h]
 ·rw [dv qK h]
 ·rw [dv Et h]
 ·rfl
def BM(a b : List D×List D) : Bool:=lEq (dEq 20) a.1 b.1 && lEq (dEq 20) a.2 b.2
theorem Dr(a b : List D×List D)(h : BM a b = true) : a = b:=by
 obtain ⟨a1,a2⟩:=a; obtain ⟨b1,b2⟩:=b
 simp only [BM,Bool.and_eq_true] at h
 rw [dv (nO _) h.1,dv (nO _) h.2]
def oEq : AObj→AObj→Bool
 | .box a,.box b=>lEq cEq a b
 | .row k b xs,.row k' b' ys=>Nat.beq k k' && (Nat.beq b b' && lEq (lEq (dEq 20)) xs ys)
 | .map g v xs,.map g' v' ys=>bEq g g' && (bEq v v' && lEq BM xs ys)
 | _,_=>false
theorem Eu(a b : AObj)(h : oEq a b = true) : a = b:=by
 cases a <;> cases b <;> simp only [oEq,Bool.and_eq_true,reduceCtorEq] at h
 ·rw [dv qK h]
 ·rw [Nat.eq_of_beq_eq_true h.1,Nat.eq_of_beq_eq_true h.2.1,dv (fun _ _=>dv (nO _)) h.2.2]
 ·rw [ft h.1,ft h.2.1,dv Dr h.2.2]
def pEq(a b : Nat×AObj) : Bool:=Nat.beq a.1 b.1 && oEq a.2 b.2
theorem Ai(a b : Nat×AObj)(h : pEq a b = true) : a = b:=by
 obtain ⟨a1,a2⟩:=a; obtain ⟨b1,b2⟩:=b
 simp only [pEq,Bool.and_eq_true] at h
 rw [Nat.eq_of_beq_eq_true (n:=_) (m:=_) h.1,Eu _ _ h.2]
structure Ent where
 f : FuncId
 ow : Bool
 avs : List AV
 cs : Sto
 r : AV
 s : Sto
def bS(P : Program)(e : Ent) : Prop:=CallA P e.f e.avs e.cs e.r e.s
def u7(e : Ent)(f : FuncId)(ow : Bool)(avs : List AV)(cs : Sto) : Bool :=
 Nat.beq e.f f && (bEq e.ow ow && (lEq vEq e.avs avs && lEq pEq e.cs cs))
def spT : List Ent→Orc
 | [],_,_,_,_=>none
 | _,none,_,_,_=>none
 | e::l,some f,ow,avs,cs=>bif u7 e f ow avs cs then some (e.r,e.s) else spT l (some f) ow avs cs
def yJ(P : Program) : List Ent→Prop
 | []=>True
 | e::l=>bS P e∧yJ P l
theorem Aj{P : Program} : ∀ {l : List Ent},yJ P l→OrcOk P (spT l)
 | [],_=>⟨fun f b avs cs r s h=>by simp [spT] at h,fun j b avs cs r s h=>by simp [spT] at h⟩
 | e::l,hl=>by
   refine ⟨fun f b avs cs r s h=>?_,fun j b avs cs r s h=>by simp [spT] at h⟩
   simp only [spT] at h
   cases hb : u7 e f b avs cs with
   | false=>simp only [hb,cond_false] at h; exact (Aj hl.2).call f b avs cs r s h
   | true =>
     simp only [hb,cond_true,Option.some.injEq,Prod.mk.injEq] at h
     obtain ⟨rfl,rfl⟩:=h
     simp only [u7,Bool.and_eq_true] at hb
     have h1:=Nat.eq_of_beq_eq_true (n:=_) (m:=_) hb.1
     have h2:=dv Ah hb.2.2.1
     have h3:=dv Ai hb.2.2.2
     subst h1; subst h2; subst h3
     exact hl.1
def bo(P : Program)(V : Env)(cf : Cfg)(l : List Ent)(n : Nat)(e : Ent) : Bool :=
 match rF P V cf (spT l) n (some e.f) e.ow e.avs e.cs with
 | some (r,s)=>vEq r e.r && lEq pEq s e.s
 | none=>false
structure ProgOk (P : Program) (V : Env) : Prop where
 env : EnvOk P V
 mo : P.follows .mixedOrders = true
 name : ∀ (f : FuncId) (fn : Func), P.funcs[f]? = some fn → (fn.name == "runtime.NumGoroutine") = false
theorem b5{P : Program}{V : Env}(hP : ProgOk P V){cf : Cfg}{l : List Ent}(hl : yJ P l){n : Nat}{e : Ent}(h : bo P V cf l n e = true) : bS P e:=by
 unfold bo at h
 split at h <;> (try (simp at h; done))
 rename_i r s hr
 simp only [Bool.and_eq_true] at h
 have h1:=Ah _ _ h.1
 have h2:=dv Ai h.2
 subst h1; subst h2
 exact (rG hP.env hP.mo hP.name (Aj hl) n).call _ _ _ _ _ _ hr
def kkB : List KK→List KK→Bool
 | [],[]=>true
 | .int k::r,.int k'::r'=>kEq k k' && kkB r r'
 | .bool::r,.bool::r'=>kkB r r'
 | .str::r,.str::r'=>kkB r r'
 | _,_=>false
theorem qy : ∀ {a b : List KK},kkB a b = true→a = b
 | [],[],_=>rfl
 | .int k::r,.int k'::r',h=>by
   simp only [kkB,Bool.and_eq_true] at h
   rw [eE h.1,qy h.2]
 | .bool::r,.bool::r',h=>by rw [qy (show kkB r r' = true from h)]
 | .str::r,.str::r',h=>by rw [qy (show kkB r r' = true from h)]
 | [],_::_,h=>by simp [kkB] at h
 | .int _::_,[],h=>by simp [kkB] at h
 | .bool::_,[],h=>by simp [kkB] at h
 | .str::_,[],h=>by simp [kkB] at h
 | .int _::_,.bool::_,h=>by simp [kkB] at h
 | .int _::_,.str::_,h=>by simp [kkB] at h
 | .bool::_,.int _::_,h=>by simp [kkB] at h
 | .bool::_,.str::_,h=>by simp [kkB] at h
 | .str::_,.int _::_,h=>by simp [kkB] at h
 | .str::_,.bool::_,h=>by simp [kkB] at h
def shB(P : Program)(t : TypeId)(ks : List KK) : Bool:=match ei P 6 t with | some l=>kkB l ks | none=>false
theorem zU{P : Program}{t : TypeId}{ks : List KK}(h : shB P t ks = true) : ei P 6 t = some ks:=by
 unfold shB at h
 split at h
 ·rename_i l hl
  rw [hl,qy h]
 ·cases h
def eB(P : Program)(t : TypeId)(ks : List KK) : Bool:=shB P t ks && P.keyTypeAt 6 t && gS P t && !P.eqGuardType P.depth t
def yz(P : Program) : o8→Bool
 | []=>true
 | (t,ks)::r=>eB P t ks && yz P r
theorem tV{P : Program} : ∀ {E : o8},yz P E = true→tH P E
 | [],_=>fun t ks h=>by simp [look] at h
 | (t',ks')::r,h=>by
   simp only [yz,Bool.and_eq_true] at h
   intro t ks hl
   rcases ae hl with ⟨rfl,rfl⟩ | ⟨_,hl⟩
   ·have h1:=h.1
    simp only [eB,Bool.and_eq_true,Bool.not_eq_true'] at h1
    exact ⟨zU h1.1.1.1,h1.1.1.2,h1.1.2,h1.2⟩
   ·exact tV h.2 t ks hl
def uP(P : Program)(t : TypeId) : List KK→Bool
 | [.int k]=>(match P.underlying t with | some (.int k')=>kEq k' k | _=>false)
 | [.bool]=>(match P.underlying t with | some .bool=>true | _=>false)
 | [.str]=>(match P.underlying t with | some .string=>true | _=>false)
 | _=>false
theorem zV{P : Program}{t : TypeId}{ks : List KK}(h : uP P t ks = true) : ∃ k,ks = [k]∧P.underlying t = some (kL k):=by
 unfold uP at h
 split at h
 ·split at h
  ·rename_i k k' hu
   refine ⟨_,rfl,?_⟩
   rw [hu,eE h]; rfl
  ·cases h
 ·split at h
  ·rename_i hu; exact ⟨_,rfl,hu⟩
  ·cases h
 ·split at h
  ·rename_i hu; exact ⟨_,rfl,hu⟩
  ·cases h
 ·cases h
def mB(P : Program)(t : TypeId)(m : MTy) : Bool :=
 (match P.underlying t with | some (.map k e)=>Nat.beq k m.kt && Nat.beq e m.et | _=>false) &&
 (shB P m.kt m.ks && P.keyTypeAt 6 m.kt && bEq (gS P m.kt) m.kg && !P.eqGuardType P.depth m.kt && (m.kg || uP P m.kt m.ks)) &&
 (match P.info? m.et with
  | some i=>(match i.zero with
    | some zv=>kh m.z zv.cells.toList && m.z.all ff && (if m.vg then qz zv else (zv.oneCell && Nat.beq m.z.length 1))
    | none=>false)
  | none=>false)
theorem EV{P : Program}{t : TypeId}{m : MTy}(h : mB P t m = true) : MOk P t m:=by
 unfold mB at h
 simp only [Bool.and_eq_true] at h
 obtain ⟨⟨h1,h2⟩,h3⟩:=h
 refine ⟨?_,?_,?_⟩
 ·split at h1
  ·rename_i k e hu
   simp only [Bool.and_eq_true] at h1
   rw [hu,Nat.eq_of_beq_eq_true h1.1,Nat.eq_of_beq_eq_true h1.2]
  ·cases h1
 ·obtain ⟨⟨⟨⟨a1,a2⟩,a3⟩,a4⟩,a5⟩:=h2
  refine ⟨zU a1,a2,ft a3,by simpa using a4,fun hk=>?_⟩
  rw [hk,Bool.false_or] at a5
  exact zV a5
 ·split at h3
  ·rename_i i hi
   split at h3
   ·rename_i zv hz
    simp only [Bool.and_eq_true] at h3
    obtain ⟨⟨b1,b2⟩,b3⟩:=h3
    refine ⟨i,zv,hi,hz,fun σ=>?_⟩
    have hall : ∀ x∈m.z,ff x = true:=by simpa using b2
    have hcells:=nI b1
    have hrep : All2 (Rep σ) m.z (m.z.map fY):=by
     have : ∀ {l : List D},(∀ x∈l,ff x = true)→All2 (Rep σ) l (l.map fY):=by
      intro l
      induction l with
      | nil=>intro _; trivial
      | cons d l ih=>intro h; exact ⟨kc (h d (by simp)),ih fun x hx=>h x (by simp [hx])⟩
     exact this hall
    cases hg : m.vg with
    | true =>
      rw [hg] at b3
      simp only [if_true] at b3
      cases zv <;> simp [qz] at b3
      rename_i cs
      refine ⟨cs.toList,by simp,?_⟩
      rw [show cs.toList = m.z.map fY from hcells]
      exact hrep
    | false =>
      rw [hg] at b3
      simp only [Bool.false_eq_true,if_false,Bool.and_eq_true] at b3
      have hl:=Nat.eq_of_beq_eq_true b3.2
      have hone : zv.cells.toList = [zv]:=by
       have:=b3.1
       cases zv <;> first | rfl | simp [Value.oneCell] at this
      rw [hone] at hcells
      show All2 (Rep σ) m.z [zv]
      rw [hcells]
      exact hrep
   ·cases h3
  ·cases h3
def yA(P : Program) : xC→Bool
 | []=>true
 | (t,m)::r=>mB P t m && yA P r
theorem tW{P : Program} : ∀ {M : xC},yA P M = true→∀ t m,look M t = some m→MOk P t m
 | [],_=>fun t ks h=>by simp [look] at h
 | (t',ks')::r,h=>by
   simp only [yA,Bool.and_eq_true] at h
   intro t ks hl
   rcases ae hl with ⟨rfl,rfl⟩ | ⟨_,hl⟩
   ·exact EV h.1
   ·exact tW h.2 t ks hl
end Go.Abs
namespace Go.Abs
open Go
variable {P : Program} {T : Tab} {w0 : World} {σ0 : Sig} {φ0 : Pl} {M : Nat→Prop} {n : Nat} {rd : Option Nat} {mk : List Deferred} {ops : Array Oper} {o : Oper} {rest : List Oper} {fr : List (Nat×AV)} {sto : Sto} {K : St→Prop}
theorem gm(hT : aL P T){d : Nat}{v : AV}(hg : o.guard = none)(hdst : o.dst = some d)(hd : Nat.blt d n = true)(hv : cj T ⟨fr,sto⟩ o.op = some v)
  (h : aa P ⟨w0,σ0,φ0,M,n,rd,mk⟩ ops rest ⟨(d,v)::fr,sto⟩ K) : aa P ⟨w0,σ0,φ0,M,n,rd,mk⟩ ops (o::rest) ⟨fr,sto⟩ K :=
 sd hT hg (by rw [hdst]; exact hd) hv (by rw [hdst]; exact h)
def wF : BinOp→Bool
 | .add | .sub | .mul=>true
 | _=>false
def Cl : BinOp→Int→Int→Int
 | .add,x,y=>x + y
 | .sub,x,y=>x - y
 | _,x,y=>x * y
theorem rp{k : IntKind}{z : Int}(h : inR k z) : k.wrap z = z:=by
 unfold inR at h
 unfold IntKind.wrap
 cases k <;> simp [IntKind.signed,IntKind.bits,IntKind.min,IntKind.max] at h ⊢ <;> (try split) <;> omega
theorem ic{z : Int}(h1 : -9223372036854775808≤z)(h2 : z≤9223372036854775807) : IntKind.i64.wrap z = z :=
 rp ⟨by simp [IntKind.min,IntKind.signed,IntKind.bits]; exact h1,by simp [IntKind.max,IntKind.signed,IntKind.bits]; exact h2⟩
theorem wH{j : Nat}{want b : Bool}(hg : o.guard = some (j,want))(hb : eV ⟨fr,sto⟩ ops j = some (some b))(hw : b = want)
  (h : aa P ⟨w0,σ0,φ0,M,n,rd,mk⟩ ops ({ o with guard:=none }::rest) ⟨fr,sto⟩ K) : aa P ⟨w0,σ0,φ0,M,n,rd,mk⟩ ops (o::rest) ⟨fr,sto⟩ K:=oL hg hb hw h
theorem Cn{d j : Nat}{want b : Bool}(hg : o.guard = some (j,want))(hb : eV ⟨fr,sto⟩ ops j = some (some b))(hw : b = !want)(hdst : o.dst = some d)(hd : Nat.blt d n = true)
  (h : aa P ⟨w0,σ0,φ0,M,n,rd,mk⟩ ops rest ⟨(d,.tup [])::fr,sto⟩ K) : aa P ⟨w0,σ0,φ0,M,n,rd,mk⟩ ops (o::rest) ⟨fr,sto⟩ K :=
 nv hg hb (by rw [hw]; cases want <;> simp) (by rw [hdst]; exact hd) (by rw [hdst]; exact h)
end Go.Abs
