import Derived.Test.YtpejdgkaapnekaaGreatVP8
import Derived.Test.YtpejdgkaapnekaaGreatVP7
set_option linter.unusedVariables false
set_option linter.unusedSimpArgs false
set_option linter.unnecessarySimpa false
set_option maxHeartbeats 1000000
namespace Go.Abs
open Go
variable {P : Program} {c : Ctx} {T : Tab} {σ : Sig} {φ : Pl} {w : World}
abbrev Orc:=Option FuncId→Bool→List AV→Sto→Option (AV×Sto)
structure OrcOk (P : Program) (orc : Orc) : Prop where
 call : ∀ f b avs cs r s,orc (some f) b avs cs = some (r,s)→CallA P f avs cs r s
 yld : ∀ j b avs cs r s,orc none b (.one (.yl j)::avs) cs = some (r,s)→YieldA P j avs cs r s
def mx(l : List Nat)(m : Nat) : Nat:=match l with
 | []=>m
 | i::r=>mx r (bif Nat.ble m i && Nat.blt i 1000000 then i + 1 else m)
def Hc : List (Nat×AV)→Nat→Nat
 | [],m=>m
 | (_,v)::r,m=>Hc r (mx (bH v) m)
def iX : List (Nat×AV)→List Nat
 | []=>[]
 | (_,v)::r=>bH v ++ iX r
def wy : AObj→List Nat
 | .box cs=>nD cs
 | .loop _ fr _ _=>iX fr
 | _=>[]
def Fw : Sto→Nat→Nat
 | [],m=>m
 | (i,o)::r,m=>Fw r (mx (i::wy o) m)
def kl(st : St) : Nat:=Fw st.sto (Hc st.fr 0)
def dp(st : St) : List Nat→Bool
 | []=>true
 | i::r=>!aW st.sto i && !bh i st.fr && !ay i st.sto && dp st r
theorem dQ{st : St} : ∀ {l : List Nat},dp st l = true→mL st l
 | [],_=>fun i h=>by simp at h
 | j::r,h=>by
   simp only [dp,Bool.and_eq_true,Bool.not_eq_true'] at h
   intro i hi
   rcases List.mem_cons.1 hi with rfl | hi
   ·refine ⟨?_,h.1.1.2,h.1.2⟩
    cases hl : look st.sto i with
    | none=>rfl
    | some e=>have:=h.1.1.1; simp [aW,hl] at this
   ·exact dQ h.2 i hi
def iY : List AV→List Nat
 | []=>[]
 | v::r=>bH v ++ iY r
def gE(s : Sto) : Nat→List Nat→List Nat→List Nat
 | 0,_,acc=>acc
 | _ + 1,[],acc=>acc
 | n + 1,i::r,acc=>bif bV i acc then gE s n r acc else (match look s i with
   | none=>gE s n r acc
   | some o=>gE s n (wy o ++ r) (acc ++ [i]))
def gF(s : Sto) : List Nat→Option (List (Nat×AObj))
 | []=>some []
 | i::r=>match look s i with
   | some o=>(match gF s r with | some l=>some ((i,o)::l) | none=>none)
   | none=>none
def bz(n : Nat) : List Nat→List (Nat×Nat)
 | []=>[]
 | i::r=>(n,i)::bz (n + 1) r
def inv(n : Nat) : List Nat→Nat→Nat
 | [],_=>0
 | j::r,i=>bif Nat.beq j i then n else inv (n + 1) r i
def jG(ids : List Nat) : List Nat→Bool
 | []=>true
 | i::r=>bV i ids && jG ids r
def fR(q : Nat→Nat) : List (Nat×AObj)→Sto
 | []=>[]
 | (i,o)::r=>(q i,b8 q o)::fR q r
def mn(ids : List Nat) : List (Nat×AObj)→Bool
 | []=>true
 | (i,o)::r=>bV i ids && jG ids (wy o) && mn ids r
def tp : AObj→AObj→Bool
 | .box _,.box _=>true
 | .row k b xs,.row k' b' xs'=>Nat.beq k k' && Nat.beq b b' && Nat.ble xs.length xs'.length
 | .map kg vg _,.map kg' vg' _=>bEq kg kg' && bEq vg vg'
 | .loop _ _ _ _,.loop _ _ _ _=>true
 | _,_=>false
theorem AL{e o : AObj}(h : tp e o = true) : compat e o:=by
 cases e <;> cases o <;> simp only [tp,Bool.and_eq_true,reduceCtorEq] at h <;> simp only [compat]
 ·exact ⟨Nat.eq_of_beq_eq_true h.1.1,Nat.eq_of_beq_eq_true h.1.2,Nat.le_of_ble_eq_true h.2⟩
 ·exact ⟨gk h.1,gk h.2⟩
def eM(s : Sto)(ρ : List (Nat×Nat)) : Sto→Bool
 | []=>true
 | (j,o)::r=>(match look ρ j with
   | none=>true
   | some i=>match look s i with
     | none=>true
     | some e=>tp e o) && eM s ρ r
theorem wz{i : Nat} : ∀ {ids : List Nat} {n : Nat},bV i ids = true→n≤inv n ids i
 | [],_,h=>by simp [bV] at h
 | j::r,n,h=>by
   simp only [inv]
   cases hb : Nat.beq j i with
   | true=>exact Nat.le_refl _
   | false =>
     simp only [bV,hb,Bool.false_or] at h
     have:=wz (n:=n + 1) h
     simp only [cond_false]; omega
theorem nE{i : Nat} : ∀ {ids : List Nat} {n : Nat},bV i ids = true→look (bz n ids) (inv n ids i) = some i
 | [],_,h=>by simp [bV] at h
 | j::r,n,h=>by
   simp only [inv,bz]
   cases hb : Nat.beq j i with
   | true =>
     have:=Nat.eq_of_beq_eq_true hb; subst this
     exact av
   | false =>
     simp only [bV,hb,Bool.false_or] at h
     have:=wz (n:=n + 1) h
     simp only [cond_false]
     rw [aA (by omega)]
     exact nE h
theorem tt{j i : Nat} : ∀ {ids : List Nat} {n : Nat},look (bz n ids) j = some i→i∈ids
 | [],_,h=>by simp [bz,look] at h
 | k::r,n,h=>by
   simp only [bz] at h
   rcases ag h with ⟨_,rfl⟩ | ⟨_,h⟩
   ·simp
   ·exact List.mem_cons_of_mem _ (tt h)
theorem oK{k i : Nat}{ids : List Nat}(h : bV i ids = true) : rn k (bz 1000000 ids) (inv 1000000 ids i) = i:=by
 have h1:=wz (n:=1000000) h
 have h2:=nE (n:=1000000) h
 unfold rn
 have hb : Nat.blt (inv 1000000 ids i) 16 = false:=by
  cases hb : Nat.blt (inv 1000000 ids i) 16 with
  | false=>rfl
  | true=>have:=Nat.le_of_ble_eq_true hb; omega
 rw [hb,h2]; rfl
section
variable {r q : Nat→Nat}
theorem wA{x : AC}(h : ∀ i∈dR x,r (q i) = i) : gl r (gl q x) = x:=by
 cases x <;> simp only [gl,dR,List.mem_singleton,forall_eq] at h ⊢ <;> rw [h]
theorem lQ : ∀ {xs : List AC},(∀ i∈nD xs,r (q i) = i)→iZ r (iZ q xs) = xs
 | [],_=>rfl
 | x::xs,h=>by
   simp only [iZ]
   rw [wA fun i hi=>h i (by simp [nD,hi]),lQ fun i hi=>h i (by simp [nD,hi])]
theorem uD : ∀ {xs : List (Bool×List AC)},(∀ i∈pN xs,r (q i) = i)→nF r (nF q xs) = xs
 | [],_=>rfl
 | (g,x)::xs,h=>by
   simp only [nF]
   rw [lQ fun i hi=>h i (by simp [pN,hi]),uD fun i hi=>h i (by simp [pN,hi])]
theorem wC{v : AV}(h : ∀ i∈bH v,r (q i) = i) : da r (da q v) = v:=by
 cases v with
 | one x=>simp only [da]; rw [wA h]
 | agg xs=>simp only [da]; rw [lQ h]
 | tup xs=>simp only [da]; rw [uD h]
 | any=>rfl
theorem lR : ∀ {xs : List (Nat×AV)},(∀ i∈iX xs,r (q i) = i)→cC r (cC q xs) = xs
 | [],_=>rfl
 | (s,x)::xs,h=>by
   simp only [cC]
   rw [wC fun i hi=>h i (by simp [iX,hi]),lR fun i hi=>h i (by simp [iX,hi])]
theorem DZ{o : AObj}(h : ∀ i∈wy o,r (q i) = i) : b8 r (b8 q o) = o:=by
 cases o with
 | box xs=>simp only [b8]; rw [lQ h]
 | loop li fr s p=>simp only [b8]; rw [lR h]
 | _=>rfl
theorem ra : ∀ {xs : List AV},(∀ i∈iY xs,r (q i) = i)→cv r (cv q xs) = xs
 | [],_=>rfl
 | x::xs,h=>by
   simp only [cv]
   rw [wC fun i hi=>h i (by simp [iY,hi]),ra fun i hi=>h i (by simp [iY,hi])]
end
theorem mM{ids : List Nat} : ∀ {l : List Nat},jG ids l = true→∀ i∈l,bV i ids = true
 | [],_,i,h=>by simp at h
 | j::r,h,i,hi=>by
   simp only [jG,Bool.and_eq_true] at h
   rcases List.mem_cons.1 hi with rfl | hi
   ·exact h.1
   ·exact mM h.2 i hi
theorem ja{s s2 : Sto} : ∀ {ids : List Nat},(∀ i∈ids,look s2 i = look s i)→gF s2 ids = gF s ids
 | [],_=>rfl
 | i::r,h=>by
   simp only [gF,h i List.mem_cons_self]
   rw [ja fun j hj=>h j (List.mem_cons_of_mem _ hj)]
theorem jb{fr : List (Nat×AV)}{s : Sto}{k : Nat}{ids : List Nat} : ∀ {l : List Nat} {os : List (Nat×AObj)},gF s l = some os→mn ids os = true →
  Pass ⟨fr,s⟩ (rn k (bz 1000000 ids)) (bz 1000000 ids) (fR (inv 1000000 ids) os)
 | [],os,h,_=>by simp only [gF,Option.some.injEq] at h; subst h; trivial
 | i::r,os,h,ha=>by
   simp only [gF] at h
   split at h <;> (try (simp at h; done))
   rename_i o ho
   split at h <;> simp at h
   rename_i l hl
   subst h
   simp only [mn,Bool.and_eq_true] at ha
   refine ⟨⟨i,nE ha.1.1,?_⟩,jb hl ha.2⟩
   rw [DZ fun i hi=>oK (mM ha.1.2 i hi)]
   exact ho
theorem gZ{fr : List (Nat×AV)}{s s2 : Sto}{r : Nat→Nat}{ρ : List (Nat×Nat)}(h : ∀ j i,look ρ j = some i→look s2 i = look s i) : ∀ {rs : Sto},eM s ρ rs = true→CompatL ⟨fr,s2⟩ r ρ rs
 | [],_=>trivial
 | (j,o)::l,hb=>by
   simp only [eM,Bool.and_eq_true] at hb
   refine ⟨fun i e h1 h2=>?_,gZ h hb.2⟩
   have h3:=hb.1
   rw [h1] at h3
   have h2' : look s i = some e:=(h j i h1).symm.trans h2
   simp only [h2'] at h3
   exact AL h3
theorem rb{s : Sto} : ∀ {ids : List Nat} {n : Nat},eY (bz n ids) s = dq ids s
 | [],_=>rfl
 | i::r,n=>by simp only [bz,eY,dq,rb (ids:=r)]
def k6(k : Nat)(ids : List Nat)(rav : AV)(rs : Sto) : Tr:=⟨da (rn k (bz 1000000 ids)) rav,tu (rn k (bz 1000000 ids)) rs ++ nG ids,ids,rng k 16⟩
theorem Cf{o : Oper}{st : St}{fop : Operand}{args : Array Operand}{ats : Array TypeId}{f : FuncId}{caps : List D}{avs : List AV}{rav : AV}{rs : Sto}{os : List (Nat×AObj)}(k : Nat)(ids : List Nat)
  (ho : o.op = .call { callee:=.value fop,args:=args,argTypes:=ats }) (hd : aB c.n o.dst = true) (hf : ev st fop = some (.one (.d (.fn f caps)))) (ha : evL st args.toList = some avs)
  (hos : gF st.sto ids = some os) (hsub : (jG ids (iY avs) && mn ids os) = true) (hC : CallA P f (cv (inv 1000000 ids) avs ++ caps.map fun x=>.one (.d x)) (fR (inv 1000000 ids) os) rav rs)
  (hcm : eM st.sto (bz 1000000 ids) rs = true)
  (hk : (eN (bz 1000000 ids) && gT (bz 1000000 ids) && fA (fR (inv 1000000 ids) os) (bz 1000000 ids) && eZ (bz 1000000 ids) && cb (bz 1000000 ids) rs && cR (fR (inv 1000000 ids) os) (cv (inv 1000000 ids) avs ++ caps.map fun x=>.one (.d x)) &&
   aV (fR (inv 1000000 ids) os) (fR (inv 1000000 ids) os) && cJ rs rav && aV rs rs && Nat.ble (k + 16) 1000000) = true) : Loc P c o st (k6 k ids rav rs):=by
 intro st2 hs hri hnew ops rest K h
 have he : ∀ {x : Operand},x∈o.op.operands.toList→ev st2 x = ev st x:=fun hx=>dX hs hx
 rw [ho] at he
 have hri' : ∀ i∈ids,look st2.sto i = look st.sto i:=hri
 have ha2 : evL st2 args.toList = some avs:=(iE fun x hx=>he (by simp [Op.operands,Call.operands]; exact .inr (by simpa using hx))).trans ha
 simp only [Bool.and_eq_true] at hsub
 refine j7 (o:={ o with guard:=none }) k (bz 1000000 ids) ho rfl hd ((he (by simp [Op.operands,Call.operands])).trans hf) (cargs:=cv (inv 1000000 ids) avs) ?_ hC
  (jb (fr:=st2.fr) ((ja hri').trans hos) hsub.2) (gZ (fr:=st2.fr) (s:=st.sto) (fun j i hji=>hri' i (tt hji)) hcm) hk (fun i h1 h2=>hnew i (rng_mem.2 ⟨h1,h2⟩)) ?_
 ·rw [ra fun i hi=>oK (mM hsub.1 i hi)]
  exact ha2
 ·simp only [k6] at h
  rw [jH,jI] at h
  rw [rb]
  exact h
def hkB(k : Nat)(ids : List Nat)(cs : Sto)(cargs : List AV)(rav : AV)(rs : Sto) : Bool :=
 eN (bz 1000000 ids) && gT (bz 1000000 ids) && fA cs (bz 1000000 ids) && eZ (bz 1000000 ids) && cb (bz 1000000 ids) rs && cR cs cargs && aV cs cs && cJ rs rav && aV rs rs && Nat.ble (k + 16) 1000000
theorem Cg{o : Oper}{st : St}{fop : Operand}{args : Array Operand}{ats : Array TypeId}{i : Nat}{avs : List AV}{rav : AV}{rs : Sto}{os : List (Nat×AObj)}(k : Nat)(ids : List Nat)(hrd : c.rd = none)
  (ho : o.op = .call { callee:=.value fop,args:=args,argTypes:=ats }) (hd : aB c.n o.dst = true) (hf : ev st fop = some (.one (.yl i))) (ha : evL st args.toList = some avs)
  (hos : gF st.sto ids = some os) (hsub : (bV i ids && jG ids (iY avs) && mn ids os) = true) (hY : YieldA P (inv 1000000 ids i) (cv (inv 1000000 ids) avs) (fR (inv 1000000 ids) os) rav rs)
  (hcm : eM st.sto (bz 1000000 ids) rs = true) (hk : hkB k ids (fR (inv 1000000 ids) os) (cv (inv 1000000 ids) avs) rav rs = true) : Loc P c o st (k6 k ids rav rs):=by
 intro st2 hs hri hnew ops rest K h
 have he : ∀ {x : Operand},x∈o.op.operands.toList→ev st2 x = ev st x:=fun hx=>dX hs hx
 rw [ho] at he
 have hri' : ∀ i∈ids,look st2.sto i = look st.sto i:=hri
 have ha2 : evL st2 args.toList = some avs:=(iE fun x hx=>he (by simp [Op.operands,Call.operands]; exact .inr (by simpa using hx))).trans ha
 simp only [Bool.and_eq_true] at hsub
 refine yY (o:={ o with guard:=none }) k (bz 1000000 ids) hrd ho rfl hd ((he (by simp [Op.operands,Call.operands])).trans hf) (nE hsub.1.1) (cargs:=cv (inv 1000000 ids) avs) ?_ hY
  (jb (fr:=st2.fr) ((ja hri').trans hos) hsub.2) (gZ (fr:=st2.fr) (s:=st.sto) (fun j i hji=>hri' i (tt hji)) hcm) hk (fun i h1 h2=>hnew i (rng_mem.2 ⟨h1,h2⟩)) ?_
 ·rw [ra fun i hi=>oK (mM hsub.1.2 i hi)]
  exact ha2
 ·simp only [k6] at h
  rw [jH,jI] at h
  rw [rb]
  exact h
theorem uE{o : Oper}{st : St}{fop : Operand}{args : Array Operand}{ats : Array TypeId}{f : FuncId}{caps : List D}{avs : List AV}{rav : AV}{rsto : Sto}{os : List (Nat×AObj)}(dl : List Nat)
  (ho : o.op = .call { callee:=.value fop,args:=args,argTypes:=ats }) (hd : aB c.n o.dst = true) (hos : db st.sto dl = some os) (hf : evS os st fop = some (.one (.d (.fn f caps))))
  (ha : jJ os st args.toList = some avs) (hD : b9 avs = true) (hC : CallA P f (avs ++ caps.map fun x=>.one (.d x)) [] rav rsto) (hfl : ep rav = true) : Loc P c o st ⟨rav,[],dl,[]⟩:=by
 intro st2 hs hri hnew ops rest K h
 have he : ∀ {x : Operand},x∈o.op.operands.toList→ev st2 x = ev st x:=fun hx=>dX hs hx
 rw [ho] at he
 have hos2 : db st2.sto dl = some os:=(jc hri).trans hos
 obtain ⟨ss,h1,h2⟩:=gG hos2
 have ha2 : evL ss args.toList = some avs:=by
  rw [ln h2,lS (st:=st) fun x hx=>he (by simp [Op.operands,Call.operands]; exact .inr (by simpa using hx))]
  exact ha
 have hf2 : ev ss fop = some (.one (.d (.fn f caps))):=by
  rw [h2]
  unfold evS
  rw [he (x:=fop) (by simp [Op.operands,Call.operands])]
  exact hf
 exact hJ (o:={ o with guard:=none }) ho rfl hd (fun a w σ φ hr=>by
  obtain ⟨σs,_,h3,_⟩:=Rel.sealL h1 hr
  exact ⟨σs,φ,h3⟩) hf2 ha2 hD hC hfl h
def Ch(orc : Orc)(ow : Bool)(id : Nat)(st : St)(f : FuncId)(caps : List D)(avs : List AV)(ids : List Nat) : Option Tr :=
 match gF st.sto ids with
 | some os=>(match orc (some f) ow (cv (inv 1000000 ids) avs ++ caps.map fun x=>.one (.d x)) (fR (inv 1000000 ids) os) with
   | some (rav,rs)=>bif jG ids (iY avs) && mn ids os && eM st.sto (bz 1000000 ids) rs && hkB id ids (fR (inv 1000000 ids) os) (cv (inv 1000000 ids) avs ++ caps.map fun x=>.one (.d x)) rav rs && dp st (rng id 16) then some (k6 id ids rav rs) else none
   | none=>none)
 | none=>none
def Cj(orc : Orc)(id : Nat)(st : St)(i : Nat)(avs : List AV)(ids : List Nat) : Option Tr :=
 match gF st.sto ids with
 | some os=>(match orc none false (.one (.yl (inv 1000000 ids i))::cv (inv 1000000 ids) avs) (fR (inv 1000000 ids) os) with
   | some (rav,rs)=>bif (bV i ids && jG ids (iY avs) && mn ids os) && eM st.sto (bz 1000000 ids) rs && hkB id ids (fR (inv 1000000 ids) os) (cv (inv 1000000 ids) avs) rav rs && dp st (rng id 16) then some (k6 id ids rav rs) else none
   | none=>none)
 | none=>none
def Ck(orc : Orc)(ow : Bool)(id : Nat)(st : St)(fop : Operand)(args : List Operand)(dl : List Nat) : Option Tr :=
 match db st.sto dl with
 | some os=>(match evS os st fop,jJ os st args with
   | some (.one (.d (.fn f caps))),some avs=>bif b9 avs then (match orc (some f) ow (avs ++ caps.map fun x=>.one (.d x)) [] with
     | some (rav,rsto)=>bif ep rav then some ⟨rav,[],dl,[]⟩ else bif cb [] rsto && Nat.ble (id + 16) 1000000 && cJ rsto rav && aV rsto rsto && dp st (rng id 16) then some (lq id dl dl rav rsto) else none
     | none=>none) else none
   | _,_=>none)
 | none=>none
def xTr(V : Env)(mf : FuncId→Bool)(orc : Orc)(yf ow : Bool)(id : Nat)(st : St)(o : Oper) : Option Tr :=
 match aG V st o id with
 | some e=>bif Nat.blt (id + 1) 1000000 && dp st e.new then some (e.tr (re st o.op)) else none
 | none=>match o.op with
   | .call { callee:=.value fop,args,.. }=>(match ev st fop with
     | some (.one (.d (.fn f caps)))=>bif mf f then
       (match evL st args.toList with
       | some avs=>Ch orc ow id st f caps avs (gE st.sto 1000 (iY avs) [])
       | none=>none)
       else Ck orc ow id st fop args.toList (cH st.sto (bW st args.toList) [])
     | some (.one (.yl i))=>bif yf then
       (match evL st args.toList with
       | some avs=>Cj orc id st i avs (gE st.sto 1000 (i::iY avs) [])
       | none=>none)
       else none
     | _=>none)
   | _=>none
theorem Cl{V : Env}(hV : EnvOk P V){mf : FuncId→Bool}{orc : Orc}(hO : OrcOk P orc){yf ow : Bool}(hy : yf = true→c.rd = none){id : Nat}{st : St}{o : Oper}{tr : Tr}(hd : aB c.n o.dst = true)(h : xTr V mf orc yf ow id st o = some tr) : Loc P c o st tr∧mL st tr.new:=by
 unfold xTr at h
 split at h
 ·rename_i e he
  cases hb : Nat.blt (id + 1) 1000000 && dp st e.new <;> simp only [hb,cond_true,cond_false,reduceCtorEq,Option.some.injEq] at h
  subst h
  rw [Bool.and_eq_true] at hb
  exact ⟨lT hV hd he hb.1,dQ hb.2⟩
 split at h <;> (try (simp at h; done))
 rename_i fop args ats ho
 split at h <;> (try (simp at h; done))
 ·rename_i f0 caps0 hf0
  cases hm : mf f0 with
  | true =>
    simp only [hm,cond_true] at h
    split at h <;> (try (simp at h; done))
    rename_i avs ha
    generalize gE st.sto 1000 (iY avs) [] = ids at h
    unfold Ch at h
    split at h <;> (try (simp at h; done))
    rename_i os hos
    split at h <;> (try (simp at h; done))
    rename_i rav rs hor
    cases hb : jG ids (iY avs) && mn ids os && eM st.sto (bz 1000000 ids) rs && hkB id ids (fR (inv 1000000 ids) os) (cv (inv 1000000 ids) avs ++ caps0.map fun x=>.one (.d x)) rav rs && dp st (rng id 16) <;> simp only [hb,cond_true,cond_false,reduceCtorEq,Option.some.injEq] at h
    subst h
    simp only [Bool.and_eq_true] at hb
    obtain ⟨⟨⟨⟨h1,h2⟩,h3⟩,h4⟩,h5⟩:=hb
    exact ⟨Cf id ids ho hd hf0 ha hos (by rw [Bool.and_eq_true]; exact ⟨h1,h2⟩) (hO.call _ _ _ _ _ _ hor) h3 h4,dQ h5⟩
  | false =>
    simp only [hm,cond_false] at h
    generalize cH st.sto (bW st args.toList) [] = dl at h
    unfold Ck at h
    split at h <;> (try (simp at h; done))
    rename_i os hos
    split at h <;> (try (simp at h; done))
    rename_i f caps avs hf ha
    cases hD : b9 avs <;> simp only [hD,cond_true,cond_false,reduceCtorEq] at h
    split at h <;> (try (simp at h; done))
    rename_i rav rsto hor
    cases hfl : ep rav with
    | true =>
      simp only [hfl,cond_true,Option.some.injEq] at h
      subst h
      exact ⟨uE _ ho hd hos hf ha hD (hO.call _ _ _ _ _ _ hor) hfl,fun i hi=>by simp at hi⟩
    | false =>
    simp only [hfl,cond_false] at h
    cases hb : cb [] rsto && Nat.ble (id + 16) 1000000 && cJ rsto rav && aV rsto rsto && dp st (rng id 16) <;> simp only [hb,cond_true,cond_false,reduceCtorEq,Option.some.injEq] at h
    subst h
    rw [Bool.and_eq_true] at hb
    exact ⟨uF id _ ho hd hos hf ha hD (hO.call _ _ _ _ _ _ hor) hb.1,dQ hb.2⟩
 ·rename_i i hf0
  cases yf with
  | false=>simp at h
  | true =>
    simp only [cond_true] at h
    split at h <;> (try (simp at h; done))
    rename_i avs ha
    generalize gE st.sto 1000 (i::iY avs) [] = ids at h
    unfold Cj at h
    split at h <;> (try (simp at h; done))
    rename_i os hos
    split at h <;> (try (simp at h; done))
    rename_i rav rs hor
    cases hb : (bV i ids && jG ids (iY avs) && mn ids os) && eM st.sto (bz 1000000 ids) rs && hkB id ids (fR (inv 1000000 ids) os) (cv (inv 1000000 ids) avs) rav rs && dp st (rng id 16) <;> simp only [hb,cond_true,cond_false,reduceCtorEq,Option.some.injEq] at h
    subst h
    rw [Bool.and_eq_true,Bool.and_eq_true,Bool.and_eq_true] at hb
    obtain ⟨⟨⟨h1,h3⟩,h4⟩,h5⟩:=hb
    exact ⟨Cg id ids (hy rfl) ho hd hf0 ha hos h1 (hO.yld _ _ _ _ _ _ hor) h3 h4,dQ h5⟩
end Go.Abs
namespace Go.Abs
open Go
variable {P : Program} {c : Ctx} {T : Tab} {σ : Sig} {φ : Pl} {w : World}
def aP : Sto→List Nat
 | []=>[]
 | (i,_)::r=>i::aP r
def eK(s : Sto) : List Nat→Sto
 | []=>[]
 | i::r=>match look s i with
   | some o=>(i,o)::eK s r
   | none=>eK s r
theorem keepK_sub{s : Sto} : ∀ {l : List Nat},SubL s (eK s l)
 | []=>trivial
 | i::r=>by
   simp only [eK]
   cases h : look s i with
   | none=>exact keepK_sub
   | some o=>exact ⟨h,keepK_sub⟩
def b5 : List Nat→Bool
 | []=>true
 | i::r=>!bV i r && b5 r
def fc(r : Nat→Nat) : Sto→Sto
 | []=>[]
 | (i,o)::s=>(r i,b8 r o)::fc r s
def gV(r : Nat→Nat) : List Nat→List Nat
 | []=>[]
 | i::l=>r i::gV r l
def uv(r : Nat→Nat) : List Nat→Bool
 | []=>true
 | i::l=>(bif Nat.ble 1000000 i then Nat.beq (r i) i else Nat.blt (r i) 1000000) && uv r l
theorem lu{s : Sto}{i : Nat}{o : AObj}(h : look s i = some o) : i∈aP s:=by
 induction s with
 | nil=>simp [look] at h
 | cons p r ih =>
   obtain ⟨j,x⟩:=p
   rcases ag h with ⟨rfl,_⟩ | ⟨_,h⟩
   ·simp [aP]
   ·simp [aP,ih h]
theorem oF{r : Nat→Nat}{i : Nat} : ∀ {l : List Nat},i∈l→r i∈gV r l
 | [],h=>by simp at h
 | j::l,h=>by
   rcases List.mem_cons.1 h with rfl | h
   ·simp [gV]
   ·simp [gV,oF h]
theorem lY{r : Nat→Nat} : ∀ {s : Sto},b5 (gV r (aP s)) = true→∀ {i : Nat} {o : AObj},look s i = some o→look (fc r s) (r i) = some (b8 r o)
 | [],_,_,_,h=>by simp [look] at h
 | (j,x)::l,hn,i,o,h=>by
   simp only [aP,gV,b5,Bool.and_eq_true,Bool.not_eq_true'] at hn
   simp only [fc]
   rcases ag h with ⟨rfl,rfl⟩ | ⟨hne,h⟩
   ·exact av
   ·have : r i≠r j:=by
     intro e
     have h1 : r i∈gV r (aP l):=oF (lu h)
     rw [e] at h1
     have:=memL_iff.2 h1
     rw [hn.1] at this; cases this
    rw [aA this]
    exact lY hn.2 h
theorem c5{r : Nat→Nat} : ∀ {s : Sto},b5 (aP s) = true→∀ {t : Nat} {e : AObj},look (fc r s) t = some e→∃ i o,t = r i∧look s i = some o∧e = b8 r o
 | [],_,_,_,h=>by simp [fc,look] at h
 | (j,x)::l,hn,t,e,h=>by
   simp only [aP,b5,Bool.and_eq_true,Bool.not_eq_true'] at hn
   simp only [fc] at h
   rcases ag h with ⟨rfl,rfl⟩ | ⟨_,h⟩
   ·exact ⟨j,x,rfl,av,rfl⟩
   ·obtain ⟨i,o,h1,h2,h3⟩:=c5 hn.2 h
    refine ⟨i,o,h1,?_,h3⟩
    rw [aA]
    ·exact h2
    ·rintro rfl
     have:=memL_iff.2 (lu h2)
     rw [hn.1] at this; cases this
theorem lX{r : Nat→Nat} : ∀ {l : List Nat},b5 (gV r l) = true→∀ {i j : Nat},i∈l→j∈l→r i = r j→i = j
 | [],_,_,_,h,_,_=>by simp at h
 | k::l,hn,i,j,hi,hj,e=>by
   simp only [gV,b5,Bool.and_eq_true,Bool.not_eq_true'] at hn
   have hi1:=List.mem_cons.1 hi
   have hj1:=List.mem_cons.1 hj
   rcases hi1 with h1 | h1 <;> rcases hj1 with h2 | h2
   ·rw [h1,h2]
   ·have:=memL_iff.2 (oF (r:=r) h2); rw [← e,h1,hn.1] at this; cases this
   ·have:=memL_iff.2 (oF (r:=r) h1); rw [e,h2,hn.1] at this; cases this
   ·exact lX hn.2 h1 h2 e
theorem Aq{r : Nat→Nat} : ∀ {l : List Nat},uv r l = true→∀ {i : Nat},i∈l→(1000000≤i→r i = i)∧(i < 1000000→r i < 1000000)
 | [],_,_,h=>by simp at h
 | k::l,hn,i,hi=>by
   simp only [uv,Bool.and_eq_true] at hn
   rcases List.mem_cons.1 hi with rfl | hi
   ·have h1:=hn.1
    cases hb : Nat.ble 1000000 i with
    | true =>
      rw [hb] at h1
      have:=Nat.le_of_ble_eq_true hb
      exact ⟨fun _=>Nat.eq_of_beq_eq_true h1,fun h=>by omega⟩
    | false =>
      rw [hb] at h1
      have h2 : ¬ 1000000≤i:=by intro h; rw [Nat.ble_eq.mpr h] at hb; cases hb
      exact ⟨fun h=>absurd h h2,fun _=>Nat.le_of_ble_eq_true h1⟩
   ·exact Aq hn.2 hi
theorem Rel.renameTo{fr fr2 : List (Nat×AV)}{S : Sto}{r : Nat→Nat}{a : Act}(hr : Rel c ⟨fr,S⟩ a w σ φ)(hf : ∀ s v,look fr2 s = some v→look fr s = some v)(hk : (b5 (aP S) && b5 (gV r (aP S)) && uv r (aP S) && aV S S && gW S fr2) = true) :
  ∃ φ',Rel c ⟨cC r fr2,fc r S⟩ a w σ φ':=by
 simp only [Bool.and_eq_true] at hk
 obtain ⟨⟨⟨⟨h1,h2⟩,h3⟩,h4⟩,h5⟩:=hk
 classical
 let φ' : Pl:=fun t=>if h : ∃ i,i∈aP S∧r i = t then φ h.choose else φ t
 have hφ : ∀ {i : Nat},i∈aP S→φ' (r i) = φ i:=by
  intro i hi
  have hex : ∃ j,j∈aP S∧r j = r i:=⟨i,hi,rfl⟩
  show (if h : ∃ j,j∈aP S∧r j = r i then φ h.choose else φ (r i)) = φ i
  rw [dif_pos hex]
  have:=hex.choose_spec
  rw [lX h2 this.1 hi this.2]
 have hR : ∀ j o,look S j = some o→look (fc r S) (r j) = some (b8 r o)∧φ' (r j) = φ j:=fun j o hj=>⟨lY h2 hj,hφ (lu hj)⟩
 refine ⟨φ',hr.le,hr.fresh,⟨hr.inv.sig,fun t e ht=>?_,fun t t' e e' p p' ht ht' hne hp hp'=>?_⟩,fun t e p ht hp=>?_,fun s v hv=>?_,hr.defers,hr.size,hr.fra,fun t ht=>?_⟩
 ·obtain ⟨i,o,rfl,hi,rfl⟩:=c5 h1 ht
  exact vX hR hi (eH h4 hi) (hr.inv.obj _ _ hi)
 ·obtain ⟨i,o,rfl,hi,rfl⟩:=c5 h1 ht
  obtain ⟨i',o',rfl,hi',rfl⟩:=c5 h1 ht'
  rw [(hR _ _ hi).2] at hp
  rw [(hR _ _ hi').2] at hp'
  exact hr.inv.inj _ _ _ _ _ _ hi hi' (fun e=>hne (by rw [e])) hp hp'
 ·obtain ⟨i,o,rfl,hi,rfl⟩:=c5 h1 ht
  rw [(hR _ _ hi).2] at hp
  exact hr.mine _ _ _ hi hp
 ·rw [jk] at hv
  cases hl : look fr2 s with
  | none=>rw [hl] at hv; cases hv
  | some v0 =>
    rw [hl] at hv; cases hv
    obtain ⟨u,hu,hru⟩:=hr.slot s v0 (hf s v0 hl)
    exact ⟨u,hu,reV hR (kp h5 hl) hru⟩
 ·show (if h : ∃ j,j∈aP S∧r j = t then φ h.choose else φ t) = _
  split
  ·rename_i hex
   have hs:=hex.choose_spec
   obtain ⟨f1,f2⟩:=Aq h3 hs.1
   rcases Nat.lt_or_ge hex.choose 1000000 with h5 | h5
   ·have:=f2 h5; omega
   ·have:=f1 h5
    rw [hs.2] at this
    rw [← this]; exact hr.pin t ht
  ·exact hr.pin t ht
def bO(ids : List Nat) : List (Nat×AV)→List Nat→List (Nat×AV)
 | [],_=>[]
 | (s,v)::r,seen=>bif bV s seen then bO ids r seen else bif jG ids (bH v) then (s,v)::bO ids r (s::seen) else bO ids r (s::seen)
theorem fN{ids : List Nat} : ∀ {fr : List (Nat×AV)} {seen : List Nat} {s : Nat} {v : AV},look (bO ids fr seen) s = some v→bV s seen = false∧look fr s = some v
 | [],_,_,_,h=>by simp [bO,look] at h
 | (t,x)::r,seen,s,v,h=>by
   simp only [bO] at h
   have step : ∀ {seen' : List Nat},look (bO ids r (t::seen)) s = some v→bV s seen = false∧look ((t,x)::r) s = some v:=by
    intro _ h
    obtain ⟨h1,h2⟩:=fN h
    simp only [bV,Bool.or_eq_false_iff] at h1
    refine ⟨h1.2,?_⟩
    rw [aA]
    ·exact h2
    ·rintro rfl
     rw [Nat.beq_refl] at h1; cases h1.1
   cases hm : bV t seen with
   | true =>
     simp only [hm,cond_true] at h
     obtain ⟨h1,h2⟩:=fN h
     refine ⟨h1,?_⟩
     rw [aA]
     ·exact h2
     ·rintro rfl
      rw [hm] at h1; cases h1
   | false =>
     simp only [hm,cond_false] at h
     cases hs : jG ids (bH x) with
     | true =>
       simp only [hs,cond_true] at h
       rcases ag h with ⟨rfl,rfl⟩ | ⟨_,h⟩
       ·exact ⟨hm,av⟩
       ·exact step (seen':=[]) h
     | false =>
       simp only [hs,cond_false] at h
       exact step (seen':=[]) h
theorem jj{ids : List Nat} : ∀ {fr : List (Nat×AV)} {seen : List Nat},∀ i∈iX (bO ids fr seen),bV i ids = true
 | [],_,i,h=>by simp [bO,iX] at h
 | (t,x)::r,seen,i,h=>by
   simp only [bO] at h
   cases hm : bV t seen with
   | true=>simp only [hm,cond_true] at h; exact jj i h
   | false =>
     simp only [hm,cond_false] at h
     cases hs : jG ids (bH x) with
     | true =>
       simp only [hs,cond_true,iX,List.mem_append] at h
       rcases h with h | h
       ·exact mM hs i h
       ·exact jj i h
     | false=>simp only [hs,cond_false] at h; exact jj i h
def qs(ids : List Nat) : AObj→AObj
 | .loop li fr s p=>.loop li (bO ids fr []) s p
 | o=>o
def gb(ids : List Nat) : Sto→Sto
 | []=>[]
 | (i,o)::r=>(i,qs ids o)::gb ids r
theorem kZ{ids : List Nat} : ∀ {s : Sto} {i : Nat},look (gb ids s) i = (look s i).map (qs ids)
 | [],_=>rfl
 | (j,o)::r,i=>by
   simp only [gb,look]
   cases Nat.beq j i with
   | true=>rfl
   | false=>simp only [cond_false]; exact kZ
theorem yQ{ids : List Nat}{o : AObj} : compat o (qs ids o):=by
 cases o <;> simp [qs,compat]
theorem Rel.weak{st : St}{a : Act}(hr : Rel c st a w σ φ)(ids : List Nat) : Rel c ⟨st.fr,gb ids st.sto⟩ a w σ φ:=by
 have hE : Ext (fun _=>False) φ φ st.sto (gb ids st.sto):=by
  intro i _
  cases hl : look st.sto i with
  | none=>exact .inl (by rw [kZ,hl]; rfl)
  | some e=>exact .inr ⟨e,rfl,rfl,qs ids e,by rw [kZ,hl]; rfl,yQ⟩
 have hex : ∀ {i : Nat} {e : AObj},look (gb ids st.sto) i = some e→∃ e0,look st.sto i = some e0∧e = qs ids e0:=by
  intro i e h
  rw [kZ] at h
  cases hl : look st.sto i with
  | none=>rw [hl] at h; cases h
  | some e0=>rw [hl] at h; cases h; exact ⟨e0,rfl,rfl⟩
 refine ⟨hr.le,hr.fresh,⟨hr.inv.sig,fun i e hi=>?_,fun i i' e e' p p' hi hi'=>?_⟩,fun i e p hi hp=>?_,fun s v hv=>?_,hr.defers,hr.size,hr.fra,hr.pin⟩
 ·obtain ⟨e0,h0,rfl⟩:=hex hi
  have ho:=(hr.inv.obj _ _ h0).ext (X:=fun _=>False) (w':=w) (Sig.le_refl _) hE (fun j hj=>hj.elim) rfl fun _ _ _=>⟨rfl,rfl⟩
  cases e0 with
  | loop li fr s p =>
    obtain ⟨B,cc,r,h1,h2,h3,h4,h5⟩:=ho
    exact ⟨B,cc,r,h1,h2,h3,fun s v hv=>h4 s v (fN hv).2,h5⟩
  | _=>exact ho
 ·obtain ⟨e0,h0,_⟩:=hex hi
  obtain ⟨e1,h1,_⟩:=hex hi'
  exact hr.inv.inj _ _ _ _ _ _ h0 h1
 ·obtain ⟨e0,h0,_⟩:=hex hi
  exact hr.mine _ _ _ h0 hp
 ·obtain ⟨u,hu,hru⟩:=hr.slot s v hv
  exact ⟨u,hu,hru.ext (Sig.le_refl _) hE fun j hj=>hj.elim⟩
def wj(s : Sto) : List Nat→List Nat
 | []=>[]
 | i::r=>(match look s i with | some o=>wy o | none=>[]) ++ wj s r
def kO : List Nat→List Nat
 | []=>[]
 | i::r=>bif Nat.blt i 1000000 then i::kO r else kO r
def FQ(n : Nat) : List Nat→Nat→Nat
 | [],_=>999999
 | j::r,i=>bif Nat.beq j i then n else FQ (n + 1) r i
def uw(L : List Nat)(i : Nat) : Nat:=bif Nat.ble 1000000 i then i else FQ 0 L i
def wi(fr : List (Nat×AV))(s : Sto)(keys L : List Nat) : Option St :=
 bif b5 (aP (gb (keys ++ L) (eK s (keys ++ L)))) && b5 (gV (uw L) (aP (gb (keys ++ L) (eK s (keys ++ L))))) && uv (uw L) (aP (gb (keys ++ L) (eK s (keys ++ L)))) &&
  aV (gb (keys ++ L) (eK s (keys ++ L))) (gb (keys ++ L) (eK s (keys ++ L))) && gW (gb (keys ++ L) (eK s (keys ++ L))) (bO (keys ++ L) fr []) then
  some ⟨cC (uw L) (bO (keys ++ L) fr []),fc (uw L) (gb (keys ++ L) (eK s (keys ++ L)))⟩ else none
theorem Rel.endTo{st st' : St}{fr2 : List (Nat×AV)}{keys L : List Nat}{a : Act}(hr : Rel c st a w σ φ)(hf : ∀ s v,look fr2 s = some v→look st.fr s = some v)(h : wi fr2 st.sto keys L = some st') : ∃ φ',Rel c st' a w σ φ':=by
 unfold wi at h
 generalize hS : gb (keys ++ L) (eK st.sto (keys ++ L)) = S at h
 cases hb : b5 (aP S) && b5 (gV (uw L) (aP S)) && uv (uw L) (aP S) && aV S S && gW S (bO (keys ++ L) fr2 []) <;> simp only [hb,cond_true,cond_false,reduceCtorEq,Option.some.injEq] at h
 subst h
 have h1:=(hr.dropTo (s':=eK st.sto (keys ++ L)) fun i e hi=>keepK_sub.look hi).weak (keys ++ L)
 simp only [hS] at h1
 exact h1.renameTo (fun s v hv=>hf s v (fN hv).2) hb
end Go.Abs
