import Derived.Test.YtpejdgkaapnekaaGreatGP8
import Derived.Test.YtpejdgkaapnekaaGreatGP7
set_option linter.unusedVariables false
set_option linter.unusedSimpArgs false
set_option linter.unnecessarySimpa false
set_option maxHeartbeats 1000000
namespace Go.Abs
open Go
variable {P : Program} {c : Ctx} {T : Tab} {σ : Sig} {φ : Pl} {w : World}
abbrev Orc:=Option FuncId→Bool→List AV→Sto→Option (AV×Sto)
structure OrcOk (P : Program) (orc : Orc) : Prop where
 call : ∀ f b avs cs r s,orc (some f) b avs cs = some (r,s)→CallA P f avs cs r s
 yld : ∀ j b avs cs r s,orc none b (.one (.yl j)::avs) cs = some (r,s)→YieldA P j avs cs r s
def mx(l : List Nat)(m : Nat) : Nat:=match l with
 | []=>m
 | i::r=>mx r (bif Nat.ble m i && Nat.blt i 1000000 then i + 1 else m)
def I1 : List (Nat×AV)→Nat→Nat
 | [],m=>m
 | (_,v)::r,m=>I1 r (mx (bK v) m)
def ju : List (Nat×AV)→List Nat
 | []=>[]
 | (_,v)::r=>bK v ++ ju r
def xi : AObj→List Nat
 | .box cs=>n4 cs
 | .loop _ fr _ _=>ju fr
 | _=>[]
def GY : Sto→Nat→Nat
 | [],m=>m
 | (i,o)::r,m=>GY r (mx (i::xi o) m)
def kL(st : St) : Nat:=GY st.sto (I1 st.fr 0)
def dE(st : St) : List Nat→Bool
 | []=>true
 | i::r=>!bf st.sto i && !bn i st.fr && !aM i st.sto && dE st r
theorem ea{st : St} : ∀ {l : List Nat},dE st l = true→nt st l
 | [],_=>fun i h=>by simp at h
 | j::r,h=>by
   simp only [dE,Bool.and_eq_true,Bool.not_eq_true'] at h
   intro i hi
   rcases List.mem_cons.1 hi with rfl | hi
   ·refine ⟨?_,h.1.1.2,h.1.2⟩
    cases hl : look st.sto i with
    | none=>rfl
    | some e=>have:=h.1.1.1; simp [bf,hl] at this
   ·exact ea h.2 i hi
def jv : List AV→List Nat
 | []=>[]
 | v::r=>bK v ++ jv r
def ic(s : Sto) : Nat→List Nat→List Nat→List Nat
 | 0,_,acc=>acc
 | _ + 1,[],acc=>acc
 | n + 1,i::r,acc=>bif bY i acc then ic s n r acc else (match look s i with
   | none=>ic s n r acc
   | some o=>ic s n (xi o ++ r) (acc ++ [i]))
def ig(s : Sto) : List Nat→Option (List (Nat×AObj))
 | []=>some []
 | i::r=>match look s i with
   | some o=>(match ig s r with | some l=>some ((i,o)::l) | none=>none)
   | none=>none
def bA(n : Nat) : List Nat→List (Nat×Nat)
 | []=>[]
 | i::r=>(n,i)::bA (n + 1) r
def inv(n : Nat) : List Nat→Nat→Nat
 | [],_=>0
 | j::r,i=>bif Nat.beq j i then n else inv (n + 1) r i
def jW(ids : List Nat) : List Nat→Bool
 | []=>true
 | i::r=>bY i ids && jW ids r
def gp(q : Nat→Nat) : List (Nat×AObj)→Sto
 | []=>[]
 | (i,o)::r=>(q i,co q o)::gp q r
def mX(ids : List Nat) : List (Nat×AObj)→Bool
 | []=>true
 | (i,o)::r=>bY i ids && jW ids (xi o) && mX ids r
def ui : AObj→AObj→Bool
 | .box _,.box _=>true
 | .row k b xs,.row k' b' xs'=>Nat.beq k k' && Nat.beq b b' && Nat.ble xs.length xs'.length
 | .map kg vg _,.map kg' vg' _=>bEq kg kg' && bEq vg vg'
 | .loop _ _ _ _,.loop _ _ _ _=>true
 | _,_=>false
theorem By{e o : AObj}(h : ui e o = true) : compat e o:=by
 cases e <;> cases o <;> simp only [ui,Bool.and_eq_true,reduceCtorEq] at h <;> simp only [compat]
 ·exact ⟨Nat.eq_of_beq_eq_true h.1.1,Nat.eq_of_beq_eq_true h.1.2,Nat.le_of_ble_eq_true h.2⟩
 ·exact ⟨gI h.1,gI h.2⟩
def fa(s : Sto)(ρ : List (Nat×Nat)) : Sto→Bool
 | []=>true
 | (j,o)::r=>(match look ρ j with
   | none=>true
   | some i=>match look s i with
     | none=>true
     | some e=>ui e o) && fa s ρ r
theorem xj{i : Nat} : ∀ {ids : List Nat} {n : Nat},bY i ids = true→n≤inv n ids i
 | [],_,h=>by simp [bY] at h
 | j::r,n,h=>by
   simp only [inv]
   cases hb : Nat.beq j i with
   | true=>exact Nat.le_refl _
   | false =>
     simp only [bY,hb,Bool.false_or] at h
     have:=xj (n:=n + 1) h
     simp only [cond_false]; omega
theorem n5{i : Nat} : ∀ {ids : List Nat} {n : Nat},bY i ids = true→look (bA n ids) (inv n ids i) = some i
 | [],_,h=>by simp [bY] at h
 | j::r,n,h=>by
   simp only [inv,bA]
   cases hb : Nat.beq j i with
   | true =>
     have:=Nat.eq_of_beq_eq_true hb; subst this
     exact aI
   | false =>
     simp only [bY,hb,Bool.false_or] at h
     have:=xj (n:=n + 1) h
     simp only [cond_false]
     rw [aN (by omega)]
     exact n5 h
theorem uj{j i : Nat} : ∀ {ids : List Nat} {n : Nat},look (bA n ids) j = some i→i∈ids
 | [],_,h=>by simp [bA,look] at h
 | k::r,n,h=>by
   simp only [bA] at h
   rcases ah h with ⟨_,rfl⟩ | ⟨_,h⟩
   ·simp
   ·exact List.mem_cons_of_mem _ (uj h)
theorem pj{k i : Nat}{ids : List Nat}(h : bY i ids = true) : rn k (bA 1000000 ids) (inv 1000000 ids i) = i:=by
 have h1:=xj (n:=1000000) h
 have h2:=n5 (n:=1000000) h
 unfold rn
 have hb : Nat.blt (inv 1000000 ids i) 16 = false:=by
  cases hb : Nat.blt (inv 1000000 ids i) 16 with
  | false=>rfl
  | true=>have:=Nat.le_of_ble_eq_true hb; omega
 rw [hb,h2]; rfl
section
variable {r q : Nat→Nat}
theorem xk{x : AC}(h : ∀ i∈eb x,r (q i) = i) : gJ r (gJ q x) = x:=by
 cases x <;> simp only [gJ,eb,List.mem_singleton,forall_eq] at h ⊢ <;> rw [h]
theorem mr : ∀ {xs : List AC},(∀ i∈n4 xs,r (q i) = i)→jw r (jw q xs) = xs
 | [],_=>rfl
 | x::xs,h=>by
   simp only [jw]
   rw [xk fun i hi=>h i (by simp [n4,hi]),mr fun i hi=>h i (by simp [n4,hi])]
theorem vw : ∀ {xs : List (Bool×List AC)},(∀ i∈qt xs,r (q i) = i)→n7 r (n7 q xs) = xs
 | [],_=>rfl
 | (g,x)::xs,h=>by
   simp only [n7]
   rw [mr fun i hi=>h i (by simp [qt,hi]),vw fun i hi=>h i (by simp [qt,hi])]
theorem xl{v : AV}(h : ∀ i∈bK v,r (q i) = i) : dr r (dr q v) = v:=by
 cases v with
 | one x=>simp only [dr]; rw [xk h]
 | agg xs=>simp only [dr]; rw [mr h]
 | tup xs=>simp only [dr]; rw [vw h]
 | any=>rfl
theorem ms : ∀ {xs : List (Nat×AV)},(∀ i∈ju xs,r (q i) = i)→cP r (cP q xs) = xs
 | [],_=>rfl
 | (s,x)::xs,h=>by
   simp only [cP]
   rw [xl fun i hi=>h i (by simp [ju,hi]),ms fun i hi=>h i (by simp [ju,hi])]
theorem Fl{o : AObj}(h : ∀ i∈xi o,r (q i) = i) : co r (co q o) = o:=by
 cases o with
 | box xs=>simp only [co]; rw [mr h]
 | loop li fr s p=>simp only [co]; rw [ms h]
 | _=>rfl
theorem rP : ∀ {xs : List AV},(∀ i∈jv xs,r (q i) = i)→cJ r (cJ q xs) = xs
 | [],_=>rfl
 | x::xs,h=>by
   simp only [cJ]
   rw [xl fun i hi=>h i (by simp [jv,hi]),rP fun i hi=>h i (by simp [jv,hi])]
end
theorem nu{ids : List Nat} : ∀ {l : List Nat},jW ids l = true→∀ i∈l,bY i ids = true
 | [],_,i,h=>by simp at h
 | j::r,h,i,hi=>by
   simp only [jW,Bool.and_eq_true] at h
   rcases List.mem_cons.1 hi with rfl | hi
   ·exact h.1
   ·exact nu h.2 i hi
theorem jx{s s2 : Sto} : ∀ {ids : List Nat},(∀ i∈ids,look s2 i = look s i)→ig s2 ids = ig s ids
 | [],_=>rfl
 | i::r,h=>by
   simp only [ig,h i List.mem_cons_self]
   rw [jx fun j hj=>h j (List.mem_cons_of_mem _ hj)]
theorem jy{fr : List (Nat×AV)}{s : Sto}{k : Nat}{ids : List Nat} : ∀ {l : List Nat} {os : List (Nat×AObj)},ig s l = some os→mX ids os = true →
  Pass ⟨fr,s⟩ (rn k (bA 1000000 ids)) (bA 1000000 ids) (gp (inv 1000000 ids) os)
 | [],os,h,_=>by simp only [ig,Option.some.injEq] at h; subst h; trivial
 | i::r,os,h,ha=>by
   simp only [ig] at h
   split at h <;> (try (simp at h; done))
   rename_i o ho
   split at h <;> simp at h
   rename_i l hl
   subst h
   simp only [mX,Bool.and_eq_true] at ha
   refine ⟨⟨i,n5 ha.1.1,?_⟩,jy hl ha.2⟩
   rw [Fl fun i hi=>pj (nu ha.1.2 i hi)]
   exact ho
theorem iJ{fr : List (Nat×AV)}{s s2 : Sto}{r : Nat→Nat}{ρ : List (Nat×Nat)}(h : ∀ j i,look ρ j = some i→look s2 i = look s i) : ∀ {rs : Sto},fa s ρ rs = true→CompatL ⟨fr,s2⟩ r ρ rs
 | [],_=>trivial
 | (j,o)::l,hb=>by
   simp only [fa,Bool.and_eq_true] at hb
   refine ⟨fun i e h1 h2=>?_,iJ h hb.2⟩
   have h3:=hb.1
   rw [h1] at h3
   have h2' : look s i = some e:=(h j i h1).symm.trans h2
   simp only [h2'] at h3
   exact By h3
theorem rQ{s : Sto} : ∀ {ids : List Nat} {n : Nat},fA (bA n ids) s = dF ids s
 | [],_=>rfl
 | i::r,n=>by simp only [bA,fA,dF,rQ (ids:=r)]
def lI(k : Nat)(ids : List Nat)(rav : AV)(rs : Sto) : Tr:=⟨dr (rn k (bA 1000000 ids)) rav,uk (rn k (bA 1000000 ids)) rs ++ n8 ids,ids,rng k 16⟩
theorem Dv{o : Oper}{st : St}{fop : Operand}{args : Array Operand}{ats : Array TypeId}{f : FuncId}{caps : List D}{avs : List AV}{rav : AV}{rs : Sto}{os : List (Nat×AObj)}(k : Nat)(ids : List Nat)
  (ho : o.op = .call { callee:=.value fop,args:=args,argTypes:=ats }) (hd : aP c.n o.dst = true) (hf : ev st fop = some (.one (.d (.fn f caps)))) (ha : evL st args.toList = some avs)
  (hos : ig st.sto ids = some os) (hsub : (jW ids (jv avs) && mX ids os) = true) (hC : CallA P f (cJ (inv 1000000 ids) avs ++ caps.map fun x=>.one (.d x)) (gp (inv 1000000 ids) os) rav rs)
  (hcm : fa st.sto (bA 1000000 ids) rs = true)
  (hk : (fb (bA 1000000 ids) && iC (bA 1000000 ids) && fU (gp (inv 1000000 ids) os) (bA 1000000 ids) && fB (bA 1000000 ids) && cw (bA 1000000 ids) rs && da (gp (inv 1000000 ids) os) (cJ (inv 1000000 ids) avs ++ caps.map fun x=>.one (.d x)) &&
   bd (gp (inv 1000000 ids) os) (gp (inv 1000000 ids) os) && cX rs rav && bd rs rs && Nat.ble (k + 16) 1000000) = true) : Loc P c o st (lI k ids rav rs):=by
 intro st2 hs hri hnew ops rest K h
 have he : ∀ {x : Operand},x∈o.op.operands.toList→ev st2 x = ev st x:=fun hx=>eh hs hx
 rw [ho] at he
 have hri' : ∀ i∈ids,look st2.sto i = look st.sto i:=hri
 have ha2 : evL st2 args.toList = some avs:=(i4 fun x hx=>he (by simp [Op.operands,Call.operands]; exact .inr (by simpa using hx))).trans ha
 simp only [Bool.and_eq_true] at hsub
 refine kA (o:={ o with guard:=none }) k (bA 1000000 ids) ho rfl hd ((he (by simp [Op.operands,Call.operands])).trans hf) (cargs:=cJ (inv 1000000 ids) avs) ?_ hC
  (jy (fr:=st2.fr) ((jx hri').trans hos) hsub.2) (iJ (fr:=st2.fr) (s:=st.sto) (fun j i hji=>hri' i (uj hji)) hcm) hk (fun i h1 h2=>hnew i (rng_mem.2 ⟨h1,h2⟩)) ?_
 ·rw [rP fun i hi=>pj (nu hsub.1 i hi)]
  exact ha2
 ·simp only [lI] at h
  rw [jX,jY] at h
  rw [rQ]
  exact h
def hkB(k : Nat)(ids : List Nat)(cs : Sto)(cargs : List AV)(rav : AV)(rs : Sto) : Bool :=
 fb (bA 1000000 ids) && iC (bA 1000000 ids) && fU cs (bA 1000000 ids) && fB (bA 1000000 ids) && cw (bA 1000000 ids) rs && da cs cargs && bd cs cs && cX rs rav && bd rs rs && Nat.ble (k + 16) 1000000
theorem Dx{o : Oper}{st : St}{fop : Operand}{args : Array Operand}{ats : Array TypeId}{i : Nat}{avs : List AV}{rav : AV}{rs : Sto}{os : List (Nat×AObj)}(k : Nat)(ids : List Nat)(hrd : c.rd = none)
  (ho : o.op = .call { callee:=.value fop,args:=args,argTypes:=ats }) (hd : aP c.n o.dst = true) (hf : ev st fop = some (.one (.yl i))) (ha : evL st args.toList = some avs)
  (hos : ig st.sto ids = some os) (hsub : (bY i ids && jW ids (jv avs) && mX ids os) = true) (hY : YieldA P (inv 1000000 ids i) (cJ (inv 1000000 ids) avs) (gp (inv 1000000 ids) os) rav rs)
  (hcm : fa st.sto (bA 1000000 ids) rs = true) (hk : hkB k ids (gp (inv 1000000 ids) os) (cJ (inv 1000000 ids) avs) rav rs = true) : Loc P c o st (lI k ids rav rs):=by
 intro st2 hs hri hnew ops rest K h
 have he : ∀ {x : Operand},x∈o.op.operands.toList→ev st2 x = ev st x:=fun hx=>eh hs hx
 rw [ho] at he
 have hri' : ∀ i∈ids,look st2.sto i = look st.sto i:=hri
 have ha2 : evL st2 args.toList = some avs:=(i4 fun x hx=>he (by simp [Op.operands,Call.operands]; exact .inr (by simpa using hx))).trans ha
 simp only [Bool.and_eq_true] at hsub
 refine zM (o:={ o with guard:=none }) k (bA 1000000 ids) hrd ho rfl hd ((he (by simp [Op.operands,Call.operands])).trans hf) (n5 hsub.1.1) (cargs:=cJ (inv 1000000 ids) avs) ?_ hY
  (jy (fr:=st2.fr) ((jx hri').trans hos) hsub.2) (iJ (fr:=st2.fr) (s:=st.sto) (fun j i hji=>hri' i (uj hji)) hcm) hk (fun i h1 h2=>hnew i (rng_mem.2 ⟨h1,h2⟩)) ?_
 ·rw [rP fun i hi=>pj (nu hsub.1.2 i hi)]
  exact ha2
 ·simp only [lI] at h
  rw [jX,jY] at h
  rw [rQ]
  exact h
theorem vz{o : Oper}{st : St}{fop : Operand}{args : Array Operand}{ats : Array TypeId}{f : FuncId}{caps : List D}{avs : List AV}{rav : AV}{rsto : Sto}{os : List (Nat×AObj)}(dl : List Nat)
  (ho : o.op = .call { callee:=.value fop,args:=args,argTypes:=ats }) (hd : aP c.n o.dst = true) (hos : dx st.sto dl = some os) (hf : evS os st fop = some (.one (.d (.fn f caps))))
  (ha : jZ os st args.toList = some avs) (hD : cq avs = true) (hC : CallA P f (avs ++ caps.map fun x=>.one (.d x)) [] rav rsto) (hfl : eH rav = true) : Loc P c o st ⟨rav,[],dl,[]⟩:=by
 intro st2 hs hri hnew ops rest K h
 have he : ∀ {x : Operand},x∈o.op.operands.toList→ev st2 x = ev st x:=fun hx=>eh hs hx
 rw [ho] at he
 have hos2 : dx st2.sto dl = some os:=(jz hri).trans hos
 obtain ⟨ss,h1,h2⟩:=ii hos2
 have ha2 : evL ss args.toList = some avs:=by
  rw [lO h2,mt (st:=st) fun x hx=>he (by simp [Op.operands,Call.operands]; exact .inr (by simpa using hx))]
  exact ha
 have hf2 : ev ss fop = some (.one (.d (.fn f caps))):=by
  rw [h2]
  unfold evS
  rw [he (x:=fop) (by simp [Op.operands,Call.operands])]
  exact hf
 exact iK (o:={ o with guard:=none }) ho rfl hd (fun a w σ φ hr=>by
  obtain ⟨σs,_,h3,_⟩:=Rel.sealL h1 hr
  exact ⟨σs,φ,h3⟩) hf2 ha2 hD hC hfl h
def Dy(orc : Orc)(ow : Bool)(id : Nat)(st : St)(f : FuncId)(caps : List D)(avs : List AV)(ids : List Nat) : Option Tr :=
 match ig st.sto ids with
 | some os=>(match orc (some f) ow (cJ (inv 1000000 ids) avs ++ caps.map fun x=>.one (.d x)) (gp (inv 1000000 ids) os) with
   | some (rav,rs)=>bif jW ids (jv avs) && mX ids os && fa st.sto (bA 1000000 ids) rs && hkB id ids (gp (inv 1000000 ids) os) (cJ (inv 1000000 ids) avs ++ caps.map fun x=>.one (.d x)) rav rs && dE st (rng id 16) then some (lI id ids rav rs) else none
   | none=>none)
 | none=>none
def Dz(orc : Orc)(id : Nat)(st : St)(i : Nat)(avs : List AV)(ids : List Nat) : Option Tr :=
 match ig st.sto ids with
 | some os=>(match orc none false (.one (.yl (inv 1000000 ids i))::cJ (inv 1000000 ids) avs) (gp (inv 1000000 ids) os) with
   | some (rav,rs)=>bif (bY i ids && jW ids (jv avs) && mX ids os) && fa st.sto (bA 1000000 ids) rs && hkB id ids (gp (inv 1000000 ids) os) (cJ (inv 1000000 ids) avs) rav rs && dE st (rng id 16) then some (lI id ids rav rs) else none
   | none=>none)
 | none=>none
def DA(orc : Orc)(ow : Bool)(id : Nat)(st : St)(fop : Operand)(args : List Operand)(dl : List Nat) : Option Tr :=
 match dx st.sto dl with
 | some os=>(match evS os st fop,jZ os st args with
   | some (.one (.d (.fn f caps))),some avs=>bif cq avs then (match orc (some f) ow (avs ++ caps.map fun x=>.one (.d x)) [] with
     | some (rav,rsto)=>bif eH rav then some ⟨rav,[],dl,[]⟩ else bif cw [] rsto && Nat.ble (id + 16) 1000000 && cX rsto rav && bd rsto rsto && dE st (rng id 16) then some (lP id dl dl rav rsto) else none
     | none=>none) else none
   | _,_=>none)
 | none=>none
def xTr(V : Env)(mf : FuncId→Bool)(orc : Orc)(yf ow : Bool)(id : Nat)(st : St)(o : Oper) : Option Tr :=
 match aQ V st o id with
 | some e=>bif Nat.blt (id + 1) 1000000 && dE st e.new then some (e.tr (rR st o.op)) else none
 | none=>match o.op with
   | .call { callee:=.value fop,args,.. }=>(match ev st fop with
     | some (.one (.d (.fn f caps)))=>bif mf f then
       (match evL st args.toList with
       | some avs=>Dy orc ow id st f caps avs (ic st.sto 1000 (jv avs) [])
       | none=>none)
       else DA orc ow id st fop args.toList (cV st.sto (bZ st args.toList) [])
     | some (.one (.yl i))=>bif yf then
       (match evL st args.toList with
       | some avs=>Dz orc id st i avs (ic st.sto 1000 (i::jv avs) [])
       | none=>none)
       else none
     | _=>none)
   | _=>none
theorem DB{V : Env}(hV : EnvOk P V){mf : FuncId→Bool}{orc : Orc}(hO : OrcOk P orc){yf ow : Bool}(hy : yf = true→c.rd = none){id : Nat}{st : St}{o : Oper}{tr : Tr}(hd : aP c.n o.dst = true)(h : xTr V mf orc yf ow id st o = some tr) : Loc P c o st tr∧nt st tr.new:=by
 unfold xTr at h
 split at h
 ·rename_i e he
  cases hb : Nat.blt (id + 1) 1000000 && dE st e.new <;> simp only [hb,cond_true,cond_false,reduceCtorEq,Option.some.injEq] at h
  subst h
  rw [Bool.and_eq_true] at hb
  exact ⟨mu hV hd he hb.1,ea hb.2⟩
 split at h <;> (try (simp at h; done))
 rename_i fop args ats ho
 split at h <;> (try (simp at h; done))
 ·rename_i f0 caps0 hf0
  cases hm : mf f0 with
  | true =>
    simp only [hm,cond_true] at h
    split at h <;> (try (simp at h; done))
    rename_i avs ha
    generalize ic st.sto 1000 (jv avs) [] = ids at h
    unfold Dy at h
    split at h <;> (try (simp at h; done))
    rename_i os hos
    split at h <;> (try (simp at h; done))
    rename_i rav rs hor
    cases hb : jW ids (jv avs) && mX ids os && fa st.sto (bA 1000000 ids) rs && hkB id ids (gp (inv 1000000 ids) os) (cJ (inv 1000000 ids) avs ++ caps0.map fun x=>.one (.d x)) rav rs && dE st (rng id 16) <;> simp only [hb,cond_true,cond_false,reduceCtorEq,Option.some.injEq] at h
    subst h
    simp only [Bool.and_eq_true] at hb
    obtain ⟨⟨⟨⟨h1,h2⟩,h3⟩,h4⟩,h5⟩:=hb
    exact ⟨Dv id ids ho hd hf0 ha hos (by rw [Bool.and_eq_true]; exact ⟨h1,h2⟩) (hO.call _ _ _ _ _ _ hor) h3 h4,ea h5⟩
  | false =>
    simp only [hm,cond_false] at h
    generalize cV st.sto (bZ st args.toList) [] = dl at h
    unfold DA at h
    split at h <;> (try (simp at h; done))
    rename_i os hos
    split at h <;> (try (simp at h; done))
    rename_i f caps avs hf ha
    cases hD : cq avs <;> simp only [hD,cond_true,cond_false,reduceCtorEq] at h
    split at h <;> (try (simp at h; done))
    rename_i rav rsto hor
    cases hfl : eH rav with
    | true =>
      simp only [hfl,cond_true,Option.some.injEq] at h
      subst h
      exact ⟨vz _ ho hd hos hf ha hD (hO.call _ _ _ _ _ _ hor) hfl,fun i hi=>by simp at hi⟩
    | false =>
    simp only [hfl,cond_false] at h
    cases hb : cw [] rsto && Nat.ble (id + 16) 1000000 && cX rsto rav && bd rsto rsto && dE st (rng id 16) <;> simp only [hb,cond_true,cond_false,reduceCtorEq,Option.some.injEq] at h
    subst h
    rw [Bool.and_eq_true] at hb
    exact ⟨vA id _ ho hd hos hf ha hD (hO.call _ _ _ _ _ _ hor) hb.1,ea hb.2⟩
 ·rename_i i hf0
  cases yf with
  | false=>simp at h
  | true =>
    simp only [cond_true] at h
    split at h <;> (try (simp at h; done))
    rename_i avs ha
    generalize ic st.sto 1000 (i::jv avs) [] = ids at h
    unfold Dz at h
    split at h <;> (try (simp at h; done))
    rename_i os hos
    split at h <;> (try (simp at h; done))
    rename_i rav rs hor
    cases hb : (bY i ids && jW ids (jv avs) && mX ids os) && fa st.sto (bA 1000000 ids) rs && hkB id ids (gp (inv 1000000 ids) os) (cJ (inv 1000000 ids) avs) rav rs && dE st (rng id 16) <;> simp only [hb,cond_true,cond_false,reduceCtorEq,Option.some.injEq] at h
    subst h
    rw [Bool.and_eq_true,Bool.and_eq_true,Bool.and_eq_true] at hb
    obtain ⟨⟨⟨h1,h3⟩,h4⟩,h5⟩:=hb
    exact ⟨Dx id ids (hy rfl) ho hd hf0 ha hos h1 (hO.yld _ _ _ _ _ _ hor) h3 h4,ea h5⟩
end Go.Abs
namespace Go.Abs
open Go
variable {P : Program} {c : Ctx} {T : Tab} {σ : Sig} {φ : Pl} {w : World}
def aY : Sto→List Nat
 | []=>[]
 | (i,_)::r=>i::aY r
def eY(s : Sto) : List Nat→Sto
 | []=>[]
 | i::r=>match look s i with
   | some o=>(i,o)::eY s r
   | none=>eY s r
theorem keepK_sub{s : Sto} : ∀ {l : List Nat},SubL s (eY s l)
 | []=>trivial
 | i::r=>by
   simp only [eY]
   cases h : look s i with
   | none=>exact keepK_sub
   | some o=>exact ⟨h,keepK_sub⟩
def ch : List Nat→Bool
 | []=>true
 | i::r=>!bY i r && ch r
def fC(r : Nat→Nat) : Sto→Sto
 | []=>[]
 | (i,o)::s=>(r i,co r o)::fC r s
def iE(r : Nat→Nat) : List Nat→List Nat
 | []=>[]
 | i::l=>r i::iE r l
def vp(r : Nat→Nat) : List Nat→Bool
 | []=>true
 | i::l=>(bif Nat.ble 1000000 i then Nat.beq (r i) i else Nat.blt (r i) 1000000) && vp r l
theorem lS{s : Sto}{i : Nat}{o : AObj}(h : look s i = some o) : i∈aY s:=by
 induction s with
 | nil=>simp [look] at h
 | cons p r ih =>
   obtain ⟨j,x⟩:=p
   rcases ah h with ⟨rfl,_⟩ | ⟨_,h⟩
   ·simp [aY]
   ·simp [aY,ih h]
theorem pf{r : Nat→Nat}{i : Nat} : ∀ {l : List Nat},i∈l→r i∈iE r l
 | [],h=>by simp at h
 | j::l,h=>by
   rcases List.mem_cons.1 h with rfl | h
   ·simp [iE]
   ·simp [iE,pf h]
theorem mC{r : Nat→Nat} : ∀ {s : Sto},ch (iE r (aY s)) = true→∀ {i : Nat} {o : AObj},look s i = some o→look (fC r s) (r i) = some (co r o)
 | [],_,_,_,h=>by simp [look] at h
 | (j,x)::l,hn,i,o,h=>by
   simp only [aY,iE,ch,Bool.and_eq_true,Bool.not_eq_true'] at hn
   simp only [fC]
   rcases ah h with ⟨rfl,rfl⟩ | ⟨hne,h⟩
   ·exact aI
   ·have : r i≠r j:=by
     intro e
     have h1 : r i∈iE r (aY l):=pf (lS h)
     rw [e] at h1
     have:=memL_iff.2 h1
     rw [hn.1] at this; cases this
    rw [aN this]
    exact mC hn.2 h
theorem di{r : Nat→Nat} : ∀ {s : Sto},ch (aY s) = true→∀ {t : Nat} {e : AObj},look (fC r s) t = some e→∃ i o,t = r i∧look s i = some o∧e = co r o
 | [],_,_,_,h=>by simp [fC,look] at h
 | (j,x)::l,hn,t,e,h=>by
   simp only [aY,ch,Bool.and_eq_true,Bool.not_eq_true'] at hn
   simp only [fC] at h
   rcases ah h with ⟨rfl,rfl⟩ | ⟨_,h⟩
   ·exact ⟨j,x,rfl,aI,rfl⟩
   ·obtain ⟨i,o,h1,h2,h3⟩:=di hn.2 h
    refine ⟨i,o,h1,?_,h3⟩
    rw [aN]
    ·exact h2
    ·rintro rfl
     have:=memL_iff.2 (lS h2)
     rw [hn.1] at this; cases this
theorem mA{r : Nat→Nat} : ∀ {l : List Nat},ch (iE r l) = true→∀ {i j : Nat},i∈l→j∈l→r i = r j→i = j
 | [],_,_,_,h,_,_=>by simp at h
 | k::l,hn,i,j,hi,hj,e=>by
   simp only [iE,ch,Bool.and_eq_true,Bool.not_eq_true'] at hn
   have hi1:=List.mem_cons.1 hi
   have hj1:=List.mem_cons.1 hj
   rcases hi1 with h1 | h1 <;> rcases hj1 with h2 | h2
   ·rw [h1,h2]
   ·have:=memL_iff.2 (pf (r:=r) h2); rw [← e,h1,hn.1] at this; cases this
   ·have:=memL_iff.2 (pf (r:=r) h1); rw [e,h2,hn.1] at this; cases this
   ·exact mA hn.2 h1 h2 e
theorem Bj{r : Nat→Nat} : ∀ {l : List Nat},vp r l = true→∀ {i : Nat},i∈l→(1000000≤i→r i = i)∧(i < 1000000→r i < 1000000)
 | [],_,_,h=>by simp at h
 | k::l,hn,i,hi=>by
   simp only [vp,Bool.and_eq_true] at hn
   rcases List.mem_cons.1 hi with rfl | hi
   ·have h1:=hn.1
    cases hb : Nat.ble 1000000 i with
    | true =>
      rw [hb] at h1
      have:=Nat.le_of_ble_eq_true hb
      exact ⟨fun _=>Nat.eq_of_beq_eq_true h1,fun h=>by omega⟩
    | false =>
      rw [hb] at h1
      have h2 : ¬ 1000000≤i:=by intro h; rw [Nat.ble_eq.mpr h] at hb; cases hb
      exact ⟨fun h=>absurd h h2,fun _=>Nat.le_of_ble_eq_true h1⟩
   ·exact Bj hn.2 hi
theorem Rel.renameTo{fr fr2 : List (Nat×AV)}{S : Sto}{r : Nat→Nat}{a : Act}(hr : Rel c ⟨fr,S⟩ a w σ φ)(hf : ∀ s v,look fr2 s = some v→look fr s = some v)(hk : (ch (aY S) && ch (iE r (aY S)) && vp r (aY S) && bd S S && iF S fr2) = true) :
  ∃ φ',Rel c ⟨cP r fr2,fC r S⟩ a w σ φ':=by
 simp only [Bool.and_eq_true] at hk
 obtain ⟨⟨⟨⟨h1,h2⟩,h3⟩,h4⟩,h5⟩:=hk
 classical
 let φ' : Pl:=fun t=>if h : ∃ i,i∈aY S∧r i = t then φ h.choose else φ t
 have hφ : ∀ {i : Nat},i∈aY S→φ' (r i) = φ i:=by
  intro i hi
  have hex : ∃ j,j∈aY S∧r j = r i:=⟨i,hi,rfl⟩
  show (if h : ∃ j,j∈aY S∧r j = r i then φ h.choose else φ (r i)) = φ i
  rw [dif_pos hex]
  have:=hex.choose_spec
  rw [mA h2 this.1 hi this.2]
 have hR : ∀ j o,look S j = some o→look (fC r S) (r j) = some (co r o)∧φ' (r j) = φ j:=fun j o hj=>⟨mC h2 hj,hφ (lS hj)⟩
 refine ⟨φ',hr.le,hr.fresh,⟨hr.inv.sig,fun t e ht=>?_,fun t t' e e' p p' ht ht' hne hp hp'=>?_⟩,fun t e p ht hp=>?_,fun s v hv=>?_,hr.defers,hr.size,hr.fra,fun t ht=>?_⟩
 ·obtain ⟨i,o,rfl,hi,rfl⟩:=di h1 ht
  exact wS hR hi (eU h4 hi) (hr.inv.obj _ _ hi)
 ·obtain ⟨i,o,rfl,hi,rfl⟩:=di h1 ht
  obtain ⟨i',o',rfl,hi',rfl⟩:=di h1 ht'
  rw [(hR _ _ hi).2] at hp
  rw [(hR _ _ hi').2] at hp'
  exact hr.inv.inj _ _ _ _ _ _ hi hi' (fun e=>hne (by rw [e])) hp hp'
 ·obtain ⟨i,o,rfl,hi,rfl⟩:=di h1 ht
  rw [(hR _ _ hi).2] at hp
  exact hr.mine _ _ _ hi hp
 ·rw [jF] at hv
  cases hl : look fr2 s with
  | none=>rw [hl] at hv; cases hv
  | some v0 =>
    rw [hl] at hv; cases hv
    obtain ⟨u,hu,hru⟩:=hr.slot s v0 (hf s v0 hl)
    exact ⟨u,hu,reV hR (kN h5 hl) hru⟩
 ·show (if h : ∃ j,j∈aY S∧r j = t then φ h.choose else φ t) = _
  split
  ·rename_i hex
   have hs:=hex.choose_spec
   obtain ⟨f1,f2⟩:=Bj h3 hs.1
   rcases Nat.lt_or_ge hex.choose 1000000 with h5 | h5
   ·have:=f2 h5; omega
   ·have:=f1 h5
    rw [hs.2] at this
    rw [← this]; exact hr.pin t ht
  ·exact hr.pin t ht
def bS(ids : List Nat) : List (Nat×AV)→List Nat→List (Nat×AV)
 | [],_=>[]
 | (s,v)::r,seen=>bif bY s seen then bS ids r seen else bif jW ids (bK v) then (s,v)::bS ids r (s::seen) else bS ids r (s::seen)
theorem gj{ids : List Nat} : ∀ {fr : List (Nat×AV)} {seen : List Nat} {s : Nat} {v : AV},look (bS ids fr seen) s = some v→bY s seen = false∧look fr s = some v
 | [],_,_,_,h=>by simp [bS,look] at h
 | (t,x)::r,seen,s,v,h=>by
   simp only [bS] at h
   have step : ∀ {seen' : List Nat},look (bS ids r (t::seen)) s = some v→bY s seen = false∧look ((t,x)::r) s = some v:=by
    intro _ h
    obtain ⟨h1,h2⟩:=gj h
    simp only [bY,Bool.or_eq_false_iff] at h1
    refine ⟨h1.2,?_⟩
    rw [aN]
    ·exact h2
    ·rintro rfl
     rw [Nat.beq_refl] at h1; cases h1.1
   cases hm : bY t seen with
   | true =>
     simp only [hm,cond_true] at h
     obtain ⟨h1,h2⟩:=gj h
     refine ⟨h1,?_⟩
     rw [aN]
     ·exact h2
     ·rintro rfl
      rw [hm] at h1; cases h1
   | false =>
     simp only [hm,cond_false] at h
     cases hs : jW ids (bK x) with
     | true =>
       simp only [hs,cond_true] at h
       rcases ah h with ⟨rfl,rfl⟩ | ⟨_,h⟩
       ·exact ⟨hm,aI⟩
       ·exact step (seen':=[]) h
     | false =>
       simp only [hs,cond_false] at h
       exact step (seen':=[]) h
theorem jE{ids : List Nat} : ∀ {fr : List (Nat×AV)} {seen : List Nat},∀ i∈ju (bS ids fr seen),bY i ids = true
 | [],_,i,h=>by simp [bS,ju] at h
 | (t,x)::r,seen,i,h=>by
   simp only [bS] at h
   cases hm : bY t seen with
   | true=>simp only [hm,cond_true] at h; exact jE i h
   | false =>
     simp only [hm,cond_false] at h
     cases hs : jW ids (bK x) with
     | true =>
       simp only [hs,cond_true,ju,List.mem_append] at h
       rcases h with h | h
       ·exact nu hs i h
       ·exact jE i h
     | false=>simp only [hs,cond_false] at h; exact jE i h
def qY(ids : List Nat) : AObj→AObj
 | .loop li fr s p=>.loop li (bS ids fr []) s p
 | o=>o
def gD(ids : List Nat) : Sto→Sto
 | []=>[]
 | (i,o)::r=>(i,qY ids o)::gD ids r
theorem lF{ids : List Nat} : ∀ {s : Sto} {i : Nat},look (gD ids s) i = (look s i).map (qY ids)
 | [],_=>rfl
 | (j,o)::r,i=>by
   simp only [gD,look]
   cases Nat.beq j i with
   | true=>rfl
   | false=>simp only [cond_false]; exact lF
theorem zG{ids : List Nat}{o : AObj} : compat o (qY ids o):=by
 cases o <;> simp [qY,compat]
theorem Rel.weak{st : St}{a : Act}(hr : Rel c st a w σ φ)(ids : List Nat) : Rel c ⟨st.fr,gD ids st.sto⟩ a w σ φ:=by
 have hE : Ext (fun _=>False) φ φ st.sto (gD ids st.sto):=by
  intro i _
  cases hl : look st.sto i with
  | none=>exact .inl (by rw [lF,hl]; rfl)
  | some e=>exact .inr ⟨e,rfl,rfl,qY ids e,by rw [lF,hl]; rfl,zG⟩
 have hex : ∀ {i : Nat} {e : AObj},look (gD ids st.sto) i = some e→∃ e0,look st.sto i = some e0∧e = qY ids e0:=by
  intro i e h
  rw [lF] at h
  cases hl : look st.sto i with
  | none=>rw [hl] at h; cases h
  | some e0=>rw [hl] at h; cases h; exact ⟨e0,rfl,rfl⟩
 refine ⟨hr.le,hr.fresh,⟨hr.inv.sig,fun i e hi=>?_,fun i i' e e' p p' hi hi'=>?_⟩,fun i e p hi hp=>?_,fun s v hv=>?_,hr.defers,hr.size,hr.fra,hr.pin⟩
 ·obtain ⟨e0,h0,rfl⟩:=hex hi
  have ho:=(hr.inv.obj _ _ h0).ext (X:=fun _=>False) (w':=w) (Sig.le_refl _) hE (fun j hj=>hj.elim) rfl fun _ _ _=>⟨rfl,rfl⟩
  cases e0 with
  | loop li fr s p =>
    obtain ⟨B,cc,r,h1,h2,h3,h4,h5⟩:=ho
    exact ⟨B,cc,r,h1,h2,h3,fun s v hv=>h4 s v (gj hv).2,h5⟩
  | _=>exact ho
 ·obtain ⟨e0,h0,_⟩:=hex hi
  obtain ⟨e1,h1,_⟩:=hex hi'
  exact hr.inv.inj _ _ _ _ _ _ h0 h1
 ·obtain ⟨e0,h0,_⟩:=hex hi
  exact hr.mine _ _ _ h0 hp
 ·obtain ⟨u,hu,hru⟩:=hr.slot s v hv
  exact ⟨u,hu,hru.ext (Sig.le_refl _) hE fun j hj=>hj.elim⟩
def w9(s : Sto) : List Nat→List Nat
 | []=>[]
 | i::r=>(match look s i with | some o=>xi o | none=>[]) ++ w9 s r
def lu : List Nat→List Nat
 | []=>[]
 | i::r=>bif Nat.blt i 1000000 then i::lu r else lu r
def Hn(n : Nat) : List Nat→Nat→Nat
 | [],_=>999999
 | j::r,i=>bif Nat.beq j i then n else Hn (n + 1) r i
def vq(L : List Nat)(i : Nat) : Nat:=bif Nat.ble 1000000 i then i else Hn 0 L i
def w8(fr : List (Nat×AV))(s : Sto)(keys L : List Nat) : Option St :=
 bif ch (aY (gD (keys ++ L) (eY s (keys ++ L)))) && ch (iE (vq L) (aY (gD (keys ++ L) (eY s (keys ++ L))))) && vp (vq L) (aY (gD (keys ++ L) (eY s (keys ++ L)))) &&
  bd (gD (keys ++ L) (eY s (keys ++ L))) (gD (keys ++ L) (eY s (keys ++ L))) && iF (gD (keys ++ L) (eY s (keys ++ L))) (bS (keys ++ L) fr []) then
  some ⟨cP (vq L) (bS (keys ++ L) fr []),fC (vq L) (gD (keys ++ L) (eY s (keys ++ L)))⟩ else none
theorem Rel.endTo{st st' : St}{fr2 : List (Nat×AV)}{keys L : List Nat}{a : Act}(hr : Rel c st a w σ φ)(hf : ∀ s v,look fr2 s = some v→look st.fr s = some v)(h : w8 fr2 st.sto keys L = some st') : ∃ φ',Rel c st' a w σ φ':=by
 unfold w8 at h
 generalize hS : gD (keys ++ L) (eY st.sto (keys ++ L)) = S at h
 cases hb : ch (aY S) && ch (iE (vq L) (aY S)) && vp (vq L) (aY S) && bd S S && iF S (bS (keys ++ L) fr2 []) <;> simp only [hb,cond_true,cond_false,reduceCtorEq,Option.some.injEq] at h
 subst h
 have h1:=(hr.dropTo (s':=eY st.sto (keys ++ L)) fun i e hi=>keepK_sub.look hi).weak (keys ++ L)
 simp only [hS] at h1
 exact h1.renameTo (fun s v hv=>hf s v (gj hv).2) hb
end Go.Abs
