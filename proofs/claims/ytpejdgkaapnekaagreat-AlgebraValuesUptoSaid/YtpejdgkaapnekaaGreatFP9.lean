import Derived.Test.YtpejdgkaapnekaaGreatFP8
import Derived.Test.YtpejdgkaapnekaaGreatFP7
set_option linter.unusedVariables false
set_option linter.unusedSimpArgs false
set_option maxHeartbeats 1000000
namespace Go.Abs
open Go
variable {P : Program} {c : Ctx} {T : Tab} {σ : Sig} {φ : Pl} {w : World}
abbrev Orc:=Option FuncId→Bool→List AV→Sto→Option (AV×Sto)
structure OrcOk (P : Program) (orc : Orc) : Prop where
 call : ∀ f b avs cs r s,orc (some f) b avs cs = some (r,s)→CallA P f avs cs r s
 yld : ∀ j b avs cs r s,orc none b (.one (.yl j)::avs) cs = some (r,s)→YieldA P j avs cs r s
def mx(l : List Nat)(m : Nat) : Nat:=match l with
 | []=>m
 | i::r=>mx r (bif Nat.ble m i && Nat.blt i 1000000 then i + 1 else m)
def Gd : List (Nat×AV)→Nat→Nat
 | [],m=>m
 | (_,v)::r,m=>Gd r (mx (cq v) m)
def i8 : List (Nat×AV)→List Nat
 | []=>[]
 | (_,v)::r=>cq v ++ i8 r
def vE : AObj→List Nat
 | .box cs=>nh cs
 | .loop _ fr _ _=>i8 fr
 | _=>[]
def Es : Sto→Nat→Nat
 | [],m=>m
 | (i,o)::r,m=>Es r (mx (i::vE o) m)
def ke(st : St) : Nat:=Es st.sto (Gd st.fr 0)
def dZ(st : St) : List Nat→Bool
 | []=>true
 | i::r=>!bQ st.sto i && !bY i st.fr && !br i st.sto && dZ st r
theorem eE{st : St} : ∀ {l : List Nat},dZ st l = true→my st l
 | [],_=>fun i h=>by simp at h
 | j::r,h=>by
   simp only [dZ,Bool.and_eq_true,Bool.not_eq_true'] at h
   intro i hi
   rcases List.mem_cons.1 hi with rfl | hi
   ·refine ⟨?_,h.1.1.2,h.1.2⟩
    cases hl : look st.sto i with
    | none=>rfl
    | some e=>have:=h.1.1.1; simp [bQ,hl] at this
   ·exact eE h.2 i hi
def i9 : List AV→List Nat
 | []=>[]
 | v::r=>cq v ++ i9 r
def gX(s : Sto) : Nat→List Nat→List Nat→List Nat
 | 0,_,acc=>acc
 | _ + 1,[],acc=>acc
 | n + 1,i::r,acc=>bif cC i acc then gX s n r acc else (match look s i with
   | none=>gX s n r acc
   | some o=>gX s n (vE o ++ r) (acc ++ [i]))
def gY(s : Sto) : List Nat→Option (List (Nat×AObj))
 | []=>some []
 | i::r=>match look s i with
   | some o=>(match gY s r with | some l=>some ((i,o)::l) | none=>none)
   | none=>none
def cb(n : Nat) : List Nat→List (Nat×Nat)
 | []=>[]
 | i::r=>(n,i)::cb (n + 1) r
def inv(n : Nat) : List Nat→Nat→Nat
 | [],_=>0
 | j::r,i=>bif Nat.beq j i then n else inv (n + 1) r i
def jB(ids : List Nat) : List Nat→Bool
 | []=>true
 | i::r=>cC i ids && jB ids r
def gp(q : Nat→Nat) : List (Nat×AObj)→Sto
 | []=>[]
 | (i,o)::r=>(q i,cS q o)::gp q r
def l9(ids : List Nat) : List (Nat×AObj)→Bool
 | []=>true
 | (i,o)::r=>cC i ids && jB ids (vE o) && l9 ids r
def sM : AObj→AObj→Bool
 | .box _,.box _=>true
 | .row k b xs,.row k' b' xs'=>Nat.beq k k' && Nat.beq b b' && Nat.ble xs.length xs'.length
 | .map kg vg _,.map kg' vg' _=>bEq kg kg' && bEq vg vg'
 | .loop _ _ _ _,.loop _ _ _ _=>true
 | _,_=>false
theorem zD{e o : AObj}(h : sM e o = true) : compat e o:=by
 cases e <;> cases o <;> simp only [sM,Bool.and_eq_true,reduceCtorEq] at h <;> simp only [compat]
 ·exact ⟨Nat.eq_of_beq_eq_true h.1.1,Nat.eq_of_beq_eq_true h.1.2,Nat.le_of_ble_eq_true h.2⟩
 ·exact ⟨gF h.1,gF h.2⟩
def fl(s : Sto)(ρ : List (Nat×Nat)) : Sto→Bool
 | []=>true
 | (j,o)::r=>(match look ρ j with
   | none=>true
   | some i=>match look s i with
     | none=>true
     | some e=>sM e o) && fl s ρ r
theorem vF{i : Nat} : ∀ {ids : List Nat} {n : Nat},cC i ids = true→n≤inv n ids i
 | [],_,h=>by simp [cC] at h
 | j::r,n,h=>by
   simp only [inv]
   cases hb : Nat.beq j i with
   | true=>exact Nat.le_refl _
   | false =>
     simp only [cC,hb,Bool.false_or] at h
     have:=vF (n:=n + 1) h
     simp only [cond_false]; omega
theorem ni{i : Nat} : ∀ {ids : List Nat} {n : Nat},cC i ids = true→look (cb n ids) (inv n ids i) = some i
 | [],_,h=>by simp [cC] at h
 | j::r,n,h=>by
   simp only [inv,cb]
   cases hb : Nat.beq j i with
   | true =>
     have:=Nat.eq_of_beq_eq_true hb; subst this
     exact bq
   | false =>
     simp only [cC,hb,Bool.false_or] at h
     have:=vF (n:=n + 1) h
     simp only [cond_false]
     rw [bx (by omega)]
     exact ni h
theorem sN{j i : Nat} : ∀ {ids : List Nat} {n : Nat},look (cb n ids) j = some i→i∈ids
 | [],_,h=>by simp [cb,look] at h
 | k::r,n,h=>by
   simp only [cb] at h
   rcases aB h with ⟨_,rfl⟩ | ⟨_,h⟩
   ·simp
   ·exact List.mem_cons_of_mem _ (sN h)
theorem oq{k i : Nat}{ids : List Nat}(h : cC i ids = true) : rn k (cb 1000000 ids) (inv 1000000 ids i) = i:=by
 have h1:=vF (n:=1000000) h
 have h2:=ni (n:=1000000) h
 unfold rn
 have hb : Nat.blt (inv 1000000 ids i) 16 = false:=by
  cases hb : Nat.blt (inv 1000000 ids i) 16 with
  | false=>rfl
  | true=>have:=Nat.le_of_ble_eq_true hb; omega
 rw [hb,h2]; rfl
section
variable {r q : Nat→Nat}
theorem vG{x : AC}(h : ∀ i∈eF x,r (q i) = i) : gG r (gG q x) = x:=by
 cases x <;> simp only [gG,eF,List.mem_singleton,forall_eq] at h ⊢ <;> rw [h]
theorem lA : ∀ {xs : List AC},(∀ i∈nh xs,r (q i) = i)→ja r (ja q xs) = xs
 | [],_=>rfl
 | x::xs,h=>by
   simp only [ja]
   rw [vG fun i hi=>h i (by simp [nh,hi]),lA fun i hi=>h i (by simp [nh,hi])]
theorem t6 : ∀ {xs : List (Bool×List AC)},(∀ i∈pA xs,r (q i) = i)→nj r (nj q xs) = xs
 | [],_=>rfl
 | (g,x)::xs,h=>by
   simp only [nj]
   rw [lA fun i hi=>h i (by simp [pA,hi]),t6 fun i hi=>h i (by simp [pA,hi])]
theorem vH{v : AV}(h : ∀ i∈cq v,r (q i) = i) : dO r (dO q v) = v:=by
 cases v with
 | one x=>simp only [dO]; rw [vG h]
 | agg xs=>simp only [dO]; rw [lA h]
 | tup xs=>simp only [dO]; rw [t6 h]
 | any=>rfl
theorem lB : ∀ {xs : List (Nat×AV)},(∀ i∈i8 xs,r (q i) = i)→dj r (dj q xs) = xs
 | [],_=>rfl
 | (s,x)::xs,h=>by
   simp only [dj]
   rw [vH fun i hi=>h i (by simp [i8,hi]),lB fun i hi=>h i (by simp [i8,hi])]
theorem CL{o : AObj}(h : ∀ i∈vE o,r (q i) = i) : cS r (cS q o) = o:=by
 cases o with
 | box xs=>simp only [cS]; rw [lA h]
 | loop li fr s p=>simp only [cS]; rw [lB h]
 | _=>rfl
theorem qD : ∀ {xs : List AV},(∀ i∈i9 xs,r (q i) = i)→da r (da q xs) = xs
 | [],_=>rfl
 | x::xs,h=>by
   simp only [da]
   rw [vH fun i hi=>h i (by simp [i9,hi]),qD fun i hi=>h i (by simp [i9,hi])]
end
theorem mz{ids : List Nat} : ∀ {l : List Nat},jB ids l = true→∀ i∈l,cC i ids = true
 | [],_,i,h=>by simp at h
 | j::r,h,i,hi=>by
   simp only [jB,Bool.and_eq_true] at h
   rcases List.mem_cons.1 hi with rfl | hi
   ·exact h.1
   ·exact mz h.2 i hi
theorem jb{s s2 : Sto} : ∀ {ids : List Nat},(∀ i∈ids,look s2 i = look s i)→gY s2 ids = gY s ids
 | [],_=>rfl
 | i::r,h=>by
   simp only [gY,h i List.mem_cons_self]
   rw [jb fun j hj=>h j (List.mem_cons_of_mem _ hj)]
theorem jc{fr : List (Nat×AV)}{s : Sto}{k : Nat}{ids : List Nat} : ∀ {l : List Nat} {os : List (Nat×AObj)},gY s l = some os→l9 ids os = true →
  Pass ⟨fr,s⟩ (rn k (cb 1000000 ids)) (cb 1000000 ids) (gp (inv 1000000 ids) os)
 | [],os,h,_=>by simp only [gY,Option.some.injEq] at h; subst h; trivial
 | i::r,os,h,ha=>by
   simp only [gY] at h
   split at h <;> (try (simp at h; done))
   rename_i o ho
   split at h <;> simp at h
   rename_i l hl
   subst h
   simp only [l9,Bool.and_eq_true] at ha
   refine ⟨⟨i,ni ha.1.1,?_⟩,jc hl ha.2⟩
   rw [CL fun i hi=>oq (mz ha.1.2 i hi)]
   exact ho
theorem ir{fr : List (Nat×AV)}{s s2 : Sto}{r : Nat→Nat}{ρ : List (Nat×Nat)}(h : ∀ j i,look ρ j = some i→look s2 i = look s i) : ∀ {rs : Sto},fl s ρ rs = true→CompatL ⟨fr,s2⟩ r ρ rs
 | [],_=>trivial
 | (j,o)::l,hb=>by
   simp only [fl,Bool.and_eq_true] at hb
   refine ⟨fun i e h1 h2=>?_,ir h hb.2⟩
   have h3:=hb.1
   rw [h1] at h3
   have h2' : look s i = some e:=(h j i h1).symm.trans h2
   simp only [h2'] at h3
   exact zD h3
theorem qE{s : Sto} : ∀ {ids : List Nat} {n : Nat},fF (cb n ids) s = d8 ids s
 | [],_=>rfl
 | i::r,n=>by simp only [cb,fF,d8,qE (ids:=r)]
def kT(k : Nat)(ids : List Nat)(rav : AV)(rs : Sto) : Tr:=⟨dO (rn k (cb 1000000 ids)) rav,sO (rn k (cb 1000000 ids)) rs ++ nk ids,ids,rng k 16⟩
theorem Bi{o : Oper}{st : St}{fop : Operand}{args : Array Operand}{ats : Array TypeId}{f : FuncId}{caps : List D}{avs : List AV}{rav : AV}{rs : Sto}{os : List (Nat×AObj)}(k : Nat)(ids : List Nat)
  (ho : o.op = .call { callee:=.value fop,args:=args,argTypes:=ats }) (hd : bu c.n o.dst = true) (hf : ev st fop = some (.one (.d (.fn f caps)))) (ha : evL st args.toList = some avs)
  (hos : gY st.sto ids = some os) (hsub : (jB ids (i9 avs) && l9 ids os) = true) (hC : CallA P f (da (inv 1000000 ids) avs ++ caps.map fun x=>.one (.d x)) (gp (inv 1000000 ids) os) rav rs)
  (hcm : fl st.sto (cb 1000000 ids) rs = true)
  (hk : (fm (cb 1000000 ids) && ij (cb 1000000 ids) && fX (gp (inv 1000000 ids) os) (cb 1000000 ids) && fG (cb 1000000 ids) && cW (cb 1000000 ids) rs && dD (gp (inv 1000000 ids) os) (da (inv 1000000 ids) avs ++ caps.map fun x=>.one (.d x)) &&
   bL (gp (inv 1000000 ids) os) (gp (inv 1000000 ids) os) && dr rs rav && bL rs rs && Nat.ble (k + 16) 1000000) = true) : Loc P c o st (kT k ids rav rs):=by
 intro st2 hs hri hnew ops rest K h
 have he : ∀ {x : Operand},x∈o.op.operands.toList→ev st2 x = ev st x:=fun hx=>eK hs hx
 rw [ho] at he
 have hri' : ∀ i∈ids,look st2.sto i = look st.sto i:=hri
 have ha2 : evL st2 args.toList = some avs:=(iH fun x hx=>he (by simp [Op.operands,Call.operands]; exact .inr (by simpa using hx))).trans ha
 simp only [Bool.and_eq_true] at hsub
 refine jZ (o:={ o with guard:=none }) k (cb 1000000 ids) ho rfl hd ((he (by simp [Op.operands,Call.operands])).trans hf) (cargs:=da (inv 1000000 ids) avs) ?_ hC
  (jc (fr:=st2.fr) ((jb hri').trans hos) hsub.2) (ir (fr:=st2.fr) (s:=st.sto) (fun j i hji=>hri' i (sN hji)) hcm) hk (fun i h1 h2=>hnew i (rng_mem.2 ⟨h1,h2⟩)) ?_
 ·rw [qD fun i hi=>oq (mz hsub.1 i hi)]
  exact ha2
 ·simp only [kT] at h
  rw [jC,jD] at h
  rw [qE]
  exact h
def hkB(k : Nat)(ids : List Nat)(cs : Sto)(cargs : List AV)(rav : AV)(rs : Sto) : Bool :=
 fm (cb 1000000 ids) && ij (cb 1000000 ids) && fX cs (cb 1000000 ids) && fG (cb 1000000 ids) && cW (cb 1000000 ids) rs && dD cs cargs && bL cs cs && dr rs rav && bL rs rs && Nat.ble (k + 16) 1000000
theorem Bj{o : Oper}{st : St}{fop : Operand}{args : Array Operand}{ats : Array TypeId}{i : Nat}{avs : List AV}{rav : AV}{rs : Sto}{os : List (Nat×AObj)}(k : Nat)(ids : List Nat)(hrd : c.rd = none)
  (ho : o.op = .call { callee:=.value fop,args:=args,argTypes:=ats }) (hd : bu c.n o.dst = true) (hf : ev st fop = some (.one (.yl i))) (ha : evL st args.toList = some avs)
  (hos : gY st.sto ids = some os) (hsub : (cC i ids && jB ids (i9 avs) && l9 ids os) = true) (hY : YieldA P (inv 1000000 ids i) (da (inv 1000000 ids) avs) (gp (inv 1000000 ids) os) rav rs)
  (hcm : fl st.sto (cb 1000000 ids) rs = true) (hk : hkB k ids (gp (inv 1000000 ids) os) (da (inv 1000000 ids) avs) rav rs = true) : Loc P c o st (kT k ids rav rs):=by
 intro st2 hs hri hnew ops rest K h
 have he : ∀ {x : Operand},x∈o.op.operands.toList→ev st2 x = ev st x:=fun hx=>eK hs hx
 rw [ho] at he
 have hri' : ∀ i∈ids,look st2.sto i = look st.sto i:=hri
 have ha2 : evL st2 args.toList = some avs:=(iH fun x hx=>he (by simp [Op.operands,Call.operands]; exact .inr (by simpa using hx))).trans ha
 simp only [Bool.and_eq_true] at hsub
 refine xY (o:={ o with guard:=none }) k (cb 1000000 ids) hrd ho rfl hd ((he (by simp [Op.operands,Call.operands])).trans hf) (ni hsub.1.1) (cargs:=da (inv 1000000 ids) avs) ?_ hY
  (jc (fr:=st2.fr) ((jb hri').trans hos) hsub.2) (ir (fr:=st2.fr) (s:=st.sto) (fun j i hji=>hri' i (sN hji)) hcm) hk (fun i h1 h2=>hnew i (rng_mem.2 ⟨h1,h2⟩)) ?_
 ·rw [qD fun i hi=>oq (mz hsub.1.2 i hi)]
  exact ha2
 ·simp only [kT] at h
  rw [jC,jD] at h
  rw [qE]
  exact h
theorem t7{o : Oper}{st : St}{fop : Operand}{args : Array Operand}{ats : Array TypeId}{f : FuncId}{caps : List D}{avs : List AV}{rav : AV}{rsto : Sto}{os : List (Nat×AObj)}(dl : List Nat)
  (ho : o.op = .call { callee:=.value fop,args:=args,argTypes:=ats }) (hd : bu c.n o.dst = true) (hos : dS st.sto dl = some os) (hf : evS os st fop = some (.one (.d (.fn f caps))))
  (ha : jE os st args.toList = some avs) (hD : cT avs = true) (hC : CallA P f (avs ++ caps.map fun x=>.one (.d x)) [] rav rsto) (hfl : eV rav = true) : Loc P c o st ⟨rav,[],dl,[]⟩:=by
 intro st2 hs hri hnew ops rest K h
 have he : ∀ {x : Operand},x∈o.op.operands.toList→ev st2 x = ev st x:=fun hx=>eK hs hx
 rw [ho] at he
 have hos2 : dS st2.sto dl = some os:=(je hri).trans hos
 obtain ⟨ss,h1,h2⟩:=gZ hos2
 have ha2 : evL ss args.toList = some avs:=by
  rw [k9 h2,lC (st:=st) fun x hx=>he (by simp [Op.operands,Call.operands]; exact .inr (by simpa using hx))]
  exact ha
 have hf2 : ev ss fop = some (.one (.d (.fn f caps))):=by
  rw [h2]
  unfold evS
  rw [he (x:=fop) (by simp [Op.operands,Call.operands])]
  exact hf
 exact iu (o:={ o with guard:=none }) ho rfl hd (fun a w σ φ hr=>by
  obtain ⟨σs,_,h3,_⟩:=Rel.sealL h1 hr
  exact ⟨σs,φ,h3⟩) hf2 ha2 hD hC hfl h
def Bk(orc : Orc)(ow : Bool)(id : Nat)(st : St)(f : FuncId)(caps : List D)(avs : List AV)(ids : List Nat) : Option Tr :=
 match gY st.sto ids with
 | some os=>(match orc (some f) ow (da (inv 1000000 ids) avs ++ caps.map fun x=>.one (.d x)) (gp (inv 1000000 ids) os) with
   | some (rav,rs)=>bif jB ids (i9 avs) && l9 ids os && fl st.sto (cb 1000000 ids) rs && hkB id ids (gp (inv 1000000 ids) os) (da (inv 1000000 ids) avs ++ caps.map fun x=>.one (.d x)) rav rs && dZ st (rng id 16) then some (kT id ids rav rs) else none
   | none=>none)
 | none=>none
def Bl(orc : Orc)(id : Nat)(st : St)(i : Nat)(avs : List AV)(ids : List Nat) : Option Tr :=
 match gY st.sto ids with
 | some os=>(match orc none false (.one (.yl (inv 1000000 ids i))::da (inv 1000000 ids) avs) (gp (inv 1000000 ids) os) with
   | some (rav,rs)=>bif (cC i ids && jB ids (i9 avs) && l9 ids os) && fl st.sto (cb 1000000 ids) rs && hkB id ids (gp (inv 1000000 ids) os) (da (inv 1000000 ids) avs) rav rs && dZ st (rng id 16) then some (kT id ids rav rs) else none
   | none=>none)
 | none=>none
def Bm(orc : Orc)(ow : Bool)(id : Nat)(st : St)(fop : Operand)(args : List Operand)(dl : List Nat) : Option Tr :=
 match dS st.sto dl with
 | some os=>(match evS os st fop,jE os st args with
   | some (.one (.d (.fn f caps))),some avs=>bif cT avs then (match orc (some f) ow (avs ++ caps.map fun x=>.one (.d x)) [] with
     | some (rav,rsto)=>bif eV rav then some ⟨rav,[],dl,[]⟩ else bif cW [] rsto && Nat.ble (id + 16) 1000000 && dr rsto rav && bL rsto rsto && dZ st (rng id 16) then some (la id dl dl rav rsto) else none
     | none=>none) else none
   | _,_=>none)
 | none=>none
def xTr(V : Env)(mf : FuncId→Bool)(orc : Orc)(yf ow : Bool)(id : Nat)(st : St)(o : Oper) : Option Tr :=
 match bw V st o id with
 | some e=>bif Nat.blt (id + 1) 1000000 && dZ st e.new then some (e.tr (qF st o.op)) else none
 | none=>match o.op with
   | .call { callee:=.value fop,args,.. }=>(match ev st fop with
     | some (.one (.d (.fn f caps)))=>bif mf f then
       (match evL st args.toList with
       | some avs=>Bk orc ow id st f caps avs (gX st.sto 1000 (i9 avs) [])
       | none=>none)
       else Bm orc ow id st fop args.toList (dp st.sto (cE st args.toList) [])
     | some (.one (.yl i))=>bif yf then
       (match evL st args.toList with
       | some avs=>Bl orc id st i avs (gX st.sto 1000 (i::i9 avs) [])
       | none=>none)
       else none
     | _=>none)
   | _=>none
theorem Bn{V : Env}(hV : EnvOk P V){mf : FuncId→Bool}{orc : Orc}(hO : OrcOk P orc){yf ow : Bool}(hy : yf = true→c.rd = none){id : Nat}{st : St}{o : Oper}{tr : Tr}(hd : bu c.n o.dst = true)(h : xTr V mf orc yf ow id st o = some tr) : Loc P c o st tr∧my st tr.new:=by
 unfold xTr at h
 split at h
 ·rename_i e he
  cases hb : Nat.blt (id + 1) 1000000 && dZ st e.new <;> simp only [hb,cond_true,cond_false,reduceCtorEq,Option.some.injEq] at h
  subst h
  rw [Bool.and_eq_true] at hb
  exact ⟨lD hV hd he hb.1,eE hb.2⟩
 split at h <;> (try (simp at h; done))
 rename_i fop args ats ho
 split at h <;> (try (simp at h; done))
 ·rename_i f0 caps0 hf0
  cases hm : mf f0 with
  | true =>
    simp only [hm,cond_true] at h
    split at h <;> (try (simp at h; done))
    rename_i avs ha
    generalize gX st.sto 1000 (i9 avs) [] = ids at h
    unfold Bk at h
    split at h <;> (try (simp at h; done))
    rename_i os hos
    split at h <;> (try (simp at h; done))
    rename_i rav rs hor
    cases hb : jB ids (i9 avs) && l9 ids os && fl st.sto (cb 1000000 ids) rs && hkB id ids (gp (inv 1000000 ids) os) (da (inv 1000000 ids) avs ++ caps0.map fun x=>.one (.d x)) rav rs && dZ st (rng id 16) <;> simp only [hb,cond_true,cond_false,reduceCtorEq,Option.some.injEq] at h
    subst h
    simp only [Bool.and_eq_true] at hb
    obtain ⟨⟨⟨⟨h1,h2⟩,h3⟩,h4⟩,h5⟩:=hb
    exact ⟨Bi id ids ho hd hf0 ha hos (by rw [Bool.and_eq_true]; exact ⟨h1,h2⟩) (hO.call _ _ _ _ _ _ hor) h3 h4,eE h5⟩
  | false =>
    simp only [hm,cond_false] at h
    generalize dp st.sto (cE st args.toList) [] = dl at h
    unfold Bm at h
    split at h <;> (try (simp at h; done))
    rename_i os hos
    split at h <;> (try (simp at h; done))
    rename_i f caps avs hf ha
    cases hD : cT avs <;> simp only [hD,cond_true,cond_false,reduceCtorEq] at h
    split at h <;> (try (simp at h; done))
    rename_i rav rsto hor
    cases hfl : eV rav with
    | true =>
      simp only [hfl,cond_true,Option.some.injEq] at h
      subst h
      exact ⟨t7 _ ho hd hos hf ha hD (hO.call _ _ _ _ _ _ hor) hfl,fun i hi=>by simp at hi⟩
    | false =>
    simp only [hfl,cond_false] at h
    cases hb : cW [] rsto && Nat.ble (id + 16) 1000000 && dr rsto rav && bL rsto rsto && dZ st (rng id 16) <;> simp only [hb,cond_true,cond_false,reduceCtorEq,Option.some.injEq] at h
    subst h
    rw [Bool.and_eq_true] at hb
    exact ⟨t8 id _ ho hd hos hf ha hD (hO.call _ _ _ _ _ _ hor) hb.1,eE hb.2⟩
 ·rename_i i hf0
  cases yf with
  | false=>simp at h
  | true =>
    simp only [cond_true] at h
    split at h <;> (try (simp at h; done))
    rename_i avs ha
    generalize gX st.sto 1000 (i::i9 avs) [] = ids at h
    unfold Bl at h
    split at h <;> (try (simp at h; done))
    rename_i os hos
    split at h <;> (try (simp at h; done))
    rename_i rav rs hor
    cases hb : (cC i ids && jB ids (i9 avs) && l9 ids os) && fl st.sto (cb 1000000 ids) rs && hkB id ids (gp (inv 1000000 ids) os) (da (inv 1000000 ids) avs) rav rs && dZ st (rng id 16) <;> simp only [hb,cond_true,cond_false,reduceCtorEq,Option.some.injEq] at h
    subst h
    rw [Bool.and_eq_true,Bool.and_eq_true,Bool.and_eq_true] at hb
    obtain ⟨⟨⟨h1,h3⟩,h4⟩,h5⟩:=hb
    exact ⟨Bj id ids (hy rfl) ho hd hf0 ha hos h1 (hO.yld _ _ _ _ _ _ hor) h3 h4,eE h5⟩
end Go.Abs
namespace Go.Abs
open Go
variable {P : Program} {c : Ctx} {T : Tab} {σ : Sig} {φ : Pl} {w : World}
def bJ : Sto→List Nat
 | []=>[]
 | (i,_)::r=>i::bJ r
def fi(s : Sto) : List Nat→Sto
 | []=>[]
 | i::r=>match look s i with
   | some o=>(i,o)::fi s r
   | none=>fi s r
theorem keepK_sub{s : Sto} : ∀ {l : List Nat},SubL s (fi s l)
 | []=>trivial
 | i::r=>by
   simp only [fi]
   cases h : look s i with
   | none=>exact keepK_sub
   | some o=>exact ⟨h,keepK_sub⟩
def cO : List Nat→Bool
 | []=>true
 | i::r=>!cC i r && cO r
def fI(r : Nat→Nat) : Sto→Sto
 | []=>[]
 | (i,o)::s=>(r i,cS r o)::fI r s
def im(r : Nat→Nat) : List Nat→List Nat
 | []=>[]
 | i::l=>r i::im r l
def tW(r : Nat→Nat) : List Nat→Bool
 | []=>true
 | i::l=>(bif Nat.ble 1000000 i then Nat.beq (r i) i else Nat.blt (r i) 1000000) && tW r l
theorem lc{s : Sto}{i : Nat}{o : AObj}(h : look s i = some o) : i∈bJ s:=by
 induction s with
 | nil=>simp [look] at h
 | cons p r ih =>
   obtain ⟨j,x⟩:=p
   rcases aB h with ⟨rfl,_⟩ | ⟨_,h⟩
   ·simp [bJ]
   ·simp [bJ,ih h]
theorem oe{r : Nat→Nat}{i : Nat} : ∀ {l : List Nat},i∈l→r i∈im r l
 | [],h=>by simp at h
 | j::l,h=>by
   rcases List.mem_cons.1 h with rfl | h
   ·simp [im]
   ·simp [im,oe h]
theorem lK{r : Nat→Nat} : ∀ {s : Sto},cO (im r (bJ s)) = true→∀ {i : Nat} {o : AObj},look s i = some o→look (fI r s) (r i) = some (cS r o)
 | [],_,_,_,h=>by simp [look] at h
 | (j,x)::l,hn,i,o,h=>by
   simp only [bJ,im,cO,Bool.and_eq_true,Bool.not_eq_true'] at hn
   simp only [fI]
   rcases aB h with ⟨rfl,rfl⟩ | ⟨hne,h⟩
   ·exact bq
   ·have : r i≠r j:=by
     intro e
     have h1 : r i∈im r (bJ l):=oe (lc h)
     rw [e] at h1
     have:=memL_iff.2 h1
     rw [hn.1] at this; cases this
    rw [bx this]
    exact lK hn.2 h
theorem dJ{r : Nat→Nat} : ∀ {s : Sto},cO (bJ s) = true→∀ {t : Nat} {e : AObj},look (fI r s) t = some e→∃ i o,t = r i∧look s i = some o∧e = cS r o
 | [],_,_,_,h=>by simp [fI,look] at h
 | (j,x)::l,hn,t,e,h=>by
   simp only [bJ,cO,Bool.and_eq_true,Bool.not_eq_true'] at hn
   simp only [fI] at h
   rcases aB h with ⟨rfl,rfl⟩ | ⟨_,h⟩
   ·exact ⟨j,x,rfl,bq,rfl⟩
   ·obtain ⟨i,o,h1,h2,h3⟩:=dJ hn.2 h
    refine ⟨i,o,h1,?_,h3⟩
    rw [bx]
    ·exact h2
    ·rintro rfl
     have:=memL_iff.2 (lc h2)
     rw [hn.1] at this; cases this
theorem lJ{r : Nat→Nat} : ∀ {l : List Nat},cO (im r l) = true→∀ {i j : Nat},i∈l→j∈l→r i = r j→i = j
 | [],_,_,_,h,_,_=>by simp at h
 | k::l,hn,i,j,hi,hj,e=>by
   simp only [im,cO,Bool.and_eq_true,Bool.not_eq_true'] at hn
   have hi1:=List.mem_cons.1 hi
   have hj1:=List.mem_cons.1 hj
   rcases hi1 with h1 | h1 <;> rcases hj1 with h2 | h2
   ·rw [h1,h2]
   ·have:=memL_iff.2 (oe (r:=r) h2); rw [← e,h1,hn.1] at this; cases this
   ·have:=memL_iff.2 (oe (r:=r) h1); rw [e,h2,hn.1] at this; cases this
   ·exact lJ hn.2 h1 h2 e
theorem zn{r : Nat→Nat} : ∀ {l : List Nat},tW r l = true→∀ {i : Nat},i∈l→(1000000≤i→r i = i)∧(i < 1000000→r i < 1000000)
 | [],_,_,h=>by simp at h
 | k::l,hn,i,hi=>by
   simp only [tW,Bool.and_eq_true] at hn
   rcases List.mem_cons.1 hi with rfl | hi
   ·have h1:=hn.1
    cases hb : Nat.ble 1000000 i with
    | true =>
      rw [hb] at h1
      have:=Nat.le_of_ble_eq_true hb
      exact ⟨fun _=>Nat.eq_of_beq_eq_true h1,fun h=>by omega⟩
    | false =>
      rw [hb] at h1
      have h2 : ¬ 1000000≤i:=by intro h; rw [Nat.ble_eq.mpr h] at hb; cases hb
      exact ⟨fun h=>absurd h h2,fun _=>Nat.le_of_ble_eq_true h1⟩
   ·exact zn hn.2 hi
theorem Rel.renameTo{fr fr2 : List (Nat×AV)}{S : Sto}{r : Nat→Nat}{a : Act}(hr : Rel c ⟨fr,S⟩ a w σ φ)(hf : ∀ s v,look fr2 s = some v→look fr s = some v)(hk : (cO (bJ S) && cO (im r (bJ S)) && tW r (bJ S) && bL S S && io S fr2) = true) :
  ∃ φ',Rel c ⟨dj r fr2,fI r S⟩ a w σ φ':=by
 simp only [Bool.and_eq_true] at hk
 obtain ⟨⟨⟨⟨h1,h2⟩,h3⟩,h4⟩,h5⟩:=hk
 classical
 let φ' : Pl:=fun t=>if h : ∃ i,i∈bJ S∧r i = t then φ h.choose else φ t
 have hφ : ∀ {i : Nat},i∈bJ S→φ' (r i) = φ i:=by
  intro i hi
  have hex : ∃ j,j∈bJ S∧r j = r i:=⟨i,hi,rfl⟩
  show (if h : ∃ j,j∈bJ S∧r j = r i then φ h.choose else φ (r i)) = φ i
  rw [dif_pos hex]
  have:=hex.choose_spec
  rw [lJ h2 this.1 hi this.2]
 have hR : ∀ j o,look S j = some o→look (fI r S) (r j) = some (cS r o)∧φ' (r j) = φ j:=fun j o hj=>⟨lK h2 hj,hφ (lc hj)⟩
 refine ⟨φ',hr.le,hr.fresh,⟨hr.inv.sig,fun t e ht=>?_,fun t t' e e' p p' ht ht' hne hp hp'=>?_⟩,fun t e p ht hp=>?_,fun s v hv=>?_,hr.defers,hr.size,hr.fra,fun t ht=>?_⟩
 ·obtain ⟨i,o,rfl,hi,rfl⟩:=dJ h1 ht
  exact ve hR hi (ff h4 hi) (hr.inv.obj _ _ hi)
 ·obtain ⟨i,o,rfl,hi,rfl⟩:=dJ h1 ht
  obtain ⟨i',o',rfl,hi',rfl⟩:=dJ h1 ht'
  rw [(hR _ _ hi).2] at hp
  rw [(hR _ _ hi').2] at hp'
  exact hr.inv.inj _ _ _ _ _ _ hi hi' (fun e=>hne (by rw [e])) hp hp'
 ·obtain ⟨i,o,rfl,hi,rfl⟩:=dJ h1 ht
  rw [(hR _ _ hi).2] at hp
  exact hr.mine _ _ _ hi hp
 ·rw [jk] at hv
  cases hl : look fr2 s with
  | none=>rw [hl] at hv; cases hv
  | some v0 =>
    rw [hl] at hv; cases hv
    obtain ⟨u,hu,hru⟩:=hr.slot s v0 (hf s v0 hl)
    exact ⟨u,hu,reV hR (kh h5 hl) hru⟩
 ·show (if h : ∃ j,j∈bJ S∧r j = t then φ h.choose else φ t) = _
  split
  ·rename_i hex
   have hs:=hex.choose_spec
   obtain ⟨f1,f2⟩:=zn h3 hs.1
   rcases Nat.lt_or_ge hex.choose 1000000 with h5 | h5
   ·have:=f2 h5; omega
   ·have:=f1 h5
    rw [hs.2] at this
    rw [← this]; exact hr.pin t ht
  ·exact hr.pin t ht
def cx(ids : List Nat) : List (Nat×AV)→List Nat→List (Nat×AV)
 | [],_=>[]
 | (s,v)::r,seen=>bif cC s seen then cx ids r seen else bif jB ids (cq v) then (s,v)::cx ids r (s::seen) else cx ids r (s::seen)
theorem gj{ids : List Nat} : ∀ {fr : List (Nat×AV)} {seen : List Nat} {s : Nat} {v : AV},look (cx ids fr seen) s = some v→cC s seen = false∧look fr s = some v
 | [],_,_,_,h=>by simp [cx,look] at h
 | (t,x)::r,seen,s,v,h=>by
   simp only [cx] at h
   have step : ∀ {seen' : List Nat},look (cx ids r (t::seen)) s = some v→cC s seen = false∧look ((t,x)::r) s = some v:=by
    intro _ h
    obtain ⟨h1,h2⟩:=gj h
    simp only [cC,Bool.or_eq_false_iff] at h1
    refine ⟨h1.2,?_⟩
    rw [bx]
    ·exact h2
    ·rintro rfl
     rw [Nat.beq_refl] at h1; cases h1.1
   cases hm : cC t seen with
   | true =>
     simp only [hm,cond_true] at h
     obtain ⟨h1,h2⟩:=gj h
     refine ⟨h1,?_⟩
     rw [bx]
     ·exact h2
     ·rintro rfl
      rw [hm] at h1; cases h1
   | false =>
     simp only [hm,cond_false] at h
     cases hs : jB ids (cq x) with
     | true =>
       simp only [hs,cond_true] at h
       rcases aB h with ⟨rfl,rfl⟩ | ⟨_,h⟩
       ·exact ⟨hm,bq⟩
       ·exact step (seen':=[]) h
     | false =>
       simp only [hs,cond_false] at h
       exact step (seen':=[]) h
theorem jj{ids : List Nat} : ∀ {fr : List (Nat×AV)} {seen : List Nat},∀ i∈i8 (cx ids fr seen),cC i ids = true
 | [],_,i,h=>by simp [cx,i8] at h
 | (t,x)::r,seen,i,h=>by
   simp only [cx] at h
   cases hm : cC t seen with
   | true=>simp only [hm,cond_true] at h; exact jj i h
   | false =>
     simp only [hm,cond_false] at h
     cases hs : jB ids (cq x) with
     | true =>
       simp only [hs,cond_true,i8,List.mem_append] at h
       rcases h with h | h
       ·exact mz hs i h
       ·exact jj i h
     | false=>simp only [hs,cond_false] at h; exact jj i h
def pX(ids : List Nat) : AObj→AObj
 | .loop li fr s p=>.loop li (cx ids fr []) s p
 | o=>o
def gC(ids : List Nat) : Sto→Sto
 | []=>[]
 | (i,o)::r=>(i,pX ids o)::gC ids r
theorem kR{ids : List Nat} : ∀ {s : Sto} {i : Nat},look (gC ids s) i = (look s i).map (pX ids)
 | [],_=>rfl
 | (j,o)::r,i=>by
   simp only [gC,look]
   cases Nat.beq j i with
   | true=>rfl
   | false=>simp only [cond_false]; exact kR
theorem xR{ids : List Nat}{o : AObj} : compat o (pX ids o):=by
 cases o <;> simp [pX,compat]
theorem Rel.weak{st : St}{a : Act}(hr : Rel c st a w σ φ)(ids : List Nat) : Rel c ⟨st.fr,gC ids st.sto⟩ a w σ φ:=by
 have hE : Ext (fun _=>False) φ φ st.sto (gC ids st.sto):=by
  intro i _
  cases hl : look st.sto i with
  | none=>exact .inl (by rw [kR,hl]; rfl)
  | some e=>exact .inr ⟨e,rfl,rfl,pX ids e,by rw [kR,hl]; rfl,xR⟩
 have hex : ∀ {i : Nat} {e : AObj},look (gC ids st.sto) i = some e→∃ e0,look st.sto i = some e0∧e = pX ids e0:=by
  intro i e h
  rw [kR] at h
  cases hl : look st.sto i with
  | none=>rw [hl] at h; cases h
  | some e0=>rw [hl] at h; cases h; exact ⟨e0,rfl,rfl⟩
 refine ⟨hr.le,hr.fresh,⟨hr.inv.sig,fun i e hi=>?_,fun i i' e e' p p' hi hi'=>?_⟩,fun i e p hi hp=>?_,fun s v hv=>?_,hr.defers,hr.size,hr.fra,hr.pin⟩
 ·obtain ⟨e0,h0,rfl⟩:=hex hi
  have ho:=(hr.inv.obj _ _ h0).ext (X:=fun _=>False) (w':=w) (Sig.le_refl _) hE (fun j hj=>hj.elim) rfl fun _ _ _=>⟨rfl,rfl⟩
  cases e0 with
  | loop li fr s p =>
    obtain ⟨B,cc,r,h1,h2,h3,h4,h5⟩:=ho
    exact ⟨B,cc,r,h1,h2,h3,fun s v hv=>h4 s v (gj hv).2,h5⟩
  | _=>exact ho
 ·obtain ⟨e0,h0,_⟩:=hex hi
  obtain ⟨e1,h1,_⟩:=hex hi'
  exact hr.inv.inj _ _ _ _ _ _ h0 h1
 ·obtain ⟨e0,h0,_⟩:=hex hi
  exact hr.mine _ _ _ h0 hp
 ·obtain ⟨u,hu,hru⟩:=hr.slot s v hv
  exact ⟨u,hu,hru.ext (Sig.le_refl _) hE fun j hj=>hj.elim⟩
def vr(s : Sto) : List Nat→List Nat
 | []=>[]
 | i::r=>(match look s i with | some o=>vE o | none=>[]) ++ vr s r
def kI : List Nat→List Nat
 | []=>[]
 | i::r=>bif Nat.blt i 1000000 then i::kI r else kI r
def EK(n : Nat) : List Nat→Nat→Nat
 | [],_=>999999
 | j::r,i=>bif Nat.beq j i then n else EK (n + 1) r i
def tX(L : List Nat)(i : Nat) : Nat:=bif Nat.ble 1000000 i then i else EK 0 L i
def vq(fr : List (Nat×AV))(s : Sto)(keys L : List Nat) : Option St :=
 bif cO (bJ (gC (keys ++ L) (fi s (keys ++ L)))) && cO (im (tX L) (bJ (gC (keys ++ L) (fi s (keys ++ L))))) && tW (tX L) (bJ (gC (keys ++ L) (fi s (keys ++ L)))) &&
  bL (gC (keys ++ L) (fi s (keys ++ L))) (gC (keys ++ L) (fi s (keys ++ L))) && io (gC (keys ++ L) (fi s (keys ++ L))) (cx (keys ++ L) fr []) then
  some ⟨dj (tX L) (cx (keys ++ L) fr []),fI (tX L) (gC (keys ++ L) (fi s (keys ++ L)))⟩ else none
theorem Rel.endTo{st st' : St}{fr2 : List (Nat×AV)}{keys L : List Nat}{a : Act}(hr : Rel c st a w σ φ)(hf : ∀ s v,look fr2 s = some v→look st.fr s = some v)(h : vq fr2 st.sto keys L = some st') : ∃ φ',Rel c st' a w σ φ':=by
 unfold vq at h
 generalize hS : gC (keys ++ L) (fi st.sto (keys ++ L)) = S at h
 cases hb : cO (bJ S) && cO (im (tX L) (bJ S)) && tW (tX L) (bJ S) && bL S S && io S (cx (keys ++ L) fr2 []) <;> simp only [hb,cond_true,cond_false,reduceCtorEq,Option.some.injEq] at h
 subst h
 have h1:=(hr.dropTo (s':=fi st.sto (keys ++ L)) fun i e hi=>keepK_sub.look hi).weak (keys ++ L)
 simp only [hS] at h1
 exact h1.renameTo (fun s v hv=>hf s v (gj hv).2) hb
end Go.Abs
