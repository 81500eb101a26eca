import Derived.Test.YtpejdgkaapnekaaGreatJP8
import Derived.Test.YtpejdgkaapnekaaGreatJP7
set_option linter.unusedVariables false
set_option linter.unusedSimpArgs false
set_option maxHeartbeats 1000000
namespace Go.Abs
open Go
variable {P : Program} {c : Ctx} {T : Tab} {σ : Sig} {φ : Pl} {w : World}
abbrev Orc:=Option FuncId→Bool→List AV→Sto→Option (AV×Sto)
structure OrcOk (P : Program) (orc : Orc) : Prop where
 call : ∀ f b avs cs r s,orc (some f) b avs cs = some (r,s)→CallA P f avs cs r s
 yld : ∀ j b avs cs r s,orc none b (.one (.yl j)::avs) cs = some (r,s)→YieldA P j avs cs r s
def mx(l : List Nat)(m : Nat) : Nat:=match l with
 | []=>m
 | i::r=>mx r (bif Nat.ble m i && Nat.blt i 1000000 then i + 1 else m)
def DH : List (Nat×AV)→Nat→Nat
 | [],m=>m
 | (_,v)::r,m=>DH r (mx (bJ v) m)
def gM : List (Nat×AV)→List Nat
 | []=>[]
 | (_,v)::r=>bJ v ++ gM r
def tC : AObj→List Nat
 | .box cs=>l5 cs
 | .loop _ fr _ _=>gM fr
 | _=>[]
def Ca : Sto→Nat→Nat
 | [],m=>m
 | (i,o)::r,m=>Ca r (mx (i::tC o) m)
def jf(st : St) : Nat:=Ca st.sto (DH st.fr 0)
def dj(st : St) : List Nat→Bool
 | []=>true
 | i::r=>!aZ st.sto i && !aT i st.fr && !aK i st.sto && dj st r
theorem ef{st : St} : ∀ {l : List Nat},dj st l = true→lA st l
 | [],_=>fun i h=>by simp at h
 | j::r,h=>by
   simp only [dj,Bool.and_eq_true,Bool.not_eq_true'] at h
   intro i hi
   rcases List.mem_cons.1 hi with rfl | hi
   ·refine ⟨?_,h.1.1.2,h.1.2⟩
    cases hl : look st.sto i with
    | none=>rfl
    | some e=>have:=h.1.1.1; simp [aZ,hl] at this
   ·exact ef h.2 i hi
def gN : List AV→List Nat
 | []=>[]
 | v::r=>bJ v ++ gN r
def fK(s : Sto) : Nat→List Nat→List Nat→List Nat
 | 0,_,acc=>acc
 | _ + 1,[],acc=>acc
 | n + 1,i::r,acc=>bif ck i acc then fK s n r acc else (match look s i with
   | none=>fK s n r acc
   | some o=>fK s n (tC o ++ r) (acc ++ [i]))
def gk(s : Sto) : List Nat→Option (List (Nat×AObj))
 | []=>some []
 | i::r=>match look s i with
   | some o=>(match gk s r with | some l=>some ((i,o)::l) | none=>none)
   | none=>none
def bK(n : Nat) : List Nat→List (Nat×Nat)
 | []=>[]
 | i::r=>(n,i)::bK (n + 1) r
def inv(n : Nat) : List Nat→Nat→Nat
 | [],_=>0
 | j::r,i=>bif Nat.beq j i then n else inv (n + 1) r i
def iv(ids : List Nat) : List Nat→Bool
 | []=>true
 | i::r=>ck i ids && iv ids r
def fq(q : Nat→Nat) : List (Nat×AObj)→Sto
 | []=>[]
 | (i,o)::r=>(q i,cz q o)::fq q r
def kW(ids : List Nat) : List (Nat×AObj)→Bool
 | []=>true
 | (i,o)::r=>ck i ids && iv ids (tC o) && kW ids r
def qY : AObj→AObj→Bool
 | .box _,.box _=>true
 | .row k b xs,.row k' b' xs'=>Nat.beq k k' && Nat.beq b b' && Nat.ble xs.length xs'.length
 | .map kg vg _,.map kg' vg' _=>bEq kg kg' && bEq vg vg'
 | .loop _ _ _ _,.loop _ _ _ _=>true
 | _,_=>false
theorem xq{e o : AObj}(h : qY e o = true) : compat e o:=by
 cases e <;> cases o <;> simp only [qY,Bool.and_eq_true,reduceCtorEq] at h <;> simp only [compat]
 ·exact ⟨Nat.eq_of_beq_eq_true h.1.1,Nat.eq_of_beq_eq_true h.1.2,Nat.le_of_ble_eq_true h.2⟩
 ·exact ⟨ft h.1,ft h.2⟩
def eu(s : Sto)(ρ : List (Nat×Nat)) : Sto→Bool
 | []=>true
 | (j,o)::r=>(match look ρ j with
   | none=>true
   | some i=>match look s i with
     | none=>true
     | some e=>qY e o) && eu s ρ r
theorem tD{i : Nat} : ∀ {ids : List Nat} {n : Nat},ck i ids = true→n≤inv n ids i
 | [],_,h=>by simp [ck] at h
 | j::r,n,h=>by
   simp only [inv]
   cases hb : Nat.beq j i with
   | true=>exact Nat.le_refl _
   | false =>
     simp only [ck,hb,Bool.false_or] at h
     have:=tD (n:=n + 1) h
     simp only [cond_false]; omega
theorem l6{i : Nat} : ∀ {ids : List Nat} {n : Nat},ck i ids = true→look (bK n ids) (inv n ids i) = some i
 | [],_,h=>by simp [ck] at h
 | j::r,n,h=>by
   simp only [inv,bK]
   cases hb : Nat.beq j i with
   | true =>
     have:=Nat.eq_of_beq_eq_true hb; subst this
     exact ay
   | false =>
     simp only [ck,hb,Bool.false_or] at h
     have:=tD (n:=n + 1) h
     simp only [cond_false]
     rw [aG (by omega)]
     exact l6 h
theorem qZ{j i : Nat} : ∀ {ids : List Nat} {n : Nat},look (bK n ids) j = some i→i∈ids
 | [],_,h=>by simp [bK,look] at h
 | k::r,n,h=>by
   simp only [bK] at h
   rcases ae h with ⟨_,rfl⟩ | ⟨_,h⟩
   ·simp
   ·exact List.mem_cons_of_mem _ (qZ h)
theorem pV{k i : Nat}{ids : List Nat}(h : ck i ids = true) : rn k (bK 1000000 ids) (inv 1000000 ids i) = i:=by
 have h1:=tD (n:=1000000) h
 have h2:=l6 (n:=1000000) h
 unfold rn
 have hb : Nat.blt (inv 1000000 ids i) 16 = false:=by
  cases hb : Nat.blt (inv 1000000 ids i) 16 with
  | false=>rfl
  | true=>have:=Nat.le_of_ble_eq_true hb; omega
 rw [hb,h2]; rfl
section
variable {r q : Nat→Nat}
theorem tE{x : AC}(h : ∀ i∈dO x,r (q i) = i) : fX r (fX q x) = x:=by
 cases x <;> simp only [fX,dO,List.mem_singleton,forall_eq] at h ⊢ <;> rw [h]
theorem kq : ∀ {xs : List AC},(∀ i∈l5 xs,r (q i) = i)→gO r (gO q xs) = xs
 | [],_=>rfl
 | x::xs,h=>by
   simp only [gO]
   rw [tE fun i hi=>h i (by simp [l5,hi]),kq fun i hi=>h i (by simp [l5,hi])]
theorem rR : ∀ {xs : List (Bool×List AC)},(∀ i∈nV xs,r (q i) = i)→l7 r (l7 q xs) = xs
 | [],_=>rfl
 | (g,x)::xs,h=>by
   simp only [l7]
   rw [kq fun i hi=>h i (by simp [nV,hi]),rR fun i hi=>h i (by simp [nV,hi])]
theorem tF{v : AV}(h : ∀ i∈bJ v,r (q i) = i) : dF r (dF q v) = v:=by
 cases v with
 | one x=>simp only [dF]; rw [tE h]
 | agg xs=>simp only [dF]; rw [kq h]
 | tup xs=>simp only [dF]; rw [rR h]
 | any=>rfl
theorem mV : ∀ {xs : List (Nat×AV)},(∀ i∈gM xs,r (q i) = i)→dt r (dt q xs) = xs
 | [],_=>rfl
 | (s,x)::xs,h=>by
   simp only [dt]
   rw [tF fun i hi=>h i (by simp [gM,hi]),mV fun i hi=>h i (by simp [gM,hi])]
theorem AU{o : AObj}(h : ∀ i∈tC o,r (q i) = i) : cz r (cz q o) = o:=by
 cases o with
 | box xs=>simp only [cz]; rw [kq h]
 | loop li fr s p=>simp only [cz]; rw [mV h]
 | _=>rfl
theorem o5 : ∀ {xs : List AV},(∀ i∈gN xs,r (q i) = i)→c6 r (c6 q xs) = xs
 | [],_=>rfl
 | x::xs,h=>by
   simp only [c6]
   rw [tF fun i hi=>h i (by simp [gN,hi]),o5 fun i hi=>h i (by simp [gN,hi])]
end
theorem lB{ids : List Nat} : ∀ {l : List Nat},iv ids l = true→∀ i∈l,ck i ids = true
 | [],_,i,h=>by simp at h
 | j::r,h,i,hi=>by
   simp only [iv,Bool.and_eq_true] at h
   rcases List.mem_cons.1 hi with rfl | hi
   ·exact h.1
   ·exact lB h.2 i hi
theorem jz{s s2 : Sto} : ∀ {ids : List Nat},(∀ i∈ids,look s2 i = look s i)→gk s2 ids = gk s ids
 | [],_=>rfl
 | i::r,h=>by
   simp only [gk,h i List.mem_cons_self]
   rw [jz fun j hj=>h j (List.mem_cons_of_mem _ hj)]
theorem jA{fr : List (Nat×AV)}{s : Sto}{k : Nat}{ids : List Nat} : ∀ {l : List Nat} {os : List (Nat×AObj)},gk s l = some os→kW ids os = true →
  Pass ⟨fr,s⟩ (rn k (bK 1000000 ids)) (bK 1000000 ids) (fq (inv 1000000 ids) os)
 | [],os,h,_=>by simp only [gk,Option.some.injEq] at h; subst h; trivial
 | i::r,os,h,ha=>by
   simp only [gk] at h
   split at h <;> (try (simp at h; done))
   rename_i o ho
   split at h <;> simp at h
   rename_i l hl
   subst h
   simp only [kW,Bool.and_eq_true] at ha
   refine ⟨⟨i,l6 ha.1.1,?_⟩,jA hl ha.2⟩
   rw [AU fun i hi=>pV (lB ha.1.2 i hi)]
   exact ho
theorem iU{fr : List (Nat×AV)}{s s2 : Sto}{r : Nat→Nat}{ρ : List (Nat×Nat)}(h : ∀ j i,look ρ j = some i→look s2 i = look s i) : ∀ {rs : Sto},eu s ρ rs = true→CompatL ⟨fr,s2⟩ r ρ rs
 | [],_=>trivial
 | (j,o)::l,hb=>by
   simp only [eu,Bool.and_eq_true] at hb
   refine ⟨fun i e h1 h2=>?_,iU h hb.2⟩
   have h3:=hb.1
   rw [h1] at h3
   have h2' : look s i = some e:=(h j i h1).symm.trans h2
   simp only [h2'] at h3
   exact xq h3
theorem o6{s : Sto} : ∀ {ids : List Nat} {n : Nat},eF (bK n ids) s = dn ids s
 | [],_=>rfl
 | i::r,n=>by simp only [bK,eF,dn,o6 (ids:=r)]
def jL(k : Nat)(ids : List Nat)(rav : AV)(rs : Sto) : Tr:=⟨dF (rn k (bK 1000000 ids)) rav,q5 (rn k (bK 1000000 ids)) rs ++ mW ids,ids,rng k 16⟩
theorem y8{o : Oper}{st : St}{fop : Operand}{args : Array Operand}{ats : Array TypeId}{f : FuncId}{caps : List D}{avs : List AV}{rav : AV}{rs : Sto}{os : List (Nat×AObj)}(k : Nat)(ids : List Nat)
  (ho : o.op = .call { callee:=.value fop,args:=args,argTypes:=ats }) (hd : aH c.n o.dst = true) (hf : ev st fop = some (.one (.d (.fn f caps)))) (ha : evL st args.toList = some avs)
  (hos : gk st.sto ids = some os) (hsub : (iv ids (gN avs) && kW ids os) = true) (hC : CallA P f (c6 (inv 1000000 ids) avs ++ caps.map fun x=>.one (.d x)) (fq (inv 1000000 ids) os) rav rs)
  (hcm : eu st.sto (bK 1000000 ids) rs = true)
  (hk : (eT (bK 1000000 ids) && gP (bK 1000000 ids) && fL (fq (inv 1000000 ids) os) (bK 1000000 ids) && fu (bK 1000000 ids) && cA (bK 1000000 ids) rs && fM (fq (inv 1000000 ids) os) (c6 (inv 1000000 ids) avs ++ caps.map fun x=>.one (.d x)) &&
   bt (fq (inv 1000000 ids) os) (fq (inv 1000000 ids) os) && dp rs rav && bt rs rs && Nat.ble (k + 16) 1000000) = true) : Loc P c o st (jL k ids rav rs):=by
 intro st2 hs hri hnew ops rest K h
 have he : ∀ {x : Operand},x∈o.op.operands.toList→ev st2 x = ev st x:=fun hx=>ed hs hx
 rw [ho] at he
 have hri' : ∀ i∈ids,look st2.sto i = look st.sto i:=hri
 have ha2 : evL st2 args.toList = some avs:=(iw fun x hx=>he (by simp [Op.operands,Call.operands]; exact .inr (by simpa using hx))).trans ha
 simp only [Bool.and_eq_true] at hsub
 refine kX (o:={ o with guard:=none }) k (bK 1000000 ids) ho rfl hd ((he (by simp [Op.operands,Call.operands])).trans hf) (cargs:=c6 (inv 1000000 ids) avs) ?_ hC
  (jA (fr:=st2.fr) ((jz hri').trans hos) hsub.2) (iU (fr:=st2.fr) (s:=st.sto) (fun j i hji=>hri' i (qZ hji)) hcm) hk (fun i h1 h2=>hnew i (rng_mem.2 ⟨h1,h2⟩)) ?_
 ·rw [o5 fun i hi=>pV (lB hsub.1 i hi)]
  exact ha2
 ·simp only [jL] at h
  rw [iy,iA] at h
  rw [o6]
  exact h
def hkB(k : Nat)(ids : List Nat)(cs : Sto)(cargs : List AV)(rav : AV)(rs : Sto) : Bool :=
 eT (bK 1000000 ids) && gP (bK 1000000 ids) && fL cs (bK 1000000 ids) && fu (bK 1000000 ids) && cA (bK 1000000 ids) rs && fM cs cargs && bt cs cs && dp rs rav && bt rs rs && Nat.ble (k + 16) 1000000
theorem y9{o : Oper}{st : St}{fop : Operand}{args : Array Operand}{ats : Array TypeId}{i : Nat}{avs : List AV}{rav : AV}{rs : Sto}{os : List (Nat×AObj)}(k : Nat)(ids : List Nat)(hrd : c.rd = none)
  (ho : o.op = .call { callee:=.value fop,args:=args,argTypes:=ats }) (hd : aH c.n o.dst = true) (hf : ev st fop = some (.one (.yl i))) (ha : evL st args.toList = some avs)
  (hos : gk st.sto ids = some os) (hsub : (ck i ids && iv ids (gN avs) && kW ids os) = true) (hY : YieldA P (inv 1000000 ids i) (c6 (inv 1000000 ids) avs) (fq (inv 1000000 ids) os) rav rs)
  (hcm : eu st.sto (bK 1000000 ids) rs = true) (hk : hkB k ids (fq (inv 1000000 ids) os) (c6 (inv 1000000 ids) avs) rav rs = true) : Loc P c o st (jL k ids rav rs):=by
 intro st2 hs hri hnew ops rest K h
 have he : ∀ {x : Operand},x∈o.op.operands.toList→ev st2 x = ev st x:=fun hx=>ed hs hx
 rw [ho] at he
 have hri' : ∀ i∈ids,look st2.sto i = look st.sto i:=hri
 have ha2 : evL st2 args.toList = some avs:=(iw fun x hx=>he (by simp [Op.operands,Call.operands]; exact .inr (by simpa using hx))).trans ha
 simp only [Bool.and_eq_true] at hsub
 refine vJ (o:={ o with guard:=none }) k (bK 1000000 ids) hrd ho rfl hd ((he (by simp [Op.operands,Call.operands])).trans hf) (l6 hsub.1.1) (cargs:=c6 (inv 1000000 ids) avs) ?_ hY
  (jA (fr:=st2.fr) ((jz hri').trans hos) hsub.2) (iU (fr:=st2.fr) (s:=st.sto) (fun j i hji=>hri' i (qZ hji)) hcm) hk (fun i h1 h2=>hnew i (rng_mem.2 ⟨h1,h2⟩)) ?_
 ·rw [o5 fun i hi=>pV (lB hsub.1.2 i hi)]
  exact ha2
 ·simp only [jL] at h
  rw [iy,iA] at h
  rw [o6]
  exact h
theorem za{o : Oper}{st : St}{fop : Operand}{args : Array Operand}{ats : Array TypeId}{f : FuncId}{caps : List D}{avs : List AV}{rav : AV}{rsto : Sto}{os : List (Nat×AObj)}(dl : List Nat)
  (ho : o.op = .call { callee:=.value fop,args:=args,argTypes:=ats }) (hd : aH c.n o.dst = true) (hos : dA st.sto dl = some os) (hf : evS os st fop = some (.one (.d (.fn f caps))))
  (ha : jU os st args.toList = some avs) (hD : cm avs = true) (hC : CallA P f (avs ++ caps.map fun x=>.one (.d x)) [] rav rsto) (hfl : fN rav = true) : Loc P c o st ⟨rav,[],dl,[]⟩:=by
 intro st2 hs hri hnew ops rest K h
 have he : ∀ {x : Operand},x∈o.op.operands.toList→ev st2 x = ev st x:=fun hx=>ed hs hx
 rw [ho] at he
 have hos2 : dA st2.sto dl = some os:=(gQ hri).trans hos
 obtain ⟨ss,h1,h2⟩:=fO hos2
 have ha2 : evL ss args.toList = some avs:=by
  rw [jV h2,kr (st:=st) fun x hx=>he (by simp [Op.operands,Call.operands]; exact .inr (by simpa using hx))]
  exact ha
 have hf2 : ev ss fop = some (.one (.d (.fn f caps))):=by
  rw [h2]
  unfold evS
  rw [he (x:=fop) (by simp [Op.operands,Call.operands])]
  exact hf
 exact gb (o:={ o with guard:=none }) ho rfl hd (fun a w σ φ hr=>by
  obtain ⟨σs,_,h3,_⟩:=Rel.sealL h1 hr
  exact ⟨σs,φ,h3⟩) hf2 ha2 hD hC hfl h
def zb(orc : Orc)(ow : Bool)(id : Nat)(st : St)(f : FuncId)(caps : List D)(avs : List AV)(ids : List Nat) : Option Tr :=
 match gk st.sto ids with
 | some os=>(match orc (some f) ow (c6 (inv 1000000 ids) avs ++ caps.map fun x=>.one (.d x)) (fq (inv 1000000 ids) os) with
   | some (rav,rs)=>bif iv ids (gN avs) && kW ids os && eu st.sto (bK 1000000 ids) rs && hkB id ids (fq (inv 1000000 ids) os) (c6 (inv 1000000 ids) avs ++ caps.map fun x=>.one (.d x)) rav rs && dj st (rng id 16) then some (jL id ids rav rs) else none
   | none=>none)
 | none=>none
def zc(orc : Orc)(id : Nat)(st : St)(i : Nat)(avs : List AV)(ids : List Nat) : Option Tr :=
 match gk st.sto ids with
 | some os=>(match orc none false (.one (.yl (inv 1000000 ids i))::c6 (inv 1000000 ids) avs) (fq (inv 1000000 ids) os) with
   | some (rav,rs)=>bif (ck i ids && iv ids (gN avs) && kW ids os) && eu st.sto (bK 1000000 ids) rs && hkB id ids (fq (inv 1000000 ids) os) (c6 (inv 1000000 ids) avs) rav rs && dj st (rng id 16) then some (jL id ids rav rs) else none
   | none=>none)
 | none=>none
def zd(orc : Orc)(ow : Bool)(id : Nat)(st : St)(fop : Operand)(args : List Operand)(dl : List Nat) : Option Tr :=
 match dA st.sto dl with
 | some os=>(match evS os st fop,jU os st args with
   | some (.one (.d (.fn f caps))),some avs=>bif cm avs then (match orc (some f) ow (avs ++ caps.map fun x=>.one (.d x)) [] with
     | some (rav,rsto)=>bif fN rav then some ⟨rav,[],dl,[]⟩ else bif cA [] rsto && Nat.ble (id + 16) 1000000 && dp rsto rav && bt rsto rsto && dj st (rng id 16) then some (jW id dl dl rav rsto) else none
     | none=>none) else none
   | _,_=>none)
 | none=>none
def xTr(V : Env)(mf : FuncId→Bool)(orc : Orc)(yf ow : Bool)(id : Nat)(st : St)(o : Oper) : Option Tr :=
 match aM V st o id with
 | some e=>bif Nat.blt (id + 1) 1000000 && dj st e.new then some (e.tr (o7 st o.op)) else none
 | none=>match o.op with
   | .call { callee:=.value fop,args,.. }=>(match ev st fop with
     | some (.one (.d (.fn f caps)))=>bif mf f then
       (match evL st args.toList with
       | some avs=>zb orc ow id st f caps avs (fK st.sto 1000 (gN avs) [])
       | none=>none)
       else zd orc ow id st fop args.toList (cM st.sto (b0 st args.toList) [])
     | some (.one (.yl i))=>bif yf then
       (match evL st args.toList with
       | some avs=>zc orc id st i avs (fK st.sto 1000 (i::gN avs) [])
       | none=>none)
       else none
     | _=>none)
   | _=>none
theorem ze{V : Env}(hV : EnvOk P V){mf : FuncId→Bool}{orc : Orc}(hO : OrcOk P orc){yf ow : Bool}(hy : yf = true→c.rd = none){id : Nat}{st : St}{o : Oper}{tr : Tr}(hd : aH c.n o.dst = true)(h : xTr V mf orc yf ow id st o = some tr) : Loc P c o st tr∧lA st tr.new:=by
 unfold xTr at h
 split at h
 ·rename_i e he
  cases hb : Nat.blt (id + 1) 1000000 && dj st e.new <;> simp only [hb,cond_true,cond_false,reduceCtorEq,Option.some.injEq] at h
  subst h
  rw [Bool.and_eq_true] at hb
  exact ⟨ku hV hd he hb.1,ef hb.2⟩
 split at h <;> (try (simp at h; done))
 rename_i fop args ats ho
 split at h <;> (try (simp at h; done))
 ·rename_i f0 caps0 hf0
  cases hm : mf f0 with
  | true =>
    simp only [hm,cond_true] at h
    split at h <;> (try (simp at h; done))
    rename_i avs ha
    generalize fK st.sto 1000 (gN avs) [] = ids at h
    unfold zb at h
    split at h <;> (try (simp at h; done))
    rename_i os hos
    split at h <;> (try (simp at h; done))
    rename_i rav rs hor
    cases hb : iv ids (gN avs) && kW ids os && eu st.sto (bK 1000000 ids) rs && hkB id ids (fq (inv 1000000 ids) os) (c6 (inv 1000000 ids) avs ++ caps0.map fun x=>.one (.d x)) rav rs && dj st (rng id 16) <;> simp only [hb,cond_true,cond_false,reduceCtorEq,Option.some.injEq] at h
    subst h
    simp only [Bool.and_eq_true] at hb
    obtain ⟨⟨⟨⟨h1,h2⟩,h3⟩,h4⟩,h5⟩:=hb
    exact ⟨y8 id ids ho hd hf0 ha hos (by rw [Bool.and_eq_true]; exact ⟨h1,h2⟩) (hO.call _ _ _ _ _ _ hor) h3 h4,ef h5⟩
  | false =>
    simp only [hm,cond_false] at h
    generalize cM st.sto (b0 st args.toList) [] = dl at h
    unfold zd at h
    split at h <;> (try (simp at h; done))
    rename_i os hos
    split at h <;> (try (simp at h; done))
    rename_i f caps avs hf ha
    cases hD : cm avs <;> simp only [hD,cond_true,cond_false,reduceCtorEq] at h
    split at h <;> (try (simp at h; done))
    rename_i rav rsto hor
    cases hfl : fN rav with
    | true =>
      simp only [hfl,cond_true,Option.some.injEq] at h
      subst h
      exact ⟨za _ ho hd hos hf ha hD (hO.call _ _ _ _ _ _ hor) hfl,fun i hi=>by simp at hi⟩
    | false =>
    simp only [hfl,cond_false] at h
    cases hb : cA [] rsto && Nat.ble (id + 16) 1000000 && dp rsto rav && bt rsto rsto && dj st (rng id 16) <;> simp only [hb,cond_true,cond_false,reduceCtorEq,Option.some.injEq] at h
    subst h
    rw [Bool.and_eq_true] at hb
    exact ⟨zf id _ ho hd hos hf ha hD (hO.call _ _ _ _ _ _ hor) hb.1,ef hb.2⟩
 ·rename_i i hf0
  cases yf with
  | false=>simp at h
  | true =>
    simp only [cond_true] at h
    split at h <;> (try (simp at h; done))
    rename_i avs ha
    generalize fK st.sto 1000 (i::gN avs) [] = ids at h
    unfold zc at h
    split at h <;> (try (simp at h; done))
    rename_i os hos
    split at h <;> (try (simp at h; done))
    rename_i rav rs hor
    cases hb : (ck i ids && iv ids (gN avs) && kW ids os) && eu st.sto (bK 1000000 ids) rs && hkB id ids (fq (inv 1000000 ids) os) (c6 (inv 1000000 ids) avs) rav rs && dj st (rng id 16) <;> simp only [hb,cond_true,cond_false,reduceCtorEq,Option.some.injEq] at h
    subst h
    rw [Bool.and_eq_true,Bool.and_eq_true,Bool.and_eq_true] at hb
    obtain ⟨⟨⟨h1,h3⟩,h4⟩,h5⟩:=hb
    exact ⟨y9 id ids (hy rfl) ho hd hf0 ha hos h1 (hO.yld _ _ _ _ _ _ hor) h3 h4,ef h5⟩
end Go.Abs
namespace Go.Abs
open Go
variable {P : Program} {c : Ctx} {T : Tab} {σ : Sig} {φ : Pl} {w : World}
def bq : Sto→List Nat
 | []=>[]
 | (i,_)::r=>i::bq r
def ep(s : Sto) : List Nat→Sto
 | []=>[]
 | i::r=>match look s i with
   | some o=>(i,o)::ep s r
   | none=>ep s r
theorem keepK_sub{s : Sto} : ∀ {l : List Nat},SubL s (ep s l)
 | []=>trivial
 | i::r=>by
   simp only [ep]
   cases h : look s i with
   | none=>exact keepK_sub
   | some o=>exact ⟨h,keepK_sub⟩
def dM : List Nat→Bool
 | []=>true
 | i::r=>!ck i r && dM r
def jY(r : Nat→Nat) : Sto→Sto
 | []=>[]
 | (i,o)::s=>(r i,cz r o)::jY r s
def iC(r : Nat→Nat) : List Nat→List Nat
 | []=>[]
 | i::l=>r i::iC r l
def rN(r : Nat→Nat) : List Nat→Bool
 | []=>true
 | i::l=>(bif Nat.ble 1000000 i then Nat.beq (r i) i else Nat.blt (r i) 1000000) && rN r l
theorem ma{s : Sto}{i : Nat}{o : AObj}(h : look s i = some o) : i∈bq s:=by
 induction s with
 | nil=>simp [look] at h
 | cons p r ih =>
   obtain ⟨j,x⟩:=p
   rcases ae h with ⟨rfl,_⟩ | ⟨_,h⟩
   ·simp [bq]
   ·simp [bq,ih h]
theorem mP{r : Nat→Nat}{i : Nat} : ∀ {l : List Nat},i∈l→r i∈iC r l
 | [],h=>by simp at h
 | j::l,h=>by
   rcases List.mem_cons.1 h with rfl | h
   ·simp [iC]
   ·simp [iC,mP h]
theorem mZ{r : Nat→Nat} : ∀ {s : Sto},dM (iC r (bq s)) = true→∀ {i : Nat} {o : AObj},look s i = some o→look (jY r s) (r i) = some (cz r o)
 | [],_,_,_,h=>by simp [look] at h
 | (j,x)::l,hn,i,o,h=>by
   simp only [bq,iC,dM,Bool.and_eq_true,Bool.not_eq_true'] at hn
   simp only [jY]
   rcases ae h with ⟨rfl,rfl⟩ | ⟨hne,h⟩
   ·exact ay
   ·have : r i≠r j:=by
     intro e
     have h1 : r i∈iC r (bq l):=mP (ma h)
     rw [e] at h1
     have:=memL_iff.2 h1
     rw [hn.1] at this; cases this
    rw [aG this]
    exact mZ hn.2 h
theorem ek{r : Nat→Nat} : ∀ {s : Sto},dM (bq s) = true→∀ {t : Nat} {e : AObj},look (jY r s) t = some e→∃ i o,t = r i∧look s i = some o∧e = cz r o
 | [],_,_,_,h=>by simp [jY,look] at h
 | (j,x)::l,hn,t,e,h=>by
   simp only [bq,dM,Bool.and_eq_true,Bool.not_eq_true'] at hn
   simp only [jY] at h
   rcases ae h with ⟨rfl,rfl⟩ | ⟨_,h⟩
   ·exact ⟨j,x,rfl,ay,rfl⟩
   ·obtain ⟨i,o,h1,h2,h3⟩:=ek hn.2 h
    refine ⟨i,o,h1,?_,h3⟩
    rw [aG]
    ·exact h2
    ·rintro rfl
     have:=memL_iff.2 (ma h2)
     rw [hn.1] at this; cases this
theorem mY{r : Nat→Nat} : ∀ {l : List Nat},dM (iC r l) = true→∀ {i j : Nat},i∈l→j∈l→r i = r j→i = j
 | [],_,_,_,h,_,_=>by simp at h
 | k::l,hn,i,j,hi,hj,e=>by
   simp only [iC,dM,Bool.and_eq_true,Bool.not_eq_true'] at hn
   have hi1:=List.mem_cons.1 hi
   have hj1:=List.mem_cons.1 hj
   rcases hi1 with h1 | h1 <;> rcases hj1 with h2 | h2
   ·rw [h1,h2]
   ·have:=memL_iff.2 (mP (r:=r) h2); rw [← e,h1,hn.1] at this; cases this
   ·have:=memL_iff.2 (mP (r:=r) h1); rw [e,h2,hn.1] at this; cases this
   ·exact mY hn.2 h1 h2 e
theorem xf{r : Nat→Nat} : ∀ {l : List Nat},rN r l = true→∀ {i : Nat},i∈l→(1000000≤i→r i = i)∧(i < 1000000→r i < 1000000)
 | [],_,_,h=>by simp at h
 | k::l,hn,i,hi=>by
   simp only [rN,Bool.and_eq_true] at hn
   rcases List.mem_cons.1 hi with rfl | hi
   ·have h1:=hn.1
    cases hb : Nat.ble 1000000 i with
    | true =>
      rw [hb] at h1
      have:=Nat.le_of_ble_eq_true hb
      exact ⟨fun _=>Nat.eq_of_beq_eq_true h1,fun h=>by omega⟩
    | false =>
      rw [hb] at h1
      have h2 : ¬ 1000000≤i:=by intro h; rw [Nat.ble_eq.mpr h] at hb; cases hb
      exact ⟨fun h=>absurd h h2,fun _=>Nat.le_of_ble_eq_true h1⟩
   ·exact xf hn.2 hi
theorem Rel.renameTo{fr fr2 : List (Nat×AV)}{S : Sto}{r : Nat→Nat}{a : Act}(hr : Rel c ⟨fr,S⟩ a w σ φ)(hf : ∀ s v,look fr2 s = some v→look fr s = some v)(hk : (dM (bq S) && dM (iC r (bq S)) && rN r (bq S) && bt S S && kY S fr2) = true) :
  ∃ φ',Rel c ⟨dt r fr2,jY r S⟩ a w σ φ':=by
 simp only [Bool.and_eq_true] at hk
 obtain ⟨⟨⟨⟨h1,h2⟩,h3⟩,h4⟩,h5⟩:=hk
 classical
 let φ' : Pl:=fun t=>if h : ∃ i,i∈bq S∧r i = t then φ h.choose else φ t
 have hφ : ∀ {i : Nat},i∈bq S→φ' (r i) = φ i:=by
  intro i hi
  have hex : ∃ j,j∈bq S∧r j = r i:=⟨i,hi,rfl⟩
  show (if h : ∃ j,j∈bq S∧r j = r i then φ h.choose else φ (r i)) = φ i
  rw [dif_pos hex]
  have:=hex.choose_spec
  rw [mY h2 this.1 hi this.2]
 have hR : ∀ j o,look S j = some o→look (jY r S) (r j) = some (cz r o)∧φ' (r j) = φ j:=fun j o hj=>⟨mZ h2 hj,hφ (ma hj)⟩
 refine ⟨φ',hr.le,hr.fresh,⟨hr.inv.sig,fun t e ht=>?_,fun t t' e e' p p' ht ht' hne hp hp'=>?_⟩,fun t e p ht hp=>?_,fun s v hv=>?_,hr.defers,hr.size,hr.fra,fun t ht=>?_⟩
 ·obtain ⟨i,o,rfl,hi,rfl⟩:=ek h1 ht
  exact xv hR hi (fR h4 hi) (hr.inv.obj _ _ hi)
 ·obtain ⟨i,o,rfl,hi,rfl⟩:=ek h1 ht
  obtain ⟨i',o',rfl,hi',rfl⟩:=ek h1 ht'
  rw [(hR _ _ hi).2] at hp
  rw [(hR _ _ hi').2] at hp'
  exact hr.inv.inj _ _ _ _ _ _ hi hi' (fun e=>hne (by rw [e])) hp hp'
 ·obtain ⟨i,o,rfl,hi,rfl⟩:=ek h1 ht
  rw [(hR _ _ hi).2] at hp
  exact hr.mine _ _ _ hi hp
 ·rw [gV] at hv
  cases hl : look fr2 s with
  | none=>rw [hl] at hv; cases hv
  | some v0 =>
    rw [hl] at hv; cases hv
    obtain ⟨u,hu,hru⟩:=hr.slot s v0 (hf s v0 hl)
    exact ⟨u,hu,reV hR (jg h5 hl) hru⟩
 ·show (if h : ∃ j,j∈bq S∧r j = t then φ h.choose else φ t) = _
  split
  ·rename_i hex
   have hs:=hex.choose_spec
   obtain ⟨f1,f2⟩:=xf h3 hs.1
   rcases Nat.lt_or_ge hex.choose 1000000 with h5 | h5
   ·have:=f2 h5; omega
   ·have:=f1 h5
    rw [hs.2] at this
    rw [← this]; exact hr.pin t ht
  ·exact hr.pin t ht
def cE(ids : List Nat) : List (Nat×AV)→List Nat→List (Nat×AV)
 | [],_=>[]
 | (s,v)::r,seen=>bif ck s seen then cE ids r seen else bif iv ids (bJ v) then (s,v)::cE ids r (s::seen) else cE ids r (s::seen)
theorem gi{ids : List Nat} : ∀ {fr : List (Nat×AV)} {seen : List Nat} {s : Nat} {v : AV},look (cE ids fr seen) s = some v→ck s seen = false∧look fr s = some v
 | [],_,_,_,h=>by simp [cE,look] at h
 | (t,x)::r,seen,s,v,h=>by
   simp only [cE] at h
   have step : ∀ {seen' : List Nat},look (cE ids r (t::seen)) s = some v→ck s seen = false∧look ((t,x)::r) s = some v:=by
    intro _ h
    obtain ⟨h1,h2⟩:=gi h
    simp only [ck,Bool.or_eq_false_iff] at h1
    refine ⟨h1.2,?_⟩
    rw [aG]
    ·exact h2
    ·rintro rfl
     rw [Nat.beq_refl] at h1; cases h1.1
   cases hm : ck t seen with
   | true =>
     simp only [hm,cond_true] at h
     obtain ⟨h1,h2⟩:=gi h
     refine ⟨h1,?_⟩
     rw [aG]
     ·exact h2
     ·rintro rfl
      rw [hm] at h1; cases h1
   | false =>
     simp only [hm,cond_false] at h
     cases hs : iv ids (bJ x) with
     | true =>
       simp only [hs,cond_true] at h
       rcases ae h with ⟨rfl,rfl⟩ | ⟨_,h⟩
       ·exact ⟨hm,ay⟩
       ·exact step (seen':=[]) h
     | false =>
       simp only [hs,cond_false] at h
       exact step (seen':=[]) h
theorem jG{ids : List Nat} : ∀ {fr : List (Nat×AV)} {seen : List Nat},∀ i∈gM (cE ids fr seen),ck i ids = true
 | [],_,i,h=>by simp [cE,gM] at h
 | (t,x)::r,seen,i,h=>by
   simp only [cE] at h
   cases hm : ck t seen with
   | true=>simp only [hm,cond_true] at h; exact jG i h
   | false =>
     simp only [hm,cond_false] at h
     cases hs : iv ids (bJ x) with
     | true =>
       simp only [hs,cond_true,gM,List.mem_append] at h
       rcases h with h | h
       ·exact lB hs i h
       ·exact jG i h
     | false=>simp only [hs,cond_false] at h; exact jG i h
def oA(ids : List Nat) : AObj→AObj
 | .loop li fr s p=>.loop li (cE ids fr []) s p
 | o=>o
def fm(ids : List Nat) : Sto→Sto
 | []=>[]
 | (i,o)::r=>(i,oA ids o)::fm ids r
theorem jI{ids : List Nat} : ∀ {s : Sto} {i : Nat},look (fm ids s) i = (look s i).map (oA ids)
 | [],_=>rfl
 | (j,o)::r,i=>by
   simp only [fm,look]
   cases Nat.beq j i with
   | true=>rfl
   | false=>simp only [cond_false]; exact jI
theorem vE{ids : List Nat}{o : AObj} : compat o (oA ids o):=by
 cases o <;> simp [oA,compat]
theorem Rel.weak{st : St}{a : Act}(hr : Rel c st a w σ φ)(ids : List Nat) : Rel c ⟨st.fr,fm ids st.sto⟩ a w σ φ:=by
 have hE : Ext (fun _=>False) φ φ st.sto (fm ids st.sto):=by
  intro i _
  cases hl : look st.sto i with
  | none=>exact .inl (by rw [jI,hl]; rfl)
  | some e=>exact .inr ⟨e,rfl,rfl,oA ids e,by rw [jI,hl]; rfl,vE⟩
 have hex : ∀ {i : Nat} {e : AObj},look (fm ids st.sto) i = some e→∃ e0,look st.sto i = some e0∧e = oA ids e0:=by
  intro i e h
  rw [jI] at h
  cases hl : look st.sto i with
  | none=>rw [hl] at h; cases h
  | some e0=>rw [hl] at h; cases h; exact ⟨e0,rfl,rfl⟩
 refine ⟨hr.le,hr.fresh,⟨hr.inv.sig,fun i e hi=>?_,fun i i' e e' p p' hi hi'=>?_⟩,fun i e p hi hp=>?_,fun s v hv=>?_,hr.defers,hr.size,hr.fra,hr.pin⟩
 ·obtain ⟨e0,h0,rfl⟩:=hex hi
  have ho:=(hr.inv.obj _ _ h0).ext (X:=fun _=>False) (w':=w) (Sig.le_refl _) hE (fun j hj=>hj.elim) rfl fun _ _ _=>⟨rfl,rfl⟩
  cases e0 with
  | loop li fr s p =>
    obtain ⟨B,cc,r,h1,h2,h3,h4,h5⟩:=ho
    exact ⟨B,cc,r,h1,h2,h3,fun s v hv=>h4 s v (gi hv).2,h5⟩
  | _=>exact ho
 ·obtain ⟨e0,h0,_⟩:=hex hi
  obtain ⟨e1,h1,_⟩:=hex hi'
  exact hr.inv.inj _ _ _ _ _ _ h0 h1
 ·obtain ⟨e0,h0,_⟩:=hex hi
  exact hr.mine _ _ _ h0 hp
 ·obtain ⟨u,hu,hru⟩:=hr.slot s v hv
  exact ⟨u,hu,hru.ext (Sig.le_refl _) hE fun j hj=>hj.elim⟩
def tu(s : Sto) : List Nat→List Nat
 | []=>[]
 | i::r=>(match look s i with | some o=>tC o | none=>[]) ++ tu s r
def ox : List Nat→List Nat
 | []=>[]
 | i::r=>bif Nat.blt i 1000000 then i::ox r else ox r
def CC(n : Nat) : List Nat→Nat→Nat
 | [],_=>999999
 | j::r,i=>bif Nat.beq j i then n else CC (n + 1) r i
def rO(L : List Nat)(i : Nat) : Nat:=bif Nat.ble 1000000 i then i else CC 0 L i
def tt(fr : List (Nat×AV))(s : Sto)(keys L : List Nat) : Option St :=
 bif dM (bq (fm (keys ++ L) (ep s (keys ++ L)))) && dM (iC (rO L) (bq (fm (keys ++ L) (ep s (keys ++ L))))) && rN (rO L) (bq (fm (keys ++ L) (ep s (keys ++ L)))) &&
  bt (fm (keys ++ L) (ep s (keys ++ L))) (fm (keys ++ L) (ep s (keys ++ L))) && kY (fm (keys ++ L) (ep s (keys ++ L))) (cE (keys ++ L) fr []) then
  some ⟨dt (rO L) (cE (keys ++ L) fr []),jY (rO L) (fm (keys ++ L) (ep s (keys ++ L)))⟩ else none
theorem Rel.endTo{st st' : St}{fr2 : List (Nat×AV)}{keys L : List Nat}{a : Act}(hr : Rel c st a w σ φ)(hf : ∀ s v,look fr2 s = some v→look st.fr s = some v)(h : tt fr2 st.sto keys L = some st') : ∃ φ',Rel c st' a w σ φ':=by
 unfold tt at h
 generalize hS : fm (keys ++ L) (ep st.sto (keys ++ L)) = S at h
 cases hb : dM (bq S) && dM (iC (rO L) (bq S)) && rN (rO L) (bq S) && bt S S && kY S (cE (keys ++ L) fr2 []) <;> simp only [hb,cond_true,cond_false,reduceCtorEq,Option.some.injEq] at h
 subst h
 have h1:=(hr.dropTo (s':=ep st.sto (keys ++ L)) fun i e hi=>keepK_sub.look hi).weak (keys ++ L)
 simp only [hS] at h1
 exact h1.renameTo (fun s v hv=>hf s v (gi hv).2) hb
end Go.Abs
