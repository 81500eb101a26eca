import Derived.Test.YtpejdgkaapnekaaGreatWP8
import Derived.Test.YtpejdgkaapnekaaGreatWP7
set_option linter.unusedVariables false
set_option linter.unusedSimpArgs false
set_option linter.unnecessarySimpa false
set_option maxHeartbeats 1000000
namespace Go.Abs
open Go
variable {P : Program} {c : Ctx} {T : Tab} {σ : Sig} {φ : Pl} {w : World}
abbrev Orc:=Option FuncId→Bool→List AV→Sto→Option (AV×Sto)
structure OrcOk (P : Program) (orc : Orc) : Prop where
 call : ∀ f b avs cs r s,orc (some f) b avs cs = some (r,s)→CallA P f avs cs r s
 yld : ∀ j b avs cs r s,orc none b (.one (.yl j)::avs) cs = some (r,s)→YieldA P j avs cs r s
def mx(l : List Nat)(m : Nat) : Nat:=match l with
 | []=>m
 | i::r=>mx r (bif Nat.ble m i && Nat.blt i 1000000 then i + 1 else m)
def Ip : List (Nat×AV)→Nat→Nat
 | [],m=>m
 | (_,v)::r,m=>Ip r (mx (bQ v) m)
def jl : List (Nat×AV)→List Nat
 | []=>[]
 | (_,v)::r=>bQ v ++ jl r
def w9 : AObj→List Nat
 | .box cs=>nY cs
 | .loop _ fr _ _=>jl fr
 | _=>[]
def GB : Sto→Nat→Nat
 | [],m=>m
 | (i,o)::r,m=>GB r (mx (i::w9 o) m)
def kA(st : St) : Nat:=GB st.sto (Ip st.fr 0)
def dz(st : St) : List Nat→Bool
 | []=>true
 | i::r=>!bc st.sto i && !bm i st.fr && !aC i st.sto && dz st r
theorem dZ{st : St} : ∀ {l : List Nat},dz st l = true→mZ st l
 | [],_=>fun i h=>by simp at h
 | j::r,h=>by
   simp only [dz,Bool.and_eq_true,Bool.not_eq_true'] at h
   intro i hi
   rcases List.mem_cons.1 hi with rfl | hi
   ·refine ⟨?_,h.1.1.2,h.1.2⟩
    cases hl : look st.sto i with
    | none=>rfl
    | some e=>have:=h.1.1.1; simp [bc,hl] at this
   ·exact dZ h.2 i hi
def jm : List AV→List Nat
 | []=>[]
 | v::r=>bQ v ++ jm r
def gZ(s : Sto) : Nat→List Nat→List Nat→List Nat
 | 0,_,acc=>acc
 | _ + 1,[],acc=>acc
 | n + 1,i::r,acc=>bif b5 i acc then gZ s n r acc else (match look s i with
   | none=>gZ s n r acc
   | some o=>gZ s n (w9 o ++ r) (acc ++ [i]))
def hJ(s : Sto) : List Nat→Option (List (Nat×AObj))
 | []=>some []
 | i::r=>match look s i with
   | some o=>(match hJ s r with | some l=>some ((i,o)::l) | none=>none)
   | none=>none
def bC(n : Nat) : List Nat→List (Nat×Nat)
 | []=>[]
 | i::r=>(n,i)::bC (n + 1) r
def inv(n : Nat) : List Nat→Nat→Nat
 | [],_=>0
 | j::r,i=>bif Nat.beq j i then n else inv (n + 1) r i
def jP(ids : List Nat) : List Nat→Bool
 | []=>true
 | i::r=>b5 i ids && jP ids r
def gl(q : Nat→Nat) : List (Nat×AObj)→Sto
 | []=>[]
 | (i,o)::r=>(q i,cu q o)::gl q r
def mI(ids : List Nat) : List (Nat×AObj)→Bool
 | []=>true
 | (i,o)::r=>b5 i ids && jP ids (w9 o) && mI ids r
def tS : AObj→AObj→Bool
 | .box _,.box _=>true
 | .row k b xs,.row k' b' xs'=>Nat.beq k k' && Nat.beq b b' && Nat.ble xs.length xs'.length
 | .map kg vg _,.map kg' vg' _=>bEq kg kg' && bEq vg vg'
 | .loop _ _ _ _,.loop _ _ _ _=>true
 | _,_=>false
theorem Bv{e o : AObj}(h : tS e o = true) : compat e o:=by
 cases e <;> cases o <;> simp only [tS,Bool.and_eq_true,reduceCtorEq] at h <;> simp only [compat]
 ·exact ⟨Nat.eq_of_beq_eq_true h.1.1,Nat.eq_of_beq_eq_true h.1.2,Nat.le_of_ble_eq_true h.2⟩
 ·exact ⟨gE h.1,gE h.2⟩
def eY(s : Sto)(ρ : List (Nat×Nat)) : Sto→Bool
 | []=>true
 | (j,o)::r=>(match look ρ j with
   | none=>true
   | some i=>match look s i with
     | none=>true
     | some e=>tS e o) && eY s ρ r
theorem xa{i : Nat} : ∀ {ids : List Nat} {n : Nat},b5 i ids = true→n≤inv n ids i
 | [],_,h=>by simp [b5] at h
 | j::r,n,h=>by
   simp only [inv]
   cases hb : Nat.beq j i with
   | true=>exact Nat.le_refl _
   | false =>
     simp only [b5,hb,Bool.false_or] at h
     have:=xa (n:=n + 1) h
     simp only [cond_false]; omega
theorem nZ{i : Nat} : ∀ {ids : List Nat} {n : Nat},b5 i ids = true→look (bC n ids) (inv n ids i) = some i
 | [],_,h=>by simp [b5] at h
 | j::r,n,h=>by
   simp only [inv,bC]
   cases hb : Nat.beq j i with
   | true =>
     have:=Nat.eq_of_beq_eq_true hb; subst this
     exact ay
   | false =>
     simp only [b5,hb,Bool.false_or] at h
     have:=xa (n:=n + 1) h
     simp only [cond_false]
     rw [aD (by omega)]
     exact nZ h
theorem tT{j i : Nat} : ∀ {ids : List Nat} {n : Nat},look (bC n ids) j = some i→i∈ids
 | [],_,h=>by simp [bC,look] at h
 | k::r,n,h=>by
   simp only [bC] at h
   rcases ah h with ⟨_,rfl⟩ | ⟨_,h⟩
   ·simp
   ·exact List.mem_cons_of_mem _ (tT h)
theorem o9{k i : Nat}{ids : List Nat}(h : b5 i ids = true) : rn k (bC 1000000 ids) (inv 1000000 ids i) = i:=by
 have h1:=xa (n:=1000000) h
 have h2:=nZ (n:=1000000) h
 unfold rn
 have hb : Nat.blt (inv 1000000 ids i) 16 = false:=by
  cases hb : Nat.blt (inv 1000000 ids i) 16 with
  | false=>rfl
  | true=>have:=Nat.le_of_ble_eq_true hb; omega
 rw [hb,h2]; rfl
section
variable {r q : Nat→Nat}
theorem xb{x : AC}(h : ∀ i∈ea x,r (q i) = i) : gF r (gF q x) = x:=by
 cases x <;> simp only [gF,ea,List.mem_singleton,forall_eq] at h ⊢ <;> rw [h]
theorem l9 : ∀ {xs : List AC},(∀ i∈nY xs,r (q i) = i)→jn r (jn q xs) = xs
 | [],_=>rfl
 | x::xs,h=>by
   simp only [jn]
   rw [xb fun i hi=>h i (by simp [nY,hi]),l9 fun i hi=>h i (by simp [nY,hi])]
theorem vc : ∀ {xs : List (Bool×List AC)},(∀ i∈qn xs,r (q i) = i)→n4 r (n4 q xs) = xs
 | [],_=>rfl
 | (g,x)::xs,h=>by
   simp only [n4]
   rw [l9 fun i hi=>h i (by simp [qn,hi]),vc fun i hi=>h i (by simp [qn,hi])]
theorem xc{v : AV}(h : ∀ i∈bQ v,r (q i) = i) : dp r (dp q v) = v:=by
 cases v with
 | one x=>simp only [dp]; rw [xb h]
 | agg xs=>simp only [dp]; rw [l9 h]
 | tup xs=>simp only [dp]; rw [vc h]
 | any=>rfl
theorem ma : ∀ {xs : List (Nat×AV)},(∀ i∈jl xs,r (q i) = i)→cN r (cN q xs) = xs
 | [],_=>rfl
 | (s,x)::xs,h=>by
   simp only [cN]
   rw [xc fun i hi=>h i (by simp [jl,hi]),ma fun i hi=>h i (by simp [jl,hi])]
theorem EV{o : AObj}(h : ∀ i∈w9 o,r (q i) = i) : cu r (cu q o) = o:=by
 cases o with
 | box xs=>simp only [cu]; rw [l9 h]
 | loop li fr s p=>simp only [cu]; rw [ma h]
 | _=>rfl
theorem rH : ∀ {xs : List AV},(∀ i∈jm xs,r (q i) = i)→cE r (cE q xs) = xs
 | [],_=>rfl
 | x::xs,h=>by
   simp only [cE]
   rw [xc fun i hi=>h i (by simp [jm,hi]),rH fun i hi=>h i (by simp [jm,hi])]
end
theorem nc{ids : List Nat} : ∀ {l : List Nat},jP ids l = true→∀ i∈l,b5 i ids = true
 | [],_,i,h=>by simp at h
 | j::r,h,i,hi=>by
   simp only [jP,Bool.and_eq_true] at h
   rcases List.mem_cons.1 hi with rfl | hi
   ·exact h.1
   ·exact nc h.2 i hi
theorem jo{s s2 : Sto} : ∀ {ids : List Nat},(∀ i∈ids,look s2 i = look s i)→hJ s2 ids = hJ s ids
 | [],_=>rfl
 | i::r,h=>by
   simp only [hJ,h i List.mem_cons_self]
   rw [jo fun j hj=>h j (List.mem_cons_of_mem _ hj)]
theorem jq{fr : List (Nat×AV)}{s : Sto}{k : Nat}{ids : List Nat} : ∀ {l : List Nat} {os : List (Nat×AObj)},hJ s l = some os→mI ids os = true →
  Pass ⟨fr,s⟩ (rn k (bC 1000000 ids)) (bC 1000000 ids) (gl (inv 1000000 ids) os)
 | [],os,h,_=>by simp only [hJ,Option.some.injEq] at h; subst h; trivial
 | i::r,os,h,ha=>by
   simp only [hJ] at h
   split at h <;> (try (simp at h; done))
   rename_i o ho
   split at h <;> simp at h
   rename_i l hl
   subst h
   simp only [mI,Bool.and_eq_true] at ha
   refine ⟨⟨i,nZ ha.1.1,?_⟩,jq hl ha.2⟩
   rw [EV fun i hi=>o9 (nc ha.1.2 i hi)]
   exact ho
theorem iB{fr : List (Nat×AV)}{s s2 : Sto}{r : Nat→Nat}{ρ : List (Nat×Nat)}(h : ∀ j i,look ρ j = some i→look s2 i = look s i) : ∀ {rs : Sto},eY s ρ rs = true→CompatL ⟨fr,s2⟩ r ρ rs
 | [],_=>trivial
 | (j,o)::l,hb=>by
   simp only [eY,Bool.and_eq_true] at hb
   refine ⟨fun i e h1 h2=>?_,iB h hb.2⟩
   have h3:=hb.1
   rw [h1] at h3
   have h2' : look s i = some e:=(h j i h1).symm.trans h2
   simp only [h2'] at h3
   exact Bv h3
theorem rI{s : Sto} : ∀ {ids : List Nat} {n : Nat},fm (bC n ids) s = dA ids s
 | [],_=>rfl
 | i::r,n=>by simp only [bC,fm,dA,rI (ids:=r)]
def lA(k : Nat)(ids : List Nat)(rav : AV)(rs : Sto) : Tr:=⟨dp (rn k (bC 1000000 ids)) rav,tU (rn k (bC 1000000 ids)) rs ++ n5 ids,ids,rng k 16⟩
theorem Dh{o : Oper}{st : St}{fop : Operand}{args : Array Operand}{ats : Array TypeId}{f : FuncId}{caps : List D}{avs : List AV}{rav : AV}{rs : Sto}{os : List (Nat×AObj)}(k : Nat)(ids : List Nat)
  (ho : o.op = .call { callee:=.value fop,args:=args,argTypes:=ats }) (hd : aF c.n o.dst = true) (hf : ev st fop = some (.one (.d (.fn f caps)))) (ha : evL st args.toList = some avs)
  (hos : hJ st.sto ids = some os) (hsub : (jP ids (jm avs) && mI ids os) = true) (hC : CallA P f (cE (inv 1000000 ids) avs ++ caps.map fun x=>.one (.d x)) (gl (inv 1000000 ids) os) rav rs)
  (hcm : eY st.sto (bC 1000000 ids) rs = true)
  (hk : (eZ (bC 1000000 ids) && ir (bC 1000000 ids) && fJ (gl (inv 1000000 ids) os) (bC 1000000 ids) && fo (bC 1000000 ids) && ch (bC 1000000 ids) rs && c7 (gl (inv 1000000 ids) os) (cE (inv 1000000 ids) avs ++ caps.map fun x=>.one (.d x)) &&
   aY (gl (inv 1000000 ids) os) (gl (inv 1000000 ids) os) && cO rs rav && aY rs rs && Nat.ble (k + 16) 1000000) = true) : Loc P c o st (lA k ids rav rs):=by
 intro st2 hs hri hnew ops rest K h
 have he : ∀ {x : Operand},x∈o.op.operands.toList→ev st2 x = ev st x:=fun hx=>ej hs hx
 rw [ho] at he
 have hri' : ∀ i∈ids,look st2.sto i = look st.sto i:=hri
 have ha2 : evL st2 args.toList = some avs:=(iN fun x hx=>he (by simp [Op.operands,Call.operands]; exact .inr (by simpa using hx))).trans ha
 simp only [Bool.and_eq_true] at hsub
 refine kj (o:={ o with guard:=none }) k (bC 1000000 ids) ho rfl hd ((he (by simp [Op.operands,Call.operands])).trans hf) (cargs:=cE (inv 1000000 ids) avs) ?_ hC
  (jq (fr:=st2.fr) ((jo hri').trans hos) hsub.2) (iB (fr:=st2.fr) (s:=st.sto) (fun j i hji=>hri' i (tT hji)) hcm) hk (fun i h1 h2=>hnew i (rng_mem.2 ⟨h1,h2⟩)) ?_
 ·rw [rH fun i hi=>o9 (nc hsub.1 i hi)]
  exact ha2
 ·simp only [lA] at h
  rw [jQ,jR] at h
  rw [rI]
  exact h
def hkB(k : Nat)(ids : List Nat)(cs : Sto)(cargs : List AV)(rav : AV)(rs : Sto) : Bool :=
 eZ (bC 1000000 ids) && ir (bC 1000000 ids) && fJ cs (bC 1000000 ids) && fo (bC 1000000 ids) && ch (bC 1000000 ids) rs && c7 cs cargs && aY cs cs && cO rs rav && aY rs rs && Nat.ble (k + 16) 1000000
theorem Di{o : Oper}{st : St}{fop : Operand}{args : Array Operand}{ats : Array TypeId}{i : Nat}{avs : List AV}{rav : AV}{rs : Sto}{os : List (Nat×AObj)}(k : Nat)(ids : List Nat)(hrd : c.rd = none)
  (ho : o.op = .call { callee:=.value fop,args:=args,argTypes:=ats }) (hd : aF c.n o.dst = true) (hf : ev st fop = some (.one (.yl i))) (ha : evL st args.toList = some avs)
  (hos : hJ st.sto ids = some os) (hsub : (b5 i ids && jP ids (jm avs) && mI ids os) = true) (hY : YieldA P (inv 1000000 ids i) (cE (inv 1000000 ids) avs) (gl (inv 1000000 ids) os) rav rs)
  (hcm : eY st.sto (bC 1000000 ids) rs = true) (hk : hkB k ids (gl (inv 1000000 ids) os) (cE (inv 1000000 ids) avs) rav rs = true) : Loc P c o st (lA k ids rav rs):=by
 intro st2 hs hri hnew ops rest K h
 have he : ∀ {x : Operand},x∈o.op.operands.toList→ev st2 x = ev st x:=fun hx=>ej hs hx
 rw [ho] at he
 have hri' : ∀ i∈ids,look st2.sto i = look st.sto i:=hri
 have ha2 : evL st2 args.toList = some avs:=(iN fun x hx=>he (by simp [Op.operands,Call.operands]; exact .inr (by simpa using hx))).trans ha
 simp only [Bool.and_eq_true] at hsub
 refine zG (o:={ o with guard:=none }) k (bC 1000000 ids) hrd ho rfl hd ((he (by simp [Op.operands,Call.operands])).trans hf) (nZ hsub.1.1) (cargs:=cE (inv 1000000 ids) avs) ?_ hY
  (jq (fr:=st2.fr) ((jo hri').trans hos) hsub.2) (iB (fr:=st2.fr) (s:=st.sto) (fun j i hji=>hri' i (tT hji)) hcm) hk (fun i h1 h2=>hnew i (rng_mem.2 ⟨h1,h2⟩)) ?_
 ·rw [rH fun i hi=>o9 (nc hsub.1.2 i hi)]
  exact ha2
 ·simp only [lA] at h
  rw [jQ,jR] at h
  rw [rI]
  exact h
theorem ve{o : Oper}{st : St}{fop : Operand}{args : Array Operand}{ats : Array TypeId}{f : FuncId}{caps : List D}{avs : List AV}{rav : AV}{rsto : Sto}{os : List (Nat×AObj)}(dl : List Nat)
  (ho : o.op = .call { callee:=.value fop,args:=args,argTypes:=ats }) (hd : aF c.n o.dst = true) (hos : dq st.sto dl = some os) (hf : evS os st fop = some (.one (.d (.fn f caps))))
  (ha : jS os st args.toList = some avs) (hD : cb avs = true) (hC : CallA P f (avs ++ caps.map fun x=>.one (.d x)) [] rav rsto) (hfl : eF rav = true) : Loc P c o st ⟨rav,[],dl,[]⟩:=by
 intro st2 hs hri hnew ops rest K h
 have he : ∀ {x : Operand},x∈o.op.operands.toList→ev st2 x = ev st x:=fun hx=>ej hs hx
 rw [ho] at he
 have hos2 : dq st2.sto dl = some os:=(jr hri).trans hos
 obtain ⟨ss,h1,h2⟩:=hU hos2
 have ha2 : evL ss args.toList = some avs:=by
  rw [lH h2,mb (st:=st) fun x hx=>he (by simp [Op.operands,Call.operands]; exact .inr (by simpa using hx))]
  exact ha
 have hf2 : ev ss fop = some (.one (.d (.fn f caps))):=by
  rw [h2]
  unfold evS
  rw [he (x:=fop) (by simp [Op.operands,Call.operands])]
  exact hf
 exact iC (o:={ o with guard:=none }) ho rfl hd (fun a w σ φ hr=>by
  obtain ⟨σs,_,h3,_⟩:=Rel.sealL h1 hr
  exact ⟨σs,φ,h3⟩) hf2 ha2 hD hC hfl h
def Dj(orc : Orc)(ow : Bool)(id : Nat)(st : St)(f : FuncId)(caps : List D)(avs : List AV)(ids : List Nat) : Option Tr :=
 match hJ st.sto ids with
 | some os=>(match orc (some f) ow (cE (inv 1000000 ids) avs ++ caps.map fun x=>.one (.d x)) (gl (inv 1000000 ids) os) with
   | some (rav,rs)=>bif jP ids (jm avs) && mI ids os && eY st.sto (bC 1000000 ids) rs && hkB id ids (gl (inv 1000000 ids) os) (cE (inv 1000000 ids) avs ++ caps.map fun x=>.one (.d x)) rav rs && dz st (rng id 16) then some (lA id ids rav rs) else none
   | none=>none)
 | none=>none
def Dk(orc : Orc)(id : Nat)(st : St)(i : Nat)(avs : List AV)(ids : List Nat) : Option Tr :=
 match hJ st.sto ids with
 | some os=>(match orc none false (.one (.yl (inv 1000000 ids i))::cE (inv 1000000 ids) avs) (gl (inv 1000000 ids) os) with
   | some (rav,rs)=>bif (b5 i ids && jP ids (jm avs) && mI ids os) && eY st.sto (bC 1000000 ids) rs && hkB id ids (gl (inv 1000000 ids) os) (cE (inv 1000000 ids) avs) rav rs && dz st (rng id 16) then some (lA id ids rav rs) else none
   | none=>none)
 | none=>none
def Dl(orc : Orc)(ow : Bool)(id : Nat)(st : St)(fop : Operand)(args : List Operand)(dl : List Nat) : Option Tr :=
 match dq st.sto dl with
 | some os=>(match evS os st fop,jS os st args with
   | some (.one (.d (.fn f caps))),some avs=>bif cb avs then (match orc (some f) ow (avs ++ caps.map fun x=>.one (.d x)) [] with
     | some (rav,rsto)=>bif eF rav then some ⟨rav,[],dl,[]⟩ else bif ch [] rsto && Nat.ble (id + 16) 1000000 && cO rsto rav && aY rsto rsto && dz st (rng id 16) then some (kB id dl dl rav rsto) else none
     | none=>none) else none
   | _,_=>none)
 | none=>none
def xTr(V : Env)(mf : FuncId→Bool)(orc : Orc)(yf ow : Bool)(id : Nat)(st : St)(o : Oper) : Option Tr :=
 match aL V st o id with
 | some e=>bif Nat.blt (id + 1) 1000000 && dz st e.new then some (e.tr (rJ st o.op)) else none
 | none=>match o.op with
   | .call { callee:=.value fop,args,.. }=>(match ev st fop with
     | some (.one (.d (.fn f caps)))=>bif mf f then
       (match evL st args.toList with
       | some avs=>Dj orc ow id st f caps avs (gZ st.sto 1000 (jm avs) [])
       | none=>none)
       else Dl orc ow id st fop args.toList (cR st.sto (b6 st args.toList) [])
     | some (.one (.yl i))=>bif yf then
       (match evL st args.toList with
       | some avs=>Dk orc id st i avs (gZ st.sto 1000 (i::jm avs) [])
       | none=>none)
       else none
     | _=>none)
   | _=>none
theorem Dm{V : Env}(hV : EnvOk P V){mf : FuncId→Bool}{orc : Orc}(hO : OrcOk P orc){yf ow : Bool}(hy : yf = true→c.rd = none){id : Nat}{st : St}{o : Oper}{tr : Tr}(hd : aF c.n o.dst = true)(h : xTr V mf orc yf ow id st o = some tr) : Loc P c o st tr∧mZ st tr.new:=by
 unfold xTr at h
 split at h
 ·rename_i e he
  cases hb : Nat.blt (id + 1) 1000000 && dz st e.new <;> simp only [hb,cond_true,cond_false,reduceCtorEq,Option.some.injEq] at h
  subst h
  rw [Bool.and_eq_true] at hb
  exact ⟨mc hV hd he hb.1,dZ hb.2⟩
 split at h <;> (try (simp at h; done))
 rename_i fop args ats ho
 split at h <;> (try (simp at h; done))
 ·rename_i f0 caps0 hf0
  cases hm : mf f0 with
  | true =>
    simp only [hm,cond_true] at h
    split at h <;> (try (simp at h; done))
    rename_i avs ha
    generalize gZ st.sto 1000 (jm avs) [] = ids at h
    unfold Dj at h
    split at h <;> (try (simp at h; done))
    rename_i os hos
    split at h <;> (try (simp at h; done))
    rename_i rav rs hor
    cases hb : jP ids (jm avs) && mI ids os && eY st.sto (bC 1000000 ids) rs && hkB id ids (gl (inv 1000000 ids) os) (cE (inv 1000000 ids) avs ++ caps0.map fun x=>.one (.d x)) rav rs && dz st (rng id 16) <;> simp only [hb,cond_true,cond_false,reduceCtorEq,Option.some.injEq] at h
    subst h
    simp only [Bool.and_eq_true] at hb
    obtain ⟨⟨⟨⟨h1,h2⟩,h3⟩,h4⟩,h5⟩:=hb
    exact ⟨Dh id ids ho hd hf0 ha hos (by rw [Bool.and_eq_true]; exact ⟨h1,h2⟩) (hO.call _ _ _ _ _ _ hor) h3 h4,dZ h5⟩
  | false =>
    simp only [hm,cond_false] at h
    generalize cR st.sto (b6 st args.toList) [] = dl at h
    unfold Dl at h
    split at h <;> (try (simp at h; done))
    rename_i os hos
    split at h <;> (try (simp at h; done))
    rename_i f caps avs hf ha
    cases hD : cb avs <;> simp only [hD,cond_true,cond_false,reduceCtorEq] at h
    split at h <;> (try (simp at h; done))
    rename_i rav rsto hor
    cases hfl : eF rav with
    | true =>
      simp only [hfl,cond_true,Option.some.injEq] at h
      subst h
      exact ⟨ve _ ho hd hos hf ha hD (hO.call _ _ _ _ _ _ hor) hfl,fun i hi=>by simp at hi⟩
    | false =>
    simp only [hfl,cond_false] at h
    cases hb : ch [] rsto && Nat.ble (id + 16) 1000000 && cO rsto rav && aY rsto rsto && dz st (rng id 16) <;> simp only [hb,cond_true,cond_false,reduceCtorEq,Option.some.injEq] at h
    subst h
    rw [Bool.and_eq_true] at hb
    exact ⟨vh id _ ho hd hos hf ha hD (hO.call _ _ _ _ _ _ hor) hb.1,dZ hb.2⟩
 ·rename_i i hf0
  cases yf with
  | false=>simp at h
  | true =>
    simp only [cond_true] at h
    split at h <;> (try (simp at h; done))
    rename_i avs ha
    generalize gZ st.sto 1000 (i::jm avs) [] = ids at h
    unfold Dk at h
    split at h <;> (try (simp at h; done))
    rename_i os hos
    split at h <;> (try (simp at h; done))
    rename_i rav rs hor
    cases hb : (b5 i ids && jP ids (jm avs) && mI ids os) && eY st.sto (bC 1000000 ids) rs && hkB id ids (gl (inv 1000000 ids) os) (cE (inv 1000000 ids) avs) rav rs && dz st (rng id 16) <;> simp only [hb,cond_true,cond_false,reduceCtorEq,Option.some.injEq] at h
    subst h
    rw [Bool.and_eq_true,Bool.and_eq_true,Bool.and_eq_true] at hb
    obtain ⟨⟨⟨h1,h3⟩,h4⟩,h5⟩:=hb
    exact ⟨Di id ids (hy rfl) ho hd hf0 ha hos h1 (hO.yld _ _ _ _ _ _ hor) h3 h4,dZ h5⟩
end Go.Abs
namespace Go.Abs
open Go
variable {P : Program} {c : Ctx} {T : Tab} {σ : Sig} {φ : Pl} {w : World}
def aV : Sto→List Nat
 | []=>[]
 | (i,_)::r=>i::aV r
def eW(s : Sto) : List Nat→Sto
 | []=>[]
 | i::r=>match look s i with
   | some o=>(i,o)::eW s r
   | none=>eW s r
theorem keepK_sub{s : Sto} : ∀ {l : List Nat},SubL s (eW s l)
 | []=>trivial
 | i::r=>by
   simp only [eW]
   cases h : look s i with
   | none=>exact keepK_sub
   | some o=>exact ⟨h,keepK_sub⟩
def cm : List Nat→Bool
 | []=>true
 | i::r=>!b5 i r && cm r
def fw(r : Nat→Nat) : Sto→Sto
 | []=>[]
 | (i,o)::s=>(r i,cu r o)::fw r s
def iv(r : Nat→Nat) : List Nat→List Nat
 | []=>[]
 | i::l=>r i::iv r l
def uX(r : Nat→Nat) : List Nat→Bool
 | []=>true
 | i::l=>(bif Nat.ble 1000000 i then Nat.beq (r i) i else Nat.blt (r i) 1000000) && uX r l
theorem lK{s : Sto}{i : Nat}{o : AObj}(h : look s i = some o) : i∈aV s:=by
 induction s with
 | nil=>simp [look] at h
 | cons p r ih =>
   obtain ⟨j,x⟩:=p
   rcases ah h with ⟨rfl,_⟩ | ⟨_,h⟩
   ·simp [aV]
   ·simp [aV,ih h]
theorem o4{r : Nat→Nat}{i : Nat} : ∀ {l : List Nat},i∈l→r i∈iv r l
 | [],h=>by simp at h
 | j::l,h=>by
   rcases List.mem_cons.1 h with rfl | h
   ·simp [iv]
   ·simp [iv,o4 h]
theorem mj{r : Nat→Nat} : ∀ {s : Sto},cm (iv r (aV s)) = true→∀ {i : Nat} {o : AObj},look s i = some o→look (fw r s) (r i) = some (cu r o)
 | [],_,_,_,h=>by simp [look] at h
 | (j,x)::l,hn,i,o,h=>by
   simp only [aV,iv,cm,Bool.and_eq_true,Bool.not_eq_true'] at hn
   simp only [fw]
   rcases ah h with ⟨rfl,rfl⟩ | ⟨hne,h⟩
   ·exact ay
   ·have : r i≠r j:=by
     intro e
     have h1 : r i∈iv r (aV l):=o4 (lK h)
     rw [e] at h1
     have:=memL_iff.2 h1
     rw [hn.1] at this; cases this
    rw [aD this]
    exact mj hn.2 h
theorem dh{r : Nat→Nat} : ∀ {s : Sto},cm (aV s) = true→∀ {t : Nat} {e : AObj},look (fw r s) t = some e→∃ i o,t = r i∧look s i = some o∧e = cu r o
 | [],_,_,_,h=>by simp [fw,look] at h
 | (j,x)::l,hn,t,e,h=>by
   simp only [aV,cm,Bool.and_eq_true,Bool.not_eq_true'] at hn
   simp only [fw] at h
   rcases ah h with ⟨rfl,rfl⟩ | ⟨_,h⟩
   ·exact ⟨j,x,rfl,ay,rfl⟩
   ·obtain ⟨i,o,h1,h2,h3⟩:=dh hn.2 h
    refine ⟨i,o,h1,?_,h3⟩
    rw [aD]
    ·exact h2
    ·rintro rfl
     have:=memL_iff.2 (lK h2)
     rw [hn.1] at this; cases this
theorem mi{r : Nat→Nat} : ∀ {l : List Nat},cm (iv r l) = true→∀ {i j : Nat},i∈l→j∈l→r i = r j→i = j
 | [],_,_,_,h,_,_=>by simp at h
 | k::l,hn,i,j,hi,hj,e=>by
   simp only [iv,cm,Bool.and_eq_true,Bool.not_eq_true'] at hn
   have hi1:=List.mem_cons.1 hi
   have hj1:=List.mem_cons.1 hj
   rcases hi1 with h1 | h1 <;> rcases hj1 with h2 | h2
   ·rw [h1,h2]
   ·have:=memL_iff.2 (o4 (r:=r) h2); rw [← e,h1,hn.1] at this; cases this
   ·have:=memL_iff.2 (o4 (r:=r) h1); rw [e,h2,hn.1] at this; cases this
   ·exact mi hn.2 h1 h2 e
theorem Bg{r : Nat→Nat} : ∀ {l : List Nat},uX r l = true→∀ {i : Nat},i∈l→(1000000≤i→r i = i)∧(i < 1000000→r i < 1000000)
 | [],_,_,h=>by simp at h
 | k::l,hn,i,hi=>by
   simp only [uX,Bool.and_eq_true] at hn
   rcases List.mem_cons.1 hi with rfl | hi
   ·have h1:=hn.1
    cases hb : Nat.ble 1000000 i with
    | true =>
      rw [hb] at h1
      have:=Nat.le_of_ble_eq_true hb
      exact ⟨fun _=>Nat.eq_of_beq_eq_true h1,fun h=>by omega⟩
    | false =>
      rw [hb] at h1
      have h2 : ¬ 1000000≤i:=by intro h; rw [Nat.ble_eq.mpr h] at hb; cases hb
      exact ⟨fun h=>absurd h h2,fun _=>Nat.le_of_ble_eq_true h1⟩
   ·exact Bg hn.2 hi
theorem Rel.renameTo{fr fr2 : List (Nat×AV)}{S : Sto}{r : Nat→Nat}{a : Act}(hr : Rel c ⟨fr,S⟩ a w σ φ)(hf : ∀ s v,look fr2 s = some v→look fr s = some v)(hk : (cm (aV S) && cm (iv r (aV S)) && uX r (aV S) && aY S S && iw S fr2) = true) :
  ∃ φ',Rel c ⟨cN r fr2,fw r S⟩ a w σ φ':=by
 simp only [Bool.and_eq_true] at hk
 obtain ⟨⟨⟨⟨h1,h2⟩,h3⟩,h4⟩,h5⟩:=hk
 classical
 let φ' : Pl:=fun t=>if h : ∃ i,i∈aV S∧r i = t then φ h.choose else φ t
 have hφ : ∀ {i : Nat},i∈aV S→φ' (r i) = φ i:=by
  intro i hi
  have hex : ∃ j,j∈aV S∧r j = r i:=⟨i,hi,rfl⟩
  show (if h : ∃ j,j∈aV S∧r j = r i then φ h.choose else φ (r i)) = φ i
  rw [dif_pos hex]
  have:=hex.choose_spec
  rw [mi h2 this.1 hi this.2]
 have hR : ∀ j o,look S j = some o→look (fw r S) (r j) = some (cu r o)∧φ' (r j) = φ j:=fun j o hj=>⟨mj h2 hj,hφ (lK hj)⟩
 refine ⟨φ',hr.le,hr.fresh,⟨hr.inv.sig,fun t e ht=>?_,fun t t' e e' p p' ht ht' hne hp hp'=>?_⟩,fun t e p ht hp=>?_,fun s v hv=>?_,hr.defers,hr.size,hr.fra,fun t ht=>?_⟩
 ·obtain ⟨i,o,rfl,hi,rfl⟩:=dh h1 ht
  exact wJ hR hi (eT h4 hi) (hr.inv.obj _ _ hi)
 ·obtain ⟨i,o,rfl,hi,rfl⟩:=dh h1 ht
  obtain ⟨i',o',rfl,hi',rfl⟩:=dh h1 ht'
  rw [(hR _ _ hi).2] at hp
  rw [(hR _ _ hi').2] at hp'
  exact hr.inv.inj _ _ _ _ _ _ hi hi' (fun e=>hne (by rw [e])) hp hp'
 ·obtain ⟨i,o,rfl,hi,rfl⟩:=dh h1 ht
  rw [(hR _ _ hi).2] at hp
  exact hr.mine _ _ _ hi hp
 ·rw [jx] at hv
  cases hl : look fr2 s with
  | none=>rw [hl] at hv; cases hv
  | some v0 =>
    rw [hl] at hv; cases hv
    obtain ⟨u,hu,hru⟩:=hr.slot s v0 (hf s v0 hl)
    exact ⟨u,hu,reV hR (kD h5 hl) hru⟩
 ·show (if h : ∃ j,j∈aV S∧r j = t then φ h.choose else φ t) = _
  split
  ·rename_i hex
   have hs:=hex.choose_spec
   obtain ⟨f1,f2⟩:=Bg h3 hs.1
   rcases Nat.lt_or_ge hex.choose 1000000 with h5 | h5
   ·have:=f2 h5; omega
   ·have:=f1 h5
    rw [hs.2] at this
    rw [← this]; exact hr.pin t ht
  ·exact hr.pin t ht
def bW(ids : List Nat) : List (Nat×AV)→List Nat→List (Nat×AV)
 | [],_=>[]
 | (s,v)::r,seen=>bif b5 s seen then bW ids r seen else bif jP ids (bQ v) then (s,v)::bW ids r (s::seen) else bW ids r (s::seen)
theorem gg{ids : List Nat} : ∀ {fr : List (Nat×AV)} {seen : List Nat} {s : Nat} {v : AV},look (bW ids fr seen) s = some v→b5 s seen = false∧look fr s = some v
 | [],_,_,_,h=>by simp [bW,look] at h
 | (t,x)::r,seen,s,v,h=>by
   simp only [bW] at h
   have step : ∀ {seen' : List Nat},look (bW ids r (t::seen)) s = some v→b5 s seen = false∧look ((t,x)::r) s = some v:=by
    intro _ h
    obtain ⟨h1,h2⟩:=gg h
    simp only [b5,Bool.or_eq_false_iff] at h1
    refine ⟨h1.2,?_⟩
    rw [aD]
    ·exact h2
    ·rintro rfl
     rw [Nat.beq_refl] at h1; cases h1.1
   cases hm : b5 t seen with
   | true =>
     simp only [hm,cond_true] at h
     obtain ⟨h1,h2⟩:=gg h
     refine ⟨h1,?_⟩
     rw [aD]
     ·exact h2
     ·rintro rfl
      rw [hm] at h1; cases h1
   | false =>
     simp only [hm,cond_false] at h
     cases hs : jP ids (bQ x) with
     | true =>
       simp only [hs,cond_true] at h
       rcases ah h with ⟨rfl,rfl⟩ | ⟨_,h⟩
       ·exact ⟨hm,ay⟩
       ·exact step (seen':=[]) h
     | false =>
       simp only [hs,cond_false] at h
       exact step (seen':=[]) h
theorem jw{ids : List Nat} : ∀ {fr : List (Nat×AV)} {seen : List Nat},∀ i∈jl (bW ids fr seen),b5 i ids = true
 | [],_,i,h=>by simp [bW,jl] at h
 | (t,x)::r,seen,i,h=>by
   simp only [bW] at h
   cases hm : b5 t seen with
   | true=>simp only [hm,cond_true] at h; exact jw i h
   | false =>
     simp only [hm,cond_false] at h
     cases hs : jP ids (bQ x) with
     | true =>
       simp only [hs,cond_true,jl,List.mem_append] at h
       rcases h with h | h
       ·exact nc hs i h
       ·exact jw i h
     | false=>simp only [hs,cond_false] at h; exact jw i h
def qR(ids : List Nat) : AObj→AObj
 | .loop li fr s p=>.loop li (bW ids fr []) s p
 | o=>o
def gB(ids : List Nat) : Sto→Sto
 | []=>[]
 | (i,o)::r=>(i,qR ids o)::gB ids r
theorem lx{ids : List Nat} : ∀ {s : Sto} {i : Nat},look (gB ids s) i = (look s i).map (qR ids)
 | [],_=>rfl
 | (j,o)::r,i=>by
   simp only [gB,look]
   cases Nat.beq j i with
   | true=>rfl
   | false=>simp only [cond_false]; exact lx
theorem zw{ids : List Nat}{o : AObj} : compat o (qR ids o):=by
 cases o <;> simp [qR,compat]
theorem Rel.weak{st : St}{a : Act}(hr : Rel c st a w σ φ)(ids : List Nat) : Rel c ⟨st.fr,gB ids st.sto⟩ a w σ φ:=by
 have hE : Ext (fun _=>False) φ φ st.sto (gB ids st.sto):=by
  intro i _
  cases hl : look st.sto i with
  | none=>exact .inl (by rw [lx,hl]; rfl)
  | some e=>exact .inr ⟨e,rfl,rfl,qR ids e,by rw [lx,hl]; rfl,zw⟩
 have hex : ∀ {i : Nat} {e : AObj},look (gB ids st.sto) i = some e→∃ e0,look st.sto i = some e0∧e = qR ids e0:=by
  intro i e h
  rw [lx] at h
  cases hl : look st.sto i with
  | none=>rw [hl] at h; cases h
  | some e0=>rw [hl] at h; cases h; exact ⟨e0,rfl,rfl⟩
 refine ⟨hr.le,hr.fresh,⟨hr.inv.sig,fun i e hi=>?_,fun i i' e e' p p' hi hi'=>?_⟩,fun i e p hi hp=>?_,fun s v hv=>?_,hr.defers,hr.size,hr.fra,hr.pin⟩
 ·obtain ⟨e0,h0,rfl⟩:=hex hi
  have ho:=(hr.inv.obj _ _ h0).ext (X:=fun _=>False) (w':=w) (Sig.le_refl _) hE (fun j hj=>hj.elim) rfl fun _ _ _=>⟨rfl,rfl⟩
  cases e0 with
  | loop li fr s p =>
    obtain ⟨B,cc,r,h1,h2,h3,h4,h5⟩:=ho
    exact ⟨B,cc,r,h1,h2,h3,fun s v hv=>h4 s v (gg hv).2,h5⟩
  | _=>exact ho
 ·obtain ⟨e0,h0,_⟩:=hex hi
  obtain ⟨e1,h1,_⟩:=hex hi'
  exact hr.inv.inj _ _ _ _ _ _ h0 h1
 ·obtain ⟨e0,h0,_⟩:=hex hi
  exact hr.mine _ _ _ h0 hp
 ·obtain ⟨u,hu,hru⟩:=hr.slot s v hv
  exact ⟨u,hu,hru.ext (Sig.le_refl _) hE fun j hj=>hj.elim⟩
def wW(s : Sto) : List Nat→List Nat
 | []=>[]
 | i::r=>(match look s i with | some o=>w9 o | none=>[]) ++ wW s r
def kZ : List Nat→List Nat
 | []=>[]
 | i::r=>bif Nat.blt i 1000000 then i::kZ r else kZ r
def GY(n : Nat) : List Nat→Nat→Nat
 | [],_=>999999
 | j::r,i=>bif Nat.beq j i then n else GY (n + 1) r i
def uY(L : List Nat)(i : Nat) : Nat:=bif Nat.ble 1000000 i then i else GY 0 L i
def wV(fr : List (Nat×AV))(s : Sto)(keys L : List Nat) : Option St :=
 bif cm (aV (gB (keys ++ L) (eW s (keys ++ L)))) && cm (iv (uY L) (aV (gB (keys ++ L) (eW s (keys ++ L))))) && uX (uY L) (aV (gB (keys ++ L) (eW s (keys ++ L)))) &&
  aY (gB (keys ++ L) (eW s (keys ++ L))) (gB (keys ++ L) (eW s (keys ++ L))) && iw (gB (keys ++ L) (eW s (keys ++ L))) (bW (keys ++ L) fr []) then
  some ⟨cN (uY L) (bW (keys ++ L) fr []),fw (uY L) (gB (keys ++ L) (eW s (keys ++ L)))⟩ else none
theorem Rel.endTo{st st' : St}{fr2 : List (Nat×AV)}{keys L : List Nat}{a : Act}(hr : Rel c st a w σ φ)(hf : ∀ s v,look fr2 s = some v→look st.fr s = some v)(h : wV fr2 st.sto keys L = some st') : ∃ φ',Rel c st' a w σ φ':=by
 unfold wV at h
 generalize hS : gB (keys ++ L) (eW st.sto (keys ++ L)) = S at h
 cases hb : cm (aV S) && cm (iv (uY L) (aV S)) && uX (uY L) (aV S) && aY S S && iw S (bW (keys ++ L) fr2 []) <;> simp only [hb,cond_true,cond_false,reduceCtorEq,Option.some.injEq] at h
 subst h
 have h1:=(hr.dropTo (s':=eW st.sto (keys ++ L)) fun i e hi=>keepK_sub.look hi).weak (keys ++ L)
 simp only [hS] at h1
 exact h1.renameTo (fun s v hv=>hf s v (gg hv).2) hb
end Go.Abs
