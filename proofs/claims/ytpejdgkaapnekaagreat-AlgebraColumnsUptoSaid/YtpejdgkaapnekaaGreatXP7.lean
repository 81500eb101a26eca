import Derived.Test.YtpejdgkaapnekaaGreatXP5
import Derived.Test.YtpejdgkaapnekaaGreatXP6
import Derived.Test.YtpejdgkaapnekaaGreatXP3
set_option linter.unusedVariables false
set_option linter.unusedSimpArgs false
set_option maxHeartbeats 1000000
namespace Go.Abs
open Go
variable {P : Program} {c : Ctx} {T : Tab} {σ : Sig} {φ : Pl} {w : World}
def bg : Sto→List Nat
 | []=>[]
 | (i,_)::r=>i::bg r
def fD(s : Sto) : List Nat→Sto
 | []=>[]
 | i::r=>match look s i with
   | some o=>(i,o)::fD s r
   | none=>fD s r
theorem keepK_sub{s : Sto} : ∀ {l : List Nat},SubL s (fD s l)
 | []=>trivial
 | i::r=>by
   simp only [fD]
   cases h : look s i with
   | none=>exact keepK_sub
   | some o=>exact ⟨h,keepK_sub⟩
def cB : List Nat→Bool
 | []=>true
 | i::r=>!cg i r && cB r
def fW(r : Nat→Nat) : Sto→Sto
 | []=>[]
 | (i,o)::s=>(r i,cG r o)::fW r s
def jb(r : Nat→Nat) : List Nat→List Nat
 | []=>[]
 | i::l=>r i::jb r l
def wP(r : Nat→Nat) : List Nat→Bool
 | []=>true
 | i::l=>(bif Nat.ble 1000000 i then Nat.beq (r i) i else Nat.blt (r i) 1000000) && wP r l
theorem mI{s : Sto}{i : Nat}{o : AObj}(h : look s i = some o) : i∈bg s:=by
 induction s with
 | nil=>simp [look] at h
 | cons p r ih =>
   obtain ⟨j,x⟩:=p
   rcases ai h with ⟨rfl,_⟩ | ⟨_,h⟩
   ·simp [bg]
   ·simp [bg,ih h]
theorem qm{r : Nat→Nat}{i : Nat} : ∀ {l : List Nat},i∈l→r i∈jb r l
 | [],h=>by simp at h
 | j::l,h=>by
   rcases List.mem_cons.1 h with rfl | h
   ·simp [jb]
   ·simp [jb,qm h]
theorem nv{r : Nat→Nat} : ∀ {s : Sto},cB (jb r (bg s)) = true→∀ {i : Nat} {o : AObj},look s i = some o→look (fW r s) (r i) = some (cG r o)
 | [],_,_,_,h=>by simp [look] at h
 | (j,x)::l,hn,i,o,h=>by
   simp only [bg,jb,cB,Bool.and_eq_true,Bool.not_eq_true'] at hn
   simp only [fW]
   rcases ai h with ⟨rfl,rfl⟩ | ⟨hne,h⟩
   ·exact aP
   ·have : r i≠r j:=by
     intro e
     have h1 : r i∈jb r (bg l):=qm (mI h)
     rw [e] at h1
     have:=memL_iff.2 h1
     rw [hn.1] at this; cases this
    rw [aS this]
    exact nv hn.2 h
theorem dx{r : Nat→Nat} : ∀ {s : Sto},cB (bg s) = true→∀ {t : Nat} {e : AObj},look (fW r s) t = some e→∃ i o,t = r i∧look s i = some o∧e = cG r o
 | [],_,_,_,h=>by simp [fW,look] at h
 | (j,x)::l,hn,t,e,h=>by
   simp only [bg,cB,Bool.and_eq_true,Bool.not_eq_true'] at hn
   simp only [fW] at h
   rcases ai h with ⟨rfl,rfl⟩ | ⟨_,h⟩
   ·exact ⟨j,x,rfl,aP,rfl⟩
   ·obtain ⟨i,o,h1,h2,h3⟩:=dx hn.2 h
    refine ⟨i,o,h1,?_,h3⟩
    rw [aS]
    ·exact h2
    ·rintro rfl
     have:=memL_iff.2 (mI h2)
     rw [hn.1] at this; cases this
theorem nu{r : Nat→Nat} : ∀ {l : List Nat},cB (jb r l) = true→∀ {i j : Nat},i∈l→j∈l→r i = r j→i = j
 | [],_,_,_,h,_,_=>by simp at h
 | k::l,hn,i,j,hi,hj,e=>by
   simp only [jb,cB,Bool.and_eq_true,Bool.not_eq_true'] at hn
   have hi1:=List.mem_cons.1 hi
   have hj1:=List.mem_cons.1 hj
   rcases hi1 with h1 | h1 <;> rcases hj1 with h2 | h2
   ·rw [h1,h2]
   ·have:=memL_iff.2 (qm (r:=r) h2); rw [← e,h1,hn.1] at this; cases this
   ·have:=memL_iff.2 (qm (r:=r) h1); rw [e,h2,hn.1] at this; cases this
   ·exact nu hn.2 h1 h2 e
theorem CR{r : Nat→Nat} : ∀ {l : List Nat},wP r l = true→∀ {i : Nat},i∈l→(1000000≤i→r i = i)∧(i < 1000000→r i < 1000000)
 | [],_,_,h=>by simp at h
 | k::l,hn,i,hi=>by
   simp only [wP,Bool.and_eq_true] at hn
   rcases List.mem_cons.1 hi with rfl | hi
   ·have h1:=hn.1
    cases hb : Nat.ble 1000000 i with
    | true =>
      rw [hb] at h1
      have:=Nat.le_of_ble_eq_true hb
      exact ⟨fun _=>Nat.eq_of_beq_eq_true h1,fun h=>by omega⟩
    | false =>
      rw [hb] at h1
      have h2 : ¬ 1000000≤i:=by intro h; rw [Nat.ble_eq.mpr h] at hb; cases hb
      exact ⟨fun h=>absurd h h2,fun _=>Nat.le_of_ble_eq_true h1⟩
   ·exact CR hn.2 hi
theorem Rel.renameTo{fr fr2 : List (Nat×AV)}{S : Sto}{r : Nat→Nat}{a : Act}(hr : Rel c ⟨fr,S⟩ a w σ φ)(hf : ∀ s v,look fr2 s = some v→look fr s = some v)(hk : (cB (bg S) && cB (jb r (bg S)) && wP r (bg S) && bm S S && jc S fr2) = true) :
  ∃ φ',Rel c ⟨c6 r fr2,fW r S⟩ a w σ φ':=by
 simp only [Bool.and_eq_true] at hk
 obtain ⟨⟨⟨⟨h1,h2⟩,h3⟩,h4⟩,h5⟩:=hk
 classical
 let φ' : Pl:=fun t=>if h : ∃ i,i∈bg S∧r i = t then φ h.choose else φ t
 have hφ : ∀ {i : Nat},i∈bg S→φ' (r i) = φ i:=by
  intro i hi
  have hex : ∃ j,j∈bg S∧r j = r i:=⟨i,hi,rfl⟩
  show (if h : ∃ j,j∈bg S∧r j = r i then φ h.choose else φ (r i)) = φ i
  rw [dif_pos hex]
  have:=hex.choose_spec
  rw [nu h2 this.1 hi this.2]
 have hR : ∀ j o,look S j = some o→look (fW r S) (r j) = some (cG r o)∧φ' (r j) = φ j:=fun j o hj=>⟨nv h2 hj,hφ (mI hj)⟩
 refine ⟨φ',hr.le,hr.fresh,⟨hr.inv.sig,fun t e ht=>?_,fun t t' e e' p p' ht ht' hne hp hp'=>?_⟩,fun t e p ht hp=>?_,fun s v hv=>?_,hr.defers,hr.size,hr.fra,fun t ht=>?_⟩
 ·obtain ⟨i,o,rfl,hi,rfl⟩:=dx h1 ht
  exact yo hR hi (fA h4 hi) (hr.inv.obj _ _ hi)
 ·obtain ⟨i,o,rfl,hi,rfl⟩:=dx h1 ht
  obtain ⟨i',o',rfl,hi',rfl⟩:=dx h1 ht'
  rw [(hR _ _ hi).2] at hp
  rw [(hR _ _ hi').2] at hp'
  exact hr.inv.inj _ _ _ _ _ _ hi hi' (fun e=>hne (by rw [e])) hp hp'
 ·obtain ⟨i,o,rfl,hi,rfl⟩:=dx h1 ht
  rw [(hR _ _ hi).2] at hp
  exact hr.mine _ _ _ hi hp
 ·rw [ki] at hv
  cases hl : look fr2 s with
  | none=>rw [hl] at hv; cases hv
  | some v0 =>
    rw [hl] at hv; cases hv
    obtain ⟨u,hu,hru⟩:=hr.slot s v0 (hf s v0 hl)
    exact ⟨u,hu,reV hR (lH h5 hl) hru⟩
 ·show (if h : ∃ j,j∈bg S∧r j = t then φ h.choose else φ t) = _
  split
  ·rename_i hex
   have hs:=hex.choose_spec
   obtain ⟨f1,f2⟩:=CR h3 hs.1
   rcases Nat.lt_or_ge hex.choose 1000000 with h5 | h5
   ·have:=f2 h5; omega
   ·have:=f1 h5
    rw [hs.2] at this
    rw [← this]; exact hr.pin t ht
  ·exact hr.pin t ht
def b7(ids : List Nat) : List (Nat×AV)→List Nat→List (Nat×AV)
 | [],_=>[]
 | (s,v)::r,seen=>bif cg s seen then b7 ids r seen else bif kF ids (bX v) then (s,v)::b7 ids r (s::seen) else b7 ids r (s::seen)
theorem gN{ids : List Nat} : ∀ {fr : List (Nat×AV)} {seen : List Nat} {s : Nat} {v : AV},look (b7 ids fr seen) s = some v→cg s seen = false∧look fr s = some v
 | [],_,_,_,h=>by simp [b7,look] at h
 | (t,x)::r,seen,s,v,h=>by
   simp only [b7] at h
   have step : ∀ {seen' : List Nat},look (b7 ids r (t::seen)) s = some v→cg s seen = false∧look ((t,x)::r) s = some v:=by
    intro _ h
    obtain ⟨h1,h2⟩:=gN h
    simp only [cg,Bool.or_eq_false_iff] at h1
    refine ⟨h1.2,?_⟩
    rw [aS]
    ·exact h2
    ·rintro rfl
     rw [Nat.beq_refl] at h1; cases h1.1
   cases hm : cg t seen with
   | true =>
     simp only [hm,cond_true] at h
     obtain ⟨h1,h2⟩:=gN h
     refine ⟨h1,?_⟩
     rw [aS]
     ·exact h2
     ·rintro rfl
      rw [hm] at h1; cases h1
   | false =>
     simp only [hm,cond_false] at h
     cases hs : kF ids (bX x) with
     | true =>
       simp only [hs,cond_true] at h
       rcases ai h with ⟨rfl,rfl⟩ | ⟨_,h⟩
       ·exact ⟨hm,aP⟩
       ·exact step (seen':=[]) h
     | false =>
       simp only [hs,cond_false] at h
       exact step (seen':=[]) h
theorem kh{ids : List Nat} : ∀ {fr : List (Nat×AV)} {seen : List Nat},∀ i∈j5 (b7 ids fr seen),cg i ids = true
 | [],_,i,h=>by simp [b7,j5] at h
 | (t,x)::r,seen,i,h=>by
   simp only [b7] at h
   cases hm : cg t seen with
   | true=>simp only [hm,cond_true] at h; exact kh i h
   | false =>
     simp only [hm,cond_false] at h
     cases hs : kF ids (bX x) with
     | true =>
       simp only [hs,cond_true,j5,List.mem_append] at h
       rcases h with h | h
       ·exact ou hs i h
       ·exact kh i h
     | false=>simp only [hs,cond_false] at h; exact kh i h
def su(ids : List Nat) : AObj→AObj
 | .loop li fr s p=>.loop li (b7 ids fr []) s p
 | o=>o
def ib(ids : List Nat) : Sto→Sto
 | []=>[]
 | (i,o)::r=>(i,su ids o)::ib ids r
theorem mq{ids : List Nat} : ∀ {s : Sto} {i : Nat},look (ib ids s) i = (look s i).map (su ids)
 | [],_=>rfl
 | (j,o)::r,i=>by
   simp only [ib,look]
   cases Nat.beq j i with
   | true=>rfl
   | false=>simp only [cond_false]; exact mq
theorem Be{ids : List Nat}{o : AObj} : compat o (su ids o):=by
 cases o <;> simp [su,compat]
theorem Rel.weak{st : St}{a : Act}(hr : Rel c st a w σ φ)(ids : List Nat) : Rel c ⟨st.fr,ib ids st.sto⟩ a w σ φ:=by
 have hE : Ext (fun _=>False) φ φ st.sto (ib ids st.sto):=by
  intro i _
  cases hl : look st.sto i with
  | none=>exact .inl (by rw [mq,hl]; rfl)
  | some e=>exact .inr ⟨e,rfl,rfl,su ids e,by rw [mq,hl]; rfl,Be⟩
 have hex : ∀ {i : Nat} {e : AObj},look (ib ids st.sto) i = some e→∃ e0,look st.sto i = some e0∧e = su ids e0:=by
  intro i e h
  rw [mq] at h
  cases hl : look st.sto i with
  | none=>rw [hl] at h; cases h
  | some e0=>rw [hl] at h; cases h; exact ⟨e0,rfl,rfl⟩
 refine ⟨hr.le,hr.fresh,⟨hr.inv.sig,fun i e hi=>?_,fun i i' e e' p p' hi hi'=>?_⟩,fun i e p hi hp=>?_,fun s v hv=>?_,hr.defers,hr.size,hr.fra,hr.pin⟩
 ·obtain ⟨e0,h0,rfl⟩:=hex hi
  have ho:=(hr.inv.obj _ _ h0).ext (X:=fun _=>False) (w':=w) (Sig.le_refl _) hE (fun j hj=>hj.elim) rfl fun _ _ _=>⟨rfl,rfl⟩
  cases e0 with
  | loop li fr s p =>
    obtain ⟨B,cc,r,h1,h2,h3,h4,h5⟩:=ho
    exact ⟨B,cc,r,h1,h2,h3,fun s v hv=>h4 s v (gN hv).2,h5⟩
  | _=>exact ho
 ·obtain ⟨e0,h0,_⟩:=hex hi
  obtain ⟨e1,h1,_⟩:=hex hi'
  exact hr.inv.inj _ _ _ _ _ _ h0 h1
 ·obtain ⟨e0,h0,_⟩:=hex hi
  exact hr.mine _ _ _ h0 hp
 ·obtain ⟨u,hu,hru⟩:=hr.slot s v hv
  exact ⟨u,hu,hru.ext (Sig.le_refl _) hE fun j hj=>hj.elim⟩
def yB(s : Sto) : List Nat→List Nat
 | []=>[]
 | i::r=>(match look s i with | some o=>yL o | none=>[]) ++ yB s r
def ma : List Nat→List Nat
 | []=>[]
 | i::r=>bif Nat.blt i 1000000 then i::ma r else ma r
def I3(n : Nat) : List Nat→Nat→Nat
 | [],_=>999999
 | j::r,i=>bif Nat.beq j i then n else I3 (n + 1) r i
def wQ(L : List Nat)(i : Nat) : Nat:=bif Nat.ble 1000000 i then i else I3 0 L i
def yA(fr : List (Nat×AV))(s : Sto)(keys L : List Nat) : Option St :=
 bif cB (bg (ib (keys ++ L) (fD s (keys ++ L)))) && cB (jb (wQ L) (bg (ib (keys ++ L) (fD s (keys ++ L))))) && wP (wQ L) (bg (ib (keys ++ L) (fD s (keys ++ L)))) &&
  bm (ib (keys ++ L) (fD s (keys ++ L))) (ib (keys ++ L) (fD s (keys ++ L))) && jc (ib (keys ++ L) (fD s (keys ++ L))) (b7 (keys ++ L) fr []) then
  some ⟨c6 (wQ L) (b7 (keys ++ L) fr []),fW (wQ L) (ib (keys ++ L) (fD s (keys ++ L)))⟩ else none
theorem Rel.endTo{st st' : St}{fr2 : List (Nat×AV)}{keys L : List Nat}{a : Act}(hr : Rel c st a w σ φ)(hf : ∀ s v,look fr2 s = some v→look st.fr s = some v)(h : yA fr2 st.sto keys L = some st') : ∃ φ',Rel c st' a w σ φ':=by
 unfold yA at h
 generalize hS : ib (keys ++ L) (fD st.sto (keys ++ L)) = S at h
 cases hb : cB (bg S) && cB (jb (wQ L) (bg S)) && wP (wQ L) (bg S) && bm S S && jc S (b7 (keys ++ L) fr2 []) <;> simp only [hb,cond_true,cond_false,reduceCtorEq,Option.some.injEq] at h
 subst h
 have h1:=(hr.dropTo (s':=fD st.sto (keys ++ L)) fun i e hi=>keepK_sub.look hi).weak (keys ++ L)
 simp only [hS] at h1
 exact h1.renameTo (fun s v hv=>hf s v (gN hv).2) hb
end Go.Abs
namespace Go.Abs
open Go
variable {P : Program} {c : Ctx} {T : Tab} {σ : Sig} {φ : Pl} {w : World}
def AT(d : Nat)(v : AV) : List (Nat×AV)→List (Nat×AV)
 | []=>[(d,v)]
 | (t,x)::r=>bif Nat.beq t d then (d,v)::r else (t,x)::AT d v r
def lD(d : Option Nat)(v : AV)(fr : List (Nat×AV)) : List (Nat×AV):=match d with
 | none=>fr
 | some d=>AT d v fr
theorem rK{d : Nat}{v : AV} : ∀ {fr : List (Nat×AV)} {t : Nat},look (AT d v fr) t = look ((d,v)::fr) t
 | [],_=>rfl
 | (s,x)::r,t=>by
   simp only [AT]
   cases hb : Nat.beq s d with
   | true =>
     have:=Nat.eq_of_beq_eq_true hb; subst this
     simp only [cond_true,look]
     cases Nat.beq s t <;> rfl
   | false =>
     simp only [cond_false,look,rK (fr:=r)]
     cases h1 : Nat.beq s t with
     | false=>rfl
     | true =>
       have e1:=Nat.eq_of_beq_eq_true h1; subst e1
       cases h2 : Nat.beq d s with
       | false=>rfl
       | true=>have:=Nat.eq_of_beq_eq_true h2; subst this; rw [Nat.beq_refl] at hb; cases hb
theorem iY{d : Option Nat}{v : AV}{fr : List (Nat×AV)}{t : Nat} : look (lD d v fr) t = look (bt d v fr) t:=by
 cases d with
 | none=>rfl
 | some d=>exact rK
def oV : List (Nat×AV)→List (Nat×AV)
 | []=>[]
 | (d,v)::r=>AT d v (oV r)
theorem sX : ∀ {fr : List (Nat×AV)} {t : Nat},look (oV fr) t = look fr t
 | [],_=>rfl
 | (d,v)::r,t=>by
   simp only [oV,rK,look,sX (fr:=r)]
theorem oW{fr fr' : List (Nat×AV)}{sto : Sto}(h : ∀ t,look fr' t = look fr t) : Imp c ⟨fr,sto⟩ ⟨fr',sto⟩:=fun _ _ σ φ hr=>⟨σ,φ,hr.cong (st':=⟨fr',sto⟩) h fun _=>rfl⟩
def lS(opsA : Array Oper)(st : St)(o : Oper) : Option Bool :=
 match o.guard with
 | none=>some true
 | some (j,want)=>match gA st opsA j with
   | some y=>some (y == some want)
   | none=>none
def Gz(o : Oper)(f : FuncId)(caps : List Operand)(st : St)(dl : List Nat) : Option St :=
 match dl with
 | []=>none
 | dl=>(match sealL st dl with
   | some ss=>(match evL ss caps with
     | some avs=>(match kA avs with | some ds=>some ⟨lD o.dst (.one (.d (.fn f ds))) ss.fr,ss.sto⟩ | none=>none)
     | none=>none)
   | none=>none)
def GA : Option AV→Bool
 | some (.one (.rref _ _ _))=>true
 | _=>false
def AU(V : Env)(o : Oper)(st : St)(dl : List Nat) : Option St :=
 match dl with
 | []=>none
 | dl=>(match sealL st dl with
   | some ss=>(match aV V ss o 0 with
     | some ⟨v,wr,[]⟩=>some ⟨lD o.dst v ss.fr,cM wr ss.sto⟩
     | _=>none)
   | none=>none)
def EA(V : Env)(st : St)(o : Oper) : Option St :=
 match o.op with
 | .makeFunc (.func f) ⟨[]⟩ caps=>Gz o f caps.toList st (db st.sto (cj st caps.toList) [])
 | .store _ x y=>bif GA (ev st x) then AU V o st (db st.sto (sn st y) []) else none
 | _=>none
theorem GB{V : Env}(hV : EnvOk P V){opsA : Array Oper}{l : List Oper}{st st' : St}{o : Oper}{K : St→Prop}{dl : List Nat}(hd : aU c.n o.dst = true)(h : AU V o st dl = some st')(hk : ae P c opsA l st' K) : ae P c opsA ({ o with guard:=none }::l) st K:=by
 unfold AU at h
 split at h <;> (try (simp at h; done))
 split at h <;> (try (simp at h; done))
 rename_i ss hss
 split at h <;> simp at h
 rename_i v wr hs
 subst h
 have hi : Imp c st ss:=fun a w σ φ hr=>by
  obtain ⟨σs,_,h3,_⟩:=Rel.sealL hss hr
  exact ⟨σs,φ,h3⟩
 exact eo hi (pT hV hd hs rfl (fun i hi=>by simp at hi) opsA l K (eo (oW fun t=>iY) hk))
theorem Il{V : Env}(hV : EnvOk P V){opsA : Array Oper}{l : List Oper}{st st' : St}{o : Oper}{K : St→Prop}(hd : aU c.n o.dst = true)(h : EA V st o = some st')(hk : ae P c opsA l st' K) : ae P c opsA ({ o with guard:=none }::l) st K:=by
 unfold EA at h
 split at h <;> (try (simp at h; done))
 rotate_left
 ·rename_i t x y ho
  cases hb : GA (ev st x) <;> simp only [hb,cond_true,cond_false,reduceCtorEq] at h
  exact GB hV hd h hk
 rename_i f caps ho
 generalize db st.sto (cj st caps.toList) [] = dl at h
 unfold Gz at h
 split at h <;> (try (simp at h; done))
 split at h <;> (try (simp at h; done))
 rename_i ss hss
 split at h <;> (try (simp at h; done))
 rename_i avs ha
 split at h <;> simp at h
 rename_i ds hds
 subst h
 refine bk rfl fun a w σ φ hr=>?_
 obtain ⟨σs,_,hs,_⟩:=Rel.sealL hss hr
 have h1:=nO hds (gQ hs ha)
 refine ⟨.func (.func f) #[] (caps.toList.map a.eval).toArray,w,⟨bt o.dst (.one (.d (.fn f ds))) ss.fr,ss.sto⟩,σs,φ,?_,hs.put (v:=.one (.d (.fn f ds))) hd (RepC.d (.fn _ h1.length.symm fun j d v hd hv=>?_)),eo (oW fun t=>iY) hk⟩
 ·have e : (caps.toList.map a.eval).toArray = caps.map a.eval:=by rw [← Array.toList_map,Array.toArray_toList]
  rw [e]
  simp [execOp,ho,Instr.makeFunc]
 ·obtain ⟨u,hu,hru⟩:=h1.get hd
  rw [hv] at hu; cases hu; exact hru
def AW(orc : Orc)(ow : Bool)(id : Nat)(st : St)(dst : Option Nat)(fop : Operand)(args : List Operand)(dl : List Nat) : Option St :=
 match sealL st dl with
 | some ss=>(match ev ss fop,evL ss args with
   | some (.one (.d (.fn f caps))),some avs=>bif cw avs then (match orc (some f) ow (avs ++ caps.map fun x=>.one (.d x)) [] with
     | some (rav,rsto)=>bif fh rav then some ⟨lD dst rav st.fr,st.sto⟩
       else bif cA [] rsto && Nat.ble (id + 16) 1000000 && c7 rsto rav && bm rsto rsto && dQ ss (rng id 16) then some ⟨lD dst (dD (rn id []) rav) ss.fr,cM (vA (rn id []) rsto) ss.sto⟩ else none
     | none=>none) else none
   | _,_=>none)
 | none=>none
theorem GC{orc : Orc}(hO : OrcOk P orc){ow : Bool}{id : Nat}{opsA : Array Oper}{l : List Oper}{st st' : St}{o : Oper}{K : St→Prop}{fop : Operand}{args : Array Operand}{ats : Array TypeId}{dl : List Nat}(ho : o.op = .call { callee:=.value fop,args:=args,argTypes:=ats })
  (hd : aU c.n o.dst = true) (h : AW orc ow id st o.dst fop args.toList dl = some st') (hk : ae P c opsA l st' K) : ae P c opsA ({ o with guard:=none }::l) st K:=by
 unfold AW at h
 split at h <;> (try (simp at h; done))
 rename_i ss hss
 split at h <;> (try (simp at h; done))
 rename_i f caps avs hf ha
 cases hD : cw avs <;> simp only [hD,cond_true,cond_false,reduceCtorEq] at h
 split at h <;> (try (simp at h; done))
 rename_i rav rsto hor
 have hi : Imp c st ss:=fun a w σ φ hr=>by
  obtain ⟨σs,_,h3,_⟩:=Rel.sealL hss hr
  exact ⟨σs,φ,h3⟩
 cases hfl : fh rav with
 | true =>
   simp only [hfl,cond_true,Option.some.injEq] at h
   subst h
   exact ji (o:={ o with guard:=none }) ho rfl hd hi hf ha hD (hO.call _ _ _ _ _ _ hor) hfl (eo (oW fun t=>iY) hk)
 | false =>
   simp only [hfl,cond_false] at h
   cases hb : cA [] rsto && Nat.ble (id + 16) 1000000 && c7 rsto rav && bm rsto rsto && dQ ss (rng id 16) <;> simp only [hb,cond_true,cond_false,reduceCtorEq,Option.some.injEq] at h
   subst h
   rw [Bool.and_eq_true] at hb
   refine eo hi (lx (o:={ o with guard:=none }) id [] ho rfl hd rfl hf ha hD (hO.call _ _ _ _ _ _ hor) hb.1 (fun i h1 h2=>?_) (eo (oW fun t=>iY) ?_))
   ·exact eK hb.2 i (rng_mem.2 ⟨h1,h2⟩)
   ·have:=kG (r:=rn id []) (s:=ss.sto) (d:=[]) (rs:=rsto)
    simp only [List.append_nil,cM] at this
    rw [this] at hk
    exact hk
def Im(V : Env)(mf : FuncId→Bool)(orc : Orc)(yf ow : Bool)(st : St)(o : Oper) : Option St :=
 match EA V st o with
 | some st'=>some st'
 | none=>match o.op with
   | .call { callee:=.value fop,args,.. }=>(match ev st fop with
     | some (.one (.d (.fn f _)))=>bif mf f then
       (match xTr V mf orc yf ow (lE st) st o with | some tr=>some ⟨lD o.dst tr.v st.fr,cM tr.wr st.sto⟩ | none=>none)
       else AW orc ow (lE st) st o.dst fop args.toList (db st.sto (cj st args.toList) [])
     | _=>(match xTr V mf orc yf ow (lE st) st o with | some tr=>some ⟨lD o.dst tr.v st.fr,cM tr.wr st.sto⟩ | none=>none))
   | _=>(match xTr V mf orc yf ow (lE st) st o with | some tr=>some ⟨lD o.dst tr.v st.fr,cM tr.wr st.sto⟩ | none=>none)
theorem Km{V : Env}(hV : EnvOk P V){mf : FuncId→Bool}{orc : Orc}(hO : OrcOk P orc){yf ow : Bool}(hy : yf = true→c.rd = none){opsA : Array Oper}{l : List Oper}{st st' : St}{o : Oper}{K : St→Prop}(hd : aU c.n o.dst = true)(h : Im V mf orc yf ow st o = some st')
  (hk : ae P c opsA l st' K) : ae P c opsA ({ o with guard:=none }::l) st K:=by
 have key : ∀ {st' : St},(match xTr V mf orc yf ow (lE st) st o with | some tr=>some (⟨lD o.dst tr.v st.fr,cM tr.wr st.sto⟩ : St) | none=>none) = some st'→ae P c opsA l st' K→ae P c opsA ({ o with guard:=none }::l) st K:=by
  intro st' h hk
  split at h <;> simp at h
  rename_i tr htr
  subst h
  obtain ⟨hl,hf⟩:=Fe hV hO hy hd htr
  exact hl st (fun _ _=>rfl) (fun _ _=>rfl) hf opsA l _ (eo (oW fun t=>iY) hk)
 unfold Im at h
 split at h
 ·rename_i s1 hs1
  simp only [Option.some.injEq] at h; subst h
  exact Il hV hd hs1 hk
 split at h
 ·rename_i fop args ats ho
  split at h
  ·rename_i f caps hf
   cases hm : mf f with
   | true=>simp only [hm,cond_true] at h; exact key h hk
   | false=>simp only [hm,cond_false] at h; exact GC hO ho hd h hk
  ·exact key h hk
 ·exact key h hk
def wC(V : Env)(mf : FuncId→Bool)(orc : Orc)(yf ow : Bool)(n : Nat)(opsA : Array Oper) : List Oper→St→Option St
 | [],st=>some st
 | o::r,st=>bif aU n o.dst then (match lS opsA st o with
   | some true=>(match Im V mf orc yf ow st o with
     | some st'=>wC V mf orc yf ow n opsA r st'
     | none=>none)
   | some false=>wC V mf orc yf ow n opsA r ⟨lD o.dst (.tup []) st.fr,st.sto⟩
   | none=>none) else none
theorem wD{V : Env}(hV : EnvOk P V){mf : FuncId→Bool}{orc : Orc}(hO : OrcOk P orc){yf ow : Bool}(hy : yf = true→c.rd = none){opsA : Array Oper} : ∀ {l : List Oper} {st st' : St},wC V mf orc yf ow c.n opsA l st = some st'→ae P c opsA l st (fun s=>s = st')
 | [],st,st',h=>by
   simp only [wC,Option.some.injEq] at h; subst h
   exact rE rfl
 | o::r,st,st',h=>by
   simp only [wC] at h
   cases hd : aU c.n o.dst <;> simp only [hd,cond_true,cond_false,reduceCtorEq] at h
   cases hg : lS opsA st o with
   | none=>simp [hg] at h
   | some b =>
     cases b with
     | true =>
       simp only [hg] at h
       have hk : ae P c opsA ({ o with guard:=none }::r) st (fun s=>s = st'):=by
        split at h <;> (try (simp at h; done))
        rename_i s1 hs1
        exact Km hV hO hy hd hs1 (wD hV hO hy h)
       unfold lS at hg
       cases hgd : o.guard with
       | none =>
         have : ({ o with guard:=none } : Oper) = o:=by obtain ⟨_,_,_,_,_,g⟩:=o; simp only at hgd; subst hgd; rfl
         rw [this] at hk; exact hk
       | some gw =>
         obtain ⟨j,want⟩:=gw
         simp only [hgd] at hg
         split at hg <;> simp at hg
         rename_i b hb
         subst hg
         exact sG hgd hb rfl hk
     | false =>
       simp only [hg] at h
       unfold lS at hg
       cases hgd : o.guard with
       | none=>simp [hgd] at hg
       | some gw =>
         obtain ⟨j,want⟩:=gw
         simp only [hgd] at hg
         split at hg <;> simp at hg
         rename_i b hb
         exact qR hgd hb (by simpa using hg) hd (eo (oW fun t=>iY) (wD hV hO hy h))
def sq(V : Env)(mf : FuncId→Bool)(orc : Orc)(yf ow : Bool)(n : Nat)(opsA : Array Oper)(st0 : St) : Nat→List Oper→St→List Tr→Option St
 | _,[],st,acc=>bif kM opsA.toList st0 acc.reverse then some ⟨oV st.fr,st.sto⟩ else none
 | lo,o::r,st,acc=>bif aU n o.dst then (match lS opsA st o with
   | some true=>(match xTr V mf orc yf ow lo st o with
     | some tr=>sq V mf orc yf ow n opsA st0 (mx tr.new lo) r ⟨bt o.dst tr.v st.fr,cM tr.wr st.sto⟩ (tr::acc)
     | none=>none)
   | some false=>sq V mf orc yf ow n opsA st0 lo r ⟨bt o.dst (.tup []) st.fr,st.sto⟩ (Tr.none::acc)
   | none=>none) else none
theorem tX{V : Env}(hV : EnvOk P V){mf : FuncId→Bool}{orc : Orc}(hO : OrcOk P orc){yf ow : Bool}(hy : yf = true→c.rd = none){opsA : Array Oper}{st0 : St} : ∀ {l : List Oper} {lo : Nat} {st st' : St} {acc : List Tr},sq V mf orc yf ow c.n opsA st0 lo l st acc = some st' →
  ar P c opsA st0 l st acc (fun s=>(⟨oV s.fr,s.sto⟩ : St) = st')
 | [],lo,st,st',acc,h=>by
   simp only [sq] at h
   cases hb : kM opsA.toList st0 acc.reverse <;> simp only [hb,cond_true,cond_false,reduceCtorEq,Option.some.injEq] at h
   exact ⟨hb,h⟩
 | o::r,lo,st,st',acc,h=>by
   simp only [sq] at h
   cases hd : aU c.n o.dst <;> simp only [hd,cond_true,cond_false,reduceCtorEq] at h
   have hgok : ∀ {b : Bool},lS opsA st o = some b→gh opsA st o b:=by
    intro b hg
    unfold lS at hg
    unfold gh
    cases hgd : o.guard with
    | none=>simp only [hgd,Option.some.injEq] at hg ⊢; exact hg.symm
    | some gw =>
      obtain ⟨j,want⟩:=gw
      simp only [hgd] at hg ⊢
      split at hg <;> simp at hg
      rename_i b' hb
      exact ⟨b',hb,hg.symm⟩
   cases hg : lS opsA st o with
   | none=>simp [hg] at h
   | some b =>
     cases b with
     | true =>
       simp only [hg] at h
       split at h <;> (try (simp at h; done))
       rename_i tr htr
       exact ⟨true,tr,hgok hg,fun _=>(Fe hV hO hy hd htr).1,fun e=>by simp at e,fun e=>by simp at e,tX hV hO hy h⟩
     | false =>
       simp only [hg] at h
       exact ⟨false,Tr.none,hgok hg,fun e=>by simp at e,fun _=>rfl,fun _=>hd,tX hV hO hy h⟩
inductive XE where
 | norm | ex (id : Nat) | ret
 /-- off the end, a loop's mark standing -/
 | mk
def XE.e : XE→Exit
 | .norm | .mk=>.normal
 | .ex i=>.exit i
 | .ret=>.ret
def kB(f : St→Option (XE×St)) : Nat→St→Option (XE×St)
 | 0,_=>none
 | n + 1,st=>match f st with
   | some (.norm,st')=>kB f n st'
   | some (.mk,_)=>none
   | r=>r
def Ko : LoopState→Bool
 | .busy=>false
 | _=>true
def pOk : Option Code→Bool
 | none=>true
 | some .ret=>true
 | _=>false
def qx(st : St)(ids : List Nat)(idl : Nat)(li : LI)(os : List (Nat×AObj))(caps : List D)(rav : AV)(j : Nat)(liR : LI)(frR : List (Nat×AV))(s' : LoopState)(p' : Option Code)(rs : Sto) : Bool :=
 Nat.beq j 1000000 && nT (idl::ids) os && !cg idl ids && fF ((idl,.loop li (b7 ids st.fr []) .ready none)::st.sto) (bL 1000000 (idl::ids)) rs &&
 hkB (idl + 1) (idl::ids) ((1000000,.loop li (c6 (inv 1000000 (idl::ids)) (b7 ids st.fr [])) .ready none)::gS (inv 1000000 (idl::ids)) os) ((.one (.yl 1000000))::caps.map fun x=>.one (.d x)) rav ((1000000,.loop liR frR s' p')::rs) &&
 (Nat.blt idl (idl + 1) && lq st.sto idl && !bx idl st.fr && !aR idl st.sto && Nat.ble (idl + 1 + 16) 1000000 && qf (idl + 1) (b7 ids st.fr []) && lq rs 1000000) &&
 dQ st (rng (idl + 1) 16) && Ko s' && pOk p'
def CN(orc : Orc)(li : LI)(st : St)(f : FuncId)(caps : List D)(ids : List Nat)(idl : Nat) : Option (Option Code×St) :=
 match iL st.sto ids with
 | some os=>(match orc (some f) false ((.one (.yl 1000000))::caps.map fun x=>.one (.d x)) ((1000000,.loop li (c6 (inv 1000000 (idl::ids)) (b7 ids st.fr [])) .ready none)::gS (inv 1000000 (idl::ids)) os) with
   | some (rav,(j,.loop liR frR s' p')::rs)=>bif qx st ids idl li os caps rav j liR frR s' p' rs then some (p',⟨st.fr,jH (idl + 1) (bL 1000000 (idl::ids)) rs st.sto⟩) else none
   | _=>none)
 | none=>none
def AX(orc : Orc)(n : Nat)(g : Operand)(ps : Array Nat)(assign body : Code)(st : St) : Option (Option Code×St) :=
 match ev st g with
 | some (.one (.d (.fn f caps)))=>CN orc ⟨n,ps,assign,body⟩ st f caps (iK st.sto 1000 (j5 st.fr) []) (lE st)
 | _=>none
theorem xP{orc : Orc}(hO : OrcOk P orc){g : Operand}{ps : Array Nat}{assign body : Code}{st st' : St}{p : Option Code}(hrd : c.rd = none)(hmk : c.mks = [])(h : AX orc c.n g ps assign body st = some (p,st')) :
  ∀ (a : Act) (w : World) (σ : Sig) (φ : Pl),Rel c st a w σ φ→(Code.rangeFunc g ps assign body).wpIn (fnc c) 0 P (fun e a' w' =>
    (p = none∧e = .normal∧∃ c1 σ' φ',yX c c1∧Rel c1 st' a' w' σ' φ')∨(p = some .ret∧e = .ret∧∃ σ' φ',RelE c .ret st' a' w' σ' φ')) a w:=by
 unfold AX at h
 split at h <;> (try (simp at h; done))
 rename_i f caps hg
 generalize iK st.sto 1000 (j5 st.fr) [] = ids at h
 generalize lE st = idl at h
 unfold CN at h
 split at h <;> (try (simp at h; done))
 rename_i os hos
 split at h <;> (try (simp at h; done))
 rename_i rav j liR frR s' p' rs hor
 cases hb : qx st ids idl ⟨c.n,ps,assign,body⟩ os caps rav j liR frR s' p' rs <;> simp only [hb,cond_true,cond_false,reduceCtorEq,Option.some.injEq,Prod.mk.injEq] at h
 obtain ⟨rfl,rfl⟩:=h
 unfold qx at hb
 simp only [Bool.and_eq_true,Bool.not_eq_true'] at hb
 obtain ⟨⟨⟨⟨⟨⟨⟨⟨hj,hall⟩,hni⟩,hcm⟩,hk⟩,hi⟩,hfr⟩,hbu⟩,hp⟩:=hb
 have hj':=Nat.eq_of_beq_eq_true hj
 subst hj'
 have hren : c6 (rn (idl + 1) (bL 1000000 (idl::ids))) (c6 (inv 1000000 (idl::ids)) (b7 ids st.fr [])) = b7 ids st.fr [] :=
  nk fun i hi=>qs (by simp only [cg,Bool.or_eq_true]; exact .inr (kh i hi))
 have hne : ∀ i∈ids,i≠idl:=by
  intro i hmem e
  rw [e] at hmem
  rw [memL_iff.2 hmem] at hni; cases hni
 have e : c6 (rn (idl + 1) ((1000000,idl)::bL 1000001 ids)) (c6 (inv 1000000 (idl::ids)) (b7 ids st.fr [])) = b7 ids st.fr []:=hren
 refine w3 (k:=idl + 1) (idl:=idl) (ρ:=bL 1000001 ids) hrd hmk hg (hO.call _ _ _ _ _ _ hor) (fun s v hv=>?_) ?_ ?_ hk ?_ ?_ ?_ ?_
 ·rw [e] at hv
  exact (gN hv).2
 ·exact j9 (s:=(idl,_)::st.sto) ((j8 (s:=st.sto) fun i hi=>aS (hne i hi)).trans hos) hall
 ·refine jh (s:=(idl,.loop ⟨c.n,ps,assign,body⟩ (b7 ids st.fr []) .ready none)::st.sto) (fun j i _=>?_) hcm
  show look ((idl,AObj.loop _ _ _ _)::st.sto) i = _
  rw [e]
 ·rw [e]
  simp only [Bool.and_eq_true,Bool.not_eq_true']
  exact hi
 ·intro i h1 h2
  exact eK hfr i (rng_mem.2 ⟨h1,h2⟩)
 ·rintro rfl; cases hbu
 ·unfold pOk at hp
  split at hp
  ·exact .inl rfl
  ·exact .inr rfl
  ·cases hp
def bR(V : Env)(mf : FuncId→Bool)(rg : List Nat)(orc : Orc)(n : Nat) : Bool→Bool→Code→St→Option (XE×St)
 | _,_,.skip,st=>some (.norm,st)
 | _,yf,.region id ops true,st=>match sq V mf orc yf (cg id rg) n ops st (lE st) ops.toList st [] with | some st'=>some (.norm,st') | none=>none
 | _,yf,.region id ops false,st=>match wC V mf orc yf (cg id rg) n ops ops.toList st with | some st'=>some (.norm,st') | none=>none
 | rf,_,.rangeFunc g ps assign body,st=>bif rf then (match AX orc n g ps assign body st with
   | some (none,st')=>some (.mk,st')
   | some (some _,st')=>some (.ret,st')
   | none=>none) else none
 | rf,yf,.seq x y,st=>match bR V mf rg orc n rf yf x st with
   | some (.norm,st')=>bR V mf rg orc n rf yf y st'
   | some (.mk,st')=>(match bR V mf rg orc n false yf y st' with
     | some (.norm,s)=>some (.mk,s)
     | some (.ret,s)=>some (.ret,s)
     | _=>none)
   | r=>r
 | rf,yf,.cond o x y,st=>match ev st o with
   | some (.one (.d (.bool true)))=>bR V mf rg orc n rf yf x st
   | some (.one (.d (.bool false)))=>bR V mf rg orc n rf yf y st
   | _=>none
 | rf,yf,.block id x,st=>match bR V mf rg orc n rf yf x st with
   | some (.ex i,st')=>bif Nat.beq i id then some (.norm,st') else some (.ex i,st')
   | r=>r
 | rf,yf,.loop x,st=>kB (fun s=>bR V mf rg orc n rf yf x s) 100000 st
 | _,_,.exit id,st=>some (.ex id,st)
 | _,_,.ret,st=>some (.ret,st)
 | _,_,_,_=>none
def MR(c : Ctx)(e : XE)(st : St)(a : Act)(w : World)(σ : Sig)(φ : Pl) : Prop :=
 match e with
 | .mk=>∃ c1,yX c c1∧Rel c1 st a w σ φ
 | e=>RelE c e.e st a w σ φ
def OkX(P : Program)(c : Ctx)(code : Code)(st : St)(e : XE)(st' : St) : Prop :=
 ∀ (a : Act) (w : World) (σ : Sig) (φ : Pl),Rel c st a w σ φ→code.wpIn (fnc c) 0 P (fun x a' w'=>x = e.e∧∃ σ' φ',MR c e st' a' w' σ' φ') a w
def AY(e : XE)(st' : St) : Exit→St→Prop:=fun x s=>x = e.e∧s = st'
theorem OkX.of{code : Code}{st st' : St}{e : XE}(he : e≠.mk)(h : OkC P c code st (AY e st')) : OkX P c code st e st':=by
 intro a w σ φ hr
 refine wpIn_mono (h a w σ φ hr) ?_
 rintro x a' w' ⟨s,σ',φ',⟨rfl,rfl⟩,h2⟩
 refine ⟨rfl,σ',φ',?_⟩
 cases e <;> first | exact absurd rfl he | exact h2
theorem OkX.okC{code : Code}{st st' : St}{e : XE}(he : e≠.mk)(h : OkX P c code st e st') : OkC P c code st (AY e st'):=by
 intro a w σ φ hr
 refine wpIn_mono (h a w σ φ hr) ?_
 rintro x a' w' ⟨rfl,σ',φ',h2⟩
 refine ⟨st',σ',φ',⟨rfl,rfl⟩,?_⟩
 cases e <;> first | exact absurd rfl he | exact h2
theorem vi{V : Env}{mf : FuncId→Bool}{rg : List Nat}{orc : Orc}{n : Nat} : ∀ (z : Code) {st s : St},bR V mf rg orc n false false z st≠some (.mk,s):=by
 intro z
 induction z with
 | region id ops d =>
   intro st s h
   cases d <;> simp only [bR] at h <;> split at h <;> simp at h
 | seq x y ihx ihy =>
   intro st s h
   simp only [bR] at h
   split at h
   ·exact ihy h
   ·rename_i h1; exact ihx h1
   ·rename_i h1 h2; exact h2 _ h
 | cond o x y ihx ihy =>
   intro st s h
   simp only [bR] at h
   split at h
   ·exact ihx h
   ·exact ihy h
   ·simp at h
 | block id x ih =>
   intro st s h
   simp only [bR] at h
   split at h
   ·rename_i i st' h1
    cases hb : Nat.beq i id <;> simp [hb] at h
   ·exact ih h
 | loop x ih =>
   intro st s h
   simp only [bR] at h
   have key : ∀ (m : Nat) (st : St),kB (fun s=>bR V mf rg orc n false false x s) m st≠some (.mk,s):=by
    intro m
    induction m with
    | zero=>intro st h; simp [kB] at h
    | succ m ihm =>
      intro st h
      simp only [kB] at h
      split at h
      ·exact ihm _ h
      ·simp at h
      ·rename_i h1 h2; exact h2 _ h
   exact key _ _ h
 | _=>intro st s h; simp [bR] at h
theorem GD{V : Env}(hV : EnvOk P V){mf : FuncId→Bool}{rg : List Nat}{orc : Orc}(hO : OrcOk P orc)(hm : P.follows .mixedOrders = true) : ∀ (code : Code) (rf yf : Bool) (c : Ctx) (st : St) (e : XE) (st' : St),(yf = true→c.rd = none)→(rf = true→c.rd = none∧c.mks = [])→bR V mf rg orc c.n rf yf code st = some (e,st')→OkX P c code st e st':=by
 intro code
 induction code with
 | skip =>
   intro rf yf c st e st' hy hr h
   simp only [bR,Option.some.injEq,Prod.mk.injEq] at h
   obtain ⟨rfl,rfl⟩:=h
   exact .of (by simp) (CH ⟨rfl,rfl⟩)
 | region id ops d =>
   intro rf yf c st e st' hy hr h
   cases d with
   | true =>
     simp only [bR] at h
     split at h <;> simp at h
     rename_i s hs
     obtain ⟨rfl,rfl⟩:=h
     have h1 : OkC P c (.region id ops true) st (fun x s'=>x = .normal∧(⟨oV s'.fr,s'.sto⟩ : St) = s) :=
      um hm (by
       have:=tX (c:=c) hV hO hy hs
       simpa using this)
     refine .of (by simp) ?_
     intro a w σ φ hr
     refine wpIn_mono (h1 a w σ φ hr) ?_
     rintro e a' w' ⟨s',σ',φ',⟨rfl,rfl⟩,h2⟩
     exact ⟨_,σ',φ',⟨rfl,rfl⟩,.inl ((h2.rel (by simp)).cong (fun _=>sX) fun _=>rfl)⟩
   | false =>
     simp only [bR] at h
     split at h <;> simp at h
     rename_i s hs
     obtain ⟨rfl,rfl⟩:=h
     exact .of (by simp) (xL (EB (wD hV hO hy hs) fun s hs=>⟨rfl,hs⟩))
 | rangeFunc g ps assign body =>
   intro rf yf c st e st' hy hr h
   simp only [bR] at h
   cases rf with
   | false=>simp at h
   | true =>
     obtain ⟨hr1,hr2⟩:=hr rfl
     simp only [cond_true] at h
     intro a w σ φ hrel
     split at h <;> simp at h
     ·rename_i s1 hx
      obtain ⟨rfl,rfl⟩:=h
      refine wpIn_mono (xP hO hr1 hr2 hx a w σ φ hrel) ?_
      rintro x a' w' (⟨_,rfl,c1,σ',φ',h1,h2⟩ | ⟨h,_⟩)
      ·exact ⟨rfl,σ',φ',c1,h1,h2⟩
      ·cases h
     ·rename_i cd s1 hx
      obtain ⟨rfl,rfl⟩:=h
      refine wpIn_mono (xP hO hr1 hr2 hx a w σ φ hrel) ?_
      rintro x a' w' (⟨h,_⟩ | ⟨_,rfl,σ',φ',h2⟩)
      ·cases h
      ·exact ⟨rfl,σ',φ',h2⟩
 | seq x y ihx ihy =>
   intro rf yf c st e st' hy hr h
   simp only [bR] at h
   intro a w σ φ hrel
   cases hx : bR V mf rg orc c.n rf yf x st with
   | none=>simp [hx] at h
   | some r =>
     obtain ⟨e1,s1⟩:=r
     refine wpIn_seq (wpIn_mono (ihx _ _ _ _ _ _ hy hr hx a w σ φ hrel) ?_)
     rintro ex a1 w1 ⟨rfl,σ1,φ1,h1⟩
     cases e1 with
     | norm =>
       simp only [hx] at h
       exact ihy _ _ _ _ _ _ hy hr h a1 w1 σ1 φ1 (RelE.rel h1 (by simp [XE.e]))
     | ex i=>simp only [hx,Option.some.injEq,Prod.mk.injEq] at h; obtain ⟨rfl,rfl⟩:=h; exact ⟨rfl,σ1,φ1,h1⟩
     | ret=>simp only [hx,Option.some.injEq,Prod.mk.injEq] at h; obtain ⟨rfl,rfl⟩:=h; exact ⟨rfl,σ1,φ1,h1⟩
     | mk =>
       simp only [hx] at h
       obtain ⟨c1,⟨g1,g2,g3,g4⟩,h2⟩:=h1
       have hrun : ∀ {e2 : XE} {s2 : St},bR V mf rg orc c.n false yf y s1 = some (e2,s2)→y.wpIn (fnc c) 0 P (fun x a' w'=>x = e2.e∧∃ σ' φ',MR c1 e2 s2 a' w' σ' φ') a1 w1:=by
        intro e2 s2 hq
        rw [← g1] at hq
        have h3:=ihy false yf c1 s1 e2 s2 (fun _=>g2) (fun h=>by cases h) hq a1 w1 σ1 φ1 h2
        cases yf with
        | true =>
          have hf : fnc c1 = fnc c:=by rw [ir g2,ir (hy rfl)]
          rwa [hf] at h3
        | false =>
          cases rf with
          | true =>
            have hf : fnc c1 = fnc c:=by rw [ir g2,ir (hr rfl).1]
            rwa [hf] at h3
          | false =>
            exfalso
            have none : ∀ (z : Code) {st : St} {s : St},bR V mf rg orc c.n false false z st≠some (.mk,s):=vi
            exact none x hx
       split at h <;> (try (simp at h; done))
       ·rename_i s2 hs2
        simp only [Option.some.injEq,Prod.mk.injEq] at h
        obtain ⟨rfl,rfl⟩:=h
        refine wpIn_mono (hrun hs2) ?_
        rintro x a' w' ⟨rfl,σ',φ',h4⟩
        exact ⟨rfl,σ',φ',c1,⟨g1,g2,g3,g4⟩,RelE.rel h4 (by simp [XE.e])⟩
       ·rename_i s2 hs2
        simp only [Option.some.injEq,Prod.mk.injEq] at h
        obtain ⟨rfl,rfl⟩:=h
        refine wpIn_mono (hrun hs2) ?_
        rintro x a' w' ⟨rfl,σ',φ',h4⟩
        refine ⟨rfl,σ',φ',?_⟩
        rcases (show RelE c1 .ret _ a' w' σ' φ' from h4) with h5 | ⟨_,r,_,_,_,h5⟩
        ·exact g4 _ _ _ _ _ h5
        ·exact absurd h5.defers.symm g3
 | cond o x y ihx ihy =>
   intro rf yf c st e st' hy hr h
   simp only [bR] at h
   intro a w σ φ hrel
   split at h
   ·rename_i hb
    have h1:=RepC.d_inv (aI hrel hb)
    generalize hu : a.eval o = u at h1
    cases h1
    exact wpIn_cond_true hu (ihx _ _ _ _ _ _ hy hr h a w σ φ hrel)
   ·rename_i hb
    have h1:=RepC.d_inv (aI hrel hb)
    generalize hu : a.eval o = u at h1
    cases h1
    exact wpIn_cond_false hu (ihy _ _ _ _ _ _ hy hr h a w σ φ hrel)
   ·simp at h
 | block id x ih =>
   intro rf yf c st e st' hy hr h
   simp only [bR] at h
   intro a w σ φ hrel
   cases hx : bR V mf rg orc c.n rf yf x st with
   | none=>simp [hx] at h
   | some r =>
     obtain ⟨e1,s1⟩:=r
     refine wpIn_block (wpIn_mono (ih _ _ _ _ _ _ hy hr hx a w σ φ hrel) ?_)
     rintro ex a1 w1 ⟨rfl,σ1,φ1,h1⟩
     cases e1 with
     | norm=>simp only [hx,Option.some.injEq,Prod.mk.injEq] at h; obtain ⟨rfl,rfl⟩:=h; exact ⟨rfl,σ1,φ1,h1⟩
     | ret=>simp only [hx,Option.some.injEq,Prod.mk.injEq] at h; obtain ⟨rfl,rfl⟩:=h; exact ⟨rfl,σ1,φ1,h1⟩
     | mk=>simp only [hx,Option.some.injEq,Prod.mk.injEq] at h; obtain ⟨rfl,rfl⟩:=h; exact ⟨rfl,σ1,φ1,h1⟩
     | ex i =>
       simp only [hx] at h
       cases hb : Nat.beq i id with
       | true =>
         have hi:=Nat.eq_of_beq_eq_true hb
         simp only [hb,cond_true,Option.some.injEq,Prod.mk.injEq] at h
         obtain ⟨rfl,rfl⟩:=h
         simp only [XE.e,Exit.inBlock]
         rw [if_pos hi]
         exact ⟨trivial,σ1,φ1,.inl (RelE.rel h1 (by simp [XE.e]))⟩
       | false =>
         simp only [hb,cond_false,Option.some.injEq,Prod.mk.injEq] at h
         obtain ⟨rfl,rfl⟩:=h
         have hi : i≠id:=by rintro rfl; rw [Nat.beq_refl] at hb; cases hb
         simp only [XE.e,Exit.inBlock]
         rw [if_neg hi]
         exact ⟨trivial,σ1,φ1,h1⟩
 | loop x ih =>
   intro rf yf c st e st' hy hr h
   simp only [bR] at h
   have hne : ∀ {n : Nat} {s : St},kB (fun s=>bR V mf rg orc c.n rf yf x s) n s = some (e,st')→e≠.mk:=by
    intro n
    induction n with
    | zero=>intro s h; simp [kB] at h
    | succ n ihn =>
      intro s h
      simp only [kB] at h
      split at h
      ·exact ihn h
      ·simp at h
      ·rename_i h1 h2
       rintro rfl
       exact h2 _ h
   refine .of (hne h) (ox (fun n s=>kB (fun s=>bR V mf rg orc c.n rf yf x s) n s = some (e,st')) 100000 h fun n s hs=>?_)
   cases n with
   | zero=>simp [kB] at hs
   | succ n =>
     simp only [kB] at hs
     cases hx : bR V mf rg orc c.n rf yf x s with
     | none=>simp [hx] at hs
     | some r =>
       obtain ⟨e1,s1⟩:=r
       by_cases hmk : e1 = .mk
       ·subst hmk; simp [hx] at hs
       refine jI ((ih _ _ _ _ _ _ hy hr hx).okC hmk) ?_
       rintro ex s' ⟨rfl,rfl⟩
       cases e1 with
       | norm=>simp only [hx] at hs; exact ⟨n,_,by omega,hs,Imp.refl _⟩
       | ex i=>simp only [hx,Option.some.injEq,Prod.mk.injEq] at hs; obtain ⟨rfl,rfl⟩:=hs; exact ⟨rfl,rfl⟩
       | ret=>simp only [hx,Option.some.injEq,Prod.mk.injEq] at hs; obtain ⟨rfl,rfl⟩:=hs; exact ⟨rfl,rfl⟩
       | mk=>exact absurd rfl hmk
 | exit id =>
   intro rf yf c st e st' hy hr h
   simp only [bR,Option.some.injEq,Prod.mk.injEq] at h
   obtain ⟨rfl,rfl⟩:=h
   exact .of (by simp) (CI ⟨rfl,rfl⟩)
 | ret =>
   intro rf yf c st e st' hy hr h
   simp only [bR,Option.some.injEq,Prod.mk.injEq] at h
   obtain ⟨rfl,rfl⟩:=h
   exact .of (by simp) (bH ⟨rfl,rfl⟩)
 | _=>intros; simp_all [bR]
theorem tY{V : Env}(hV : EnvOk P V){mf : FuncId→Bool}{rg : List Nat}{orc : Orc}(hO : OrcOk P orc)(hm : P.follows .mixedOrders = true)(code : Code)(rf yf : Bool)(c : Ctx)(st : St)(e : XE)(st' : St)(hy : yf = true→c.rd = none)(hr : rf = true→c.rd = none∧c.mks = [])(h : bR V mf rg orc c.n rf yf code st = some (e,st'))(he : e≠.mk) : OkC P c code st (AY e st') :=
 (GD hV hO hm code rf yf c st e st' hy hr h).okC he
theorem GF{code : Code}{st s' ss : St}{e : XE}(h : OkC P c code st (AY e s'))(hi : ∀ {a : Act} {w : World} {σ : Sig} {φ : Pl} {mk : List Deferred},Rel { c with mks:=mk } s' a w σ φ→∃ σ2 φ2,Rel { c with mks:=mk } ss a w σ2 φ2) : OkC P c code st (AY e ss):=by
 intro a w σ φ hr
 refine wpIn_mono (h a w σ φ hr) ?_
 rintro ex a' w' ⟨s'',σ',φ',⟨rfl,rfl⟩,hE⟩
 rcases hE with hr' | ⟨he',r,hd,hh,hge,hr'⟩
 ·obtain ⟨σ2,φ2,h4⟩:=hi (mk:=c.mks) hr'
  exact ⟨ss,σ2,φ2,⟨rfl,rfl⟩,.inl h4⟩
 ·obtain ⟨σ2,φ2,h4⟩:=hi (mk:=c.mks) hr'
  exact ⟨ss,σ2,φ2,⟨rfl,rfl⟩,.inr ⟨he',r,hd,hh,hge,h4⟩⟩
def qg : List ResultVar→List Nat
 | []=>[]
 | .tmp t::r=>t::qg r
 | .cell a _::r=>a::qg r
def jr(l : List Nat) : List (Nat×AV)→List (Nat×AV)
 | []=>[]
 | (s,v)::r=>bif cg s l then (s,v)::jr l r else jr l r
theorem om{l : List Nat} : ∀ {fr : List (Nat×AV)} {s : Nat} {v : AV},look (jr l fr) s = some v→look fr s = some v
 | [],_,_,h=>by simp [jr,look] at h
 | (t,x)::r,s,v,h=>by
   simp only [jr] at h
   cases hm : cg t l with
   | true =>
     simp only [hm,cond_true] at h
     rcases ai h with ⟨rfl,rfl⟩ | ⟨hne,h⟩
     ·exact aP
     ·rw [aS hne]; exact om h
   | false =>
     simp only [hm,cond_false] at h
     by_cases e : s = t
     ·subst e
      exfalso
      have key : ∀ {fr : List (Nat×AV)} {s : Nat} {v : AV},look (jr l fr) s = some v→cg s l = true:=by
       intro fr
       induction fr with
       | nil=>intro s v h; simp [jr,look] at h
       | cons p r ih =>
         intro s v h
         obtain ⟨t,x⟩:=p
         simp only [jr] at h
         cases hm : cg t l with
         | true =>
           simp only [hm,cond_true] at h
           rcases ai h with ⟨rfl,rfl⟩ | ⟨_,h⟩
           ·exact hm
           ·exact ih h
         | false=>simp only [hm,cond_false] at h; exact ih h
      rw [key h] at hm; cases hm
     ·rw [aS e]; exact om h
def EC(T : Tab)(ow : Bool)(rs : List ResultVar)(cs : Sto)(st : St) : Option St :=
 match mJ T st rs with
 | some l=>(match sealL st (bif ow then [] else db st.sto (ma (rP l)) []) with
   | some ss=>yA (jr (qg rs) ss.fr) ss.sto (bg cs) (ma (iK ss.sto 1000 (yB ss.sto (bg cs) ++ j5 (jr (qg rs) ss.fr)) []))
   | none=>none)
 | none=>none
theorem Io{T : Tab}{ow : Bool}{rs : List ResultVar}{cs : Sto}{st st' : St}{a : Act}(h : EC T ow rs cs st = some st')(hr : Rel c st a w σ φ) : ∃ σ2 φ2,Rel c st' a w σ2 φ2:=by
 unfold EC at h
 split at h <;> (try (simp at h; done))
 split at h <;> (try (simp at h; done))
 rename_i ss hss
 obtain ⟨σs,_,h1,_⟩:=Rel.sealL hss hr
 obtain ⟨φ2,h2⟩:=h1.endTo (fun s v hv=>om hv) h
 exact ⟨σs,φ2,h2⟩
def Oq(cs s : Sto)(more : List Nat) : List Nat:=bg cs ++ ma (iK s 1000 (yB s (bg cs) ++ more) [])
def Ip(V : Env)(mf : FuncId→Bool)(rg : List Nat)(orc : Orc)(ow : Bool)(fn : Func)(code : Code)(args : List AV)(cs : Sto) : Option (AV×Sto) :=
 bif Nat.ble args.length fn.ntmps then (match bR V mf rg orc fn.ntmps true true code ⟨lQ 0 args,cs⟩ with
  | some (.ex _,_)=>none
  | some (.mk,_)=>none
  | some (_,st)=>(match EC V.T ow fn.results.toList cs st with
    | some ss=>(match mJ V.T ss fn.results.toList with
      | some l'=>(match pj l' with | some rav=>some (rav,fD ss.sto (Oq cs ss.sto (bX rav))) | none=>none)
      | none=>none)
    | none=>none)
  | none=>none) else none
theorem Kp{V : Env}(hV : EnvOk P V){mf : FuncId→Bool}{rg : List Nat}{ow : Bool}{orc : Orc}(hO : OrcOk P orc)(hm : P.follows .mixedOrders = true){f : FuncId}{fn : Func}{code : Code}{args : List AV}{cs rs : Sto}{rav : AV}(hf : P.funcs[f]? = some fn)(hb : fn.body = some code)
  (hname : (fn.name == "runtime.NumGoroutine") = false) (h : Ip V mf rg orc ow fn code args cs = some (rav, rs)) : CallA P f args cs rav rs := by
 unfold Ip at h
 cases hn : Nat.ble args.length fn.ntmps <;> simp only [hn,cond_true,cond_false,reduceCtorEq] at h
 refine sT hV.T hf hb hname hn fun w0 σ0 φ0 M=>?_
 split at h
 ·simp at h
 ·simp at h
 ·rename_i e st hne hne2 hx
  split at h <;> (try (simp at h; done))
  rename_i ss hss
  split at h <;> (try (simp at h; done))
  rename_i l' hl'
  split at h <;> simp at h
  rename_i rav' hrav
  obtain ⟨rfl,rfl⟩:=h
  have hok:=tY hV hO hm code true true ⟨w0,σ0,φ0,M,fn.ntmps,none,[]⟩ _ _ _ (fun _=>rfl) (fun _=>⟨rfl,rfl⟩) hx (by rintro rfl; exact hne2 rfl)
  refine jI (GF hok fun hr=>Io hss hr) ?_
  rintro ex s ⟨rfl,rfl⟩
  refine ⟨?_,l',hl',hrav,keepK_sub⟩
  cases e with
  | norm=>exact .inr rfl
  | ret=>exact .inl rfl
  | ex i=>exact absurd rfl (hne i)
  | mk=>exact absurd rfl hne2
 ·simp at h
def Iq(cs : Sto)(st : St) : Option St:=yA [] st.sto (bg cs) (ma (iK st.sto 1000 (yB st.sto (bg cs)) []))
def AZ(V : Env)(mf : FuncId→Bool)(rg : List Nat)(orc : Orc)(j : Nat)(args : List AV)(cs : Sto) : Option (AV×Sto) :=
 match look cs j with
 | some (.loop li fr .ready none)=>bif (Nat.ble 1000000 j && Nat.blt j 2000000) && (jj li.n li.params.toList && Nat.beq li.params.toList.length args.length) then
   (match bR V mf rg orc li.n false false li.assign ⟨fY li.params.toList args fr,cs⟩ with
   | some (.norm,st1)=>(match look st1.sto j with
     | some (.loop li1 fr1 .ready none)=>(match bR V mf rg orc li.n false false li.body ⟨st1.fr,bS j (.loop li1 fr1 .busy none) st1.sto⟩ with
       | some (e,st2)=>(match Iq cs st2 with
         | some ss=>(match look ss.sto j with
           | some (.loop li2 fr2 .busy _)=>(match e with
             | .norm=>some (.one (.d (.bool true)),fD (bS j (.loop li2 fr2 .ready none) ss.sto) (bg ss.sto))
             | .ret=>some (.one (.d (.bool false)),fD (bS j (.loop li2 fr2 .done (some .ret)) ss.sto) (bg ss.sto))
             | .ex i=>some (.one (.d (.bool false)),fD (bS j (.loop li2 fr2 .done (some (.exit i))) ss.sto) (bg ss.sto))
             | .mk=>none)
           | _=>none)
         | none=>none)
       | none=>none)
     | _=>none)
   | _=>none) else none
 | _=>none
theorem GG{V : Env}(hV : EnvOk P V){mf : FuncId→Bool}{rg : List Nat}{orc : Orc}(hO : OrcOk P orc)(hm : P.follows .mixedOrders = true){j : Nat}{args : List AV}{cs rs : Sto}{rav : AV}(h : AZ V mf rg orc j args cs = some (rav,rs)) : YieldA P j args cs rav rs:=by
 unfold AZ at h
 split at h <;> (try (simp at h; done))
 rename_i li fr hl
 cases hb : (Nat.ble 1000000 j && Nat.blt j 2000000) && (jj li.n li.params.toList && Nat.beq li.params.toList.length args.length) <;> simp only [hb,cond_true,cond_false,reduceCtorEq] at h
 rw [Bool.and_eq_true] at hb
 split at h <;> (try (simp at h; done))
 rename_i st1 hx1
 split at h <;> (try (simp at h; done))
 rename_i li1 fr1 hl1
 split at h <;> (try (simp at h; done))
 rename_i e st2 hx2
 split at h <;> (try (simp at h; done))
 rename_i ss hss
 split at h <;> (try (simp at h; done))
 rename_i li2 fr2 p2 hl2
 refine qA (by have:=hb.1; simp only [Bool.and_eq_true,Nat.ble_eq,Nat.blt_eq] at this; exact this) hl hb.2 fun w0 σ0 φ0 M B=>?_
 have h1:=tY hV hO hm li.assign false false ⟨w0,σ0,φ0,M,li.n,some B,[]⟩ _ _ _ (fun h=>by cases h) (fun h=>by cases h) hx1 (by simp)
 have h2:=tY hV hO hm li.body false false ⟨w0,σ0,φ0,M,li.n,some B,[]⟩ _ _ _ (fun h=>by cases h) (fun h=>by cases h) hx2 (by rintro rfl; exact vi _ hx2)
 have h3:=GF (ss:=ss) h2 (fun {a w σ φ mk} hr=>by
  obtain ⟨φ2,h⟩:=hr.endTo (fr2:=[]) (fun s v hv=>by simp [look] at hv) hss
  exact ⟨σ,φ2,h⟩)
 refine jI h1 ?_
 rintro ex s ⟨rfl,rfl⟩
 refine ⟨rfl,li1,fr1,hl1,jI h3 ?_⟩
 rintro ex s ⟨rfl,rfl⟩
 refine ⟨li2,fr2,p2,hl2,?_⟩
 cases e with
 | norm =>
   simp only [Option.some.injEq,Prod.mk.injEq] at h
   obtain ⟨rfl,rfl⟩:=h
   exact .inl ⟨rfl,rfl,keepK_sub⟩
 | ret =>
   simp only [Option.some.injEq,Prod.mk.injEq] at h
   obtain ⟨rfl,rfl⟩:=h
   exact .inr ⟨_,rfl,rfl,keepK_sub⟩
 | ex i =>
   simp only [Option.some.injEq,Prod.mk.injEq] at h
   obtain ⟨rfl,rfl⟩:=h
   exact .inr ⟨_,rfl,rfl,keepK_sub⟩
 | mk=>simp at h
structure Cfg where
 mf : List Nat
 ow : List (Nat×List Nat)
def Cfg.rg(cf : Cfg)(f : Nat) : List Nat:=match look cf.ow f with | some l=>l | none=>[]
def tO(P : Program)(V : Env)(cf : Cfg)(sp : Orc) : Nat→Orc
 | 0=>sp
 | n + 1=>fun f ow avs cs=>match sp f ow avs cs with
   | some r=>some r
   | none=>match f with
     | some f=>(match P.funcs[f]? with
       | some fn=>match fn.body with
         | some code=>Ip V (fun f=>cg f cf.mf) (cf.rg f) (tO P V cf sp n) ow fn code avs cs
         | none=>none
       | none=>none)
     | none=>(match avs with
       | .one (.yl j)::args=>AZ V (fun f=>cg f cf.mf) [] (tO P V cf sp n) j args cs
       | _=>none)
theorem se {P : Program} {V : Env} (hV : EnvOk P V) (hm : P.follows .mixedOrders = true) (hname : ∀ (f : FuncId) (fn : Func), P.funcs[f]? = some fn → (fn.name == "runtime.NumGoroutine") = false) {cf : Cfg} {sp : Orc} (hs : OrcOk P sp) : ∀ n, OrcOk P (tO P V cf sp n)
 | 0=>hs
 | n + 1=>by
   refine ⟨fun f b avs cs r s h=>?_,fun j b avs cs r s h=>?_⟩
   ·simp only [tO] at h
    split at h
    ·rename_i r' hr
     simp at h; subst h
     exact hs.call f b avs cs _ _ hr
    split at h <;> (try (simp at h; done))
    rename_i fn hf
    split at h <;> (try (simp at h; done))
    rename_i code hc
    exact Kp hV (se hV hm hname hs n) hm hf hc (hname f fn hf) h
   ·simp only [tO] at h
    split at h
    ·rename_i r' hr
     simp at h; subst h
     exact hs.yld j b avs cs _ _ hr
    exact GG hV (se hV hm hname hs n) hm h
end Go.Abs
namespace Go.Abs
open Go
def lEq{α : Type}(eq : α→α→Bool) : List α→List α→Bool
 | [],[]=>true
 | x::xs,y::ys=>eq x y && lEq eq xs ys
 | _,_=>false
theorem dW{α : Type}{eq : α→α→Bool}(h : ∀ a b,eq a b = true→a = b) : ∀ {x y : List α},lEq eq x y = true→x = y
 | [],[],_=>rfl
 | a::x,b::y,he=>by
   simp only [lEq,Bool.and_eq_true] at he
   rw [h _ _ he.1,dW h he.2]
 | [],_::_,he=>by simp [lEq] at he
 | _::_,[],he=>by simp [lEq] at he
def iEq : Int→Int→Bool
 | .ofNat a,.ofNat b=>Nat.beq a b
 | .negSucc a,.negSucc b=>Nat.beq a b
 | _,_=>false
theorem MD{a b : Int}(h : iEq a b = true) : a = b:=by
 cases a <;> cases b <;> simp only [iEq,reduceCtorEq] at h <;> rw [Nat.eq_of_beq_eq_true h]
def ME(a b : UInt8) : Bool:=Nat.beq a.toNat b.toNat
theorem Kc(a b : UInt8)(h : ME a b = true) : a = b:=UInt8.toNat.inj (Nat.eq_of_beq_eq_true h)
def dEq : Nat→D→D→Bool
 | 0,_,_=>false
 | _ + 1,.int k x,.int k' y=>kEq k k' && iEq x y
 | _ + 1,.bool x,.bool y=>bEq x y
 | _ + 1,.str x,.str y=>lEq ME x y
 | _ + 1,.nil,.nil=>true
 | n + 1,.sl k b xs,.sl k' b' ys=>Nat.beq k k' && (Nat.beq b b' && lEq (lEq (dEq n)) xs ys)
 | n + 1,.ptr xs,.ptr ys=>lEq (dEq n) xs ys
 | n + 1,.fn f xs,.fn g ys=>Nat.beq f g && lEq (dEq n) xs ys
 | _ + 1,_,_=>false
theorem rF : ∀ n a b,dEq n a b = true→a = b
 | 0,_,_,h=>by simp [dEq] at h
 | n + 1,a,b,h=>by
   have ih:=rF n
   cases a <;> cases b <;> simp only [dEq,Bool.and_eq_true,reduceCtorEq] at h
   ·rw [fQ h.1,MD h.2]
   ·rw [im h]
   ·rw [dW Kc h]
   ·rfl
   ·rw [Nat.eq_of_beq_eq_true h.1,Nat.eq_of_beq_eq_true h.2.1,dW (fun _ _=>dW ih) h.2.2]
   ·rw [dW ih h]
   ·rw [Nat.eq_of_beq_eq_true (n:=_) (m:=_) h.1,dW ih h.2]
def cEq : AC→AC→Bool
 | .d x,.d y=>dEq 20 x y
 | .own a b,.own a' b'=>Nat.beq a a' && Nat.beq b b'
 | .sub a b c,.sub a' b' c'=>Nat.beq a a' && (Nat.beq b b' && Nat.beq c c')
 | .ref a b,.ref a' b'=>Nat.beq a a' && Nat.beq b b'
 | .rref a b c,.rref a' b' c'=>Nat.beq a a' && (Nat.beq b b' && Nat.beq c c')
 | .yl a,.yl b=>Nat.beq a b
 | .mapr a,.mapr b=>Nat.beq a b
 | .bsl a b c,.bsl a' b' c'=>Nat.beq a a' && (Nat.beq b b' && Nat.beq c c')
 | .junk,.junk=>true
 | _,_=>false
theorem va(a b : AC)(h : cEq a b = true) : a = b:=by
 cases a <;> cases b <;> simp only [cEq,Bool.and_eq_true,reduceCtorEq] at h
 ·rw [rF _ _ _ h]
 ·rw [Nat.eq_of_beq_eq_true h.1,Nat.eq_of_beq_eq_true h.2]
 ·rw [Nat.eq_of_beq_eq_true h.1,Nat.eq_of_beq_eq_true h.2.1,Nat.eq_of_beq_eq_true h.2.2]
 ·rw [Nat.eq_of_beq_eq_true h.1,Nat.eq_of_beq_eq_true h.2]
 ·rw [Nat.eq_of_beq_eq_true h.1,Nat.eq_of_beq_eq_true h.2.1,Nat.eq_of_beq_eq_true h.2.2]
 ·rw [Nat.eq_of_beq_eq_true h]
 ·rw [Nat.eq_of_beq_eq_true h]
 ·rw [Nat.eq_of_beq_eq_true h.1,Nat.eq_of_beq_eq_true h.2.1,Nat.eq_of_beq_eq_true h.2.2]
 ·rfl
def tEq(a b : Bool×List AC) : Bool:=bEq a.1 b.1 && lEq cEq a.2 b.2
theorem MF(a b : Bool×List AC)(h : tEq a b = true) : a = b:=by
 obtain ⟨a1,a2⟩:=a; obtain ⟨b1,b2⟩:=b
 simp only [tEq,Bool.and_eq_true] at h
 rw [im h.1,dW va h.2]
def vEq : AV→AV→Bool
 | .one a,.one b=>cEq a b
 | .agg a,.agg b=>lEq cEq a b
 | .tup a,.tup b=>lEq tEq a b
 | .any,.any=>true
 | _,_=>false
theorem Gt(a b : AV)(h : vEq a b = true) : a = b:=by
 cases a <;> cases b <;> simp only [vEq,reduceCtorEq] at h
 ·rw [va _ _ h]
 ·rw [dW va h]
 ·rw [dW MF h]
 ·rfl
def H9(a b : List D×List D) : Bool:=lEq (dEq 20) a.1 b.1 && lEq (dEq 20) a.2 b.2
theorem Kd(a b : List D×List D)(h : H9 a b = true) : a = b:=by
 obtain ⟨a1,a2⟩:=a; obtain ⟨b1,b2⟩:=b
 simp only [H9,Bool.and_eq_true] at h
 rw [dW (rF _) h.1,dW (rF _) h.2]
def oEq : AObj→AObj→Bool
 | .box a,.box b=>lEq cEq a b
 | .row k b xs,.row k' b' ys=>Nat.beq k k' && (Nat.beq b b' && lEq (lEq (dEq 20)) xs ys)
 | .map g v xs,.map g' v' ys=>bEq g g' && (bEq v v' && lEq H9 xs ys)
 | _,_=>false
theorem MG(a b : AObj)(h : oEq a b = true) : a = b:=by
 cases a <;> cases b <;> simp only [oEq,Bool.and_eq_true,reduceCtorEq] at h
 ·rw [dW va h]
 ·rw [Nat.eq_of_beq_eq_true h.1,Nat.eq_of_beq_eq_true h.2.1,dW (fun _ _=>dW (rF _)) h.2.2]
 ·rw [im h.1,im h.2.1,dW Kd h.2.2]
def pEq(a b : Nat×AObj) : Bool:=Nat.beq a.1 b.1 && oEq a.2 b.2
theorem Gu(a b : Nat×AObj)(h : pEq a b = true) : a = b:=by
 obtain ⟨a1,a2⟩:=a; obtain ⟨b1,b2⟩:=b
 simp only [pEq,Bool.and_eq_true] at h
 rw [Nat.eq_of_beq_eq_true (n:=_) (m:=_) h.1,MG _ _ h.2]
structure Ent where
 f : FuncId
 ow : Bool
 avs : List AV
 cs : Sto
 r : AV
 s : Sto
def b0(P : Program)(e : Ent) : Prop:=CallA P e.f e.avs e.cs e.r e.s
def AJ(e : Ent)(f : FuncId)(ow : Bool)(avs : List AV)(cs : Sto) : Bool :=
 Nat.beq e.f f && (bEq e.ow ow && (lEq vEq e.avs avs && lEq pEq e.cs cs))
def spT : List Ent→Orc
 | [],_,_,_,_=>none
 | _,none,_,_,_=>none
 | e::l,some f,ow,avs,cs=>bif AJ e f ow avs cs then some (e.r,e.s) else spT l (some f) ow avs cs
def Eu(P : Program) : List Ent→Prop
 | []=>True
 | e::l=>b0 P e∧Eu P l
theorem Aa{P : Program} : ∀ {l : List Ent},Eu P l→OrcOk P (spT l)
 | [],_=>⟨fun f b avs cs r s h=>by simp [spT] at h,fun j b avs cs r s h=>by simp [spT] at h⟩
 | e::l,hl=>by
   refine ⟨fun f b avs cs r s h=>?_,fun j b avs cs r s h=>by simp [spT] at h⟩
   simp only [spT] at h
   cases hb : AJ e f b avs cs with
   | false=>simp only [hb,cond_false] at h; exact (Aa hl.2).call f b avs cs r s h
   | true =>
     simp only [hb,cond_true,Option.some.injEq,Prod.mk.injEq] at h
     obtain ⟨rfl,rfl⟩:=h
     simp only [AJ,Bool.and_eq_true] at hb
     have h1:=Nat.eq_of_beq_eq_true (n:=_) (m:=_) hb.1
     have h2:=dW Gt hb.2.2.1
     have h3:=dW Gu hb.2.2.2
     subst h1; subst h2; subst h3
     exact hl.1
def bd(P : Program)(V : Env)(cf : Cfg)(l : List Ent)(n : Nat)(e : Ent) : Bool :=
 match tO P V cf (spT l) n (some e.f) e.ow e.avs e.cs with
 | some (r,s)=>vEq r e.r && lEq pEq s e.s
 | none=>false
structure ProgOk (P : Program) (V : Env) : Prop where
 env : EnvOk P V
 mo : P.follows .mixedOrders = true
 name : ∀ (f : FuncId) (fn : Func), P.funcs[f]? = some fn → (fn.name == "runtime.NumGoroutine") = false
theorem br{P : Program}{V : Env}(hP : ProgOk P V){cf : Cfg}{l : List Ent}(hl : Eu P l){n : Nat}{e : Ent}(h : bd P V cf l n e = true) : b0 P e:=by
 unfold bd at h
 split at h <;> (try (simp at h; done))
 rename_i r s hr
 simp only [Bool.and_eq_true] at h
 have h1:=Gt _ _ h.1
 have h2:=dW Gu h.2
 subst h1; subst h2
 exact (se hP.env hP.mo hP.name (Aa hl) n).call _ _ _ _ _ _ hr
def kkB : List KK→List KK→Bool
 | [],[]=>true
 | .int k::r,.int k'::r'=>kEq k k' && kkB r r'
 | .bool::r,.bool::r'=>kkB r r'
 | .str::r,.str::r'=>kkB r r'
 | _,_=>false
theorem uQ : ∀ {a b : List KK},kkB a b = true→a = b
 | [],[],_=>rfl
 | .int k::r,.int k'::r',h=>by
   simp only [kkB,Bool.and_eq_true] at h
   rw [fQ h.1,uQ h.2]
 | .bool::r,.bool::r',h=>by rw [uQ (show kkB r r' = true from h)]
 | .str::r,.str::r',h=>by rw [uQ (show kkB r r' = true from h)]
 | [],_::_,h=>by simp [kkB] at h
 | .int _::_,[],h=>by simp [kkB] at h
 | .bool::_,[],h=>by simp [kkB] at h
 | .str::_,[],h=>by simp [kkB] at h
 | .int _::_,.bool::_,h=>by simp [kkB] at h
 | .int _::_,.str::_,h=>by simp [kkB] at h
 | .bool::_,.int _::_,h=>by simp [kkB] at h
 | .bool::_,.str::_,h=>by simp [kkB] at h
 | .str::_,.int _::_,h=>by simp [kkB] at h
 | .str::_,.bool::_,h=>by simp [kkB] at h
def shB(P : Program)(t : TypeId)(ks : List KK) : Bool:=match fx P 6 t with | some l=>kkB l ks | none=>false
theorem Gc{P : Program}{t : TypeId}{ks : List KK}(h : shB P t ks = true) : fx P 6 t = some ks:=by
 unfold shB at h
 split at h
 ·rename_i l hl
  rw [hl,uQ h]
 ·cases h
def eB(P : Program)(t : TypeId)(ks : List KK) : Bool:=shB P t ks && P.keyTypeAt 6 t && kc P t && !P.eqGuardType P.depth t
def Eh(P : Program) : tg→Bool
 | []=>true
 | (t,ks)::r=>eB P t ks && Eh P r
theorem y9{P : Program} : ∀ {E : tg},Eh P E = true→yQ P E
 | [],_=>fun t ks h=>by simp [look] at h
 | (t',ks')::r,h=>by
   simp only [Eh,Bool.and_eq_true] at h
   intro t ks hl
   rcases ai hl with ⟨rfl,rfl⟩ | ⟨_,hl⟩
   ·have h1:=h.1
    simp only [eB,Bool.and_eq_true,Bool.not_eq_true'] at h1
    exact ⟨Gc h1.1.1.1,h1.1.1.2,h1.1.2,h1.2⟩
   ·exact y9 h.2 t ks hl
def Ag(P : Program)(t : TypeId) : List KK→Bool
 | [.int k]=>(match P.underlying t with | some (.int k')=>kEq k' k | _=>false)
 | [.bool]=>(match P.underlying t with | some .bool=>true | _=>false)
 | [.str]=>(match P.underlying t with | some .string=>true | _=>false)
 | _=>false
theorem Gd{P : Program}{t : TypeId}{ks : List KK}(h : Ag P t ks = true) : ∃ k,ks = [k]∧P.underlying t = some (nM k):=by
 unfold Ag at h
 split at h
 ·split at h
  ·rename_i k k' hu
   refine ⟨_,rfl,?_⟩
   rw [hu,fQ h]; rfl
  ·cases h
 ·split at h
  ·rename_i hu; exact ⟨_,rfl,hu⟩
  ·cases h
 ·split at h
  ·rename_i hu; exact ⟨_,rfl,hu⟩
  ·cases h
 ·cases h
def mB(P : Program)(t : TypeId)(m : MTy) : Bool :=
 (match P.underlying t with | some (.map k e)=>Nat.beq k m.kt && Nat.beq e m.et | _=>false) &&
 (shB P m.kt m.ks && P.keyTypeAt 6 m.kt && bEq (kc P m.kt) m.kg && !P.eqGuardType P.depth m.kt && (m.kg || Ag P m.kt m.ks)) &&
 (match P.info? m.et with
  | some i=>(match i.zero with
    | some zv=>mZ m.z zv.cells.toList && m.z.all gU && (if m.vg then uR zv else (zv.oneCell && Nat.beq m.z.length 1))
    | none=>false)
  | none=>false)
theorem N7{P : Program}{t : TypeId}{m : MTy}(h : mB P t m = true) : MOk P t m:=by
 unfold mB at h
 simp only [Bool.and_eq_true] at h
 obtain ⟨⟨h1,h2⟩,h3⟩:=h
 refine ⟨?_,?_,?_⟩
 ·split at h1
  ·rename_i k e hu
   simp only [Bool.and_eq_true] at h1
   rw [hu,Nat.eq_of_beq_eq_true h1.1,Nat.eq_of_beq_eq_true h1.2]
  ·cases h1
 ·obtain ⟨⟨⟨⟨a1,a2⟩,a3⟩,a4⟩,a5⟩:=h2
  refine ⟨Gc a1,a2,im a3,by simpa using a4,fun hk=>?_⟩
  rw [hk,Bool.false_or] at a5
  exact Gd a5
 ·split at h3
  ·rename_i i hi
   split at h3
   ·rename_i zv hz
    simp only [Bool.and_eq_true] at h3
    obtain ⟨⟨b1,b2⟩,b3⟩:=h3
    refine ⟨i,zv,hi,hz,fun σ=>?_⟩
    have hall : ∀ x∈m.z,gU x = true:=by simpa using b2
    have hcells:=ru b1
    have hrep : All2 (Rep σ) m.z (m.z.map ja):=by
     have : ∀ {l : List D},(∀ x∈l,gU x = true)→All2 (Rep σ) l (l.map ja):=by
      intro l
      induction l with
      | nil=>intro _; trivial
      | cons d l ih=>intro h; exact ⟨mS (h d (by simp)),ih fun x hx=>h x (by simp [hx])⟩
     exact this hall
    cases hg : m.vg with
    | true =>
      rw [hg] at b3
      simp only [if_true] at b3
      cases zv <;> simp [uR] at b3
      rename_i cs
      refine ⟨cs.toList,by simp,?_⟩
      rw [show cs.toList = m.z.map ja from hcells]
      exact hrep
    | false =>
      rw [hg] at b3
      simp only [Bool.false_eq_true,if_false,Bool.and_eq_true] at b3
      have hl:=Nat.eq_of_beq_eq_true b3.2
      have hone : zv.cells.toList = [zv]:=by
       have:=b3.1
       cases zv <;> first | rfl | simp [Value.oneCell] at this
      rw [hone] at hcells
      show All2 (Rep σ) m.z [zv]
      rw [hcells]
      exact hrep
   ·cases h3
  ·cases h3
def Ei(P : Program) : Dm→Bool
 | []=>true
 | (t,m)::r=>mB P t m && Ei P r
theorem za{P : Program} : ∀ {M : Dm},Ei P M = true→∀ t m,look M t = some m→MOk P t m
 | [],_=>fun t ks h=>by simp [look] at h
 | (t',ks')::r,h=>by
   simp only [Ei,Bool.and_eq_true] at h
   intro t ks hl
   rcases ai hl with ⟨rfl,rfl⟩ | ⟨_,hl⟩
   ·exact N7 h.1
   ·exact za h.2 t ks hl
end Go.Abs
namespace Go.Abs
open Go
variable {P : Program} {T : Tab} {w0 : World} {σ0 : Sig} {φ0 : Pl} {M : Nat→Prop} {n : Nat} {rd : Option Nat} {mk : List Deferred} {ops : Array Oper} {o : Oper} {rest : List Oper} {fr : List (Nat×AV)} {sto : Sto} {K : St→Prop}
theorem jt(hT : ba P T){d : Nat}{v : AV}(hg : o.guard = none)(hdst : o.dst = some d)(hd : Nat.blt d n = true)(hv : b6 T ⟨fr,sto⟩ o.op = some v)
  (h : ae P ⟨w0,σ0,φ0,M,n,rd,mk⟩ ops rest ⟨(d,v)::fr,sto⟩ K) : ae P ⟨w0,σ0,φ0,M,n,rd,mk⟩ ops (o::rest) ⟨fr,sto⟩ K :=
 xe hT hg (by rw [hdst]; exact hd) hv (by rw [hdst]; exact h)
def B1 : BinOp→Bool
 | .add | .sub | .mul=>true
 | _=>false
def IP : BinOp→Int→Int→Int
 | .add,x,y=>x + y
 | .sub,x,y=>x - y
 | _,x,y=>x * y
theorem vX{k : IntKind}{z : Int}(h : inR k z) : k.wrap z = z:=by
 unfold inR at h
 unfold IntKind.wrap
 cases k <;> simp [IntKind.signed,IntKind.bits,IntKind.min,IntKind.max] at h ⊢ <;> (try split) <;> omega
theorem gJ{z : Int}(h1 : -9223372036854775808≤z)(h2 : z≤9223372036854775807) : IntKind.i64.wrap z = z :=
 vX ⟨by simp [IntKind.min,IntKind.signed,IntKind.bits]; exact h1,by simp [IntKind.max,IntKind.signed,IntKind.bits]; exact h2⟩
theorem B2{j : Nat}{want b : Bool}(hg : o.guard = some (j,want))(hb : gA ⟨fr,sto⟩ ops j = some (some b))(hw : b = want)
  (h : ae P ⟨w0,σ0,φ0,M,n,rd,mk⟩ ops ({ o with guard:=none }::rest) ⟨fr,sto⟩ K) : ae P ⟨w0,σ0,φ0,M,n,rd,mk⟩ ops (o::rest) ⟨fr,sto⟩ K:=sG hg hb hw h
theorem IQ{d j : Nat}{want b : Bool}(hg : o.guard = some (j,want))(hb : gA ⟨fr,sto⟩ ops j = some (some b))(hw : b = !want)(hdst : o.dst = some d)(hd : Nat.blt d n = true)
  (h : ae P ⟨w0,σ0,φ0,M,n,rd,mk⟩ ops rest ⟨(d,.tup [])::fr,sto⟩ K) : ae P ⟨w0,σ0,φ0,M,n,rd,mk⟩ ops (o::rest) ⟨fr,sto⟩ K :=
 qR hg hb (by rw [hw]; cases want <;> simp) (by rw [hdst]; exact hd) (by rw [hdst]; exact h)
end Go.Abs
