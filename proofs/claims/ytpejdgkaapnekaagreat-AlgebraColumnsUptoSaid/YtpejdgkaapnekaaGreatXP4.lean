import Derived.Test.YtpejdgkaapnekaaGreatXP3
set_option linter.unusedVariables false
set_option linter.unusedSimpArgs false
set_option maxHeartbeats 1000000
namespace Go.Abs
open Go
variable {P : Program} {c : Ctx} {T : Tab} {σ : Sig} {φ : Pl} {w : World} {a : Act}
theorem RepC.cong{sto sto' : Sto}(he : ∀ i,look sto' i = look sto i){x : AC}{v : Value}(h : RepC σ φ sto x v) : RepC σ φ sto' x v:=by
 cases h with
 | d h=>exact .d h
 | ownNil h hp=>exact .ownNil ((he _).trans h) hp
 | own h hn hp=>exact .own ((he _).trans h) hn hp
 | sub h hn hc hA=>exact .sub ((he _).trans h) hn hc hA
 | ref h hp=>exact .ref ((he _).trans h) hp
 | rref h hp=>exact .rref ((he _).trans h) hp
 | yl h hp=>exact .yl ((he _).trans h) hp
 | mapr h hp=>exact .mapr ((he _).trans h) hp
 | bsl h hp=>exact .bsl ((he _).trans h) hp
 | junk h=>exact .junk h
 | dead hx h =>
   refine .dead ?_ h
   cases x <;> simp [bG,bo,he] at hx ⊢ <;> exact hx
theorem Ext.cong{sto sto' : Sto}(he : ∀ i,look sto' i = look sto i) : Ext (fun _=>False) φ φ sto sto':=by
 intro id _
 cases h : look sto id with
 | none=>exact .inl ((he id).trans h)
 | some e=>exact .inr ⟨e,rfl,rfl,e,(he id).trans h,compat.refl _⟩
theorem RepV.cong{sto sto' : Sto}(he : ∀ i,look sto' i = look sto i){x : AV}{v : Value}(h : RepV σ φ sto x v) : RepV σ φ sto' x v :=
 h.ext (X:=fun _=>False) (Sig.le_refl _) (Ext.cong he) (fun _ h=>h.elim)
theorem Rel.cong{st st' : St}(h : Rel c st a w σ φ)(hf : ∀ t,look st'.fr t = look st.fr t)(hs : ∀ i,look st'.sto i = look st.sto i) : Rel c st' a w σ φ:=by
 refine ⟨h.le,h.fresh,⟨h.inv.sig,fun id e hi=>?_,fun i i' e e' p p' hi hi'=>h.inv.inj _ _ _ _ _ _ ((hs _).symm.trans hi) ((hs _).symm.trans hi')⟩,fun id e p hi=>h.mine _ _ _ ((hs _).symm.trans hi),fun s v hv=>?_,h.defers,h.size,h.fra,h.pin⟩
 ·exact (h.inv.obj _ _ ((hs _).symm.trans hi)).ext (X:=fun _=>False) (Sig.le_refl _) (Ext.cong hs) (fun _ h=>h.elim) rfl fun _ _ _=>⟨rfl,rfl⟩
 ·obtain ⟨u,h1,h2⟩:=h.slot s v ((hf s).symm.trans hv)
  exact ⟨u,h1,h2.cong hs⟩
theorem Rel.drew{st : St}(h : Rel c st a w σ φ)(d : Nat)(hd : w.drawn≤d) : Rel c st a { w with drawn:=d } σ φ :=
 ⟨h.le,h.fresh,⟨h.inv.sig,fun id e hi=>by have:=h.inv.obj id e hi; cases e <;> exact this,h.inv.inj⟩,h.mine,h.slot,h.defers,h.size,⟨h.fra.os,h.fra.tape,h.fra.output,h.fra.size,Nat.le_trans h.fra.drawn hd,h.fra.block⟩,h.pin⟩
theorem qS{acc : List Nat}{k : Nat} : ∀ {l : List Edge},(pI acc l).testBit k = true→∃ e∈l,Region.binds .any e = true∧(e.on = k∨(acc.getD e.on 0).testBit k = true)
 | [],h=>by simp [pI] at h
 | e::r,h=>by
   simp only [pI] at h
   cases hb : Region.binds .any e with
   | false =>
     rw [hb] at h
     obtain ⟨e',h1,h2⟩:=qS (l:=r) (by simpa using h)
     exact ⟨e',List.mem_cons_of_mem _ h1,h2⟩
   | true =>
     rw [hb,if_pos rfl] at h
     simp only [Nat.testBit_or,Bool.or_eq_true] at h
     rcases h with (h | h) | h
     ·rw [Nat.testBit_two_pow] at h
      exact ⟨e,List.mem_cons_self,hb,.inl (by simpa using h)⟩
     ·exact ⟨e,List.mem_cons_self,hb,.inr h⟩
     ·obtain ⟨e',h1,h2⟩:=qS h
      exact ⟨e',List.mem_cons_of_mem _ h1,h2⟩
theorem nW : ∀ {ops : List Oper} {i j : Nat} {o : Oper},kW i ops = true→ops[j]? = some o→∀ e∈o.after.toList,Region.binds .any e = true→e.on < i + j
 | [],_,_,_,_,h=>by simp at h
 | x::r,i,0,o,hk,h=>fun e he hb=>by
   simp at h; subst h
   simp only [kW,Bool.and_eq_true,List.all_eq_true] at hk
   have:=hk.1 e he
   simpa [hb] using this
 | x::r,i,j + 1,o,hk,h=>fun e he hb=>by
   simp only [kW,Bool.and_eq_true] at hk
   have:=nW (j:=j) hk.2 (by simpa using h) e he hb
   omega
def lI(ops : List Oper)(L : Nat→Bool) : Prop :=
 ∀ i o,ops[i]? = some o→L i = true→∀ e∈o.after.toList,Region.binds .any e = true→L e.on = true
theorem sH{ops0 : List Oper}{L : Nat→Bool}(hL : lI ops0 L)(hE : kW 0 ops0 = true) : ∀ {ops : List Oper} {acc : List Nat},(∀ j,ops[j]? = ops0[acc.length + j]?) →
  (∀ i k,i < acc.length→(acc.getD i 0).testBit k = true→L i = true→L k = true)→∀ i k,i < acc.length + ops.length→((vU ops acc).getD i 0).testBit k = true→L i = true→L k = true
 | [],acc,_,h=>by simpa [vU] using h
 | o::r,acc,hops,h=>by
   intro i k hi hb hLi
   simp only [vU] at hb
   refine sH hL hE (ops:=r) (acc:=acc ++ [pI acc o.after.toList]) (fun j=>?_) (fun i k hi hb hLi=>?_) i k (by simp at hi ⊢; omega) hb hLi
   ·have:=hops (j + 1)
    simp only [List.length_append,List.length_singleton]
    rw [show acc.length + 1 + j = acc.length + (j + 1) by omega,← this]; simp
   ·simp only [List.length_append,List.length_singleton] at hi
    rcases Nat.lt_or_ge i acc.length with hlt | hge
    ·rw [List.getD_eq_getElem?_getD,List.getElem?_append_left hlt,← List.getD_eq_getElem?_getD] at hb
     exact h i k hlt hb hLi
    ·obtain rfl : i = acc.length:=by omega
     rw [List.getD_eq_getElem?_getD,List.getElem?_append_right (Nat.le_refl _)] at hb
     simp only [Nat.sub_self,List.getElem?_cons_zero,Option.getD_some] at hb
     obtain ⟨e,he,hbd,hor⟩:=qS hb
     have ho : ops0[acc.length]? = some o:=by have:=hops 0; simpa using this.symm
     have hLe:=hL _ _ ho hLi e he hbd
     rcases hor with rfl | hor
     ·exact hLe
     ·have hlt:=nW hE ho e he hbd
      exact h _ _ (by omega) hor hLe
theorem memB_iff{x : Nat} : ∀ {l : List Nat},tG x l = true↔x∈l
 | []=>by simp [tG]
 | y::r=>by
   simp only [tG,Bool.or_eq_true,List.mem_cons,memB_iff (l:=r)]
   constructor
   ·rintro (h | h)
    ·exact .inl (Nat.eq_of_beq_eq_true h).symm
    ·exact .inr h
   ·rintro (h | h)
    ·exact .inl (by subst h; exact Nat.beq_refl _)
    ·exact .inr h
theorem tH{x : Nat} : ∀ {k l : List Nat},x∈k→x∈l→uF l k = true
 | [],_,h,_=>by simp at h
 | y::r,l,h,hl=>by
   simp only [uF,Bool.or_eq_true]
   rcases List.mem_cons.1 h with rfl | h
   ·exact .inl (memB_iff.2 hl)
   ·exact .inr (tH h hl)
theorem lN{t : Nat} : ∀ {wr : List (Nat×Option AObj)},hU wr t≠none→t∈mV wr
 | [],h=>by simp [hU] at h
 | (i,o)::r,h=>by
   simp only [hU] at h
   simp only [mV,List.mem_cons]
   by_cases e : i = t
   ·exact .inl e.symm
   ·rw [if_neg e] at h; exact .inr (lN h)
theorem tI{ops : List Oper}{anc : List Nat}{j : Nat}{oj : Oper}{tj : Tr} : ∀ {l : List Oper} {ts : List Tr} {i n : Nat} {oi : Oper} {ti : Tr},vV ops anc j oj tj i l ts = true→l[n]? = some oi→ts[n]? = some ti→i + n≠j→yw ops anc (i + n) j oi oj ti tj = true
 | [],_,_,_,_,_,_,h,_,_=>by simp at h
 | _::_,[],_,_,_,_,_,_,h,_=>by simp at h
 | o::r,t::ts,i,0,oi,ti,hk,h1,h2,hne=>by
   simp at h1 h2; subst h1; subst h2
   simp only [vV,Bool.and_eq_true,Bool.or_eq_true] at hk
   rcases hk.1 with h | h
   ·exact absurd (Nat.eq_of_beq_eq_true h) hne
   ·exact h
 | o::r,t::ts,i,n + 1,oi,ti,hk,h1,h2,hne=>by
   simp only [vV,Bool.and_eq_true] at hk
   have:=tI (n:=n) hk.2 (by simpa using h1) (by simpa using h2) (by omega)
   rwa [show i + 1 + n = i + (n + 1) by omega] at this
theorem pK{ops : List Oper}{trs : List Tr}{anc : List Nat}{st : St} : ∀ {l : List Oper} {ts : List Tr} {j n : Nat} {oj : Oper} {tj : Tr},zK ops trs anc st j l ts = true→l[n]? = some oj→ts[n]? = some tj →
  vV ops anc (j + n) oj tj 0 ops trs = true∧∀ id∈tj.new,look st.sto id = none∧bx id st.fr = false∧aR id st.sto = false
 | [],_,_,_,_,_,_,h,_=>by simp at h
 | _::_,[],_,_,_,_,_,_,h=>by simp at h
 | o::r,t::ts,j,0,oj,tj,hk,h1,h2=>by
   simp at h1 h2; subst h1; subst h2
   simp only [zK,Bool.and_eq_true,List.all_eq_true,Bool.not_eq_true'] at hk
   refine ⟨hk.1.1,fun id hid=>?_⟩
   obtain ⟨⟨h1,h2⟩,h3⟩:=hk.1.2 id hid
   refine ⟨?_,h2,h3⟩
   cases hl : look st.sto id with
   | none=>rfl
   | some e=>simp [bo,hl] at h1
 | o::r,t::ts,j,n + 1,oj,tj,hk,h1,h2=>by
   simp only [zK,Bool.and_eq_true] at hk
   have:=pK (n:=n) hk.2 (by simpa using h1) (by simpa using h2)
   rwa [show j + 1 + n = j + (n + 1) by omega] at this
structure DrawGood (ops : List Oper) (trs : List Tr) (st0 : St) : Prop where
 len : trs.length = ops.length
 edges : kW 0 ops = true
 /-- in conflict: one of the two waits for the other -/
 ord : ∀ (L : Nat→Bool) (i j : Nat) (oi oj : Oper) (ti tj : Tr),lI ops L→ops[i]? = some oi→ops[j]? = some oj→trs[i]? = some ti→trs[j]? = some tj→i≠j→nG ops oi oj ti tj = true→(i < j→L j = true→L i = true)∧(j < i→L i = true→L j = true)
 new : ∀ (L : Nat→Bool) (i j : Nat) (oi oj : Oper) (ti tj : Tr) (id : Nat),lI ops L→ops[i]? = some oi→ops[j]? = some oj→trs[i]? = some ti→trs[j]? = some tj→i≠j→id∈tj.new→zJ ti id = true→j < i∧(L i = true→L j = true)
 fresh : ∀ (j : Nat) (tj : Tr),trs[j]? = some tj→∀ id∈tj.new,look st0.sto id = none∧bx id st0.fr = false∧aR id st0.sto = false
theorem y8{ops : List Oper}{trs : List Tr}{st0 : St}(hlen : trs.length = ops.length)(h : kM ops st0 trs = true) : DrawGood ops trs st0:=by
 simp only [kM,Bool.and_eq_true] at h
 obtain ⟨hE,hA⟩:=h
 have hcl : ∀ {L : Nat→Bool},lI ops L→∀ i k,i < ops.length→((vU ops []).getD i 0).testBit k = true→L i = true→L k = true:=fun {L} hL i k hi =>
  sH hL hE (ops:=ops) (acc:=[]) (by simp) (by simp) i k (by simpa using hi)
 have hlt : ∀ {i : Nat} {o : Oper},ops[i]? = some o→i < ops.length:=fun h=>(List.getElem?_eq_some_iff.1 h).1
 refine ⟨hlen,hE,fun L i j oi oj ti tj hL hi hj hti htj hne hc=>?_,fun L i j oi oj ti tj id hL hi hj hti htj hne hid hn=>?_,fun j tj htj id hid=>?_⟩
 ·have hr:=tI (n:=i) (pK (n:=j) hA hj htj).1 hi hti (by omega)
  simp only [Nat.zero_add,yw,Bool.and_eq_true,hc,Bool.not_true,Bool.false_or,Lr] at hr
  refine ⟨fun hlt' hLj=>?_,fun hlt' hLi=>?_⟩
  ·rw [if_pos hlt'] at hr; exact hcl hL _ _ (hlt hj) hr.1 hLj
  ·rw [if_neg (by omega)] at hr; exact hcl hL _ _ (hlt hi) hr.1 hLi
 ·have hr:=tI (n:=i) (pK (n:=j) hA hj htj).1 hi hti (by omega)
  simp only [Nat.zero_add,yw,Bool.and_eq_true,List.all_eq_true] at hr
  have:=hr.2 id hid
  simp only [hn,Bool.not_true,Bool.false_or,Bool.and_eq_true,Nat.blt_eq] at this
  exact ⟨this.1,fun hLi=>hcl hL _ _ (hlt hi) this.2 hLi⟩
 ·have hj : j < ops.length:=hlen ▸ (List.getElem?_eq_some_iff.1 htj).1
  exact (pK (n:=j) hA (List.getElem?_eq_getElem hj) htj).2 id hid
end Go.Abs
namespace Go.Abs
open Go
variable {P : Program} {c : Ctx} {T : Tab} {ops : List Oper} {trs : List Tr} {st0 : St}
theorem ta{id i : Nat}{o : AObj}(ho : o.men id = false) : ∀ {s : Sto},aR id s = false→aR id (bS i o s) = false
 | [],_=>by simp [bS,aR,ho]
 | p::r,h=>by
   simp only [aR,Bool.or_eq_false_iff] at h
   simp only [bS]
   cases Nat.beq p.1 i <;> simp only [cond_true,cond_false,aR,Bool.or_eq_false_iff]
   ·exact ⟨h.1,ta ho h.2⟩
   ·exact ⟨ho,h.2⟩
theorem mg{id i : Nat} : ∀ {s : Sto},aR id s = false→aR id (del i s) = false
 | [],_=>rfl
 | p::r,h=>by
   simp only [aR,Bool.or_eq_false_iff] at h
   simp only [del]
   cases Nat.beq p.1 i <;> simp only [cond_true,cond_false,aR,Bool.or_eq_false_iff]
   ·exact ⟨h.1,mg h.2⟩
   ·exact mg h.2
theorem oq{id : Nat} : ∀ {wr : List (Nat×Option AObj)} {s : Sto},rZ id wr = false→aR id s = false→aR id (cM wr s) = false
 | [],_,_,h=>h
 | (i,some o)::r,s,hw,h=>by
   simp only [rZ,Bool.or_eq_false_iff] at hw
   exact ta hw.1 (oq hw.2 h)
 | (i,none)::r,s,hw,h=>mg (oq (by simpa [rZ] using hw) h)
theorem ES{id : Nat}{d : Option Nat}{v : AV}{fr : List (Nat×AV)}(hv : v.men id = false)(h : bx id fr = false) : bx id (bt d v fr) = false:=by
 cases d with
 | none=>exact h
 | some d=>simp [bt,bx,hv,h]
theorem Bg{L : Nat→Bool}{id : Nat}(h0 : look st0.sto id = none∧bx id st0.fr = false∧aR id st0.sto = false) : ∀ {m : Nat},(∀ i t,i < m→trs[i]? = some t→L i = true→zJ t id = false) →
  look (Cs ops trs st0 L m).sto id = none∧bx id (Cs ops trs st0 L m).fr = false∧aR id (Cs ops trs st0 L m).sto = false
 | 0,_=>h0
 | m + 1,h=>by
   have ih:=Bg h0 (m:=m) fun i t hi=>h i t (by omega)
   simp only [Cs]
   cases ho : ops[m]? with
   | none=>exact ih
   | some o =>
     cases ht : trs[m]? with
     | none=>exact ih
     | some tr =>
       simp only
       cases hL : L m with
       | false=>exact ih
       | true =>
         have:=h m tr (by omega) ht hL
         simp only [zJ,Bool.or_eq_false_iff] at this
         simp only [if_true]
         refine ⟨?_,ES this.1.2 ih.2.1,oq this.2 ih.2.2⟩
         rw [eP]
         cases hw : hU tr.wr id with
         | none=>exact ih.1
         | some x =>
           have h1:=memB_iff.2 (lN (t:=id) (wr:=tr.wr) (by rw [hw]; simp))
           rw [h1] at this; exact absurd this.1.1 (by simp)
theorem pq{L : Nat→Bool}{j : Nat} : ∀ {m : Nat},j≤m→(∀ i,j≤i→i < m→L i = false)→Cs ops trs st0 L m = Cs ops trs st0 L j
 | 0,h,_=>by obtain rfl : j = 0:=by omega
             rfl
 | m + 1,h,hL=>by
   rcases Nat.lt_or_ge j (m + 1) with hlt | hge
   ·have ih:=pq (L:=L) (m:=m) (j:=j) (by omega) fun i h1 h2=>hL i h1 (by omega)
    have:=hL m (by omega) (by omega)
    simp only [Cs,this,Bool.false_eq_true,if_false]
    rw [← ih]
    split <;> rfl
   ·obtain rfl : j = m + 1:=by omega
    rfl
def Sj(ops : List Oper)(trs : List Tr)(st0 : St)(j : Nat) : St:=Cs ops trs st0 (fun _=>true) j
theorem OD{j m t : Nat}(h : j≤m) : look (Sj ops trs st0 j).fr t = look (Cs ops trs st0 (fun i=>decide (i < j)) m).fr t:=by
 rw [pq (j:=j) h (fun i h1 _=>by simp; omega)]
 exact jk fun i o hi _ _=>by simp [hi]
theorem MY{j m t : Nat}(h : j≤m) : look (Sj ops trs st0 j).sto t = look (Cs ops trs st0 (fun i=>decide (i < j)) m).sto t:=by
 rw [pq (j:=j) h (fun i h1 _=>by simp; omega)]
 exact iA fun i o hi _ _=>by simp [hi]
def Fact(P : Program)(c : Ctx)(opsA : Array Oper)(o : Oper)(tr : Tr)(st : St) : Prop :=
 ∃ run : Bool,gh opsA st o run∧(run = true→Loc P c o st tr)∧(run = false→tr = Tr.none∧aU c.n o.dst = true)
def kj(L : Nat→Bool)(j : Nat) : Nat→Bool:=fun i=>if i = j then true else L i
section
variable {opsA : Array Oper} {L : Nat→Bool} {j : Nat} {oj : Oper} {tj : Tr}
theorem sC(hL : lI ops L)(hj : ops[j]? = some oj)(hanc : ∀ e∈oj.after.toList,Region.binds .any e = true→L e.on = true) : lI ops (kj L j):=by
 intro i o hi hLi e he hb
 unfold kj at hLi ⊢
 split
 ·rfl
 ·by_cases hij : i = j
  ·subst hij; rw [hj] at hi; cases hi; exact hanc e he hb
  ·rw [if_neg hij] at hLi; exact hL i o hi hLi e he hb
theorem Bh{st st' : St}{o : Oper}{run : Bool}(h : ∀ t,t∈uE opsA.toList o→look st'.fr t = look st.fr t)(hg : gh opsA st o run) : gh opsA st' o run:=by
 unfold gh at hg ⊢
 unfold uE at h
 cases hgd : o.guard with
 | none=>simpa [hgd] using hg
 | some gw =>
   obtain ⟨g,want⟩:=gw
   simp only [hgd] at hg h ⊢
   obtain ⟨b,hb,hr⟩:=hg
   refine ⟨b,?_,hr⟩
   unfold gA at hb ⊢
   cases hn : nth opsA.toList g with
   | none=>simp [hn] at hb
   | some og =>
     simp only [hn] at hb h ⊢
     cases hd : og.dst with
     | none=>simp [hd] at hb
     | some d =>
       simp only [hd] at hb h ⊢
       rw [h d (by simp)]
       exact hb
theorem Hf(G : DrawGood opsA.toList trs st0)(hL : lI opsA.toList L)(hj : opsA.toList[j]? = some oj)(htj : trs[j]? = some tj)(hnL : L j = false)
  (hanc : ∀ e∈oj.after.toList,Region.binds .any e = true→L e.on = true) (hF : Fact P c opsA oj tj (Sj opsA.toList trs st0 j)) {m : Nat} (hm : opsA.toList.length = m) {a : Act} {w : World} {σ : Sig} {φ : Pl}
  (hr : Rel c (Cs opsA.toList trs st0 L m) a w σ φ) {Q : Exit→Act→World→Prop} {K : Act→World→Prop}
  (hK : ∀ a' w' σ' φ',Rel c (Cs opsA.toList trs st0 (kj L j) m) a' w' σ' φ'→K a' w') : wpOpIn (fnc c) 0 P opsA Q j K a w:=by
 have hjm : j < m:=by have:=(List.getElem?_eq_some_iff.1 hj).1; omega
 have hL':=sC hL hj hanc
 have hlk : ∀ i,i≠j→kj L j i = L i:=fun i hi=>by simp [kj,hi]
 have htr : ∀ i,i < m→∃ t,trs[i]? = some t:=fun i hi=>⟨_,List.getElem?_eq_getElem (by rw [G.len]; omega)⟩
 have hop : ∀ {i : Nat} {t : Tr},trs[i]? = some t→∃ o,opsA.toList[i]? = some o:=fun {i t} h=>⟨_,List.getElem?_eq_getElem (by have:=(List.getElem?_eq_some_iff.1 h).1; rw [G.len] at this; omega)⟩
 have hconf : ∀ {i : Nat} {oi : Oper} {ti : Tr},opsA.toList[i]? = some oi→trs[i]? = some ti→i≠j→nG opsA.toList oi oj ti tj = true→L i = decide (i < j):=by
  intro i oi ti hi hti hij hc
  rcases Nat.lt_or_ge i j with h | h
  ·have:=(G.ord _ i j oi oj ti tj hL' hi hj hti htj hij hc).1 h (by simp [kj])
   rw [hlk i hij] at this
   simp [this,h]
  ·have:=(G.ord _ i j oi oj ti tj hL hi hj hti htj hij hc).2 (by omega)
   have hn : ¬ i < j:=by omega
   cases hb : L i with
   | false=>simp [hn]
   | true=>rw [this hb] at hnL; cases hnL
 have hconfS : ∀ {i : Nat} {oi : Oper} {ti : Tr},j < i→opsA.toList[i]? = some oi→trs[i]? = some ti→nG opsA.toList oi oj ti tj = true→kj L j i = false:=by
  intro i oi ti hji hi hti hc
  rw [hlk i (by omega),hconf hi hti (by omega) hc]
  simp; omega
 -- what it looks at
 have hsl : ∀ t,(r7 (some t) (gO oj.op) = true∨r7 (some t) (uE opsA.toList oj) = true)→look (Cs opsA.toList trs st0 L m).fr t = look (Sj opsA.toList trs st0 j).fr t:=by
  intro t ht
  rw [OD (Nat.le_of_lt hjm)]
  refine jk fun i o hi ho hd=>?_
  by_cases hij : i = j
  ·subst hij; simp [hnL]
  ·obtain ⟨ti,hti⟩:=htr i hi
   refine hconf ho hti hij ?_
   simp only [nG,hd,Bool.or_eq_true]
   rcases ht with h | h
   ·exact .inl (.inl (.inl (.inl h)))
   ·exact .inl (.inl (.inl (.inr h)))
 have hri : ∀ i,i∈tj.ri→look (Cs opsA.toList trs st0 L m).sto i = look (Sj opsA.toList trs st0 j).sto i:=by
  intro id hid
  rw [MY (Nat.le_of_lt hjm)]
  refine iA fun i t hi ht hw=>?_
  by_cases hij : i = j
  ·subst hij; simp [hnL]
  ·obtain ⟨o,ho⟩:=hop ht
   refine hconf ho ht hij ?_
   simp only [nG,Bool.or_eq_true]
   exact .inl (.inr (tH hid (lN hw)))
 have hnew : ∀ id,id∈tj.new→look (Cs opsA.toList trs st0 L m).sto id = none∧bx id (Cs opsA.toList trs st0 L m).fr = false∧aR id (Cs opsA.toList trs st0 L m).sto = false:=by
  intro id hid
  refine Bg (G.fresh j tj htj id hid) fun i t hi ht hLi=>?_
  cases hb : zJ t id with
  | false=>rfl
  | true =>
    obtain ⟨o,ho⟩:=hop ht
    have hij : i≠j:=by rintro rfl; rw [hnL] at hLi; cases hLi
    have:=(G.new L i j o oj t tj id hL ho hj ht htj hij hid hb).2 hLi
    rw [this] at hnL; cases hnL
 have hg:=fun t (ht : t∈uE opsA.toList oj)=>hsl t (.inr (by simpa [r7] using memB_iff.2 ht))
 -- what it leaves
 have hafter : ∀ a' w' σ' φ',Rel c ⟨bt oj.dst tj.v (Cs opsA.toList trs st0 L m).fr,cM tj.wr (Cs opsA.toList trs st0 L m).sto⟩ a' w' σ' φ'→K a' w':=by
  intro a' w' σ' φ' h
  refine hK a' w' σ' φ' (h.cong (fun t=>?_) (fun id=>?_))
  ·rw [iG]
   by_cases hd : oj.dst = some t
   ·rw [if_pos hd]
    refine uG hj htj (by simp [kj]) hd hjm fun i o hji hi ho hdo=>?_
    obtain ⟨ti,hti⟩:=htr i hi
    refine hconfS hji ho hti ?_
    simp [nG,hdo,hd,IN]
   ·rw [if_neg hd]
    refine jk fun i o hi ho hdo=>?_
    by_cases hij : i = j
    ·subst hij; rw [hj] at ho; cases ho; exact absurd hdo hd
    ·exact hlk i hij
  ·rw [eP]
   cases hw : hU tj.wr id with
   | some x =>
     refine sF hj htj (by simp [kj]) hw hjm fun i t hji hi ht hwi=>?_
     obtain ⟨o,ho⟩:=hop ht
     refine hconfS hji ho ht ?_
     simp only [nG,Bool.or_eq_true]
     exact .inr (tH (lN (t:=id) (wr:=tj.wr) (by rw [hw]; simp)) (lN hwi))
   | none =>
     refine iA fun i t hi ht hwi=>?_
     by_cases hij : i = j
     ·subst hij; rw [htj] at ht; cases ht; exact absurd hw hwi
     ·exact hlk i hij
 obtain ⟨run,hgd,h1,h2⟩:=hF
 have hgd':=Bh hg hgd
 have hjA : opsA[j]? = some oj:=by rw [← Array.getElem?_toList]; exact hj
 unfold wpOpIn
 simp only [hjA]
 have hwant : Region.wanted oj (yielded opsA a.tmps) = run:=by
  unfold gh at hgd'
  unfold Region.wanted
  cases hgo : oj.guard with
  | none=>simp only [hgo] at hgd' ⊢; exact hgd'.symm
  | some gw =>
    obtain ⟨g,want⟩:=gw
    simp only [hgo] at hgd' ⊢
    obtain ⟨b,hb,hrb⟩:=hgd'
    rw [ua hr hb,hrb]
 rw [hwant]
 cases run with
 | false =>
   obtain ⟨rfl,hd⟩:=h2 rfl
   simp only [Bool.false_eq_true,if_false]
   exact ⟨fun f _=>iC c f,hafter _ _ _ _ (hr.put hd ⟨[],rfl,trivial⟩)⟩
 | true =>
   simp only [if_true]
   have hloc:=h1 rfl (Cs opsA.toList trs st0 L m) (fun t ht=>hsl t (.inl (by simpa [r7] using memB_iff.2 ht))) hri hnew opsA [] (fun st=>st = ⟨bt oj.dst tj.v (Cs opsA.toList trs st0 L m).fr,cM tj.wr (Cs opsA.toList trs st0 L m).sto⟩) (rE rfl)
   have hwp:=hloc a w σ φ (fun e a w=>match e with | .normal=>K a w | _=>False) hr (fun a' w' σ' φ' st' hst hr'=>by subst hst; exact hafter _ _ _ _ hr')
   unfold wpListIn at hwp
   have hw1 : Region.wanted { oj with guard:=none } (yielded opsA a.tmps) = true:=rfl
   rw [if_pos hw1] at hwp
   have hout : ¬ LetsOut (fun (e : Exit) (a : Act) (w : World)=>match e with | .normal=>K a w | _=>False):=by rintro ⟨_,_,hf⟩; exact hf
   have e1 : ({ oj with guard:=none } : Oper).semAt (fnc c).round a.eval = oj.semAt (fnc c).round a.eval:=by
    obtain ⟨dst,op,type,pos,after,guard⟩:=oj
    cases op <;> rfl
   obtain ⟨_,hwp⟩:=hwp
   refine ⟨fun f _=>iC c f,?_⟩
   rw [e1] at hwp
   generalize (oj.semAt (fnc c).round a.eval).run P w = r at *
   cases r with
   | ok n w' =>
     cases n <;> simp only [Oper.uponIn,wpListIn] at hwp ⊢
     ·exact hwp
     ·exact hwp
     ·exact ⟨hwp.1,hwp.2.mono fun e w'' he=>by
       cases e with
       | returned v=>exact he
       | panicked _=>exact he.elim
       | outgrown=>exact absurd he hout⟩
     all_goals first
      | exact hwp
      | exact ⟨hwp.1,hwp.2.mono fun e w'' he=>by
        cases e with
        | returned v=>exact he
        | panicked _=>exact he.elim
        | outgrown=>exact absurd he hout⟩
   | halt x w'=>cases x <;> simp only [Oper.uponIn] at hwp ⊢
end
end Go.Abs
namespace Go.Abs
open Go
variable {P : Program} {c : Ctx} {st0 : St}
def nV : List Oper→List Tr→St→St
 | o::r,t::ts,st=>nV r ts ⟨bt o.dst t.v st.fr,cM t.wr st.sto⟩
 | _,_,st=>st
theorem ui{opsA : Array Oper}{K : St→Prop} : ∀ {l : List Oper} {st : St} {acc : List Tr},ar P c opsA st0 l st acc K →
  ∃ ts : List Tr,ts.length = l.length∧kM opsA.toList st0 (acc.reverse ++ ts) = true∧K (nV l ts st)∧∀ (j : Nat) (o : Oper) (t : Tr),l[j]? = some o→ts[j]? = some t→Fact P c opsA o t (nV (l.take j) (ts.take j) st)
 | [],st,acc,h=>⟨[],rfl,by simpa [ar] using h.1,h.2,fun j o t h=>by simp at h⟩
 | o::r,st,acc,⟨run,tr,hg,h1,h2,h3,h⟩=>by
   obtain ⟨ts,hl,hc,hk,hf⟩:=ui h
   refine ⟨tr::ts,by simp [hl],by simpa using hc,hk,fun j o' t ho ht=>?_⟩
   cases j with
   | zero =>
     simp at ho ht; subst ho; subst ht
     exact ⟨run,hg,h1,fun hr=>⟨h2 hr,h3 hr⟩⟩
   | succ j=>exact hf j o' t (by simpa using ho) (by simpa using ht)
theorem w7 : ∀ {l : List Oper} {ts : List Tr} {st : St} {o : Oper} {t : Tr},l.length = ts.length→nV (l ++ [o]) (ts ++ [t]) st = ⟨bt o.dst t.v (nV l ts st).fr,cM t.wr (nV l ts st).sto⟩
 | [],[],_,_,_,_=>rfl
 | _::l,_::ts,_,_,_,h=>by
   simp only [List.cons_append,nV]
   exact w7 (by simpa using h)
 | [],_::_,_,_,_,h=>by simp at h
 | _::_,[],_,_,_,h=>by simp at h
theorem vE{ops : List Oper}{trs : List Tr}(hl : trs.length = ops.length) : ∀ {j : Nat},j≤ops.length→Sj ops trs st0 j = nV (ops.take j) (trs.take j) st0
 | 0,_=>by simp [Sj,Cs,nV]
 | j + 1,h=>by
   have ih:=vE hl (j:=j) (by omega)
   unfold Sj at ih ⊢
   have h1 : ops[j]? = some ops[j]:=List.getElem?_eq_getElem (by omega)
   have h2 : trs[j]? = some trs[j]:=List.getElem?_eq_getElem (by omega)
   simp only [Cs,h1,h2,if_true]
   rw [ih,List.take_add_one,List.take_add_one,h1,h2]
   simp only [Option.toList_some]
   rw [w7 (by simp; omega)]
def Lof(listed : Array Bool) : Nat→Bool:=fun i=>listed.getD i false
def unl(listed : Array Bool) : Nat:=listed.toList.countP (fun b=>!b)
theorem uj{ops : Array Oper}{listed : Array Bool}{i : Nat}(h : i∈Region.ready .any ops listed) :
  ∃ o,ops[i]? = some o∧listed.getD i true = false∧∀ e∈o.after.toList,Region.binds .any e = true→Lof listed e.on = true:=by
 unfold Region.ready at h
 simp only [List.mem_filter,List.mem_range,Bool.and_eq_true,Bool.not_eq_true'] at h
 obtain ⟨h1,h2,h3⟩:=h
 have ho : ops[i]? = some ops[i]:=Array.getElem?_eq_getElem h1
 refine ⟨_,ho,h2,fun e he hb=>?_⟩
 rw [ho] at h3
 simp only [Option.map_some,Option.getD_some,Array.all_eq_true'] at h3
 have:=h3 e (by simpa using he)
 simpa [hb,Lof] using this
theorem He{ops : Array Oper}{listed : Array Bool}{i : Nat}{o : Oper}(ho : ops[i]? = some o)(hn : listed.getD i true = false)(he : ∀ e∈o.after.toList,Region.binds .any e = true→Lof listed e.on = true) : i∈Region.ready .any ops listed:=by
 unfold Region.ready
 simp only [List.mem_filter,List.mem_range,Bool.and_eq_true,Bool.not_eq_true']
 refine ⟨(Array.getElem?_eq_some_iff.1 ho).1,hn,?_⟩
 rw [ho]
 simp only [Option.map_some,Option.getD_some,Array.all_eq_true']
 intro e hm
 cases hb : Region.binds .any e with
 | false=>rfl
 | true=>simpa [Lof] using he e (by simpa using hm) hb
theorem uk : ∀ {l : List Bool} {i : Nat},l[i]? = some false→(l.set i true).countP (fun b=>!b) + 1 = l.countP (fun b=>!b)
 | [],_,h=>by simp at h
 | b::r,0,h=>by simp at h; subst h; simp
 | b::r,i + 1,h=>by
   have:=uk (l:=r) (i:=i) (by simpa using h)
   simp only [List.set_cons_succ,List.countP_cons]
   omega
theorem Fk{opsA : Array Oper}{trs : List Tr}(G : DrawGood opsA.toList trs st0)(hF : ∀ (j : Nat) (o : Oper) (t : Tr),opsA.toList[j]? = some o→trs[j]? = some t→Fact P c opsA o t (Sj opsA.toList trs st0 j))
  {Q : Exit→Act→World→Prop} (hQ : ∀ a w σ φ,Rel c (Sj opsA.toList trs st0 opsA.toList.length) a w σ φ→Q .normal a w) :
  ∀ (fuel : Nat) (listed : Array Bool) (a : Act) (w : World) (σ : Sig) (φ : Pl),listed.size = opsA.size→lI opsA.toList (Lof listed)→unl listed≤fuel→Rel c (Cs opsA.toList trs st0 (Lof listed) opsA.toList.length) a w σ φ →
    wpAnyIn (fnc c) 0 P .any opsA Q fuel listed a w:=by
 -- where nothing is left
 have hend : ∀ (listed : Array Bool) (a : Act) (w : World) (σ : Sig) (φ : Pl),(∀ i,i < opsA.size→Lof listed i = true)→Rel c (Cs opsA.toList trs st0 (Lof listed) opsA.toList.length) a w σ φ→Q .normal a w:=by
  intro listed a w σ φ hall hr
  refine hQ a w σ φ (hr.cong (fun t=>?_) (fun id=>?_))
  ·exact jk fun i o hi _ _=>(hall i (by simpa using hi)).symm
  ·exact iA fun i t hi _ _=>(hall i (by simpa using hi)).symm
 have hnone : ∀ (listed : Array Bool),listed.size = opsA.size→Region.ready .any opsA listed = []→∀ i,i < opsA.size→Lof listed i = true:=by
  intro listed hsz hrd i
  induction i using Nat.strongRecOn with
  | ind i ih =>
    intro hi
    cases hb : Lof listed i with
    | true=>rfl
    | false =>
      have ho : opsA[i]? = some opsA[i]:=Array.getElem?_eq_getElem hi
      have hn : listed.getD i true = false:=by
       unfold Lof at hb
       rw [Array.getD_eq_getD_getElem?,Array.getElem?_eq_getElem (by omega)] at hb ⊢
       exact hb
      have:=He (ops:=opsA) (listed:=listed) ho hn fun e he hbd=>by
       have hlt:=nW G.edges (j:=i) (by rw [Array.getElem?_toList]; exact ho) e he hbd
       exact ih e.on (by omega) (by omega)
      rw [hrd] at this; simp at this
 intro fuel
 induction fuel with
 | zero =>
   intro listed a w σ φ hsz hcl hu hr
   have hall : ∀ i,i < opsA.size→Lof listed i = true:=by
    intro i hi
    have h0 : unl listed = 0:=by omega
    unfold unl at h0
    rw [List.countP_eq_zero] at h0
    have:=h0 listed[i] (by simp)
    unfold Lof
    rw [Array.getD_eq_getD_getElem?,Array.getElem?_eq_getElem (by omega)]
    simpa using this
   refine ⟨?_,hend listed a w σ φ hall hr⟩
   cases hrd : Region.ready .any opsA listed with
   | nil=>rfl
   | cons i r =>
     obtain ⟨o,ho,hn,_⟩:=uj (ops:=opsA) (listed:=listed) (i:=i) (by rw [hrd]; simp)
     have hi:=(Array.getElem?_eq_some_iff.1 ho).1
     have:=hall i hi
     unfold Lof at this
     rw [Array.getD_eq_getD_getElem?,Array.getElem?_eq_getElem (by omega)] at this hn
     simp at this hn; rw [this] at hn; cases hn
 | succ fuel ih =>
   intro listed a w σ φ hsz hcl hu hr
   refine ⟨fun hrd=>hend listed a w σ φ (hnone listed hsz hrd) hr,fun j hj=>?_⟩
   obtain ⟨oj,ho,hn,hanc⟩:=uj hj
   have hjs:=(Array.getElem?_eq_some_iff.1 ho).1
   have ho' : opsA.toList[j]? = some oj:=by rw [Array.getElem?_toList]; exact ho
   have hjt : j < trs.length:=by rw [G.len]; simpa using hjs
   have htj : trs[j]? = some trs[j]:=List.getElem?_eq_getElem hjt
   have hnf : listed[j]? = some false:=by
    rw [Array.getD_eq_getD_getElem?,Array.getElem?_eq_getElem (by omega)] at hn
    rw [Array.getElem?_eq_getElem (by omega)]
    simpa using hn
   have hnL : Lof listed j = false:=by unfold Lof; rw [Array.getD_eq_getD_getElem?,hnf]; rfl
   have hset : Lof (listed.setIfInBounds j true) = kj (Lof listed) j:=by
    funext i
    unfold Lof kj
    rw [Array.getD_eq_getD_getElem?,Array.getElem?_setIfInBounds]
    by_cases hij : j = i
    ·subst hij; simp [show j < listed.size by omega]
    ·rw [if_neg hij,if_neg (fun e=>hij e.symm)]; simp only [Array.getD_eq_getD_getElem?]
   refine Hf G hcl ho' htj hnL hanc (hF j oj _ ho' htj) rfl hr fun a' w' σ' φ' hr'=>?_
   refine ih _ a' w' σ' φ' (by simpa using hsz) (by rw [hset]; exact sC hcl ho' hanc) ?_ (by rw [hset]; exact hr')
   have:=uk (l:=listed.toList) (i:=j) (by rw [Array.getElem?_toList]; exact hnf)
   unfold unl at hu ⊢
   rw [Array.toList_setIfInBounds]
   omega
theorem um{id : Nat}{ops : Array Oper}{st : St}{Q : Exit→St→Prop}(hm : P.follows .mixedOrders = true)(h : ar P c ops st ops.toList st [] (Q .normal)) : OkC P c (.region id ops true) st Q:=by
 intro a w σ φ hr
 obtain ⟨trs,hl,hc,hk,hf⟩:=ui h
 have G:=y8 hl (by simpa using hc)
 refine wpIn_region_any hm ?_
 refine Fk (c:=c) G ?f1 (fun a' w' σ' φ' hr'=>⟨nV ops.toList trs st,σ',φ',hk,.inl ?f2⟩) ops.size _ a _ σ φ (by simp) ?f3 ?f4 ?f5
 case f1 =>
  intro j o t ho ht
  rw [vE hl (Nat.le_of_lt (List.getElem?_eq_some_iff.1 ho).1)]
  exact hf j o t ho ht
 case f2 =>
  rw [vE hl (Nat.le_refl _)] at hr'
  rwa [List.take_length,← hl,List.take_length] at hr'
 case f3 =>
  intro i o _ hLi
  unfold Lof at hLi
  rw [Array.getD_eq_getD_getElem?,Array.getElem?_replicate] at hLi
  split at hLi <;> simp at hLi
 case f4=>unfold unl; exact Nat.le_trans List.countP_le_length (by simp)
 case f5 =>
  rw [pq (j:=0) (Nat.zero_le _) (fun i _ _=>by unfold Lof; rw [Array.getD_eq_getD_getElem?,Array.getElem?_replicate]; split <;> rfl)]
  exact hr.drew _ (by simp)
end Go.Abs
namespace Go.Abs
open Go
variable {P : Program} {c : Ctx} {T : Tab} {σ : Sig} {φ : Pl} {w : World}
def eL : AC→List Nat
 | .own i _ | .sub i _ _ | .ref i _ | .rref i _ _ | .yl i | .mapr i | .bsl i _ _=>[i]
 | _=>[]
def pc : List AC→List Nat
 | []=>[]
 | c::r=>eL c ++ pc r
def rP : List (Bool×List AC)→List Nat
 | []=>[]
 | t::r=>pc t.2 ++ rP r
def bX : AV→List Nat
 | .one c=>eL c
 | .agg cs=>pc cs
 | .tup ts=>rP ts
 | .any=>[]
def sn(st : St)(x : Operand) : List Nat:=match ev st x with | some v=>bX v | none=>[]
def cj(st : St) : List Operand→List Nat
 | []=>[]
 | x::r=>sn st x ++ cj st r
theorem jJ{st : St}{x : Operand}{v : AV}(hv : ev st x = some v){i : Nat}(hi : i∈bX v) : ∀ {l : List Operand},x∈l→i∈cj st l
 | [],h=>by simp at h
 | y::r,h=>by
   simp only [cj,List.mem_append]
   rcases List.mem_cons.1 h with rfl | h
   ·exact .inl (by simp [sn,hv,hi])
   ·exact .inr (jJ hv hi h)
theorem vp{t : Nat} : ∀ {l : List Operand},Operand.tmp t∈l→t∈oM l
 | [],h=>by simp at h
 | x::r,h=>by
   rcases List.mem_cons.1 h with rfl | h
   ·simp [oM]
   ·have:=vp h
    cases x <;> simp [oM,this]
theorem eQ{st st2 : St}{op : Op}(hs : ∀ t,t∈gO op→look st2.fr t = look st.fr t){x : Operand}(hx : x∈op.operands.toList) : ev st2 x = ev st x:=by
 cases x with
 | tmp t=>exact hs t (vp hx)
 | _=>rfl
section
variable {s s2 : Sto}
theorem lU{i : Nat}(h : look s2 i = look s i) : bo s2 i = bo s i:=by simp [bo,h]
theorem xf{off : Nat}{v : AV}(h : ∀ i,i∈bX v→look s2 i = look s i) : nS s2 off v = nS s off v:=by
 unfold nS
 split <;> first | rfl | (rw [lU (h _ (by simp [bX,eL]))])
theorem EM{g : Bool}{n : Nat}{v : AV}(h : ∀ i,i∈bX v→look s2 i = look s i) : lB s2 g n v = lB s g n v:=by
 unfold lB
 split <;> first | rfl | (rw [h _ (by simp [bX,eL])])
theorem GR{k : TK}{v : AV}(h : ∀ i,i∈bX v→look s2 i = look s i) : vt s2 k v = vt s k v:=by
 unfold vt
 split <;> first | rfl | (rw [lU (h _ (by simp [bX,eL]))])
end
theorem s9{st st2 : St}{t : TypeId} : ∀ {parts : List (Nat×Operand)} {acc : List AC},(∀ p∈parts,ev st2 p.2 = ev st p.2)→gk T st2 t acc parts = gk T st t acc parts
 | [],_,_=>rfl
 | (i,x)::r,acc,h=>by
   have h1:=h (i,x) List.mem_cons_self
   have ih : ∀ {acc},gk T st2 t acc r = gk T st t acc r:=fun {acc}=>s9 fun p hp=>h p (List.mem_cons_of_mem _ hp)
   simp only at h1
   simp only [gk,h1,ih]
theorem Fv{st st2 : St}{op : Op}(hs : ∀ t,t∈gO op→look st2.fr t = look st.fr t)(hi : ∀ i,i∈cj st op.operands.toList→look st2.sto i = look st.sto i) : b6 T st2 op = b6 T st op:=by
 have he : ∀ {x : Operand},x∈op.operands.toList→ev st2 x = ev st x:=fun hx=>eQ hs hx
 have hid : ∀ {x : Operand} {v : AV},x∈op.operands.toList→ev st x = some v→∀ i,i∈bX v→look st2.sto i = look st.sto i:=fun hx hv i h=>hi i (jJ hv h hx)
 cases op with
 | move x=>exact he (by simp [Op.operands])
 | assign x=>exact he (by simp [Op.operands])
 | binOp op t x y ty=>simp only [b6]; rw [he (x:=x) (by simp [Op.operands]),he (x:=y) (by simp [Op.operands])]
 | unOp op t x=>simp only [b6]; rw [he (x:=x) (by simp [Op.operands])]
 | fieldAddr s x f =>
   simp only [b6]; rw [he (x:=x) (by simp [Op.operands])]
   cases hv : ev st x with
   | none=>cases kz T s f <;> rfl
   | some v =>
     cases kz T s f with
     | none=>rfl
     | some p=>simp only; exact xf (hid (x:=x) (by simp [Op.operands]) hv)
 | field s x f=>simp only [b6]; rw [he (x:=x) (by simp [Op.operands])]
 | load t x =>
   simp only [b6]; rw [he (x:=x) (by simp [Op.operands])]
   cases hv : ev st x with
   | none=>cases jg T t <;> rfl
   | some v =>
     cases jg T t with
     | none=>rfl
     | some p=>simp only; exact EM (hid (x:=x) (by simp [Op.operands]) hv)
 | extract x i=>simp only [b6]; rw [he (x:=x) (by simp [Op.operands])]
 | convert a b x=>simp only [b6]; rw [he (x:=x) (by simp [Op.operands])]
 | build t parts =>
   simp only [b6]
   have : ∀ {acc},gk T st2 t acc parts.toList = gk T st t acc parts.toList:=fun {acc}=>s9 fun p hp=>he (by
    simp only [Op.operands,Array.toList_map,List.mem_map]
    exact ⟨p,by simpa using hp,rfl⟩)
   simp only [this]
 | nilCheck x =>
   simp only [b6]; rw [he (x:=x) (by simp [Op.operands])]
   cases hv : ev st x with
   | none=>rfl
   | some v =>
     have h:=hid (x:=x) (by simp [Op.operands]) hv
     split <;> first | rfl | (rename_i heq; cases heq; rw [lU (h _ (by simp [bX,eL]))])
 | call cl =>
   obtain ⟨callee,args,ats⟩:=cl
   cases callee with
   | builtin b =>
     simp only [b6]
     have hargs : ∀ x∈args.toList,x∈(Op.call { callee:=.builtin b,args:=args,argTypes:=ats }).operands.toList:=by
      intro x hx
      simp [Op.operands,Call.operands]
      simpa using hx
     have hmap : args.toList.map (ev st2) = args.toList.map (ev st):=List.map_congr_left fun x hx=>he (hargs x hx)
     rw [hmap]
     unfold mD
     split
     ·rename_i t v _ heq
      have hlen : ∃ x,args.toList = [x]∧ev st x = some v:=by
       cases hl : args.toList with
       | nil=>rw [hl] at heq; simp at heq
       | cons x r =>
         rw [hl] at heq
         simp only [List.map_cons,List.cons.injEq,List.map_eq_nil_iff] at heq
         exact ⟨x,by rw [heq.2],heq.1⟩
      obtain ⟨x,hx,hv⟩:=hlen
      have h:=hid (x:=x) (hargs x (by rw [hx]; simp)) hv
      cases look T t with
      | none=>rfl
      | some td=>simp only; rw [GR h]
     ·rfl
     ·rfl
     ·rfl
   | _=>rfl
 | _=>rfl
end Go.Abs
namespace Go.Abs
open Go
variable {P : Program} {c : Ctx} {T : Tab} {σ : Sig} {φ : Pl} {w : World}
structure Ef where
 v : AV
 wr : List (Nat×Option AObj)
 new : List Nat
def px(T : Tab)(sto : Sto)(t : TypeId) : Option AV→Option AV→Option AV
 | some (.one (.d (.int _ n))),some (.one (.d (.sl k _ xs)))=>match aW T t with
   | some (_,k',_,_)=>bif Nat.beq k k' && decide (0≤n) then (match nth xs n.toNat with | some el=>some (.one (.d (.ptr el))) | none=>none) else none
   | none=>none
 | some (.one (.d (.int _ n))),some (.one (.own id m))=>match aW T t,look sto id with
   | some (_,k',_,_),some (.row k _ _)=>bif Nat.beq k k' && decide (0≤n) && decide (n < m) then some (.one (.rref id n.toNat 0)) else none
   | _,_=>none
 | some (.one (.d (.int _ n))),some (.one (.sub id lo m))=>match aW T t,look sto id with
   | some (_,k',_,_),some (.row k _ _)=>bif Nat.beq k k' && decide (0≤n) && decide (n < m) then some (.one (.rref id (lo + n.toNat) 0)) else none
   | _,_=>none
 | some (.one (.d (.int _ n))),some v=>match py T t with
   | some (m,s)=>bif decide (0≤n) && decide (n < m) then nS sto (n.toNat * s) v else none
   | none=>none
 | _,_=>none
def sf(T : Tab)(t : TypeId) : Option AV→Option AV→Option AV
 | some (.one (.d (.int _ n))),some (.one (.d (.str s)))=>bif gm T t && decide (0≤n) then (match nth s n.toNat with | some b=>some (.one (.d (.int .u8 (b.toNat : Int)))) | none=>none) else none
 | _,_=>none
def mP(T : Tab)(sto : Sto)(t : TypeId) : Option AV→Option AV
 | some (.one (.rref id i off))=>match jg T t,look sto id with
   | some (g,s),some (.row _ _ xs)=>(match nth xs i with | some el=>fC g s ((el.drop off).map .d) | none=>none)
   | _,_=>none
 | _=>none
def mQ(T : Tab)(sto : Sto)(t : TypeId) : Option AV→Option AV→Option (Nat×AObj)
 | some (.one (.ref id off)),some v=>match jg T t,look sto id,cellsOf v with
   | some (_,s),some (.box cells),some cs=>bif Nat.beq cs.length s then (match cZ off cs cells with | some cells'=>some (id,.box cells') | none=>none) else none
   | _,_,_=>none
 | some (.one (.rref id j off)),some v=>match jg T t,look sto id,cellsOf v with
   | some (_,s),some (.row k b xs),some cs=>bif Nat.beq cs.length s then (match fm cs,nth xs j with
     | some ds,some el=>(match cZ off ds el with | some el'=>some (id,.row k b (xs.set j el')) | none=>none)
     | _,_=>none) else none
   | _,_,_=>none
 | _,_=>none
def ga(st : St)(o : Option Operand)(d : Nat) : Option Nat :=
 match o with
 | none=>some d
 | some x=>match ev st x with
   | some (.one (.d (.int _ z)))=>bif decide (0≤z) then some z.toNat else none
   | _=>none
def gb(T : Tab)(sto : Sto)(t : TypeId)(lo hi : Nat→Option Nat) : Option AV→Option AV
 | some (.one (.d (.sl k b xs)))=>match aW T t,lo 0,hi xs.length with
   | some (_,k',_,_),some l,some h=>bif Nat.beq k k' && (Nat.ble l h && Nat.ble h xs.length) then some (.one (.d (.sl k b ((xs.take h).drop l)))) else none
   | _,_,_=>none
 | some (.one (.d (.str s)))=>match lo 0,hi s.length with
   | some l,some h=>bif gm T t && (Nat.ble l h && Nat.ble h s.length) then some (.one (.d (.str ((s.drop l).take (h - l))))) else none
   | _,_=>none
 | some (.one (.own id n))=>match aW T t,look sto id,lo 0,hi n with
   | some (_,k',_,_),some (.row k _ xs),some l,some h=>bif Nat.beq k k' && (Nat.ble l h && Nat.ble h xs.length) then
     (bif Nat.beq l 0 && (Nat.ble xs.length n || Nat.ble h n) then some (.one (.own id h)) else some (.one (.sub id l (h - l)))) else none
   | _,_,_,_=>none
 | _=>none
def lY(T : Tab)(st : St)(id : Nat) : Op→Option (AV×AObj)
 | .alloc t=>match look T t with | some td=>some (.one (.ref id 0),.box (td.zero.map .d)) | none=>none
 | .box _ x=>match ev st x with | some v=>(match cellsOf v with | some cs=>bif cq id cs then none else some (.one (.ref id 0),.box cs) | none=>none) | none=>none
 | .buildSlice t n parts=>match aW T t with
   | some (_,k,b,_)=>(match dM st k 0 parts.toList with
     | some xs=>bif Nat.beq parts.toList.length n && (Nat.ble (n * k) 1000000 && Nat.ble (n * b) 1000000 && Nat.ble n 1000000) then some (.one (.own id n),.row k b xs) else none
     | none=>none)
   | none=>none
 | .makeSlice t x y=>match aW T t,ev st x,ev st y with
   | some (_,k,b,z),some (.one (.d (.int .i64 n))),some (.one (.d (.int .i64 m))) =>
     bif decide (0≤n) && decide (n = m) && (Nat.ble (n.toNat * b) 1000000 && Nat.ble n.toNat 1000000) then some (.one (.own id n.toNat),.row k b (List.replicate n.toNat z)) else none
   | _,_,_=>none
 | _=>none
def tx(T : Tab)(st : St)(id : Nat)(t t2 : TypeId) : Option AV→Option AV→Option Ef
 | some (.one (.own i n)),some v=>match aW T t,aW T t2,look st.sto i with
   | some (_,k,b,_),some _,some (.row k' b' xs)=>(match fj st k v with
     | some ys=>bif Nat.beq k k' && Nat.beq b b' && (Nat.ble (n + ys.length) 1000000000 && Nat.ble ((n + ys.length) * b) 100000000000) then
       some ⟨.one (.own id (n + ys.length)),[(id,some (.row k b (xs.take n ++ ys))),(i,none)],[id]⟩ else none
     | none=>none)
   | _,_,_=>none
 | some (.one (.d .nil)),some v=>match aW T t,aW T t2 with
   | some (_,k,b,_),some _=>(match fj st k v with
     | some ys=>bif Nat.ble ys.length 1000000000 && Nat.ble (ys.length * b) 100000000000 then some ⟨.one (.own id ys.length),[(id,some (.row k b ys))],[id,id + 1]⟩ else none
     | none=>none)
   | _,_=>none
 | _,_=>none
def cD(T : Tab)(st : St)(id : Nat) : Op→Option Ef
 | .pick x y z=>match ev st x with
   | some (.one (.d (.bool b)))=>(match ev st (if b then y else z) with | some v=>some ⟨v,[],[]⟩ | none=>none)
   | _=>none
 | .indexAddr t x y=>match px T st.sto t (ev st y) (ev st x) with | some v=>some ⟨v,[],[]⟩ | none=>none
 | .index t x y=>match sf T t (ev st y) (ev st x) with | some v=>some ⟨v,[],[]⟩ | none=>none
 | .load t x=>match mP T st.sto t (ev st x) with | some v=>some ⟨v,[],[]⟩ | none=>none
 | .slice t x lo hi none=>match gb T st.sto t (ga st lo) (ga st hi) (ev st x) with | some v=>some ⟨v,[],[]⟩ | none=>none
 | .call { callee:=.builtin .append,args:=⟨[x,y]⟩,argTypes:=⟨[t,t2]⟩ }=>tx T st id t t2 (ev st x) (ev st y)
 | .makeFunc (.func f) ⟨[]⟩ caps=>match evL st caps.toList with
   | some avs=>(match kA avs with | some ds=>some ⟨.one (.d (.fn f ds)),[],[]⟩ | none=>none)
   | none=>none
 | _=>none
def gT : Option Nat→Bool
 | some _=>true
 | none=>false
def cT(T : Tab)(st : St)(o : Oper)(id : Nat) : Option Ef :=
 match b6 T st o.op with
 | some v=>some ⟨v,[],[]⟩
 | none=>match cD T st id o.op with
   | some e=>some e
   | none=>bif gT o.dst then (match lY T st id o.op with | some (v,ob)=>some ⟨v,[(id,some ob)],[id]⟩ | none=>none)
     else match o.op with
      | .store t x y=>match mQ T st.sto t (ev st x) (ev st y) with | some (i,ob)=>some ⟨.any,[(i,some ob)],[]⟩ | none=>none
      | _=>none
def Ef.tr(e : Ef)(ri : List Nat) : Tr:=⟨e.v,e.wr,ri,e.new⟩
def ot(st : St)(l : List Nat) : Prop:=∀ i,i∈l→look st.sto i = none∧bx i st.fr = false∧aR i st.sto = false
theorem jX{st : St}{o : Option Operand}{d l : Nat}(h : ga st o d = some l) : bnd st o d l:=by
 unfold ga at h
 split at h
 ·simp at h; exact h.symm
 ·rename_i x
  split at h <;> (try (simp at h; done))
  rename_i k z hz
  cases hb : decide (0≤z) <;> simp [hb] at h
  simp at hb
  exact ⟨k,z,hz,by omega⟩
theorem lJ{P : Program}{ops : Array Oper}{rest : List Oper}{fr : List (Nat×AV)}{sto : Sto}{id : Nat}{o : AObj}{K : St→Prop}(h : ae P c ops rest ⟨fr,bS id o sto⟩ K) : ae P c ops rest ⟨fr,(id,o)::sto⟩ K :=
 eo (oA fun _=>cC) h
def kn(P : Program)(c : Ctx)(o : Oper)(st : St)(e : Ef) : Prop :=
 ∀ (ops : Array Oper) (rest : List Oper) (K : St→Prop),ae P c ops rest ⟨bt o.dst e.v st.fr,cM e.wr st.sto⟩ K→ae P c ops ({ o with guard:=none }::rest) st K
theorem Ji(hT : ba P T){o : Oper}{st : St}{t : TypeId}{x y : Operand}{v : AV}(ho : o.op = .indexAddr t x y)(hd : aU c.n o.dst = true)(h : px T st.sto t (ev st y) (ev st x) = some v) : kn P c o st ⟨v,[],[]⟩:=by
 intro ops rest K hk
 unfold px at h
 split at h
 ·rename_i ik n k b xs hy hx
  split at h <;> (try (simp at h; done))
  rename_i e k' b' z ht
  cases hb : Nat.beq k k' && decide (0≤n) <;> simp only [hb,cond_true,cond_false,reduceCtorEq] at h
  simp only [Bool.and_eq_true,decide_eq_true_eq] at hb
  split at h <;> simp at h
  rename_i el hel
  subst h
  exact GH hT (o:={ o with guard:=none }) ho rfl hd ht hx hb.1 hy hb.2 (by rw [← gl]; exact hel) hk
 ·rename_i ik n id m hy hx
  split at h <;> (try (simp at h; done))
  rename_i e k' b' z k b xs ht hl
  cases hb : Nat.beq k k' && decide (0≤n) && decide (n < m) <;> simp only [hb,cond_true,cond_false,reduceCtorEq,Option.some.injEq] at h
  subst h
  simp only [Bool.and_eq_true,decide_eq_true_eq] at hb
  exact A2 hT (o:={ o with guard:=none }) ho rfl hd ht hx hl hb.1.1 hy hb.1.2 hb.2 hk
 ·rename_i ik n id lo m hy hx
  split at h <;> (try (simp at h; done))
  rename_i e k' b' z k b xs ht hl
  cases hb : Nat.beq k k' && decide (0≤n) && decide (n < m) <;> simp only [hb,cond_true,cond_false,reduceCtorEq,Option.some.injEq] at h
  subst h
  simp only [Bool.and_eq_true,decide_eq_true_eq] at hb
  exact A3 hT (o:={ o with guard:=none }) ho rfl hd ht hx hl hb.1.1 hy hb.1.2 hb.2 hk
 ·rename_i ik n v0 _ _ _ hy hx
  split at h <;> (try (simp at h; done))
  rename_i m s ht
  cases hb : decide (0≤n) && decide (n < m) <;> simp only [hb,cond_true,cond_false,reduceCtorEq] at h
  simp only [Bool.and_eq_true,decide_eq_true_eq] at hb
  exact A4 hT (o:={ o with guard:=none }) ho rfl hd ht hx hy hb.1 hb.2 h hk
 ·simp at h
theorem Dr(hT : ba P T){o : Oper}{st : St}{t : TypeId}{x y : Operand}{v : AV}(ho : o.op = .index t x y)(hd : aU c.n o.dst = true)(h : sf T t (ev st y) (ev st x) = some v) : kn P c o st ⟨v,[],[]⟩:=by
 intro ops rest K hk
 unfold sf at h
 split at h <;> (try (simp at h; done))
 rename_i ik n s hy hx
 cases hb : gm T t && decide (0≤n) <;> simp only [hb,cond_true,cond_false,reduceCtorEq] at h
 simp only [Bool.and_eq_true,decide_eq_true_eq] at hb
 split at h <;> simp at h
 rename_i b hel
 subst h
 exact A5 hT (o:={ o with guard:=none }) ho rfl hd hb.1 hx hy hb.2 (by rw [← gl]; exact hel) hk
theorem Fo(hT : ba P T){o : Oper}{st : St}{t : TypeId}{x : Operand}{v : AV}(ho : o.op = .load t x)(hd : aU c.n o.dst = true)(h : mP T st.sto t (ev st x) = some v) : kn P c o st ⟨v,[],[]⟩:=by
 intro ops rest K hk
 unfold mP at h
 split at h <;> (try (simp at h; done))
 rename_i id i off hx
 split at h <;> (try (simp at h; done))
 rename_i g s k b xs ht hl
 split at h <;> (try (simp at h; done))
 rename_i el hel
 exact BE hT (o:={ o with guard:=none }) ho rfl hd ht hx hl (by rw [← gl]; exact hel) h hk
theorem Fq(hT : ba P T){o : Oper}{st : St}{t : TypeId}{x y : Operand}{i : Nat}{ob : AObj}(ho : o.op = .store t x y)(hd : o.dst = none)(h : mQ T st.sto t (ev st x) (ev st y) = some (i,ob)) : kn P c o st ⟨.any,[(i,some ob)],[]⟩:=by
 intro ops rest K hk
 rw [hd] at hk
 unfold mQ at h
 split at h <;> (try (simp at h; done))
 ·rename_i id off v hx hy
  split at h <;> (try (simp at h; done))
  rename_i g s cells cs ht hl hc
  cases hb : Nat.beq cs.length s <;> simp only [hb,cond_true,cond_false,reduceCtorEq] at h
  split at h <;> simp at h
  rename_i cells' hsp
  obtain ⟨rfl,rfl⟩:=h
  exact Bu hT (o:={ o with guard:=none }) ho rfl hd ht hx hl hy hc hb hsp hk
 ·rename_i id j off v hx hy
  split at h <;> (try (simp at h; done))
  rename_i g s k b xs cs ht hl hc
  cases hb : Nat.beq cs.length s <;> simp only [hb,cond_true,cond_false,reduceCtorEq] at h
  split at h <;> (try (simp at h; done))
  rename_i ds el hds hel
  split at h <;> simp at h
  rename_i el' hsp
  obtain ⟨rfl,rfl⟩:=h
  exact zt hT (o:={ o with guard:=none }) ho rfl hd ht hx hl (by rw [← gl]; exact hel) hy hc hb hds hsp hk
theorem Fp(hT : ba P T){o : Oper}{st : St}{t : TypeId}{x : Operand}{lo hi : Option Operand}{v : AV}(ho : o.op = .slice t x lo hi none)(hd : aU c.n o.dst = true)(h : gb T st.sto t (ga st lo) (ga st hi) (ev st x) = some v) : kn P c o st ⟨v,[],[]⟩:=by
 intro ops rest K hk
 unfold gb at h
 split at h
 ·rename_i k b xs hx
  split at h <;> (try (simp at h; done))
  rename_i e k' b' z l u ht hl hu
  cases hb : Nat.beq k k' && (Nat.ble l u && Nat.ble u xs.length) <;> simp only [hb,cond_true,cond_false,reduceCtorEq,Option.some.injEq] at h
  subst h
  simp only [Bool.and_eq_true,Nat.ble_eq] at hb
  exact BF hT (o:={ o with guard:=none }) ho rfl hd ht hx hb.1 (jX hl) (jX hu) hb.2.1 hb.2.2 hk
 ·rename_i s hx
  split at h <;> (try (simp at h; done))
  rename_i l u hl hu
  cases hb : gm T t && (Nat.ble l u && Nat.ble u s.length) <;> simp only [hb,cond_true,cond_false,reduceCtorEq,Option.some.injEq] at h
  subst h
  simp only [Bool.and_eq_true,Nat.ble_eq] at hb
  exact wE hT (o:={ o with guard:=none }) ho rfl hd hb.1 hx (jX hl) (jX hu) hb.2.1 hb.2.2 hk
 ·rename_i id n hx
  split at h <;> (try (simp at h; done))
  rename_i e k' b' z k b xs l u ht hrow hl hu
  cases hb : Nat.beq k k' && (Nat.ble l u && Nat.ble u xs.length) <;> simp only [hb,cond_true,cond_false,reduceCtorEq] at h
  simp only [Bool.and_eq_true,Nat.ble_eq] at hb
  cases hb2 : Nat.beq l 0 && (Nat.ble xs.length n || Nat.ble u n) <;> simp only [hb2,cond_true,cond_false,Option.some.injEq] at h
  ·subst h
   exact wF hT (o:={ o with guard:=none }) ho rfl hd ht hx hrow hb.1 (jX hl) (jX hu) hb.2.1 hb.2.2 hk
  ·subst h
   simp only [Bool.and_eq_true,Bool.or_eq_true,Nat.ble_eq] at hb2
   obtain rfl:=Nat.eq_of_beq_eq_true hb2.1
   exact wH hT (o:={ o with guard:=none }) ho rfl hd ht hx hrow hb.1 (jX hl) (jX hu) hb.2.2 hb2.2 hk
 ·simp at h
theorem Jj(hT : ba P T){o : Oper}{st : St}{id : Nat}{t t2 : TypeId}{x y : Operand}{e : Ef}(ho : o.op = .call { callee:=.builtin .append,args:=⟨[x,y]⟩,argTypes:=⟨[t,t2]⟩ })(hd : aU c.n o.dst = true)
  (h : tx T st id t t2 (ev st x) (ev st y) = some e) (hid : Nat.blt (id + 1) 1000000 = true) (hf : ot st e.new) : kn P c o st e:=by
 intro ops rest K hk
 unfold tx at h
 split at h
 ·rename_i i n v hx hy
  split at h <;> (try (simp at h; done))
  rename_i e1 k b z q k' b' xs ht ht2 hl
  obtain ⟨q1,q2,q3⟩:=q
  split at h <;> (try (simp at h; done))
  rename_i ys hs
  cases hb : Nat.beq k k' && Nat.beq b b' && (Nat.ble (n + ys.length) 1000000000 && Nat.ble ((n + ys.length) * b) 100000000000) <;> simp only [hb,cond_true,cond_false,reduceCtorEq,Option.some.injEq] at h
  subst h
  obtain ⟨f1,f2,f3⟩:=hf id (by simp)
  simp only [Bool.and_eq_true,Nat.ble_eq,Nat.blt_eq] at hb hid
  refine yi hT (o:={ o with guard:=none }) (id':=id) ho rfl hd ht ht2 (by simp only [Nat.blt_eq]; omega) hx hl (by simp only [Bool.and_eq_true]; exact hb.1) hy hs rfl (by omega) (by omega) f2 f3 f1 ?_
  exact lJ hk
 ·rename_i v hx hy
  split at h <;> (try (simp at h; done))
  rename_i e1 k b z q ht ht2
  obtain ⟨q1,q2,q3⟩:=q
  split at h <;> (try (simp at h; done))
  rename_i ys hs
  cases hb : Nat.ble ys.length 1000000000 && Nat.ble (ys.length * b) 100000000000 <;> simp only [hb,cond_true,cond_false,reduceCtorEq,Option.some.injEq] at h
  subst h
  simp only [Bool.and_eq_true,Nat.ble_eq] at hb
  refine uX hT (o:={ o with guard:=none }) (id:=id) ho rfl hd ht ht2 hid hx hy hs (by omega) (by omega) (fun i hi=>hf i (by simp; exact hi)) ?_
  exact lJ hk
 ·simp at h
end Go.Abs
namespace Go.Abs
open Go
variable {P : Program} {c : Ctx} {T : Tab} {σ : Sig} {φ : Pl} {w : World}
theorem Jh(hT : ba P T){o : Oper}{st : St}{id d : Nat}{v : AV}{ob : AObj}(hdst : o.dst = some d)(hd : aU c.n o.dst = true)(h : lY T st id o.op = some (v,ob))(hid : Nat.blt (id + 1) 1000000 = true)(hf : ot st [id]) :
  kn P c o st ⟨v,[(id,some ob)],[id]⟩:=by
 intro ops rest K hk
 obtain ⟨f1,f2,f3⟩:=hf id (by simp)
 rw [hdst] at hk hd
 replace hk:=lJ hk
 simp only [aU,Nat.blt_eq] at hd hid
 have hd' : (Nat.blt d c.n && Nat.blt id 1000000) = true:=by simp only [Bool.and_eq_true,Nat.blt_eq]; omega
 unfold lY at h
 split at h
 ·rename_i t ho
  split at h <;> simp at h
  rename_i td ht
  obtain ⟨rfl,rfl⟩:=h
  exact sB hT (o:={ o with guard:=none }) ho rfl hdst hd' ht f2 f3 hk
 ·rename_i t x ho
  split at h <;> (try (simp at h; done))
  rename_i u hx
  split at h <;> (try (simp at h; done))
  rename_i cs hc
  cases hb : cq id cs <;> simp only [hb,cond_true,cond_false,reduceCtorEq,Option.some.injEq,Prod.mk.injEq] at h
  obtain ⟨rfl,rfl⟩:=h
  exact wZ (o:={ o with guard:=none }) ho rfl hdst hd' hx hc f2 f3 hb hk
 ·rename_i t n parts ho
  split at h <;> (try (simp at h; done))
  rename_i e k b z ht
  split at h <;> (try (simp at h; done))
  rename_i xs hp
  cases hb : Nat.beq parts.toList.length n && (Nat.ble (n * k) 1000000 && Nat.ble (n * b) 1000000 && Nat.ble n 1000000) <;> simp only [hb,cond_true,cond_false,reduceCtorEq,Option.some.injEq,Prod.mk.injEq] at h
  obtain ⟨rfl,rfl⟩:=h
  rw [Bool.and_eq_true] at hb
  exact tw hT (o:={ o with guard:=none }) ho rfl hdst hd' ht hp hb.1 hb.2 f2 f3 hk
 ·rename_i t x y ho
  split at h <;> (try (simp at h; done))
  rename_i e k b z n m ht hx hy
  cases hb : decide (0≤n) && decide (n = m) && (Nat.ble (n.toNat * b) 1000000 && Nat.ble n.toNat 1000000) <;> simp only [hb,cond_true,cond_false,reduceCtorEq,Option.some.injEq,Prod.mk.injEq] at h
  obtain ⟨rfl,rfl⟩:=h
  simp only [Bool.and_eq_true,decide_eq_true_eq,Nat.ble_eq] at hb
  obtain ⟨⟨h0,rfl⟩,h1,h2⟩:=hb
  have hn : ((n.toNat : Nat) : Int) = n:=by omega
  exact uu hT (o:={ o with guard:=none }) (n:=n.toNat) ho rfl hdst hd' ht (by rw [hn]; exact hx) (by rw [hn]; exact hy) (by omega) (by omega) f2 f3 hk
 ·simp at h
theorem Hi(hT : ba P T){o : Oper}{st : St}{id : Nat}{e : Ef}(hd : aU c.n o.dst = true)(h : cT T st o id = some e)(hid : Nat.blt (id + 1) 1000000 = true)(hf : ot st e.new) : kn P c o st e:=by
 unfold cT at h
 split at h
 ·rename_i v hv
  simp at h; subst h
  intro ops rest K hk
  exact xe hT (o:={ o with guard:=none }) rfl hd hv hk
 split at h
 ·rename_i e' he'
  simp at h; subst h
  unfold cD at he'
  split at he'
  ·rename_i x y z ho
   split at he' <;> (try (simp at he'; done))
   rename_i b hb
   split at he' <;> simp at he'
   rename_i v hv
   subst he'
   intro ops rest K hk
   exact Dq (o:={ o with guard:=none }) ho rfl hd hb hv hk
  ·rename_i t x y ho
   split at he' <;> simp at he'
   rename_i v hv
   subst he'
   exact Ji hT ho hd hv
  ·rename_i t x y ho
   split at he' <;> simp at he'
   rename_i v hv
   subst he'
   exact Dr hT ho hd hv
  ·rename_i t x ho
   split at he' <;> simp at he'
   rename_i v hv
   subst he'
   exact Fo hT ho hd hv
  ·rename_i t x lo hi ho
   split at he' <;> simp at he'
   rename_i v hv
   subst he'
   exact Fp hT ho hd hv
  ·rename_i x y t t2 ho
   exact Jj hT ho hd he' hid hf
  ·rename_i f caps ho
   split at he' <;> (try (simp at he'; done))
   rename_i avs ha
   split at he' <;> simp at he'
   rename_i ds hds
   subst he'
   intro ops rest K hk
   exact vH (o:={ o with guard:=none }) ho rfl hd ha hds hk
  ·simp at he'
 cases hD : gT o.dst with
 | true =>
   simp only [hD,cond_true] at h
   split at h <;> simp at h
   rename_i v ob hn
   subst h
   cases hdst : o.dst with
   | none=>simp [hdst,gT] at hD
   | some d=>exact Jh hT hdst hd hn hid hf
 | false =>
   simp only [hD,cond_false] at h
   have hdst : o.dst = none:=by cases h : o.dst <;> simp_all [gT]
   split at h <;> (try (simp at h; done))
   rename_i t x y ho
   split at h <;> simp at h
   rename_i i ob hs
   subst h
   exact Fq hT ho hdst hs
section
variable {s s2 : Sto}
theorem Fs{t : TypeId}{vy vx : Option AV}(h : ∀ v,vx = some v→∀ i∈bX v,look s2 i = look s i) : px T s2 t vy vx = px T s t vy vx:=by
 unfold px
 split
 ·rfl
 ·rw [h _ rfl _ (by simp [bX,eL])]
 ·rw [h _ rfl _ (by simp [bX,eL])]
 ·cases py T t with
  | none=>rfl
  | some p=>simp only; rw [xf (h _ rfl)]
 ·rfl
theorem Bm{t : TypeId}{vx : Option AV}(h : ∀ v,vx = some v→∀ i∈bX v,look s2 i = look s i) : mP T s2 t vx = mP T s t vx:=by
 unfold mP
 split
 ·rw [h _ rfl _ (by simp [bX,eL])]
 ·rfl
theorem Bn{t : TypeId}{vx vy : Option AV}(h : ∀ v,vx = some v→∀ i∈bX v,look s2 i = look s i) : mQ T s2 t vx vy = mQ T s t vx vy:=by
 unfold mQ
 split
 ·rw [h _ rfl _ (by simp [bX,eL])]
 ·rw [h _ rfl _ (by simp [bX,eL])]
 ·rfl
theorem Bo{t : TypeId}{lo hi : Nat→Option Nat}{vx : Option AV}(h : ∀ v,vx = some v→∀ i∈bX v,look s2 i = look s i) : gb T s2 t lo hi vx = gb T s t lo hi vx:=by
 unfold gb
 split
 ·rfl
 ·rfl
 ·rw [h _ rfl _ (by simp [bX,eL])]
 ·rfl
end
theorem pz{st st2 : St}{k : Nat}{v : AV}(h : ∀ i∈bX v,look st2.sto i = look st.sto i) : fj st2 k v = fj st k v:=by
 unfold fj
 split
 ·rfl
 ·rfl
 ·rw [h _ (by simp [bX,eL])]
 ·rw [h _ (by simp [bX,eL])]
 ·rfl
theorem Ft{st st2 : St}{id : Nat}{t t2 : TypeId}{vx vy : Option AV}(h : ∀ v,vx = some v→∀ i∈bX v,look st2.sto i = look st.sto i)(h' : ∀ v,vy = some v→∀ i∈bX v,look st2.sto i = look st.sto i) :
  tx T st2 id t t2 vx vy = tx T st id t t2 vx vy:=by
 unfold tx
 split
 ·rw [h _ rfl _ (by simp [bX,eL])]
  simp only [pz (h' _ rfl)]
 ·simp only [pz (h' _ rfl)]
 ·rfl
theorem sD{st st2 : St}{k : Nat} : ∀ {parts : List (Nat×Operand)} {i : Nat},(∀ p∈parts,ev st2 p.2 = ev st p.2)→dM st2 k i parts = dM st k i parts
 | [],_,_=>rfl
 | (j,x)::r,i,h=>by
   have h1:=h (j,x) List.mem_cons_self
   have ih : ∀ {i},dM st2 k i r = dM st k i r:=fun {i}=>sD fun p hp=>h p (List.mem_cons_of_mem _ hp)
   simp only at h1
   simp only [dM,h1,ih]
theorem jy{st st2 : St} : ∀ {l : List Operand},(∀ x∈l,ev st2 x = ev st x)→evL st2 l = evL st l
 | [],_=>rfl
 | x::r,h=>by
   simp only [evL,h x List.mem_cons_self,jy (l:=r) fun y hy=>h y (List.mem_cons_of_mem _ hy)]
theorem xg{st st2 : St}{o : Option Operand}(h : ∀ x,o = some x→ev st2 x = ev st x) : ga st2 o = ga st o:=by
 funext d
 unfold ga
 cases o with
 | none=>rfl
 | some x=>simp only [h x rfl]
theorem Bp{st st2 : St}{op : Op}{id : Nat}(hs : ∀ t,t∈gO op→look st2.fr t = look st.fr t)(hi : ∀ i,i∈cj st op.operands.toList→look st2.sto i = look st.sto i) : cD T st2 id op = cD T st id op:=by
 have he : ∀ {x : Operand},x∈op.operands.toList→ev st2 x = ev st x:=fun hx=>eQ hs hx
 have hid : ∀ {x : Operand},x∈op.operands.toList→∀ v,ev st x = some v→∀ i,i∈bX v→look st2.sto i = look st.sto i:=fun hx v hv i h=>hi i (jJ hv h hx)
 unfold cD
 split
 ·rename_i x y z
  rw [he (x:=x) (by simp [Op.operands])]
  split
  ·rename_i b _
   rw [he (by cases b <;> simp [Op.operands])]
  ·rfl
 ·rename_i t x y
  rw [he (x:=x) (by simp [Op.operands]),he (x:=y) (by simp [Op.operands]),Fs (hid (x:=x) (by simp [Op.operands]))]
 ·rename_i t x y
  rw [he (x:=x) (by simp [Op.operands]),he (x:=y) (by simp [Op.operands])]
 ·rename_i t x
  rw [he (x:=x) (by simp [Op.operands]),Bm (hid (x:=x) (by simp [Op.operands]))]
 ·rename_i t x lo hi'
  have h1 : ga st2 lo = ga st lo:=xg fun y hy=>he (by subst hy; simp [Op.operands])
  have h2 : ga st2 hi' = ga st hi':=xg fun y hy=>he (by subst hy; cases lo <;> simp [Op.operands])
  rw [he (x:=x) (by simp [Op.operands]),h1,h2,Bo (hid (x:=x) (by simp [Op.operands]))]
 ·rename_i x y t t2
  rw [he (x:=x) (by simp [Op.operands,Call.operands]),he (x:=y) (by simp [Op.operands,Call.operands]),Ft (hid (x:=x) (by simp [Op.operands,Call.operands])) (hid (x:=y) (by simp [Op.operands,Call.operands]))]
 ·rename_i f caps
  have : evL st2 caps.toList = evL st caps.toList:=jy fun x hx=>he (by
   simp [Op.operands]
   simpa using hx)
  rw [this]
 ·rfl
theorem Fu{st st2 : St}{op : Op}{id : Nat}(hs : ∀ t,t∈gO op→look st2.fr t = look st.fr t) : lY T st2 id op = lY T st id op:=by
 have he : ∀ {x : Operand},x∈op.operands.toList→ev st2 x = ev st x:=fun hx=>eQ hs hx
 unfold lY
 split
 ·rfl
 ·rename_i t x
  rw [he (x:=x) (by simp [Op.operands])]
 ·rename_i t n parts
  have : ∀ {k},dM st2 k 0 parts.toList = dM st k 0 parts.toList:=fun {k}=>sD fun p hp=>he (by
   simp only [Op.operands,List.mem_map]
   simp
   exact ⟨p.1,by simpa using hp⟩)
  simp only [this]
 ·rename_i t x y
  rw [he (x:=x) (by simp [Op.operands]),he (x:=y) (by simp [Op.operands])]
 ·rfl
theorem Ds{st st2 : St}{o : Oper}{id : Nat}(hs : ∀ t,t∈gO o.op→look st2.fr t = look st.fr t)(hi : ∀ i,i∈cj st o.op.operands.toList→look st2.sto i = look st.sto i) : cT T st2 o id = cT T st o id:=by
 unfold cT
 rw [Fv hs hi,Bp hs hi,Fu hs]
 split
 ·rfl
 split
 ·rfl
 congr 1
 split
 ·rename_i t x y ho
  have he : ∀ {x : Operand},x∈o.op.operands.toList→ev st2 x = ev st x:=fun hx=>eQ hs hx
  have hid : ∀ {x : Operand},x∈o.op.operands.toList→∀ v,ev st x = some v→∀ i,i∈bX v→look st2.sto i = look st.sto i:=fun hx v hv i h=>hi i (jJ hv h hx)
  rw [ho] at he hid
  rw [he (x:=x) (by simp [Op.operands]),he (x:=y) (by simp [Op.operands]),Bn (hid (x:=x) (by simp [Op.operands]))]
 ·rfl
end Go.Abs
namespace Go.Abs
open Go
variable {P : Program} {c : Ctx} {T : Tab} {σ : Sig} {φ : Pl} {w : World}
def sealL(st : St) : List Nat→Option St
 | []=>some st
 | id::r=>match look st.sto id with
   | some o=>bif kO o then sealL ⟨iB id o st.fr,bA id o st.sto⟩ r else none
   | none=>none
def dU : List Nat→Sto→Sto
 | [],s=>s
 | i::l,s=>del i (dU l s)
theorem jU{dl : List Nat}{s : Sto}{i : Nat}{o : AObj} : look (dU dl s) i = some o→look s i = some o∧i ∉ dl:=by
 induction dl with
 | nil=>intro h; exact ⟨h,by simp⟩
 | cons j r ih =>
   intro h
   obtain ⟨h1,h2⟩:=dt h
   obtain ⟨h3,h4⟩:=ih h2
   exact ⟨h3,by simp [h1,h4]⟩
theorem xo{dl : List Nat}{s : Sto}{i : Nat}(hi : i ∉ dl) : look (dU dl s) i = look s i:=by
 induction dl with
 | nil=>rfl
 | cons j r ih =>
   simp only [List.mem_cons,not_or] at hi
   simp only [dU]
   rw [ef hi.1,ih hi.2]
theorem FO{dl : List Nat}{s : Sto}{i : Nat}(hi : i∈dl) : look (dU dl s) i = none:=by
 cases h : look (dU dl s) i with
 | none=>rfl
 | some o=>exact absurd hi (jU h).2
theorem Rel.sealL : ∀ {dl : List Nat} {st ss : St} {a : Act} {σ : Sig},sealL st dl = some ss→Rel c st a w σ φ →
  ∃ σs,σ.le σs∧Rel c ss a w σs φ∧∀ b,σs b = σ b∨∃ id o cc,id∈dl∧look st.sto id = some o∧φ id = some (b,cc)
 | [],st,ss,a,σ,h,hr=>by
   simp only [Go.Abs.sealL,Option.some.injEq] at h; subst h
   exact ⟨σ,Sig.le_refl _,hr,fun _=>.inl rfl⟩
 | id::r,st,ss,a,σ,h,hr=>by
   simp only [Go.Abs.sealL] at h
   split at h <;> (try (simp at h; done))
   rename_i o hl
   cases hc : kO o <;> simp only [hc,cond_true,cond_false,reduceCtorEq] at h
   obtain ⟨σ',hS⟩:=hr.inv.sealSig hl hc
   have hle:=hS.le
   have hr' : Rel c ⟨iB id o st.fr,bA id o st.sto⟩ a w σ' φ:=by
    refine ⟨Sig.le_trans hr.le hle,fun b hb=>?_,hr.inv.sealing hl hS,fun i e p hi hp=>?_,fun s v hv=>?_,hr.defers,hr.size,hr.fra,hr.pin⟩
    ·rcases hS with ⟨_,rfl⟩ | ⟨B,cap,arr,t,hp,hh,hs,rfl⟩
     ·exact hr.fresh b hb
     ·by_cases e : b = B
      ·subst e
       exact .inr (hr.mine _ _ _ hl hp)
      ·simp [gd,e] at hb; exact hr.fresh b hb
    ·obtain ⟨_,e0,h0,_⟩:=dL hi
     exact hr.mine _ _ _ h0 hp
    ·obtain ⟨v0,h1,rfl⟩:=nX hv
     obtain ⟨u,h2,h3⟩:=hr.slot s v0 h1
     exact ⟨u,h2,xd hr.inv hl hS h3⟩
   obtain ⟨σs,h1,h2,h3⟩:=Rel.sealL h hr'
   refine ⟨σs,Sig.le_trans hle h1,h2,fun b=>?_⟩
   rcases h3 b with h4 | ⟨i,o',cc,h5,h6,h7⟩
   ·rcases hS with ⟨_,rfl⟩ | ⟨B,cap,arr,t,hp,hh,hs,rfl⟩
    ·exact .inl h4
    ·by_cases e : b = B
     ·subst e; exact .inr ⟨id,o,cap,by simp,hl,hp⟩
     ·exact .inl (h4.trans (by simp [gd,e]))
   ·obtain ⟨_,e0,h8,_⟩:=dL h6
    exact .inr ⟨i,e0,cc,by simp [h5],h8,h7⟩
theorem Rel.given{dl : List Nat}{st ss : St}{a : Act}(h : Go.Abs.sealL st dl = some ss)(hr : Rel c st a w σ φ) : ∃ σs,Rel c ss a w σs φ∧Rel c ⟨st.fr,dU dl st.sto⟩ a w σs φ:=by
 obtain ⟨σs,hle,hrs,hb⟩:=Rel.sealL h hr
 have hE : Ext (fun _=>False) φ φ st.sto (dU dl st.sto):=by
  intro i _
  by_cases hi : i∈dl
  ·exact .inl (FO hi)
  ·cases hl : look st.sto i with
   | none=>exact .inl (by rw [xo hi]; exact hl)
   | some e=>exact .inr ⟨e,rfl,rfl,e,by rw [xo hi]; exact hl,compat.refl _⟩
 refine ⟨σs,hrs,hrs.le,hrs.fresh,⟨hrs.inv.sig,fun i e hi=>?_,fun i i' e e' p p' hi hi'=>?_⟩,fun i e p hi hp=>?_,fun s v hv=>?_,hr.defers,hr.size,hr.fra,hr.pin⟩
 ·obtain ⟨h1,h2⟩:=jU hi
  have ho:=hr.inv.obj _ _ h1
  refine ho.ext (X:=fun _=>False) hle hE (fun j hj=>hj.elim) rfl fun B cc hB=>⟨rfl,?_⟩
  rcases hb B with h3 | ⟨j,o,cc',h4,h5,h6⟩
  ·exact h3
  ·have:=hr.inv.inj _ _ _ _ (B,cc) (B,cc') h1 h5 (fun e=>h2 (e ▸ h4)) hB h6
   exact absurd rfl this
 ·exact hr.inv.inj _ _ _ _ _ _ (jU hi).1 (jU hi').1
 ·exact hr.mine _ _ _ (jU hi).1 hp
 ·obtain ⟨u,hu,hru⟩:=hr.slot s v hv
  exact ⟨u,hu,hru.ext hle hE fun j hj=>hj.elim⟩
theorem di{st : St}{r : Nat→Nat} : ∀ {l : Sto},CompatL st r [] l
 | []=>trivial
 | _::l=>⟨fun i e h=>by simp [look] at h,di⟩
theorem xp : ∀ {ds : List D},cw (ds.map fun x=>AV.one (.d x)) = true
 | []=>rfl
 | _::l=>by simp only [List.map_cons,cw,avD,xp (ds:=l),Bool.and_self]
theorem zH : ∀ {a b : List AV},cw a = true→cw b = true→cw (a ++ b) = true
 | [],_,_,h=>h
 | x::l,b,h,h'=>by
   simp only [cw,Bool.and_eq_true] at h
   simp only [List.cons_append,cw,h.1,zH h.2 h',Bool.and_self]
theorem lx{ops : Array Oper}{o : Oper}{rest : List Oper}{st ss : St}{K : St→Prop}{fop : Operand}{args : Array Operand}{ats : Array TypeId}{f : FuncId}{caps : List D}{avs : List AV}{rav : AV}{rsto : Sto}(k : Nat)(dl : List Nat)
  (ho : o.op = .call { callee:=.value fop,args:=args,argTypes:=ats }) (hg : o.guard = none) (hd : aU c.n o.dst = true) (hss : sealL st dl = some ss) (hf : ev ss fop = some (.one (.d (.fn f caps))))
  (ha : evL ss args.toList = some avs) (hD : cw avs = true) (hC : CallA P f (avs ++ caps.map fun x=>.one (.d x)) [] rav rsto)
  (hk : (cA [] rsto && Nat.ble (k + 16) 1000000 && c7 rsto rav && bm rsto rsto) = true) (hfresh : kr k ⟨st.fr,dU dl st.sto⟩)
  (h : ae P c ops rest ⟨bt o.dst (dD (rn k []) rav) st.fr,dO (rn k []) (dU dl st.sto) rsto⟩ K) : ae P c ops (o::rest) st K:=by
 refine lz hg fun a w σ φ hr=>?_
 obtain ⟨σs,hs,hr1⟩:=hr.given hss
 have hfr:=aI hs hf
 replace hfr:=RepC.d_inv hfr
 generalize hfe : a.eval fop = fv at hfr
 simp only [Bool.and_eq_true] at hk
 cases hfr with
 | fn cvs hl hcs =>
   have hcaps : All2 (RepV σs φ (dU dl st.sto)) (caps.map fun x=>.one (.d x)) cvs:=by
    refine All2.of_get (by simp [hl]) fun j x v hx hv=>?_
    simp only [List.getElem?_map,Option.map_eq_some_iff] at hx
    obtain ⟨d,hd,rfl⟩:=hx
    exact RepC.d (hcs j d v hd hv)
   have hargs:=tE (σ':=σs) (φ':=φ) (sto':=dU dl st.sto) (Sig.le_refl _) hD (gQ hs ha)
   refine ⟨f,_,_,pH ho hfe hC.fn,zI (o:=o) k [] hr1 hd hC (by rw [tF,nE,FP hD]; exact hargs.append hcaps) trivial di ?_ hfresh,?_⟩
   ·simp only [fG,iZ,gu,fV,bm,Bool.true_and,Bool.and_true,hk.1.1.1,hk.1.1.2,hk.1.2,hk.2,B0 (zH hD xp)]
   rintro e w' ⟨v,σ',φ',rfl,hr'⟩
   exact ⟨v,_,σ',φ',rfl,hr',h⟩
def vA(r : Nat→Nat) : Sto→List (Nat×Option AObj)
 | []=>[]
 | (j,o)::l=>(r j,some (cG r o))::vA r l
def pf : List Nat→List (Nat×Option AObj)
 | []=>[]
 | i::l=>(i,none)::pf l
theorem kH{s : Sto} : ∀ {dl : List Nat},cM (pf dl) s = dU dl s
 | []=>rfl
 | i::l=>by simp only [pf,cM,dU,kH (dl:=l)]
theorem kG{r : Nat→Nat}{s : Sto}{d : List (Nat×Option AObj)} : ∀ {rs : Sto},cM (vA r rs ++ d) s = dO r (cM d s) rs
 | []=>rfl
 | (j,o)::l=>by simp only [vA,List.cons_append,cM,dO,kG (rs:=l)]
def rng(k : Nat) : Nat→List Nat
 | 0=>[]
 | n + 1=>(k + n)::rng k n
theorem rng_mem{k i : Nat} : ∀ {n : Nat},i∈rng k n↔k≤i∧i < k + n
 | 0=>by simp only [rng,List.not_mem_nil,false_iff]; omega
 | n + 1=>by simp only [rng,List.mem_cons,rng_mem (n:=n)]; omega
def lF(k : Nat)(dl ri : List Nat)(rav : AV)(rsto : Sto) : Tr:=⟨dD (rn k []) rav,vA (rn k []) rsto ++ pf dl,ri,rng k 16⟩
theorem nZ{i : Nat}{s : Sto}(h : aR i s = false) : ∀ {dl : List Nat},aR i (dU dl s) = false
 | []=>h
 | _::l=>mg (nZ h (dl:=l))
theorem xq{o : Oper}{st : St}{fop : Operand}{args : Array Operand}{ats : Array TypeId}{f : FuncId}{caps : List D}{avs : List AV}{rav : AV}{rsto : Sto}(k : Nat)
  (ho : o.op = .call { callee:=.value fop,args:=args,argTypes:=ats }) (hd : aU c.n o.dst = true) (hf : ev st fop = some (.one (.d (.fn f caps))))
  (ha : evL st args.toList = some avs) (hD : cw avs = true) (hC : CallA P f (avs ++ caps.map fun x=>.one (.d x)) [] rav rsto)
  (hk : (cA [] rsto && Nat.ble (k + 16) 1000000 && c7 rsto rav && bm rsto rsto) = true) : Loc P c o st (lF k [] [] rav rsto):=by
 intro st2 hs hri hnew ops rest K h
 have he : ∀ {x : Operand},x∈o.op.operands.toList→ev st2 x = ev st x:=fun hx=>eQ hs hx
 rw [ho] at he
 have ha2 : evL st2 args.toList = some avs:=(jy fun x hx=>he (by simp [Op.operands,Call.operands]; exact .inr (by simpa using hx))).trans ha
 refine lx (o:={ o with guard:=none }) k [] ho rfl hd rfl ((he (by simp [Op.operands,Call.operands])).trans hf) ha2 hD hC hk (fun i h1 h2=>?_) ?_
 ·exact hnew i (rng_mem.2 ⟨h1,h2⟩)
 ·simp only [lF,pf,List.append_nil] at h
  have:=kG (r:=rn k []) (s:=st2.sto) (d:=[]) (rs:=rsto)
  simp only [List.append_nil] at this
  rw [this] at h
  exact h
def dI(s : Sto) : List Nat→Option (List (Nat×AObj))
 | []=>some []
 | id::r=>match look s id with
   | some o=>bif kO o then (match dI (bA id o s) r with | some l=>some ((id,o)::l) | none=>none) else none
   | none=>none
def FQ : List (Nat×AObj)→AV→AV
 | [],v=>v
 | (id,o)::r,v=>FQ r (uq id o v)
def evS(os : List (Nat×AObj))(st : St)(x : Operand) : Option AV:=match ev st x with | some v=>some (FQ os v) | none=>none
def kI(os : List (Nat×AObj))(st : St) : List Operand→Option (List AV)
 | []=>some []
 | x::r=>match evS os st x with
   | some v=>(match kI os st r with | some l=>some (v::l) | none=>none)
   | none=>none
theorem oL{id : Nat}{o : AObj} : ∀ {fr : List (Nat×AV)} {s : Nat},look (iB id o fr) s = match look fr s with | some v=>some (uq id o v) | none=>none
 | [],_=>rfl
 | (t,v)::l,s=>by
   simp only [iB,look]
   cases Nat.beq t s with
   | true=>rfl
   | false=>simp only [cond_false]; exact oL
theorem iM : ∀ {dl : List Nat} {st : St} {os : List (Nat×AObj)},dI st.sto dl = some os→∃ ss,sealL st dl = some ss∧∀ x,ev ss x = evS os st x
 | [],st,os,h=>by
   simp only [dI,Option.some.injEq] at h; subst h
   refine ⟨st,rfl,fun x=>?_⟩
   unfold evS
   cases ev st x <;> rfl
 | id::r,st,os,h=>by
   simp only [dI] at h
   split at h <;> (try (simp at h; done))
   rename_i o hl
   cases hc : kO o <;> simp only [hc,cond_true,cond_false,reduceCtorEq] at h
   split at h <;> simp at h
   rename_i l hr
   subst h
   obtain ⟨ss,h1,h2⟩:=iM (st:=⟨iB id o st.fr,bA id o st.sto⟩) hr
   refine ⟨ss,by simp only [sealL,hl,hc,cond_true]; exact h1,fun x=>?_⟩
   rw [h2]
   cases x with
   | tmp t =>
     simp only [evS,ev]
     rw [oL]
     cases look st.fr t <;> rfl
   | const v =>
     simp only [evS,ev]
     cases cst v <;> rfl
   | func f=>rfl
   | global g=>rfl
theorem mF{os : List (Nat×AObj)}{st ss : St}(h : ∀ x,ev ss x = evS os st x) : ∀ {l : List Operand},evL ss l = kI os st l
 | []=>rfl
 | x::r=>by simp only [evL,kI,h x,mF h (l:=r)] <;> rfl
theorem nF{id : Nat}{o : AObj}{s : Sto}{i : Nat}(hi : i≠id) : look (bA id o s) i = match look s i with | some e=>some (pt id o e) | none=>none:=by
 cases hl : look s i with
 | none=>exact l5 hl
 | some e=>exact gZ hi hl
theorem l6{id : Nat}{o : AObj}{s : Sto} : look (bA id o s) id = none:=by
 cases hl : look (bA id o s) id with
 | none=>rfl
 | some e=>exact absurd rfl (dL hl).1
theorem ka : ∀ {dl : List Nat} {s s2 : Sto},(∀ i∈dl,look s2 i = look s i)→dI s2 dl = dI s dl
 | [],_,_,_=>rfl
 | id::r,s,s2,h=>by
   simp only [dI]
   rw [h id List.mem_cons_self]
   cases hl : look s id with
   | none=>rfl
   | some o =>
     simp only
     have : dI (bA id o s2) r = dI (bA id o s) r:=ka fun i hi=>by
      by_cases e : i = id
      ·subst e; rw [l6,l6]
      ·rw [nF e,nF e,h i (List.mem_cons_of_mem _ hi)]
     rw [this]
theorem np{os : List (Nat×AObj)}{st st2 : St} : ∀ {l : List Operand},(∀ x∈l,ev st2 x = ev st x)→kI os st2 l = kI os st l
 | [],_=>rfl
 | x::r,h=>by
   simp only [kI,evS,h x List.mem_cons_self,np (l:=r) fun y hy=>h y (List.mem_cons_of_mem _ hy)]
theorem wW{o : Oper}{st : St}{fop : Operand}{args : Array Operand}{ats : Array TypeId}{f : FuncId}{caps : List D}{avs : List AV}{rav : AV}{rsto : Sto}{os : List (Nat×AObj)}(k : Nat)(dl : List Nat)
  (ho : o.op = .call { callee:=.value fop,args:=args,argTypes:=ats }) (hd : aU c.n o.dst = true) (hos : dI st.sto dl = some os) (hf : evS os st fop = some (.one (.d (.fn f caps))))
  (ha : kI os st args.toList = some avs) (hD : cw avs = true) (hC : CallA P f (avs ++ caps.map fun x=>.one (.d x)) [] rav rsto)
  (hk : (cA [] rsto && Nat.ble (k + 16) 1000000 && c7 rsto rav && bm rsto rsto) = true) : Loc P c o st (lF k dl dl rav rsto):=by
 intro st2 hs hri hnew ops rest K h
 have he : ∀ {x : Operand},x∈o.op.operands.toList→ev st2 x = ev st x:=fun hx=>eQ hs hx
 rw [ho] at he
 have hos2 : dI st2.sto dl = some os:=(ka hri).trans hos
 obtain ⟨ss,h1,h2⟩:=iM hos2
 have ha2 : evL ss args.toList = some avs:=by
  rw [mF h2,np (st:=st) fun x hx=>he (by simp [Op.operands,Call.operands]; exact .inr (by simpa using hx))]
  exact ha
 have hf2 : ev ss fop = some (.one (.d (.fn f caps))):=by
  rw [h2]
  unfold evS
  rw [he (x:=fop) (by simp [Op.operands,Call.operands])]
  exact hf
 refine lx (o:={ o with guard:=none }) k dl ho rfl hd h1 hf2 ha2 hD hC hk (fun i h3 h4=>?_) ?_
 ·obtain ⟨n1,n2,n3⟩:=hnew i (rng_mem.2 ⟨h3,h4⟩)
  refine ⟨?_,n2,nZ n3⟩
  cases hl : look (dU dl st2.sto) i with
  | none=>rfl
  | some e=>rw [(jU hl).1] at n1; cases n1
 ·simp only [lF] at h
  rw [kG,kH] at h
  exact h
end Go.Abs
