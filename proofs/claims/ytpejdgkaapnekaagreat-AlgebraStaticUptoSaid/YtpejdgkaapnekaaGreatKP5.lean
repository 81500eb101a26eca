import Derived.Test.YtpejdgkaapnekaaGreatKP4
set_option linter.unusedVariables false
set_option linter.unusedSimpArgs false
set_option maxHeartbeats 1000000
namespace Go.Abs
open Go
variable {P:Program} {c:Ctx} {T:Tab} {σ:Sig} {φ:Pl} {w:World} {a:Act}
theorem RepC.cong{sto sto':Sto}(he:∀ i,look sto' i=look sto i){x:AC}{v:Value}(h:RepC σ φ sto x v):RepC σ φ sto' x v:=by
 cases h with
 | d h=>exact .d h
 | ownNil h hp=>exact .ownNil ((he _).trans h) hp
 | own h hn hp=>exact .own ((he _).trans h) hn hp
 | sub h hn hc hA=>exact .sub ((he _).trans h) hn hc hA
 | ref h hp=>exact .ref ((he _).trans h) hp
 | rref h hp=>exact .rref ((he _).trans h) hp
 | yl h hp=>exact .yl ((he _).trans h) hp
 | mapr h hp=>exact .mapr ((he _).trans h) hp
 | bsl h hp=>exact .bsl ((he _).trans h) hp
 | junk h=>exact .junk h
 | dead hx h =>
   refine .dead ?_ h
   cases x<;>simp[bY,bw,he] at hx ⊢<;>exact hx
theorem Ext.cong{sto sto':Sto}(he:∀ i,look sto' i=look sto i):Ext (fun _=>False) φ φ sto sto':=by
 intro id _
 cases h:look sto id with
 | none=>exact .inl ((he id).trans h)
 | some e=>exact .inr ⟨e,rfl,rfl,e,(he id).trans h,compat.refl _⟩
theorem RepV.cong{sto sto':Sto}(he:∀ i,look sto' i=look sto i){x:AV}{v:Value}(h:RepV σ φ sto x v):RepV σ φ sto' x v :=
 h.ext (X:=fun _=>False) (Sig.le_refl _) (Ext.cong he) (fun _ h=>h.elim)
theorem Rel.cong{st st':St}(h:Rel c st a w σ φ)(hf:∀ t,look st'.fr t=look st.fr t)(hs:∀ i,look st'.sto i=look st.sto i):Rel c st' a w σ φ:=by
 refine⟨h.le,h.fresh,⟨h.inv.sig,fun id e hi=>?_,fun i i' e e' p p' hi hi'=>h.inv.inj _ _ _ _ _ _ ((hs _).symm.trans hi) ((hs _).symm.trans hi')⟩,fun id e p hi=>h.mine _ _ _ ((hs _).symm.trans hi),fun s v hv=>?_,h.defers,h.size,h.fra,h.pin⟩
 ·exact (h.inv.obj _ _ ((hs _).symm.trans hi)).ext (X:=fun _=>False) (Sig.le_refl _) (Ext.cong hs) (fun _ h=>h.elim) rfl fun _ _ _=>⟨rfl,rfl⟩
 ·obtain⟨u,h1,h2⟩:=h.slot s v ((hf s).symm.trans hv)
  exact⟨u,h1,h2.cong hs⟩
theorem Rel.drew{st:St}(h:Rel c st a w σ φ)(d:Nat)(hd:w.drawn≤d):Rel c st a { w with drawn:=d } σ φ :=
 ⟨h.le,h.fresh,⟨h.inv.sig,fun id e hi=>by have:=h.inv.obj id e hi;cases e<;>exact this,h.inv.inj⟩,h.mine,h.slot,h.defers,h.size,⟨h.fra.os,h.fra.tape,h.fra.output,h.fra.size,Xg h.fra.drawn hd,h.fra.block⟩,h.pin⟩
theorem sD{acc:List Nat}{k:Nat}:∀ {l:List Edge},(rl acc l).testBit k=true→∃ e∈l,Region.binds .any e=true∧(e.on=k∨(acc.getD e.on 0).testBit k=true)
 | [],h=>by simp[rl] at h
 | e::r,h=>by
   simp only[rl] at h
   cases hb:Region.binds .any e with
   | false =>
     rw[hb] at h
     obtain⟨e',h1,h2⟩:=sD (l:=r) (by simpa using h)
     exact⟨e',Xa _ h1,h2⟩
   | true =>
     rw[hb,if_pos rfl] at h
     simp only[Nat.testBit_or,Xs] at h
     rcases h with (h|h)|h
     ·rw[Nat.testBit_two_pow] at h
      exact⟨e,Xd,hb,.inl (by simpa using h)⟩
     ·exact⟨e,Xd,hb,.inr h⟩
     ·obtain⟨e',h1,h2⟩:=sD h
      exact⟨e',Xa _ h1,h2⟩
theorem py:∀ {ops:List Oper} {i j:Nat} {o:Oper},lZ i ops=true→ops[j]?=some o→∀ e∈o.after.toList,Region.binds .any e=true→e.on<i+j
 | [],_,_,_,_,h=>by simp at h
 | x::r,i,0,o,hk,h=>fun e he hb=>by
   simp at h;subst h
   simp only[lZ,WX,XY] at hk
   have:=hk.1 e he
   simpa[hb] using this
 | x::r,i,j+1,o,hk,h=>fun e he hb=>by
   simp only[lZ,WX] at hk
   have:=py (j:=j) hk.2 (by simpa using h) e he hb
   omega
def mP(ops:List Oper)(L:Nat→Bool):Prop :=
 ∀ i o,ops[i]?=some o→L i=true→∀ e∈o.after.toList,Region.binds .any e=true→L e.on=true
theorem uf{ops0:List Oper}{L:Nat→Bool}(hL:mP ops0 L)(hE:lZ 0 ops0=true):∀ {ops:List Oper} {acc:List Nat},(∀ j,ops[j]?=ops0[acc.length+j]?) →
  (∀ i k,i<acc.length→(acc.getD i 0).testBit k=true→L i=true→L k=true)→∀ i k,i<acc.length+ops.length→((xQ ops acc).getD i 0).testBit k=true→L i=true→L k=true
 | [],acc,_,h=>by simpa[xQ] using h
 | o::r,acc,hops,h=>by
   intro i k hi hb hLi
   simp only[xQ] at hb
   refine uf hL hE (ops:=r) (acc:=acc++[rl acc o.after.toList]) (fun j=>?_) (fun i k hi hb hLi=>?_) i k (by simp at hi ⊢;omega) hb hLi
   ·have:=hops (j+1)
    simp only[W9,List.length_singleton]
    rw[show acc.length+1+j=acc.length+(j+1) by omega,← this];simp
   ·simp only[W9,List.length_singleton] at hi
    rcases XM i acc.length with hlt|hge
    ·rw[Xi,Xw hlt,← Xi] at hb
     exact h i k hlt hb hLi
    ·obtain rfl:i=acc.length:=by omega
     rw[Xi,Xy (Xc _)] at hb
     simp only[Nat.sub_self,List.getElem?_cons_zero,Option.getD_some] at hb
     obtain⟨e,he,hbd,hor⟩:=sD hb
     have ho:ops0[acc.length]?=some o:=by have:=hops 0;simpa using this.symm
     have hLe:=hL _ _ ho hLi e he hbd
     rcases hor with rfl|hor
     ·exact hLe
     ·have hlt:=py hE ho e he hbd
      exact h _ _ (by omega) hor hLe
theorem memB_iff{x:Nat}:∀ {l:List Nat},vk x l=true↔x∈l
 | []=>by simp[vk]
 | y::r=>by
   simp only[vk,Xs,Xo,memB_iff (l:=r)]
   constructor
   ·rintro (h|h)
    ·exact .inl (W4 h).symm
    ·exact .inr h
   ·rintro (h|h)
    ·exact .inl (by subst h;exact XN _)
    ·exact .inr h
theorem vn{x:Nat}:∀ {k l:List Nat},x∈k→x∈l→wC l k=true
 | [],_,h,_=>by simp at h
 | y::r,l,h,hl=>by
   simp only[wC,Xs]
   rcases Xo.1 h with rfl|h
   ·exact .inl (memB_iff.2 hl)
   ·exact .inr (vn h hl)
theorem mU{t:Nat}:∀ {wr:List (Nat×Option AObj)},jc wr t≠none→t∈oa wr
 | [],h=>by simp[jc] at h
 | (i,o)::r,h=>by
   simp only[jc] at h
   simp only[oa,Xo]
   by_cases e:i=t
   ·exact .inl e.symm
   ·rw[if_neg e] at h;exact .inr (mU h)
theorem vo{ops:List Oper}{anc:List Nat}{j:Nat}{oj:Oper}{tj:Tr}:∀ {l:List Oper} {ts:List Tr} {i n:Nat} {oi:Oper} {ti:Tr},xR ops anc j oj tj i l ts=true→l[n]?=some oi→ts[n]?=some ti→i+n≠j→As ops anc (i+n) j oi oj ti tj=true
 | [],_,_,_,_,_,_,h,_,_=>by simp at h
 | _::_,[],_,_,_,_,_,_,h,_=>by simp at h
 | o::r,t::ts,i,0,oi,ti,hk,h1,h2,hne=>by
   simp at h1 h2;subst h1;subst h2
   simp only[xR,WX,Xs] at hk
   rcases hk.1 with h|h
   ·exact absurd (W4 h) hne
   ·exact h
 | o::r,t::ts,i,n+1,oi,ti,hk,h1,h2,hne=>by
   simp only[xR,WX] at hk
   have:=vo (n:=n) hk.2 (by simpa using h1) (by simpa using h2) (by omega)
   rwa [show i+1+n=i+(n+1) by omega] at this
theorem rm{ops:List Oper}{trs:List Tr}{anc:List Nat}{st:St}:∀ {l:List Oper} {ts:List Tr} {j n:Nat} {oj:Oper} {tj:Tr},BH ops trs anc st j l ts=true→l[n]?=some oj→ts[n]?=some tj →
  xR ops anc (j+n) oj tj 0 ops trs=true∧∀ id∈tj.new,look st.sto id=none∧br id st.fr=false∧aN id st.sto=false
 | [],_,_,_,_,_,_,h,_=>by simp at h
 | _::_,[],_,_,_,_,_,_,h=>by simp at h
 | o::r,t::ts,j,0,oj,tj,hk,h1,h2=>by
   simp at h1 h2;subst h1;subst h2
   simp only[BH,WX,XY,Xe] at hk
   refine⟨hk.1.1,fun id hid=>?_⟩
   obtain⟨⟨h1,h2⟩,h3⟩:=hk.1.2 id hid
   refine⟨?_,h2,h3⟩
   cases hl:look st.sto id with
   | none=>rfl
   | some e=>simp[bw,hl] at h1
 | o::r,t::ts,j,n+1,oj,tj,hk,h1,h2=>by
   simp only[BH,WX] at hk
   have:=rm (n:=n) hk.2 (by simpa using h1) (by simpa using h2)
   rwa [show j+1+n=j+(n+1) by omega] at this
structure DrawGood (ops:List Oper) (trs:List Tr) (st0:St):Prop where
 len:trs.length=ops.length
 edges:lZ 0 ops=true
 /-- in conflict: one of the two waits for the other -/
 ord:∀ (L:Nat→Bool) (i j:Nat) (oi oj:Oper) (ti tj:Tr),mP ops L→ops[i]?=some oi→ops[j]?=some oj→trs[i]?=some ti→trs[j]?=some tj→i≠j→oW ops oi oj ti tj=true→(i<j→L j=true→L i=true)∧(j<i→L i=true→L j=true)
 new:∀ (L:Nat→Bool) (i j:Nat) (oi oj:Oper) (ti tj:Tr) (id:Nat),mP ops L→ops[i]?=some oi→ops[j]?=some oj→trs[i]?=some ti→trs[j]?=some tj→i≠j→id∈tj.new→BG ti id=true→j<i∧(L i=true→L j=true)
 fresh:∀ (j:Nat) (tj:Tr),trs[j]?=some tj→∀ id∈tj.new,look st0.sto id=none∧br id st0.fr=false∧aN id st0.sto=false
theorem Bj{ops:List Oper}{trs:List Tr}{st0:St}(hlen:trs.length=ops.length)(h:lU ops st0 trs=true):DrawGood ops trs st0:=by
 simp only[lU,WX] at h
 obtain⟨hE,hA⟩:=h
 have hcl:∀ {L:Nat→Bool},mP ops L→∀ i k,i<ops.length→((xQ ops []).getD i 0).testBit k=true→L i=true→L k=true:=fun {L} hL i k hi =>
  uf hL hE (ops:=ops) (acc:=[]) (by simp) (by simp) i k (by simpa using hi)
 have hlt:∀ {i:Nat} {o:Oper},ops[i]?=some o→i<ops.length:=fun h=>(W8.1 h).1
 refine⟨hlen,hE,fun L i j oi oj ti tj hL hi hj hti htj hne hc=>?_,fun L i j oi oj ti tj id hL hi hj hti htj hne hid hn=>?_,fun j tj htj id hid=>?_⟩
 ·have hr:=vo (n:=i) (rm (n:=j) hA hj htj).1 hi hti (by omega)
  simp only[Xp,As,WX,hc,Bool.not_true,Bool.false_or,Pg] at hr
  refine⟨fun hlt' hLj=>?_,fun hlt' hLi=>?_⟩
  ·rw[if_pos hlt'] at hr;exact hcl hL _ _ (hlt hj) hr.1 hLj
  ·rw[if_neg (by omega)] at hr;exact hcl hL _ _ (hlt hi) hr.1 hLi
 ·have hr:=vo (n:=i) (rm (n:=j) hA hj htj).1 hi hti (by omega)
  simp only[Xp,As,WX,XY] at hr
  have:=hr.2 id hid
  simp only[hn,Bool.not_true,Bool.false_or,WX,Yb] at this
  exact⟨this.1,fun hLi=>hcl hL _ _ (hlt hi) this.2 hLi⟩
 ·have hj:j<ops.length:=hlen ▸ (W8.1 htj).1
  exact (rm (n:=j) hA (Xf hj) htj).2 id hid
end Go.Abs
namespace Go.Abs
open Go
variable {P:Program} {c:Ctx} {T:Tab} {ops:List Oper} {trs:List Tr} {st0:St}
theorem uF{id i:Nat}{o:AObj}(ho:o.men id=false):∀ {s:Sto},aN id s=false→aN id (cD i o s)=false
 | [],_=>by simp[cD,aN,ho]
 | p::r,h=>by
   simp only[aN,XA] at h
   simp only[cD]
   cases Nat.beq p.1 i<;>simp only[Yf,Ye,aN,XA]
   ·exact⟨h.1,uF ho h.2⟩
   ·exact⟨ho,h.2⟩
theorem nt{id i:Nat}:∀ {s:Sto},aN id s=false→aN id (del i s)=false
 | [],_=>rfl
 | p::r,h=>by
   simp only[aN,XA] at h
   simp only[del]
   cases Nat.beq p.1 i<;>simp only[Yf,Ye,aN,XA]
   ·exact⟨h.1,nt h.2⟩
   ·exact nt h.2
theorem pM{id:Nat}:∀ {wr:List (Nat×Option AObj)} {s:Sto},tB id wr=false→aN id s=false→aN id (dh wr s)=false
 | [],_,_,h=>h
 | (i,some o)::r,s,hw,h=>by
   simp only[tB,XA] at hw
   exact uF hw.1 (pM hw.2 h)
 | (i,none)::r,s,hw,h=>nt (pM (by simpa[tB] using hw) h)
theorem Hb{id:Nat}{d:Option Nat}{v:AV}{fr:List (Nat×AV)}(hv:v.men id=false)(h:br id fr=false):br id (bI d v fr)=false:=by
 cases d with
 | none=>exact h
 | some d=>simp[bI,br,hv,h]
theorem Dm{L:Nat→Bool}{id:Nat}(h0:look st0.sto id=none∧br id st0.fr=false∧aN id st0.sto=false):∀ {m:Nat},(∀ i t,i<m→trs[i]?=some t→L i=true→BG t id=false) →
  look (Cs ops trs st0 L m).sto id=none∧br id (Cs ops trs st0 L m).fr=false∧aN id (Cs ops trs st0 L m).sto=false
 | 0,_=>h0
 | m+1,h=>by
   have ih:=Dm h0 (m:=m) fun i t hi=>h i t (by omega)
   simp only[Cs]
   cases ho:ops[m]? with
   | none=>exact ih
   | some o =>
     cases ht:trs[m]? with
     | none=>exact ih
     | some tr =>
       simp only
       cases hL:L m with
       | false=>exact ih
       | true =>
         have:=h m tr (by omega) ht hL
         simp only[BG,XA] at this
         simp only[if_true]
         refine⟨?_,Hb this.1.2 ih.2.1,pM this.2 ih.2.2⟩
         rw[fI]
         cases hw:jc tr.wr id with
         | none=>exact ih.1
         | some x =>
           have h1:=memB_iff.2 (mU (t:=id) (wr:=tr.wr) (by rw[hw];simp))
           rw[h1] at this;exact absurd this.1.1 (by simp)
theorem qU{L:Nat→Bool}{j:Nat}:∀ {m:Nat},j≤m→(∀ i,j≤i→i<m→L i=false)→Cs ops trs st0 L m=Cs ops trs st0 L j
 | 0,h,_=>by obtain rfl:j=0:=by omega
             rfl
 | m+1,h,hL=>by
   rcases XM j (m+1) with hlt|hge
   ·have ih:=qU (L:=L) (m:=m) (j:=j) (by omega) fun i h1 h2=>hL i h1 (by omega)
    have:=hL m (by omega) (by omega)
    simp only[Cs,this,XD,if_false]
    rw[← ih]
    split<;>rfl
   ·obtain rfl:j=m+1:=by omega
    rfl
def Sj(ops:List Oper)(trs:List Tr)(st0:St)(j:Nat):St:=Cs ops trs st0 (fun _=>true) j
theorem Sg{j m t:Nat}(h:j≤m):look (Sj ops trs st0 j).fr t=look (Cs ops trs st0 (fun i=>decide (i<j)) m).fr t:=by
 rw[qU (j:=j) h (fun i h1 _=>by simp;omega)]
 exact kb fun i o hi _ _=>by simp[hi]
theorem QF{j m t:Nat}(h:j≤m):look (Sj ops trs st0 j).sto t=look (Cs ops trs st0 (fun i=>decide (i<j)) m).sto t:=by
 rw[qU (j:=j) h (fun i h1 _=>by simp;omega)]
 exact jv fun i o hi _ _=>by simp[hi]
def Fact(P:Program)(c:Ctx)(opsA:Array Oper)(o:Oper)(tr:Tr)(st:St):Prop :=
 ∃ run:Bool,gl opsA st o run∧(run=true→Loc P c o st tr)∧(run=false→tr=Tr.none∧aX c.n o.dst=true)
def lq(L:Nat→Bool)(j:Nat):Nat→Bool:=fun i=>if i=j then true else L i
section
variable {opsA:Array Oper} {L:Nat→Bool} {j:Nat} {oj:Oper} {tj:Tr}
theorem ua(hL:mP ops L)(hj:ops[j]?=some oj)(hanc:∀ e∈oj.after.toList,Region.binds .any e=true→L e.on=true):mP ops (lq L j):=by
 intro i o hi hLi e he hb
 unfold lq at hLi ⊢
 split
 ·rfl
 ·by_cases hij:i=j
  ·subst hij;rw[hj] at hi;cases hi;exact hanc e he hb
  ·rw[if_neg hij] at hLi;exact hL i o hi hLi e he hb
theorem Dn{st st':St}{o:Oper}{run:Bool}(h:∀ t,t∈wA opsA.toList o→look st'.fr t=look st.fr t)(hg:gl opsA st o run):gl opsA st' o run:=by
 unfold gl at hg ⊢
 unfold wA at h
 cases hgd:o.guard with
 | none=>simpa[hgd] using hg
 | some gw =>
   obtain⟨g,want⟩:=gw
   simp only[hgd] at hg h ⊢
   obtain⟨b,hb,hr⟩:=hg
   refine⟨b,?_,hr⟩
   unfold gQ at hb ⊢
   cases hn:nth opsA.toList g with
   | none=>simp[hn] at hb
   | some og =>
     simp only[hn] at hb h ⊢
     cases hd:og.dst with
     | none=>simp[hd] at hb
     | some d =>
       simp only[hd] at hb h ⊢
       rw[h d (by simp)]
       exact hb
theorem J3(G:DrawGood opsA.toList trs st0)(hL:mP opsA.toList L)(hj:opsA.toList[j]?=some oj)(htj:trs[j]?=some tj)(hnL:L j=false)
  (hanc:∀ e∈oj.after.toList,Region.binds .any e=true→L e.on=true) (hF:Fact P c opsA oj tj (Sj opsA.toList trs st0 j)) {m:Nat} (hm:opsA.toList.length=m) {a:Act} {w:World} {σ:Sig} {φ:Pl}
  (hr:Rel c (Cs opsA.toList trs st0 L m) a w σ φ) {Q:Exit→Act→World→Prop} {K:Act→World→Prop}
  (hK:∀ a' w' σ' φ',Rel c (Cs opsA.toList trs st0 (lq L j) m) a' w' σ' φ'→K a' w'):wpOpIn (fnc c) 0 P opsA Q j K a w:=by
 have hjm:j<m:=by have:=(W8.1 hj).1;omega
 have hL':=ua hL hj hanc
 have hlk:∀ i,i≠j→lq L j i=L i:=fun i hi=>by simp[lq,hi]
 have htr:∀ i,i<m→∃ t,trs[i]?=some t:=fun i hi=>⟨_,Xf (by rw[G.len];omega)⟩
 have hop:∀ {i:Nat} {t:Tr},trs[i]?=some t→∃ o,opsA.toList[i]?=some o:=fun {i t} h=>⟨_,Xf (by have:=(W8.1 h).1;rw[G.len] at this;omega)⟩
 have hconf:∀ {i:Nat} {oi:Oper} {ti:Tr},opsA.toList[i]?=some oi→trs[i]?=some ti→i≠j→oW opsA.toList oi oj ti tj=true→L i=decide (i<j):=by
  intro i oi ti hi hti hij hc
  rcases XM i j with h|h
  ·have:=(G.ord _ i j oi oj ti tj hL' hi hj hti htj hij hc).1 h (by simp[lq])
   rw[hlk i hij] at this
   simp[this,h]
  ·have:=(G.ord _ i j oi oj ti tj hL hi hj hti htj hij hc).2 (by omega)
   have hn:¬ i<j:=by omega
   cases hb:L i with
   | false=>simp[hn]
   | true=>rw[this hb] at hnL;cases hnL
 have hconfS:∀ {i:Nat} {oi:Oper} {ti:Tr},j<i→opsA.toList[i]?=some oi→trs[i]?=some ti→oW opsA.toList oi oj ti tj=true→lq L j i=false:=by
  intro i oi ti hji hi hti hc
  rw[hlk i (by omega),hconf hi hti (by omega) hc]
  simp;omega
 -- what it looks at
 have hsl:∀ t,(tC (some t) (iS oj.op)=true∨tC (some t) (wA opsA.toList oj)=true)→look (Cs opsA.toList trs st0 L m).fr t=look (Sj opsA.toList trs st0 j).fr t:=by
  intro t ht
  rw[Sg (Nat.le_of_lt hjm)]
  refine kb fun i o hi ho hd=>?_
  by_cases hij:i=j
  ·subst hij;simp[hnL]
  ·obtain⟨ti,hti⟩:=htr i hi
   refine hconf ho hti hij ?_
   simp only[oW,hd,Xs]
   rcases ht with h|h
   ·exact .inl (.inl (.inl (.inl h)))
   ·exact .inl (.inl (.inl (.inr h)))
 have hri:∀ i,i∈tj.ri→look (Cs opsA.toList trs st0 L m).sto i=look (Sj opsA.toList trs st0 j).sto i:=by
  intro id hid
  rw[QF (Nat.le_of_lt hjm)]
  refine jv fun i t hi ht hw=>?_
  by_cases hij:i=j
  ·subst hij;simp[hnL]
  ·obtain⟨o,ho⟩:=hop ht
   refine hconf ho ht hij ?_
   simp only[oW,Xs]
   exact .inl (.inr (vn hid (mU hw)))
 have hnew:∀ id,id∈tj.new→look (Cs opsA.toList trs st0 L m).sto id=none∧br id (Cs opsA.toList trs st0 L m).fr=false∧aN id (Cs opsA.toList trs st0 L m).sto=false:=by
  intro id hid
  refine Dm (G.fresh j tj htj id hid) fun i t hi ht hLi=>?_
  cases hb:BG t id with
  | false=>rfl
  | true =>
    obtain⟨o,ho⟩:=hop ht
    have hij:i≠j:=by rintro rfl;rw[hnL] at hLi;cases hLi
    have:=(G.new L i j o oj t tj id hL ho hj ht htj hij hid hb).2 hLi
    rw[this] at hnL;cases hnL
 have hg:=fun t (ht:t∈wA opsA.toList oj)=>hsl t (.inr (by simpa[tC] using memB_iff.2 ht))
 -- what it leaves
 have hafter:∀ a' w' σ' φ',Rel c ⟨bI oj.dst tj.v (Cs opsA.toList trs st0 L m).fr,dh tj.wr (Cs opsA.toList trs st0 L m).sto⟩ a' w' σ' φ'→K a' w':=by
  intro a' w' σ' φ' h
  refine hK a' w' σ' φ' (h.cong (fun t=>?_) (fun id=>?_))
  ·rw[jy]
   by_cases hd:oj.dst=some t
   ·rw[if_pos hd]
    refine wD hj htj (by simp[lq]) hd hjm fun i o hji hi ho hdo=>?_
    obtain⟨ti,hti⟩:=htr i hi
    refine hconfS hji ho hti ?_
    simp[oW,hdo,hd,LP]
   ·rw[if_neg hd]
    refine kb fun i o hi ho hdo=>?_
    by_cases hij:i=j
    ·subst hij;rw[hj] at ho;cases ho;exact absurd hdo hd
    ·exact hlk i hij
  ·rw[fI]
   cases hw:jc tj.wr id with
   | some x =>
     refine ud hj htj (by simp[lq]) hw hjm fun i t hji hi ht hwi=>?_
     obtain⟨o,ho⟩:=hop ht
     refine hconfS hji ho ht ?_
     simp only[oW,Xs]
     exact .inr (vn (mU (t:=id) (wr:=tj.wr) (by rw[hw];simp)) (mU hwi))
   | none =>
     refine jv fun i t hi ht hwi=>?_
     by_cases hij:i=j
     ·subst hij;rw[htj] at ht;cases ht;exact absurd hw hwi
     ·exact hlk i hij
 obtain⟨run,hgd,h1,h2⟩:=hF
 have hgd':=Dn hg hgd
 have hjA:opsA[j]?=some oj:=by rw[← XP];exact hj
 unfold wpOpIn
 simp only[hjA]
 have hwant:Region.wanted oj (yielded opsA a.tmps)=run:=by
  unfold gl at hgd'
  unfold Region.wanted
  cases hgo:oj.guard with
  | none=>simp only[hgo] at hgd' ⊢;exact hgd'.symm
  | some gw =>
    obtain⟨g,want⟩:=gw
    simp only[hgo] at hgd' ⊢
    obtain⟨b,hb,hrb⟩:=hgd'
    rw[vL hr hb,hrb]
 rw[hwant]
 cases run with
 | false =>
   obtain⟨rfl,hd⟩:=h2 rfl
   simp only[XD,if_false]
   exact⟨fun f _=>iL c f,hafter _ _ _ _ (hr.put hd ⟨[],rfl,trivial⟩)⟩
 | true =>
   simp only[if_true]
   have hloc:=h1 rfl (Cs opsA.toList trs st0 L m) (fun t ht=>hsl t (.inl (by simpa[tC] using memB_iff.2 ht))) hri hnew opsA [] (fun st=>st=⟨bI oj.dst tj.v (Cs opsA.toList trs st0 L m).fr,dh tj.wr (Cs opsA.toList trs st0 L m).sto⟩) (tb rfl)
   have hwp:=hloc a w σ φ (fun e a w=>match e with|.normal=>K a w|_=>False) hr (fun a' w' σ' φ' st' hst hr'=>by subst hst;exact hafter _ _ _ _ hr')
   unfold wpListIn at hwp
   have hw1:Region.wanted { oj with guard:=none } (yielded opsA a.tmps)=true:=rfl
   rw[if_pos hw1] at hwp
   have hout:¬ LetsOut (fun (e:Exit) (a:Act) (w:World)=>match e with|.normal=>K a w|_=>False):=by rintro ⟨_,_,hf⟩;exact hf
   have e1:({ oj with guard:=none }:Oper).semAt (fnc c).round a.eval=oj.semAt (fnc c).round a.eval:=by
    obtain⟨dst,op,type,pos,after,guard⟩:=oj
    cases op<;>rfl
   obtain⟨_,hwp⟩:=hwp
   refine⟨fun f _=>iL c f,?_⟩
   rw[e1] at hwp
   generalize (oj.semAt (fnc c).round a.eval).run P w=r at *
   cases r with
   | ok n w' =>
     cases n<;>simp only[Oper.uponIn,wpListIn] at hwp ⊢
     ·exact hwp
     ·exact hwp
     ·exact⟨hwp.1,hwp.2.mono fun e w'' he=>by
       cases e with
       | returned v=>exact he
       | panicked _=>exact he.elim
       | outgrown=>exact absurd he hout⟩
     all_goals first
      | exact hwp
      | exact⟨hwp.1,hwp.2.mono fun e w'' he=>by
        cases e with
        | returned v=>exact he
        | panicked _=>exact he.elim
        | outgrown=>exact absurd he hout⟩
   | halt x w'=>cases x<;>simp only[Oper.uponIn] at hwp ⊢
end
end Go.Abs
namespace Go.Abs
open Go
variable {P:Program} {c:Ctx} {st0:St}
def px:List Oper→List Tr→St→St
 | o::r,t::ts,st=>px r ts ⟨bI o.dst t.v st.fr,dh t.wr st.sto⟩
 | _,_,st=>st
theorem wc{opsA:Array Oper}{K:St→Prop}:∀ {l:List Oper} {st:St} {acc:List Tr},ak P c opsA st0 l st acc K →
  ∃ ts:List Tr,ts.length=l.length∧lU opsA.toList st0 (acc.reverse++ts)=true∧K (px l ts st)∧∀ (j:Nat) (o:Oper) (t:Tr),l[j]?=some o→ts[j]?=some t→Fact P c opsA o t (px (l.take j) (ts.take j) st)
 | [],st,acc,h=>⟨[],rfl,by simpa[ak] using h.1,h.2,fun j o t h=>by simp at h⟩
 | o::r,st,acc,⟨run,tr,hg,h1,h2,h3,h⟩=>by
   obtain⟨ts,hl,hc,hk,hf⟩:=wc h
   refine⟨tr::ts,by simp[hl],by simpa using hc,hk,fun j o' t ho ht=>?_⟩
   cases j with
   | zero =>
     simp at ho ht;subst ho;subst ht
     exact⟨run,hg,h1,fun hr=>⟨h2 hr,h3 hr⟩⟩
   | succ j=>exact hf j o' t (by simpa using ho) (by simpa using ht)
theorem y4:∀ {l:List Oper} {ts:List Tr} {st:St} {o:Oper} {t:Tr},l.length=ts.length→px (l++[o]) (ts++[t]) st=⟨bI o.dst t.v (px l ts st).fr,dh t.wr (px l ts st).sto⟩
 | [],[],_,_,_,_=>rfl
 | _::l,_::ts,_,_,_,h=>by
   simp only[XL,px]
   exact y4 (by simpa using h)
 | [],_::_,_,_,_,h=>by simp at h
 | _::_,[],_,_,_,h=>by simp at h
theorem xC{ops:List Oper}{trs:List Tr}(hl:trs.length=ops.length):∀ {j:Nat},j≤ops.length→Sj ops trs st0 j=px (ops.take j) (trs.take j) st0
 | 0,_=>by simp[Sj,Cs,px]
 | j+1,h=>by
   have ih:=xC hl (j:=j) (by omega)
   unfold Sj at ih ⊢
   have h1:ops[j]?=some ops[j]:=Xf (by omega)
   have h2:trs[j]?=some trs[j]:=Xf (by omega)
   simp only[Cs,h1,h2,if_true]
   rw[ih,List.take_add_one,List.take_add_one,h1,h2]
   simp only[Option.toList_some]
   rw[y4 (by simp;omega)]
def Lof(listed:Array Bool):Nat→Bool:=fun i=>listed.getD i false
def unl(listed:Array Bool):Nat:=listed.toList.countP (fun b=>!b)
theorem we{ops:Array Oper}{listed:Array Bool}{i:Nat}(h:i∈Region.ready .any ops listed) :
  ∃ o,ops[i]?=some o∧listed.getD i true=false∧∀ e∈o.after.toList,Region.binds .any e=true→Lof listed e.on=true:=by
 unfold Region.ready at h
 simp only[Yr,List.mem_range,WX,Xe] at h
 obtain⟨h1,h2,h3⟩:=h
 have ho:ops[i]?=some ops[i]:=Array.getElem?_eq_getElem h1
 refine⟨_,ho,h2,fun e he hb=>?_⟩
 rw[ho] at h3
 simp only[Option.map_some,Option.getD_some,Array.all_eq_true'] at h3
 have:=h3 e (by simpa using he)
 simpa[hb,Lof] using this
theorem J2{ops:Array Oper}{listed:Array Bool}{i:Nat}{o:Oper}(ho:ops[i]?=some o)(hn:listed.getD i true=false)(he:∀ e∈o.after.toList,Region.binds .any e=true→Lof listed e.on=true):i∈Region.ready .any ops listed:=by
 unfold Region.ready
 simp only[Yr,List.mem_range,WX,Xe]
 refine⟨(Xm.1 ho).1,hn,?_⟩
 rw[ho]
 simp only[Option.map_some,Option.getD_some,Array.all_eq_true']
 intro e hm
 cases hb:Region.binds .any e with
 | false=>rfl
 | true=>simpa[Lof] using he e (by simpa using hm) hb
theorem wg:∀ {l:List Bool} {i:Nat},l[i]?=some false→(l.set i true).countP (fun b=>!b)+1=l.countP (fun b=>!b)
 | [],_,h=>by simp at h
 | b::r,0,h=>by simp at h;subst h;simp
 | b::r,i+1,h=>by
   have:=wg (l:=r) (i:=i) (by simpa using h)
   simp only[List.set_cons_succ,List.countP_cons]
   omega
theorem HP{opsA:Array Oper}{trs:List Tr}(G:DrawGood opsA.toList trs st0)(hF:∀ (j:Nat) (o:Oper) (t:Tr),opsA.toList[j]?=some o→trs[j]?=some t→Fact P c opsA o t (Sj opsA.toList trs st0 j))
  {Q:Exit→Act→World→Prop} (hQ:∀ a w σ φ,Rel c (Sj opsA.toList trs st0 opsA.toList.length) a w σ φ→Q .normal a w) :
  ∀ (fuel:Nat) (listed:Array Bool) (a:Act) (w:World) (σ:Sig) (φ:Pl),listed.size=opsA.size→mP opsA.toList (Lof listed)→unl listed≤fuel→Rel c (Cs opsA.toList trs st0 (Lof listed) opsA.toList.length) a w σ φ →
    wpAnyIn (fnc c) 0 P .any opsA Q fuel listed a w:=by
 -- where nothing is left
 have hend:∀ (listed:Array Bool) (a:Act) (w:World) (σ:Sig) (φ:Pl),(∀ i,i<opsA.size→Lof listed i=true)→Rel c (Cs opsA.toList trs st0 (Lof listed) opsA.toList.length) a w σ φ→Q .normal a w:=by
  intro listed a w σ φ hall hr
  refine hQ a w σ φ (hr.cong (fun t=>?_) (fun id=>?_))
  ·exact kb fun i o hi _ _=>(hall i (by simpa using hi)).symm
  ·exact jv fun i t hi _ _=>(hall i (by simpa using hi)).symm
 have hnone:∀ (listed:Array Bool),listed.size=opsA.size→Region.ready .any opsA listed=[]→∀ i,i<opsA.size→Lof listed i=true:=by
  intro listed hsz hrd i
  induction i using Nat.strongRecOn with
  | ind i ih =>
    intro hi
    cases hb:Lof listed i with
    | true=>rfl
    | false =>
      have ho:opsA[i]?=some opsA[i]:=Array.getElem?_eq_getElem hi
      have hn:listed.getD i true=false:=by
       unfold Lof at hb
       rw[Xv,Array.getElem?_eq_getElem (by omega)] at hb ⊢
       exact hb
      have:=J2 (ops:=opsA) (listed:=listed) ho hn fun e he hbd=>by
       have hlt:=py G.edges (j:=i) (by rw[XP];exact ho) e he hbd
       exact ih e.on (by omega) (by omega)
      rw[hrd] at this;simp at this
 intro fuel
 induction fuel with
 | zero =>
   intro listed a w σ φ hsz hcl hu hr
   have hall:∀ i,i<opsA.size→Lof listed i=true:=by
    intro i hi
    have h0:unl listed=0:=by omega
    unfold unl at h0
    rw[List.countP_eq_zero] at h0
    have:=h0 listed[i] (by simp)
    unfold Lof
    rw[Xv,Array.getElem?_eq_getElem (by omega)]
    simpa using this
   refine⟨?_,hend listed a w σ φ hall hr⟩
   cases hrd:Region.ready .any opsA listed with
   | nil=>rfl
   | cons i r =>
     obtain⟨o,ho,hn,_⟩:=we (ops:=opsA) (listed:=listed) (i:=i) (by rw[hrd];simp)
     have hi:=(Xm.1 ho).1
     have:=hall i hi
     unfold Lof at this
     rw[Xv,Array.getElem?_eq_getElem (by omega)] at this hn
     simp at this hn;rw[this] at hn;cases hn
 | succ fuel ih =>
   intro listed a w σ φ hsz hcl hu hr
   refine⟨fun hrd=>hend listed a w σ φ (hnone listed hsz hrd) hr,fun j hj=>?_⟩
   obtain⟨oj,ho,hn,hanc⟩:=we hj
   have hjs:=(Xm.1 ho).1
   have ho':opsA.toList[j]?=some oj:=by rw[XP];exact ho
   have hjt:j<trs.length:=by rw[G.len];simpa using hjs
   have htj:trs[j]?=some trs[j]:=Xf hjt
   have hnf:listed[j]?=some false:=by
    rw[Xv,Array.getElem?_eq_getElem (by omega)] at hn
    rw[Array.getElem?_eq_getElem (by omega)]
    simpa using hn
   have hnL:Lof listed j=false:=by unfold Lof;rw[Xv,hnf];rfl
   have hset:Lof (listed.setIfInBounds j true)=lq (Lof listed) j:=by
    funext i
    unfold Lof lq
    rw[Xv,Array.getElem?_setIfInBounds]
    by_cases hij:j=i
    ·subst hij;simp[show j<listed.size by omega]
    ·rw[if_neg hij,if_neg (fun e=>hij e.symm)];simp only[Xv]
   refine J3 G hcl ho' htj hnL hanc (hF j oj _ ho' htj) rfl hr fun a' w' σ' φ' hr'=>?_
   refine ih _ a' w' σ' φ' (by simpa using hsz) (by rw[hset];exact ua hcl ho' hanc) ?_ (by rw[hset];exact hr')
   have:=wg (l:=listed.toList) (i:=j) (by rw[XP];exact hnf)
   unfold unl at hu ⊢
   rw[Array.toList_setIfInBounds]
   omega
theorem wh{id:Nat}{ops:Array Oper}{st:St}{Q:Exit→St→Prop}(hm:P.follows .mixedOrders=true)(h:ak P c ops st ops.toList st [] (Q .normal)):OkC P c (.region id ops true) st Q:=by
 intro a w σ φ hr
 obtain⟨trs,hl,hc,hk,hf⟩:=wc h
 have G:=Bj hl (by simpa using hc)
 refine wpIn_region_any hm ?_
 refine HP (c:=c) G ?f1 (fun a' w' σ' φ' hr'=>⟨px ops.toList trs st,σ',φ',hk,.inl ?f2⟩) ops.size _ a _ σ φ (by simp) ?f3 ?f4 ?f5
 case f1 =>
  intro j o t ho ht
  rw[xC hl (Nat.le_of_lt (W8.1 ho).1)]
  exact hf j o t ho ht
 case f2 =>
  rw[xC hl (Xc _)] at hr'
  rwa [XT,← hl,XT] at hr'
 case f3 =>
  intro i o _ hLi
  unfold Lof at hLi
  rw[Xv,Array.getElem?_replicate] at hLi
  split at hLi<;>simp at hLi
 case f4=>unfold unl;exact Xg List.countP_le_length (by simp)
 case f5 =>
  rw[qU (j:=0) (Xk _) (fun i _ _=>by unfold Lof;rw[Xv,Array.getElem?_replicate];split<;>rfl)]
  exact hr.drew _ (by simp)
end Go.Abs
namespace Go.Abs
open Go
variable {P:Program} {c:Ctx} {T:Tab} {σ:Sig} {φ:Pl} {w:World}
def fC:AC→List Nat
 | .own i _|.sub i _ _|.ref i _|.rref i _ _|.yl i|.mapr i|.bsl i _ _=>[i]
 | _=>[]
def qH:List AC→List Nat
 | []=>[]
 | c::r=>fC c++qH r
def tq:List (Bool×List AC)→List Nat
 | []=>[]
 | t::r=>qH t.2++tq r
def cH:AV→List Nat
 | .one c=>fC c
 | .agg cs=>qH cs
 | .tup ts=>tq ts
 | .any=>[]
def tP(st:St)(x:Operand):List Nat:=match ev st x with|some v=>cH v|none=>[]
def cX(st:St):List Operand→List Nat
 | []=>[]
 | x::r=>tP st x++cX st r
theorem kJ{st:St}{x:Operand}{v:AV}(hv:ev st x=some v){i:Nat}(hi:i∈cH v):∀ {l:List Operand},x∈l→i∈cX st l
 | [],h=>by simp at h
 | y::r,h=>by
   simp only[cX,XF]
   rcases Xo.1 h with rfl|h
   ·exact .inl (by simp[tP,hv,hi])
   ·exact .inr (kJ hv hi h)
theorem xr{t:Nat}:∀ {l:List Operand},Operand.tmp t∈l→t∈ql l
 | [],h=>by simp at h
 | x::r,h=>by
   rcases Xo.1 h with rfl|h
   ·simp[ql]
   ·have:=xr h
    cases x<;>simp[ql,this]
theorem fJ{st st2:St}{op:Op}(hs:∀ t,t∈iS op→look st2.fr t=look st.fr t){x:Operand}(hx:x∈op.operands.toList):ev st2 x=ev st x:=by
 cases x with
 | tmp t=>exact hs t (xr hx)
 | _=>rfl
section
variable {s s2:Sto}
theorem mZ{i:Nat}(h:look s2 i=look s i):bw s2 i=bw s i:=by simp[bw,h]
theorem y8{off:Nat}{v:AV}(h:∀ i,i∈cH v→look s2 i=look s i):pg s2 off v=pg s off v:=by
 unfold pg
 split<;>first|rfl|(rw[mZ (h _ (by simp[cH,fC]))])
theorem G9{g:Bool}{n:Nat}{v:AV}(h:∀ i,i∈cH v→look s2 i=look s i):mD s2 g n v=mD s g n v:=by
 unfold mD
 split<;>first|rfl|(rw[h _ (by simp[cH,fC])])
theorem JA{k:TK}{v:AV}(h:∀ i,i∈cH v→look s2 i=look s i):xt s2 k v=xt s k v:=by
 unfold xt
 split<;>first|rfl|(rw[mZ (h _ (by simp[cH,fC]))])
end
theorem uE{st st2:St}{t:TypeId}:∀ {parts:List (Nat×Operand)} {acc:List AC},(∀ p∈parts,ev st2 p.2=ev st p.2)→il T st2 t acc parts=il T st t acc parts
 | [],_,_=>rfl
 | (i,x)::r,acc,h=>by
   have h1:=h (i,x) Xd
   have ih:∀ {acc},il T st2 t acc r=il T st t acc r:=fun {acc}=>uE fun p hp=>h p (Xa _ hp)
   simp only at h1
   simp only[il,h1,ih]
theorem HY{st st2:St}{op:Op}(hs:∀ t,t∈iS op→look st2.fr t=look st.fr t)(hi:∀ i,i∈cX st op.operands.toList→look st2.sto i=look st.sto i):cL T st2 op=cL T st op:=by
 have he:∀ {x:Operand},x∈op.operands.toList→ev st2 x=ev st x:=fun hx=>fJ hs hx
 have hid:∀ {x:Operand} {v:AV},x∈op.operands.toList→ev st x=some v→∀ i,i∈cH v→look st2.sto i=look st.sto i:=fun hx hv i h=>hi i (kJ hv h hx)
 cases op with
 | move x=>exact he (by simp[Op.operands])
 | assign x=>exact he (by simp[Op.operands])
 | binOp op t x y ty=>simp only[cL];rw[he (x:=x) (by simp[Op.operands]),he (x:=y) (by simp[Op.operands])]
 | unOp op t x=>simp only[cL];rw[he (x:=x) (by simp[Op.operands])]
 | fieldAddr s x f =>
   simp only[cL];rw[he (x:=x) (by simp[Op.operands])]
   cases hv:ev st x with
   | none=>cases lF T s f<;>rfl
   | some v =>
     cases lF T s f with
     | none=>rfl
     | some p=>simp only;exact y8 (hid (x:=x) (by simp[Op.operands]) hv)
 | field s x f=>simp only[cL];rw[he (x:=x) (by simp[Op.operands])]
 | load t x =>
   simp only[cL];rw[he (x:=x) (by simp[Op.operands])]
   cases hv:ev st x with
   | none=>cases j6 T t<;>rfl
   | some v =>
     cases j6 T t with
     | none=>rfl
     | some p=>simp only;exact G9 (hid (x:=x) (by simp[Op.operands]) hv)
 | extract x i=>simp only[cL];rw[he (x:=x) (by simp[Op.operands])]
 | convert a b x=>simp only[cL];rw[he (x:=x) (by simp[Op.operands])]
 | build t parts =>
   simp only[cL]
   have:∀ {acc},il T st2 t acc parts.toList=il T st t acc parts.toList:=fun {acc}=>uE fun p hp=>he (by
    simp only[Op.operands,Array.toList_map,Xj]
    exact⟨p,by simpa using hp,rfl⟩)
   simp only[this]
 | nilCheck x =>
   simp only[cL];rw[he (x:=x) (by simp[Op.operands])]
   cases hv:ev st x with
   | none=>rfl
   | some v =>
     have h:=hid (x:=x) (by simp[Op.operands]) hv
     split<;>first|rfl|(rename_i heq;cases heq;rw[mZ (h _ (by simp[cH,fC]))])
 | call cl =>
   obtain⟨callee,args,ats⟩:=cl
   cases callee with
   | builtin b =>
     simp only[cL]
     have hargs:∀ x∈args.toList,x∈(Op.call { callee:=.builtin b,args:=args,argTypes:=ats }).operands.toList:=by
      intro x hx
      simp[Op.operands,Call.operands]
      simpa using hx
     have hmap:args.toList.map (ev st2)=args.toList.map (ev st):=List.map_congr_left fun x hx=>he (hargs x hx)
     rw[hmap]
     unfold nL
     split
     ·rename_i t v _ heq
      have hlen:∃ x,args.toList=[x]∧ev st x=some v:=by
       cases hl:args.toList with
       | nil=>rw[hl] at heq;simp at heq
       | cons x r =>
         rw[hl] at heq
         simp only[XK,List.cons.injEq,List.map_eq_nil_iff] at heq
         exact⟨x,by rw[heq.2],heq.1⟩
      obtain⟨x,hx,hv⟩:=hlen
      have h:=hid (x:=x) (hargs x (by rw[hx];simp)) hv
      cases look T t with
      | none=>rfl
      | some td=>simp only;rw[JA h]
     ·rfl
     ·rfl
     ·rfl
   | _=>rfl
 | _=>rfl
end Go.Abs
namespace Go.Abs
open Go
variable {P:Program} {c:Ctx} {T:Tab} {σ:Sig} {φ:Pl} {w:World}
structure Ef where
 v:AV
 wr:List (Nat×Option AObj)
 new:List Nat
def qY(T:Tab)(sto:Sto)(t:TypeId):Option AV→Option AV→Option AV
 | some (.one (.d (.int _ n))),some (.one (.d (.sl k _ xs)))=>match bc T t with
   | some (_,k',_,_)=>bif Nat.beq k k'&&decide (0≤n) then (match nth xs n.toNat with|some el=>some (.one (.d (.ptr el)))|none=>none) else none
   | none=>none
 | some (.one (.d (.int _ n))),some (.one (.own id m))=>match bc T t,look sto id with
   | some (_,k',_,_),some (.row k _ _)=>bif Nat.beq k k'&&decide (0≤n)&&decide (n<m) then some (.one (.rref id n.toNat 0)) else none
   | _,_=>none
 | some (.one (.d (.int _ n))),some (.one (.sub id lo m))=>match bc T t,look sto id with
   | some (_,k',_,_),some (.row k _ _)=>bif Nat.beq k k'&&decide (0≤n)&&decide (n<m) then some (.one (.rref id (lo+n.toNat) 0)) else none
   | _,_=>none
 | some (.one (.d (.int _ n))),some v=>match qZ T t with
   | some (m,s)=>bif decide (0≤n)&&decide (n<m) then pg sto (n.toNat * s) v else none
   | none=>none
 | _,_=>none
def tK(T:Tab)(t:TypeId):Option AV→Option AV→Option AV
 | some (.one (.d (.int _ n))),some (.one (.d (.str s)))=>bif iq T t&&decide (0≤n) then (match nth s n.toNat with|some b=>some (.one (.d (.int .u8 (b.toNat:Int))))|none=>none) else none
 | _,_=>none
def nX(T:Tab)(sto:Sto)(t:TypeId):Option AV→Option AV
 | some (.one (.rref id i off))=>match j6 T t,look sto id with
   | some (g,s),some (.row _ _ xs)=>(match nth xs i with|some el=>gA g s ((el.drop off).map .d)|none=>none)
   | _,_=>none
 | _=>none
def nY(T:Tab)(sto:Sto)(t:TypeId):Option AV→Option AV→Option (Nat×AObj)
 | some (.one (.ref id off)),some v=>match j6 T t,look sto id,cellsOf v with
   | some (_,s),some (.box cells),some cs=>bif Nat.beq cs.length s then (match dK off cs cells with|some cells'=>some (id,.box cells')|none=>none) else none
   | _,_,_=>none
 | some (.one (.rref id j off)),some v=>match j6 T t,look sto id,cellsOf v with
   | some (_,s),some (.row k b xs),some cs=>bif Nat.beq cs.length s then (match gf cs,nth xs j with
     | some ds,some el=>(match dK off ds el with|some el'=>some (id,.row k b (xs.set j el'))|none=>none)
     | _,_=>none) else none
   | _,_,_=>none
 | _,_=>none
def iD(st:St)(o:Option Operand)(d:Nat):Option Nat :=
 match o with
 | none=>some d
 | some x=>match ev st x with
   | some (.one (.d (.int _ z)))=>bif decide (0≤z) then some z.toNat else none
   | _=>none
def iK(T:Tab)(sto:Sto)(t:TypeId)(lo hi:Nat→Option Nat):Option AV→Option AV
 | some (.one (.d (.sl k b xs)))=>match bc T t,lo 0,hi xs.length with
   | some (_,k',_,_),some l,some h=>bif Nat.beq k k'&&(Nat.ble l h&&Nat.ble h xs.length) then some (.one (.d (.sl k b ((xs.take h).drop l)))) else none
   | _,_,_=>none
 | some (.one (.d (.str s)))=>match lo 0,hi s.length with
   | some l,some h=>bif iq T t&&(Nat.ble l h&&Nat.ble h s.length) then some (.one (.d (.str ((s.drop l).take (h-l))))) else none
   | _,_=>none
 | some (.one (.own id n))=>match bc T t,look sto id,lo 0,hi n with
   | some (_,k',_,_),some (.row k _ xs),some l,some h=>bif Nat.beq k k'&&(Nat.ble l h&&Nat.ble h xs.length) then
     (bif Nat.beq l 0&&(Nat.ble xs.length n||Nat.ble h n) then some (.one (.own id h)) else some (.one (.sub id l (h-l)))) else none
   | _,_,_,_=>none
 | _=>none
def lv(T:Tab)(st:St)(id:Nat):Op→Option (AV×AObj)
 | .alloc t=>match look T t with|some td=>some (.one (.ref id 0),.box (td.zero.map .d))|none=>none
 | .box _ x=>match ev st x with|some v=>(match cellsOf v with|some cs=>bif db id cs then none else some (.one (.ref id 0),.box cs)|none=>none)|none=>none
 | .buildSlice t n parts=>match bc T t with
   | some (_,k,b,_)=>(match eJ st k 0 parts.toList with
     | some xs=>bif Nat.beq parts.toList.length n&&(Nat.ble (n*k) 1000000&&Nat.ble (n*b) 1000000&&Nat.ble n 1000000) then some (.one (.own id n),.row k b xs) else none
     | none=>none)
   | none=>none
 | .makeSlice t x y=>match bc T t,ev st x,ev st y with
   | some (_,k,b,z),some (.one (.d (.int .i64 n))),some (.one (.d (.int .i64 m))) =>
     bif decide (0≤n)&&decide (n=m)&&(Nat.ble (n.toNat * b) 1000000&&Nat.ble n.toNat 1000000) then some (.one (.own id n.toNat),.row k b (List.replicate n.toNat z)) else none
   | _,_,_=>none
 | _=>none
def vb(T:Tab)(st:St)(id:Nat)(t t2:TypeId):Option AV→Option AV→Option Ef
 | some (.one (.own i n)),some v=>match bc T t,bc T t2,look st.sto i with
   | some (_,k,b,_),some _,some (.row k' b' xs)=>(match ga st k v with
     | some ys=>bif Nat.beq k k'&&Nat.beq b b'&&(Nat.ble (n+ys.length) 1000000000&&Nat.ble ((n+ys.length)*b) 100000000000) then
       some ⟨.one (.own id (n+ys.length)),[(id,some (.row k b (xs.take n++ys))),(i,none)],[id]⟩ else none
     | none=>none)
   | _,_,_=>none
 | some (.one (.d .nil)),some v=>match bc T t,bc T t2 with
   | some (_,k,b,_),some _=>(match ga st k v with
     | some ys=>bif Nat.ble ys.length 1000000000&&Nat.ble (ys.length*b) 100000000000 then some ⟨.one (.own id ys.length),[(id,some (.row k b ys))],[id,id+1]⟩ else none
     | none=>none)
   | _,_=>none
 | _,_=>none
def df(T:Tab)(st:St)(id:Nat):Op→Option Ef
 | .pick x y z=>match ev st x with
   | some (.one (.d (.bool b)))=>(match ev st (if b then y else z) with|some v=>some ⟨v,[],[]⟩|none=>none)
   | _=>none
 | .indexAddr t x y=>match qY T st.sto t (ev st y) (ev st x) with|some v=>some ⟨v,[],[]⟩|none=>none
 | .index t x y=>match tK T t (ev st y) (ev st x) with|some v=>some ⟨v,[],[]⟩|none=>none
 | .load t x=>match nX T st.sto t (ev st x) with|some v=>some ⟨v,[],[]⟩|none=>none
 | .slice t x lo hi none=>match iK T st.sto t (iD st lo) (iD st hi) (ev st x) with|some v=>some ⟨v,[],[]⟩|none=>none
 | .call { callee:=.builtin .append,args:=⟨[x,y]⟩,argTypes:=⟨[t,t2]⟩ }=>vb T st id t t2 (ev st x) (ev st y)
 | .makeFunc (.func f) ⟨[]⟩ caps=>match evL st caps.toList with
   | some avs=>(match lH avs with|some ds=>some ⟨.one (.d (.fn f ds)),[],[]⟩|none=>none)
   | none=>none
 | _=>none
def iE:Option Nat→Bool
 | some _=>true
 | none=>false
def dg(T:Tab)(st:St)(o:Oper)(id:Nat):Option Ef :=
 match cL T st o.op with
 | some v=>some ⟨v,[],[]⟩
 | none=>match df T st id o.op with
   | some e=>some e
   | none=>bif iE o.dst then (match lv T st id o.op with|some (v,ob)=>some ⟨v,[(id,some ob)],[id]⟩|none=>none)
     else match o.op with
      | .store t x y=>match nY T st.sto t (ev st x) (ev st y) with|some (i,ob)=>some ⟨.any,[(i,some ob)],[]⟩|none=>none
      | _=>none
def Ef.tr(e:Ef)(ri:List Nat):Tr:=⟨e.v,e.wr,ri,e.new⟩
def pO(st:St)(l:List Nat):Prop:=∀ i,i∈l→look st.sto i=none∧br i st.fr=false∧aN i st.sto=false
theorem kQ{st:St}{o:Option Operand}{d l:Nat}(h:iD st o d=some l):bnd st o d l:=by
 unfold iD at h
 split at h
 ·simp at h;exact h.symm
 ·rename_i x
  split at h<;>(try (simp at h;done))
  rename_i k z hz
  cases hb:decide (0≤z)<;>simp[hb] at h
  simp at hb
  exact⟨k,z,hz,by omega⟩
theorem mQ{P:Program}{ops:Array Oper}{rest:List Oper}{fr:List (Nat×AV)}{sto:Sto}{id:Nat}{o:AObj}{K:St→Prop}(h:aa P c ops rest ⟨fr,cD id o sto⟩ K):aa P c ops rest ⟨fr,(id,o)::sto⟩ K :=
 cV (pX fun _=>dq) h
def lx(P:Program)(c:Ctx)(o:Oper)(st:St)(e:Ef):Prop :=
 ∀ (ops:Array Oper) (rest:List Oper) (K:St→Prop),aa P c ops rest ⟨bI o.dst e.v st.fr,dh e.wr st.sto⟩ K→aa P c ops ({ o with guard:=none }::rest) st K
theorem MK(hT:bg P T){o:Oper}{st:St}{t:TypeId}{x y:Operand}{v:AV}(ho:o.op=.indexAddr t x y)(hd:aX c.n o.dst=true)(h:qY T st.sto t (ev st y) (ev st x)=some v):lx P c o st ⟨v,[],[]⟩:=by
 intro ops rest K hk
 unfold qY at h
 split at h
 ·rename_i ik n k b xs hy hx
  split at h<;>(try (simp at h;done))
  rename_i e k' b' z ht
  cases hb:Nat.beq k k'&&decide (0≤n)<;>simp only[hb,Yf,Ye,reduceCtorEq] at h
  simp only[WX,Yi] at hb
  split at h<;>simp at h
  rename_i el hel
  subst h
  exact Jk hT (o:={ o with guard:=none }) ho rfl hd ht hx hb.1 hy hb.2 (by rw[← im];exact hel) hk
 ·rename_i ik n id m hy hx
  split at h<;>(try (simp at h;done))
  rename_i e k' b' z k b xs ht hl
  cases hb:Nat.beq k k'&&decide (0≤n)&&decide (n<m)<;>simp only[hb,Yf,Ye,reduceCtorEq,W5] at h
  subst h
  simp only[WX,Yi] at hb
  exact CU hT (o:={ o with guard:=none }) ho rfl hd ht hx hl hb.1.1 hy hb.1.2 hb.2 hk
 ·rename_i ik n id lo m hy hx
  split at h<;>(try (simp at h;done))
  rename_i e k' b' z k b xs ht hl
  cases hb:Nat.beq k k'&&decide (0≤n)&&decide (n<m)<;>simp only[hb,Yf,Ye,reduceCtorEq,W5] at h
  subst h
  simp only[WX,Yi] at hb
  exact CV hT (o:={ o with guard:=none }) ho rfl hd ht hx hl hb.1.1 hy hb.1.2 hb.2 hk
 ·rename_i ik n v0 _ _ _ hy hx
  split at h<;>(try (simp at h;done))
  rename_i m s ht
  cases hb:decide (0≤n)&&decide (n<m)<;>simp only[hb,Yf,Ye,reduceCtorEq] at h
  simp only[WX,Yi] at hb
  exact CW hT (o:={ o with guard:=none }) ho rfl hd ht hx hy hb.1 hb.2 h hk
 ·simp at h
theorem FL(hT:bg P T){o:Oper}{st:St}{t:TypeId}{x y:Operand}{v:AV}(ho:o.op=.index t x y)(hd:aX c.n o.dst=true)(h:tK T t (ev st y) (ev st x)=some v):lx P c o st ⟨v,[],[]⟩:=by
 intro ops rest K hk
 unfold tK at h
 split at h<;>(try (simp at h;done))
 rename_i ik n s hy hx
 cases hb:iq T t&&decide (0≤n)<;>simp only[hb,Yf,Ye,reduceCtorEq] at h
 simp only[WX,Yi] at hb
 split at h<;>simp at h
 rename_i b hel
 subst h
 exact CX hT (o:={ o with guard:=none }) ho rfl hd hb.1 hx hy hb.2 (by rw[← im];exact hel) hk
theorem HS(hT:bg P T){o:Oper}{st:St}{t:TypeId}{x:Operand}{v:AV}(ho:o.op=.load t x)(hd:aX c.n o.dst=true)(h:nX T st.sto t (ev st x)=some v):lx P c o st ⟨v,[],[]⟩:=by
 intro ops rest K hk
 unfold nX at h
 split at h<;>(try (simp at h;done))
 rename_i id i off hx
 split at h<;>(try (simp at h;done))
 rename_i g s k b xs ht hl
 split at h<;>(try (simp at h;done))
 rename_i el hel
 exact DS hT (o:={ o with guard:=none }) ho rfl hd ht hx hl (by rw[← im];exact hel) h hk
theorem HU(hT:bg P T){o:Oper}{st:St}{t:TypeId}{x y:Operand}{i:Nat}{ob:AObj}(ho:o.op=.store t x y)(hd:o.dst=none)(h:nY T st.sto t (ev st x) (ev st y)=some (i,ob)):lx P c o st ⟨.any,[(i,some ob)],[]⟩:=by
 intro ops rest K hk
 rw[hd] at hk
 unfold nY at h
 split at h<;>(try (simp at h;done))
 ·rename_i id off v hx hy
  split at h<;>(try (simp at h;done))
  rename_i g s cells cs ht hl hc
  cases hb:Nat.beq cs.length s<;>simp only[hb,Yf,Ye,reduceCtorEq] at h
  split at h<;>simp at h
  rename_i cells' hsp
  obtain⟨rfl,rfl⟩:=h
  exact DD hT (o:={ o with guard:=none }) ho rfl hd ht hx hl hy hc hb hsp hk
 ·rename_i id j off v hx hy
  split at h<;>(try (simp at h;done))
  rename_i g s k b xs cs ht hl hc
  cases hb:Nat.beq cs.length s<;>simp only[hb,Yf,Ye,reduceCtorEq] at h
  split at h<;>(try (simp at h;done))
  rename_i ds el hds hel
  split at h<;>simp at h
  rename_i el' hsp
  obtain⟨rfl,rfl⟩:=h
  exact By hT (o:={ o with guard:=none }) ho rfl hd ht hx hl (by rw[← im];exact hel) hy hc hb hds hsp hk
theorem HT(hT:bg P T){o:Oper}{st:St}{t:TypeId}{x:Operand}{lo hi:Option Operand}{v:AV}(ho:o.op=.slice t x lo hi none)(hd:aX c.n o.dst=true)(h:iK T st.sto t (iD st lo) (iD st hi) (ev st x)=some v):lx P c o st ⟨v,[],[]⟩:=by
 intro ops rest K hk
 unfold iK at h
 split at h
 ·rename_i k b xs hx
  split at h<;>(try (simp at h;done))
  rename_i e k' b' z l u ht hl hu
  cases hb:Nat.beq k k'&&(Nat.ble l u&&Nat.ble u xs.length)<;>simp only[hb,Yf,Ye,reduceCtorEq,W5] at h
  subst h
  simp only[WX,Nat.ble_eq] at hb
  exact DT hT (o:={ o with guard:=none }) ho rfl hd ht hx hb.1 (kQ hl) (kQ hu) hb.2.1 hb.2.2 hk
 ·rename_i s hx
  split at h<;>(try (simp at h;done))
  rename_i l u hl hu
  cases hb:iq T t&&(Nat.ble l u&&Nat.ble u s.length)<;>simp only[hb,Yf,Ye,reduceCtorEq,W5] at h
  subst h
  simp only[WX,Nat.ble_eq] at hb
  exact yE hT (o:={ o with guard:=none }) ho rfl hd hb.1 hx (kQ hl) (kQ hu) hb.2.1 hb.2.2 hk
 ·rename_i id n hx
  split at h<;>(try (simp at h;done))
  rename_i e k' b' z k b xs l u ht hrow hl hu
  cases hb:Nat.beq k k'&&(Nat.ble l u&&Nat.ble u xs.length)<;>simp only[hb,Yf,Ye,reduceCtorEq] at h
  simp only[WX,Nat.ble_eq] at hb
  cases hb2:Nat.beq l 0&&(Nat.ble xs.length n||Nat.ble u n)<;>simp only[hb2,Yf,Ye,W5] at h
  ·subst h
   exact yF hT (o:={ o with guard:=none }) ho rfl hd ht hx hrow hb.1 (kQ hl) (kQ hu) hb.2.1 hb.2.2 hk
  ·subst h
   simp only[WX,Xs,Nat.ble_eq] at hb2
   obtain rfl:=W4 hb2.1
   exact yG hT (o:={ o with guard:=none }) ho rfl hd ht hx hrow hb.1 (kQ hl) (kQ hu) hb.2.2 hb2.2 hk
 ·simp at h
theorem ML(hT:bg P T){o:Oper}{st:St}{id:Nat}{t t2:TypeId}{x y:Operand}{e:Ef}(ho:o.op=.call { callee:=.builtin .append,args:=⟨[x,y]⟩,argTypes:=⟨[t,t2]⟩ })(hd:aX c.n o.dst=true)
  (h:vb T st id t t2 (ev st x) (ev st y)=some e) (hid:Nat.blt (id+1) 1000000=true) (hf:pO st e.new):lx P c o st e:=by
 intro ops rest K hk
 unfold vb at h
 split at h
 ·rename_i i n v hx hy
  split at h<;>(try (simp at h;done))
  rename_i e1 k b z q k' b' xs ht ht2 hl
  obtain⟨q1,q2,q3⟩:=q
  split at h<;>(try (simp at h;done))
  rename_i ys hs
  cases hb:Nat.beq k k'&&Nat.beq b b'&&(Nat.ble (n+ys.length) 1000000000&&Nat.ble ((n+ys.length)*b) 100000000000)<;>simp only[hb,Yf,Ye,reduceCtorEq,W5] at h
  subst h
  obtain⟨f1,f2,f3⟩:=hf id (by simp)
  simp only[WX,Nat.ble_eq,Yb] at hb hid
  refine Ah hT (o:={ o with guard:=none }) (id':=id) ho rfl hd ht ht2 (by simp only[Yb];omega) hx hl (by simp only[WX];exact hb.1) hy hs rfl (by omega) (by omega) f2 f3 f1 ?_
  exact mQ hk
 ·rename_i v hx hy
  split at h<;>(try (simp at h;done))
  rename_i e1 k b z q ht ht2
  obtain⟨q1,q2,q3⟩:=q
  split at h<;>(try (simp at h;done))
  rename_i ys hs
  cases hb:Nat.ble ys.length 1000000000&&Nat.ble (ys.length*b) 100000000000<;>simp only[hb,Yf,Ye,reduceCtorEq,W5] at h
  subst h
  simp only[WX,Nat.ble_eq] at hb
  refine w9 hT (o:={ o with guard:=none }) (id:=id) ho rfl hd ht ht2 hid hx hy hs (by omega) (by omega) (fun i hi=>hf i (by simp;exact hi)) ?_
  exact mQ hk
 ·simp at h
end Go.Abs
namespace Go.Abs
open Go
variable {P:Program} {c:Ctx} {T:Tab} {σ:Sig} {φ:Pl} {w:World}
theorem MJ(hT:bg P T){o:Oper}{st:St}{id d:Nat}{v:AV}{ob:AObj}(hdst:o.dst=some d)(hd:aX c.n o.dst=true)(h:lv T st id o.op=some (v,ob))(hid:Nat.blt (id+1) 1000000=true)(hf:pO st [id]) :
  lx P c o st ⟨v,[(id,some ob)],[id]⟩:=by
 intro ops rest K hk
 obtain⟨f1,f2,f3⟩:=hf id (by simp)
 rw[hdst] at hk hd
 replace hk:=mQ hk
 simp only[aX,Yb] at hd hid
 have hd':(Nat.blt d c.n&&Nat.blt id 1000000)=true:=by simp only[WX,Yb];omega
 unfold lv at h
 split at h
 ·rename_i t ho
  split at h<;>simp at h
  rename_i td ht
  obtain⟨rfl,rfl⟩:=h
  exact tZ hT (o:={ o with guard:=none }) ho rfl hdst hd' ht f2 f3 hk
 ·rename_i t x ho
  split at h<;>(try (simp at h;done))
  rename_i u hx
  split at h<;>(try (simp at h;done))
  rename_i cs hc
  cases hb:db id cs<;>simp only[hb,Yf,Ye,reduceCtorEq,W5,XJ] at h
  obtain⟨rfl,rfl⟩:=h
  exact yV (o:={ o with guard:=none }) ho rfl hdst hd' hx hc f2 f3 hb hk
 ·rename_i t n parts ho
  split at h<;>(try (simp at h;done))
  rename_i e k b z ht
  split at h<;>(try (simp at h;done))
  rename_i xs hp
  cases hb:Nat.beq parts.toList.length n&&(Nat.ble (n*k) 1000000&&Nat.ble (n*b) 1000000&&Nat.ble n 1000000)<;>simp only[hb,Yf,Ye,reduceCtorEq,W5,XJ] at h
  obtain⟨rfl,rfl⟩:=h
  rw[WX] at hb
  exact va hT (o:={ o with guard:=none }) ho rfl hdst hd' ht hp hb.1 hb.2 f2 f3 hk
 ·rename_i t x y ho
  split at h<;>(try (simp at h;done))
  rename_i e k b z n m ht hx hy
  cases hb:decide (0≤n)&&decide (n=m)&&(Nat.ble (n.toNat * b) 1000000&&Nat.ble n.toNat 1000000)<;>simp only[hb,Yf,Ye,reduceCtorEq,W5,XJ] at h
  obtain⟨rfl,rfl⟩:=h
  simp only[WX,Yi,Nat.ble_eq] at hb
  obtain⟨⟨h0,rfl⟩,h1,h2⟩:=hb
  have hn:((n.toNat:Nat):Int)=n:=by omega
  exact wm hT (o:={ o with guard:=none }) (n:=n.toNat) ho rfl hdst hd' ht (by rw[hn];exact hx) (by rw[hn];exact hy) (by omega) (by omega) f2 f3 hk
 ·simp at h
theorem J7(hT:bg P T){o:Oper}{st:St}{id:Nat}{e:Ef}(hd:aX c.n o.dst=true)(h:dg T st o id=some e)(hid:Nat.blt (id+1) 1000000=true)(hf:pO st e.new):lx P c o st e:=by
 unfold dg at h
 split at h
 ·rename_i v hv
  simp at h;subst h
  intro ops rest K hk
  exact y7 hT (o:={ o with guard:=none }) rfl hd hv hk
 split at h
 ·rename_i e' he'
  simp at h;subst h
  unfold df at he'
  split at he'
  ·rename_i x y z ho
   split at he'<;>(try (simp at he';done))
   rename_i b hb
   split at he'<;>simp at he'
   rename_i v hv
   subst he'
   intro ops rest K hk
   exact FK (o:={ o with guard:=none }) ho rfl hd hb hv hk
  ·rename_i t x y ho
   split at he'<;>simp at he'
   rename_i v hv
   subst he'
   exact MK hT ho hd hv
  ·rename_i t x y ho
   split at he'<;>simp at he'
   rename_i v hv
   subst he'
   exact FL hT ho hd hv
  ·rename_i t x ho
   split at he'<;>simp at he'
   rename_i v hv
   subst he'
   exact HS hT ho hd hv
  ·rename_i t x lo hi ho
   split at he'<;>simp at he'
   rename_i v hv
   subst he'
   exact HT hT ho hd hv
  ·rename_i x y t t2 ho
   exact ML hT ho hd he' hid hf
  ·rename_i f caps ho
   split at he'<;>(try (simp at he';done))
   rename_i avs ha
   split at he'<;>simp at he'
   rename_i ds hds
   subst he'
   intro ops rest K hk
   exact xG (o:={ o with guard:=none }) ho rfl hd ha hds hk
  ·simp at he'
 cases hD:iE o.dst with
 | true =>
   simp only[hD,Yf] at h
   split at h<;>simp at h
   rename_i v ob hn
   subst h
   cases hdst:o.dst with
   | none=>simp[hdst,iE] at hD
   | some d=>exact MJ hT hdst hd hn hid hf
 | false =>
   simp only[hD,Ye] at h
   have hdst:o.dst=none:=by cases h:o.dst<;>simp_all[iE]
   split at h<;>(try (simp at h;done))
   rename_i t x y ho
   split at h<;>simp at h
   rename_i i ob hs
   subst h
   exact HU hT ho hdst hs
section
variable {s s2:Sto}
theorem HV{t:TypeId}{vy vx:Option AV}(h:∀ v,vx=some v→∀ i∈cH v,look s2 i=look s i):qY T s2 t vy vx=qY T s t vy vx:=by
 unfold qY
 split
 ·rfl
 ·rw[h _ rfl _ (by simp[cH,fC])]
 ·rw[h _ rfl _ (by simp[cH,fC])]
 ·cases qZ T t with
  | none=>rfl
  | some p=>simp only;rw[y8 (h _ rfl)]
 ·rfl
theorem Dx{t:TypeId}{vx:Option AV}(h:∀ v,vx=some v→∀ i∈cH v,look s2 i=look s i):nX T s2 t vx=nX T s t vx:=by
 unfold nX
 split
 ·rw[h _ rfl _ (by simp[cH,fC])]
 ·rfl
theorem Dy{t:TypeId}{vx vy:Option AV}(h:∀ v,vx=some v→∀ i∈cH v,look s2 i=look s i):nY T s2 t vx vy=nY T s t vx vy:=by
 unfold nY
 split
 ·rw[h _ rfl _ (by simp[cH,fC])]
 ·rw[h _ rfl _ (by simp[cH,fC])]
 ·rfl
theorem Dz{t:TypeId}{lo hi:Nat→Option Nat}{vx:Option AV}(h:∀ v,vx=some v→∀ i∈cH v,look s2 i=look s i):iK T s2 t lo hi vx=iK T s t lo hi vx:=by
 unfold iK
 split
 ·rfl
 ·rfl
 ·rw[h _ rfl _ (by simp[cH,fC])]
 ·rfl
end
theorem q7{st st2:St}{k:Nat}{v:AV}(h:∀ i∈cH v,look st2.sto i=look st.sto i):ga st2 k v=ga st k v:=by
 unfold ga
 split
 ·rfl
 ·rfl
 ·rw[h _ (by simp[cH,fC])]
 ·rw[h _ (by simp[cH,fC])]
 ·rfl
theorem HW{st st2:St}{id:Nat}{t t2:TypeId}{vx vy:Option AV}(h:∀ v,vx=some v→∀ i∈cH v,look st2.sto i=look st.sto i)(h':∀ v,vy=some v→∀ i∈cH v,look st2.sto i=look st.sto i) :
  vb T st2 id t t2 vx vy=vb T st id t t2 vx vy:=by
 unfold vb
 split
 ·rw[h _ rfl _ (by simp[cH,fC])]
  simp only[q7 (h' _ rfl)]
 ·simp only[q7 (h' _ rfl)]
 ·rfl
theorem ub{st st2:St}{k:Nat}:∀ {parts:List (Nat×Operand)} {i:Nat},(∀ p∈parts,ev st2 p.2=ev st p.2)→eJ st2 k i parts=eJ st k i parts
 | [],_,_=>rfl
 | (j,x)::r,i,h=>by
   have h1:=h (j,x) Xd
   have ih:∀ {i},eJ st2 k i r=eJ st k i r:=fun {i}=>ub fun p hp=>h p (Xa _ hp)
   simp only at h1
   simp only[eJ,h1,ih]
theorem kn{st st2:St}:∀ {l:List Operand},(∀ x∈l,ev st2 x=ev st x)→evL st2 l=evL st l
 | [],_=>rfl
 | x::r,h=>by
   simp only[evL,h x Xd,kn (l:=r) fun y hy=>h y (Xa _ hy)]
theorem y9{st st2:St}{o:Option Operand}(h:∀ x,o=some x→ev st2 x=ev st x):iD st2 o=iD st o:=by
 funext d
 unfold iD
 cases o with
 | none=>rfl
 | some x=>simp only[h x rfl]
theorem DA{st st2:St}{op:Op}{id:Nat}(hs:∀ t,t∈iS op→look st2.fr t=look st.fr t)(hi:∀ i,i∈cX st op.operands.toList→look st2.sto i=look st.sto i):df T st2 id op=df T st id op:=by
 have he:∀ {x:Operand},x∈op.operands.toList→ev st2 x=ev st x:=fun hx=>fJ hs hx
 have hid:∀ {x:Operand},x∈op.operands.toList→∀ v,ev st x=some v→∀ i,i∈cH v→look st2.sto i=look st.sto i:=fun hx v hv i h=>hi i (kJ hv h hx)
 unfold df
 split
 ·rename_i x y z
  rw[he (x:=x) (by simp[Op.operands])]
  split
  ·rename_i b _
   rw[he (by cases b<;>simp[Op.operands])]
  ·rfl
 ·rename_i t x y
  rw[he (x:=x) (by simp[Op.operands]),he (x:=y) (by simp[Op.operands]),HV (hid (x:=x) (by simp[Op.operands]))]
 ·rename_i t x y
  rw[he (x:=x) (by simp[Op.operands]),he (x:=y) (by simp[Op.operands])]
 ·rename_i t x
  rw[he (x:=x) (by simp[Op.operands]),Dx (hid (x:=x) (by simp[Op.operands]))]
 ·rename_i t x lo hi'
  have h1:iD st2 lo=iD st lo:=y9 fun y hy=>he (by subst hy;simp[Op.operands])
  have h2:iD st2 hi'=iD st hi':=y9 fun y hy=>he (by subst hy;cases lo<;>simp[Op.operands])
  rw[he (x:=x) (by simp[Op.operands]),h1,h2,Dz (hid (x:=x) (by simp[Op.operands]))]
 ·rename_i x y t t2
  rw[he (x:=x) (by simp[Op.operands,Call.operands]),he (x:=y) (by simp[Op.operands,Call.operands]),HW (hid (x:=x) (by simp[Op.operands,Call.operands])) (hid (x:=y) (by simp[Op.operands,Call.operands]))]
 ·rename_i f caps
  have:evL st2 caps.toList=evL st caps.toList:=kn fun x hx=>he (by
   simp[Op.operands]
   simpa using hx)
  rw[this]
 ·rfl
theorem HX{st st2:St}{op:Op}{id:Nat}(hs:∀ t,t∈iS op→look st2.fr t=look st.fr t):lv T st2 id op=lv T st id op:=by
 have he:∀ {x:Operand},x∈op.operands.toList→ev st2 x=ev st x:=fun hx=>fJ hs hx
 unfold lv
 split
 ·rfl
 ·rename_i t x
  rw[he (x:=x) (by simp[Op.operands])]
 ·rename_i t n parts
  have:∀ {k},eJ st2 k 0 parts.toList=eJ st k 0 parts.toList:=fun {k}=>ub fun p hp=>he (by
   simp only[Op.operands,Xj]
   simp
   exact⟨p.1,by simpa using hp⟩)
  simp only[this]
 ·rename_i t x y
  rw[he (x:=x) (by simp[Op.operands]),he (x:=y) (by simp[Op.operands])]
 ·rfl
theorem FM{st st2:St}{o:Oper}{id:Nat}(hs:∀ t,t∈iS o.op→look st2.fr t=look st.fr t)(hi:∀ i,i∈cX st o.op.operands.toList→look st2.sto i=look st.sto i):dg T st2 o id=dg T st o id:=by
 unfold dg
 rw[HY hs hi,DA hs hi,HX hs]
 split
 ·rfl
 split
 ·rfl
 congr 1
 split
 ·rename_i t x y ho
  have he:∀ {x:Operand},x∈o.op.operands.toList→ev st2 x=ev st x:=fun hx=>fJ hs hx
  have hid:∀ {x:Operand},x∈o.op.operands.toList→∀ v,ev st x=some v→∀ i,i∈cH v→look st2.sto i=look st.sto i:=fun hx v hv i h=>hi i (kJ hv h hx)
  rw[ho] at he hid
  rw[he (x:=x) (by simp[Op.operands]),he (x:=y) (by simp[Op.operands]),Dy (hid (x:=x) (by simp[Op.operands]))]
 ·rfl
end Go.Abs
