import Derived.Test.YtpejdgkaapnekaaGreatKP3
set_option linter.unusedVariables false
set_option linter.unusedSimpArgs false
set_option maxHeartbeats 1000000
namespace Go.Abs
open Go
variable {P:Program} {c:Ctx} {T:Tab} {σ:Sig} {φ:Pl} {sto:Sto} {w:World}
def phC(φ:Pl)(ρ:List (Nat×Nat)):Pl:=fun j=>match look ρ j with|some i=>φ i|none=>none
theorem fW{φ:Pl}{ρ:List (Nat×Nat)}{j i:Nat}(h:look ρ j=some i):phC φ ρ j=φ i:=by simp[phC,h]
theorem jq{sto:Sto}{i:Nat}(h:bw sto i=true):∃ o,look sto i=some o:=by
 unfold bw at h
 split at h
 ·exact⟨_,by assumption⟩
 ·cases h
section
variable {k:Nat} {ρ:List (Nat×Nat)} {st:St} {cs:Sto}
theorem unC(hb:gG ρ=true)(hp:Pass st (rn k ρ) ρ cs){x:AC}{v:Value}(hin:bY cs x=true)(h:RepC σ φ st.sto (jm (rn k ρ) x) v):RepC σ (phC φ ρ) cs x v:=by
 have key:∀ {j:Nat},bw cs j=true→∃ o i,look cs j=some o∧look ρ j=some i∧rn k ρ j=i∧look st.sto i=some (du (rn k ρ) o):=by
  intro j hj
  obtain⟨o,ho⟩:=jq hj
  obtain⟨i,h1,h2⟩:=hp.look ho
  exact⟨o,i,ho,h1,iM hb h1,h2⟩
 cases x with
 | d x=>exact .d h.d_inv
 | junk =>
   cases h with
   | junk h=>exact .junk h
   | dead hx h=>exact .junk h
 | own j n =>
   obtain⟨o,i,h1,h2,h3,h4⟩:=key hin
   simp only[jm,h3] at h
   cases h with
   | ownNil hl hp'=>rw[h4] at hl;cases o<;>simp[du] at hl;obtain⟨rfl,rfl,rfl⟩:=hl;exact .ownNil h1 ((fW h2).trans hp')
   | own hl hn hp'=>rw[h4] at hl;cases o<;>simp[du] at hl;obtain⟨rfl,rfl,rfl⟩:=hl;exact .own h1 hn ((fW h2).trans hp')
   | dead hx _=>simp[bY,cy h4] at hx
 | sub j lo n =>
   obtain⟨o,i,h1,h2,h3,h4⟩:=key hin
   simp only[jm,h3] at h
   cases h with
   | sub hl hn hc hA=>rw[h4] at hl;cases o<;>simp[du] at hl;obtain⟨rfl,rfl,rfl⟩:=hl;exact .sub h1 hn hc (fun h0=>by rw[fW h2];exact hA h0)
   | dead hx _=>simp[bY,cy h4] at hx
 | ref j off =>
   obtain⟨o,i,h1,h2,h3,h4⟩:=key hin
   simp only[jm,h3] at h
   cases h with
   | ref hl hp'=>rw[h4] at hl;cases o<;>simp[du] at hl;exact .ref h1 ((fW h2).trans hp')
   | dead hx _=>simp[bY,cy h4] at hx
 | rref j m off =>
   obtain⟨o,i,h1,h2,h3,h4⟩:=key hin
   simp only[jm,h3] at h
   cases h with
   | rref hl hp'=>rw[h4] at hl;cases o<;>simp[du] at hl;obtain⟨rfl,rfl,rfl⟩:=hl;exact .rref h1 ((fW h2).trans hp')
   | dead hx _=>simp[bY,cy h4] at hx
 | yl j =>
   obtain⟨o,i,h1,h2,h3,h4⟩:=key hin
   simp only[jm,h3] at h
   cases h with
   | yl hl hp'=>rw[h4] at hl;cases o<;>simp[du] at hl;exact .yl h1 ((fW h2).trans hp')
   | dead hx _=>simp[bY,cy h4] at hx
 | bsl j off n =>
   obtain⟨o,i,h1,h2,h3,h4⟩:=key hin
   simp only[jm,h3] at h
   cases h with
   | bsl hl hp'=>rw[h4] at hl;cases o<;>simp[du] at hl;exact .bsl h1 ((fW h2).trans hp')
   | dead hx _=>simp[bY,cy h4] at hx
 | mapr j =>
   obtain⟨o,i,h1,h2,h3,h4⟩:=key hin
   simp only[jm,h3] at h
   cases h with
   | mapr hl hp'=>rw[h4] at hl;cases o<;>simp[du] at hl;exact .mapr h1 ((fW h2).trans hp')
   | dead hx _=>simp[bY,cy h4] at hx
theorem Cj(hb:gG ρ=true)(hp:Pass st (rn k ρ) ρ cs):∀ {xs:List AC} {vs:List Value},fi cs xs=true→All2 (RepC σ φ st.sto) (kX (rn k ρ) xs) vs→All2 (RepC σ (phC φ ρ) cs) xs vs
 | [],[],_,_=>trivial
 | _::_,_::_,hi,h=>by
   simp only[fi,WX] at hi
   exact⟨unC hb hp hi.1 h.1,Cj hb hp hi.2 h.2⟩
 | [],_::_,_,h=>h.elim
 | _::_,[],_,h=>h.elim
theorem unV(hb:gG ρ=true)(hp:Pass st (rn k ρ) ρ cs){x:AV}{v:Value}(hi:dG cs x=true)(h:RepV σ φ st.sto (eC (rn k ρ) x) v):RepV σ (phC φ ρ) cs x v:=by
 cases x with
 | one c=>exact unC hb hp hi h
 | agg cs=>obtain⟨us,rfl,h⟩:=h;exact⟨us,rfl,Cj hb hp hi h⟩
 | tup ts =>
   obtain⟨us,rfl,h⟩:=h
   refine⟨us,rfl,?_⟩
   simp only[dG] at hi
   induction ts generalizing us with
   | nil=>cases us<;>simp_all[All2,qJ]
   | cons t ts ih =>
     cases us with
     | nil=>exact h.elim
     | cons u us =>
       simp only[yb,WX] at hi
       refine⟨?_,ih hi.2 us h.2⟩
       obtain⟨g,cs⟩:=t
       cases g with
       | true=>obtain⟨vs,rfl,h1⟩:=h.1;exact⟨vs,rfl,Cj hb hp hi.1 h1⟩
       | false=>exact Cj hb hp hi.1 h.1
 | any=>trivial
def dU(sto:Sto):List AV→Bool
 | []=>true
 | v::r=>dG sto v&&dU sto r
theorem unL(hb:gG ρ=true)(hp:Pass st (rn k ρ) ρ cs):∀ {xs:List AV} {vs:List Value},dU cs xs=true→All2 (RepV σ φ st.sto) (dF (rn k ρ) xs) vs→All2 (RepV σ (phC φ ρ) cs) xs vs
 | [],[],_,_=>trivial
 | _::_,_::_,hi,h=>by
   simp only[dU,WX] at hi
   exact⟨unV hb hp hi.1 h.1,unL hb hp hi.2 h.2⟩
 | [],_::_,_,h=>h.elim
 | _::_,[],_,h=>h.elim
theorem lj{r:Nat→Nat}:∀ {fr:List (Nat×AV)} {s:Nat},look (dO r fr) s=(look fr s).map (eC r)
 | [],_=>rfl
 | (t,v)::l,s=>by
   simp only[dO,look]
   cases Nat.beq t s with
   | true=>rfl
   | false=>simp only[Ye];exact lj
theorem Ci(hb:gG ρ=true)(hij:jV ρ=true)(hp:Pass st (rn k ρ) ρ cs)(hs:bt cs cs=true)(h:HInv σ φ st.sto w):HInv σ (phC φ ρ) cs w:=by
 refine⟨h.sig,fun j o hj=>?_,fun j j' o o' p p' hj hj' hne hpp hpp'=>?_⟩
 ·obtain⟨i,h1,h2⟩:=hp.look hj
  have ho:=h.obj _ _ h2
  have hin:=gq hs hj
  have hph:=fW (φ:=φ) h1
  cases o with
  | box xs =>
    obtain⟨B,c',vs,t,a1,a2,a3,a4⟩:=ho
    exact⟨B,c',vs,t,hph.trans a1,a2,Cj hb hp hin a3,a4⟩
  | row a b xs =>
    rcases ho with⟨a1,a2⟩|⟨B,cap,arr,t,vs,a1,a2⟩
    ·exact .inl ⟨a1,hph.trans a2⟩
    ·exact .inr ⟨B,cap,arr,t,vs,hph.trans a1,a2⟩
  | map kg vg es =>
    obtain⟨B,c',ents,a1,a2⟩:=ho
    exact⟨B,c',ents,hph.trans a1,a2⟩
  | loop li fr s p =>
    obtain⟨B,c',r,a1,a2,a3,a4,a5⟩:=ho
    refine⟨B,c',r,hph.trans a1,a2,a3,fun s v hv=>?_,a5⟩
    obtain⟨u,hu,hru⟩:=a4 s (eC (rn k ρ) v) (by rw[lj,hv];rfl)
    exact⟨u,hu,unV hb hp (mN hin hv) hru⟩
 ·obtain⟨i,h1,h2⟩:=hp.look hj
  obtain⟨i',h1',h2'⟩:=hp.look hj'
  rw[fW h1] at hpp
  rw[fW h1'] at hpp'
  refine h.inj _ _ _ _ _ _ h2 h2' (fun e=>hne ?_) hpp hpp'
  subst e
  exact sX hij h1 h1'
end
section
variable {σ':Sig} {φ' φn:Pl} {rs ns:Sto} {r:Nat→Nat}
theorem reC(hR:∀ j o,look rs j=some o→look ns (r j)=some (du r o)∧φn (r j)=φ' j){x:AC}{v:Value}(hin:bY rs x=true)(h:RepC σ' φ' rs x v):RepC σ' φn ns (jm r x) v:=by
 cases h with
 | d h=>exact .d h
 | ownNil h hp=>obtain⟨h1,h2⟩:=hR _ _ h;exact .ownNil h1 (h2.trans hp)
 | own h hn hp=>obtain⟨h1,h2⟩:=hR _ _ h;exact .own h1 hn (h2.trans hp)
 | sub h hn hc hA=>obtain⟨h1,h2⟩:=hR _ _ h;exact .sub h1 hn hc (fun h0=>by rw[h2];exact hA h0)
 | ref h hp=>obtain⟨h1,h2⟩:=hR _ _ h;exact .ref h1 (h2.trans hp)
 | rref h hp=>obtain⟨h1,h2⟩:=hR _ _ h;exact .rref h1 (h2.trans hp)
 | yl h hp=>obtain⟨h1,h2⟩:=hR _ _ h;exact .yl h1 (h2.trans hp)
 | mapr h hp=>obtain⟨h1,h2⟩:=hR _ _ h;exact .mapr h1 (h2.trans hp)
 | bsl h hp=>obtain⟨h1,h2⟩:=hR _ _ h;exact .bsl h1 (h2.trans hp)
 | junk h=>exact .junk h
 | dead hx h1=>rw[hin] at hx;cases hx
theorem Ck(hR:∀ j o,look rs j=some o→look ns (r j)=some (du r o)∧φn (r j)=φ' j):∀ {xs:List AC} {vs:List Value},fi rs xs=true→All2 (RepC σ' φ' rs) xs vs→All2 (RepC σ' φn ns) (kX r xs) vs
 | [],[],_,_=>trivial
 | _::_,_::_,hi,h=>by
   simp only[fi,WX] at hi
   exact⟨reC hR hi.1 h.1,Ck hR hi.2 h.2⟩
 | [],_::_,_,h=>h.elim
 | _::_,[],_,h=>h.elim
theorem reV(hR:∀ j o,look rs j=some o→look ns (r j)=some (du r o)∧φn (r j)=φ' j){x:AV}{v:Value}(hi:dG rs x=true)(h:RepV σ' φ' rs x v):RepV σ' φn ns (eC r x) v:=by
 cases x with
 | one c=>exact reC hR hi h
 | agg cs=>obtain⟨us,rfl,h⟩:=h;exact⟨us,rfl,Ck hR hi h⟩
 | tup ts =>
   obtain⟨us,rfl,h⟩:=h
   refine⟨us,rfl,?_⟩
   simp only[dG] at hi
   induction ts generalizing us with
   | nil=>cases us<;>simp_all[All2,qJ]
   | cons t ts ih =>
     cases us with
     | nil=>exact h.elim
     | cons u us =>
       simp only[yb,WX] at hi
       refine⟨?_,ih hi.2 us h.2⟩
       obtain⟨g,cs⟩:=t
       cases g with
       | true=>obtain⟨vs,rfl,h1⟩:=h.1;exact⟨vs,rfl,Ck hR hi.1 h1⟩
       | false=>exact Ck hR hi.1 h.1
 | any=>trivial
theorem Am(hR:∀ j o,look rs j=some o→look ns (r j)=some (du r o)∧φn (r j)=φ' j){j:Nat}{o:AObj}(hj:look rs j=some o)(hi:F8 rs o=true){w':World}(h:ObjRep σ' φ' rs w' j o) :
  ObjRep σ' φn ns w' (r j) (du r o):=by
 have hph:=(hR j o hj).2
 cases o with
 | box xs =>
   obtain⟨B,c',vs,t,a1,a2,a3,a4⟩:=h
   exact⟨B,c',vs,t,hph.trans a1,a2,Ck hR hi a3,a4⟩
 | row a b xs =>
   rcases h with⟨a1,a2⟩|⟨B,cap,arr,t,vs,a1,a2⟩
   ·exact .inl ⟨a1,hph.trans a2⟩
   ·exact .inr ⟨B,cap,arr,t,vs,hph.trans a1,a2⟩
 | map kg vg es =>
   obtain⟨B,c',ents,a1,a2⟩:=h
   exact⟨B,c',ents,hph.trans a1,a2⟩
 | loop li fr s p =>
   obtain⟨B,c',lp,a1,a2,a3,a4,a5⟩:=h
   refine⟨B,c',lp,hph.trans a1,a2,a3,fun s v hv=>?_,a5⟩
   rw[lj] at hv
   cases hl:look fr s with
   | none=>rw[hl] at hv;cases hv
   | some v0 =>
     rw[hl] at hv;cases hv
     obtain⟨u,hu,hru⟩:=a4 s v0 hl
     exact⟨u,hu,reV hR (mN hi hl) hru⟩
end
theorem DK{r:Nat→Nat}{e o:AObj}(h:compat e o):compat e (du r o):=by
 cases e<;>cases o<;>simp_all[compat,du]
def iB(cs:Sto):List (Nat×Nat)→Bool
 | []=>true
 | (j,_)::r=>bw cs j&&iB cs r
theorem wV{cs:Sto}{ρ:List (Nat×Nat)}:iB cs ρ=true→∀ {j i:Nat},look ρ j=some i→bw cs j=true:=by
 induction ρ with
 | nil=>intro _ j i h;simp[look] at h
 | cons p r ih =>
   obtain⟨j',i'⟩:=p
   intro hb j i h
   simp only[iB,WX] at hb
   rcases ah h with⟨rfl,rfl⟩|⟨_,h⟩
   ·exact hb.1
   ·exact ih hb.2 h
theorem ym{st:St}{a:Act}{o:Oper}{cargs:List AV}{cs rs:Sto}{rav:AV}(k:Nat)(ρ:List (Nat×Nat))(hr:Rel c st a w σ φ)(hd:aX c.n o.dst=true)
  (hpass:Pass st (rn k ρ) ρ cs) (hcomp:CompatL st (rn k ρ) ρ rs)
  (hk:(gG ρ&&jV ρ&&iB cs ρ&&gU ρ&&c7 ρ rs&&dU cs cargs&&bt cs cs&&dG rs rav&&bt rs rs&&Nat.ble (k+16) 1000000)=true) (hfresh:lz k st)
  {v:Value} {w':World} {σ':Sig} {φ':Pl} (hret:RetP rav rs w σ (phC φ ρ) (MOf (phC φ ρ) cs) v w' σ' φ') :
  ∃ σ2 φ2,Rel c ⟨bI o.dst (eC (rn k ρ) rav) st.fr,eL (rn k ρ) (gT ρ st.sto) rs⟩ (a.put o.dst v) w' σ2 φ2∧∀ j o,look rs j=some o→φ2 (rn k ρ j)=φ' j:=by
 simp only[WX,Nat.ble_eq] at hk
 obtain⟨⟨⟨⟨⟨⟨⟨⟨⟨hbig,hinj⟩,hall⟩,hnd⟩,hko⟩,hai⟩,hci⟩,hri⟩,hrs⟩,hkl⟩:=hk
 let φn:Pl:=fun i=>if k≤i∧i<k+16 then φ' (i-k) else φ i
 have hφin:∀ {j:Nat},j<16→φn (k+j)=φ' j:=by
  intro j hj
  show (if _ then _ else _)=_
  rw[if_pos ⟨Nat.le_add_right _ _,by omega⟩,X9]
 have hφout:∀ {i:Nat},(i<k∨k+16≤i)→φn i=φ i:=by
  intro i hi
  show (if _ then _ else _)=_
  rw[if_neg (by omega)]
 have hout:∀ {i:Nat} {o:AObj},look st.sto i=some o→i<k∨k+16≤i:=by
  intro i o hi
  rcases XM i k with h1|h1
  ·exact .inl h1
  ·rcases XM i (k+16) with h2|h2
   ·rw[(hfresh i h1 h2).1] at hi;cases hi
   ·exact .inr h2
 -- what was handed over
 have hgave:∀ {j i:Nat},look ρ j=some i→∃ o,look cs j=some o∧look st.sto i=some (du (rn k ρ) o):=by
  intro j i hj
  obtain⟨o,ho⟩:=jq (wV hall hj)
  obtain⟨i',h1,h2⟩:=hpass.look ho
  rw[hj] at h1;cases h1
  exact⟨o,ho,h2⟩
 have hMof:∀ {b:Nat},MOf (phC φ ρ) cs b→∃ j i o p,look ρ j=some i∧look st.sto i=some o∧φ i=some p∧p.1=b:=by
  rintro b ⟨j,o,p,h1,h2,h3⟩
  obtain⟨i,h4,h5⟩:=hpass.look h1
  rw[fW h4] at h2
  exact⟨j,i,_,p,h4,h5,h2,h3⟩
 have hR:∀ j o,look rs j=some o→look (eL (rn k ρ) (gT ρ st.sto) rs) (rn k ρ j)=some (du (rn k ρ) o)∧φn (rn k ρ j)=φ' j:=by
  intro j o hj
  refine⟨zJ (fun j j' o o' hj hj' e=>?_) hj,?_⟩
  ·rcases iV hko hj with h1|⟨i,h1⟩<;>rcases iV hko hj' with h2|⟨i',h2⟩
   ·rw[kh h1,kh h2] at e;omega
   ·rw[kh h1,iM hbig h2] at e
    obtain⟨_,_,h3⟩:=hgave h2
    have:=hout h3;omega
   ·rw[iM hbig h1,kh h2] at e
    obtain⟨_,_,h3⟩:=hgave h1
    have:=hout h3;omega
   ·rw[iM hbig h1,iM hbig h2] at e
    subst e
    exact sX hinj h1 h2
  ·rcases iV hko hj with h1|⟨i,h1⟩
   ·rw[kh h1];exact hφin h1
   ·rw[iM hbig h1]
    obtain⟨_,_,h3⟩:=hgave h1
    rw[hφout (hout h3),hret.pin j (pb hbig h1),fW h1]
 have hns:∀ {i:Nat} {e:AObj},look (eL (rn k ρ) (gT ρ st.sto) rs) i=some e→(∃ j o,look rs j=some o∧e=du (rn k ρ) o∧((j<16∧i=k+j)∨look ρ j=some i))∨(look st.sto i=some e∧∀ j,look ρ j≠some i):=by
  intro i e h
  rcases sY h with⟨j,o,rfl,h1,rfl⟩|⟨_,h1⟩
  ·refine .inl ⟨j,o,h1,rfl,?_⟩
   rcases iV hko h1 with h2|⟨i,h2⟩
   ·exact .inl ⟨h2,kh h2⟩
   ·exact .inr (by rw[iM hbig h2];exact h2)
  ·exact .inr (IU h1)
 have hE:Ext (fun i=>k≤i∧i<k+16) φ φn st.sto (eL (rn k ρ) (gT ρ st.sto) rs):=by
  intro i hX
  cases hl:look (eL (rn k ρ) (gT ρ st.sto) rs) i with
  | none=>exact .inl rfl
  | some e =>
    rcases hns hl with⟨j,o,h1,rfl,h2⟩|⟨h1,_⟩
    ·rcases h2 with⟨h2,rfl⟩|h2
     ·exact absurd ⟨Nat.le_add_right _ _,by omega⟩ hX
     ·obtain⟨o',_,h4⟩:=hgave h2
      exact .inr ⟨_,h4,hφout (hout h4),_,rfl,DK (hcomp.look h1 h2 h4)⟩
    ·exact .inr ⟨e,h1,hφout (hout h1),e,rfl,compat.refl _⟩
 -- an old object that was not handed over lies elsewhere
 have hap:∀ {i:Nat} {e:AObj} {p:Nat×Nat},look st.sto i=some e→(∀ j,look ρ j≠some i)→φ i=some p→p.1<w.heap.size∧¬ MOf (phC φ ρ) cs p.1:=by
  intro i e p hi hn hp
  refine⟨(hr.inv.obj _ _ hi).lt hp,fun hM=>?_⟩
  obtain⟨j,i',o,p',h1,h2,h3,h4⟩:=hMof hM
  exact hr.inv.inj _ _ _ _ _ _ h2 hi (fun e=>hn j (e ▸ h1)) h3 hp h4
 have hinv:HInv σ' φn (eL (rn k ρ) (gT ρ st.sto) rs) w':=by
  refine⟨hret.inv.sig,fun i e hi=>?_,fun i i' e1 e2 p p' h1 h2 hne hp hp'=>?_⟩
  ·rcases hns hi with⟨j,o,h1,rfl,h2⟩|⟨h1,hn⟩
   ·have:=Am hR h1 (gq hrs h1) (hret.inv.obj _ _ h1)
    rcases h2 with⟨h2,rfl⟩|h2
    ·rwa [kh h2] at this
    ·rwa [iM hbig h2] at this
   ·have ho:=hr.inv.obj _ _ h1
    refine ho.ext (X:=fun i=>k≤i∧i<k+16) hret.le hE (fun j hj=>fG (hfresh j hj.1 hj.2).2.2 h1) (hφout (hout h1)) fun B cc hB=>?_
    obtain⟨h3,h4⟩:=hap h1 hn hB
    refine⟨hret.kept.block B h3 h4,?_⟩
    have hs:=ho.sig hB
    rw[hs]
    cases hb:σ' B with
    | none=>rfl
    | some cs' =>
      rcases hret.fresh B (by rw[hb];simp) with h5|h5|h5
      ·exact absurd hs h5
      ·simp only at h3;omega
      ·exact absurd h5 h4
  ·have old:∀ {i:Nat} {e:AObj} {p:Nat×Nat},look st.sto i=some e→φn i=some p→φ i=some p:=by
    intro i e p hi hp
    rwa [hφout (hout hi)] at hp
   have new:∀ {j i:Nat} {o:AObj} {p:Nat×Nat},look rs j=some o→((j<16∧i=k+j)∨look ρ j=some i)→φn i=some p→φ' j=some p∧(w.heap.size≤p.1∨MOf (phC φ ρ) cs p.1):=by
    intro j i o p hj hji hp
    have:φn (rn k ρ j)=φ' j:=(hR j o hj).2
    have hi:rn k ρ j=i:=by
     rcases hji with⟨h,rfl⟩|h
     ·exact kh h
     ·exact iM hbig h
    rw[hi,hp] at this
    exact⟨this.symm,hret.mine _ _ _ hj this.symm⟩
   rcases hns h1 with⟨j,o1,hj,_,hji⟩|⟨hi1,hn1⟩<;>rcases hns h2 with⟨j',o2,hj',_,hji'⟩|⟨hi2,hn2⟩
   ·refine hret.inv.inj _ _ _ _ _ _ hj hj' (fun e=>hne ?_) (new hj hji hp).1 (new hj' hji' hp').1
    subst e
    rcases hji with⟨a1,rfl⟩|a1<;>rcases hji' with⟨a2,rfl⟩|a2
    ·rfl
    ·have:=pb hbig a2;omega
    ·have:=pb hbig a1;omega
    ·rw[a1] at a2;cases a2;rfl
   ·obtain⟨_,h3⟩:=new hj hji hp
    obtain⟨h4,h5⟩:=hap hi2 hn2 (old hi2 hp')
    intro e
    rcases h3 with h3|h3
    ·omega
    ·rw[e] at h3;exact h5 h3
   ·obtain⟨_,h3⟩:=new hj' hji' hp'
    obtain⟨h4,h5⟩:=hap hi1 hn1 (old hi1 hp)
    intro e
    rcases h3 with h3|h3
    ·omega
    ·rw[← e] at h3;exact h5 h3
   ·exact hr.inv.inj _ _ _ _ _ _ hi1 hi2 hne (old hi1 hp) (old hi2 hp')
 have hmineM:∀ {b:Nat},MOf (phC φ ρ) cs b→c.w0.heap.size≤b∨c.M b:=by
  intro b hM
  obtain⟨j,i',o,p',h1,h2,h3,h4⟩:=hMof hM
  have:=hr.mine _ _ _ h2 h3
  rwa [h4] at this
 refine⟨σ',φn,hr.putTo (st':=⟨st.fr,eL (rn k ρ) (gT ρ st.sto) rs⟩) hd (Sig.le_trans hr.le hret.le) (fun b hb=>?_) hinv (fun i e p hi hp=>?_)
  ⟨hret.kept.os.trans hr.fra.os,hret.kept.tape.trans hr.fra.tape,hret.kept.output.trans hr.fra.output,Xg hr.fra.size hret.kept.size,Xg hr.fra.drawn hret.kept.drawn,fun b hb hM'=>?_⟩ (fun i hi=>?_)
  (fun _=>reV hR hri hret.rep) (fun s x _ hx=>⟨x,hx,fun z hz=>hz.ext hret.le hE fun j hj=>dP (hfresh j hj.1 hj.2).2.1 hx⟩),fun j o hj=>(hR j o hj).2⟩
 ·rcases hret.fresh b hb with h1|h1|h1
  ·exact hr.fresh b h1
  ·exact .inr (.inl (Xg hr.fra.size h1))
  ·exact .inr (hmineM h1)
 ·rcases hns hi with⟨j,o,hj,_,hji⟩|⟨hi1,hn1⟩
  ·have:φn (rn k ρ j)=φ' j:=(hR j o hj).2
   have hi:rn k ρ j=i:=by
    rcases hji with⟨h,rfl⟩|h
    ·exact kh h
    ·exact iM hbig h
   rw[hi,hp] at this
   rcases hret.mine _ _ _ hj this.symm with h1|h1
   ·exact .inl (Xg hr.fra.size h1)
   ·exact hmineM h1
  ·rw[hφout (hout hi1)] at hp
   exact hr.mine _ _ _ hi1 hp
 ·rw[hret.kept.block b (Xz hb hr.fra.size) fun hM=>?_]
  ·exact hr.fra.block b hb hM'
  ·rcases hmineM hM with h|h
   ·omega
   ·exact hM' h
 ·rw[hφout (.inr (by omega))]
  exact hr.pin i hi
theorem BF{st:St}{a:Act}{o:Oper}{f:FuncId}{cargs:List AV}{cs rs:Sto}{rav:AV}{vs:List Value}(k:Nat)(ρ:List (Nat×Nat))(hr:Rel c st a w σ φ)(hd:aX c.n o.dst=true)
  (hC:CallA P f cargs cs rav rs) (hargs:All2 (RepV σ φ st.sto) (dF (rn k ρ) cargs) vs) (hpass:Pass st (rn k ρ) ρ cs) (hcomp:CompatL st (rn k ρ) ρ rs)
  (hk:(gG ρ&&jV ρ&&iB cs ρ&&gU ρ&&c7 ρ rs&&dU cs cargs&&bt cs cs&&dG rs rav&&bt rs rs&&Nat.ble (k+16) 1000000)=true) (hfresh:lz k st) :
  Calls P f vs.toArray w fun e w'=>∃ v σ' φ',e=.returned v∧Rel c ⟨bI o.dst (eC (rn k ρ) rav) st.fr,eL (rn k ρ) (gT ρ st.sto) rs⟩ (a.put o.dst v) w' σ' φ':=by
 have hk':=hk
 simp only[WX,Nat.ble_eq] at hk'
 obtain⟨⟨⟨⟨⟨⟨⟨⟨⟨hbig,hinj⟩,hall⟩,hnd⟩,hko⟩,hai⟩,hci⟩,hri⟩,hrs⟩,hkl⟩:=hk'
 refine (hC.run w σ (phC φ ρ) vs (Ci hbig hinj hpass hci hr.inv) (unL hbig hpass hai hargs)).mono ?_
 rintro e w' ⟨v,σ',φ',rfl,hret⟩
 obtain⟨σ2,φ2,h2,_⟩:=ym k ρ hr hd hpass hcomp hk hfresh hret
 exact⟨v,σ2,φ2,rfl,h2⟩
theorem rk{a:Act}{o:Oper}{fop:Operand}{args:Array Operand}{ats:Array TypeId}{f:FuncId}{cs:List Value}(ho:o.op=.call { callee:=.value fop,args:=args,argTypes:=ats })
  (hf : a.eval fop = .func (.func f) #[] cs.toArray) (hfn : ∃ fn, P.funcs[f]? = some fn ∧ (fn.name == "runtime.NumGoroutine") = false ∧ fn.body.isSome = true) :
  (execOp a.eval o).run P w=.ok (.enter f (args.toList.map a.eval++cs).toArray) w:=by
 obtain⟨fn,h1,h2,h3⟩:=hfn
 have h3':fn.body.isNone=false:=by cases hb:fn.body<;>simp_all
 have e:(#[]++args.map a.eval++cs.toArray)=(args.toList.map a.eval++cs).toArray:=by
  apply Array.ext';simp
 simp only[execOp,ho,resolve,Deferred.ofValue,hf,invoke,callFunc,Xl,Xt,Xb]
 simp only[show (program).run P w=.ok P w from rfl,Xb,h1,h2,h3',XD,if_false,Xt]
 rw[e]
theorem vj{r:Nat→Nat}:∀ {a b:List AV},dF r (a++b)=dF r a++dF r b
 | [],_=>rfl
 | _::a,b=>by simp only[XL,dF,vj (a:=a)]
theorem oU{r:Nat→Nat}:∀ {ds:List D},dF r (ds.map fun x=>.one (.d x))=ds.map fun x=>.one (.d x)
 | []=>rfl
 | _::r=>by simp only[XK,dF,eC,jm,oU (ds:=r)]
theorem mh{ops:Array Oper}{o:Oper}{rest:List Oper}{st:St}{K:St→Prop}{fop:Operand}{args:Array Operand}{ats:Array TypeId}{f:FuncId}{caps:List D}{cargs:List AV}{cs rs:Sto}{rav:AV}(k:Nat)(ρ:List (Nat×Nat))
  (ho:o.op=.call { callee:=.value fop,args:=args,argTypes:=ats }) (hg:o.guard=none) (hd:aX c.n o.dst=true) (hf:ev st fop=some (.one (.d (.fn f caps))))
  (ha:evL st args.toList=some (dF (rn k ρ) cargs)) (hC:CallA P f (cargs++caps.map fun x=>.one (.d x)) cs rav rs) (hpass:Pass st (rn k ρ) ρ cs) (hcomp:CompatL st (rn k ρ) ρ rs)
  (hk:(gG ρ&&jV ρ&&iB cs ρ&&gU ρ&&c7 ρ rs&&dU cs (cargs++caps.map fun x=>.one (.d x))&&bt cs cs&&dG rs rav&&bt rs rs&&Nat.ble (k+16) 1000000)=true) (hfresh:lz k st)
  (h:aa P c ops rest ⟨bI o.dst (eC (rn k ρ) rav) st.fr,eL (rn k ρ) (gT ρ st.sto) rs⟩ K):aa P c ops (o::rest) st K:=by
 refine mw hg fun a w σ φ hr=>?_
 have hfr:=aD hr hf
 replace hfr:=RepC.d_inv hfr
 generalize hfe:a.eval fop=fv at hfr
 cases hfr with
 | fn cvs hl hcs =>
   have hcaps:All2 (RepV σ φ st.sto) (caps.map fun x=>.one (.d x)) cvs:=by
    refine All2.of_get (by simp[hl]) fun j x v hx hv=>?_
    simp only[X1,Option.map_eq_some_iff] at hx
    obtain⟨d,hd,rfl⟩:=hx
    exact RepC.d (hcs j d v hd hv)
   refine⟨f,_,_,rk ho hfe hC.fn,BF (o:=o) k ρ hr hd hC (by rw[vj,oU];exact (iT hr ha).append hcaps) hpass hcomp hk hfresh,?_⟩
   rintro e w' ⟨v,σ',φ',rfl,hr'⟩
   exact⟨v,_,σ',φ',rfl,hr',h⟩
theorem Ig{r:Nat→Nat}:∀ {avs:List AV},c8 avs=true→dF r avs=avs:=by
 have h1:∀ {cs:List AC},iY cs=true→kX r cs=cs:=by
  intro cs
  induction cs with
  | nil=>intro _;rfl
  | cons x l ih =>
    intro h
    cases x with
    | d x=>simp only[iY] at h;simp only[kX,jm,ih h]
    | _=>simp[iY] at h
 intro avs
 induction avs with
 | nil=>intro _;rfl
 | cons v l ih =>
   intro h
   simp only[c8,WX] at h
   simp only[dF,ih h.2]
   congr 1
   cases v with
   | one x=>cases x<;>first|rfl|simp[avD] at h
   | agg cs=>simp only[eC];rw[h1 h.1]
   | _=>simp[avD] at h
theorem Ep{s:Sto}:∀ {avs:List AV},c8 avs=true→dU s avs=true:=by
 have h1:∀ {cs:List AC},iY cs=true→fi s cs=true:=by
  intro cs
  induction cs with
  | nil=>intro _;rfl
  | cons x l ih =>
    intro h
    cases x with
    | d x=>simp only[iY] at h;simp only[fi,bY,ih h,XV]
    | _=>simp[iY] at h
 intro avs
 induction avs with
 | nil=>intro _;rfl
 | cons v l ih =>
   intro h
   simp only[c8,WX] at h
   simp only[dU,ih h.2,Bool.and_true]
   cases v with
   | one x=>cases x<;>first|rfl|simp[avD] at h
   | agg cs=>exact h1 h.1
   | _=>simp[avD] at h
theorem Gh{ops:Array Oper}{o:Oper}{rest:List Oper}{st:St}{K:St→Prop}{fop:Operand}{args:Array Operand}{ats:Array TypeId}{f:FuncId}{caps:List D}{avs:List AV}{rav:AV}{rsto:Sto}(k:Nat)
  (ho:o.op=.call { callee:=.value fop,args:=args,argTypes:=ats }) (hg:o.guard=none) (hd:aX c.n o.dst=true) (hf:ev st fop=some (.one (.d (.fn f caps))))
  (ha:evL st args.toList=some avs) (hD:c8 avs=true) (hC:CallA P f (avs++caps.map fun x=>.one (.d x)) [] rav rsto)
  (hk:(c7 [] rsto&&Nat.ble (k+16) 1000000&&dG rsto rav&&bt rsto rsto)=true) (hfresh:lz k st)
  (h:aa P c ops rest ⟨bI o.dst (eC (rn k []) rav) st.fr,eL (rn k []) st.sto rsto⟩ K):aa P c ops (o::rest) st K:=by
 simp only[WX] at hk
 have hcd:∀ {ds:List D},c8 (ds.map fun x=>AV.one (.d x))=true:=by
  intro ds
  induction ds with
  | nil=>rfl
  | cons x l ih=>simp only[XK,c8,avD,ih,XV]
 have hap:∀ {a b:List AV},c8 a=true→c8 b=true→c8 (a++b)=true:=by
  intro a b
  induction a with
  | nil=>intro _ h;exact h
  | cons x l ih =>
    intro h h'
    simp only[c8,WX] at h
    simp only[XL,c8,h.1,ih h.2 h',XV]
 refine mh k [] ho hg hd hf (cargs:=avs) (by rw[Ig hD];exact ha) hC trivial ?_ ?_ hfresh h
 ·have:∀ {l:Sto},CompatL st (rn k []) [] l:=by
   intro l
   induction l with
   | nil=>trivial
   | cons p l ih=>exact⟨fun i e h=>by simp[look] at h,ih⟩
  exact this
 ·simp only[gG,jV,iB,gU,bt,Bool.true_and,Bool.and_true,hk.1.1.1,hk.1.1.2,hk.1.2,hk.2,Ep (hap hD hcd)]
end Go.Abs
namespace Go.Abs
open Go
variable {P:Program} {c:Ctx} {T:Tab} {σ:Sig} {φ:Pl} {sto:Sto} {w:World}
def tV:D→Bool
 | .int _ _|.bool _|.str _|.nil|.raw _=>true
 | _=>false
def iu:List AC→Bool
 | []=>true
 | .d x::r=>tV x&&iu r
 | _::_=>false
def Dl:List (Bool×List AC)→Bool
 | []=>true
 | t::r=>iu t.2&&Dl r
def fZ:AV→Bool
 | .one (.d x)=>tV x
 | .agg cs=>iu cs
 | .tup ts=>Dl ts
 | _=>false
theorem Aa{σ':Sig}{x:D}{v:Value}(hf:tV x=true)(h:Rep σ x v):Rep σ' x v:=by
 cases h with
 | int h=>exact .int h
 | bool=>exact .bool
 | str h=>exact .str h
 | nil=>exact .nil
 | raw h=>exact .raw h
 | sl=>simp[tV] at hf
 | ptr=>simp[tV] at hf
 | fn=>simp[tV] at hf
theorem nE{σ':Sig}{φ':Pl}{sto':Sto}:∀ {cs:List AC} {vs:List Value},iu cs=true→All2 (RepC σ φ sto) cs vs→All2 (RepC σ' φ' sto') cs vs
 | [],[],_,_=>trivial
 | .d _::_,_::_,hd,h=>by
   simp only[iu,WX] at hd
   exact⟨by have h1:=RepC.d_inv h.1;exact .d (Aa hd.1 h1),nE hd.2 h.2⟩
 | [],_::_,_,h=>h.elim
 | _::_,[],_,h=>h.elim
 | .own _ _::_,_::_,hd,_=>by simp[iu] at hd
 | .sub _ _ _::_,_::_,hd,_=>by simp[iu] at hd
 | .ref _ _::_,_::_,hd,_=>by simp[iu] at hd
 | .rref _ _ _::_,_::_,hd,_=>by simp[iu] at hd
 | .junk::_,_::_,hd,_=>by simp[iu] at hd
 | .yl _::_,_::_,hd,_=>by simp[iu] at hd
 | .mapr _::_,_::_,hd,_=>by simp[iu] at hd
 | .bsl _ _ _::_,_::_,hd,_=>by simp[iu] at hd
theorem sM{σ':Sig}{φ':Pl}{sto':Sto}{v:AV}{u:Value}(hf:fZ v=true)(h:RepV σ φ sto v u):RepV σ' φ' sto' v u:=by
 cases v with
 | one c =>
   cases c with
   | d x=>replace h:=RepC.d_inv h;exact RepC.d (Aa hf h)
   | _=>simp[fZ] at hf
 | agg cs=>obtain⟨us,rfl,h⟩:=h;exact⟨us,rfl,nE hf h⟩
 | tup ts =>
   obtain⟨us,rfl,h⟩:=h
   refine⟨us,rfl,?_⟩
   simp only[fZ] at hf
   induction ts generalizing us with
   | nil=>cases us<;>simp_all[All2]
   | cons t ts ih =>
     cases us with
     | nil=>exact h.elim
     | cons u us =>
       simp only[Dl,WX] at hf
       refine⟨?_,ih hf.2 us h.2⟩
       obtain⟨g,cs⟩:=t
       cases g with
       | true=>obtain⟨vs,rfl,h1⟩:=h.1;exact⟨vs,rfl,nE hf.1 h1⟩
       | false=>exact nE hf.1 h.1
 | any=>simp[fZ] at hf
theorem j9{ops:Array Oper}{o:Oper}{rest:List Oper}{st ss:St}{K:St→Prop}{fop:Operand}{args:Array Operand}{ats:Array TypeId}{f:FuncId}{caps:List D}{avs:List AV}{rav:AV}{rsto:Sto}
  (ho:o.op=.call { callee:=.value fop,args:=args,argTypes:=ats }) (hg:o.guard=none) (hd:aX c.n o.dst=true) (hi:Imp c st ss) (hf:ev ss fop=some (.one (.d (.fn f caps))))
  (ha:evL ss args.toList=some avs) (hD:c8 avs=true) (hC:CallA P f (avs++caps.map fun x=>.one (.d x)) [] rav rsto) (hfl:fZ rav=true)
  (h:aa P c ops rest ⟨bI o.dst rav st.fr,st.sto⟩ K):aa P c ops (o::rest) st K:=by
 refine mw hg fun a w σ φ hr=>?_
 obtain⟨σs,φs,hs⟩:=hi a w σ φ hr
 have hfr:=aD hs hf
 replace hfr:=RepC.d_inv hfr
 generalize hfe:a.eval fop=fv at hfr
 cases hfr with
 | fn cs hl hcs =>
   have hinv0:HInv σs φs [] w:=⟨hs.inv.sig,fun _ _ h=>by simp[look] at h,fun _ _ _ _ _ _ h=>by simp[look] at h⟩
   have hargs:=vi (σ':=σs) (φ':=φs) (sto':=[]) (Sig.le_refl _) hD (iT hs ha)
   have hcaps:All2 (RepV σs φs []) (caps.map fun x=>.one (.d x)) cs:=by
    refine All2.of_get (by simp[hl]) fun j x v hx hv=>?_
    simp only[X1,Option.map_eq_some_iff] at hx
    obtain⟨d,hd,rfl⟩:=hx
    exact RepC.d (hcs j d v hd hv)
   refine⟨f,_,_,rk ho hfe hC.fn,hC.run w σs φs _ hinv0 (hargs.append hcaps),?_⟩
   rintro e w' ⟨v,σ',φ',rfl,hret⟩
   have hM:∀ b,¬ MOf φs [] b:=by rintro b ⟨id,e,p,h,_⟩;simp[look] at h
   have hblk:∀ b,b<w.heap.size→w'.heap[b]?=w.heap[b]?:=fun b hb=>hret.kept.block b hb (hM b)
   have hE:=Ext.refl φ st.sto
   have hinv:HInv σ φ st.sto w':=by
    refine⟨fun b cs hb=>?_,fun i e hi=>?_,hr.inv.inj⟩
    ·obtain⟨t,f,hh⟩:=hr.inv.sig b cs hb
     exact⟨t,f,(hblk b (Xm.1 hh).1).trans hh⟩
    ·have ho:=hr.inv.obj _ _ hi
     exact ho.ext (X:=fun _=>False) (Sig.le_refl _) hE (fun j hj=>hj.elim) rfl fun B cc hB=>⟨hblk B (ho.lt hB),rfl⟩
   refine⟨v,_,σ,φ,rfl,hr.putTo (st':=st) hd hr.le hr.fresh hinv hr.mine
    ⟨hret.kept.os.trans hr.fra.os,hret.kept.tape.trans hr.fra.tape,hret.kept.output.trans hr.fra.output,Xg hr.fra.size hret.kept.size,Xg hr.fra.drawn hret.kept.drawn,fun b hb hM'=>?_⟩ hr.pin
    (fun _=>sM hfl hret.rep) (fun s x _ hx=>⟨x,hx,fun z hz=>hz⟩),h⟩
   rw[hblk b (Xz hb hr.fra.size)]
   exact hr.fra.block b hb hM'
def lH:List AV→Option (List D)
 | []=>some []
 | .one (.d x)::r=>match lH r with|some l=>some (x::l)|none=>none
 | _::_=>none
theorem pc:∀ {vs:List AV} {ds:List D} {us:List Value},lH vs=some ds→All2 (RepV σ φ sto) vs us→All2 (Rep σ) ds us
 | [],ds,us,h,hr=>by
   simp[lH] at h;subst h
   cases us with
   | nil=>trivial
   | cons _ _=>exact hr.elim
 | v::r,ds,us,h,hr=>by
   cases us with
   | nil=>exact hr.elim
   | cons u us =>
     cases v with
     | one c =>
       cases c with
       | d x =>
         simp only[lH] at h
         split at h<;>simp at h
         rename_i l hl
         subst h
         have h1:=RepC.d_inv hr.1
         exact⟨h1,pc hl hr.2⟩
       | _=>simp[lH] at h
     | _=>simp[lH] at h
theorem xG{ops:Array Oper}{o:Oper}{rest:List Oper}{st:St}{K:St→Prop}{f:FuncId}{caps:Array Operand}{avs:List AV}{ds:List D}
  (ho:o.op=.makeFunc (.func f) #[] caps) (hg:o.guard=none) (hd:aX c.n o.dst=true) (ha:evL st caps.toList=some avs) (hds:lH avs=some ds)
  (h:aa P c ops rest ⟨bI o.dst (.one (.d (.fn f ds))) st.fr,st.sto⟩ K):aa P c ops (o::rest) st K :=
 bu hg fun a w σ φ hr=>by
  have h1:=pc hds (iT hr ha)
  refine⟨.func (.func f) #[] (caps.toList.map a.eval).toArray,w,_,σ,φ,?_,hr.put (v:=.one (.d (.fn f ds))) hd (RepC.d (.fn _ h1.length.symm fun j d v hd hv=>?_)),h⟩
  ·have e:(caps.toList.map a.eval).toArray=caps.map a.eval:=by rw[← Array.toList_map,Array.toArray_toList]
   rw[e]
   simp[execOp,ho,Instr.makeFunc]
  ·obtain⟨u,hu,hru⟩:=h1.get hd
   rw[hv] at hu;cases hu;exact hru
def bnd(st:St)(o:Option Operand)(d n:Nat):Prop :=
 match o with
 | none=>n=d
 | some x=>∃ k z,ev st x=some (.one (.d (.int k z)))∧z=(n:Int)
theorem me{a:Act}{st:St}(hr:Rel c st a w σ φ){o:Option Operand}{x:Operand}(ho:o=some x){d n y:Nat}(hb:bnd st o d n)(hn:n≤y)(code:BoundsCode) :
  (Instr.sliceBound (a.eval x) y code).run P w=.ok n w:=by
 subst ho
 obtain⟨k,z,hx,rfl⟩:=hb
 have:(0:Int)≤(n:Int)∧(n:Int)≤(y:Int):=⟨by omega,by omega⟩
 simp[Instr.sliceBound,qC hr hx,asIntOf,this]
theorem fo{a:Act}{st:St}(hr:Rel c st a w σ φ){lo hi:Option Operand}{l h len cap:Nat}(is:Bool)(hl:bnd st lo 0 l)(hh:bnd st hi len h)(h1:l≤h)(h2:h≤cap) :
  (Instr.sliceBounds is len cap (lo.map a.eval) (hi.map a.eval) none).run P w=.ok (l,h,cap) w:=by
 unfold Instr.sliceBounds
 cases hi with
 | none =>
   simp only[bnd] at hh;subst hh
   cases lo with
   | none=>simp only[bnd] at hl;subst hl;simp
   | some x=>simp[me hr rfl hl h1]
 | some y =>
   have hy:=fun code=>me (P:=P) hr rfl hh h2 code
   cases lo with
   | none=>simp only[bnd] at hl;subst hl;simp[hy]
   | some x=>simp[hy,me hr rfl hl h1]
theorem QE{k b:Nat}{xs:List (List D)}{A:Option Addr}{cap l h:Nat}{u:Value}(hu:u=.slice A xs.length cap)(hr:Rep σ (.sl k b xs) u)(h1:l≤h)(h2:h≤xs.length) :
  Rep σ (.sl k b ((xs.take h).drop l)) (.slice (if cap=l then A else A.map (·.add (l*k))) (h-l) (cap-l)):=by
 subst hu
 generalize hm:xs.length=m at hr
 cases hr with
 | sl vs hc h48 hb hk hA hh =>
   have hlen:((xs.take h).drop l).length=h-l:=by simp;omega
   have e:(Value.slice (if cap=l then A else A.map (·.add (l*k))) (h-l) (cap-l))=.slice (if cap=l then A else A.map (·.add (l*k))) ((xs.take h).drop l).length (cap-l):=by rw[hlen]
   rw[e]
   refine .sl (fun i j=>vs (l+i) j) (by omega) (by omega) (by rw[hlen];exact Xg (Xn _ (by omega)) hb) (fun x hx=>hk x (List.mem_of_mem_take (List.mem_of_mem_drop hx))) (fun h0=>?_) (fun i j x d hx hd=>?_)
   ·obtain⟨B,o,cells,rfl,hσ,hcell⟩:=hA (by omega)
    refine⟨B,o+l*k,cells,?_,hσ,fun i j hi hj=>?_⟩
    ·rw[if_neg (by omega)]
     simp[gJ]
    ·rw[← hcell (l+i) j (by omega) hj]
     congr 1
     rw[X2];omega
   ·have hx':xs[l+i]?=some x:=by
     rw[XC,XH] at hx
     split at hx
     ·exact hx
     ·cases hx
    exact hh _ _ _ _ hx' hd
theorem DT(hT:bg P T){ops:Array Oper}{o:Oper}{rest:List Oper}{st:St}{K:St→Prop}{k b k' b' l h:Nat}{t e:TypeId}{z:List D}{x:Operand}{lo hi:Option Operand}{xs:List (List D)}
  (ho:o.op=.slice t x lo hi none) (hg:o.guard=none) (hd:aX c.n o.dst=true) (ht:bc T t=some (e,k',b',z)) (hx:ev st x=some (.one (.d (.sl k b xs)))) (hk:Nat.beq k k'=true)
  (hl:bnd st lo 0 l) (hh:bnd st hi xs.length h) (h1:l≤h) (h2:h≤xs.length)
  (hok:aa P c ops rest ⟨bI o.dst (.one (.d (.sl k b ((xs.take h).drop l)))) st.fr,st.sto⟩ K):aa P c ops (o::rest) st K :=
 bu hg fun a w σ φ hr=>by
  obtain⟨i,zv,hu,hi',rfl,_⟩:=eb hT ht
  obtain rfl:=W4 hk
  have hrx:=aD hr hx
  replace hrx:=RepC.d_inv hrx
  have hshape:∃ A cap,a.eval x=.slice A xs.length cap∧xs.length≤cap:=by
   generalize a.eval x=ux at hrx
   cases hrx with
   | sl vs hc _ _ _ _ _=>exact⟨_,_,rfl,hc⟩
  obtain⟨A,cap,hux,hcap⟩:=hshape
  refine⟨_,w,_,σ,φ,?_,hr.put (v:=.one (.d (.sl i.size b ((xs.take h).drop l)))) hd (RepC.d (QE hux hrx h1 h2)),hok⟩
  have hb:=fo (P:=P) hr true hl hh h1 (Xg h2 hcap)
  simp only[execOp,ho,hux,Instr.sliceAt,Xl,Ym hu,Xb,Instr.slice,Option.map_none,hb,cF hi',Xt]
theorem yG(hT:bg P T){ops:Array Oper}{o:Oper}{rest:List Oper}{st:St}{K:St→Prop}{k b k' b' id n h:Nat}{t e:TypeId}{z:List D}{x:Operand}{lo hi:Option Operand}{xs:List (List D)}
  (ho:o.op=.slice t x lo hi none) (hg:o.guard=none) (hd:aX c.n o.dst=true) (ht:bc T t=some (e,k',b',z)) (hx:ev st x=some (.one (.own id n))) (hrow:look st.sto id=some (.row k b xs)) (hk:Nat.beq k k'=true)
  (hl:bnd st lo 0 0) (hh:bnd st hi n h) (h2:h≤xs.length) (h3:xs.length≤n∨h≤n)
  (hok:aa P c ops rest ⟨bI o.dst (.one (.own id h)) st.fr,st.sto⟩ K):aa P c ops (o::rest) st K :=
 bu hg fun a w σ φ hr=>by
  obtain⟨i,zv,hu,hi',rfl,_⟩:=eb hT ht
  obtain rfl:=W4 hk
  have hrx:RepC σ φ st.sto (.own id n) (a.eval x):=aD hr hx
  generalize hux:a.eval x=ux at hrx
  have hobj:=hr.inv.obj _ _ hrow
  cases hrx with
  | dead hxx _=>simp[bY,cy hrow] at hxx
  | ownNil hl' hp =>
    rw[hrow] at hl';cases hl'
    rcases hobj with⟨rfl,_⟩|⟨B,cap,_,_,_,h5,_⟩
    ·have:h=0:=by simpa using h2
     subst this
     refine⟨_,w,_,σ,φ,?_,hr.put (v:=.one (.own id 0)) hd (RepC.ownNil hrow hp),hok⟩
     have hb:=fo (P:=P) hr true hl hh (Xc _) (Xc 0)
     simp only[execOp,ho,hux,Instr.sliceAt,Xl,Ym hu,Xb,Instr.slice,Option.map_none,hb,cF hi',Xt]
     rfl
    ·rw[hp] at h5;cases h5
  | own hl' hn hp =>
    rename_i B cap xs'
    rw[hrow] at hl';cases hl'
    obtain⟨arr,ty,us,hh',hsz,hle,_⟩:=hobj.row_cells hp
    refine⟨.slice (some ⟨B,0,none⟩) h cap,w,_,σ,φ,?_,hr.put (v:=.one (.own id h)) hd (RepC.own hrow h2 hp),hok⟩
    have hb:=fo (P:=P) hr true hl hh (Xk _) (Xg h2 hle)
    simp only[execOp,ho,hux,Instr.sliceAt,Xl,Ym hu,Xb,Instr.slice,Option.map_none,hb,cF hi',Xt]
    simp[gJ]
theorem yF(hT:bg P T){ops:Array Oper}{o:Oper}{rest:List Oper}{st:St}{K:St→Prop}{k b k' b' id n l h:Nat}{t e:TypeId}{z:List D}{x:Operand}{lo hi:Option Operand}{xs:List (List D)}
  (ho:o.op=.slice t x lo hi none) (hg:o.guard=none) (hd:aX c.n o.dst=true) (ht:bc T t=some (e,k',b',z)) (hx:ev st x=some (.one (.own id n))) (hrow:look st.sto id=some (.row k b xs)) (hk:Nat.beq k k'=true)
  (hl:bnd st lo 0 l) (hh:bnd st hi n h) (h1:l≤h) (h2:h≤xs.length)
  (hok:aa P c ops rest ⟨bI o.dst (.one (.sub id l (h-l))) st.fr,st.sto⟩ K):aa P c ops (o::rest) st K :=
 bu hg fun a w σ φ hr=>by
  obtain⟨i,zv,hu,hi',rfl,_⟩:=eb hT ht
  obtain rfl:=W4 hk
  have hrx:RepC σ φ st.sto (.own id n) (a.eval x):=aD hr hx
  generalize hux:a.eval x=ux at hrx
  have hobj:=hr.inv.obj _ _ hrow
  cases hrx with
  | dead hxx _=>simp[bY,cy hrow] at hxx
  | ownNil hl' hp =>
    rw[hrow] at hl';cases hl'
    rcases hobj with⟨rfl,_⟩|⟨B,cap,_,_,_,h5,_⟩
    ·have:h=0:=by simpa using h2
     subst this
     have:l=0:=by omega
     subst this
     refine⟨_,w,_,σ,φ,?_,hr.put (v:=.one (.sub id 0 (0-0))) hd (RepC.sub (A:=none) (c:=0) hrow (by simp) (by simp) (by simp)),hok⟩
     have hb:=fo (P:=P) hr true hl hh (Xc _) (Xc 0)
     simp only[execOp,ho,hux,Instr.sliceAt,Xl,Ym hu,Xb,Instr.slice,Option.map_none,hb,cF hi',Xt]
     rfl
    ·rw[hp] at h5;cases h5
  | own hl' hn hp =>
    rename_i B cap xs'
    rw[hrow] at hl';cases hl'
    obtain⟨arr,ty,us,hh',hsz,hle,_⟩:=hobj.row_cells hp
    refine⟨_,w,_,σ,φ,?_,hr.put (v:=.one (.sub id l (h-l))) hd (RepC.sub (A:=if cap=l then some ⟨B,0,none⟩ else (some ⟨B,0,none⟩:Option Addr).map (·.add (l*i.size))) (c:=cap-l) hrow (by omega) (by omega) (fun h0=>⟨B,cap,hp,?_⟩)),hok⟩
    ·have hb:=fo (P:=P) hr true hl hh h1 (Xg h2 hle)
     simp only[execOp,ho,hux,Instr.sliceAt,Xl,Ym hu,Xb,Instr.slice,Option.map_none,hb,cF hi',Xt]
    ·rw[if_neg (by omega)]
     simp[gJ]
theorem yE(hT:bg P T){ops:Array Oper}{o:Oper}{rest:List Oper}{st:St}{K:St→Prop}{l h:Nat}{t:TypeId}{x:Operand}{lo hi:Option Operand}{s:List UInt8}
  (ho:o.op=.slice t x lo hi none) (hg:o.guard=none) (hd:aX c.n o.dst=true) (ht:iq T t=true) (hx:ev st x=some (.one (.d (.str s))))
  (hl:bnd st lo 0 l) (hh:bnd st hi s.length h) (h1:l≤h) (h2:h≤s.length)
  (hok:aa P c ops rest ⟨bI o.dst (.one (.d (.str ((s.drop l).take (h-l))))) st.fr,st.sto⟩ K):aa P c ops (o::rest) st K :=
 bu hg fun a w σ φ hr=>by
  have hu:=tf hT ht
  obtain⟨hux,h48⟩:=CG hr hx
  have e:(⟨((s.drop l).take (h-l)).toArray⟩:ByteArray)=(⟨s.toArray⟩:ByteArray).extract l h:=by
   have:=Lib.extract_data (⟨s.toArray⟩:ByteArray) l h
   simp only at this
   rw[← this]
  refine⟨.string ((⟨s.toArray⟩:ByteArray).extract l h),w,_,σ,φ,?_,hr.put (v:=.one (.d (.str ((s.drop l).take (h-l))))) hd (RepC.d (by rw[← e];exact .str (by simp;omega))),hok⟩
  have hsz:(⟨s.toArray⟩:ByteArray).size=s.length:=by simp[ByteArray.size]
  have hb:=fo (P:=P) (len:=s.length) (cap:=s.length) hr false hl hh h1 h2
  simp only[execOp,ho,hux,Instr.sliceAt,Xl,Ym hu,Xb,Instr.slice,Option.map_none,Option.isSome_none,XD,if_false,hsz,hb,Xt]
end Go.Abs
namespace Go.Abs
open Go
def Hc:D→Value→Bool
 | .int k n,.int k' n'=>kEq k k'&&decide (n=n')
 | .bool b,.bool b'=>b==b'
 | .str [],.string s=>s.data.toList.isEmpty
 | .nil,.slice none 0 0=>true
 | .raw .nilFunc,.nilFunc=>true
 | .raw .nilIface,.nilIface=>true
 | .raw (.map none),.map none=>true
 | .raw (.pointer none),.pointer none=>true
 | _,_=>false
theorem Lx{d:D}{v:Value}(h:Hc d v=true):v=jW d:=by
 unfold Hc at h
 split at h
 ·simp only[WX,Yi] at h
  obtain⟨h1,rfl⟩:=h
  obtain rfl:=gR h1
  rfl
 ·simp at h;subst h;rfl
 ·rename_i s
  have:s.data.toList=[]:=by simpa using h
  simp only[jW]
  congr 1
  obtain⟨l⟩:=s
  obtain⟨l⟩:=l
  simp at this
  subst this;rfl
 ·rfl
 ·rfl
 ·rfl
 ·rfl
 ·rfl
 ·simp at h
def oo:List D→List Value→Bool
 | [],[]=>true
 | d::ds,v::vs=>Hc d v&&oo ds vs
 | _,_=>false
theorem sW:∀ {ds:List D} {vs:List Value},oo ds vs=true→vs=ds.map jW
 | [],[],_=>rfl
 | d::ds,v::vs,h=>by
   simp only[oo,WX] at h
   rw[Lx h.1,sW h.2];rfl
 | [],_::_,h=>by simp[oo] at h
 | _::_,[],h=>by simp[oo] at h
def wR:Value→Bool
 | .agg _=>true
 | _=>false
def Mo(d:TD)(z:Value):Bool :=
 oo d.zero z.cells.toList&&d.zero.all iX&&Nat.beq d.zero.length d.size&&(if d.kind.isAgg then wR z else z.oneCell)
def yL(P:Program):List (Nat×Nat×Bool)→List Field→Bool
 | [],[]=>true
 | (o,s,g)::r,f::fs=>Nat.beq f.offset o&&(match P.info? f.type,P.underlying f.type with
     | some i,some u=>Nat.beq i.size s&&Nat.blt 0 s&&(dI u==g)
     | _,_=>false)&&yL P r fs
 | _,_=>false
def Hd(P:Program):TK→TypeDesc→Bool
 | .int k,.int k'=>kEq k k'
 | .bool,.bool=>true
 | .str,.string=>true
 | .slice e,.slice e'=>Nat.beq e e'
 | .struct fs,.struct fields=>yL P fs fields.toList
 | .array n e,.array n' e'=>Nat.beq n n'&&Nat.beq e e'
 | .ptr,.pointer _=>true
 | .map k e,.map k' e'=>Nat.beq k k'&&Nat.beq e e'
 | .func,.func _ _ _=>true
 | .other,u=>!dI u
 | _,_=>false
def tdB(P:Program)(t:TypeId)(d:TD):Bool :=
 match P.info? t,P.underlying t with
 | some i,some u=>Nat.beq i.size d.size&&Nat.beq i.bytes d.bytes&&Hd P d.kind u&&(match i.zero with|some z=>Mo d z|none=>false)
 | _,_=>false
def Ly(P:Program):Tab→Bool
 | []=>true
 | (t,d)::r=>tdB P t d&&Ly P r
theorem Fp{P:Program}:∀ {fs:List (Nat×Nat×Bool)} {l:List Field},yL P fs l=true→l.length=fs.length ∧
  ∀ (j:Nat) (o s:Nat) (g:Bool),fs[j]?=some (o,s,g)→∃ f,l[j]?=some f∧f.offset=o∧P.cellsOf f.type=s∧0<s∧(∃ i,P.info? f.type=some i)∧(∃ d',P.underlying f.type=some d'∧dI d'=g)
 | [],[],_=>⟨rfl,by simp⟩
 | (o,s,g)::r,f::fs,h=>by
   simp only[yL,WX] at h
   obtain⟨⟨h1,h2⟩,h3⟩:=h
   obtain⟨h4,h5⟩:=Fp h3
   refine⟨by simp[h4],fun j o' s' g' hj=>?_⟩
   cases j with
   | zero =>
     simp at hj
     obtain⟨rfl,rfl,rfl⟩:=hj
     split at h2
     ·rename_i i u hi hu
      simp only[WX,beq_iff_eq] at h2
      refine⟨f,rfl,W4 h1,?_,by have:=h2.1.2;simpa[Yb] using this,⟨i,hi⟩,u,hu,h2.2⟩
      simp only[Program.cellsOf,hi]
      exact W4 h2.1.1
     ·simp at h2
   | succ j =>
     obtain⟨f',h6,h7⟩:=h5 j o' s' g' (by simpa using hj)
     exact⟨f',by simpa using h6,h7⟩
 | [],_::_,h=>by simp[yL] at h
 | _::_,[],h=>by simp[yL] at h
theorem LA{P:Program}{k:TK}{u:TypeDesc}(h:Hd P k u=true):fj P k u:=by
 unfold Hd at h
 split at h
 ·obtain rfl:=gR h;rfl
 ·rfl
 ·rfl
 ·obtain rfl:=W4 h;rfl
 ·rename_i fs fields
  obtain⟨h1,h2⟩:=Fp h
  refine⟨fields,rfl,by simpa using h1,fun j o s g hj=>?_⟩
  obtain⟨f,h3,h4⟩:=h2 j o s g hj
  exact⟨f,by simpa using h3,h4⟩
 ·simp only[WX] at h
  obtain rfl:=W4 h.1
  obtain rfl:=W4 h.2;rfl
 ·exact⟨_,rfl⟩
 ·simp only[WX] at h
  obtain rfl:=W4 h.1
  obtain rfl:=W4 h.2;rfl
 ·exact⟨_,_,_,rfl⟩
 ·simpa[fj] using h
 ·simp at h
theorem EC{P:Program}:∀ {T:Tab},Ly P T=true→bg P T
 | [],_,_,_,h=>by simp[look] at h
 | (t,d)::r,hb,t',d',h=>by
   simp only[Ly,WX] at hb
   rcases ah h with⟨rfl,rfl⟩|⟨_,h⟩
   ·have h1:=hb.1
    unfold tdB at h1
    split at h1
    ·rename_i i u hi hu
     simp only[WX] at h1
     obtain⟨⟨⟨h2,h3⟩,h4⟩,h5⟩:=h1
     split at h5
     ·rename_i z hz
      unfold Mo at h5
      simp only[WX,XY] at h5
      obtain⟨⟨⟨h6,h7⟩,h8⟩,h9⟩:=h5
      have hz':=sW h6
      refine⟨i,u,z,hi,hu,W4 h2,W4 h3,hz,LA h4,by rw[← hz',Array.toArray_toList],h7,W4 h8,fun ha=>?_,fun ha=>?_⟩
      ·rw[if_pos ha] at h9
       cases z<;>simp[wR] at h9
       simp only[Value.cells] at hz'
       rw[← hz',Array.toArray_toList]
      ·rw[ha] at h9;simpa using h9
     ·simp at h5
    ·simp at h1
   ·exact EC hb.2 t' d' h
end Go.Abs
namespace Go.Abs
open Go
structure Tr where
 v:AV
 wr:List (Nat×Option AObj)
 ri:List Nat
 new:List Nat
def dh:List (Nat×Option AObj)→Sto→Sto
 | [],s=>s
 | (i,some o)::r,s=>cD i o (dh r s)
 | (i,none)::r,s=>del i (dh r s)
def jc:List (Nat×Option AObj)→Nat→Option (Option AObj)
 | [],_=>none
 | (i,o)::r,t=>if i=t then some o else jc r t
theorem fI:∀ {wr:List (Nat×Option AObj)} {s:Sto} {t:Nat},look (dh wr s) t=match jc wr t with|some o=>o|none=>look s t
 | [],_,_=>rfl
 | (i,some o)::r,s,t=>by
   simp only[dh,jc,dq]
   by_cases h:i=t
   ·subst h;rw[aH,if_pos rfl]
   ·rw[aP (fun e=>h e.symm),if_neg h];exact fI
 | (i,none)::r,s,t=>by
   simp only[dh,jc]
   by_cases h:i=t
   ·subst h
    rw[if_pos rfl]
    cases hl:look (del i (dh r s)) i with
    | none=>rfl
    | some e=>exact absurd rfl (ee hl).1
   ·rw[if_neg h,ff (fun e=>h e.symm)];exact fI
def ql:List Operand→List Nat
 | []=>[]
 | .tmp t::r=>t::ql r
 | _::r=>ql r
def iS(o:Op):List Nat:=ql o.operands.toList
def wA(ops:List Oper)(o:Oper):List Nat :=
 match o.guard with
 | none=>[]
 | some (j,_)=>match nth ops j with
   | some g=>match g.dst with
     | some d=>[d]
     | none=>[]
   | none=>[]
def Loc(P:Program)(c:Ctx)(o:Oper)(st:St)(tr:Tr):Prop :=
 ∀ (st2:St),(∀ t,t∈iS o.op→look st2.fr t=look st.fr t)→(∀ i,i∈tr.ri→look st2.sto i=look st.sto i) →
   (∀ i,i∈tr.new→look st2.sto i=none∧br i st2.fr=false∧aN i st2.sto=false) →
   ∀ (ops:Array Oper) (rest:List Oper) (K:St→Prop),aa P c ops rest ⟨bI o.dst tr.v st2.fr,dh tr.wr st2.sto⟩ K→aa P c ops ({ o with guard:=none }::rest) st2 K
def gl(ops:Array Oper)(st:St)(o:Oper)(run:Bool):Prop :=
 match o.guard with
 | none=>run=true
 | some (j,want)=>∃ y,gQ st ops j=some y∧run=(y==some want)
def Tr.none:Tr:=⟨.tup [],[],[],[]⟩
def rl(acc:List Nat):List Edge→Nat
 | []=>0
 | e::r=>if Region.binds .any e then 2^e.on ||| acc.getD e.on 0 ||| rl acc r else rl acc r
def xQ:List Oper→List Nat→List Nat
 | [],acc=>acc
 | o::r,acc=>xQ r (acc++[rl acc o.after.toList])
def lZ:Nat→List Oper→Bool
 | _,[]=>true
 | i,o::r=>o.after.toList.all (fun e=>!Region.binds .any e||Nat.blt e.on i)&&lZ (i+1) r
def oa:List (Nat×Option AObj)→List Nat
 | []=>[]
 | (i,_)::r=>i::oa r
def tB(id:Nat):List (Nat×Option AObj)→Bool
 | []=>false
 | (_,some o)::r=>o.men id||tB id r
 | (_,none)::r=>tB id r
def vk(x:Nat):List Nat→Bool
 | []=>false
 | y::r=>Nat.beq y x||vk x r
def wC(l:List Nat):List Nat→Bool
 | []=>false
 | y::r=>vk y l||wC l r
def tC(d:Option Nat)(l:List Nat):Bool:=match d with|some t=>vk t l|none=>false
def LP(d e:Option Nat):Bool:=match d,e with|some a,some b=>Nat.beq a b|_,_=>false
def Pg(anc:List Nat)(i j:Nat):Bool:=if i<j then (anc.getD j 0).testBit i else (anc.getD i 0).testBit j
def oW(ops:List Oper)(oi oj:Oper)(ti tj:Tr):Bool :=
 tC oi.dst (iS oj.op)||tC oi.dst (wA ops oj)||LP oi.dst oj.dst||wC (oa ti.wr) tj.ri||wC (oa ti.wr) (oa tj.wr)
def BG(ti:Tr)(id:Nat):Bool:=vk id (oa ti.wr)||ti.v.men id||tB id ti.wr
def As(ops:List Oper)(anc:List Nat)(i j:Nat)(oi oj:Oper)(ti tj:Tr):Bool :=
 (!oW ops oi oj ti tj||Pg anc i j)&&tj.new.all (fun id=>!BG ti id||(Nat.blt j i&&(anc.getD i 0).testBit j))
def xR(ops:List Oper)(anc:List Nat)(j:Nat)(oj:Oper)(tj:Tr):Nat→List Oper→List Tr→Bool
 | i,oi::r,ti::ts=>(Nat.beq i j||As ops anc i j oi oj ti tj)&&xR ops anc j oj tj (i+1) r ts
 | _,_,_=>true
def BH(ops:List Oper)(trs:List Tr)(anc:List Nat)(st:St):Nat→List Oper→List Tr→Bool
 | j,oj::r,tj::ts=>xR ops anc j oj tj 0 ops trs&&tj.new.all (fun id=>!bw st.sto id&&!br id st.fr&&!aN id st.sto)&&BH ops trs anc st (j+1) r ts
 | _,_,_=>true
def lU(ops:List Oper)(st:St)(trs:List Tr):Bool:=lZ 0 ops&&BH ops trs (xQ ops []) st 0 ops trs
def ak(P:Program)(c:Ctx)(ops:Array Oper)(st0:St):List Oper→St→List Tr→(St→Prop)→Prop
 | [],st,acc,K=>lU ops.toList st0 acc.reverse=true∧K st
 | o::r,st,acc,K=>∃ (run:Bool) (tr:Tr),gl ops st o run∧(run=true→Loc P c o st tr)∧(run=false→tr=Tr.none) ∧
     (run=false→aX c.n o.dst=true)∧ak P c ops st0 r ⟨bI o.dst tr.v st.fr,dh tr.wr st.sto⟩ (tr::acc) K
def Cs(ops:List Oper)(trs:List Tr)(st0:St)(L:Nat→Bool):Nat→St
 | 0=>st0
 | i+1=>match ops[i]?,trs[i]? with
   | some o,some t=>if L i then ⟨bI o.dst t.v (Cs ops trs st0 L i).fr,dh t.wr (Cs ops trs st0 L i).sto⟩ else Cs ops trs st0 L i
   | _,_=>Cs ops trs st0 L i
section
variable {ops:List Oper} {trs:List Tr} {st0:St}
theorem jy{dst:Option Nat}{v:AV}{fr:List (Nat×AV)}{t:Nat}:look (bI dst v fr) t=if dst=some t then some v else look fr t:=by
 cases dst with
 | none=>simp[bI]
 | some d =>
   simp only[bI,W5]
   by_cases h:d=t
   ·subst h;rw[aH,if_pos rfl]
   ·rw[aP (fun e=>h e.symm),if_neg h]
theorem kb{L L':Nat→Bool}{t:Nat}:∀ {m:Nat},(∀ i o,i<m→ops[i]?=some o→o.dst=some t→L i=L' i)→look (Cs ops trs st0 L m).fr t=look (Cs ops trs st0 L' m).fr t
 | 0,_=>rfl
 | m+1,h=>by
   have ih:=kb (m:=m) fun i o hi=>h i o (by omega)
   simp only[Cs]
   cases ho:ops[m]? with
   | none=>exact ih
   | some o =>
     cases ht:trs[m]? with
     | none=>exact ih
     | some tr =>
       simp only
       by_cases hd:o.dst=some t
       ·have:=h m o (by omega) ho hd
        cases hL:L m<;>rw[hL] at this<;>simp only[← this,XD,if_false,if_true]
        ·exact ih
        ·rw[jy,jy,if_pos hd,if_pos hd]
       ·cases hL:L m<;>cases hL':L' m<;>simp only[XD,if_false,if_true]<;>(try rw[jy,if_neg hd])<;>(try rw[jy,if_neg hd])<;>exact ih
theorem jv{L L':Nat→Bool}{id:Nat}:∀ {m:Nat},(∀ i t,i<m→trs[i]?=some t→jc t.wr id≠none→L i=L' i)→look (Cs ops trs st0 L m).sto id=look (Cs ops trs st0 L' m).sto id
 | 0,_=>rfl
 | m+1,h=>by
   have ih:=jv (m:=m) fun i t hi=>h i t (by omega)
   simp only[Cs]
   cases ho:ops[m]? with
   | none=>exact ih
   | some o =>
     cases ht:trs[m]? with
     | none=>exact ih
     | some tr =>
       simp only
       cases hw:jc tr.wr id with
       | some x =>
         have:=h m tr (by omega) ht (by rw[hw];simp)
         cases hL:L m<;>rw[hL] at this<;>simp only[← this,XD,if_false,if_true]
         ·exact ih
         ·rw[fI,fI,hw]
       | none =>
         cases hL:L m<;>cases hL':L' m<;>simp only[XD,if_false,if_true]<;>(try rw[fI,hw])<;>(try rw[fI,hw])<;>exact ih
theorem wD{L:Nat→Bool}{j t:Nat}{oj:Oper}{tj:Tr}(hj:ops[j]?=some oj)(htj:trs[j]?=some tj)(hL:L j=true)(hd:oj.dst=some t) :
  ∀ {m:Nat},j<m→(∀ i o,j<i→i<m→ops[i]?=some o→o.dst=some t→L i=false)→look (Cs ops trs st0 L m).fr t=some tj.v
 | 0,h,_=>by omega
 | m+1,hjm,h=>by
   simp only[Cs]
   by_cases e:j=m
   ·subst e
    simp only[hj,htj,hL,if_true]
    rw[jy,if_pos hd]
   ·have ih:=wD hj htj hL hd (m:=m) (by omega) fun i o h1 h2=>h i o h1 (by omega)
    cases ho:ops[m]? with
    | none=>exact ih
    | some o =>
      cases ht:trs[m]? with
      | none=>exact ih
      | some tr =>
        simp only
        by_cases hdm:o.dst=some t
        ·have:=h m o (by omega) (by omega) ho hdm
         simp only[this,XD,if_false];exact ih
        ·split
         ·rw[jy,if_neg hdm];exact ih
         ·exact ih
theorem ud{L:Nat→Bool}{j id:Nat}{oj:Oper}{tj:Tr}{x:Option AObj}(hj:ops[j]?=some oj)(htj:trs[j]?=some tj)(hL:L j=true)(hd:jc tj.wr id=some x) :
  ∀ {m:Nat},j<m→(∀ i t,j<i→i<m→trs[i]?=some t→jc t.wr id≠none→L i=false)→look (Cs ops trs st0 L m).sto id=x
 | 0,h,_=>by omega
 | m+1,hjm,h=>by
   simp only[Cs]
   by_cases e:j=m
   ·subst e
    simp only[hj,htj,hL,if_true]
    rw[fI,hd]
   ·have ih:=ud hj htj hL hd (m:=m) (by omega) fun i t h1 h2=>h i t h1 (by omega)
    cases ho:ops[m]? with
    | none=>exact ih
    | some o =>
      cases ht:trs[m]? with
      | none=>exact ih
      | some tr =>
        simp only
        cases hw:jc tr.wr id with
        | some y =>
          have:=h m tr (by omega) (by omega) ht (by rw[hw];simp)
          simp only[this,XD,if_false];exact ih
        | none =>
          split
          ·rw[fI,hw];exact ih
          ·exact ih
end
theorem h3H{x1 x2 x3 x4 x5 x6 x7 x8 x9 x10 x11 x12 x13 x14}(h:ak x1 x2 x3 x4 (Oper.mk x5 (Op.call x6) x7 x8 x9 (x10)::x11) x12 x13 x14):ak x1 x2 x3 x4 (Oper.mk x5 (Op.call x6) x7 x8 x9 (x10)::x11) x12 x13 x14:=h
theorem h4H{x1 x2 x3 x4 x5 x6 x7 x8}(h:ak x1 x2 x3 x4 x5 x6 x7 x8):ak x1 x2 x3 x4 x5 x6 x7 x8:=h
theorem FG{x1 x2 x3 x4 x5 x6 x7 x8 x9 x10 x11 x12 x13 x14 x15 x16}(h:ak x1 x2 x3 x4 (Oper.mk x5 (Op.indexAddr x6 x7 x8) x9 x10 x11 (x12)::x13) x14 x15 x16):ak x1 x2 x3 x4 (Oper.mk x5 (Op.indexAddr x6 x7 x8) x9 x10 x11 (x12)::x13) x14 x15 x16:=h
theorem JW{x1 x2 x3 x4 x5 x6 x7 x8 x9 x10 x11 x12 x13 x14 x15}(h:ak x1 x2 x3 x4 (Oper.mk x5 (Op.load x6 x7) x8 x9 x10 (x11)::x12) x13 x14 x15):ak x1 x2 x3 x4 (Oper.mk x5 (Op.load x6 x7) x8 x9 x10 (x11)::x12) x13 x14 x15:=h
theorem OG{x1 x2 x3 x4 x5 x6 x7 x8 x9 x10 x11 x12 x13 x14 x15 x16}(h:ak x1 x2 x3 x4 (Oper.mk x5 (Op.store x6 x7 x8) x9 x10 x11 (x12)::x13) x14 x15 x16):ak x1 x2 x3 x4 (Oper.mk x5 (Op.store x6 x7 x8) x9 x10 x11 (x12)::x13) x14 x15 x16:=h
theorem OO{x1 x2 x3 x4 x5 x6 x7 x8 x9 x10 x11 x12 x13 x14}(h:ak x1 x2 x3 x4 (Oper.mk x5 (x6) x7 x8 x9 (some x10)::x11) x12 x13 x14):ak x1 x2 x3 x4 (Oper.mk x5 (x6) x7 x8 x9 (some x10)::x11) x12 x13 x14:=h
theorem Tz{x1 x2 x3 x4 x5 x6 x7 x8 x9 x10 x11 x12 x13 x14 x15 x16 x17}(h:ak x1 x2 x3 x4 (Oper.mk x5 (Op.binOp .shl x6 x7 x8 x9) x10 x11 x12 (x13)::x14) x15 x16 x17):ak x1 x2 x3 x4 (Oper.mk x5 (Op.binOp .shl x6 x7 x8 x9) x10 x11 x12 (x13)::x14) x15 x16 x17:=h
theorem TL{x1 x2 x3 x4 x5 x6 x7 x8 x9 x10 x11 x12 x13 x14 x15 x16 x17}(h:ak x1 x2 x3 x4 (Oper.mk x5 (Op.binOp .mul x6 x7 x8 x9) x10 x11 x12 (x13)::x14) x15 x16 x17):ak x1 x2 x3 x4 (Oper.mk x5 (Op.binOp .mul x6 x7 x8 x9) x10 x11 x12 (x13)::x14) x15 x16 x17:=h
theorem Ph{x1 x2 x3 x4 x5 x6 x7 x8 x9 x10 x11 x12 x13 x14 x15 x16 x17}(h:ak x1 x2 x3 x4 (Oper.mk x5 (Op.binOp .add x6 x7 x8 x9) x10 x11 x12 (x13)::x14) x15 x16 x17):ak x1 x2 x3 x4 (Oper.mk x5 (Op.binOp .add x6 x7 x8 x9) x10 x11 x12 (x13)::x14) x15 x16 x17:=h
theorem TM{x1 x2 x3 x4 x5 x6 x7 x8 x9 x10 x11 x12 x13 x14 x15 x16 x17}(h:ak x1 x2 x3 x4 (Oper.mk x5 (Op.binOp .sub x6 x7 x8 x9) x10 x11 x12 (x13)::x14) x15 x16 x17):ak x1 x2 x3 x4 (Oper.mk x5 (Op.binOp .sub x6 x7 x8 x9) x10 x11 x12 (x13)::x14) x15 x16 x17:=h
theorem Kr{x1 x2 x3 x4 x5 x6 x7 x8 x9 x10 x11 x12 x13 x14 x15 x16}(h:ak x1 x2 x3 x4 (Oper.mk x5 (Op.buildSlice x6 x7 x8) x9 x10 x11 (x12)::x13) x14 x15 x16):ak x1 x2 x3 x4 (Oper.mk x5 (Op.buildSlice x6 x7 x8) x9 x10 x11 (x12)::x13) x14 x15 x16:=h
theorem Ks{x1 x2 x3 x4 x5 x6 x7 x8 x9 x10 x11 x12 x13 x14 x15 x16 x17}(h:ak x1 x2 x3 x4 (Oper.mk x5 (Op.binOp .rem x6 x7 x8 x9) x10 x11 x12 (x13)::x14) x15 x16 x17):ak x1 x2 x3 x4 (Oper.mk x5 (Op.binOp .rem x6 x7 x8 x9) x10 x11 x12 (x13)::x14) x15 x16 x17:=h
theorem Pk{x1 x2 x3 x4 x5 x6 x7 x8 x9 x10 x11 x12 x13 x14 x15 x16 x17}(h:ak x1 x2 x3 x4 (Oper.mk x5 (Op.binOp .quo x6 x7 x8 x9) x10 x11 x12 (x13)::x14) x15 x16 x17):ak x1 x2 x3 x4 (Oper.mk x5 (Op.binOp .quo x6 x7 x8 x9) x10 x11 x12 (x13)::x14) x15 x16 x17:=h
theorem TN{x1 x2 x3 x4 x5 x6 x7 x8 x9 x10 x11 x12 x13 x14 x15 x16}(h:ak x1 x2 x3 x4 (Oper.mk x5 (Op.index x6 x7 x8) x9 x10 x11 (x12)::x13) x14 x15 x16):ak x1 x2 x3 x4 (Oper.mk x5 (Op.index x6 x7 x8) x9 x10 x11 (x12)::x13) x14 x15 x16:=h
end Go.Abs
