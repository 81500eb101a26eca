import Derived.Tactics2
import Derived.TacticsIn
import Derived.Test.YtpejdgkaapnekaaGreatGP0
set_option linter.unusedVariables false
set_option linter.unusedSimpArgs false
set_option linter.unnecessarySimpa false
set_option maxHeartbeats 1000000
namespace Go.Abs
open Go
variable {P : Program} {σ σ' : Sig} {φ φ' : Pl} {sto sto' : Sto} {w w' : World}
def AC.men(id : Nat) : AC→Bool
 | .own i _ | .sub i _ _ | .ref i _ | .rref i _ _ | .yl i | .mapr i | .bsl i _ _=>Nat.beq i id
 | _=>false
def b6(id : Nat) : List AC→Bool
 | []=>false
 | c::r=>c.men id || b6 id r
def fl(id : Nat) : List (Bool×List AC)→Bool
 | []=>false
 | t::r=>b6 id t.2 || fl id r
def AV.men(id : Nat) : AV→Bool
 | .one c=>c.men id
 | .agg cs=>b6 id cs
 | .tup ts=>fl id ts
 | .any=>false
def bn(id : Nat) : List (Nat×AV)→Bool
 | []=>false
 | p::r=>p.2.men id || bn id r
def AObj.men(id : Nat)(e : AObj) : Bool:=match e with | .box cs=>b6 id cs | .loop _ fr _ _=>bn id fr | _=>false
def aM(id : Nat) : Sto→Bool
 | []=>false
 | p::r=>p.2.men id || aM id r
def St.men(id : Nat)(st : St) : Bool:=bn id st.fr || aM id st.sto
theorem ah{α : Type}{l : List (Nat×α)}{s t : Nat}{v u : α}(h : look ((t,u)::l) s = some v) : (s = t∧v = u)∨(s≠t∧look l s = some v):=by
 simp only [look] at h
 cases hb : Nat.beq t s with
 | true=>simp [hb] at h; exact .inl ⟨(Nat.eq_of_beq_eq_true hb).symm,h.symm⟩
 | false =>
   simp [hb] at h
   refine .inr ⟨?_,h⟩
   rintro rfl
   rw [Nat.beq_refl] at hb; cases hb
theorem aI{α : Type}{l : List (Nat×α)}{t : Nat}{u : α} : look ((t,u)::l) t = some u:=by simp [look,Nat.beq_refl]
theorem aN{α : Type}{l : List (Nat×α)}{s t : Nat}{u : α}(h : s≠t) : look ((t,u)::l) s = look l s:=by
 simp only [look]
 cases hb : Nat.beq t s with
 | true=>exact absurd (Nat.eq_of_beq_eq_true hb).symm h
 | false=>rfl
theorem gh{id : Nat} : ∀ {sto : Sto},aM id sto = false→∀ {i : Nat} {e : AObj},look sto i = some e→e.men id = false
 | [],_,_,_,h=>by simp [look] at h
 | (j,e')::r,hm,i,e,h=>by
   simp only [aM,Bool.or_eq_false_iff] at hm
   rcases ah h with ⟨_,rfl⟩ | ⟨_,h⟩
   ·exact hm.1
   ·exact gh hm.2 h
theorem dy{id : Nat} : ∀ {fr : List (Nat×AV)},bn id fr = false→∀ {i : Nat} {v : AV},look fr i = some v→v.men id = false
 | [],_,_,_,h=>by simp [look] at h
 | (j,e')::r,hm,i,e,h=>by
   simp only [bn,Bool.or_eq_false_iff] at hm
   rcases ah h with ⟨_,rfl⟩ | ⟨_,h⟩
   ·exact hm.1
   ·exact dy hm.2 h
def compat : AObj→AObj→Prop
 | .box _,.box _=>True
 | .row k b xs,.row k' b' xs'=>k = k'∧b = b'∧xs.length≤xs'.length
 | .map kg vg _,.map kg' vg' _=>kg = kg'∧vg = vg'
 | .loop _ _ _ _,.loop _ _ _ _=>True
 | _,_=>False
def Ext(X : Nat→Prop)(φ φ' : Pl)(sto sto' : Sto) : Prop :=
 ∀ id,¬ X id→look sto' id = none∨∃ e,look sto id = some e∧φ' id = φ id∧∃ e',look sto' id = some e'∧compat e e'
theorem iq{id : Nat}(h : look sto id = none) : bf sto id = false:=by simp [bf,h]
theorem RepC.ext{X : Nat→Prop}(hs : σ.le σ')(he : Ext X φ φ' sto sto'){c : AC}{v : Value}(hm : ∀ i,X i→c.men i = false)(h : RepC σ φ sto c v) : RepC σ' φ' sto' c v:=by
 have hone:=h.oneCell
 have key : ∀ {id : Nat},(∀ i,X i→Nat.beq id i = false)→¬ X id:=by
  intro id hb e
  have:=hb id e
  rw [Nat.beq_refl] at this; cases this
 have two : ∀ {id : Nat} {o : AObj},(∀ i,X i→Nat.beq id i = false)→look sto id = some o→look sto' id = none∨(φ' id = φ id∧∃ e',look sto' id = some e'∧compat o e'):=by
  intro id o hb hl
  rcases he id (key hb) with h | ⟨e,h1,h2⟩
  ·exact .inl h
  ·rw [hl] at h1; cases h1; exact .inr h2
 cases h with
 | d h=>exact .d (h.mono hs)
 | ownNil h hp =>
   rename_i id k b xs
   rcases two hm h with h0 | ⟨h1,o,h2,h3⟩
   ·exact .dead (iq h0) hone
   ·cases o with
    | row k' b' xs'=>exact .ownNil h2 (h1.trans hp)
    | _=>exact h3.elim
 | own h hn hp =>
   rename_i id n k b B cap xs
   rcases two hm h with h0 | ⟨h1,o,h2,h3⟩
   ·exact .dead (iq h0) hone
   ·cases o with
    | row k' b' xs'=>exact .own h2 (Nat.le_trans hn h3.2.2) (h1.trans hp)
    | _=>exact h3.elim
 | sub h hn hc hA =>
   rename_i id lo n k b c' xs A
   rcases two hm h with h0 | ⟨h1,o,h2,h3⟩
   ·exact .dead (iq h0) hone
   ·cases o with
    | row k' b' xs' =>
      obtain ⟨rfl,rfl,h3⟩:=h3
      exact .sub h2 (Nat.le_trans hn h3) hc (fun h0=>by rw [h1]; exact hA h0)
    | _=>exact h3.elim
 | ref h hp =>
   rename_i id off B cap cs
   rcases two hm h with h0 | ⟨h1,o,h2,h3⟩
   ·exact .dead (iq h0) hone
   ·cases o with
    | box cs'=>exact .ref h2 (h1.trans hp)
    | _=>exact h3.elim
 | rref h hp =>
   rename_i id i off k b B cap xs
   rcases two hm h with h0 | ⟨h1,o,h2,h3⟩
   ·exact .dead (iq h0) hone
   ·cases o with
    | row k' b' xs' =>
      obtain ⟨rfl,rfl,h3⟩:=h3
      exact .rref h2 (h1.trans hp)
    | _=>exact h3.elim
 | yl h hp =>
   rcases two hm h with h0 | ⟨h1,o,h2,h3⟩
   ·exact .dead (iq h0) hone
   ·cases o with
    | loop=>exact .yl h2 (h1.trans hp)
    | _=>exact h3.elim
 | mapr h hp =>
   rcases two hm h with h0 | ⟨h1,o,h2,h3⟩
   ·exact .dead (iq h0) hone
   ·cases o with
    | map=>exact .mapr h2 (h1.trans hp)
    | _=>exact h3.elim
 | bsl h hp =>
   rcases two hm h with h0 | ⟨h1,o,h2,h3⟩
   ·exact .dead (iq h0) hone
   ·cases o with
    | box cs'=>exact .bsl h2 (h1.trans hp)
    | _=>exact h3.elim
 | junk h=>exact .junk h
 | dead hx _ =>
   refine .dead ?_ hone
   have gen : ∀ {id : Nat},(∀ i,X i→Nat.beq id i = false)→bf sto id = false→bf sto' id = false:=by
    intro id hb hk
    rcases he id (key hb) with h | ⟨e,h1,h2⟩
    ·exact iq h
    ·simp [bf,h1] at hk
   cases c with
   | own i n=>exact gen hm hx
   | sub i lo n=>exact gen hm hx
   | ref i off=>exact gen hm hx
   | rref i j off=>exact gen hm hx
   | yl i=>exact gen hm hx
   | mapr i=>exact gen hm hx
   | bsl i off n=>exact gen hm hx
   | d x=>simp [bx] at hx
   | junk=>simp [bx] at hx
theorem jb{X : Nat→Prop}(hs : σ.le σ')(he : Ext X φ φ' sto sto') : ∀ {cs : List AC} {vs : List Value},(∀ i,X i→b6 i cs = false)→All2 (RepC σ φ sto) cs vs→All2 (RepC σ' φ' sto') cs vs
 | [],[],_,_=>trivial
 | c::cs,v::vs,hm,h=>by
   have h1 : ∀ i,X i→c.men i = false:=fun i hi=>by have:=hm i hi; simp only [b6,Bool.or_eq_false_iff] at this; exact this.1
   have h2 : ∀ i,X i→b6 i cs = false:=fun i hi=>by have:=hm i hi; simp only [b6,Bool.or_eq_false_iff] at this; exact this.2
   exact ⟨h.1.ext hs he h1,jb hs he h2 h.2⟩
 | [],_::_,_,h=>h.elim
 | _::_,[],_,h=>h.elim
theorem RepT.ext{X : Nat→Prop}(hs : σ.le σ')(he : Ext X φ φ' sto sto'){t : Bool×List AC}{v : Value}(hm : ∀ i,X i→b6 i t.2 = false)(h : RepT σ φ sto t v) : RepT σ' φ' sto' t v:=by
 obtain ⟨g,cs⟩:=t
 cases g with
 | true=>obtain ⟨vs,rfl,h⟩:=h; exact ⟨vs,rfl,jb hs he hm h⟩
 | false=>exact jb hs he hm h
theorem RepV.ext{X : Nat→Prop}(hs : σ.le σ')(he : Ext X φ φ' sto sto'){t : AV}{v : Value}(hm : ∀ i,X i→t.men i = false)(h : RepV σ φ sto t v) : RepV σ' φ' sto' t v:=by
 cases t with
 | one c=>exact RepC.ext hs he hm h
 | agg cs=>obtain ⟨vs,rfl,h⟩:=h; exact ⟨vs,rfl,jb hs he hm h⟩
 | tup ts =>
   obtain ⟨vs,rfl,h⟩:=h
   refine ⟨vs,rfl,?_⟩
   have : ∀ {ts : List (Bool×List AC)} {vs : List Value},(∀ i,X i→fl i ts = false)→All2 (RepT σ φ sto) ts vs→All2 (RepT σ' φ' sto') ts vs:=by
    intro ts
    induction ts with
    | nil=>intro vs _ h; cases vs <;> simp_all [All2]
    | cons t ts ih =>
      intro vs hm h
      cases vs with
      | nil=>exact h.elim
      | cons v vs =>
        have h1 : ∀ i,X i→b6 i t.2 = false:=fun i hi=>by have:=hm i hi; simp only [fl,Bool.or_eq_false_iff] at this; exact this.1
        have h2 : ∀ i,X i→fl i ts = false:=fun i hi=>by have:=hm i hi; simp only [fl,Bool.or_eq_false_iff] at this; exact this.2
        exact ⟨h.1.ext hs he h1,ih h2 h.2⟩
   exact this hm h
 | any=>trivial
theorem RepD.mono{g : Bool}{ds : List D}{v : Value}(hs : σ.le σ')(h : RepD σ g ds v) : RepD σ' g ds v:=by
 cases g with
 | true=>obtain ⟨vs,e,h⟩:=h; exact ⟨vs,e,h.mono fun _ _ h=>h.mono hs⟩
 | false=>exact All2.mono (fun _ _ h=>Rep.mono hs h) h
theorem RepE.mono{kg vg : Bool}(hs : σ.le σ') : ∀ {i : Nat} {ps : List (List D×List D)} {es : List MapEntry},RepE σ kg vg i ps es→RepE σ' kg vg i ps es
 | _,[],[],_=>trivial
 | _,_::_,_::_,h=>⟨h.1.mono hs,h.2.1.mono hs,h.2.2.1,RepE.mono hs h.2.2.2⟩
 | _,[],_::_,h=>h.elim
 | _,_::_,[],h=>h.elim
theorem compat.refl(o : AObj) : compat o o:=by cases o <;> simp [compat]
theorem Ext.of_some{X : Nat→Prop}(h : ∀ id e,¬ X id→look sto id = some e→φ' id = φ id∧∃ e',look sto' id = some e'∧compat e e')(h0 : ∀ id,¬ X id→look sto id = none→look sto' id = none) : Ext X φ φ' sto sto':=by
 intro id hX
 cases hl : look sto id with
 | none=>exact .inl (h0 id hX hl)
 | some e=>exact .inr ⟨e,rfl,h id e hX hl⟩
theorem Ext.refl(φ : Pl)(sto : Sto) : Ext (fun _=>False) φ φ sto sto:=Ext.of_some (fun _ e _ h=>⟨rfl,e,h,compat.refl e⟩) (fun _ _ h=>h)
theorem ObjRep.ext{X : Nat→Prop}(hs : σ.le σ')(he : Ext X φ φ' sto sto'){id : Nat}{e : AObj}(hm : ∀ i,X i→e.men i = false)
  (hφ : φ' id = φ id) (hw : ∀ B c,φ id = some (B,c)→w'.heap[B]? = w.heap[B]?∧σ' B = σ B) (h : ObjRep σ φ sto w id e) : ObjRep σ' φ' sto' w' id e:=by
 cases e with
 | box cs =>
   obtain ⟨B,c,vs,t,h1,h2,h3,h4⟩:=h
   obtain ⟨h5,h6⟩:=hw B c h1
   exact ⟨B,c,vs,t,hφ.trans h1,h5.trans h2,jb hs he hm h3,h6.trans h4⟩
 | row k b xs =>
   rcases h with ⟨h1,h2⟩ | ⟨B,cap,arr,t,vs,h1,h2,h3,h4,h5,h6,h7,h8,h9,h10⟩
   ·exact .inl ⟨h1,hφ.trans h2⟩
   ·obtain ⟨ha,hb⟩:=hw B cap h1
    exact .inr ⟨B,cap,arr,t,vs,hφ.trans h1,ha.trans h2,h3,h4,h5,h6,h7,h8,fun i j x d hx hd=>(h9 i j x d hx hd).mono hs,hb.trans h10⟩
 | map kg vg es =>
   obtain ⟨B,c,ents,h1,h2,h3,h4⟩:=h
   obtain ⟨h5,h6⟩:=hw B c h1
   exact ⟨B,c,ents,hφ.trans h1,h5.trans h2,h3.mono hs,h6.trans h4⟩
 | loop li fr s p =>
   obtain ⟨B,c,r,h1,h2,h3,h3',h4⟩:=h
   obtain ⟨h5,h6⟩:=hw B c h1
   exact ⟨B,c,r,hφ.trans h1,h5.trans h2,h3,fun s v hv=>by
    obtain ⟨u,hu,hru⟩:=h3' s v hv
    exact ⟨u,hu,hru.ext hs he fun i hi=>dy (hm i hi) hv⟩,h6.trans h4⟩
theorem ObjRep.lt{id : Nat}{e : AObj}(h : ObjRep σ φ sto w id e){p : Nat×Nat}(hp : φ id = some p) : p.1 < w.heap.size:=by
 have key : ∀ {B : Nat} {o : Obj},w.heap[B]? = some o→B < w.heap.size:=fun h=>(Array.getElem?_eq_some_iff.1 h).1
 cases e with
 | box cs =>
   obtain ⟨B,c,vs,t,h1,h2,_⟩:=h
   rw [hp] at h1; cases h1; exact key h2
 | row k b xs =>
   rcases h with ⟨_,h2⟩ | ⟨B,cap,arr,t,vs,h1,h2,_⟩
   ·rw [hp] at h2; cases h2
   ·rw [hp] at h1; cases h1; exact key h2
 | map kg vg es =>
   obtain ⟨B,c,ents,h1,h2,_⟩:=h
   rw [hp] at h1; cases h1; exact key h2
 | loop li fr s p =>
   obtain ⟨B,c,r,h1,h2,_⟩:=h
   rw [hp] at h1; cases h1; exact key h2
theorem ObjRep.sig{id : Nat}{e : AObj}(h : ObjRep σ φ sto w id e){B c : Nat}(hp : φ id = some (B,c))   : σ B = none:=by
 cases e with
 | box cs =>
   obtain ⟨B',c',vs,t,h1,_,_,h4⟩:=h
   rw [hp] at h1; cases h1; simpa using h4
 | row k b xs =>
   rcases h with ⟨_,h2⟩ | ⟨B',cap,arr,t,vs,h1,_,_,_,_,_,_,_,_,h10⟩
   ·rw [hp] at h2; cases h2
   ·rw [hp] at h1; cases h1; simpa using h10
 | map kg vg es =>
   obtain ⟨B',c',ents,h1,_,_,h4⟩:=h
   rw [hp] at h1; cases h1; exact h4
 | loop li fr s p =>
   obtain ⟨B',c',r,h1,_,_,_,h4⟩:=h
   rw [hp] at h1; cases h1; exact h4
def bL(φ : Pl)(id : Nat)(p : Option (Nat×Nat)) : Pl:=fun i=>if i = id then p else φ i
theorem aK{id : Nat}{p : Option (Nat×Nat)} : bL φ id p id = p:=by simp [bL]
theorem aZ{id i : Nat}{p : Option (Nat×Nat)}(h : i≠id) : bL φ id p i = φ i:=by simp [bL,h]
theorem Ext.add{id : Nat}{e : AObj}{p : Option (Nat×Nat)} : Ext (· = id) φ (bL φ id p) sto ((id,e)::sto) :=
 Ext.of_some (fun _ e' hi h=>⟨aZ hi,e',(aN hi).trans h,compat.refl _⟩) (fun _ hi h=>(aN hi).trans h)
theorem HInv.add(h : HInv σ φ sto w){id : Nat}{e : AObj}{cap : Nat}{o : Obj}(hm : aM id sto = false)
  (hobj : ObjRep σ (bL φ id (some (w.heap.size,cap))) ((id,e)::sto) (w.alloc o) id e) :
  HInv σ (bL φ id (some (w.heap.size,cap))) ((id,e)::sto) (w.alloc o):=by
 have hheap : ∀ B,B < w.heap.size→(w.alloc o).heap[B]? = w.heap[B]?:=fun B hB=>RowKit.Below.heap_alloc w o B hB
 have hltσ : ∀ b cs,σ b = some cs→b < w.heap.size:=fun b cs hb=>by
  obtain ⟨t,f,hh⟩:=h.sig b cs hb
  exact (Array.getElem?_eq_some_iff.1 hh).1
 refine ⟨fun b cs hb=>?_,fun i e' hl=>?_,fun i i' e1 e2 p p' h1 h2 hne hp hp'=>?_⟩
 ·obtain ⟨t,f,hh⟩:=h.sig b cs hb
  exact ⟨t,f,(hheap b (hltσ b cs hb)).trans hh⟩
 ·rcases ah hl with ⟨rfl,rfl⟩ | ⟨hne,hl⟩
  ·exact hobj
  ·have ho:=h.obj i e' hl
   refine ho.ext (X:=(· = id)) (Sig.le_refl _) Ext.add (fun j hj=>by cases hj; exact gh hm hl) (aZ hne) fun B c hB=>⟨hheap B (ho.lt hB),rfl⟩
 ·rcases ah h1 with ⟨rfl,rfl⟩ | ⟨hn1,k1⟩
  ·rcases ah h2 with ⟨rfl,rfl⟩ | ⟨hn2,h2⟩
   ·exact absurd rfl hne
   ·rw [aK] at hp; cases hp
    rw [aZ hn2] at hp'
    have:=(h.obj _ _ h2).lt hp'
    intro e; simp only at e; omega
  ·rcases ah h2 with ⟨h3,h4⟩ | ⟨hn2,h2⟩
   ·subst h3; subst h4
    rw [aK] at hp'; cases hp'
    rw [aZ hn1] at hp
    have:=(h.obj _ _ k1).lt hp
    intro e; simp only at e; omega
   ·rw [aZ hn1] at hp; rw [aZ hn2] at hp'
    exact h.inj _ _ _ _ _ _ k1 h2 hne hp hp'
theorem Ext.upd{id : Nat}{e e' : AObj}(hl : look sto id = some e)(hc : compat e e') : Ext (fun _=>False) φ φ sto ((id,e')::sto):=by
 refine Ext.of_some (fun i e1 _ h=>?_) (fun i _ h=>?_)
 ·by_cases hi : i = id
  ·subst hi
   rw [hl] at h; cases h
   exact ⟨rfl,e',aI,hc⟩
  ·exact ⟨rfl,e1,(aN hi).trans h,compat.refl _⟩
 ·by_cases hi : i = id
  ·subst hi; rw [hl] at h; cases h
  ·exact (aN hi).trans h
theorem HInv.set(h : HInv σ φ sto w){id B c : Nat}{e e' : AObj}(hl : look sto id = some e)(hp : φ id = some (B,c))(hσ : σ B = none)
  (hw : ∀ b,b≠B→w'.heap[b]? = w.heap[b]?) (hc : compat e e') (hobj : ObjRep σ φ ((id,e')::sto) w' id e') : HInv σ φ ((id,e')::sto) w':=by
 refine ⟨fun b cs hb=>?_,fun i e1 hl'=>?_,fun i i' e1 e2 p p' h1 h2 hne hp hp'=>?_⟩
 ·obtain ⟨t,f,hh⟩:=h.sig b cs hb
  refine ⟨t,f,(hw b ?_).trans hh⟩
  rintro rfl
  rw [hσ] at hb; cases hb
 ·rcases ah hl' with ⟨rfl,rfl⟩ | ⟨hne,hl'⟩
  ·exact hobj
  ·have ho:=h.obj i e1 hl'
   refine ho.ext (X:=fun _=>False) (Sig.le_refl _) (Ext.upd hl hc) (fun j hj=>by cases hj) rfl fun B' c' hB'=>⟨hw B' ?_,rfl⟩
   exact h.inj _ _ _ _ _ _ hl' hl hne hB' hp
 ·have hx : ∀ {i : Nat} {e1 : AObj},look ((id,e')::sto) i = some e1→∃ e2,look sto i = some e2:=by
   intro i e1 h
   rcases ah h with ⟨rfl,rfl⟩ | ⟨_,h⟩
   ·exact ⟨e,hl⟩
   ·exact ⟨e1,h⟩
  obtain ⟨e3,h3⟩:=hx h1
  obtain ⟨e4,h4⟩:=hx h2
  exact h.inj _ _ _ _ _ _ h3 h4 hne hp hp'
def fI(σ : Sig)(B : Nat)(arr : Array Value) : Sig:=fun b=>if b = B then some arr else σ b
theorem qz{B : Nat}{arr : Array Value}(h : σ B = none∨σ B = some arr) : σ.le (fI σ B arr):=by
 intro b cs hb
 unfold fI
 by_cases e : b = B
 ·subst e
  rcases h with h | h
  ·rw [h] at hb; cases hb
  ·rw [h] at hb; simpa using hb
 ·simp [e,hb]
def del(id : Nat) : Sto→Sto
 | []=>[]
 | p::r=>bif Nat.beq p.1 id then del id r else p::del id r
theorem df{id i : Nat} : ∀ {sto : Sto} {e : AObj},look (del id sto) i = some e→i≠id∧look sto i = some e
 | [],_,h=>by simp [del,look] at h
 | (j,o)::r,e,h=>by
   simp only [del] at h
   cases hb : Nat.beq j id with
   | true =>
     simp only [hb,cond_true] at h
     obtain ⟨h1,h2⟩:=df h
     have hj:=Nat.eq_of_beq_eq_true hb
     exact ⟨h1,by rw [aN (by rw [hj]; exact h1)]; exact h2⟩
   | false =>
     simp only [hb,cond_false] at h
     rcases ah h with ⟨rfl,rfl⟩ | ⟨hne,h⟩
     ·refine ⟨?_,aI⟩
      rintro rfl
      rw [Nat.beq_refl] at hb; cases hb
     ·obtain ⟨h1,h2⟩:=df h
      exact ⟨h1,by rw [aN hne]; exact h2⟩
theorem dO{id i : Nat}(hne : i≠id) : ∀ {sto : Sto},look (del id sto) i = look sto i
 | []=>rfl
 | (j,o)::r=>by
   simp only [del]
   cases hb : Nat.beq j id with
   | true =>
     have hj:=Nat.eq_of_beq_eq_true hb
     simp only [cond_true,dO hne (sto:=r)]
     rw [aN (by rw [hj]; exact hne)]
   | false =>
     simp only [cond_false,look,dO hne (sto:=r)]
end Go.Abs
namespace Go.Abs
open Go
variable {P : Program} {c : Ctx} {T : Tab}
def bj(dst : Option Nat)(v : AV)(fr : List (Nat×AV)) : List (Nat×AV) :=
 match dst with
 | none=>fr
 | some d=>(d,v)::fr
def aP(n : Nat) : Option Nat→Bool
 | none=>true
 | some d=>Nat.blt d n
theorem Rel.putTo{st : St}{a : Act}{w w' : World}{σ σ' : Sig}{φ φ' : Pl}{st' : St}{dst : Option Nat}{v : AV}{u : Value}
  (h : Rel c st a w σ φ) (hd : aP c.n dst = true) (hle : c.σ0.le σ') (hfresh : ∀ b,σ' b≠none→c.σ0 b≠none∨c.w0.heap.size≤b∨c.M b)
  (hinv : HInv σ' φ' st'.sto w') (hmine : JR c φ' st'.sto) (hfra : Fra c w') (hpin : ∀ id,Pin id→φ' id = c.φ0 id)
  (hv : dst≠none→RepV σ' φ' st'.sto v u)
  (hold : ∀ s x,some s≠dst→look st'.fr s = some x→∃ y,look st.fr s = some y∧∀ z,RepV σ φ st.sto y z→RepV σ' φ' st'.sto x z) :
  Rel c ⟨bj dst v st'.fr,st'.sto⟩ (a.put dst u) w' σ' φ':=by
 cases dst with
 | none =>
   refine ⟨hle,hfresh,hinv,hmine,fun s x hx=>?_,h.defers,h.size,hfra,hpin⟩
   obtain ⟨y,hy,hz⟩:=hold s x (by simp) hx
   obtain ⟨z,h1,h2⟩:=h.slot s y hy
   exact ⟨z,h1,hz z h2⟩
 | some d =>
   simp only [aP,Nat.blt_eq] at hd
   refine ⟨hle,hfresh,hinv,hmine,fun s x hx=>?_,h.defers,by simp [Act.put,h.size],hfra,hpin⟩
   simp only [bj] at hx
   rcases ah hx with ⟨rfl,rfl⟩ | ⟨hne,hx⟩
   ·exact ⟨u,by simp [Act.put,h.size,hd],hv (by simp)⟩
   ·obtain ⟨y,hy,hz⟩:=hold s x (fun e=>hne (by cases e; rfl)) hx
    obtain ⟨z,h1,h2⟩:=h.slot s y hy
    refine ⟨z,?_,hz z h2⟩
    simp only [Act.put]
    rw [Array.getElem?_setIfInBounds_ne (fun e=>hne e.symm)]
    exact h1
theorem Rel.put{st : St}{a : Act}{w : World}{σ : Sig}{φ : Pl}{dst : Option Nat}{v : AV}{u : Value}(h : Rel c st a w σ φ)(hd : aP c.n dst = true)(hv : RepV σ φ st.sto v u) :
  Rel c ⟨bj dst v st.fr,st.sto⟩ (a.put dst u) w σ φ :=
 h.putTo (st':=st) hd h.le h.fresh h.inv h.mine h.fra h.pin (fun _=>hv) fun _ x _ hx=>⟨x,hx,fun _ hz=>hz⟩
def fnc(c : Ctx) : Fence:={ Fence.wide with round:=c.rd }
theorem gR(c : Ctx)(f : FuncId) : (fnc c).fn f:=trivial
theorem rL{c : Ctx}{n : Nat}{f : FuncId}{args : Array Value}{w : World}{R : Ending→World→Prop}(h : Calls P f args w R) : CallsIn (fnc c) n P f args w R :=
 (callsIn_wide (n:=n)).2 h
theorem jg{r : Option Nat}{ρ : Operand→Value}{o : Oper}{w w' : World}{nx : Next}(hd : ∀ d,nx≠.defer d)(h : (execOp ρ o).run P w = .ok nx w') : (o.semAt r ρ).run P w = .ok nx w':=by
 by_cases hdf : ∃ c,o.op = .defer c
 ·obtain ⟨c,hc⟩:=hdf
  exfalso
  obtain ⟨dst,op,type,pos,after,guard⟩:=o
  simp only at hc; subst hc
  simp only [execOp,Sem.run_bind] at h
  cases hres : (resolve ρ c type).run P w with
  | ok d w1 =>
    rw [hres] at h
    simp only [Result.andThen_ok] at h
    simp only [Sem.run_pure,Result.ok.injEq] at h
    exact hd _ h.1.symm
  | halt x w1=>rw [hres] at h; simp [Result.andThen] at h
 ·rw [Oper.semAt_eq r ρ o fun c hc=>hdf ⟨c,hc⟩]; exact h
def k9(r : Nat) : Deferred:={ target:=.collected r,args:=#[] }
def RelE(c : Ctx)(e : Exit)(st : St)(a : Act)(w : World)(σ : Sig)(φ : Pl) : Prop :=
 Rel c st a w σ φ∨(e = .ret∧∃ r,a.defers = [k9 r]∧w.heap[r]? = some (.deferred (some []))∧c.w0.heap.size≤r∧Rel c st { a with defers:=[] } w σ φ)
theorem RelE.rel{st : St}{a : Act}{w : World}{σ : Sig}{φ : Pl}{e : Exit}(h : RelE c e st a w σ φ)(he : e≠.ret) : Rel c st a w σ φ:=by
 rcases h with h | ⟨h,_⟩
 ·exact h
 ·exact absurd h he
def ac(P : Program)(c : Ctx)(ops : Array Oper)(l : List Oper)(st : St)(K : St→Prop) : Prop :=
 ∀ (a : Act) (w : World) (σ : Sig) (φ : Pl) (Q : Exit→Act→World→Prop),Rel c st a w σ φ →
   (∀ a' w' σ' φ' st',K st'→Rel c st' a' w' σ' φ'→Q .normal a' w')→wpListIn (fnc c) 0 P ops Q l a w
def OkC(P : Program)(c : Ctx)(code : Code)(st : St)(Q : Exit→St→Prop) : Prop :=
 ∀ (a : Act) (w : World) (σ : Sig) (φ : Pl),Rel c st a w σ φ→code.wpIn (fnc c) 0 P (fun e a' w'=>∃ st' σ' φ',Q e st'∧RelE c e st' a' w' σ' φ') a w
theorem qf{ops : Array Oper}{st : St}{K : St→Prop}(h : K st) : ac P c ops [] st K:=fun _ _ _ _ _ hr hQ=>hQ _ _ _ _ _ h hr
theorem CR{ops : Array Oper}{l : List Oper}{st : St}{K K' : St→Prop}(h : ac P c ops l st K)(hk : ∀ st,K st→K' st) : ac P c ops l st K' :=
 fun a w σ φ Q hr hQ=>h a w σ φ Q hr fun a' w' σ' φ' st' h'=>hQ a' w' σ' φ' st' (hk _ h')
theorem ba{ops : Array Oper}{o : Oper}{rest : List Oper}{st : St}{K : St→Prop}(hg : o.guard = none)
  (H : ∀ (a : Act) (w : World) (σ : Sig) (φ : Pl),Rel c st a w σ φ→∃ u w' st' σ' φ',(execOp a.eval o).run P w = .ok (.value u) w'∧Rel c st' (a.put o.dst u) w' σ' φ'∧ac P c ops rest st' K) :
  ac P c ops (o::rest) st K:=by
 intro a w σ φ Q hr hQ
 obtain ⟨u,w',st',σ',φ',hrun,hr',hok⟩:=H a w σ φ hr
 refine wpListIn_plain hg fun K' hK=>⟨fun f _=>gR c f,?_⟩
 rw [jg (by simp) hrun]
 exact hK _ _ (hok _ _ _ _ _ hr' hQ)
theorem ov{ops : Array Oper}{o : Oper}{rest : List Oper}{st : St}{K : St→Prop}(hg : o.guard = none)
  (H : ∀ (a : Act) (w : World) (σ : Sig) (φ : Pl),Rel c st a w σ φ→∃ w' st' σ' φ',(execOp a.eval o).run P w = .ok .skip w'∧Rel c st' (a.put o.dst undef) w' σ' φ'∧ac P c ops rest st' K) :
  ac P c ops (o::rest) st K:=by
 intro a w σ φ Q hr hQ
 obtain ⟨w',st',σ',φ',hrun,hr',hok⟩:=H a w σ φ hr
 refine wpListIn_plain hg fun K' hK=>⟨fun f _=>gR c f,?_⟩
 rw [jg (by simp) hrun]
 exact hK _ _ (hok _ _ _ _ _ hr' hQ)
def fW(st : St)(ops : Array Oper)(j : Nat) : Option (Option Bool) :=
 match nth ops.toList j with
 | some o=>match o.dst with
   | some d=>match look st.fr d with
     | some (.one (.d (.bool b)))=>some (some b)
     | some (.tup [])=>some none
     | _=>none
   | none=>none
 | none=>none
theorem sN{st : St}{a : Act}{w : World}{σ : Sig}{φ : Pl}(h : Rel c st a w σ φ){ops : Array Oper}{j : Nat}{y : Option Bool}(hb : fW st ops j = some y) : yielded ops a.tmps j = y:=by
 unfold fW at hb
 split at hb <;> (try (simp at hb; done))
 rename_i o ho
 split at hb <;> (try (simp at hb; done))
 rename_i d hd
 rw [fO,Array.getElem?_toList] at ho
 split at hb <;> simp at hb
 ·rename_i b' hl
  subst hb
  obtain ⟨u,hu,hr⟩:=h.slot d _ hl
  replace hr:=RepC.d_inv hr
  cases hr
  simp [yielded,ho,hd,hu]
 ·rename_i hl
  subst hb
  obtain ⟨u,hu,vs,rfl,hr⟩:=h.slot d _ hl
  match vs,hr with
  | [],_=>simp [yielded,ho,hd,hu]
theorem rp{ops : Array Oper}{o : Oper}{rest : List Oper}{st : St}{K : St→Prop}{j : Nat}{want b : Bool}(hg : o.guard = some (j,want))(hb : fW st ops j = some (some b))(hw : b = want)
  (h : ac P c ops ({ o with guard:=none }::rest) st K) : ac P c ops (o::rest) st K:=by
 intro a w σ φ Q hr hQ
 have:=h a w σ φ Q hr hQ
 unfold wpListIn at this ⊢
 have hy:=sN hr hb
 have h1 : Region.wanted o (yielded ops a.tmps) = true:=by simp [Region.wanted,hg,hy,hw]
 have h2 : Region.wanted { o with guard:=none } (yielded ops a.tmps) = true:=rfl
 rw [if_pos h2] at this
 rw [if_pos h1]
 exact ⟨fun f _=>gR c f,by
  have h3:=this.2
  have e1 : ({ o with guard:=none } : Oper).semAt (fnc c).round a.eval = o.semAt (fnc c).round a.eval:=by
   obtain ⟨dst,op,type,pos,after,guard⟩:=o
   cases op <;> rfl
  rw [e1] at h3
  exact h3⟩
theorem pG{ops : Array Oper}{o : Oper}{rest : List Oper}{st : St}{K : St→Prop}{j : Nat}{want : Bool}{y : Option Bool}(hg : o.guard = some (j,want))(hb : fW st ops j = some y)(hw : (y == some want) = false)
  (hd : aP c.n o.dst = true) (h : ac P c ops rest ⟨bj o.dst (.tup []) st.fr,st.sto⟩ K) : ac P c ops (o::rest) st K:=by
 intro a w σ φ Q hr hQ
 have hy:=sN hr hb
 have h1 : Region.wanted o (yielded ops a.tmps) = false:=by simp [Region.wanted,hg,hy,hw]
 unfold wpListIn
 rw [if_neg (by rw [h1]; simp)]
 exact ⟨fun f _=>gR c f,h _ _ _ _ _ (hr.put hd ⟨[],rfl,trivial⟩) hQ⟩
theorem vL(hT : aU P T){ops : Array Oper}{o : Oper}{rest : List Oper}{st : St}{K : St→Prop}{v : AV}(hg : o.guard = none)(hd : aP c.n o.dst = true)(hv : bQ T st o.op = some v)
  (h : ac P c ops rest ⟨bj o.dst v st.fr,st.sto⟩ K) : ac P c ops (o::rest) st K :=
 ba hg fun a w σ φ hr=>by
  obtain ⟨u,hu,hru⟩:=Fh hT hr hv
  exact ⟨u,w,_,σ,φ,hu,hr.put hd hru,h⟩
theorem BG{ops : Array Oper}{o : Oper}{rest : List Oper}{st : St}{K : St→Prop}{x y z : Operand}{b : Bool}{v : AV}(ho : o.op = .pick x y z)(hg : o.guard = none)(hd : aP c.n o.dst = true)
  (hx : ev st x = some (.one (.d (.bool b)))) (hv : ev st (if b then y else z) = some v)
  (h : ac P c ops rest ⟨bj o.dst v st.fr,st.sto⟩ K) : ac P c ops (o::rest) st K :=
 ba hg fun a w σ φ hr=>by
  have h1:=aC hr hx
  replace h1:=RepC.d_inv h1
  generalize hu : a.eval x = u at h1
  cases h1
  refine ⟨a.eval (if b then y else z),w,_,σ,φ,?_,hr.put hd (aC hr hv),h⟩
  simp only [execOp,ho,hu,asBool,Sem.run_bind,Sem.run_pure,Result.andThen_ok]
  cases b <;> rfl
theorem je{code : Code}{st : St}{Q Q' : Exit→St→Prop}(h : OkC P c code st Q)(hq : ∀ e st,Q e st→Q' e st) : OkC P c code st Q' :=
 fun a w σ φ hr=>wpIn_mono (h a w σ φ hr) fun _ _ _ ⟨st',σ',φ',h1,h2⟩=>⟨st',σ',φ',hq _ _ h1,h2⟩
theorem wp{id : Nat}{ops : Array Oper}{st : St}{Q : Exit→St→Prop}(h : ac P c ops ops.toList st (Q .normal)) : OkC P c (.region id ops false) st Q :=
 fun a w σ φ hr=>wpIn_region_list (h a w σ φ _ hr fun _ _ _ _ _ hk hr'=>⟨_,_,_,hk,.inl hr'⟩)
def ax(next : St→Prop)(Q : Exit→St→Prop) : Exit→St→Prop
 | .normal=>next
 | e=>Q e
theorem Ku{x y : Code}{st : St}{Q : Exit→St→Prop}(h : OkC P c x st (ax (fun st'=>OkC P c y st' Q) Q)) : OkC P c (.seq x y) st Q :=
 fun a w σ φ hr=>wpIn_seq (wpIn_mono (h a w σ φ hr) fun e a' w' ⟨st',σ',φ',h1,h2⟩=>by
  cases e with
  | normal=>exact h1 a' w' σ' φ' (h2.rel (by simp))
  | _=>exact ⟨st',σ',φ',h1,h2⟩)
theorem Ba{st : St}{Q : Exit→St→Prop}(h : Q .normal st) : OkC P c .skip st Q:=fun _ _ _ _ hr=>wpIn_skip ⟨_,_,_,h,.inl hr⟩
theorem cv{st : St}{Q : Exit→St→Prop}(h : Q .ret st) : OkC P c .ret st Q:=fun _ _ _ _ hr=>wpIn_ret ⟨_,_,_,h,.inl hr⟩
theorem Bb{id : Nat}{st : St}{Q : Exit→St→Prop}(h : Q (.exit id) st) : OkC P c (.exit id) st Q:=fun _ _ _ _ hr=>wpIn_exit ⟨_,_,_,h,.inl hr⟩
theorem ag{x : Operand}{p q : Code}{st : St}{Q : Exit→St→Prop}{b : Bool}(hx : ev st x = some (.one (.d (.bool b))))(ht : b = true→OkC P c p st Q)(hf : b = false→OkC P c q st Q) :
  OkC P c (.cond x p q) st Q:=fun a w σ φ hr=>by
 have h1:=aC hr hx
 replace h1:=RepC.d_inv h1
 generalize hu : a.eval x = u at h1
 cases h1
 cases b
 ·exact wpIn_cond_false hu (hf rfl a w σ φ hr)
 ·exact wpIn_cond_true hu (ht rfl a w σ φ hr)
def ap(id : Nat)(Q : Exit→St→Prop) : Exit→St→Prop
 | .exit id'=>bif Nat.beq id' id then Q .normal else Q (.exit id')
 | e=>Q e
theorem Gt{id : Nat}{x : Code}{st : St}{Q : Exit→St→Prop}(h : OkC P c x st (ap id Q)) : OkC P c (.block id x) st Q :=
 fun a w σ φ hr=>wpIn_block (wpIn_mono (h a w σ φ hr) fun e a' w' ⟨st',σ',φ',h1,h2⟩=>by
  cases e with
  | exit id' =>
    simp only [ap,Exit.inBlock] at h1 ⊢
    cases hb : Nat.beq id' id with
    | true =>
      have:=Nat.eq_of_beq_eq_true hb
      simp only [hb,cond_true] at h1
      rw [if_pos this]; exact ⟨st',σ',φ',h1,.inl (h2.rel (by simp))⟩
    | false =>
      simp only [hb,cond_false] at h1
      have : id'≠id:=by rintro rfl; rw [Nat.beq_refl] at hb; cases hb
      rw [if_neg this]; exact ⟨st',σ',φ',h1,.inl (h2.rel (by simp))⟩
  | _=>exact ⟨st',σ',φ',h1,h2⟩)
theorem h0H{x1 x2 x3 x4 x5 x6 x7 x8 x9 x10 x11 x12}(h : ac x1 x2 x3 (Oper.mk x4 (Op.call x5) x6 x7 x8 (x9)::x10) x11 x12) : ac x1 x2 x3 (Oper.mk x4 (Op.call x5) x6 x7 x8 (x9)::x10) x11 x12:=h
theorem h1H{x1 x2 x3 x4 x5 x6}(h : ac x1 x2 x3 x4 x5 x6) : ac x1 x2 x3 x4 x5 x6:=h
theorem h5H{x1 x2 x3 x4 x5 x6 x7 x8 x9 x10 x11 x12}(h : ac x1 x2 x3 (Oper.mk x4 (x5) x6 x7 x8 (some x9)::x10) x11 x12) : ac x1 x2 x3 (Oper.mk x4 (x5) x6 x7 x8 (some x9)::x10) x11 x12:=h
theorem h6H{x1 x2 x3 x4 x5 x6 x7 x8 x9 x10 x11 x12 x13 x14 x15}(h : ac x1 x2 x3 (Oper.mk x4 (Op.binOp .eql x5 x6 x7 x8) x9 x10 x11 (x12)::x13) x14 x15) : ac x1 x2 x3 (Oper.mk x4 (Op.binOp .eql x5 x6 x7 x8) x9 x10 x11 (x12)::x13) x14 x15:=h
theorem h7H{x1 x2 x3 x4 x5 x6 x7 x8 x9 x10 x11 x12 x13 x14}(h : ac x1 x2 x3 (Oper.mk x4 (Op.makeSlice x5 x6 x7) x8 x9 x10 (x11)::x12) x13 x14) : ac x1 x2 x3 (Oper.mk x4 (Op.makeSlice x5 x6 x7) x8 x9 x10 (x11)::x12) x13 x14:=h
theorem h8H{x1 x2 x3 x4 x5 x6 x7 x8 x9 x10 x11 x12 x13 x14}(h : ac x1 x2 x3 (Oper.mk x4 (Op.store x5 x6 x7) x8 x9 x10 (x11)::x12) x13 x14) : ac x1 x2 x3 (Oper.mk x4 (Op.store x5 x6 x7) x8 x9 x10 (x11)::x12) x13 x14:=h
theorem h9H{x1 x2 x3 x4 x5 x6 x7 x8 x9 x10 x11 x12 x13 x14 x15}(h : ac x1 x2 x3 (Oper.mk x4 (Op.slice x5 x6 none x7 x8) x9 x10 x11 (x12)::x13) x14 x15) : ac x1 x2 x3 (Oper.mk x4 (Op.slice x5 x6 none x7 x8) x9 x10 x11 (x12)::x13) x14 x15:=h
theorem I2{x1 x2 x3 x4 x5 x6 x7 x8 x9 x10 x11 x12 x13}(h : ac x1 x2 x3 (Oper.mk x4 (Op.load x5 x6) x7 x8 x9 (x10)::x11) x12 x13) : ac x1 x2 x3 (Oper.mk x4 (Op.load x5 x6) x7 x8 x9 (x10)::x11) x12 x13:=h
theorem xL{x1 x2 x3 x4 x5 x6 x7 x8 x9 x10 x11 x12 x13 x14}(h : ac x1 x2 x3 (Oper.mk x4 (Op.indexAddr x5 x6 x7) x8 x9 x10 (x11)::x12) x13 x14) : ac x1 x2 x3 (Oper.mk x4 (Op.indexAddr x5 x6 x7) x8 x9 x10 (x11)::x12) x13 x14:=h
theorem MY{x1 x2 x3 x4 x5 x6 x7 x8 x9 x10 x11 x12 x13 x14 x15}(h : ac x1 x2 x3 (Oper.mk x4 (Op.slice x5 x6 x7 none x8) x9 x10 x11 (x12)::x13) x14 x15) : ac x1 x2 x3 (Oper.mk x4 (Op.slice x5 x6 x7 none x8) x9 x10 x11 (x12)::x13) x14 x15:=h
theorem NA{x1 x2 x3 x4 x5 x6 x7 x8 x9 x10 x11 x12 x13 x14 x15 x16}(h : ac x1 x2 x3 (Oper.mk x4 (Op.slice x5 x6 (some x7) (some x8) x9) x10 x11 x12 (x13)::x14) x15 x16) : ac x1 x2 x3 (Oper.mk x4 (Op.slice x5 x6 (some x7) (some x8) x9) x10 x11 x12 (x13)::x14) x15 x16:=h
theorem NB{x1 x2 x3 x4 x5 x6 x7 x8 x9 x10 x11 x12 x13 x14 x15}(h : ac x1 x2 x3 (Oper.mk x4 (Op.slice x5 x6 none (some x7) x8) x9 x10 x11 (x12)::x13) x14 x15) : ac x1 x2 x3 (Oper.mk x4 (Op.slice x5 x6 none (some x7) x8) x9 x10 x11 (x12)::x13) x14 x15:=h
theorem pE{x1 x2 x3 x4 x5 x6 x7 x8 x9 x10 x11 x12 x13 x14 x15}(h : ac x1 x2 x3 (Oper.mk x4 (Op.binOp .quo x5 x6 x7 x8) x9 x10 x11 (x12)::x13) x14 x15) : ac x1 x2 x3 (Oper.mk x4 (Op.binOp .quo x5 x6 x7 x8) x9 x10 x11 (x12)::x13) x14 x15:=h
theorem Ot{x1 x2 x3 x4 x5 x6 x7 x8 x9 x10 x11 x12 x13}(h : ac x1 x2 x3 (Oper.mk x4 (Op.box x5 x6) x7 x8 x9 (x10)::x11) x12 x13) : ac x1 x2 x3 (Oper.mk x4 (Op.box x5 x6) x7 x8 x9 (x10)::x11) x12 x13:=h
theorem Ou{x1 x2 x3 x4 x5 x6 x7 x8 x9 x10 x11 x12}(h : ac x1 x2 x3 (Oper.mk x4 (Op.alloc x5) x6 x7 x8 (x9)::x10) x11 x12) : ac x1 x2 x3 (Oper.mk x4 (Op.alloc x5) x6 x7 x8 (x9)::x10) x11 x12:=h
theorem uV{x1 x2 x3 x4 x5 x6 x7 x8 x9 x10 x11 x12 x13 x14 x15}(h : ac x1 x2 x3 (Oper.mk x4 (Op.binOp .rem x5 x6 x7 x8) x9 x10 x11 (x12)::x13) x14 x15) : ac x1 x2 x3 (Oper.mk x4 (Op.binOp .rem x5 x6 x7 x8) x9 x10 x11 (x12)::x13) x14 x15:=h
end Go.Abs
namespace Go.Abs
open Go
variable {P : Program} {c : Ctx} {T : Tab} {σ : Sig} {φ : Pl} {sto : Sto} {w : World}
def Imp(c : Ctx)(st st' : St) : Prop:=∀ (a : Act) (w : World) (σ : Sig) (φ : Pl),Rel c st a w σ φ→∃ σ' φ',Rel c st' a w σ' φ'
theorem Imp.refl(st : St) : Imp c st st:=fun _ _ σ φ h=>⟨σ,φ,h⟩
theorem Imp.trans{a b d : St}(h : Imp c a b)(h' : Imp c b d) : Imp c a d:=fun x w σ φ hr =>
 let ⟨σ',φ',h1⟩:=h x w σ φ hr
 h' x w σ' φ' h1
theorem dU{ops : Array Oper}{l : List Oper}{st st' : St}{K : St→Prop}(hi : Imp c st st')(h : ac P c ops l st' K) : ac P c ops l st K :=
 fun a w σ φ Q hr hQ=>let ⟨σ',φ',h1⟩:=hi a w σ φ hr; h a w σ' φ' Q h1 hQ
theorem bu{code : Code}{st st' : St}{Q : Exit→St→Prop}(hi : Imp c st st')(h : OkC P c code st' Q) : OkC P c code st Q :=
 fun a w σ φ hr=>let ⟨σ',φ',h1⟩:=hi a w σ φ hr; h a w σ' φ' h1
def eL : List AC→Option (List D)
 | []=>some []
 | .d x::r=>match eL r with | some l=>some (x::l) | none=>none
 | _::_=>none
def dc(id : Nat)(o : AObj) : AC→AC
 | .own i n=>bif Nat.beq i id then (match o with | .row k b xs=>.d (.sl k b (xs.take n)) | _=>.junk) else .own i n
 | .sub i lo n=>bif Nat.beq i id then (match o with | .row k b xs=>.d (.sl k b ((xs.drop lo).take n)) | _=>.junk) else .sub i lo n
 | .ref i off=>bif Nat.beq i id then (match o with | .box cs=>(match eL cs with | some ds=>.d (.ptr (ds.drop off)) | none=>.junk) | _=>.junk) else .ref i off
 | .rref i j off=>bif Nat.beq i id then .junk else .rref i j off
 | .yl i=>bif Nat.beq i id then .junk else .yl i
 | .mapr i=>bif Nat.beq i id then .junk else .mapr i
 | .bsl i off n=>bif Nat.beq i id then .junk else .bsl i off n
 | .d x=>.d x
 | .junk=>.junk
def nD(id : Nat)(o : AObj) : List AC→List AC
 | []=>[]
 | c::r=>dc id o c::nD id o r
def xN(id : Nat)(o : AObj) : List (Bool×List AC)→List (Bool×List AC)
 | []=>[]
 | (g,cs)::r=>(g,nD id o cs)::xN id o r
def ta(id : Nat)(o : AObj) : AV→AV
 | .one c=>.one (dc id o c)
 | .agg cs=>.agg (nD id o cs)
 | .tup ts=>.tup (xN id o ts)
 | .any=>.any
def gQ(id : Nat)(o : AObj) : List (Nat×AV)→List (Nat×AV)
 | []=>[]
 | (s,v)::r=>(s,ta id o v)::gQ id o r
def bq(id : Nat)(o : AObj) : Sto→Sto
 | []=>[]
 | (i,.box cs)::r=>bif Nat.beq i id then bq id o r else (i,.box (nD id o cs))::bq id o r
 | (i,.row k b xs)::r=>bif Nat.beq i id then bq id o r else (i,.row k b xs)::bq id o r
 | (i,.map kg vg es)::r=>bif Nat.beq i id then bq id o r else (i,.map kg vg es)::bq id o r
 | (i,.loop li fr s p)::r=>bif Nat.beq i id then bq id o r else (i,.loop li (gQ id o fr) s p)::bq id o r
theorem j5 : ∀ {cs : List AC} {ds : List D},eL cs = some ds→cs = ds.map .d
 | [],_,h=>by simp [eL] at h; subst h; rfl
 | .d x::r,ds,h=>by
   simp only [eL] at h
   split at h <;> simp at h
   rename_i l hl
   subst h
   rw [j5 hl]; rfl
 | .own _ _::_,_,h=>by simp [eL] at h
 | .sub _ _ _::_,_,h=>by simp [eL] at h
 | .ref _ _::_,_,h=>by simp [eL] at h
 | .rref _ _ _::_,_,h=>by simp [eL] at h
 | .yl _::_,_,h=>by simp [eL] at h
 | .mapr _::_,_,h=>by simp [eL] at h
 | .bsl _ _ _::_,_,h=>by simp [eL] at h
 | .junk::_,_,h=>by simp [eL] at h
def om(id : Nat)(o : AObj) : AObj→AObj
 | .box cs=>.box (nD id o cs)
 | .row k b xs=>.row k b xs
 | .map kg vg es=>.map kg vg es
 | .loop li fr s p=>.loop li (gQ id o fr) s p
theorem dz{id : Nat}{o : AObj} : ∀ {sto : Sto} {i : Nat} {e : AObj},look (bq id o sto) i = some e→i≠id∧∃ e0,look sto i = some e0∧e = om id o e0
 | [],_,_,h=>by simp [bq,look] at h
 | (j,x)::r,i,e,h=>by
   have hcase : bq id o ((j,x)::r) = bif Nat.beq j id then bq id o r else (j,om id o x)::bq id o r:=by cases x <;> rfl
   rw [hcase] at h
   cases hb : Nat.beq j id with
   | true =>
     simp only [hb,cond_true] at h
     obtain ⟨h1,e0,h2,h3⟩:=dz h
     have hj:=Nat.eq_of_beq_eq_true hb
     exact ⟨h1,e0,by rw [aN (by rw [hj]; exact h1)]; exact h2,h3⟩
   | false =>
     simp only [hb,cond_false] at h
     rcases ah h with ⟨rfl,rfl⟩ | ⟨hne,h⟩
     ·refine ⟨?_,x,aI,rfl⟩
      rintro rfl
      rw [Nat.beq_refl] at hb; cases hb
     ·obtain ⟨h1,e0,h2,h3⟩:=dz h
      exact ⟨h1,e0,by rw [aN hne]; exact h2,h3⟩
theorem gA{id : Nat}{o : AObj}{i : Nat}(hne : i≠id) : ∀ {sto : Sto} {e : AObj},look sto i = some e→look (bq id o sto) i = some (om id o e)
 | [],_,h=>by simp [look] at h
 | (j,x)::r,e,h=>by
   have hcase : bq id o ((j,x)::r) = bif Nat.beq j id then bq id o r else (j,om id o x)::bq id o r:=by cases x <;> rfl
   rw [hcase]
   rcases ah h with ⟨rfl,rfl⟩ | ⟨hn,h⟩
   ·have : Nat.beq i id = false:=by
     cases hb : Nat.beq i id with
     | true=>exact absurd (Nat.eq_of_beq_eq_true hb) hne
     | false=>rfl
    simp only [this,cond_false]
    exact aI
   ·cases hb : Nat.beq j id with
    | true=>simp only [cond_true]; exact gA hne h
    | false=>simp only [cond_false]; rw [aN hn]; exact gA hne h
theorem Jc{i id : Nat}(h : Nat.beq i id = false) : i≠id:=by rintro rfl; rw [Nat.beq_refl] at h; cases h
theorem xO{id : Nat}{o e : AObj} : compat e (om id o e):=by cases e <;> simp [om,compat]
theorem ll{id : Nat}{o : AObj}{i : Nat}{sto : Sto}(h : look sto i = none) : look (bq id o sto) i = none:=by
 cases hl : look (bq id o sto) i with
 | none=>rfl
 | some e =>
   obtain ⟨_,e0,h1,_⟩:=dz hl
   rw [h] at h1; cases h1
theorem Ext.sealing{id : Nat}{o : AObj} : Ext (· = id) φ φ sto (bq id o sto) :=
 Ext.of_some (fun _ _ hi h=>⟨rfl,_,gA hi h,xO⟩) (fun _ _ h=>ll h)
def SealSig(σ σ' : Sig)(φ : Pl)(w : World)(id : Nat) : Prop :=
 (φ id = none∧σ' = σ)∨∃ B cap arr t,φ id = some (B,cap)∧w.heap[B]? = some (.cells arr t (0,0))∧σ B = none∧σ' = fI σ B arr
theorem SealSig.le{σ σ' : Sig}{id : Nat}(h : SealSig σ σ' φ w id) : σ.le σ':=by
 rcases h with ⟨_,rfl⟩ | ⟨B,cap,arr,t,_,_,hs,rfl⟩
 ·exact Sig.le_refl _
 ·exact qz (.inl hs)
def ka : AObj→Bool
 | .box _ | .row _ _ _=>true
 | _=>false
theorem HInv.sealSig(h : HInv σ φ sto w){id : Nat}{o : AObj}(hl : look sto id = some o)(hc : ka o = true) : ∃ σ',SealSig σ σ' φ w id:=by
 have ho:=h.obj _ _ hl
 cases o with
 | box cs =>
   obtain ⟨B,c',vs,t,h1,h2,_,h4⟩:=ho
   exact ⟨_,.inr ⟨B,c',_,t,h1,h2,h4,rfl⟩⟩
 | row k b xs =>
   rcases ho with ⟨_,h2⟩ | ⟨B,cap,arr,t,vs,h1,h2,_,_,_,_,_,_,_,h10⟩
   ·exact ⟨_,.inl ⟨h2,rfl⟩⟩
   ·exact ⟨_,.inr ⟨B,cap,arr,t,h1,h2,h10,rfl⟩⟩
 | map=>simp [ka] at hc
 | loop=>simp [ka] at hc
theorem tb{σ σ' : Sig}{id k b B cap : Nat}{xs : List (List D)}{arr : Array Value}{t : TypeId}(hσ : σ' = fI σ B arr)(hs : σ B = none)(hp : φ id = some (B,cap))
  (hh : w.heap[B]? = some (.cells arr t (0,0))) (ho : ObjRep σ φ sto w id (.row k b xs)) {lo n c' : Nat} {A : Option Addr} (hn : lo + n≤xs.length) (hc : n≤c')
  (hA : 0 < n→A = some ⟨B,lo * k,none⟩) : Rep σ' (.sl k b ((xs.drop lo).take n)) (.slice A n c'):=by
 rcases ho with ⟨_,h2⟩ | ⟨B',cap',arr',t',vs,h1,h2,h3,h4,h5,h6,h7,h8,h9,h10⟩
 ·rw [hp] at h2; cases h2
 ·rw [hp] at h1; cases h1
  rw [hh] at h2; cases h2
  have hlen : ((xs.drop lo).take n).length = n:=by simp; omega
  have hle : σ.le σ':=hσ ▸ qz (.inl hs)
  have e : (.slice A n c' : Value) = .slice A ((xs.drop lo).take n).length c':=by rw [hlen]
  rw [e]
  refine .sl (fun i j=>vs (lo + i) j) (by omega) (by omega) ?_ (fun x hx=>h7 x (List.mem_of_mem_drop (List.mem_of_mem_take hx))) (fun h0=>?_) (fun i j x d hx hd=>?_)
  ·rw [hlen]; exact Nat.le_trans (Nat.mul_le_mul_right _ (by omega)) h6
  ·refine ⟨B,lo * k,arr,hA (by omega),by simp [hσ,fI],fun i j hi hj=>?_⟩
   have:=h8 (lo + i) j (by omega) hj
   rw [Nat.add_mul] at this
   exact this
  ·have hx' : xs[lo + i]? = some x:=by
    rw [List.getElem?_take] at hx
    split at hx
    ·simpa [List.getElem?_drop] using hx
    ·cases hx
   exact (h9 (lo + i) j x d hx' hd).mono hle
theorem vJ{σ σ' : Sig}(h : HInv σ φ sto w){id : Nat}{o : AObj}(hl : look sto id = some o)(hS : SealSig σ σ' φ w id){x : AC}{v : Value}(hx : RepC σ φ sto x v) :
  RepC σ' φ (bq id o sto) (dc id o x) v:=by
 have hle:=hS.le
 have hone:=hx.oneCell
 have other : (∀ i,i = id→x.men i = false)→RepC σ' φ (bq id o sto) x v:=fun hm=>hx.ext hle Ext.sealing hm
 cases hx with
 | d hx=>exact .d (hx.mono hle)
 | ownNil hl' hp =>
   rename_i i k b xs
   simp only [dc]
   cases hb : Nat.beq i id with
   | false=>exact other fun j hj=>by cases hj; exact hb
   | true =>
     have:=Nat.eq_of_beq_eq_true hb; subst this
     rw [hl] at hl'; cases hl'
     simp only [cond_true,List.take_zero]
     exact .d (.sl (fun _ _=>undef) (by simp) (by simp) (by simp) (by simp) (by simp) (by simp))
 | own hl' hn hp =>
   rename_i i n k b B cap xs
   simp only [dc]
   cases hb : Nat.beq i id with
   | false=>exact other fun j hj=>by cases hj; exact hb
   | true =>
     have:=Nat.eq_of_beq_eq_true hb; subst this
     rw [hl] at hl'; cases hl'
     simp only [cond_true]
     rcases hS with ⟨h1,_⟩ | ⟨B',cap',arr,t,h1,h2,h3,rfl⟩
     ·rw [hp] at h1; cases h1
     ·rw [hp] at h1; cases h1
      have ho:=h.obj _ _ hl
      have hcap : n≤cap:=by
       rcases ho with ⟨_,h2'⟩ | ⟨B',cap',arr',t',vs,h1,h2,_,h4,_⟩
       ·rw [hp] at h2'; cases h2'
       ·rw [hp] at h1; cases h1; omega
      have:=tb (lo:=0) (n:=n) (c':=cap) (A:=some ⟨B,0,none⟩) rfl h3 hp h2 ho (by omega) hcap (fun _=>by simp)
      simp only [List.drop_zero] at this
      exact .d this
 | sub hl' hn hc hA =>
   rename_i i lo n k b c' xs A
   simp only [dc]
   cases hb : Nat.beq i id with
   | false=>exact other fun j hj=>by cases hj; exact hb
   | true =>
     have:=Nat.eq_of_beq_eq_true hb; subst this
     rw [hl] at hl'; cases hl'
     simp only [cond_true]
     by_cases h0 : 0 < n
     ·obtain ⟨B,cap,hp,hA'⟩:=hA h0
      rcases hS with ⟨h1,_⟩ | ⟨B',cap',arr,t,h1,h2,h3,rfl⟩
      ·rw [hp] at h1; cases h1
      ·rw [hp] at h1; cases h1
       exact .d (tb rfl h3 hp h2 (h.obj _ _ hl) hn hc (fun _=>hA'))
     ·have h0 : n = 0:=by omega
      subst h0
      simp only [List.take_zero]
      exact .d (.sl (fun _ _=>undef) (by simp) (by simp) (by simp) (by simp) (by simp) (by simp))
 | ref hl' hp =>
   rename_i i off B cap cs
   simp only [dc]
   cases hb : Nat.beq i id with
   | false=>exact other fun j hj=>by cases hj; exact hb
   | true =>
     have:=Nat.eq_of_beq_eq_true hb; subst this
     rw [hl] at hl'; cases hl'
     simp only [cond_true]
     cases hd : eL cs with
     | none=>exact .junk rfl
     | some ds =>
       simp only
       obtain rfl:=j5 hd
       rcases hS with ⟨h1,_⟩ | ⟨B',cap',arr,t,h1,h2,h3,rfl⟩
       ·rw [hp] at h1; cases h1
       ·rw [hp] at h1; cases h1
        obtain ⟨vs,t',hh,ha⟩:=Ao h hl hp
        rw [h2] at hh; cases hh
        refine .d (.ptr (cells:=vs.toArray) (fun j=>vs.getD (off + j) undef) (by simp [fI]) (fun j hj=>?_) (fun j d hj=>?_))
        ·have hj' : off + j < vs.length:=by have:=ha.length; simp at this hj; omega
         simp [List.getD,List.getElem?_eq_getElem hj']
        ·have hj' : (ds.map AC.d)[off + j]? = some (.d d):=by simpa [List.getElem?_drop] using hj
         obtain ⟨u,hu,hru⟩:=ha.get hj'
         replace hru:=RepC.d_inv hru
         simp only [List.getD,hu,Option.getD_some]
         exact hru.mono (qz (.inl h3))
 | rref hl' hp =>
   rename_i i j off k b B cap xs
   simp only [dc]
   cases hb : Nat.beq i id with
   | false=>exact other fun j hj=>by cases hj; exact hb
   | true=>exact .junk rfl
 | yl hl' hp =>
   rename_i i _ _ _ _ _ _
   simp only [dc]
   cases hb : Nat.beq i id with
   | false=>exact other fun j hj=>by cases hj; exact hb
   | true=>exact .junk rfl
 | mapr hl' hp =>
   rename_i i _ _ _ _ _
   simp only [dc]
   cases hb : Nat.beq i id with
   | false=>exact other fun j hj=>by cases hj; exact hb
   | true=>exact .junk rfl
 | bsl hl' hp =>
   rename_i i off n B cap cs
   simp only [dc]
   cases hb : Nat.beq i id with
   | false=>exact other fun j hj=>by cases hj; exact hb
   | true=>exact .junk rfl
 | junk hx=>exact .junk hx
 | dead hx _ =>
   have hm : x.men id = false∧dc id o x = x:=by
    have hk:=bP hl
    have gen : ∀ {i : Nat},bf sto i = false→Nat.beq i id = false:=by
     intro i hi
     cases hb : Nat.beq i id with
     | false=>rfl
     | true=>rw [Nat.eq_of_beq_eq_true hb,hk] at hi; cases hi
    cases x with
    | own i n=>have:=gen hx; exact ⟨this,by simp [dc,this]⟩
    | sub i lo n=>have:=gen hx; exact ⟨this,by simp [dc,this]⟩
    | ref i off=>have:=gen hx; exact ⟨this,by simp [dc,this]⟩
    | rref i j off=>have:=gen hx; exact ⟨this,by simp [dc,this]⟩
    | yl i=>have:=gen hx; exact ⟨this,by simp [dc,this]⟩
    | mapr i=>have:=gen hx; exact ⟨this,by simp [dc,this]⟩
    | bsl i off n=>have:=gen hx; exact ⟨this,by simp [dc,this]⟩
    | d x=>simp [bx] at hx
    | junk=>simp [bx] at hx
   rw [hm.2]
   exact other fun j hj=>by cases hj; exact hm.1
theorem jH{σ σ' : Sig}(h : HInv σ φ sto w){id : Nat}{o : AObj}(hl : look sto id = some o)(hS : SealSig σ σ' φ w id) : ∀ {cs : List AC} {vs : List Value},All2 (RepC σ φ sto) cs vs →
  All2 (RepC σ' φ (bq id o sto)) (nD id o cs) vs
 | [],[],_=>trivial
 | _::_,_::_,hh=>⟨vJ h hl hS hh.1,jH h hl hS hh.2⟩
 | [],_::_,hh=>hh.elim
 | _::_,[],hh=>hh.elim
theorem vK{σ σ' : Sig}(h : HInv σ φ sto w){id : Nat}{o : AObj}(hl : look sto id = some o)(hS : SealSig σ σ' φ w id){x : AV}{v : Value}(hx : RepV σ φ sto x v) :
  RepV σ' φ (bq id o sto) (ta id o x) v:=by
 cases x with
 | one c=>exact vJ h hl hS hx
 | agg cs=>obtain ⟨vs,rfl,hh⟩:=hx; exact ⟨vs,rfl,jH h hl hS hh⟩
 | tup ts =>
   obtain ⟨vs,rfl,hh⟩:=hx
   refine ⟨vs,rfl,?_⟩
   induction ts generalizing vs with
   | nil=>cases vs <;> simp_all [All2,xN]
   | cons t ts ih =>
     cases vs with
     | nil=>exact hh.elim
     | cons v vs =>
       refine ⟨?_,ih vs hh.2⟩
       obtain ⟨g,cs⟩:=t
       cases g with
       | true=>obtain ⟨us,rfl,hu⟩:=hh.1; exact ⟨us,rfl,jH h hl hS hu⟩
       | false=>exact jH h hl hS hh.1
 | any=>trivial
theorem nb{id : Nat}{o : AObj} : ∀ {fr : List (Nat×AV)} {s : Nat} {v : AV},look (gQ id o fr) s = some v→∃ v0,look fr s = some v0∧v = ta id o v0
 | [],_,_,h=>by simp [gQ,look] at h
 | (j,x)::r,s,v,h=>by
   simp only [gQ] at h
   rcases ah h with ⟨rfl,rfl⟩ | ⟨hne,h⟩
   ·exact ⟨x,aI,rfl⟩
   ·obtain ⟨v0,h1,h2⟩:=nb h
    exact ⟨v0,by rw [aN hne]; exact h1,h2⟩
theorem HInv.sealing{σ σ' : Sig}(h : HInv σ φ sto w){id : Nat}{o : AObj}(hl : look sto id = some o)(hS : SealSig σ σ' φ w id) : HInv σ' φ (bq id o sto) w:=by
 refine ⟨fun b cs hb=>?_,fun i e hi=>?_,fun i i' e1 e2 p p' h1 h2 hne hp hp'=>?_⟩
 ·rcases hS with ⟨_,rfl⟩ | ⟨B,cap,arr,t,_,hh,hs,rfl⟩
  ·exact h.sig b cs hb
  ·unfold fI at hb
   by_cases e : b = B
   ·subst e; simp at hb; subst hb; exact ⟨t,_,hh⟩
   ·simp [e] at hb; exact h.sig b cs hb
 ·obtain ⟨hne,e0,h0,rfl⟩:=dz hi
  have ho:=h.obj _ _ h0
  have hσ : ∀ B c,φ i = some (B,c)→σ' B = σ B:=by
   intro B c' hB
   rcases hS with ⟨_,rfl⟩ | ⟨B',cap,arr,t,hp,hh,hs,rfl⟩
   ·rfl
   ·have : B≠B':=h.inj _ _ _ _ _ _ h0 hl hne hB hp
    simp [fI,this]
  cases e0 with
  | box cs =>
    obtain ⟨B,c',vs,t,h1,h2,h3,h4⟩:=ho
    exact ⟨B,c',vs,t,h1,h2,jH h hl hS h3,(hσ B c' h1).trans h4⟩
  | row k b xs =>
    rcases ho with h1 | ⟨B,cap,arr,t,vs,h1,h2,h3,h4,h5,h6,h7,h8,h9,h10⟩
    ·exact .inl h1
    ·exact .inr ⟨B,cap,arr,t,vs,h1,h2,h3,h4,h5,h6,h7,h8,fun i j x d hx hd=>(h9 i j x d hx hd).mono hS.le,(hσ B cap h1).trans h10⟩
  | map kg vg es =>
    obtain ⟨B,c',ents,h1,h2,h3,h4⟩:=ho
    exact ⟨B,c',ents,h1,h2,h3.mono hS.le,(hσ B c' h1).trans h4⟩
  | loop li fr s p =>
    obtain ⟨B,c',r,h1,h2,h3,h3',h4⟩:=ho
    exact ⟨B,c',r,h1,h2,h3,fun s v hv=>by
     obtain ⟨v0,hv0,rfl⟩:=nb hv
     obtain ⟨u,hu,hru⟩:=h3' s v0 hv0
     exact ⟨u,hu,vK h hl hS hru⟩,(hσ B c' h1).trans h4⟩
 ·obtain ⟨_,e3,h3,_⟩:=dz h1
  obtain ⟨_,e4,h4,_⟩:=dz h2
  exact h.inj _ _ _ _ _ _ h3 h4 hne hp hp'
end Go.Abs
namespace Go.Abs
open Go
variable {P : Program} {c : Ctx} {T : Tab} {σ : Sig} {φ : Pl} {sto : Sto} {w : World}
def SubL{α : Type}(l : List (Nat×α)) : List (Nat×α)→Prop
 | []=>True
 | (s,v)::r=>look l s = some v∧SubL l r
theorem SubL.look{α : Type}{l : List (Nat×α)} : ∀ {l' : List (Nat×α)},SubL l l'→∀ {s : Nat} {v : α},look l' s = some v→Go.Abs.look l s = some v
 | [],_,_,_,h=>by simp [Go.Abs.look] at h
 | (t,u)::r,hs,s,v,h=>by
   rcases ah h with ⟨rfl,rfl⟩ | ⟨_,h⟩
   ·exact hs.1
   ·exact SubL.look hs.2 h
theorem Ext.sub{sto' : Sto}(hs : SubL sto sto') : Ext (fun _=>False) φ φ sto sto':=by
 intro id _
 cases hl : Go.Abs.look sto' id with
 | none=>exact .inl rfl
 | some e=>exact .inr ⟨e,hs.look hl,rfl,e,rfl,compat.refl e⟩
theorem ny{body : Code}{st : St}{Q : Exit→St→Prop}(I : Nat→St→Prop)(n0 : Nat)(h0 : I n0 st)
  (hround : ∀ n st,I n st→OkC P c body st (ax (fun st'=>∃ m st'',m < n∧I m st''∧Imp c st' st'') Q)) : OkC P c (.loop body) st Q:=by
 intro a w σ φ hr
 have hμ : ∀ (a : Act) (w : World),∃ m : Nat,∀ n,(∃ st σ φ,I n st∧Rel c st a w σ φ)→m≤n∧∃ st σ φ,I m st∧Rel c st a w σ φ:=by
  intro a w
  by_cases hex : ∃ n,∃ st σ φ,I n st∧Rel c st a w σ φ
  ·obtain ⟨n,hn⟩:=hex
   induction n using Nat.strongRecOn with
   | _ n ih =>
     by_cases hs : ∃ m,m < n∧∃ st σ φ,I m st∧Rel c st a w σ φ
     ·obtain ⟨m,hm,h⟩:=hs
      exact ih m hm h
     ·refine ⟨n,fun k hk=>⟨?_,hn⟩⟩
      rcases Nat.lt_or_ge k n with h | h
      ·exact absurd ⟨k,h,hk⟩ hs
      ·exact h
  ·exact ⟨0,fun n hn=>absurd ⟨n,hn⟩ hex⟩
 have hμ':=fun a=>Classical.axiomOfChoice (hμ a)
 obtain ⟨μ,hμ''⟩:=Classical.axiomOfChoice hμ'
 refine wpIn_loop (fun a w=>∃ n st σ φ,I n st∧Rel c st a w σ φ) μ ⟨n0,st,σ,φ,h0,hr⟩ ?_
 rintro a w ⟨n,hn⟩
 obtain ⟨hle,st,σ,φ,hI,hr⟩:=hμ'' a w n hn
 refine wpIn_mono (hround _ st hI a w σ φ hr) fun e a' w' ⟨st',σ',φ',h1,h2⟩=>?_
 cases e with
 | normal =>
   obtain ⟨m,st'',hm,hI',himp⟩:=h1
   obtain ⟨σ'',φ'',h3⟩:=himp a' w' σ' φ' (h2.rel (by simp))
   have:=hμ'' a' w' m ⟨st'',σ'',φ'',hI',h3⟩
   exact ⟨⟨m,st'',σ'',φ'',hI',h3⟩,by omega⟩
 | _=>exact ⟨st',σ',φ',h1,h2⟩
theorem j6{fr : List (Nat×AV)}{sto : Sto}{s k b : Nat}(hl : look fr s = some (.one (.d .nil))) : Imp c ⟨fr,sto⟩ ⟨(s,.one (.d (.sl k b [])))::fr,sto⟩:=by
 intro a w σ φ hr
 refine ⟨σ,φ,⟨hr.le,hr.fresh,hr.inv,hr.mine,fun t v hv=>?_,hr.defers,hr.size,hr.fra,hr.pin⟩⟩
 rcases ah hv with ⟨rfl,rfl⟩ | ⟨_,hv⟩
 ·obtain ⟨u,hu,hru⟩:=hr.slot _ _ hl
  refine ⟨u,hu,?_⟩
  replace hru:=RepC.d_inv hru
  cases hru
  exact .d (.sl (fun _ _=>undef) (by simp) (by simp) (by simp) (by simp) (by simp) (by simp))
 ·exact hr.slot t v hv
theorem ee{fr : List (Nat×AV)}{sto : Sto}{s id k b : Nat}(hl : look fr s = some (.one (.d .nil)))(hlt : Nat.blt id 1000000 = true)(hm1 : bn id fr = false)(hm2 : aM id sto = false) :
  Imp c ⟨fr,sto⟩ ⟨(s,.one (.own id 0))::fr,(id,.row k b [])::sto⟩:=by
 intro a w σ φ hr
 have hE : Ext (· = id) φ (bL φ id none) sto ((id,.row k b [])::sto):=Ext.add
 refine ⟨σ,bL φ id none,⟨hr.le,hr.fresh,⟨hr.inv.sig,fun i e hi=>?_,fun i i' e e' p p' hi hi' hne hp hp'=>?_⟩,fun i e p hi hp=>?_,fun t v hv=>?_,hr.defers,hr.size,hr.fra,fun i hi=>by
  have : i≠id:=by have:=Nat.le_of_ble_eq_true hlt; omega
  rw [aZ this]; exact hr.pin i hi⟩⟩
 ·rcases ah hi with ⟨rfl,rfl⟩ | ⟨hne,hi⟩
  ·exact .inl ⟨rfl,aK⟩
  ·exact (hr.inv.obj _ _ hi).ext (Sig.le_refl _) hE (fun j hj=>by cases hj; exact gh hm2 hi) (aZ hne) fun _ _ _=>⟨rfl,rfl⟩
 ·rcases ah hi with ⟨rfl,rfl⟩ | ⟨hn,hi⟩
  ·rw [aK] at hp; cases hp
  ·rcases ah hi' with ⟨rfl,rfl⟩ | ⟨hn',hi'⟩
   ·rw [aK] at hp'; cases hp'
   ·rw [aZ hn] at hp; rw [aZ hn'] at hp'
    exact hr.inv.inj _ _ _ _ _ _ hi hi' hne hp hp'
 ·rcases ah hi with ⟨rfl,rfl⟩ | ⟨hn,hi⟩
  ·rw [aK] at hp; cases hp
  ·rw [aZ hn] at hp
   exact hr.mine _ _ _ hi hp
 ·rcases ah hv with ⟨rfl,rfl⟩ | ⟨_,hv⟩
  ·obtain ⟨u,hu,hru⟩:=hr.slot _ _ hl
   refine ⟨u,hu,?_⟩
   replace hru:=RepC.d_inv hru
   cases hru
   exact .ownNil aI aK
  ·obtain ⟨u,hu,hru⟩:=hr.slot t v hv
   exact ⟨u,hu,hru.ext (Sig.le_refl _) hE fun j hj=>by cases hj; exact dy hm1 hv⟩
theorem Fra.alloc(h : Fra c w)(o : Obj) : Fra c (w.alloc o) :=
 ⟨h.os,h.tape,h.output,by rw [World.size_alloc]; exact Nat.le_succ_of_le h.size,h.drawn,fun b hb hm=>by
  rw [RowKit.Below.heap_alloc w o b (Nat.lt_of_lt_of_le hb h.size)]
  exact h.block b hb hm⟩
theorem il(h : HInv σ φ sto w) : σ w.heap.size = none:=by
 cases hb : σ w.heap.size with
 | none=>rfl
 | some cs =>
   obtain ⟨t,f,hh⟩:=h.sig _ _ hb
   have:=(Array.getElem?_eq_some_iff.1 hh).1
   omega
theorem my{ops : Array Oper}{o : Oper}{rest : List Oper}{st : St}{K : St→Prop}{d id : Nat}{obj : AObj}{v : AV}(hg : o.guard = none)(hdst : o.dst = some d)(hd : (Nat.blt d c.n && Nat.blt id 1000000) = true)
  (hm1 : bn id st.fr = false) (hm2 : aM id st.sto = false)
  (H : ∀ (a : Act) (w : World) (σ : Sig) (φ : Pl),Rel c st a w σ φ→∃ (u : Value) (arr : Array Value) (t : TypeId) (cap : Nat),(execOp a.eval o).run P w = .ok (.value u) (w.alloc (.cells arr t)) ∧
   ObjRep σ (bL φ id (some (w.heap.size,cap))) ((id,obj)::st.sto) (w.alloc (.cells arr t)) id obj∧RepV σ (bL φ id (some (w.heap.size,cap))) ((id,obj)::st.sto) v u)
  (h : ac P c ops rest ⟨(d,v)::st.fr,(id,obj)::st.sto⟩ K) : ac P c ops (o::rest) st K :=
 ba hg fun a w σ φ hr=>by
  obtain ⟨u,arr,t,cap,hrun,hobj,hv⟩:=H a w σ φ hr
  refine ⟨u,_,_,σ,bL φ id (some (w.heap.size,cap)),hrun,?_,h⟩
  rw [hdst]
  simp only [Bool.and_eq_true] at hd
  have hd' : aP c.n (some d) = true:=hd.1
  refine hr.putTo (dst:=some d) (st':=⟨st.fr,(id,obj)::st.sto⟩) hd' hr.le hr.fresh (hr.inv.add hm2 hobj) ?_ (hr.fra.alloc _) (fun i hi=>by
   have : i≠id:=by have:=Nat.le_of_ble_eq_true hd.2; omega
   rw [aZ this]; exact hr.pin i hi) (fun _=>hv) ?_
  ·intro i e p hi hp
   rcases ah hi with ⟨rfl,rfl⟩ | ⟨hne,hi⟩
   ·rw [aK] at hp; cases hp; exact .inl hr.fra.size
   ·rw [aZ hne] at hp; exact hr.mine _ _ _ hi hp
  ·intro s x _ hx
   exact ⟨x,hx,fun z hz=>hz.ext (Sig.le_refl _) Ext.add fun j hj=>by cases hj; exact dy hm1 hx⟩
theorem b5(w : World)(o : Obj) : (w.alloc o).heap[w.heap.size]? = some o:=heap_alloc_new w o
theorem rj(hT : aU P T){ops : Array Oper}{o : Oper}{rest : List Oper}{st : St}{K : St→Prop}{d id : Nat}{t : TypeId}{td : TD}(ho : o.op = .alloc t)(hg : o.guard = none)(hdst : o.dst = some d)
  (hd : (Nat.blt d c.n && Nat.blt id 1000000) = true) (ht : look T t = some td) (hm1 : bn id st.fr = false) (hm2 : aM id st.sto = false)
  (h : ac P c ops rest ⟨(d,.one (.ref id 0))::st.fr,(id,.box (td.zero.map .d))::st.sto⟩ K) : ac P c ops (o::rest) st K:=by
 refine my hg hdst hd hm1 hm2 (fun a w σ φ hr=>?_) h
 obtain ⟨i,u,z,hi,hu,hs,_,hz,hk,hzc,hzb,hzl,_⟩:=(hT t td ht).ex
 refine ⟨_,(td.zero.map iD).toArray,t,0,?_,⟨w.heap.size,0,td.zero.map iD,t,aK,b5 w _,rU hzb,il hr.inv⟩,.ref (cap:=0) aI aK⟩
 simp [execOp,ho,Instr.alloc,d6 hi hz,newVar,newRow,hzc]
theorem vD{ops : Array Oper}{o : Oper}{rest : List Oper}{st : St}{K : St→Prop}{d id : Nat}{t : TypeId}{x : Operand}{v : AV}{cs : List AC}(ho : o.op = .box t x)(hg : o.guard = none)(hdst : o.dst = some d)
  (hd : (Nat.blt d c.n && Nat.blt id 1000000) = true) (hx : ev st x = some v) (hc : cellsOf v = some cs) (hm1 : bn id st.fr = false) (hm2 : aM id st.sto = false) (hm3 : b6 id cs = false)
  (h : ac P c ops rest ⟨(d,.one (.ref id 0))::st.fr,(id,.box cs)::st.sto⟩ K) : ac P c ops (o::rest) st K:=by
 refine my hg hdst hd hm1 hm2 (fun a w σ φ hr=>?_) h
 have hrep:=gi hc (aC hr hx)
 refine ⟨_,(a.eval x).cells,t,0,?_,⟨w.heap.size,0,(a.eval x).cells.toList,t,aK,?_,jb (Sig.le_refl _) Ext.add (fun j hj=>by cases hj; exact hm3) hrep,il hr.inv⟩,
  .ref (cap:=0) aI aK⟩
 ·simp [execOp,ho,Instr.box,newVar,newRow]
 ·rw [Array.toArray_toList]; exact b5 w _
end Go.Abs
