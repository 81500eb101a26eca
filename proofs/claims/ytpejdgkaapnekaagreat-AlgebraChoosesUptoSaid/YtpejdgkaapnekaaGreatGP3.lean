import Derived.RangeFuncLeaves
import Derived.Test.YtpejdgkaapnekaaGreatGP2
set_option linter.unusedVariables false
set_option linter.unusedSimpArgs false
set_option linter.unnecessarySimpa false
set_option maxHeartbeats 1000000
namespace Go.Abs
open Go
variable {P : Program} {c : Ctx} {T : Tab} {σ : Sig} {φ : Pl} {sto : Sto} {w : World}
def Fs(id : Nat)(x : AC) : AC:=bif x.men id then .junk else x
def BA(id : Nat) : List AC→List AC
 | []=>[]
 | c::r=>Fs id c::BA id r
def BB(id : Nat)(v : AV) : AV:=bif v.men id then .any else v
def lv(id : Nat) : List (Nat×AV)→List (Nat×AV)
 | []=>[]
 | (s,v)::r=>(s,BB id v)::lv id r
def xz(id : Nat) : AObj→AObj
 | .box cs=>.box (BA id cs)
 | .loop li fr s p=>.loop li (lv id fr) s p
 | o=>o
def dj(id : Nat) : Sto→Sto
 | []=>[]
 | (i,o)::r=>(i,xz id o)::dj id r
theorem fe{id : Nat} : ∀ {sto : Sto} {i : Nat} {e : AObj},look (dj id sto) i = some e→∃ e0,look sto i = some e0∧e = xz id e0
 | [],_,_,h=>by simp [dj,look] at h
 | (j,x)::r,i,e,h=>by
   simp only [dj] at h
   rcases ah h with ⟨rfl,rfl⟩ | ⟨hne,h⟩
   ·exact ⟨x,aI,rfl⟩
   ·obtain ⟨e0,h2,h3⟩:=fe h
    exact ⟨e0,by rw [aN hne]; exact h2,h3⟩
theorem nA{id : Nat} : ∀ {sto : Sto} {i : Nat} {e : AObj},look sto i = some e→look (dj id sto) i = some (xz id e)
 | [],_,_,h=>by simp [look] at h
 | (j,x)::r,i,e,h=>by
   simp only [dj]
   rcases ah h with ⟨rfl,rfl⟩ | ⟨hn,h⟩
   ·exact aI
   ·rw [aN hn]; exact nA h
theorem od{id : Nat} : ∀ {fr : List (Nat×AV)} {s : Nat} {v : AV},look (lv id fr) s = some v→∃ v0,look fr s = some v0∧v = BB id v0
 | [],_,_,h=>by simp [lv,look] at h
 | (j,x)::r,s,v,h=>by
   simp only [lv] at h
   rcases ah h with ⟨rfl,rfl⟩ | ⟨hne,h⟩
   ·exact ⟨x,aI,rfl⟩
   ·obtain ⟨v0,h1,h2⟩:=od h
    exact ⟨v0,by rw [aN hne]; exact h1,h2⟩
theorem zN{id : Nat}{e : AObj} : compat e (xz id e):=by cases e <;> simp [xz,compat]
theorem rX{id i : Nat}{sto : Sto}(h : look sto i = none) : look (dj id sto) i = none:=by
 cases hl : look (dj id sto) i with
 | none=>rfl
 | some e =>
   obtain ⟨e0,h1,_⟩:=fe hl
   rw [h] at h1; cases h1
theorem Ext.pur{id : Nat}{e : AObj}{p : Option (Nat×Nat)} : Ext (· = id) φ (bL φ id p) sto ((id,e)::dj id sto) :=
 Ext.of_some (fun _ _ hi h=>⟨aZ hi,_,(aN hi).trans (nA h),zN⟩) (fun _ hi h=>(aN hi).trans (rX h))
theorem Ft{id : Nat}{e : AObj}{p : Option (Nat×Nat)}{x : AC}{v : Value}(h : RepC σ φ sto x v) : RepC σ (bL φ id p) ((id,e)::dj id sto) (Fs id x) v:=by
 unfold Fs
 cases hm : x.men id with
 | true=>exact .junk h.oneCell
 | false=>exact h.ext (Sig.le_refl _) Ext.pur fun j hj=>by cases hj; exact hm
theorem vF{id : Nat}{e : AObj}{p : Option (Nat×Nat)} : ∀ {cs : List AC} {vs : List Value},All2 (RepC σ φ sto) cs vs→All2 (RepC σ (bL φ id p) ((id,e)::dj id sto)) (BA id cs) vs
 | [],[],_=>trivial
 | _::_,_::_,h=>⟨Ft h.1,vF h.2⟩
 | [],_::_,h=>h.elim
 | _::_,[],h=>h.elim
theorem xA{id : Nat}{e : AObj}{p : Option (Nat×Nat)}{x : AV}{v : Value}(h : RepV σ φ sto x v) : RepV σ (bL φ id p) ((id,e)::dj id sto) (BB id x) v:=by
 unfold BB
 cases hm : x.men id with
 | true=>trivial
 | false=>exact h.ext (Sig.le_refl _) Ext.pur fun j hj=>by cases hj; exact hm
def xB(P : Program)(o : Oper)(a : Act)(w : World)(σ : Sig)(φ : Pl)(id : Nat)(o' : AObj)(m : Nat) : Prop :=
 ∃ (u : Value) (w' : World) (p : Option (Nat×Nat)),(execOp a.eval o).run P w = .ok (.value u) w'∧w'.os = w.os∧w'.tape = w.tape∧w'.output = w.output∧(w.heap.size≤w'.heap.size∧w.drawn≤w'.drawn) ∧
   (∀ b,b < w.heap.size→(∀ c,φ id≠some (b,c))→w'.heap[b]? = w.heap[b]?) ∧
   (∀ q,p = some q→(∃ c,φ id = some (q.1,c))∨(w.heap.size≤q.1∧q.1 < w'.heap.size)) ∧
   ∀ (id' : Nat) (sto' : Sto),ObjRep σ (bL φ id' p) ((id',o')::sto') w' id' o'∧RepV σ (bL φ id' p) ((id',o')::sto') (.one (.own id' m)) u
theorem Ext.renew{id id' : Nat}{e : AObj}{p : Option (Nat×Nat)} : Ext (· = id') φ (bL φ id' p) sto ((id',e)::del id sto):=by
 intro i hi
 by_cases h : i = id
 ·subst h
  refine .inl ?_
  rw [aN hi]
  cases hl : look (del i sto) i with
  | none=>rfl
  | some e=>exact absurd rfl (df hl).1
 ·cases hl : look sto i with
  | none=>exact .inl (by rw [aN hi,dO h]; exact hl)
  | some e'=>exact .inr ⟨e',rfl,aZ hi,e',by rw [aN hi,dO h]; exact hl,compat.refl _⟩
theorem Rel.renew{st : St}{a : Act}(h : Rel c st a w σ φ){id id' : Nat}{o o' : AObj}{m : Nat}(hlt : Nat.blt id' 1000000 = true)(hl : look st.sto id = some o)(hm1 : bn id' st.fr = false)(hm2 : aM id' st.sto = false)(hm3 : look st.sto id' = none)
  {op : Oper} (H : xB P op a w σ φ id o' m) (hd : aP c.n op.dst = true) :
  ∃ u w' σ' φ',(execOp a.eval op).run P w = .ok (.value u) w'∧Rel c ⟨bj op.dst (.one (.own id' m)) st.fr,(id',o')::del id st.sto⟩ (a.put op.dst u) w' σ' φ':=by
 obtain ⟨u,w',p,hrun,hos,htape,hout,hsize,hw,hp,hboth⟩:=H
 obtain ⟨hobj,hv⟩:=hboth id' (del id st.sto)
 simp only [Nat.blt_eq] at hlt
 refine ⟨u,w',σ,bL φ id' p,hrun,?_⟩
 have hne' : ∀ {i : Nat} {e : AObj},look st.sto i = some e→i≠id':=by rintro i e hi rfl; rw [hm3] at hi; cases hi
 have hother : ∀ {i : Nat} {e : AObj} {q : Nat×Nat},look st.sto i = some e→i≠id→φ i = some q→q.1 < w.heap.size∧(∀ c,φ id≠some (q.1,c)):=by
  intro i e q hi hne hq
  refine ⟨(h.inv.obj _ _ hi).lt hq,fun c' hc'=>?_⟩
  exact h.inv.inj _ _ _ _ _ _ hi hl hne hq hc' rfl
 have hsigb : ∀ b cs,σ b = some cs→b < w.heap.size∧(∀ c,φ id≠some (b,c)):=by
  intro b cs hb
  obtain ⟨t,f,hh⟩:=h.inv.sig b cs hb
  refine ⟨(Array.getElem?_eq_some_iff.1 hh).1,fun c' hc'=>?_⟩
  have:=(h.inv.obj _ _ hl).sig hc'
  rw [hb] at this; cases this
 have hinv : HInv σ (bL φ id' p) ((id',o')::del id st.sto) w':=by
  refine ⟨fun b cs hb=>?_,fun i e hi=>?_,fun i i' e e' q q' hi hi' hne hq hq'=>?_⟩
  ·obtain ⟨t,f,hh⟩:=h.inv.sig b cs hb
   obtain ⟨h1,h2⟩:=hsigb b cs hb
   exact ⟨t,f,(hw b h1 h2).trans hh⟩
  ·rcases ah hi with ⟨rfl,rfl⟩ | ⟨hne,hi⟩
   ·exact hobj
   ·obtain ⟨hni,h0⟩:=df hi
    have ho:=h.inv.obj _ _ h0
    refine ho.ext (X:=(· = id')) (Sig.le_refl _) Ext.renew (fun j hj=>by cases hj; exact gh hm2 h0) (aZ hne) fun B c' hB=>?_
    obtain ⟨h5,h6⟩:=hother h0 hni hB
    exact ⟨hw B h5 h6,rfl⟩
  ·rcases ah hi with ⟨h1,h2⟩ | ⟨hn,hi⟩
   ·subst h1; subst h2
    rcases ah hi' with ⟨h3,_⟩ | ⟨hn',hi'⟩
    ·exact absurd h3.symm hne
    ·obtain ⟨hni,h0⟩:=df hi'
     rw [aK] at hq; rw [aZ hn'] at hq'
     obtain ⟨h5,h6⟩:=hother h0 hni hq'
     rcases hp q hq with ⟨c',hc'⟩ | ⟨h7,_⟩
     ·intro e; rw [e] at hc'; exact h6 c' hc'
     ·omega
   ·obtain ⟨hni,h1⟩:=df hi
    rw [aZ hn] at hq
    obtain ⟨h5,h6⟩:=hother h1 hni hq
    rcases ah hi' with ⟨h3,h4⟩ | ⟨hn',hi'⟩
    ·subst h3; subst h4
     rw [aK] at hq'
     rcases hp q' hq' with ⟨c',hc'⟩ | ⟨h7,_⟩
     ·intro e; rw [← e] at hc'; exact h6 c' hc'
     ·omega
    ·obtain ⟨_,h2⟩:=df hi'
     rw [aZ hn'] at hq'
     exact h.inv.inj _ _ _ _ _ _ h1 h2 hne hq hq'
 refine h.putTo (st':=⟨st.fr,(id',o')::del id st.sto⟩) (w':=w') (σ':=σ) (φ':=bL φ id' p) hd h.le h.fresh hinv (fun i e q hi hq=>?_)
  ⟨hos.trans h.fra.os,htape.trans h.fra.tape,hout.trans h.fra.output,Nat.le_trans h.fra.size hsize.1,Nat.le_trans h.fra.drawn hsize.2,fun b hb hM=>?_⟩ (fun i hi=>by
   rw [aZ (by omega)]; exact h.pin i hi) (fun _=>hv) (fun s x _ hx=>⟨x,hx,fun z hz=>hz.ext (Sig.le_refl _) Ext.renew fun j hj=>by cases hj; exact dy hm1 hx⟩)
 ·rcases ah hi with ⟨h1,_⟩ | ⟨hn,hi⟩
  ·subst h1
   rw [aK] at hq
   rcases hp q hq with ⟨c',hc'⟩ | ⟨h7,_⟩
   ·exact h.mine _ _ (q.1,c') hl hc'
   ·exact .inl (Nat.le_trans h.fra.size h7)
  ·obtain ⟨_,h0⟩:=df hi
   rw [aZ hn] at hq
   exact h.mine _ _ _ h0 hq
 ·rw [hw b (Nat.lt_of_lt_of_le hb h.fra.size) fun c' hc'=>?_]
  ·exact h.fra.block b hb hM
  ·rcases h.mine _ _ _ hl hc' with h1 | h1
   ·simp only at h1; omega
   ·exact hM h1
theorem Rel.replace{st : St}{a : Act}{w' : World}(h : Rel c st a w σ φ){id : Nat}{o o' : AObj}{p : Option (Nat×Nat)}(hlt : ∀ i,Pin i→i≠id)(hl : look st.sto id = some o)
  (hos : w'.os = w.os) (htape : w'.tape = w.tape) (hout : w'.output = w.output) (hsize : w.heap.size≤w'.heap.size∧w.drawn≤w'.drawn)
  (hw : ∀ b,b < w.heap.size→(∀ c,φ id≠some (b,c))→w'.heap[b]? = w.heap[b]?)
  (hp : ∀ q,p = some q→(∃ c,φ id = some (q.1,c))∨(w.heap.size≤q.1∧q.1 < w'.heap.size))
  (hobj : ObjRep σ (bL φ id p) ((id,o')::dj id st.sto) w' id o') {dst : Option Nat} (hd : aP c.n dst = true) {v : AV} {u : Value}
  (hv : RepV σ (bL φ id p) ((id,o')::dj id st.sto) v u) :
  ∃ σ' φ',Rel c ⟨bj dst v (lv id st.fr),bH id o' (dj id st.sto)⟩ (a.put dst u) w' σ' φ':=by
 have hother : ∀ {i : Nat} {e : AObj} {q : Nat×Nat},look st.sto i = some e→i≠id→φ i = some q→q.1 < w.heap.size∧(∀ c,φ id≠some (q.1,c)):=by
  intro i e q hi hne hq
  refine ⟨(h.inv.obj _ _ hi).lt hq,fun c' hc'=>?_⟩
  exact h.inv.inj _ _ _ _ _ _ hi hl hne hq hc' rfl
 have hsigb : ∀ b cs,σ b = some cs→b < w.heap.size∧(∀ c,φ id≠some (b,c)):=by
  intro b cs hb
  obtain ⟨t,f,hh⟩:=h.inv.sig b cs hb
  refine ⟨(Array.getElem?_eq_some_iff.1 hh).1,fun c' hc'=>?_⟩
  have:=(h.inv.obj _ _ hl).sig hc'
  rw [hb] at this; cases this
 have hinv : HInv σ (bL φ id p) ((id,o')::dj id st.sto) w':=by
  refine ⟨fun b cs hb=>?_,fun i e hi=>?_,fun i i' e e' q q' hi hi' hne hq hq'=>?_⟩
  ·obtain ⟨t,f,hh⟩:=h.inv.sig b cs hb
   obtain ⟨h1,h2⟩:=hsigb b cs hb
   exact ⟨t,f,(hw b h1 h2).trans hh⟩
  ·rcases ah hi with ⟨rfl,rfl⟩ | ⟨hne,hi⟩
   ·exact hobj
   ·obtain ⟨e0,h0,rfl⟩:=fe hi
    have ho:=h.inv.obj _ _ h0
    cases e0 with
    | box cs =>
      obtain ⟨B,c',vs,t,h1,h2,h3,h4⟩:=ho
      obtain ⟨h5,h6⟩:=hother h0 hne h1
      exact ⟨B,c',vs,t,(aZ hne).trans h1,(hw B h5 h6).trans h2,vF h3,h4⟩
    | row k b xs =>
      rcases ho with ⟨h1,h2⟩ | ⟨B,cap,arr,t,vs,h1,h2,h3⟩
      ·exact .inl ⟨h1,(aZ hne).trans h2⟩
      ·obtain ⟨h5,h6⟩:=hother h0 hne h1
       exact .inr ⟨B,cap,arr,t,vs,(aZ hne).trans h1,(hw B h5 h6).trans h2,h3⟩
    | map kg vg es =>
      obtain ⟨B,c',ents,h1,h2,h3⟩:=ho
      obtain ⟨h5,h6⟩:=hother h0 hne h1
      exact ⟨B,c',ents,(aZ hne).trans h1,(hw B h5 h6).trans h2,h3⟩
    | loop li fr s p =>
      obtain ⟨B,c',r,h1,h2,h3,h3',h4⟩:=ho
      obtain ⟨h5,h6⟩:=hother h0 hne h1
      exact ⟨B,c',r,(aZ hne).trans h1,(hw B h5 h6).trans h2,h3,fun s v hv=>by
       obtain ⟨v0,hv0,rfl⟩:=od hv
       obtain ⟨u,hu,hru⟩:=h3' s v0 hv0
       exact ⟨u,hu,xA hru⟩,h4⟩
  ·rcases ah hi with ⟨h1,h2⟩ | ⟨hn,hi⟩
   ·subst h1; subst h2
    rcases ah hi' with ⟨h3,_⟩ | ⟨hn',hi'⟩
    ·exact absurd h3.symm hne
    ·obtain ⟨e0,h0,_⟩:=fe hi'
     rw [aK] at hq; rw [aZ hn'] at hq'
     obtain ⟨h5,h6⟩:=hother h0 hn' hq'
     rcases hp q hq with ⟨c',hc'⟩ | ⟨h7,_⟩
     ·intro e; rw [e] at hc'; exact h6 c' hc'
     ·omega
   ·obtain ⟨e1,h1,_⟩:=fe hi
    rw [aZ hn] at hq
    obtain ⟨h5,h6⟩:=hother h1 hn hq
    rcases ah hi' with ⟨h3,h4⟩ | ⟨hn',hi'⟩
    ·subst h3; subst h4
     rw [aK] at hq'
     rcases hp q' hq' with ⟨c',hc'⟩ | ⟨h7,_⟩
     ·intro e; rw [← e] at hc'; exact h6 c' hc'
     ·omega
    ·obtain ⟨e2,h2,_⟩:=fe hi'
     rw [aZ hn'] at hq'
     exact h.inv.inj _ _ _ _ _ _ h1 h2 hne hq hq'
 have hr:=h.putTo (st':=⟨lv id st.fr,(id,o')::dj id st.sto⟩) (v:=v) (u:=u) (w':=w') (σ':=σ) (φ':=bL φ id p) hd h.le h.fresh hinv (fun i e q hi hq=>?_)
  ⟨hos.trans h.fra.os,htape.trans h.fra.tape,hout.trans h.fra.output,Nat.le_trans h.fra.size hsize.1,Nat.le_trans h.fra.drawn hsize.2,fun b hb hM=>?_⟩ (fun i hi=>by
   have : i≠id:=hlt i hi
   rw [aZ this]; exact h.pin i hi) (fun _=>hv) (fun s x _ hx=>?_)
 ·exact nB (fun i=>ci) _ _ _ _ hr
 ·rcases ah hi with ⟨h1,_⟩ | ⟨hn,hi⟩
  ·subst h1
   rw [aK] at hq
   rcases hp q hq with ⟨c',hc'⟩ | ⟨h7,_⟩
   ·exact h.mine _ _ (q.1,c') hl hc'
   ·exact .inl (Nat.le_trans h.fra.size h7)
  ·obtain ⟨e0,h0,_⟩:=fe hi
   rw [aZ hn] at hq
   exact h.mine _ _ _ h0 hq
 ·rw [hw b (Nat.lt_of_lt_of_le hb h.fra.size) fun c' hc'=>?_]
  ·exact h.fra.block b hb hM
  ·rcases h.mine _ _ _ hl hc' with h1 | h1
   ·simp only at h1; omega
   ·exact hM h1
 ·obtain ⟨v0,h1,rfl⟩:=od hx
  exact ⟨v0,h1,fun z hz=>xA hz⟩
def eI(st : St)(k : Nat) : AV→Option (List (List D))
 | .one (.d (.sl k' _ ys))=>bif Nat.beq k k' then some ys else none
 | .one (.d .nil)=>some []
 | .one (.own i m)=>match look st.sto i with
   | some (.row k' _ ys)=>bif Nat.beq k k' then some (ys.take m) else none
   | _=>none
 | .one (.sub i lo m)=>match look st.sto i with
   | some (.row k' _ ys)=>bif Nat.beq k k' then some ((ys.drop lo).take m) else none
   | _=>none
 | _=>none
theorem lU{α : Type}{k : Nat} : ∀ {xs : List (List α)} (n : Nat),(∀ x∈xs,x.length = k)→(xs.take n).flatten = xs.flatten.take (n * k)
 | [],n,_=>by simp
 | x::xs,0,_=>by simp
 | x::xs,n + 1,hk=>by
   have hx:=hk x (by simp)
   have e : (n + 1) * k = x.length + n * k:=by rw [hx,Nat.succ_mul]; omega
   simp only [List.take_succ_cons,List.flatten_cons]
   rw [lU n (fun y hy=>hk y (by simp [hy])),e,List.take_append,List.take_of_length_le (Nat.le_add_right _ _),Nat.add_sub_cancel_left]
theorem pr{α : Type}{k : Nat} : ∀ {xs : List (List α)} (n : Nat),(∀ x∈xs,x.length = k)→(xs.drop n).flatten = xs.flatten.drop (n * k)
 | [],n,_=>by simp
 | x::xs,0,_=>by simp
 | x::xs,n + 1,hk=>by
   have hx:=hk x (by simp)
   have e : (n + 1) * k = x.length + n * k:=by rw [hx,Nat.succ_mul]; omega
   simp only [List.drop_succ_cons,List.flatten_cons]
   rw [pr n (fun y hy=>hk y (by simp [hy])),e,List.drop_append,List.drop_of_length_le (Nat.le_add_right _ _),Nat.add_sub_cancel_left,List.nil_append]
structure Src (σ : Sig) (w : World) (k : Nat) (ys : List (List D)) (v : Value) (us : List Value) : Prop where
 shape : ∃ A cap,v = .slice A ys.length cap
 first : ∀ (P : Program) (w' : World),w'.heap = w.heap→(Builtin.firstCells k ys.length v).run P w' = .ok us.toArray w'
 rep : All2 (Rep σ) ys.flatten us
 len : ∀ y∈ys,y.length = k
 one : ∀ u∈us,u.oneCell' = true
theorem oe{w' : World}{k n B o cap : Nat}{us : List Value}(hl : us.length = n * k)(hm : i6 w B o us)(hw : w'.heap = w.heap) : (Builtin.firstCells k n (.slice (some ⟨B,o,none⟩) n cap)).run P w' = .ok us.toArray w':=by
 refine run_firstCells_some (P:=P) w' k n ⟨B,o,none⟩ n cap us hl fun j v hv=>?_
 have:=hm j v hv
 rw [ff]
 unfold World.cell? at this ⊢
 rw [hw]; exact this
theorem pt{ds : List D}{us : List Value}(h : All2 (Rep σ) ds us) : ∀ u∈us,u.oneCell' = true:=by
 induction ds generalizing us with
 | nil=>cases us with
   | nil=>simp
   | cons _ _=>exact h.elim
 | cons d ds ih=>cases us with
   | nil=>exact h.elim
   | cons u us =>
     intro x hx
     rcases List.mem_cons.1 hx with rfl | hx
     ·exact n9 h.1.oneCell
     ·exact ih h.2 x hx
theorem ek{w' : World}{k cap : Nat}{A : Option Addr} : (Builtin.firstCells k 0 (.slice A 0 cap)).run P w' = .ok #[] w':=by
 cases A with
 | none=>simp [Builtin.firstCells]
 | some a=>exact run_firstCells_some (P:=P) w' k 0 a 0 cap [] (by simp) (by simp)
theorem Al{st : St}{k : Nat}{v : AV}{ys : List (List D)}(hs : eI st k v = some ys)(hi : HInv σ φ st.sto w){u : Value}(h : RepV σ φ st.sto v u) : ∃ us,Src σ w k ys u us:=by
 have hrow : ∀ {i k' b' B cap lo m : Nat} {zs : List (List D)},look st.sto i = some (.row k' b' zs)→φ i = some (B,cap)→lo + m≤zs.length→∃ us : List Value,All2 (Rep σ) ((zs.drop lo).take m).flatten us ∧
   i6 w B (lo * k') us∧us.length = m * k'∧∀ y∈(zs.drop lo).take m,y.length = k':=by
  intro i k' b' B cap lo m zs hl hp hlm
  obtain ⟨arr,ty,us,hh,hsz,hle,_,_,hlk,ha,hcell,_,hul⟩:=(hi.obj _ _ hl).row_cells hp
  have hlk' : ∀ y∈(zs.drop lo).take m,y.length = k':=fun y hy=>hlk y (List.mem_of_mem_drop (List.mem_of_mem_take hy))
  refine ⟨(us.drop (lo * k')).take (m * k'),?_,?_,?_,hlk'⟩
  ·rw [lU m (fun y hy=>hlk y (List.mem_of_mem_drop hy)),pr lo hlk]
   exact (ha.drop _).take _
  ·intro j u hu
   rw [List.getElem?_take] at hu
   split at hu
   ·rw [List.getElem?_drop] at hu
    rw [fF hh]
    exact hcell _ _ hu
   ·cases hu
  ·have : (lo + m) * k'≤zs.length * k':=Nat.mul_le_mul_right _ hlm
   rw [Nat.add_mul] at this
   simp [hul]; omega
 unfold eI at hs
 split at hs
 ·rename_i k' b' ys'
  cases hb : Nat.beq k k' <;> simp only [hb,cond_true,cond_false,reduceCtorEq,Option.some.injEq] at hs
  subst hs
  obtain rfl:=Nat.eq_of_beq_eq_true hb
  replace h:=RepC.d_inv h
  cases h with
  | sl vs hc h48 hb47 hk hA hh =>
    rename_i A cap
    rcases Nat.eq_zero_or_pos ys'.length with h0 | h0
    ·have:=List.eq_nil_of_length_eq_zero h0
     subst this
     exact ⟨[],⟨⟨A,cap,rfl⟩,fun P w' _=>ek,trivial,by simp,by simp⟩⟩
    ·obtain ⟨B,off,cells,rfl,hσ,hcell⟩:=hA h0
     obtain ⟨t,f,hhp⟩:=hi.sig _ _ hσ
     have hfl:=bU hk
     let us : List Value:=(List.range (ys'.length * k)).map fun j=>vs (j / k) (j % k)
     have hus : ∀ j,j < ys'.length * k→us[j]? = some (vs (j / k) (j % k)):=fun j hj=>by simp [us,hj]
     have hdiv : ∀ j,j < ys'.length * k→0 < k∧j / k < ys'.length∧j % k < k∧j / k * k + j % k = j:=by
      intro j hj
      have hk0 : 0 < k:=by
       rcases Nat.eq_zero_or_pos k with h0 | h0
       ·subst h0; simp at hj
       ·exact h0
      exact ⟨hk0,Nat.div_lt_of_lt_mul (by rw [Nat.mul_comm]; exact hj),Nat.mod_lt _ hk0,by rw [Nat.mul_comm]; exact Nat.div_add_mod j k⟩
     have hrep : All2 (Rep σ) ys'.flatten us:=by
      refine All2.of_get (by simp [us,hfl]) fun j d u hd hu=>?_
      have hj : j < ys'.length * k:=by rw [← hfl]; exact (List.getElem?_eq_some_iff.1 hd).1
      obtain ⟨hk0,h1,h2,h3⟩:=hdiv j hj
      rw [hus j hj] at hu; cases hu
      have hx : ys'[j / k]? = some ys'[j / k]:=List.getElem?_eq_getElem h1
      have:=dP hk hx h2
      rw [h3,hd] at this
      exact hh _ _ _ _ hx this.symm
     refine ⟨us,⟨⟨_,cap,rfl⟩,fun P w' hw=>oe (by simp [us]) ?_ hw,hrep,hk,pt hrep⟩⟩
     intro j u hu
     have hj : j < ys'.length * k:=by
      have:=(List.getElem?_eq_some_iff.1 hu).1
      simpa [us] using this
     obtain ⟨hk0,h1,h2,h3⟩:=hdiv j hj
     rw [hus j hj] at hu; cases hu
     rw [fF hhp,← hcell _ _ h1 h2]
     congr 1; omega
 ·simp only [Option.some.injEq] at hs; subst hs
  replace h:=RepC.d_inv h; cases h
  exact ⟨[],⟨⟨none,0,rfl⟩,fun P w' _=>ek,trivial,by simp,by simp⟩⟩
 ·rename_i i m
  split at hs <;> (try (simp at hs; done))
  rename_i k' b' ys' hl
  cases hb : Nat.beq k k' <;> simp only [hb,cond_true,cond_false,reduceCtorEq,Option.some.injEq] at hs
  subst hs
  obtain rfl:=Nat.eq_of_beq_eq_true hb
  cases h with
  | dead hxx _=>simp [bx,bP hl] at hxx
  | ownNil h hp=>exact ⟨[],⟨⟨none,0,by simp⟩,fun P w' _=>by simpa using ek,by simp [All2],by simp,by simp⟩⟩
  | own hl' hn hp =>
    rw [hl] at hl'; cases hl'
    obtain ⟨us,h1,h2,h3,h4⟩:=hrow (lo:=0) (m:=m) hl hp (by omega)
    simp only [List.drop_zero,Nat.zero_mul] at h1 h2 h4
    have hm : (ys'.take m).length = m:=by simp; omega
    refine ⟨us,⟨⟨_,_,by rw [hm]⟩,fun P w' hw=>?_,h1,h4,pt h1⟩⟩
    rw [hm]
    exact oe h3 h2 hw
 ·rename_i i lo m
  split at hs <;> (try (simp at hs; done))
  rename_i k' b' ys' hl
  cases hb : Nat.beq k k' <;> simp only [hb,cond_true,cond_false,reduceCtorEq,Option.some.injEq] at hs
  subst hs
  obtain rfl:=Nat.eq_of_beq_eq_true hb
  cases h with
  | dead hxx _=>simp [bx,bP hl] at hxx
  | sub hl' hn hc hA =>
    rw [hl] at hl'; cases hl'
    rename_i cap' A
    have hm : ((ys'.drop lo).take m).length = m:=by simp; omega
    rcases Nat.eq_zero_or_pos m with h0 | h0
    ·subst h0
     exact ⟨[],⟨⟨A,cap',by simp⟩,fun P w' _=>by simpa using ek,by simp [All2],by simp,by simp⟩⟩
    ·obtain ⟨B,cap,hp,rfl⟩:=hA h0
     obtain ⟨us,h1,h2,h3,h4⟩:=hrow (lo:=lo) (m:=m) hl hp hn
     refine ⟨us,⟨⟨_,_,by rw [hm]⟩,fun P w' hw=>?_,h1,h4,pt h1⟩⟩
     rw [hm]
     exact oe h3 h2 hw
 ·simp at hs
end Go.Abs
namespace Go.Abs
open Go
variable {P : Program} {c : Ctx} {T : Tab} {σ : Sig} {φ : Pl} {sto : Sto} {w : World}
theorem sC{t t2 ty e e2 : TypeId}{i : TypeInfo}{z : Value}(ht : P.underlying t = some (.slice e))(ht2 : P.underlying t2 = some (.slice e2))(hi : P.info? e = some i)(hz : i.zero = some z)
  {base A : Option Addr} {n cap m c' : Nat} {olds news : List Value}
  (hfo : ∀ w',w'.heap = w.heap→(Builtin.firstCells i.size n (.slice base n cap)).run P w' = .ok olds.toArray w')
  (hfx : ∀ w',w'.heap = w.heap→(Builtin.firstCells i.size m (.slice A m c')).run P w' = .ok news.toArray w')
  (hg : cap < n + m) (hb : (n + m) * i.bytes≤140737488355328) (h48 : n + m < 2 ^ 48) :
  (Builtin.append_ #[t,t2] ty #[.slice base n cap,.slice A m c']).run P w =
   .ok (.slice (some ⟨w.heap.size,0,none⟩) (n + m) (grownCap w (n + m) cap e))
    (w.drew.alloc (.cells (olds ++ news ++ (Builtin.zeroCells z.cells (grownCap w (n + m) cap e - (n + m))).toList).toArray e)):=by
 have hn : ¬ (n + m≤cap):=by omega
 have h63' : ¬ (9223372036854775807 < ((n : Int) + (m : Int))):=by omega
 have hfit:=growslice_fits hg hb
 have h48' : ¬ (281474976710656 < Builtin.nextslicecap (n + m) cap * i.bytes):=by omega
 have hf:=hfx w.drew rfl
 have hf2:=hfo w.drew rfl
 simp [Builtin.append_,run_underlying ht,run_underlying ht2,sizeOf,typeInfo,zeroValue,hi,hz,Builtin.lenOf,hn,h63',h48',Question.forced,hf,hf2,newRow,grownCap]
 congr 2
 apply Array.ext'
 simp
theorem sD{t t2 ty e e2 ty0 : TypeId}{i : TypeInfo}(ht : P.underlying t = some (.slice e))(ht2 : P.underlying t2 = some (.slice e2))(hi : P.info? e = some i)
  {A : Option Addr} {B n cap m c' : Nat} {arr : Array Value} {news : List Value} (hh : w.heap[B]? = some (.cells arr ty0 (0,0)))
  (hfx : (Builtin.firstCells i.size m (.slice A m c')).run P w = .ok news.toArray w) (h1 : ∀ u∈news,u.oneCell' = true)
  (hg : n + m≤cap) (hfit : n * i.size + news.length≤arr.size) :
  (Builtin.append_ #[t,t2] ty #[.slice (some ⟨B,0,none⟩) n cap,.slice A m c']).run P w =
   .ok (.slice (some ⟨B,0,none⟩) (n + m) cap) (w.setRow B (arr.toList.take (n * i.size) ++ news ++ arr.toList.drop (n * i.size + news.length)).toArray):=by
 have hst:=run_storeCells_at P B (n * i.size) ty0 news 0 arr w hh (by simpa using hfit) h1
 simp only [Nat.add_zero] at hst
 simp [Builtin.append_,run_underlying ht,run_underlying ht2,sizeOf,typeInfo,hi,Builtin.lenOf,hg,hfx,Addr.add_lit,hst]
theorem tO{t t2 ty e e2 : TypeId}{i : TypeInfo}(ht : P.underlying t = some (.slice e))(ht2 : P.underlying t2 = some (.slice e2))(hi : P.info? e = some i)
  {A : Option Addr} {c' : Nat} : (Builtin.append_ #[t,t2] ty #[.slice none 0 0,.slice A 0 c']).run P w = .ok (.slice none 0 0) w:=by
 have:=ek (P:=P) (w':=w) (k:=i.size) (cap:=c') (A:=A)
 simp [Builtin.append_,run_underlying ht,run_underlying ht2,sizeOf,typeInfo,hi,Builtin.lenOf,this]
theorem nk(hT : aU P T){o : Oper}{st : St}{a : Act}(hr : Rel c st a w σ φ){t t2 e e2 k b k2 b2 k' b' id n : Nat}{z z2 : List D}{x y : Operand}{v : AV}{xs ys zs : List (List D)}
  (ho : o.op = .call { callee:=.builtin .append,args:=#[x,y],argTypes:=#[t,t2] }) (ht : aR T t = some (e,k,b,z)) (ht2 : aR T t2 = some (e2,k2,b2,z2))
  (h1 : RepC σ φ st.sto (.own id n) (a.eval x)) (hl : look st.sto id = some (.row k' b' xs)) (hkb : (Nat.beq k k' && Nat.beq b b') = true) (hy : ev st y = some v) (hs : eI st k v = some ys) (hzs : zs = xs.take n ++ ys)
  (h48 : n + ys.length < 2 ^ 48) (hb47 : (n + ys.length) * b≤2 ^ 47) : xB P o a w σ φ id (.row k b zs) (n + ys.length):=by
 obtain ⟨i,zv,hu,hi,rfl,rfl,hz,hzc,hzb,hzl⟩:=de hT ht
 obtain ⟨_,_,hu2,_⟩:=de hT ht2
 simp only [Bool.and_eq_true] at hkb
 obtain rfl:=Nat.eq_of_beq_eq_true hkb.1
 obtain rfl:=Nat.eq_of_beq_eq_true hkb.2
 obtain ⟨us,hsrc⟩:=Al hs hr.inv (aC hr hy)
 obtain ⟨⟨A,c',hux⟩,hfirst,hrep,hlen,hone⟩:=hsrc
 have hexec : ∀ {u : Value} {w' : World},(Builtin.append_ #[t,t2] o.type #[a.eval x,a.eval y]).run P w = .ok u w'→(execOp a.eval o).run P w = .ok (.value u) w':=by
  intro u w' hrun
  simp [execOp,ho,resolve,invoke,builtin,hrun]
 have hul : us.length = ys.length * i.size:=by rw [← hrep.length]; exact bU hlen
 generalize hue : a.eval x = ux at h1
 have hobj0:=hr.inv.obj _ _ hl
 have hzc' : zv.cells.size = i.size:=by rw [hzc]; simp [hzl]
 -- growing, out of whatever was there
 have grow : ∀ (base : Option Addr) (cap : Nat) (olds : List Value),ux = .slice base n cap→cap < n + ys.length→(∀ x∈xs.take n,x.length = i.size)→(xs.take n).length = n →
   All2 (Rep σ) (xs.take n).flatten olds→(∀ w',w'.heap = w.heap→(Builtin.firstCells i.size n (.slice base n cap)).run P w' = .ok olds.toArray w') →
   xB P o a w σ φ id (.row i.size i.bytes zs) (n + ys.length):=by
  intro base cap olds he hcap hk1 hn1 hro hfo
  have hrun:=sC (P:=P) (w:=w) (ty:=o.type) hu hu2 hi hz (A:=A) (m:=ys.length) (c':=c') hfo (fun w' hw=>by rw [← hux]; exact hfirst P w' hw) hcap hb47 h48
  rw [← hux,← he,← hue] at hrun
  have hgc:=grownCap_ge w (n + ys.length) cap e
  have hol : olds.length = n * i.size:=by rw [← hro.length]; rw [bU hk1,hn1]
  refine ⟨_,_,some (w.heap.size,grownCap w (n + ys.length) cap e),hexec hrun,rfl,rfl,rfl,by simp,fun bb hbb _=>RowKit.Below.heap_alloc w.drew _ bb hbb,fun q hq=>by cases hq; exact .inr ⟨Nat.le_refl _,by simp⟩,fun id' sto'=>⟨?_,?_⟩⟩
  ·exact (ObjRep.mk_row (B:=w.heap.size) (cap:=grownCap w (n + ys.length) cap e) (us:=olds ++ us) aK (b5 w.drew _) (by
    simp only [List.size_toArray,List.length_append,Array.length_toList,size_zeroCells,hzc',hol,hul,← Nat.add_mul]
    congr 1; omega) (by rw [hzs]; simp only [List.length_append,hn1]; exact hgc) (by rw [hzs]; simp only [List.length_append,hn1]; exact h48) (by rw [hzs]; simp only [List.length_append,hn1]; exact hb47)
    (fun x hx=>by
     rw [hzs] at hx
     rcases List.mem_append.1 hx with hx | hx
     ·exact hk1 x hx
     ·exact hlen x hx)
    (by rw [hzs,List.flatten_append]; exact hro.append hrep)
    (fun j u hj=>by
     have hlt:=(List.getElem?_eq_some_iff.1 hj).1
     simp only [List.getElem?_toArray]
     rw [List.getElem?_append_left hlt]; exact hj)
    (il hr.inv))
  ·exact RepC.own (cap:=grownCap w (n + ys.length) cap e) aI (by rw [hzs]; simp only [List.length_append,hn1]; exact Nat.le_refl _) aK
 cases h1 with
 | dead hxx _=>simp [bx,bP hl] at hxx
 | ownNil hl' hp =>
   rw [hl] at hl'; cases hl'
   rcases Nat.eq_zero_or_pos ys.length with h0 | h0
   ·have hys:=List.eq_nil_of_length_eq_zero h0
    subst hys
    have hrun:=tO (P:=P) (w:=w) (ty:=o.type) hu hu2 hi (A:=A) (c':=c')
    have e0 : (0 : Nat) + ([] : List (List D)).length = 0:=rfl
    rw [show a.eval x = .slice none 0 0 from hue,show a.eval y = .slice A 0 c' from hux] at hexec
    exact ⟨_,w,none,hexec hrun,rfl,rfl,rfl,⟨Nat.le_refl _,Nat.le_refl _⟩,fun _ _ _=>rfl,fun q hq=>(by cases hq),fun id' sto'=>⟨.inl ⟨by rw [hzs]; simp,aK⟩,RepC.ownNil aI aK⟩⟩
   ·exact grow none 0 [] rfl (by omega) (by simp) (by simp) (by simp [All2]) (fun w' _=>ek)
 | own hl' hn hp =>
   rename_i B cap xs'
   rw [hl] at hl'; cases hl'
   obtain ⟨arr,ty,vs,hh,hsz,hle,hx48,hxb,hlk,ha,hcell,hσ,hvl⟩:=hobj0.row_cells hp
   have hk1 : ∀ x∈xs.take n,x.length = i.size:=fun x hx=>hlk x (List.mem_of_mem_take hx)
   have hn1 : (xs.take n).length = n:=by simp; omega
   have hro : All2 (Rep σ) (xs.take n).flatten (vs.take (n * i.size)):=by rw [lU n hlk]; exact ha.take _
   have hnk : n * i.size≤xs.length * i.size:=Nat.mul_le_mul_right _ hn
   have hasz : xs.length * i.size≤arr.size:=by rw [hsz]; exact Nat.mul_le_mul_right _ hle
   by_cases hcap : n + ys.length≤cap
   ·have hfit : n * i.size + us.length≤arr.size:=by rw [hul,hsz,← Nat.add_mul]; exact Nat.mul_le_mul_right _ hcap
    have hrun:=sD (P:=P) (w:=w) (ty:=o.type) hu hu2 hi (A:=A) (m:=ys.length) (c':=c') (n:=n) (cap:=cap) hh (by rw [← hux]; exact hfirst P w rfl) hone hcap hfit
    rw [← hux,← hue] at hrun
    refine ⟨_,_,some (B,cap),hexec hrun,rfl,rfl,rfl,by simp,fun bb _ hne=>setRow_other w B bb _ (fun e=>hne cap (by rw [e]; exact hp)),fun q hq=>by cases hq; exact .inl ⟨cap,hp⟩,fun id' sto'=>⟨?_,?_⟩⟩
    ·exact (ObjRep.mk_row (B:=B) (cap:=cap) (us:=vs.take (n * i.size) ++ us) aK (setRow_heap w B _ _ ty _ hh) (by
       rw [← hsz,List.size_toArray]; simp only [List.length_append,List.length_take,List.length_drop,Array.length_toList]; omega)
      (by rw [hzs]; simp only [List.length_append,hn1]; exact hcap) (by rw [hzs]; simp only [List.length_append,hn1]; exact h48) (by rw [hzs]; simp only [List.length_append,hn1]; exact hb47)
      (fun x hx=>by
       rw [hzs] at hx
       rcases List.mem_append.1 hx with hx | hx
       ·exact hk1 x hx
       ·exact hlen x hx)
      (by rw [hzs,List.flatten_append]; exact hro.append hrep)
      (fun j u hj=>by
       have hl1 : (vs.take (n * i.size)).length = n * i.size:=by simp; omega
       have hl2 : (arr.toList.take (n * i.size)).length = n * i.size:=by simp; omega
       simp only [List.getElem?_toArray,List.append_assoc]
       rcases Nat.lt_or_ge j (n * i.size) with h0 | h0
       ·rw [List.getElem?_append_left (by omega),List.getElem?_take,if_pos h0] at hj
        rw [List.getElem?_append_left (by omega),List.getElem?_take,if_pos h0,Array.getElem?_toList]
        exact hcell _ _ hj
       ·rw [List.getElem?_append_right (by omega),hl1] at hj
        rw [List.getElem?_append_right (by omega),hl2]
        have hlt:=(List.getElem?_eq_some_iff.1 hj).1
        rw [List.getElem?_append_left hlt]; exact hj)
      hσ)
    ·exact RepC.own (cap:=cap) aI (by rw [hzs]; simp only [List.length_append,hn1]; exact Nat.le_refl _) aK
   ·refine grow (some ⟨B,0,none⟩) cap (vs.take (n * i.size)) rfl (by omega) hk1 hn1 hro (fun w' hw=>?_)
    refine oe (w:=w) (by simp; omega) (fun j u hj=>?_) hw
    rw [Nat.zero_add,fF hh]
    rw [List.getElem?_take] at hj
    split at hj
    ·exact hcell _ _ hj
    ·cases hj
theorem dS(hT : aU P T){ops : Array Oper}{o : Oper}{rest : List Oper}{st : St}{K : St→Prop}{t t2 e e2 k b k2 b2 k' b' id n : Nat}{z z2 : List D}{x y : Operand}{v : AV}{xs ys zs : List (List D)}
  (ho : o.op = .call { callee:=.builtin .append,args:=#[x,y],argTypes:=#[t,t2] }) (hg : o.guard = none) (hd : aP c.n o.dst = true) (ht : aR T t = some (e,k,b,z)) (ht2 : aR T t2 = some (e2,k2,b2,z2))
  (hlt : (Nat.blt id 1000000 || Nat.ble 2000000 id) = true) (hx : ev st x = some (.one (.own id n))) (hl : look st.sto id = some (.row k' b' xs)) (hkb : (Nat.beq k k' && Nat.beq b b') = true) (hy : ev st y = some v) (hs : eI st k v = some ys) (hzs : zs = xs.take n ++ ys)
  (h48 : n + ys.length < 2 ^ 48) (hb47 : (n + ys.length) * b≤2 ^ 47)
  (h : ac P c ops rest ⟨bj o.dst (.one (.own id (n + ys.length))) (lv id st.fr),bH id (.row k b zs) (dj id st.sto)⟩ K) : ac P c ops (o::rest) st K:=by
 refine ba hg fun a w σ φ hr=>?_
 obtain ⟨u,w',p,hrun,h1,h2,h3,h4,h5,h6,h7⟩:=nk hT hr ho ht ht2 (aC hr hx) hl hkb hy hs hzs h48 hb47
 obtain ⟨h8,h9⟩:=h7 id (dj id st.sto)
 obtain ⟨σ',φ',hr'⟩:=hr.replace (dst:=o.dst) (fun i hi=>by simp only [Bool.or_eq_true,Nat.blt_eq,Nat.ble_eq] at hlt; omega) hl h1 h2 h3 h4 h5 h6 h8 hd h9
 exact ⟨u,w',_,σ',φ',hrun,hr',h⟩
theorem wN(hT : aU P T){ops : Array Oper}{o : Oper}{rest : List Oper}{st : St}{K : St→Prop}{t t2 e e2 k b k2 b2 k' b' id id' n : Nat}{z z2 : List D}{x y : Operand}{v : AV}{xs ys zs : List (List D)}
  (ho : o.op = .call { callee:=.builtin .append,args:=#[x,y],argTypes:=#[t,t2] }) (hg : o.guard = none) (hd : aP c.n o.dst = true) (ht : aR T t = some (e,k,b,z)) (ht2 : aR T t2 = some (e2,k2,b2,z2))
  (hlt : Nat.blt id' 1000000 = true) (hx : ev st x = some (.one (.own id n))) (hl : look st.sto id = some (.row k' b' xs)) (hkb : (Nat.beq k k' && Nat.beq b b') = true) (hy : ev st y = some v) (hs : eI st k v = some ys) (hzs : zs = xs.take n ++ ys)
  (h48 : n + ys.length < 2 ^ 48) (hb47 : (n + ys.length) * b≤2 ^ 47) (hm1 : bn id' st.fr = false) (hm2 : aM id' st.sto = false) (hm3 : look st.sto id' = none)
  (h : ac P c ops rest ⟨bj o.dst (.one (.own id' (n + ys.length))) st.fr,(id',.row k b zs)::del id st.sto⟩ K) : ac P c ops (o::rest) st K:=by
 refine ba hg fun a w σ φ hr=>?_
 obtain ⟨u,w',σ',φ',hrun,hr'⟩:=hr.renew hlt hl hm1 hm2 hm3 (nk hT hr ho ht ht2 (aC hr hx) hl hkb hy hs hzs h48 hb47) hd
 exact ⟨u,w',_,σ',φ',hrun,hr',h⟩
theorem Rel.nilRow{st : St}{a : Act}{id k b : Nat}(hr : Rel c st a w σ φ)(hlt : Nat.blt id 1000000 = true)(hm1 : bn id st.fr = false)(hm2 : aM id st.sto = false) :
  Rel c ⟨st.fr,(id,.row k b [])::st.sto⟩ a w σ (bL φ id none):=by
 have hE : Ext (· = id) φ (bL φ id none) st.sto ((id,.row k b [])::st.sto):=Ext.add
 refine ⟨hr.le,hr.fresh,⟨hr.inv.sig,fun i e hi=>?_,fun i i' e e' p p' hi hi' hne hp hp'=>?_⟩,fun i e p hi hp=>?_,fun t v hv=>?_,hr.defers,hr.size,hr.fra,fun i hi=>by
  have : i≠id:=by have:=Nat.le_of_ble_eq_true hlt; omega
  rw [aZ this]; exact hr.pin i hi⟩
 ·rcases ah hi with ⟨rfl,rfl⟩ | ⟨hne,hi⟩
  ·exact .inl ⟨rfl,aK⟩
  ·exact (hr.inv.obj _ _ hi).ext (Sig.le_refl _) hE (fun j hj=>by cases hj; exact gh hm2 hi) (aZ hne) fun _ _ _=>⟨rfl,rfl⟩
 ·rcases ah hi with ⟨rfl,rfl⟩ | ⟨hn,hi⟩
  ·rw [aK] at hp; cases hp
  ·rcases ah hi' with ⟨rfl,rfl⟩ | ⟨hn',hi'⟩
   ·rw [aK] at hp'; cases hp'
   ·rw [aZ hn] at hp; rw [aZ hn'] at hp'
    exact hr.inv.inj _ _ _ _ _ _ hi hi' hne hp hp'
 ·rcases ah hi with ⟨rfl,rfl⟩ | ⟨hn,hi⟩
  ·rw [aK] at hp; cases hp
  ·rw [aZ hn] at hp
   exact hr.mine _ _ _ hi hp
 ·obtain ⟨u,hu,hru⟩:=hr.slot t v hv
  exact ⟨u,hu,hru.ext (Sig.le_refl _) hE fun j hj=>by cases hj; exact dy hm1 hv⟩
theorem zZ{i id : Nat}{o : AObj}{s : Sto}(ho : o.men i = false)(h : aM i s = false) : aM i ((id,o)::s) = false:=by
 simp [aM,ho,h]
theorem tP(hT : aU P T){ops : Array Oper}{o : Oper}{rest : List Oper}{st : St}{K : St→Prop}{t t2 e e2 k b k2 b2 id : Nat}{z z2 : List D}{x y : Operand}{v : AV}{ys : List (List D)}
  (ho : o.op = .call { callee:=.builtin .append,args:=#[x,y],argTypes:=#[t,t2] }) (hg : o.guard = none) (hd : aP c.n o.dst = true) (ht : aR T t = some (e,k,b,z)) (ht2 : aR T t2 = some (e2,k2,b2,z2))
  (hlt : Nat.blt (id + 1) 1000000 = true) (hx : ev st x = some (.one (.d .nil))) (hy : ev st y = some v) (hs : eI st k v = some ys)
  (h48 : ys.length < 2 ^ 48) (hb47 : ys.length * b≤2 ^ 47) (hf : ∀ i,i = id∨i = id + 1→look st.sto i = none∧bn i st.fr = false∧aM i st.sto = false)
  (h : ac P c ops rest ⟨bj o.dst (.one (.own id ys.length)) st.fr,(id,.row k b ys)::st.sto⟩ K) : ac P c ops (o::rest) st K:=by
 refine ba hg fun a w σ φ hr=>?_
 obtain ⟨f1,f2,f3⟩:=hf id (.inl rfl)
 obtain ⟨g1,g2,g3⟩:=hf (id + 1) (.inr rfl)
 simp only [Nat.blt_eq] at hlt
 have hr1:=hr.nilRow (id:=id + 1) (k:=k) (b:=b) (by simpa using hlt) g2 g3
 have hxr:=aC hr hx
 replace hxr:=RepC.d_inv hxr
 have h1 : RepC σ (bL φ (id + 1) none) ((id + 1,.row k b [])::st.sto) (.own (id + 1) 0) (a.eval x):=by
  generalize a.eval x = ux at hxr
  cases hxr
  exact .ownNil aI aK
 have hs' : eI ⟨st.fr,(id + 1,.row k b [])::st.sto⟩ k v = some ys:=by
  have hne : ∀ {i : Nat} {o : AObj},look st.sto i = some o→look ((id + 1,.row k b [])::st.sto) i = some o:=by
   intro i o hi
   rw [aN ?_]; exact hi
   rintro rfl; rw [g1] at hi; cases hi
  unfold eI at hs ⊢
  split at hs
  ·exact hs
  ·exact hs
  ·split at hs
   ·rename_i hl; simp only [hne hl]; exact hs
   ·cases hs
  ·split at hs
   ·rename_i hl; simp only [hne hl]; exact hs
   ·cases hs
  ·cases hs
 have hrep:=nk hT hr1 ho ht ht2 h1 aI (by simp) hy hs' (zs:=ys) (by simp) (by simpa using h48) (by simpa using hb47)
 obtain ⟨u,w',σ',φ',hrun,hr'⟩:=hr1.renew (id':=id) (by simp; omega) aI f2 (zZ rfl f3) (by rw [aN (by omega)]; exact f1) hrep hd
 have hr2 : Rel c ⟨bj o.dst (.one (.own id (0 + ys.length))) st.fr,(id,.row k b ys)::del (id + 1) ((id + 1,.row k b [])::st.sto)⟩ (a.put o.dst u) w' σ' φ':=hr'
 obtain ⟨σ2,φ2,hr3⟩:=nB (sto':=(id,.row k b ys)::st.sto) (fun i=>by
  by_cases hi : i = id
  ·subst hi; rw [aI,aI]
  ·rw [aN hi,aN hi]
   by_cases hi2 : i = id + 1
   ·subst hi2
    rw [g1]
    cases hl : look (del (id + 1) ((id + 1,AObj.row k b [])::st.sto)) (id + 1) with
    | none=>rfl
    | some e=>exact absurd rfl (df hl).1
   ·rw [dO hi2,aN hi2]) _ _ _ _ hr2
 rw [Nat.zero_add] at hr3
 exact ⟨u,w',_,σ2,φ2,hrun,hr3,h⟩
end Go.Abs
namespace Go.Abs
open Go
variable {P : Program} {c : Ctx} {T : Tab} {σ : Sig} {φ : Pl} {sto : Sto} {w : World}
def MOf(φ : Pl)(sto : Sto)(b : Nat) : Prop:=∃ id e p,look sto id = some e∧φ id = some p∧p.1 = b
structure Kept (M : Nat→Prop) (w w' : World) : Prop where
 os : w'.os = w.os
 tape : w'.tape = w.tape
 output : w'.output = w.output
 size : w.heap.size≤w'.heap.size
 drawn : w.drawn≤w'.drawn
 block : ∀ b,b < w.heap.size→¬ M b→w'.heap[b]? = w.heap[b]?
structure RetP (rav : AV) (rsto : Sto) (w : World) (σ : Sig) (φ : Pl) (M : Nat→Prop) (v : Value) (w' : World) (σ' : Sig) (φ' : Pl) : Prop where
 le : σ.le σ'
 fresh : ∀ b,σ' b≠none→σ b≠none∨w.heap.size≤b∨M b
 inv : HInv σ' φ' rsto w'
 rep : RepV σ' φ' rsto rav v
 mine : ∀ id e p,look rsto id = some e→φ' id = some p→w.heap.size≤p.1∨M p.1
 pin : ∀ id,Pin id→φ' id = φ id
 kept : Kept M w w'
structure CallA (P : Program) (f : FuncId) (args : List AV) (sto : Sto) (rav : AV) (rsto : Sto) : Prop where
 fn : ∃ fn, P.funcs[f]? = some fn ∧ (fn.name == "runtime.NumGoroutine") = false ∧ fn.body.isSome = true
 run : ∀ (w : World) (σ : Sig) (φ : Pl) (vs : List Value),HInv σ φ sto w→All2 (RepV σ φ sto) args vs →
  Calls P f vs.toArray w fun e w'=>∃ v σ' φ',e = .returned v∧RetP rav rsto w σ φ (MOf φ sto) v w' σ' φ'
def CT(T : Tab)(st : St) : ResultVar→Option (Bool×List AC)
 | .tmp t=>match look st.fr t with
   | some (.one x)=>some (false,[x])
   | some (.agg cs)=>some (true,cs)
   | _=>none
 | .cell a t=>match iI T t,look st.fr a with
   | some (g,s),some v=>match kH st.sto g s v with
     | some (.one x)=>some (false,[x])
     | some (.agg cs)=>some (true,cs)
     | _=>none
   | _,_=>none
def lT(T : Tab)(st : St) : List ResultVar→Option (List (Bool×List AC))
 | []=>some []
 | r::rs=>match CT T st r with
   | some x=>match lT T st rs with
     | some l=>some (x::l)
     | none=>none
   | none=>none
def oc : List (Bool×List AC)→Option AV
 | [(false,[x])]=>some (.one x)
 | [(true,cs)]=>some (.agg cs)
 | [_]=>none
 | l=>some (.tup l)
theorem GL(hT : aU P T){st : St}{a : Act}(hr : Rel c st a w σ φ){r : ResultVar}{x : Bool×List AC}(h : CT T st r = some x) :
  ∃ u,((match r with
    | .tmp t=>pure (a.tmps.getD t undef)
    | .cell b t=>do loadVar t (← asAddr (a.tmps.getD b undef))) : Sem Value).run P w = .ok u w∧RepT σ φ st.sto x u:=by
 cases r with
 | tmp t =>
   simp only [CT] at h
   split at h <;> simp at h <;> subst h <;> rename_i hl <;> obtain ⟨u,hu,hru⟩:=hr.slot _ _ hl
   ·refine ⟨u,by simp [Array.getD_eq_getD_getElem?,hu],hru,trivial⟩
   ·exact ⟨u,by simp [Array.getD_eq_getD_getElem?,hu],hru⟩
 | cell b t =>
   simp only [CT] at h
   split at h
   ·rename_i g s v ht hl
    obtain ⟨u,hu,hru⟩:=hr.slot _ _ hl
    have key : ∀ {v' : AV},kH st.sto g s v = some v'→∃ u',(do loadVar t (← asAddr (a.tmps.getD b undef)) : Sem Value).run P w = .ok u' w∧RepV σ φ st.sto v' u':=by
     intro v' hv'
     obtain ⟨u',hu',hru'⟩:=vu (P:=P) (w:=w) hT ht hv' hru hr.inv
     have hp : ∃ ad,u = .pointer (some ad):=by
      unfold kH at hv'
      split at hv'
      ·replace hru:=RepC.d_inv hru; cases hru; exact ⟨_,rfl⟩
      ·rename_i id o'
       split at hv'
       ·rename_i cells hlk
        cases hru with
        | ref _ _=>exact ⟨_,rfl⟩
        | dead hxx _=>simp [bx,bP hlk] at hxx
       ·simp at hv'
      ·simp at hv'
     obtain ⟨ad,rfl⟩:=hp
     refine ⟨u',?_,hru'⟩
     simpa [Array.getD_eq_getD_getElem?,hu,asAddr,Instr.loadAt,Instr.sureAddr] using hu'
    split at h
    ·rename_i x' hx
     simp at h; subst h
     obtain ⟨u',h1,h2⟩:=key hx
     exact ⟨u',h1,h2,trivial⟩
    ·rename_i cs hx
     simp at h; subst h
     obtain ⟨u',h1,h2⟩:=key hx
     exact ⟨u',h1,h2⟩
    ·simp at h
   ·simp at h
theorem zx(hT : aU P T){st : St}{a : Act}(hr : Rel c st a w σ φ) : ∀ {rs : List ResultVar} {l : List (Bool×List AC)},lT T st rs = some l →
  ∃ us,(rs.mapM (fun r=>(match r with
    | .tmp t=>pure (a.tmps.getD t undef)
    | .cell b t=>do loadVar t (← asAddr (a.tmps.getD b undef)) : Sem Value)) : Sem (List Value)).run P w = .ok us w∧All2 (RepT σ φ st.sto) l us
 | [],l,h=>by simp [lT] at h; subst h; exact ⟨[],by simp,trivial⟩
 | r::rs,l,h=>by
   simp only [lT] at h
   split at h <;> (try (simp at h; done))
   rename_i x hx
   split at h <;> simp at h
   rename_i l' hl'
   subst h
   obtain ⟨u,hu,hru⟩:=GL (P:=P) hT hr hx
   obtain ⟨us,hus,hrus⟩:=zx hT hr hl'
   refine ⟨u::us,?_,hru,hrus⟩
   simp only [List.mapM_cons,Sem.run_bind,hu,Result.andThen_ok,hus,Sem.run_pure]
theorem E5(hT : aU P T){st : St}{a : Act}(hr : Rel c st a w σ φ){fn : Func}{l : List (Bool×List AC)}{rav : AV}(h : lT T st fn.results.toList = some l)(h2 : oc l = some rav) :
  ∃ u,(results fn a.tmps).run P w = .ok u w∧RepV σ φ st.sto rav u:=by
 obtain ⟨us,hus,hrus⟩:=zx (P:=P) hT hr h
 have hrun : (results fn a.tmps).run P w = .ok (if h : us.toArray.size = 1 then us.toArray[0] else .tuple us.toArray) w:=by
  unfold results
  rw [Array.mapM_eq_mapM_toList,Sem.run_bind,Sem.run_map]
  erw [hus]
  rfl
 refine ⟨_,hrun,?_⟩
 unfold oc at h2
 split at h2
 ·simp at h2; subst h2
  match us,hrus with
  | [u],hrus=>exact hrus.1.1
 ·simp at h2; subst h2
  match us,hrus with
  | [u],hrus=>exact hrus.1
 ·simp at h2
 ·rename_i l' h3 h4 h5
  simp at h2; subst h2
  have hl1:=hrus.length
  have : us.toArray.size≠1:=by
   intro hs
   have hl2 : l.length = 1:=by rw [hl1]; simpa using hs
   match l,hl2 with
   | [x],_=>exact h5 x rfl
  rw [dif_neg this]
  exact ⟨us,rfl,hrus⟩
def aJ(T : Tab)(rs : List ResultVar)(rav : AV)(rsto : Sto)(e : Exit)(st : St) : Prop :=
 (e = .ret∨e = .normal)∧∃ l,lT T st rs = some l∧oc l = some rav∧SubL st.sto rsto
def kV : Nat→List AV→List (Nat×AV)
 | _,[]=>[]
 | i,v::r=>(i,v)::kV (i + 1) r
theorem rK : ∀ {args : List AV} {i s : Nat} {v : AV},look (kV i args) s = some v→i≤s∧args[s - i]? = some v
 | [],_,_,_,h=>by simp [kV,look] at h
 | a::r,i,s,v,h=>by
   simp only [kV] at h
   rcases ah h with ⟨rfl,rfl⟩ | ⟨hne,h⟩
   ·exact ⟨Nat.le_refl _,by simp⟩
   ·obtain ⟨h1,h2⟩:=rK h
    have : s - i = (s - (i + 1)) + 1:=by omega
    exact ⟨by omega,by rw [this]; simpa using h2⟩
theorem ObjRep.off{id r : Nat}{e : AObj}{w' : World}{ds : Option (List Deferred)}(hr : w.heap[r]? = some (.deferred ds))(hw : ∀ b,b≠r→w'.heap[b]? = w.heap[b]?)(h : ObjRep σ φ sto w id e) : ObjRep σ φ sto w' id e:=by
 have key : ∀ {B : Nat} {o : Obj},w.heap[B]? = some o→(∀ ds,o≠.deferred ds)→w'.heap[B]? = some o:=by
  intro B o hB ho
  rw [hw B ?_]; exact hB
  rintro rfl
  rw [hr] at hB; cases hB
  exact ho _ rfl
 cases e with
 | box cs =>
   obtain ⟨B,c,vs,t,h1,h2,h3⟩:=h
   exact ⟨B,c,vs,t,h1,key h2 (by simp),h3⟩
 | row k b xs =>
   rcases h with h | ⟨B,cap,arr,t,vs,h1,h2,h3⟩
   ·exact .inl h
   ·exact .inr ⟨B,cap,arr,t,vs,h1,key h2 (by simp),h3⟩
 | map kg vg es =>
   obtain ⟨B,c,ents,h1,h2,h3⟩:=h
   exact ⟨B,c,ents,h1,key h2 (by simp),h3⟩
 | loop li fr s p =>
   obtain ⟨B,c,r',h1,h2,h3⟩:=h
   exact ⟨B,c,r',h1,key h2 (by simp),h3⟩
theorem Rel.off{st : St}{a : Act}{w' : World}{r : Nat}{ds : Option (List Deferred)}(h : Rel c st a w σ φ)(hr : w.heap[r]? = some (.deferred ds))(hge : c.w0.heap.size≤r)(hw : ∀ b,b≠r→w'.heap[b]? = w.heap[b]?)
  (hos : w'.os = w.os) (htape : w'.tape = w.tape) (hout : w'.output = w.output) (hsize : w.heap.size≤w'.heap.size∧w.drawn≤w'.drawn) : Rel c st a w' σ φ:=by
 refine ⟨h.le,h.fresh,⟨fun b cs hb=>?_,fun id e hi=>(h.inv.obj id e hi).off hr hw,h.inv.inj⟩,h.mine,h.slot,h.defers,h.size,⟨hos.trans h.fra.os,htape.trans h.fra.tape,hout.trans h.fra.output,Nat.le_trans h.fra.size hsize.1,Nat.le_trans h.fra.drawn hsize.2,fun b hb hM=>?_⟩,h.pin⟩
 ·obtain ⟨t,f,hh⟩:=h.inv.sig b cs hb
  refine ⟨t,f,(hw b ?_).trans hh⟩
  rintro rfl
  rw [hr] at hh; cases hh
 ·rw [hw b (by omega)]
  exact h.fra.block b hb hM
theorem GM{r : Nat}(hr : w.heap[r]? = some (.deferred (some []))) : ∃ w',(Instr.takeDeferred r).run P w = .ok [] w'∧(∀ b,b≠r→w'.heap[b]? = w.heap[b]?)∧w'.os = w.os∧w'.tape = w.tape∧w'.output = w.output∧(w.heap.size≤w'.heap.size∧w.drawn≤w'.drawn):=by
 refine ⟨{ w with heap:=w.heap.setIfInBounds r (.deferred none) },by simp [Instr.takeDeferred,getObj,setObj,Sem.run,hr],fun b hb=>?_,rfl,rfl,rfl,?_⟩
 ·simp [Array.getElem?_setIfInBounds_ne (fun e=>hb e.symm)]
 ·simp
theorem rF(hT : aU P T){f : FuncId}{fn : Func}{code : Code}{args : List AV}{sto : Sto}{rav : AV}{rsto : Sto}(hf : P.funcs[f]? = some fn)(hb : fn.body = some code)
  (hname : (fn.name == "runtime.NumGoroutine") = false) (hn : Nat.ble args.length fn.ntmps = true)
  (h : ∀ (w0 : World) (σ0 : Sig) (φ0 : Pl) (M : Nat→Prop),OkC P ⟨w0,σ0,φ0,M,fn.ntmps,none,[]⟩ code ⟨kV 0 args,sto⟩ (aJ T fn.results.toList rav rsto)) : CallA P f args sto rav rsto:=by
 refine ⟨⟨fn,hf,hname,by rw [hb]; rfl⟩,fun w σ φ vs hinv hargs=>?_⟩
 refine (callsIn_wide (n:=0)).1 (callsIn_of_wp_marks hf hb trivial ?_)
 have hlen:=hargs.length
 have hle:=Nat.le_of_ble_eq_true hn
 have hrel : Rel ⟨w,σ,φ,MOf φ sto,fn.ntmps,none,[]⟩ ⟨kV 0 args,sto⟩ { tmps:=vs.toArray ++ Array.replicate (fn.ntmps - vs.toArray.size) undef,defers:=[] } w σ φ:=by
  refine ⟨Sig.le_refl _,fun b hb=>.inl hb,hinv,fun id e p hi hp=>.inr ⟨id,e,p,hi,hp,rfl⟩,fun s v hv=>?_,rfl,by simp; omega,⟨rfl,rfl,rfl,Nat.le_refl _,Nat.le_refl _,fun _ _ _=>rfl⟩,fun _ _=>rfl⟩
  obtain ⟨_,h2⟩:=rK hv
  simp only [Nat.sub_zero] at h2
  obtain ⟨u,hu,hru⟩:=hargs.get h2
  have hlt:=(List.getElem?_eq_some_iff.1 hu).1
  refine ⟨u,?_,hru⟩
  simp only
  rw [Array.getElem?_append_left (by simpa using hlt)]
  simpa using hu
 refine wpIn_mono (h w σ φ (MOf φ sto) _ _ _ _ hrel) ?_
 rintro e a' w' ⟨st',σ',φ',⟨he,l,hl,hav,hsub⟩,hrE⟩
 have fin : ∀ {a' : Act} {w' : World},Rel ⟨w,σ,φ,MOf φ sto,fn.ntmps,none,[]⟩ st' a' w' σ' φ'→∃ u,(results fn a'.tmps).run P w' = .ok u w'∧∃ v σ' φ',Ending.returned u = .returned v∧RetP rav rsto w σ φ (MOf φ sto) v w' σ' φ':=by
  intro a' w' hr
  obtain ⟨u,hu,hru⟩:=E5 (P:=P) hT hr hl hav
  refine ⟨u,hu,u,σ',φ',rfl,hr.le,hr.fresh,⟨hr.inv.sig,fun i e hi=>?_,fun i i' e e' p p' hi hi'=>hr.inv.inj _ _ _ _ _ _ (hsub.look hi) (hsub.look hi')⟩,hru.ext (Sig.le_refl _) (Ext.sub hsub) (fun j hj=>hj.elim),
   fun i e p hi hp=>hr.mine _ _ _ (hsub.look hi) hp,hr.pin,⟨hr.fra.os,hr.fra.tape,hr.fra.output,hr.fra.size,hr.fra.drawn,hr.fra.block⟩⟩
  exact (hr.inv.obj _ _ (hsub.look hi)).ext (X:=fun _=>False) (Sig.le_refl _) (Ext.sub hsub) (fun j hj=>hj.elim) rfl fun _ _ _=>⟨rfl,rfl⟩
 have plain : ∀ {a' : Act} {w' : World},Rel ⟨w,σ,φ,MOf φ sto,fn.ntmps,none,[]⟩ st' a' w' σ' φ'→LeavesInM Fence.wide 0 P fn a'.tmps (fun e w'=>∃ v σ' φ',e = .returned v∧RetP rav rsto w σ φ (MOf φ sto) v w' σ' φ') a'.defers .returning w':=by
  intro a' w' hr
  rw [hr.defers]
  obtain ⟨u,hu,hf⟩:=fin hr
  exact ⟨u,hu,hf⟩
 have hpost : LeavesInM Fence.wide 0 P fn a'.tmps (fun e w'=>∃ v σ' φ',e = .returned v∧RetP rav rsto w σ φ (MOf φ sto) v w' σ' φ') a'.defers .returning w':=by
  rcases hrE with hr | ⟨_,r,hd,hh,hge,hr⟩
  ·exact plain hr
  ·obtain ⟨w2,h1,h2,h3,h4,h5,h6⟩:=GM (P:=P) hh
   have hr2:=hr.off hh hge h2 h3 h4 h5 h6
   obtain ⟨u,hu,hf⟩:=fin hr2
   rw [hd]
   exact ⟨by simp,.inl ⟨r,w2,rfl,h1,u,hu,hf⟩⟩
 rcases he with rfl | rfl
 ·exact hpost
 ·exact hpost
end Go.Abs
