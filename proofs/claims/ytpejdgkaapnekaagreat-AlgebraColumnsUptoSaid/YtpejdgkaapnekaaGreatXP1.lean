import Derived.Tactics2
import Derived.TacticsIn
import Derived.Test.YtpejdgkaapnekaaGreatXP0
set_option linter.unusedVariables false
set_option linter.unusedSimpArgs false
set_option maxHeartbeats 1000000
namespace Go.Abs
open Go
variable {P : Program} {c : Ctx} {T : Tab}
def bt(dst : Option Nat)(v : AV)(fr : List (Nat×AV)) : List (Nat×AV) :=
 match dst with
 | none=>fr
 | some d=>(d,v)::fr
def aU(n : Nat) : Option Nat→Bool
 | none=>true
 | some d=>Nat.blt d n
theorem Rel.putTo{st : St}{a : Act}{w w' : World}{σ σ' : Sig}{φ φ' : Pl}{st' : St}{dst : Option Nat}{v : AV}{u : Value}
  (h : Rel c st a w σ φ) (hd : aU c.n dst = true) (hle : c.σ0.le σ') (hfresh : ∀ b,σ' b≠none→c.σ0 b≠none∨c.w0.heap.size≤b∨c.M b)
  (hinv : HInv σ' φ' st'.sto w') (hmine : LM c φ' st'.sto) (hfra : Fra c w') (hpin : ∀ id,Pin id→φ' id = c.φ0 id)
  (hv : dst≠none→RepV σ' φ' st'.sto v u)
  (hold : ∀ s x,some s≠dst→look st'.fr s = some x→∃ y,look st.fr s = some y∧∀ z,RepV σ φ st.sto y z→RepV σ' φ' st'.sto x z) :
  Rel c ⟨bt dst v st'.fr,st'.sto⟩ (a.put dst u) w' σ' φ':=by
 cases dst with
 | none =>
   refine ⟨hle,hfresh,hinv,hmine,fun s x hx=>?_,h.defers,h.size,hfra,hpin⟩
   obtain ⟨y,hy,hz⟩:=hold s x (by simp) hx
   obtain ⟨z,h1,h2⟩:=h.slot s y hy
   exact ⟨z,h1,hz z h2⟩
 | some d =>
   simp only [aU,Nat.blt_eq] at hd
   refine ⟨hle,hfresh,hinv,hmine,fun s x hx=>?_,h.defers,by simp [Act.put,h.size],hfra,hpin⟩
   simp only [bt] at hx
   rcases ai hx with ⟨rfl,rfl⟩ | ⟨hne,hx⟩
   ·exact ⟨u,by simp [Act.put,h.size,hd],hv (by simp)⟩
   ·obtain ⟨y,hy,hz⟩:=hold s x (fun e=>hne (by cases e; rfl)) hx
    obtain ⟨z,h1,h2⟩:=h.slot s y hy
    refine ⟨z,?_,hz z h2⟩
    simp only [Act.put]
    rw [Array.getElem?_setIfInBounds_ne (fun e=>hne e.symm)]
    exact h1
theorem Rel.put{st : St}{a : Act}{w : World}{σ : Sig}{φ : Pl}{dst : Option Nat}{v : AV}{u : Value}(h : Rel c st a w σ φ)(hd : aU c.n dst = true)(hv : RepV σ φ st.sto v u) :
  Rel c ⟨bt dst v st.fr,st.sto⟩ (a.put dst u) w σ φ :=
 h.putTo (st':=st) hd h.le h.fresh h.inv h.mine h.fra h.pin (fun _=>hv) fun _ x _ hx=>⟨x,hx,fun _ hz=>hz⟩
def fnc(c : Ctx) : Fence:={ Fence.wide with round:=c.rd }
theorem iC(c : Ctx)(f : FuncId) : (fnc c).fn f:=trivial
theorem sZ{c : Ctx}{n : Nat}{f : FuncId}{args : Array Value}{w : World}{R : Ending→World→Prop}(h : Calls P f args w R) : CallsIn (fnc c) n P f args w R :=
 (callsIn_wide (n:=n)).2 h
theorem jK{r : Option Nat}{ρ : Operand→Value}{o : Oper}{w w' : World}{nx : Next}(hd : ∀ d,nx≠.defer d)(h : (execOp ρ o).run P w = .ok nx w') : (o.semAt r ρ).run P w = .ok nx w':=by
 by_cases hdf : ∃ c,o.op = .defer c
 ·obtain ⟨c,hc⟩:=hdf
  exfalso
  obtain ⟨dst,op,type,pos,after,guard⟩:=o
  simp only at hc; subst hc
  simp only [execOp,Sem.run_bind] at h
  cases hres : (resolve ρ c type).run P w with
  | ok d w1 =>
    rw [hres] at h
    simp only [Result.andThen_ok] at h
    simp only [Sem.run_pure,Result.ok.injEq] at h
    exact hd _ h.1.symm
  | halt x w1=>rw [hres] at h; simp [Result.andThen] at h
 ·rw [Oper.semAt_eq r ρ o fun c hc=>hdf ⟨c,hc⟩]; exact h
def lV(r : Nat) : Deferred:={ target:=.collected r,args:=#[] }
def RelE(c : Ctx)(e : Exit)(st : St)(a : Act)(w : World)(σ : Sig)(φ : Pl) : Prop :=
 Rel c st a w σ φ∨(e = .ret∧∃ r,a.defers = [lV r]∧w.heap[r]? = some (.deferred (some []))∧c.w0.heap.size≤r∧Rel c st { a with defers:=[] } w σ φ)
theorem RelE.rel{st : St}{a : Act}{w : World}{σ : Sig}{φ : Pl}{e : Exit}(h : RelE c e st a w σ φ)(he : e≠.ret) : Rel c st a w σ φ:=by
 rcases h with h | ⟨h,_⟩
 ·exact h
 ·exact absurd h he
def ae(P : Program)(c : Ctx)(ops : Array Oper)(l : List Oper)(st : St)(K : St→Prop) : Prop :=
 ∀ (a : Act) (w : World) (σ : Sig) (φ : Pl) (Q : Exit→Act→World→Prop),Rel c st a w σ φ →
   (∀ a' w' σ' φ' st',K st'→Rel c st' a' w' σ' φ'→Q .normal a' w')→wpListIn (fnc c) 0 P ops Q l a w
def OkC(P : Program)(c : Ctx)(code : Code)(st : St)(Q : Exit→St→Prop) : Prop :=
 ∀ (a : Act) (w : World) (σ : Sig) (φ : Pl),Rel c st a w σ φ→code.wpIn (fnc c) 0 P (fun e a' w'=>∃ st' σ' φ',Q e st'∧RelE c e st' a' w' σ' φ') a w
theorem rE{ops : Array Oper}{st : St}{K : St→Prop}(h : K st) : ae P c ops [] st K:=fun _ _ _ _ _ hr hQ=>hQ _ _ _ _ _ h hr
theorem EB{ops : Array Oper}{l : List Oper}{st : St}{K K' : St→Prop}(h : ae P c ops l st K)(hk : ∀ st,K st→K' st) : ae P c ops l st K' :=
 fun a w σ φ Q hr hQ=>h a w σ φ Q hr fun a' w' σ' φ' st' h'=>hQ a' w' σ' φ' st' (hk _ h')
theorem bk{ops : Array Oper}{o : Oper}{rest : List Oper}{st : St}{K : St→Prop}(hg : o.guard = none)
  (H : ∀ (a : Act) (w : World) (σ : Sig) (φ : Pl),Rel c st a w σ φ→∃ u w' st' σ' φ',(execOp a.eval o).run P w = .ok (.value u) w'∧Rel c st' (a.put o.dst u) w' σ' φ'∧ae P c ops rest st' K) :
  ae P c ops (o::rest) st K:=by
 intro a w σ φ Q hr hQ
 obtain ⟨u,w',st',σ',φ',hrun,hr',hok⟩:=H a w σ φ hr
 refine wpListIn_plain hg fun K' hK=>⟨fun f _=>iC c f,?_⟩
 rw [jK (by simp) hrun]
 exact hK _ _ (hok _ _ _ _ _ hr' hQ)
theorem pD{ops : Array Oper}{o : Oper}{rest : List Oper}{st : St}{K : St→Prop}(hg : o.guard = none)
  (H : ∀ (a : Act) (w : World) (σ : Sig) (φ : Pl),Rel c st a w σ φ→∃ w' st' σ' φ',(execOp a.eval o).run P w = .ok .skip w'∧Rel c st' (a.put o.dst undef) w' σ' φ'∧ae P c ops rest st' K) :
  ae P c ops (o::rest) st K:=by
 intro a w σ φ Q hr hQ
 obtain ⟨w',st',σ',φ',hrun,hr',hok⟩:=H a w σ φ hr
 refine wpListIn_plain hg fun K' hK=>⟨fun f _=>iC c f,?_⟩
 rw [jK (by simp) hrun]
 exact hK _ _ (hok _ _ _ _ _ hr' hQ)
def gA(st : St)(ops : Array Oper)(j : Nat) : Option (Option Bool) :=
 match nth ops.toList j with
 | some o=>match o.dst with
   | some d=>match look st.fr d with
     | some (.one (.d (.bool b)))=>some (some b)
     | some (.tup [])=>some none
     | _=>none
   | none=>none
 | none=>none
theorem ua{st : St}{a : Act}{w : World}{σ : Sig}{φ : Pl}(h : Rel c st a w σ φ){ops : Array Oper}{j : Nat}{y : Option Bool}(hb : gA st ops j = some y) : yielded ops a.tmps j = y:=by
 unfold gA at hb
 split at hb <;> (try (simp at hb; done))
 rename_i o ho
 split at hb <;> (try (simp at hb; done))
 rename_i d hd
 rw [gl,Array.getElem?_toList] at ho
 split at hb <;> simp at hb
 ·rename_i b' hl
  subst hb
  obtain ⟨u,hu,hr⟩:=h.slot d _ hl
  replace hr:=RepC.d_inv hr
  cases hr
  simp [yielded,ho,hd,hu]
 ·rename_i hl
  subst hb
  obtain ⟨u,hu,vs,rfl,hr⟩:=h.slot d _ hl
  match vs,hr with
  | [],_=>simp [yielded,ho,hd,hu]
theorem sG{ops : Array Oper}{o : Oper}{rest : List Oper}{st : St}{K : St→Prop}{j : Nat}{want b : Bool}(hg : o.guard = some (j,want))(hb : gA st ops j = some (some b))(hw : b = want)
  (h : ae P c ops ({ o with guard:=none }::rest) st K) : ae P c ops (o::rest) st K:=by
 intro a w σ φ Q hr hQ
 have:=h a w σ φ Q hr hQ
 unfold wpListIn at this ⊢
 have hy:=ua hr hb
 have h1 : Region.wanted o (yielded ops a.tmps) = true:=by simp [Region.wanted,hg,hy,hw]
 have h2 : Region.wanted { o with guard:=none } (yielded ops a.tmps) = true:=rfl
 rw [if_pos h2] at this
 rw [if_pos h1]
 exact ⟨fun f _=>iC c f,by
  have h3:=this.2
  have e1 : ({ o with guard:=none } : Oper).semAt (fnc c).round a.eval = o.semAt (fnc c).round a.eval:=by
   obtain ⟨dst,op,type,pos,after,guard⟩:=o
   cases op <;> rfl
  rw [e1] at h3
  exact h3⟩
theorem qR{ops : Array Oper}{o : Oper}{rest : List Oper}{st : St}{K : St→Prop}{j : Nat}{want : Bool}{y : Option Bool}(hg : o.guard = some (j,want))(hb : gA st ops j = some y)(hw : (y == some want) = false)
  (hd : aU c.n o.dst = true) (h : ae P c ops rest ⟨bt o.dst (.tup []) st.fr,st.sto⟩ K) : ae P c ops (o::rest) st K:=by
 intro a w σ φ Q hr hQ
 have hy:=ua hr hb
 have h1 : Region.wanted o (yielded ops a.tmps) = false:=by simp [Region.wanted,hg,hy,hw]
 unfold wpListIn
 rw [if_neg (by rw [h1]; simp)]
 exact ⟨fun f _=>iC c f,h _ _ _ _ _ (hr.put hd ⟨[],rfl,trivial⟩) hQ⟩
theorem xe(hT : ba P T){ops : Array Oper}{o : Oper}{rest : List Oper}{st : St}{K : St→Prop}{v : AV}(hg : o.guard = none)(hd : aU c.n o.dst = true)(hv : b6 T st o.op = some v)
  (h : ae P c ops rest ⟨bt o.dst v st.fr,st.sto⟩ K) : ae P c ops (o::rest) st K :=
 bk hg fun a w σ φ hr=>by
  obtain ⟨u,hu,hru⟩:=GW hT hr hv
  exact ⟨u,w,_,σ,φ,hu,hr.put hd hru,h⟩
theorem Dq{ops : Array Oper}{o : Oper}{rest : List Oper}{st : St}{K : St→Prop}{x y z : Operand}{b : Bool}{v : AV}(ho : o.op = .pick x y z)(hg : o.guard = none)(hd : aU c.n o.dst = true)
  (hx : ev st x = some (.one (.d (.bool b)))) (hv : ev st (if b then y else z) = some v)
  (h : ae P c ops rest ⟨bt o.dst v st.fr,st.sto⟩ K) : ae P c ops (o::rest) st K :=
 bk hg fun a w σ φ hr=>by
  have h1:=aI hr hx
  replace h1:=RepC.d_inv h1
  generalize hu : a.eval x = u at h1
  cases h1
  refine ⟨a.eval (if b then y else z),w,_,σ,φ,?_,hr.put hd (aI hr hv),h⟩
  simp only [execOp,ho,hu,asBool,Sem.run_bind,Sem.run_pure,Result.andThen_ok]
  cases b <;> rfl
theorem jI{code : Code}{st : St}{Q Q' : Exit→St→Prop}(h : OkC P c code st Q)(hq : ∀ e st,Q e st→Q' e st) : OkC P c code st Q' :=
 fun a w σ φ hr=>wpIn_mono (h a w σ φ hr) fun _ _ _ ⟨st',σ',φ',h1,h2⟩=>⟨st',σ',φ',hq _ _ h1,h2⟩
theorem xL{id : Nat}{ops : Array Oper}{st : St}{Q : Exit→St→Prop}(h : ae P c ops ops.toList st (Q .normal)) : OkC P c (.region id ops false) st Q :=
 fun a w σ φ hr=>wpIn_region_list (h a w σ φ _ hr fun _ _ _ _ _ hk hr'=>⟨_,_,_,hk,.inl hr'⟩)
def aA(next : St→Prop)(Q : Exit→St→Prop) : Exit→St→Prop
 | .normal=>next
 | e=>Q e
theorem MC{x y : Code}{st : St}{Q : Exit→St→Prop}(h : OkC P c x st (aA (fun st'=>OkC P c y st' Q) Q)) : OkC P c (.seq x y) st Q :=
 fun a w σ φ hr=>wpIn_seq (wpIn_mono (h a w σ φ hr) fun e a' w' ⟨st',σ',φ',h1,h2⟩=>by
  cases e with
  | normal=>exact h1 a' w' σ' φ' (h2.rel (by simp))
  | _=>exact ⟨st',σ',φ',h1,h2⟩)
theorem CH{st : St}{Q : Exit→St→Prop}(h : Q .normal st) : OkC P c .skip st Q:=fun _ _ _ _ hr=>wpIn_skip ⟨_,_,_,h,.inl hr⟩
theorem bH{st : St}{Q : Exit→St→Prop}(h : Q .ret st) : OkC P c .ret st Q:=fun _ _ _ _ hr=>wpIn_ret ⟨_,_,_,h,.inl hr⟩
theorem CI{id : Nat}{st : St}{Q : Exit→St→Prop}(h : Q (.exit id) st) : OkC P c (.exit id) st Q:=fun _ _ _ _ hr=>wpIn_exit ⟨_,_,_,h,.inl hr⟩
theorem ah{x : Operand}{p q : Code}{st : St}{Q : Exit→St→Prop}{b : Bool}(hx : ev st x = some (.one (.d (.bool b))))(ht : b = true→OkC P c p st Q)(hf : b = false→OkC P c q st Q) :
  OkC P c (.cond x p q) st Q:=fun a w σ φ hr=>by
 have h1:=aI hr hx
 replace h1:=RepC.d_inv h1
 generalize hu : a.eval x = u at h1
 cases h1
 cases b
 ·exact wpIn_cond_false hu (hf rfl a w σ φ hr)
 ·exact wpIn_cond_true hu (ht rfl a w σ φ hr)
def av(id : Nat)(Q : Exit→St→Prop) : Exit→St→Prop
 | .exit id'=>bif Nat.beq id' id then Q .normal else Q (.exit id')
 | e=>Q e
theorem H8{id : Nat}{x : Code}{st : St}{Q : Exit→St→Prop}(h : OkC P c x st (av id Q)) : OkC P c (.block id x) st Q :=
 fun a w σ φ hr=>wpIn_block (wpIn_mono (h a w σ φ hr) fun e a' w' ⟨st',σ',φ',h1,h2⟩=>by
  cases e with
  | exit id' =>
    simp only [av,Exit.inBlock] at h1 ⊢
    cases hb : Nat.beq id' id with
    | true =>
      have:=Nat.eq_of_beq_eq_true hb
      simp only [hb,cond_true] at h1
      rw [if_pos this]; exact ⟨st',σ',φ',h1,.inl (h2.rel (by simp))⟩
    | false =>
      simp only [hb,cond_false] at h1
      have : id'≠id:=by rintro rfl; rw [Nat.beq_refl] at hb; cases hb
      rw [if_neg this]; exact ⟨st',σ',φ',h1,.inl (h2.rel (by simp))⟩
  | _=>exact ⟨st',σ',φ',h1,h2⟩)
theorem h0H{x1 x2 x3 x4 x5 x6 x7 x8 x9 x10 x11 x12}(h : ae x1 x2 x3 (Oper.mk x4 (Op.call x5) x6 x7 x8 (x9)::x10) x11 x12) : ae x1 x2 x3 (Oper.mk x4 (Op.call x5) x6 x7 x8 (x9)::x10) x11 x12:=h
theorem h1H{x1 x2 x3 x4 x5 x6}(h : ae x1 x2 x3 x4 x5 x6) : ae x1 x2 x3 x4 x5 x6:=h
theorem h5H{x1 x2 x3 x4 x5 x6 x7 x8 x9 x10 x11 x12}(h : ae x1 x2 x3 (Oper.mk x4 (x5) x6 x7 x8 (some x9)::x10) x11 x12) : ae x1 x2 x3 (Oper.mk x4 (x5) x6 x7 x8 (some x9)::x10) x11 x12:=h
theorem h6H{x1 x2 x3 x4 x5 x6 x7 x8 x9 x10 x11 x12 x13 x14 x15}(h : ae x1 x2 x3 (Oper.mk x4 (Op.binOp .eql x5 x6 x7 x8) x9 x10 x11 (x12)::x13) x14 x15) : ae x1 x2 x3 (Oper.mk x4 (Op.binOp .eql x5 x6 x7 x8) x9 x10 x11 (x12)::x13) x14 x15:=h
theorem h7H{x1 x2 x3 x4 x5 x6 x7 x8 x9 x10 x11 x12 x13 x14}(h : ae x1 x2 x3 (Oper.mk x4 (Op.makeSlice x5 x6 x7) x8 x9 x10 (x11)::x12) x13 x14) : ae x1 x2 x3 (Oper.mk x4 (Op.makeSlice x5 x6 x7) x8 x9 x10 (x11)::x12) x13 x14:=h
theorem h8H{x1 x2 x3 x4 x5 x6 x7 x8 x9 x10 x11 x12 x13 x14}(h : ae x1 x2 x3 (Oper.mk x4 (Op.store x5 x6 x7) x8 x9 x10 (x11)::x12) x13 x14) : ae x1 x2 x3 (Oper.mk x4 (Op.store x5 x6 x7) x8 x9 x10 (x11)::x12) x13 x14:=h
theorem h9H{x1 x2 x3 x4 x5 x6 x7 x8 x9 x10 x11 x12 x13 x14 x15}(h : ae x1 x2 x3 (Oper.mk x4 (Op.slice x5 x6 none x7 x8) x9 x10 x11 (x12)::x13) x14 x15) : ae x1 x2 x3 (Oper.mk x4 (Op.slice x5 x6 none x7 x8) x9 x10 x11 (x12)::x13) x14 x15:=h
theorem KI{x1 x2 x3 x4 x5 x6 x7 x8 x9 x10 x11 x12 x13}(h : ae x1 x2 x3 (Oper.mk x4 (Op.load x5 x6) x7 x8 x9 (x10)::x11) x12 x13) : ae x1 x2 x3 (Oper.mk x4 (Op.load x5 x6) x7 x8 x9 (x10)::x11) x12 x13:=h
theorem tt{x1 x2 x3 x4 x5 x6 x7 x8 x9 x10 x11 x12 x13 x14}(h : ae x1 x2 x3 (Oper.mk x4 (Op.indexAddr x5 x6 x7) x8 x9 x10 (x11)::x12) x13 x14) : ae x1 x2 x3 (Oper.mk x4 (Op.indexAddr x5 x6 x7) x8 x9 x10 (x11)::x12) x13 x14:=h
theorem Pq{x1 x2 x3 x4 x5 x6 x7 x8 x9 x10 x11 x12 x13 x14 x15}(h : ae x1 x2 x3 (Oper.mk x4 (Op.slice x5 x6 x7 none x8) x9 x10 x11 (x12)::x13) x14 x15) : ae x1 x2 x3 (Oper.mk x4 (Op.slice x5 x6 x7 none x8) x9 x10 x11 (x12)::x13) x14 x15:=h
theorem PO{x1 x2 x3 x4 x5 x6 x7 x8 x9 x10 x11 x12 x13 x14 x15 x16}(h : ae x1 x2 x3 (Oper.mk x4 (Op.slice x5 x6 (some x7) (some x8) x9) x10 x11 x12 (x13)::x14) x15 x16) : ae x1 x2 x3 (Oper.mk x4 (Op.slice x5 x6 (some x7) (some x8) x9) x10 x11 x12 (x13)::x14) x15 x16:=h
theorem PQ{x1 x2 x3 x4 x5 x6 x7 x8 x9 x10 x11 x12 x13 x14 x15}(h : ae x1 x2 x3 (Oper.mk x4 (Op.slice x5 x6 none (some x7) x8) x9 x10 x11 (x12)::x13) x14 x15) : ae x1 x2 x3 (Oper.mk x4 (Op.slice x5 x6 none (some x7) x8) x9 x10 x11 (x12)::x13) x14 x15:=h
theorem qP{x1 x2 x3 x4 x5 x6 x7 x8 x9 x10 x11 x12 x13 x14 x15}(h : ae x1 x2 x3 (Oper.mk x4 (Op.binOp .quo x5 x6 x7 x8) x9 x10 x11 (x12)::x13) x14 x15) : ae x1 x2 x3 (Oper.mk x4 (Op.binOp .quo x5 x6 x7 x8) x9 x10 x11 (x12)::x13) x14 x15:=h
theorem QE{x1 x2 x3 x4 x5 x6 x7 x8 x9 x10 x11 x12 x13}(h : ae x1 x2 x3 (Oper.mk x4 (Op.box x5 x6) x7 x8 x9 (x10)::x11) x12 x13) : ae x1 x2 x3 (Oper.mk x4 (Op.box x5 x6) x7 x8 x9 (x10)::x11) x12 x13:=h
theorem QF{x1 x2 x3 x4 x5 x6 x7 x8 x9 x10 x11 x12}(h : ae x1 x2 x3 (Oper.mk x4 (Op.alloc x5) x6 x7 x8 (x9)::x10) x11 x12) : ae x1 x2 x3 (Oper.mk x4 (Op.alloc x5) x6 x7 x8 (x9)::x10) x11 x12:=h
theorem Si{x1 x2 x3 x4 x5 x6 x7 x8 x9 x10 x11 x12 x13}(h : ae x1 x2 x3 (Oper.mk x4 (Op.indexAddr 23 x5 x6) x7 x8 x9 (x10)::x11) x12 x13) : ae x1 x2 x3 (Oper.mk x4 (Op.indexAddr 23 x5 x6) x7 x8 x9 (x10)::x11) x12 x13:=h
theorem wu{x1 x2 x3 x4 x5 x6 x7 x8 x9 x10 x11 x12 x13 x14 x15}(h : ae x1 x2 x3 (Oper.mk x4 (Op.binOp .rem x5 x6 x7 x8) x9 x10 x11 (x12)::x13) x14 x15) : ae x1 x2 x3 (Oper.mk x4 (Op.binOp .rem x5 x6 x7 x8) x9 x10 x11 (x12)::x13) x14 x15:=h
end Go.Abs
namespace Go.Abs
open Go
variable {P : Program} {c : Ctx} {T : Tab} {σ : Sig} {φ : Pl} {sto : Sto} {w : World}
def Imp(c : Ctx)(st st' : St) : Prop:=∀ (a : Act) (w : World) (σ : Sig) (φ : Pl),Rel c st a w σ φ→∃ σ' φ',Rel c st' a w σ' φ'
theorem Imp.refl(st : St) : Imp c st st:=fun _ _ σ φ h=>⟨σ,φ,h⟩
theorem Imp.trans{a b d : St}(h : Imp c a b)(h' : Imp c b d) : Imp c a d:=fun x w σ φ hr =>
 let ⟨σ',φ',h1⟩:=h x w σ φ hr
 h' x w σ' φ' h1
theorem eo{ops : Array Oper}{l : List Oper}{st st' : St}{K : St→Prop}(hi : Imp c st st')(h : ae P c ops l st' K) : ae P c ops l st K :=
 fun a w σ φ Q hr hQ=>let ⟨σ',φ',h1⟩:=hi a w σ φ hr; h a w σ' φ' Q h1 hQ
theorem bf{code : Code}{st st' : St}{Q : Exit→St→Prop}(hi : Imp c st st')(h : OkC P c code st' Q) : OkC P c code st Q :=
 fun a w σ φ hr=>let ⟨σ',φ',h1⟩:=hi a w σ φ hr; h a w σ' φ' h1
def fm : List AC→Option (List D)
 | []=>some []
 | .d x::r=>match fm r with | some l=>some (x::l) | none=>none
 | _::_=>none
def dq(id : Nat)(o : AObj) : AC→AC
 | .own i n=>bif Nat.beq i id then (match o with | .row k b xs=>.d (.sl k b (xs.take n)) | _=>.junk) else .own i n
 | .sub i lo n=>bif Nat.beq i id then (match o with | .row k b xs=>.d (.sl k b ((xs.drop lo).take n)) | _=>.junk) else .sub i lo n
 | .ref i off=>bif Nat.beq i id then (match o with | .box cs=>(match fm cs with | some ds=>.d (.ptr (ds.drop off)) | none=>.junk) | _=>.junk) else .ref i off
 | .rref i j off=>bif Nat.beq i id then .junk else .rref i j off
 | .yl i=>bif Nat.beq i id then .junk else .yl i
 | .mapr i=>bif Nat.beq i id then .junk else .mapr i
 | .bsl i off n=>bif Nat.beq i id then .junk else .bsl i off n
 | .d x=>.d x
 | .junk=>.junk
def oE(id : Nat)(o : AObj) : List AC→List AC
 | []=>[]
 | c::r=>dq id o c::oE id o r
def zf(id : Nat)(o : AObj) : List (Bool×List AC)→List (Bool×List AC)
 | []=>[]
 | (g,cs)::r=>(g,oE id o cs)::zf id o r
def uq(id : Nat)(o : AObj) : AV→AV
 | .one c=>.one (dq id o c)
 | .agg cs=>.agg (oE id o cs)
 | .tup ts=>.tup (zf id o ts)
 | .any=>.any
def iB(id : Nat)(o : AObj) : List (Nat×AV)→List (Nat×AV)
 | []=>[]
 | (s,v)::r=>(s,uq id o v)::iB id o r
def bA(id : Nat)(o : AObj) : Sto→Sto
 | []=>[]
 | (i,.box cs)::r=>bif Nat.beq i id then bA id o r else (i,.box (oE id o cs))::bA id o r
 | (i,.row k b xs)::r=>bif Nat.beq i id then bA id o r else (i,.row k b xs)::bA id o r
 | (i,.map kg vg es)::r=>bif Nat.beq i id then bA id o r else (i,.map kg vg es)::bA id o r
 | (i,.loop li fr s p)::r=>bif Nat.beq i id then bA id o r else (i,.loop li (iB id o fr) s p)::bA id o r
theorem kJ : ∀ {cs : List AC} {ds : List D},fm cs = some ds→cs = ds.map .d
 | [],_,h=>by simp [fm] at h; subst h; rfl
 | .d x::r,ds,h=>by
   simp only [fm] at h
   split at h <;> simp at h
   rename_i l hl
   subst h
   rw [kJ hl]; rfl
 | .own _ _::_,_,h=>by simp [fm] at h
 | .sub _ _ _::_,_,h=>by simp [fm] at h
 | .ref _ _::_,_,h=>by simp [fm] at h
 | .rref _ _ _::_,_,h=>by simp [fm] at h
 | .yl _::_,_,h=>by simp [fm] at h
 | .mapr _::_,_,h=>by simp [fm] at h
 | .bsl _ _ _::_,_,h=>by simp [fm] at h
 | .junk::_,_,h=>by simp [fm] at h
def pt(id : Nat)(o : AObj) : AObj→AObj
 | .box cs=>.box (oE id o cs)
 | .row k b xs=>.row k b xs
 | .map kg vg es=>.map kg vg es
 | .loop li fr s p=>.loop li (iB id o fr) s p
theorem dL{id : Nat}{o : AObj} : ∀ {sto : Sto} {i : Nat} {e : AObj},look (bA id o sto) i = some e→i≠id∧∃ e0,look sto i = some e0∧e = pt id o e0
 | [],_,_,h=>by simp [bA,look] at h
 | (j,x)::r,i,e,h=>by
   have hcase : bA id o ((j,x)::r) = bif Nat.beq j id then bA id o r else (j,pt id o x)::bA id o r:=by cases x <;> rfl
   rw [hcase] at h
   cases hb : Nat.beq j id with
   | true =>
     simp only [hb,cond_true] at h
     obtain ⟨h1,e0,h2,h3⟩:=dL h
     have hj:=Nat.eq_of_beq_eq_true hb
     exact ⟨h1,e0,by rw [aS (by rw [hj]; exact h1)]; exact h2,h3⟩
   | false =>
     simp only [hb,cond_false] at h
     rcases ai h with ⟨rfl,rfl⟩ | ⟨hne,h⟩
     ·refine ⟨?_,x,aP,rfl⟩
      rintro rfl
      rw [Nat.beq_refl] at hb; cases hb
     ·obtain ⟨h1,e0,h2,h3⟩:=dL h
      exact ⟨h1,e0,by rw [aS hne]; exact h2,h3⟩
theorem gZ{id : Nat}{o : AObj}{i : Nat}(hne : i≠id) : ∀ {sto : Sto} {e : AObj},look sto i = some e→look (bA id o sto) i = some (pt id o e)
 | [],_,h=>by simp [look] at h
 | (j,x)::r,e,h=>by
   have hcase : bA id o ((j,x)::r) = bif Nat.beq j id then bA id o r else (j,pt id o x)::bA id o r:=by cases x <;> rfl
   rw [hcase]
   rcases ai h with ⟨rfl,rfl⟩ | ⟨hn,h⟩
   ·have : Nat.beq i id = false:=by
     cases hb : Nat.beq i id with
     | true=>exact absurd (Nat.eq_of_beq_eq_true hb) hne
     | false=>rfl
    simp only [this,cond_false]
    exact aP
   ·cases hb : Nat.beq j id with
    | true=>simp only [cond_true]; exact gZ hne h
    | false=>simp only [cond_false]; rw [aS hn]; exact gZ hne h
theorem KU{i id : Nat}(h : Nat.beq i id = false) : i≠id:=by rintro rfl; rw [Nat.beq_refl] at h; cases h
theorem zg{id : Nat}{o e : AObj} : compat e (pt id o e):=by cases e <;> simp [pt,compat]
theorem l5{id : Nat}{o : AObj}{i : Nat}{sto : Sto}(h : look sto i = none) : look (bA id o sto) i = none:=by
 cases hl : look (bA id o sto) i with
 | none=>rfl
 | some e =>
   obtain ⟨_,e0,h1,_⟩:=dL hl
   rw [h] at h1; cases h1
theorem Ext.sealing{id : Nat}{o : AObj} : Ext (· = id) φ φ sto (bA id o sto) :=
 Ext.of_some (fun _ _ hi h=>⟨rfl,_,gZ hi h,zg⟩) (fun _ _ h=>l5 h)
def SealSig(σ σ' : Sig)(φ : Pl)(w : World)(id : Nat) : Prop :=
 (φ id = none∧σ' = σ)∨∃ B cap arr t,φ id = some (B,cap)∧w.heap[B]? = some (.cells arr t (0,0))∧σ B = none∧σ' = gd σ B arr
theorem SealSig.le{σ σ' : Sig}{id : Nat}(h : SealSig σ σ' φ w id) : σ.le σ':=by
 rcases h with ⟨_,rfl⟩ | ⟨B,cap,arr,t,_,_,hs,rfl⟩
 ·exact Sig.le_refl _
 ·exact rU (.inl hs)
def kO : AObj→Bool
 | .box _ | .row _ _ _=>true
 | _=>false
theorem HInv.sealSig(h : HInv σ φ sto w){id : Nat}{o : AObj}(hl : look sto id = some o)(hc : kO o = true) : ∃ σ',SealSig σ σ' φ w id:=by
 have ho:=h.obj _ _ hl
 cases o with
 | box cs =>
   obtain ⟨B,c',vs,t,h1,h2,_,h4⟩:=ho
   exact ⟨_,.inr ⟨B,c',_,t,h1,h2,h4,rfl⟩⟩
 | row k b xs =>
   rcases ho with ⟨_,h2⟩ | ⟨B,cap,arr,t,vs,h1,h2,_,_,_,_,_,_,_,h10⟩
   ·exact ⟨_,.inl ⟨h2,rfl⟩⟩
   ·exact ⟨_,.inr ⟨B,cap,arr,t,h1,h2,h10,rfl⟩⟩
 | map=>simp [kO] at hc
 | loop=>simp [kO] at hc
theorem ur{σ σ' : Sig}{id k b B cap : Nat}{xs : List (List D)}{arr : Array Value}{t : TypeId}(hσ : σ' = gd σ B arr)(hs : σ B = none)(hp : φ id = some (B,cap))
  (hh : w.heap[B]? = some (.cells arr t (0,0))) (ho : ObjRep σ φ sto w id (.row k b xs)) {lo n c' : Nat} {A : Option Addr} (hn : lo + n≤xs.length) (hc : n≤c')
  (hA : 0 < n→A = some ⟨B,lo * k,none⟩) : Rep σ' (.sl k b ((xs.drop lo).take n)) (.slice A n c'):=by
 rcases ho with ⟨_,h2⟩ | ⟨B',cap',arr',t',vs,h1,h2,h3,h4,h5,h6,h7,h8,h9,h10⟩
 ·rw [hp] at h2; cases h2
 ·rw [hp] at h1; cases h1
  rw [hh] at h2; cases h2
  have hlen : ((xs.drop lo).take n).length = n:=by simp; omega
  have hle : σ.le σ':=hσ ▸ rU (.inl hs)
  have e : (.slice A n c' : Value) = .slice A ((xs.drop lo).take n).length c':=by rw [hlen]
  rw [e]
  refine .sl (fun i j=>vs (lo + i) j) (by omega) (by omega) ?_ (fun x hx=>h7 x (List.mem_of_mem_drop (List.mem_of_mem_take hx))) (fun h0=>?_) (fun i j x d hx hd=>?_)
  ·rw [hlen]; exact Nat.le_trans (Nat.mul_le_mul_right _ (by omega)) h6
  ·refine ⟨B,lo * k,arr,hA (by omega),by simp [hσ,gd],fun i j hi hj=>?_⟩
   have:=h8 (lo + i) j (by omega) hj
   rw [Nat.add_mul] at this
   exact this
  ·have hx' : xs[lo + i]? = some x:=by
    rw [List.getElem?_take] at hx
    split at hx
    ·simpa [List.getElem?_drop] using hx
    ·cases hx
   exact (h9 (lo + i) j x d hx' hd).mono hle
theorem xc{σ σ' : Sig}(h : HInv σ φ sto w){id : Nat}{o : AObj}(hl : look sto id = some o)(hS : SealSig σ σ' φ w id){x : AC}{v : Value}(hx : RepC σ φ sto x v) :
  RepC σ' φ (bA id o sto) (dq id o x) v:=by
 have hle:=hS.le
 have hone:=hx.oneCell
 have other : (∀ i,i = id→x.men i = false)→RepC σ' φ (bA id o sto) x v:=fun hm=>hx.ext hle Ext.sealing hm
 cases hx with
 | d hx=>exact .d (hx.mono hle)
 | ownNil hl' hp =>
   rename_i i k b xs
   simp only [dq]
   cases hb : Nat.beq i id with
   | false=>exact other fun j hj=>by cases hj; exact hb
   | true =>
     have:=Nat.eq_of_beq_eq_true hb; subst this
     rw [hl] at hl'; cases hl'
     simp only [cond_true,List.take_zero]
     exact .d (.sl (fun _ _=>undef) (by simp) (by simp) (by simp) (by simp) (by simp) (by simp))
 | own hl' hn hp =>
   rename_i i n k b B cap xs
   simp only [dq]
   cases hb : Nat.beq i id with
   | false=>exact other fun j hj=>by cases hj; exact hb
   | true =>
     have:=Nat.eq_of_beq_eq_true hb; subst this
     rw [hl] at hl'; cases hl'
     simp only [cond_true]
     rcases hS with ⟨h1,_⟩ | ⟨B',cap',arr,t,h1,h2,h3,rfl⟩
     ·rw [hp] at h1; cases h1
     ·rw [hp] at h1; cases h1
      have ho:=h.obj _ _ hl
      have hcap : n≤cap:=by
       rcases ho with ⟨_,h2'⟩ | ⟨B',cap',arr',t',vs,h1,h2,_,h4,_⟩
       ·rw [hp] at h2'; cases h2'
       ·rw [hp] at h1; cases h1; omega
      have:=ur (lo:=0) (n:=n) (c':=cap) (A:=some ⟨B,0,none⟩) rfl h3 hp h2 ho (by omega) hcap (fun _=>by simp)
      simp only [List.drop_zero] at this
      exact .d this
 | sub hl' hn hc hA =>
   rename_i i lo n k b c' xs A
   simp only [dq]
   cases hb : Nat.beq i id with
   | false=>exact other fun j hj=>by cases hj; exact hb
   | true =>
     have:=Nat.eq_of_beq_eq_true hb; subst this
     rw [hl] at hl'; cases hl'
     simp only [cond_true]
     by_cases h0 : 0 < n
     ·obtain ⟨B,cap,hp,hA'⟩:=hA h0
      rcases hS with ⟨h1,_⟩ | ⟨B',cap',arr,t,h1,h2,h3,rfl⟩
      ·rw [hp] at h1; cases h1
      ·rw [hp] at h1; cases h1
       exact .d (ur rfl h3 hp h2 (h.obj _ _ hl) hn hc (fun _=>hA'))
     ·have h0 : n = 0:=by omega
      subst h0
      simp only [List.take_zero]
      exact .d (.sl (fun _ _=>undef) (by simp) (by simp) (by simp) (by simp) (by simp) (by simp))
 | ref hl' hp =>
   rename_i i off B cap cs
   simp only [dq]
   cases hb : Nat.beq i id with
   | false=>exact other fun j hj=>by cases hj; exact hb
   | true =>
     have:=Nat.eq_of_beq_eq_true hb; subst this
     rw [hl] at hl'; cases hl'
     simp only [cond_true]
     cases hd : fm cs with
     | none=>exact .junk rfl
     | some ds =>
       simp only
       obtain rfl:=kJ hd
       rcases hS with ⟨h1,_⟩ | ⟨B',cap',arr,t,h1,h2,h3,rfl⟩
       ·rw [hp] at h1; cases h1
       ·rw [hp] at h1; cases h1
        obtain ⟨vs,t',hh,ha⟩:=BP h hl hp
        rw [h2] at hh; cases hh
        refine .d (.ptr (cells:=vs.toArray) (fun j=>vs.getD (off + j) undef) (by simp [gd]) (fun j hj=>?_) (fun j d hj=>?_))
        ·have hj' : off + j < vs.length:=by have:=ha.length; simp at this hj; omega
         simp [List.getD,List.getElem?_eq_getElem hj']
        ·have hj' : (ds.map AC.d)[off + j]? = some (.d d):=by simpa [List.getElem?_drop] using hj
         obtain ⟨u,hu,hru⟩:=ha.get hj'
         replace hru:=RepC.d_inv hru
         simp only [List.getD,hu,Option.getD_some]
         exact hru.mono (rU (.inl h3))
 | rref hl' hp =>
   rename_i i j off k b B cap xs
   simp only [dq]
   cases hb : Nat.beq i id with
   | false=>exact other fun j hj=>by cases hj; exact hb
   | true=>exact .junk rfl
 | yl hl' hp =>
   rename_i i _ _ _ _ _ _
   simp only [dq]
   cases hb : Nat.beq i id with
   | false=>exact other fun j hj=>by cases hj; exact hb
   | true=>exact .junk rfl
 | mapr hl' hp =>
   rename_i i _ _ _ _ _
   simp only [dq]
   cases hb : Nat.beq i id with
   | false=>exact other fun j hj=>by cases hj; exact hb
   | true=>exact .junk rfl
 | bsl hl' hp =>
   rename_i i off n B cap cs
   simp only [dq]
   cases hb : Nat.beq i id with
   | false=>exact other fun j hj=>by cases hj; exact hb
   | true=>exact .junk rfl
 | junk hx=>exact .junk hx
 | dead hx _ =>
   have hm : x.men id = false∧dq id o x = x:=by
    have hk:=b5 hl
    have gen : ∀ {i : Nat},bo sto i = false→Nat.beq i id = false:=by
     intro i hi
     cases hb : Nat.beq i id with
     | false=>rfl
     | true=>rw [Nat.eq_of_beq_eq_true hb,hk] at hi; cases hi
    cases x with
    | own i n=>have:=gen hx; exact ⟨this,by simp [dq,this]⟩
    | sub i lo n=>have:=gen hx; exact ⟨this,by simp [dq,this]⟩
    | ref i off=>have:=gen hx; exact ⟨this,by simp [dq,this]⟩
    | rref i j off=>have:=gen hx; exact ⟨this,by simp [dq,this]⟩
    | yl i=>have:=gen hx; exact ⟨this,by simp [dq,this]⟩
    | mapr i=>have:=gen hx; exact ⟨this,by simp [dq,this]⟩
    | bsl i off n=>have:=gen hx; exact ⟨this,by simp [dq,this]⟩
    | d x=>simp [bG] at hx
    | junk=>simp [bG] at hx
   rw [hm.2]
   exact other fun j hj=>by cases hj; exact hm.1
theorem km{σ σ' : Sig}(h : HInv σ φ sto w){id : Nat}{o : AObj}(hl : look sto id = some o)(hS : SealSig σ σ' φ w id) : ∀ {cs : List AC} {vs : List Value},All2 (RepC σ φ sto) cs vs →
  All2 (RepC σ' φ (bA id o sto)) (oE id o cs) vs
 | [],[],_=>trivial
 | _::_,_::_,hh=>⟨xc h hl hS hh.1,km h hl hS hh.2⟩
 | [],_::_,hh=>hh.elim
 | _::_,[],hh=>hh.elim
theorem xd{σ σ' : Sig}(h : HInv σ φ sto w){id : Nat}{o : AObj}(hl : look sto id = some o)(hS : SealSig σ σ' φ w id){x : AV}{v : Value}(hx : RepV σ φ sto x v) :
  RepV σ' φ (bA id o sto) (uq id o x) v:=by
 cases x with
 | one c=>exact xc h hl hS hx
 | agg cs=>obtain ⟨vs,rfl,hh⟩:=hx; exact ⟨vs,rfl,km h hl hS hh⟩
 | tup ts =>
   obtain ⟨vs,rfl,hh⟩:=hx
   refine ⟨vs,rfl,?_⟩
   induction ts generalizing vs with
   | nil=>cases vs <;> simp_all [All2,zf]
   | cons t ts ih =>
     cases vs with
     | nil=>exact hh.elim
     | cons v vs =>
       refine ⟨?_,ih vs hh.2⟩
       obtain ⟨g,cs⟩:=t
       cases g with
       | true=>obtain ⟨us,rfl,hu⟩:=hh.1; exact ⟨us,rfl,km h hl hS hu⟩
       | false=>exact km h hl hS hh.1
 | any=>trivial
theorem nX{id : Nat}{o : AObj} : ∀ {fr : List (Nat×AV)} {s : Nat} {v : AV},look (iB id o fr) s = some v→∃ v0,look fr s = some v0∧v = uq id o v0
 | [],_,_,h=>by simp [iB,look] at h
 | (j,x)::r,s,v,h=>by
   simp only [iB] at h
   rcases ai h with ⟨rfl,rfl⟩ | ⟨hne,h⟩
   ·exact ⟨x,aP,rfl⟩
   ·obtain ⟨v0,h1,h2⟩:=nX h
    exact ⟨v0,by rw [aS hne]; exact h1,h2⟩
theorem HInv.sealing{σ σ' : Sig}(h : HInv σ φ sto w){id : Nat}{o : AObj}(hl : look sto id = some o)(hS : SealSig σ σ' φ w id) : HInv σ' φ (bA id o sto) w:=by
 refine ⟨fun b cs hb=>?_,fun i e hi=>?_,fun i i' e1 e2 p p' h1 h2 hne hp hp'=>?_⟩
 ·rcases hS with ⟨_,rfl⟩ | ⟨B,cap,arr,t,_,hh,hs,rfl⟩
  ·exact h.sig b cs hb
  ·unfold gd at hb
   by_cases e : b = B
   ·subst e; simp at hb; subst hb; exact ⟨t,_,hh⟩
   ·simp [e] at hb; exact h.sig b cs hb
 ·obtain ⟨hne,e0,h0,rfl⟩:=dL hi
  have ho:=h.obj _ _ h0
  have hσ : ∀ B c,φ i = some (B,c)→σ' B = σ B:=by
   intro B c' hB
   rcases hS with ⟨_,rfl⟩ | ⟨B',cap,arr,t,hp,hh,hs,rfl⟩
   ·rfl
   ·have : B≠B':=h.inj _ _ _ _ _ _ h0 hl hne hB hp
    simp [gd,this]
  cases e0 with
  | box cs =>
    obtain ⟨B,c',vs,t,h1,h2,h3,h4⟩:=ho
    exact ⟨B,c',vs,t,h1,h2,km h hl hS h3,(hσ B c' h1).trans h4⟩
  | row k b xs =>
    rcases ho with h1 | ⟨B,cap,arr,t,vs,h1,h2,h3,h4,h5,h6,h7,h8,h9,h10⟩
    ·exact .inl h1
    ·exact .inr ⟨B,cap,arr,t,vs,h1,h2,h3,h4,h5,h6,h7,h8,fun i j x d hx hd=>(h9 i j x d hx hd).mono hS.le,(hσ B cap h1).trans h10⟩
  | map kg vg es =>
    obtain ⟨B,c',ents,h1,h2,h3,h4⟩:=ho
    exact ⟨B,c',ents,h1,h2,h3.mono hS.le,(hσ B c' h1).trans h4⟩
  | loop li fr s p =>
    obtain ⟨B,c',r,h1,h2,h3,h3',h4⟩:=ho
    exact ⟨B,c',r,h1,h2,h3,fun s v hv=>by
     obtain ⟨v0,hv0,rfl⟩:=nX hv
     obtain ⟨u,hu,hru⟩:=h3' s v0 hv0
     exact ⟨u,hu,xd h hl hS hru⟩,(hσ B c' h1).trans h4⟩
 ·obtain ⟨_,e3,h3,_⟩:=dL h1
  obtain ⟨_,e4,h4,_⟩:=dL h2
  exact h.inj _ _ _ _ _ _ h3 h4 hne hp hp'
end Go.Abs
namespace Go.Abs
open Go
variable {P : Program} {c : Ctx} {T : Tab} {σ : Sig} {φ : Pl} {sto : Sto} {w : World}
def SubL{α : Type}(l : List (Nat×α)) : List (Nat×α)→Prop
 | []=>True
 | (s,v)::r=>look l s = some v∧SubL l r
theorem SubL.look{α : Type}{l : List (Nat×α)} : ∀ {l' : List (Nat×α)},SubL l l'→∀ {s : Nat} {v : α},look l' s = some v→Go.Abs.look l s = some v
 | [],_,_,_,h=>by simp [Go.Abs.look] at h
 | (t,u)::r,hs,s,v,h=>by
   rcases ai h with ⟨rfl,rfl⟩ | ⟨_,h⟩
   ·exact hs.1
   ·exact SubL.look hs.2 h
theorem Ext.sub{sto' : Sto}(hs : SubL sto sto') : Ext (fun _=>False) φ φ sto sto':=by
 intro id _
 cases hl : Go.Abs.look sto' id with
 | none=>exact .inl rfl
 | some e=>exact .inr ⟨e,hs.look hl,rfl,e,rfl,compat.refl e⟩
theorem ox{body : Code}{st : St}{Q : Exit→St→Prop}(I : Nat→St→Prop)(n0 : Nat)(h0 : I n0 st)
  (hround : ∀ n st,I n st→OkC P c body st (aA (fun st'=>∃ m st'',m < n∧I m st''∧Imp c st' st'') Q)) : OkC P c (.loop body) st Q:=by
 intro a w σ φ hr
 have hμ : ∀ (a : Act) (w : World),∃ m : Nat,∀ n,(∃ st σ φ,I n st∧Rel c st a w σ φ)→m≤n∧∃ st σ φ,I m st∧Rel c st a w σ φ:=by
  intro a w
  by_cases hex : ∃ n,∃ st σ φ,I n st∧Rel c st a w σ φ
  ·obtain ⟨n,hn⟩:=hex
   induction n using Nat.strongRecOn with
   | _ n ih =>
     by_cases hs : ∃ m,m < n∧∃ st σ φ,I m st∧Rel c st a w σ φ
     ·obtain ⟨m,hm,h⟩:=hs
      exact ih m hm h
     ·refine ⟨n,fun k hk=>⟨?_,hn⟩⟩
      rcases Nat.lt_or_ge k n with h | h
      ·exact absurd ⟨k,h,hk⟩ hs
      ·exact h
  ·exact ⟨0,fun n hn=>absurd ⟨n,hn⟩ hex⟩
 have hμ':=fun a=>Classical.axiomOfChoice (hμ a)
 obtain ⟨μ,hμ''⟩:=Classical.axiomOfChoice hμ'
 refine wpIn_loop (fun a w=>∃ n st σ φ,I n st∧Rel c st a w σ φ) μ ⟨n0,st,σ,φ,h0,hr⟩ ?_
 rintro a w ⟨n,hn⟩
 obtain ⟨hle,st,σ,φ,hI,hr⟩:=hμ'' a w n hn
 refine wpIn_mono (hround _ st hI a w σ φ hr) fun e a' w' ⟨st',σ',φ',h1,h2⟩=>?_
 cases e with
 | normal =>
   obtain ⟨m,st'',hm,hI',himp⟩:=h1
   obtain ⟨σ'',φ'',h3⟩:=himp a' w' σ' φ' (h2.rel (by simp))
   have:=hμ'' a' w' m ⟨st'',σ'',φ'',hI',h3⟩
   exact ⟨⟨m,st'',σ'',φ'',hI',h3⟩,by omega⟩
 | _=>exact ⟨st',σ',φ',h1,h2⟩
theorem kK{fr : List (Nat×AV)}{sto : Sto}{s k b : Nat}(hl : look fr s = some (.one (.d .nil))) : Imp c ⟨fr,sto⟩ ⟨(s,.one (.d (.sl k b [])))::fr,sto⟩:=by
 intro a w σ φ hr
 refine ⟨σ,φ,⟨hr.le,hr.fresh,hr.inv,hr.mine,fun t v hv=>?_,hr.defers,hr.size,hr.fra,hr.pin⟩⟩
 rcases ai hv with ⟨rfl,rfl⟩ | ⟨_,hv⟩
 ·obtain ⟨u,hu,hru⟩:=hr.slot _ _ hl
  refine ⟨u,hu,?_⟩
  replace hru:=RepC.d_inv hru
  cases hru
  exact .d (.sl (fun _ _=>undef) (by simp) (by simp) (by simp) (by simp) (by simp) (by simp))
 ·exact hr.slot t v hv
theorem dT{fr : List (Nat×AV)}{sto : Sto}{s id k b : Nat}(hl : look fr s = some (.one (.d .nil)))(hlt : Nat.blt id 1000000 = true)(hm1 : bx id fr = false)(hm2 : aR id sto = false) :
  Imp c ⟨fr,sto⟩ ⟨(s,.one (.own id 0))::fr,(id,.row k b [])::sto⟩:=by
 intro a w σ φ hr
 have hE : Ext (· = id) φ (bY φ id none) sto ((id,.row k b [])::sto):=Ext.add
 refine ⟨σ,bY φ id none,⟨hr.le,hr.fresh,⟨hr.inv.sig,fun i e hi=>?_,fun i i' e e' p p' hi hi' hne hp hp'=>?_⟩,fun i e p hi hp=>?_,fun t v hv=>?_,hr.defers,hr.size,hr.fra,fun i hi=>by
  have : i≠id:=by have:=Nat.le_of_ble_eq_true hlt; omega
  rw [bj this]; exact hr.pin i hi⟩⟩
 ·rcases ai hi with ⟨rfl,rfl⟩ | ⟨hne,hi⟩
  ·exact .inl ⟨rfl,aQ⟩
  ·exact (hr.inv.obj _ _ hi).ext (Sig.le_refl _) hE (fun j hj=>by cases hj; exact gL hm2 hi) (bj hne) fun _ _ _=>⟨rfl,rfl⟩
 ·rcases ai hi with ⟨rfl,rfl⟩ | ⟨hn,hi⟩
  ·rw [aQ] at hp; cases hp
  ·rcases ai hi' with ⟨rfl,rfl⟩ | ⟨hn',hi'⟩
   ·rw [aQ] at hp'; cases hp'
   ·rw [bj hn] at hp; rw [bj hn'] at hp'
    exact hr.inv.inj _ _ _ _ _ _ hi hi' hne hp hp'
 ·rcases ai hi with ⟨rfl,rfl⟩ | ⟨hn,hi⟩
  ·rw [aQ] at hp; cases hp
  ·rw [bj hn] at hp
   exact hr.mine _ _ _ hi hp
 ·rcases ai hv with ⟨rfl,rfl⟩ | ⟨_,hv⟩
  ·obtain ⟨u,hu,hru⟩:=hr.slot _ _ hl
   refine ⟨u,hu,?_⟩
   replace hru:=RepC.d_inv hru
   cases hru
   exact .ownNil aP aQ
  ·obtain ⟨u,hu,hru⟩:=hr.slot t v hv
   exact ⟨u,hu,hru.ext (Sig.le_refl _) hE fun j hj=>by cases hj; exact dJ hm1 hv⟩
theorem Fra.alloc(h : Fra c w)(o : Obj) : Fra c (w.alloc o) :=
 ⟨h.os,h.tape,h.output,by rw [World.size_alloc]; exact Nat.le_succ_of_le h.size,h.drawn,fun b hb hm=>by
  rw [RowKit.Below.heap_alloc w o b (Nat.lt_of_lt_of_le hb h.size)]
  exact h.block b hb hm⟩
theorem iO(h : HInv σ φ sto w) : σ w.heap.size = none:=by
 cases hb : σ w.heap.size with
 | none=>rfl
 | some cs =>
   obtain ⟨t,f,hh⟩:=h.sig _ _ hb
   have:=(Array.getElem?_eq_some_iff.1 hh).1
   omega
theorem nt{ops : Array Oper}{o : Oper}{rest : List Oper}{st : St}{K : St→Prop}{d id : Nat}{obj : AObj}{v : AV}(hg : o.guard = none)(hdst : o.dst = some d)(hd : (Nat.blt d c.n && Nat.blt id 1000000) = true)
  (hm1 : bx id st.fr = false) (hm2 : aR id st.sto = false)
  (H : ∀ (a : Act) (w : World) (σ : Sig) (φ : Pl),Rel c st a w σ φ→∃ (u : Value) (arr : Array Value) (t : TypeId) (cap : Nat),(execOp a.eval o).run P w = .ok (.value u) (w.alloc (.cells arr t)) ∧
   ObjRep σ (bY φ id (some (w.heap.size,cap))) ((id,obj)::st.sto) (w.alloc (.cells arr t)) id obj∧RepV σ (bY φ id (some (w.heap.size,cap))) ((id,obj)::st.sto) v u)
  (h : ae P c ops rest ⟨(d,v)::st.fr,(id,obj)::st.sto⟩ K) : ae P c ops (o::rest) st K :=
 bk hg fun a w σ φ hr=>by
  obtain ⟨u,arr,t,cap,hrun,hobj,hv⟩:=H a w σ φ hr
  refine ⟨u,_,_,σ,bY φ id (some (w.heap.size,cap)),hrun,?_,h⟩
  rw [hdst]
  simp only [Bool.and_eq_true] at hd
  have hd' : aU c.n (some d) = true:=hd.1
  refine hr.putTo (dst:=some d) (st':=⟨st.fr,(id,obj)::st.sto⟩) hd' hr.le hr.fresh (hr.inv.add hm2 hobj) ?_ (hr.fra.alloc _) (fun i hi=>by
   have : i≠id:=by have:=Nat.le_of_ble_eq_true hd.2; omega
   rw [bj this]; exact hr.pin i hi) (fun _=>hv) ?_
  ·intro i e p hi hp
   rcases ai hi with ⟨rfl,rfl⟩ | ⟨hne,hi⟩
   ·rw [aQ] at hp; cases hp; exact .inl hr.fra.size
   ·rw [bj hne] at hp; exact hr.mine _ _ _ hi hp
  ·intro s x _ hx
   exact ⟨x,hx,fun z hz=>hz.ext (Sig.le_refl _) Ext.add fun j hj=>by cases hj; exact dJ hm1 hx⟩
theorem cn(w : World)(o : Obj) : (w.alloc o).heap[w.heap.size]? = some o:=heap_alloc_new w o
theorem sB(hT : ba P T){ops : Array Oper}{o : Oper}{rest : List Oper}{st : St}{K : St→Prop}{d id : Nat}{t : TypeId}{td : TD}(ho : o.op = .alloc t)(hg : o.guard = none)(hdst : o.dst = some d)
  (hd : (Nat.blt d c.n && Nat.blt id 1000000) = true) (ht : look T t = some td) (hm1 : bx id st.fr = false) (hm2 : aR id st.sto = false)
  (h : ae P c ops rest ⟨(d,.one (.ref id 0))::st.fr,(id,.box (td.zero.map .d))::st.sto⟩ K) : ae P c ops (o::rest) st K:=by
 refine nt hg hdst hd hm1 hm2 (fun a w σ φ hr=>?_) h
 obtain ⟨i,u,z,hi,hu,hs,_,hz,hk,hzc,hzb,hzl,_⟩:=(hT t td ht).ex
 refine ⟨_,(td.zero.map ja).toArray,t,0,?_,⟨w.heap.size,0,td.zero.map ja,t,aQ,cn w _,tl hzb,iO hr.inv⟩,.ref (cap:=0) aP aQ⟩
 simp [execOp,ho,Instr.alloc,eE hi hz,newVar,newRow,hzc]
theorem wZ{ops : Array Oper}{o : Oper}{rest : List Oper}{st : St}{K : St→Prop}{d id : Nat}{t : TypeId}{x : Operand}{v : AV}{cs : List AC}(ho : o.op = .box t x)(hg : o.guard = none)(hdst : o.dst = some d)
  (hd : (Nat.blt d c.n && Nat.blt id 1000000) = true) (hx : ev st x = some v) (hc : cellsOf v = some cs) (hm1 : bx id st.fr = false) (hm2 : aR id st.sto = false) (hm3 : cq id cs = false)
  (h : ae P c ops rest ⟨(d,.one (.ref id 0))::st.fr,(id,.box cs)::st.sto⟩ K) : ae P c ops (o::rest) st K:=by
 refine nt hg hdst hd hm1 hm2 (fun a w σ φ hr=>?_) h
 have hrep:=gM hc (aI hr hx)
 refine ⟨_,(a.eval x).cells,t,0,?_,⟨w.heap.size,0,(a.eval x).cells.toList,t,aQ,?_,jG (Sig.le_refl _) Ext.add (fun j hj=>by cases hj; exact hm3) hrep,iO hr.inv⟩,
  .ref (cap:=0) aP aQ⟩
 ·simp [execOp,ho,Instr.box,newVar,newRow]
 ·rw [Array.toArray_toList]; exact cn w _
end Go.Abs
namespace Go.Abs
open Go
variable {P : Program} {c : Ctx} {T : Tab} {σ : Sig} {φ : Pl} {sto : Sto} {w : World}
theorem oc{α : Type} : ∀ {o : Nat} {n l : List α},o + n.length≤l.length→cZ o n l = some (l.take o ++ n ++ l.drop (o + n.length))
 | 0,[],l,_=>by simp [cZ]
 | 0,c::n,x::l,h=>by
   simp only [List.length_cons] at h
   simp only [cZ]
   rw [oc (o:=0) (by omega)]
   simp
 | o + 1,n,x::l,h=>by
   simp only [List.length_cons] at h
   simp only [cZ]
   rw [oc (o:=o) (by omega)]
   have : o + 1 + n.length = (o + n.length) + 1:=by omega
   simp [this]
 | 0,_::_,[],h=>by simp at h
 | o + 1,n,[],h=>by simp at h
theorem eh{α : Type}{k : Nat} : ∀ {xs : List (List α)} {i j : Nat} {x : List α},(∀ x∈xs,x.length = k)→xs[i]? = some x→j < k→xs.flatten[i * k + j]? = x[j]?
 | [],_,_,_,_,h,_=>by simp at h
 | y::ys,0,j,x,hk,h,hj=>by
   simp at h; subst h
   have:=hk y (by simp)
   simp only [List.flatten_cons,Nat.zero_mul,Nat.zero_add]
   rw [List.getElem?_append_left (by omega)]
 | y::ys,i + 1,j,x,hk,h,hj=>by
   have hy:=hk y (by simp)
   have e : (i + 1) * k + j = y.length + (i * k + j):=by rw [hy,Nat.succ_mul]; omega
   simp only [List.flatten_cons]
   rw [e,List.getElem?_append_right (by omega),Nat.add_sub_cancel_left]
   exact eh (fun x hx=>hk x (by simp [hx])) (by simpa using h) hj
theorem b8{α : Type}{k : Nat} : ∀ {xs : List (List α)},(∀ x∈xs,x.length = k)→xs.flatten.length = xs.length * k
 | [],_=>by simp
 | y::ys,hk=>by
   have hy:=hk y (by simp)
   simp only [List.flatten_cons,List.length_append,List.length_cons]
   rw [b8 (fun x hx=>hk x (by simp [hx])),hy,Nat.succ_mul]; omega
theorem ObjRep.mk_row{id k b B cap : Nat}{xs : List (List D)}{arr : Array Value}{t : TypeId}(h1 : φ id = some (B,cap))(h2 : w.heap[B]? = some (.cells arr t (0,0)))(h3 : arr.size = cap * k)
  (h4 : xs.length≤cap) (h5 : xs.length < 2 ^ 48) (h6 : xs.length * b≤2 ^ 47) (h7 : ∀ x∈xs,x.length = k) {us : List Value} (h8 : All2 (Rep σ) xs.flatten us)
  (h9 : ∀ (j : Nat) (u : Value),us[j]? = some u→arr[j]? = some u) (h10 : σ B = none) : ObjRep σ φ sto w id (.row k b xs):=by
 have key : ∀ i j x d,xs[i]? = some x→x[j]? = some d→∃ u,arr[i * k + j]? = some u∧Rep σ d u:=by
  intro i j x d hx hd
  have hj : j < k:=by
   rw [← h7 x (List.mem_of_getElem? hx)]
   exact (List.getElem?_eq_some_iff.1 hd).1
  obtain ⟨u,hu,hr⟩:=h8.get ((eh h7 hx hj).trans hd)
  exact ⟨u,h9 _ _ hu,hr⟩
 refine .inr ⟨B,cap,arr,t,fun i j=>arr.getD (i * k + j) undef,h1,h2,h3,h4,h5,h6,h7,fun i j hi hj=>?_,fun i j x d hx hd=>?_,h10⟩
 ·have hx : xs[i]? = some xs[i]:=List.getElem?_eq_getElem hi
  have hl:=h7 xs[i] (List.getElem_mem hi)
  obtain ⟨u,hu,_⟩:=key i j xs[i] (xs[i][j]'(by omega)) hx (List.getElem?_eq_getElem (by omega))
  simp [Array.getD_eq_getD_getElem?,hu]
 ·obtain ⟨u,hu,hr⟩:=key i j x d hx hd
  simpa [Array.getD_eq_getD_getElem?,hu] using hr
theorem ObjRep.row_cells{id k b B cap : Nat}{xs : List (List D)}(h : ObjRep σ φ sto w id (.row k b xs))(hp : φ id = some (B,cap)) :
  ∃ (arr : Array Value) (t : TypeId) (us : List Value),w.heap[B]? = some (.cells arr t (0,0))∧arr.size = cap * k∧xs.length≤cap∧xs.length < 2 ^ 48∧xs.length * b≤2 ^ 47∧(∀ x∈xs,x.length = k) ∧
    All2 (Rep σ) xs.flatten us∧(∀ (j : Nat) (u : Value),us[j]? = some u→arr[j]? = some u)∧σ B = none∧us.length = xs.length * k:=by
 rcases h with ⟨_,h2⟩ | ⟨B',cap',arr,t,vs,h1,h2,h3,h4,h5,h6,h7,h8,h9,h10⟩
 ·rw [hp] at h2; cases h2
 ·rw [hp] at h1; cases h1
  have hfl:=b8 h7
  have hsz : xs.length * k≤arr.size:=by rw [h3]; exact Nat.mul_le_mul_right _ h4
  refine ⟨arr,t,arr.toList.take (xs.length * k),h2,h3,h4,h5,h6,h7,?_,?_,h10,?_⟩
  ·refine All2.of_get (by simp [hfl]; omega) fun j d u hd hu=>?_
   have hj : j < xs.length * k:=by rw [← hfl]; exact (List.getElem?_eq_some_iff.1 hd).1
   have hk : 0 < k:=by
    rcases Nat.eq_zero_or_pos k with h0 | h0
    ·subst h0; simp at hj
    ·exact h0
   have hi : j / k < xs.length:=Nat.div_lt_of_lt_mul (by rw [Nat.mul_comm]; exact hj)
   have hm : j % k < k:=Nat.mod_lt _ hk
   have hx : xs[j / k]? = some xs[j / k]:=List.getElem?_eq_getElem hi
   have e : j / k * k + j % k = j:=by rw [Nat.mul_comm]; exact Nat.div_add_mod j k
   have h11:=eh h7 hx hm
   rw [e,hd] at h11
   have h12:=h8 (j / k) (j % k) hi hm
   rw [e] at h12
   have h13:=h9 (j / k) (j % k) _ d hx h11.symm
   have : u = vs (j / k) (j % k):=by
    rw [List.getElem?_take,if_pos hj] at hu
    rw [Array.getElem?_toList,h12] at hu
    cases hu; rfl
   rw [this]; exact h13
  ·intro j u hu
   rw [List.getElem?_take] at hu
   split at hu
   ·simpa using hu
   ·cases hu
  ·simp; omega
theorem oA{fr : List (Nat×AV)}{sto sto' : Sto}(h : ∀ i,look sto' i = look sto i) : Imp c ⟨fr,sto⟩ ⟨fr,sto'⟩:=by
 intro a w σ φ hr
 have hE : Ext (fun _=>False) φ φ sto sto':=Ext.of_some (fun i e _ hi=>⟨rfl,e,(h i).trans hi,compat.refl _⟩) (fun i _ hi=>(h i).trans hi)
 refine ⟨σ,φ,⟨hr.le,hr.fresh,⟨hr.inv.sig,fun i e hi=>?_,fun i i' e e' p p' hi hi'=>hr.inv.inj _ _ _ _ _ _ ((h i).symm.trans hi) ((h i').symm.trans hi')⟩,
  fun i e p hi hp=>hr.mine _ _ _ ((h i).symm.trans hi) hp,fun s v hv=>?_,hr.defers,hr.size,hr.fra,hr.pin⟩⟩
 ·exact (hr.inv.obj _ _ ((h i).symm.trans hi)).ext (Sig.le_refl _) hE (fun j hj=>by cases hj) rfl fun _ _ _=>⟨rfl,rfl⟩
 ·obtain ⟨u,hu,hru⟩:=hr.slot s v hv
  exact ⟨u,hu,hru.ext (Sig.le_refl _) hE fun j hj=>by cases hj⟩
def bS(id : Nat)(o : AObj) : Sto→Sto
 | []=>[(id,o)]
 | p::r=>bif Nat.beq p.1 id then (id,o)::r else p::bS id o r
theorem cC{id : Nat}{o : AObj} : ∀ {sto : Sto} {i : Nat},look (bS id o sto) i = look ((id,o)::sto) i
 | [],_=>rfl
 | (j,x)::r,i=>by
   simp only [bS]
   cases hb : Nat.beq j id with
   | true =>
     have:=Nat.eq_of_beq_eq_true hb; subst this
     simp only [cond_true,look]
     cases Nat.beq j i <;> rfl
   | false =>
     simp only [cond_false,look,cC (sto:=r)]
     cases h1 : Nat.beq j i <;> cases h2 : Nat.beq id i <;> simp
     have e1:=Nat.eq_of_beq_eq_true h1
     have e2:=Nat.eq_of_beq_eq_true h2
     subst e1; subst e2
     rw [Nat.beq_refl] at hb; cases hb
end Go.Abs
namespace Go.Abs
open Go
variable {P : Program} {c : Ctx} {T : Tab} {σ : Sig} {φ : Pl} {sto : Sto} {w : World}
def aW(T : Tab)(t : TypeId) : Option (TypeId×Nat×Nat×List D) :=
 match look T t with
 | some ⟨.slice e,_,_,_⟩=>match look T e with
   | some td=>some (e,td.size,td.bytes,td.zero)
   | none=>none
 | _=>none
theorem dr(hT : ba P T){t e k b : Nat}{z : List D}(h : aW T t = some (e,k,b,z)) :
  ∃ (i : TypeInfo) (zv : Value),P.underlying t = some (.slice e)∧P.info? e = some i∧i.size = k∧i.bytes = b∧i.zero = some zv∧zv.cells = (z.map ja).toArray∧(∀ x∈z,gU x = true)∧z.length = k:=by
 unfold aW at h
 split at h
 ·rename_i e' _ _ _ h1
  split at h <;> simp at h
  rename_i td h2
  obtain ⟨rfl,rfl,rfl,rfl⟩:=h
  obtain ⟨_,u,_,_,hu,_,_,_,hk,_⟩:=(hT t _ h1).ex
  simp only [ej] at hk; subst hk
  obtain ⟨i,_,zv,hi,_,hs,hb,hz,_,hzc,hzb,hzl,_⟩:=(hT e' td h2).ex
  exact ⟨i,zv,hu,hi,hs,hb,hz,hzc,hzb,hzl⟩
 ·simp at h
def dM(st : St)(k : Nat) : Nat→List (Nat×Operand)→Option (List (List D))
 | _,[]=>some []
 | i,(j,x)::r=>bif Nat.beq i j then (match ev st x with
   | some v=>(match cellsOf v with
     | some cs=>(match fm cs with
       | some ds=>bif Nat.beq ds.length k then (match dM st k (i + 1) r with | some l=>some (ds::l) | none=>none) else none
       | none=>none)
     | none=>none)
   | none=>none) else none
theorem pV{st : St}{k : Nat} : ∀ {parts : List (Nat×Operand)} {i : Nat} {xs : List (List D)},dM st k i parts = some xs→xs.length = parts.length∧∀ x∈xs,x.length = k
 | [],_,xs,h=>by simp [dM] at h; subst h; simp
 | (j,x)::r,i,xs,h=>by
   simp only [dM] at h
   cases hb : Nat.beq i j <;> simp only [hb,cond_true,cond_false,reduceCtorEq] at h
   split at h <;> (try (simp at h; done))
   split at h <;> (try (simp at h; done))
   split at h <;> (try (simp at h; done))
   rename_i ds hd
   cases hk : Nat.beq ds.length k <;> simp only [hk,cond_true,cond_false,reduceCtorEq] at h
   split at h <;> simp at h
   rename_i l hl
   subst h
   obtain ⟨h1,h2⟩:=pV hl
   exact ⟨by simp [h1],fun x hx=>by
    rcases List.mem_cons.1 hx with rfl | hx
    ·exact Nat.eq_of_beq_eq_true hk
    ·exact h2 x hx⟩
theorem nr : ∀ {ds : List D} {vs : List Value},All2 (RepC σ φ sto) (ds.map .d) vs→All2 (Rep σ) ds vs
 | [],[],_=>trivial
 | _::_,_::_,h=>⟨by have h:=RepC.d_inv h.1; exact h,nr h.2⟩
 | [],_::_,h=>h.elim
 | _::_,[],h=>h.elim
theorem pW{c : Ctx}{st : St}{a : Act}(hrel : Rel c st a w σ φ){k : Nat} :
  ∀ (parts : List (Nat×Operand)) (i : Nat) (xs done : List (List D)) (rest : List AC) (cells : Array Value),dM st k i parts = some xs→done.length = i→(∀ x∈done,x.length = k) →
    parts.length * k≤rest.length→All2 (RepC σ φ st.sto) (done.flatten.map .d ++ rest) cells.toList →
    ∃ cells' : Array Value,Instr.fill (fun i=>some (i * k,k)) cells (parts.map fun p=>(p.1,a.eval p.2)) = some cells'∧All2 (RepC σ φ st.sto) ((done ++ xs).flatten.map .d ++ rest.drop (parts.length * k)) cells'.toList
 | [],i,xs,done,rest,cells,h,_,_,_,ha=>by
   simp [dM] at h; subst h
   exact ⟨cells,rfl,by simpa using ha⟩
 | (j,x)::r,i,xs,done,rest,cells,h,hi,hdk,hrl,ha=>by
   simp only [dM] at h
   cases hb : Nat.beq i j <;> simp only [hb,cond_true,cond_false,reduceCtorEq] at h
   split at h <;> (try (simp at h; done))
   rename_i v hv
   split at h <;> (try (simp at h; done))
   rename_i cs hcs
   split at h <;> (try (simp at h; done))
   rename_i ds hd
   cases hk : Nat.beq ds.length k <;> simp only [hk,cond_true,cond_false,reduceCtorEq] at h
   split at h <;> simp at h
   rename_i l hl
   subst h
   have hij:=Nat.eq_of_beq_eq_true hb
   subst hij
   have hdl:=Nat.eq_of_beq_eq_true hk
   obtain rfl:=kJ hd
   have hr:=gM hcs (aI hrel hv)
   have hfl:=b8 hdk
   have hfm : (done.flatten.map AC.d).length = i * k:=by rw [List.length_map,hfl,hi]
   have hcat : (done ++ [ds]).flatten.map AC.d = done.flatten.map AC.d ++ ds.map AC.d:=by
    rw [List.flatten_append,List.map_append]; simp
   have hsp : cZ (i * k) (ds.map AC.d) (done.flatten.map .d ++ rest) = some ((done ++ [ds]).flatten.map .d ++ rest.drop k):=by
    rw [hcat]
    generalize done.flatten.map AC.d = f at hfm
    rw [oc (by simp only [List.length_map,List.length_append,hfm,hdl]; simp only [List.length_cons,Nat.succ_mul] at hrl; omega)]
    congr 1
    have e1 : (f ++ rest).take (i * k) = f:=by
     rw [List.take_append_of_le_length (by omega)]
     exact List.take_of_length_le (by omega)
    have e2 : (f ++ rest).drop (i * k + (ds.map AC.d).length) = rest.drop k:=by
     rw [List.drop_append,List.drop_of_length_le (by omega)]
     simp only [List.nil_append,hfm,List.length_map,hdl,Nat.add_sub_cancel_left]
    rw [e1,e2]
   obtain ⟨cells',h1,_,h3⟩:=rr (σ:=σ) (φ:=φ) (sto:=st.sto) (fun i=>some (i * k,k)) (i:=i) (u:=a.eval x) (rest:=r.map fun p=>(p.1,a.eval p.2)) (cells:=cells) (o:=i * k) (by simp [hdl]) hsp hr ha
   obtain ⟨cells'',h4,h5⟩:=pW hrel r (i + 1) l (done ++ [ds]) (rest.drop k) cells' hl (by simp [hi]) (fun x hx=>by
    rcases List.mem_append.1 hx with hx | hx
    ·exact hdk x hx
    ·simp at hx; subst hx; exact hdl) (by simp only [List.length_cons,Nat.succ_mul] at hrl; simp; omega) h1
   refine ⟨cells'',by simp only [List.map_cons]; rw [h3]; exact h4,?_⟩
   have e : (rest.drop k).drop (r.length * k) = rest.drop (((i,x)::r).length * k):=by
    rw [List.drop_drop,List.length_cons,Nat.succ_mul,Nat.add_comm]
   rw [e] at h5
   simpa using h5
theorem od{k : Nat}{z : List D}{zv : Value}(hz : zv.cells = (z.map ja).toArray)(hzb : ∀ x∈z,gU x = true)(hl : z.length = k)(n : Nat) :
  All2 (RepC σ φ sto) ((List.replicate n z).flatten.map .d) (((Array.range (n * k)).map (fun i=>zv.cells[i % zv.cells.size]!)).toList):=by
 refine All2.of_get ?_ fun j a b ha hb=>?_
 ·rw [List.length_map,b8 (k:=k) (by intro x hx; rw [List.eq_of_mem_replicate hx]; exact hl)]
  simp
 ·have hj : j < n * k:=by
   have:=(List.getElem?_eq_some_iff.1 hb).1
   simpa using this
  have hk : 0 < k:=by
   rcases Nat.eq_zero_or_pos k with h0 | h0
   ·subst h0; simp at hj
   ·exact h0
  have hi : j / k < n:=Nat.div_lt_of_lt_mul (by rw [Nat.mul_comm]; exact hj)
  have hm : j % k < k:=Nat.mod_lt _ hk
  have e : j / k * k + j % k = j:=by rw [Nat.mul_comm]; exact Nat.div_add_mod j k
  have h1 : (List.replicate n z).flatten[j]? = z[j % k]?:=by
   have:=eh (k:=k) (xs:=List.replicate n z) (i:=j / k) (j:=j % k) (x:=z) (by intro x hx; rw [List.eq_of_mem_replicate hx]; exact hl) (by simp [hi]) hm
   rwa [e] at this
  have hmz : j % k < z.length:=by omega
  have hsz : zv.cells.size = k:=by rw [hz]; simp [hl]
  simp only [List.getElem?_map,h1,List.getElem?_eq_getElem hmz,Option.map_some,Option.some.injEq] at ha
  subst ha
  have hb' : b = ja z[j % k]:=by
   simp only [Array.toList_map,List.getElem?_map,Array.getElem?_toList,Array.getElem?_range,hj,if_true,Option.map_some,Option.some.injEq] at hb
   rw [← hb,hsz]
   simp [hz,hmz]
  rw [hb']
  exact .d (mS (hzb _ (List.getElem_mem hmz)))
theorem tw(hT : ba P T){ops : Array Oper}{o : Oper}{rest : List Oper}{st : St}{K : St→Prop}{d id n k b : Nat}{t e : TypeId}{z : List D}{parts : Array (Nat×Operand)}{xs : List (List D)}
  (ho : o.op = .buildSlice t n parts) (hg : o.guard = none) (hdst : o.dst = some d) (hd : (Nat.blt d c.n && Nat.blt id 1000000) = true) (ht : aW T t = some (e,k,b,z))
  (hp : dM st k 0 parts.toList = some xs) (hn : Nat.beq parts.toList.length n = true) (hbig : (Nat.ble (n * k) 1000000 && Nat.ble (n * b) 1000000 && Nat.ble n 1000000) = true)
  (hm1 : bx id st.fr = false) (hm2 : aR id st.sto = false)
  (h : ae P c ops rest ⟨(d,.one (.own id n))::st.fr,(id,.row k b xs)::st.sto⟩ K) : ae P c ops (o::rest) st K:=by
 refine nt hg hdst hd hm1 hm2 (fun a w σ φ hr=>?_) h
 obtain ⟨i,zv,hu,hi,rfl,rfl,hz,hzc,hzb,hzl⟩:=dr hT ht
 have hnl:=Nat.eq_of_beq_eq_true hn
 simp only [Bool.and_eq_true,Nat.ble_eq] at hbig
 obtain ⟨⟨hb1,hb2⟩,hb3⟩:=hbig
 obtain ⟨hl,hlk⟩:=pV hp
 have hxn : xs.length = n:=by omega
 have hz0:=od (σ:=σ) (φ:=φ) (sto:=st.sto) hzc hzb hzl n
 obtain ⟨cells',h1,h2⟩:=pW hr (k:=i.size) parts.toList 0 xs [] ((List.replicate n z).flatten.map .d) ((Array.range (n * i.size)).map (fun j=>zv.cells[j % zv.cells.size]!)) hp rfl (by simp)
  (by rw [List.length_map,b8 (k:=i.size) (by intro x hx; rw [List.eq_of_mem_replicate hx]; exact hzl)]; simp [hnl]) (by simpa using hz0)
 have hdrop : ((List.replicate n z).flatten.map AC.d).drop (parts.toList.length * i.size) = []:=by
  apply List.drop_of_length_le
  rw [List.length_map,b8 (k:=i.size) (by intro x hx; rw [List.eq_of_mem_replicate hx]; exact hzl)]
  simp only [List.length_replicate,hnl]; exact Nat.le_refl _
 rw [hdrop,List.append_nil,List.nil_append] at h2
 have h2':=nr h2
 have hsz : cells'.size = n * i.size:=by
  have:=h2'.length
  rw [b8 hlk,hxn] at this
  simpa using this.symm
 refine ⟨.slice (some ⟨w.heap.size,0,none⟩) n n,cells',e,n,?_,ObjRep.mk_row (B:=w.heap.size) (cap:=n) aQ (cn w _) hsz (by omega) (by omega) ?_ hlk h2' (fun j u hu=>by simpa using hu) (iO hr.inv),?_⟩
 ·have hbig' : ¬ (n * i.size > 2 ^ 24):=by omega
  have hpm : (parts.map fun (x : Nat×Operand)=>(x.1,a.eval x.2)).toList = parts.toList.map fun p=>(p.1,a.eval p.2):=by simp
  simp only [execOp,ho,Instr.buildSlice,Sem.run_bind,run_underlying hu,Result.andThen_ok,bV hi,if_neg hbig']
  by_cases h0 : n * i.size = 0
  ·have e0 : ∀ f : Nat→Value,(Array.range (n * i.size)).map f = #[]:=by rw [h0]; intro f; simp
   rw [e0] at h1
   simp only [if_pos h0,Sem.run_bind,Sem.run_pure,Result.andThen_ok,e0,hpm,h1]
   simp [newRow]
  ·simp only [if_neg h0,Sem.run_bind,eE hi hz,Sem.run_pure,Result.andThen_ok,hpm,h1]
   simp [newRow]
 ·rw [hxn]; omega
 ·have:=RepC.own (σ:=σ) (φ:=bY φ id (some (w.heap.size,n))) (sto:=(id,.row i.size i.bytes xs)::st.sto) (id:=id) (n:=n) (B:=w.heap.size) (cap:=n) aP (by omega) aQ
  exact this
end Go.Abs
namespace Go.Abs
open Go
variable {P : Program} {c : Ctx} {T : Tab} {σ : Sig} {φ : Pl} {sto : Sto} {w : World}
theorem uu(hT : ba P T){ops : Array Oper}{o : Oper}{rest : List Oper}{st : St}{K : St→Prop}{d id k b : Nat}{t e : TypeId}{z : List D}{x y : Operand}{n : Nat}
  (ho : o.op = .makeSlice t x y) (hg : o.guard = none) (hdst : o.dst = some d) (hd : (Nat.blt d c.n && Nat.blt id 1000000) = true) (ht : aW T t = some (e,k,b,z))
  (hx : ev st x = some (.one (.d (.int .i64 (n : Int))))) (hy : ev st y = some (.one (.d (.int .i64 (n : Int))))) (hn : n < 2 ^ 47) (hb : n * b≤2 ^ 47)
  (hm1 : bx id st.fr = false) (hm2 : aR id st.sto = false)
  (h : ae P c ops rest ⟨(d,.one (.own id n))::st.fr,(id,.row k b (List.replicate n z))::st.sto⟩ K) : ae P c ops (o::rest) st K:=by
 refine nt hg hdst hd hm1 hm2 (fun a w σ φ hr=>?_) h
 obtain ⟨i,zv,hu,hi,rfl,rfl,hz,hzc,hzb,hzl⟩:=dr hT ht
 have hz0:=od (σ:=σ) (φ:=φ) (sto:=st.sto) hzc hzb hzl n
 have h1:=aI hr hx
 have h2:=aI hr hy
 replace h1:=RepC.d_inv h1
 replace h2:=RepC.d_inv h2
 generalize hux : a.eval x = ux at h1
 generalize huy : a.eval y = uy at h2
 cases h1
 cases h2
 have hlk : ∀ x∈List.replicate n z,x.length = i.size:=by intro x hx; rw [List.eq_of_mem_replicate hx]; exact hzl
 refine ⟨.slice (some ⟨w.heap.size,0,none⟩) n n,(Array.range (n * i.size)).map (fun j=>zv.cells[j % zv.cells.size]!),e,n,?_,
  ObjRep.mk_row (B:=w.heap.size) (cap:=n) aQ (cn w _) (by simp) (by simp) (by simp; omega) (by simpa using hb) hlk (nr hz0) (fun j u hu=>by rw [← Array.getElem?_toList]; exact hu) (iO hr.inv),?_⟩
 ·have hwrap : IntKind.i64.wrap (n : Int) = n:=by
   unfold IntKind.wrap
   simp [IntKind.signed,IntKind.bits]
   have : (n : Int) % 18446744073709551616 = n:=Int.emod_eq_of_lt (by omega) (by omega)
   rw [this]; split <;> omega
  have hnb : (i.bytes : Int) * (n : Int)≤2 ^ 47:=by rw [Int.mul_comm]; exact_mod_cast hb
  have hbig : (decide ((n : Int) < 0) || decide ((i.bytes : Int) * (n : Int) > 2 ^ 48)) = false:=by
   simp only [Bool.or_eq_false_iff,decide_eq_false_iff_not]
   omega
  have hroom : (askRoom (n * i.bytes)).run P w = .ok () w:=by
   unfold askRoom roomBytes
   rw [if_neg (by omega)]; rfl
  simp only [execOp,ho,hux,huy,Instr.makeSlice,Sem.run_bind,run_underlying hu,Result.andThen_ok,asInt,asIntOf,Sem.run_pure,hwrap]
  simp only [typeInfo,Sem.run_bind,show (program).run P w = .ok P w from rfl,Result.andThen_ok,hi,Sem.run_pure]
  have hcond : ((decide ((n : Int) < 0) || decide ((i.bytes : Int) * (n : Int) > 2 ^ 48)) || decide ((n : Int) < 0) || decide ((n : Int) > (n : Int))) = false:=by
   rw [hbig]; simp
  simp only [hcond,Bool.false_eq_true,if_false,Int.toNat_natCast,Sem.run_bind,hroom,Result.andThen_ok,bV hi]
  by_cases h0 : n * i.size = 0
  ·have e0 : ∀ f : Nat→Value,(Array.range (n * i.size)).map f = #[]:=by rw [h0]; intro f; simp
   simp only [if_pos h0,Sem.run_bind,Sem.run_pure,Result.andThen_ok,e0]
   simp [newRow]
  ·simp only [if_neg h0,Sem.run_bind,eE hi hz,Sem.run_pure,Result.andThen_ok]
   simp [newRow]
 ·exact RepC.own (cap:=n) aP (by simp) aQ
theorem oZ{a : Act}{st : St}(hr : Rel c st a w σ φ){x : Operand}{k : IntKind}{n : Int}(hx : ev st x = some (.one (.d (.int k n)))) : a.eval x = .int k n:=by
 have h1:=aI hr hx
 replace h1:=RepC.d_inv h1
 generalize a.eval x = u at h1
 cases h1; rfl
theorem GH(hT : ba P T){ops : Array Oper}{o : Oper}{rest : List Oper}{st : St}{K : St→Prop}{k b k' b' : Nat}{t e : TypeId}{z : List D}{x y : Operand}{xs : List (List D)}{ik : IntKind}{n : Int}{el : List D}
  (ho : o.op = .indexAddr t x y) (hg : o.guard = none) (hd : aU c.n o.dst = true) (ht : aW T t = some (e,k',b',z)) (hx : ev st x = some (.one (.d (.sl k b xs)))) (hk : Nat.beq k k' = true)
  (hy : ev st y = some (.one (.d (.int ik n)))) (hn : 0≤n) (hel : xs[n.toNat]? = some el)
  (h : ae P c ops rest ⟨bt o.dst (.one (.d (.ptr el))) st.fr,st.sto⟩ K) : ae P c ops (o::rest) st K :=
 bk hg fun a w σ φ hr=>by
  obtain ⟨i,zv,hu,hi,rfl,_⟩:=dr hT ht
  obtain rfl:=Nat.eq_of_beq_eq_true hk
  have h1:=aI hr hx
  replace h1:=RepC.d_inv h1
  generalize hux : a.eval x = ux at h1
  have hlt : n.toNat < xs.length:=(List.getElem?_eq_some_iff.1 hel).1
  cases h1 with
  | sl vs hc h48 hb hk hA hh =>
    rename_i A cap
    obtain ⟨B,off,cells,rfl,hσ,hcell⟩:=hA (by omega)
    refine ⟨.pointer (some ⟨B,off + n.toNat * i.size,none⟩),w,_,σ,φ,?_,hr.put (v:=.one (.d (.ptr el))) hd (.d (.ptr (fun j=>vs n.toNat j) hσ (fun j hj=>?_) (fun j d hd=>?_))),h⟩
    ·have hc1 : 0≤n∧n < (xs.length : Int):=⟨hn,by omega⟩
     simp [execOp,ho,hux,oZ hr hy,Instr.indexAt,asIntOf,run_underlying hu,hc1,bV hi,fJ]
    ·have:=hk el (List.mem_of_getElem? hel)
     exact hcell _ _ hlt (by omega)
    ·exact hh _ _ _ _ hel hd
theorem A2(hT : ba P T){ops : Array Oper}{o : Oper}{rest : List Oper}{st : St}{K : St→Prop}{k b k' b' id m : Nat}{t e : TypeId}{z : List D}{x y : Operand}{xs : List (List D)}{ik : IntKind}{n : Int}
  (ho : o.op = .indexAddr t x y) (hg : o.guard = none) (hd : aU c.n o.dst = true) (ht : aW T t = some (e,k',b',z)) (hx : ev st x = some (.one (.own id m))) (hl : look st.sto id = some (.row k b xs)) (hk : Nat.beq k k' = true)
  (hy : ev st y = some (.one (.d (.int ik n)))) (hn : 0≤n) (hm : n < m)
  (h : ae P c ops rest ⟨bt o.dst (.one (.rref id n.toNat 0)) st.fr,st.sto⟩ K) : ae P c ops (o::rest) st K :=
 bk hg fun a w σ φ hr=>by
  obtain ⟨i,zv,hu,hi,rfl,_⟩:=dr hT ht
  obtain rfl:=Nat.eq_of_beq_eq_true hk
  have h1 : RepC σ φ st.sto (.own id m) (a.eval x):=aI hr hx
  generalize hux : a.eval x = ux at h1
  cases h1 with
  | dead hxx _=>simp [bG,b5 hl] at hxx
  | ownNil h hp=>omega
  | own hl' hn' hp =>
    rename_i B cap xs'
    rw [hl] at hl'; cases hl'
    refine ⟨.pointer (some ⟨B,n.toNat * i.size + 0,none⟩),w,_,σ,φ,?_,hr.put (v:=.one (.rref id n.toNat 0)) hd (.rref hl hp),h⟩
    have hc1 : 0≤n∧n < (m : Int):=⟨hn,hm⟩
    simp [execOp,ho,hux,oZ hr hy,Instr.indexAt,asIntOf,run_underlying hu,hc1,bV hi,fJ]
theorem A3(hT : ba P T){ops : Array Oper}{o : Oper}{rest : List Oper}{st : St}{K : St→Prop}{k b k' b' id lo m : Nat}{t e : TypeId}{z : List D}{x y : Operand}{xs : List (List D)}{ik : IntKind}{n : Int}
  (ho : o.op = .indexAddr t x y) (hg : o.guard = none) (hd : aU c.n o.dst = true) (ht : aW T t = some (e,k',b',z)) (hx : ev st x = some (.one (.sub id lo m))) (hl : look st.sto id = some (.row k b xs)) (hk : Nat.beq k k' = true)
  (hy : ev st y = some (.one (.d (.int ik n)))) (hn : 0≤n) (hm : n < m)
  (h : ae P c ops rest ⟨bt o.dst (.one (.rref id (lo + n.toNat) 0)) st.fr,st.sto⟩ K) : ae P c ops (o::rest) st K :=
 bk hg fun a w σ φ hr=>by
  obtain ⟨i,zv,hu,hi,rfl,_⟩:=dr hT ht
  obtain rfl:=Nat.eq_of_beq_eq_true hk
  have h1 : RepC σ φ st.sto (.sub id lo m) (a.eval x):=aI hr hx
  generalize hux : a.eval x = ux at h1
  cases h1 with
  | dead hxx _=>simp [bG,b5 hl] at hxx
  | sub hl' hn' hc hA =>
    rename_i A c' xs'
    rw [hl] at hl'; cases hl'
    obtain ⟨B,cap,hp,rfl⟩:=hA (by omega)
    refine ⟨.pointer (some ⟨B,(lo + n.toNat) * i.size + 0,none⟩),w,_,σ,φ,?_,hr.put (v:=.one (.rref id (lo + n.toNat) 0)) hd (.rref hl hp),h⟩
    have hc1 : 0≤n∧n < (m : Int):=⟨hn,hm⟩
    simp [execOp,ho,hux,oZ hr hy,Instr.indexAt,asIntOf,run_underlying hu,hc1,bV hi,fJ,Nat.add_mul]
def py(T : Tab)(t : TypeId) : Option (Nat×Nat) :=
 match look T t with
 | some ⟨.array n e,_,_,_⟩=>match look T e with
   | some td=>some (n,td.size)
   | none=>none
 | _=>none
theorem AN(hT : ba P T){t n s : Nat}(h : py T t = some (n,s)) : ∃ (e : TypeId) (i : TypeInfo),P.underlying t = some (.array n e)∧P.info? e = some i∧i.size = s:=by
 unfold py at h
 split at h
 ·rename_i e' _ _ _ h1
  split at h <;> simp at h
  rename_i td h2
  obtain ⟨rfl,rfl⟩:=h
  obtain ⟨_,u,_,_,hu,_,_,_,hk,_⟩:=(hT t _ h1).ex
  simp only [ej] at hk; subst hk
  obtain ⟨i,_,_,hi,_,hs,_⟩:=(hT _ td h2).ex
  exact ⟨_,i,hu,hi,hs⟩
 ·simp at h
theorem A4(hT : ba P T){ops : Array Oper}{o : Oper}{rest : List Oper}{st : St}{K : St→Prop}{m s : Nat}{t : TypeId}{x y : Operand}{ik : IntKind}{n : Int}{v v' : AV}
  (ho : o.op = .indexAddr t x y) (hg : o.guard = none) (hd : aU c.n o.dst = true) (ht : py T t = some (m,s)) (hx : ev st x = some v)
  (hy : ev st y = some (.one (.d (.int ik n)))) (hn : 0≤n) (hm : n < m) (hv : nS st.sto (n.toNat * s) v = some v')
  (h : ae P c ops rest ⟨bt o.dst v' st.fr,st.sto⟩ K) : ae P c ops (o::rest) st K :=
 bk hg fun a w σ φ hr=>by
  obtain ⟨e,i,hu,hi,rfl⟩:=AN hT ht
  obtain ⟨B,off,hux,hv'⟩:=pb hv (aI hr hx)
  refine ⟨.pointer (some ⟨B,off + n.toNat * i.size,none⟩),w,_,σ,φ,?_,hr.put hd hv',h⟩
  have hc1 : 0≤n∧n < (m : Int):=⟨hn,hm⟩
  simp [execOp,ho,hux,oZ hr hy,Instr.indexAt,Instr.sureAddr,asIntOf,run_underlying hu,hc1,bV hi,fJ]
theorem AL{a : Act}{st : St}(hr : Rel c st a w σ φ){x : Operand}{s : List UInt8}(hx : ev st x = some (.one (.d (.str s)))) : a.eval x = .string ⟨s.toArray⟩∧s.length < 2 ^ 48:=by
 have h1:=aI hr hx
 replace h1:=RepC.d_inv h1
 generalize a.eval x = u at h1
 cases h1 with
 | str h=>exact ⟨rfl,h⟩
def gm(T : Tab)(t : TypeId) : Bool:=match look T t with | some ⟨.str,_,_,_⟩=>true | _=>false
theorem rH(hT : ba P T){t : TypeId}(h : gm T t = true) : P.underlying t = some .string:=by
 unfold gm at h
 split at h
 ·rename_i h1
  obtain ⟨_,u,_,_,hu,_,_,_,hk,_⟩:=(hT t _ h1).ex
  simp only [ej] at hk; subst hk; exact hu
 ·simp at h
theorem A5(hT : ba P T){ops : Array Oper}{o : Oper}{rest : List Oper}{st : St}{K : St→Prop}{t : TypeId}{x y : Operand}{ik : IntKind}{n : Int}{s : List UInt8}{b : UInt8}
  (ho : o.op = .index t x y) (hg : o.guard = none) (hd : aU c.n o.dst = true) (ht : gm T t = true) (hx : ev st x = some (.one (.d (.str s))))
  (hy : ev st y = some (.one (.d (.int ik n)))) (hn : 0≤n) (hb : s[n.toNat]? = some b)
  (h : ae P c ops rest ⟨bt o.dst (.one (.d (.int .u8 (b.toNat : Int)))) st.fr,st.sto⟩ K) : ae P c ops (o::rest) st K :=
 bk hg fun a w σ φ hr=>by
  have hu:=rH hT ht
  obtain ⟨hux,_⟩:=AL hr hx
  refine ⟨.int .u8 b.toNat,w,_,σ,φ,?_,hr.put (v:=.one (.d (.int .u8 (b.toNat : Int)))) hd (RepC.d (.int ?_)),h⟩
  ·have hg' : (⟨s.toArray⟩ : ByteArray)[n.toNat]? = some b:=by
    have hlt : n.toNat < s.length:=(List.getElem?_eq_some_iff.1 hb).1
    have hlt' : n.toNat < (⟨s.toArray⟩ : ByteArray).size:=by simpa [ByteArray.size] using hlt
    rw [getElem?_pos (⟨s.toArray⟩ : ByteArray) n.toNat hlt']
    have : s[n.toNat] = b:=(List.getElem?_eq_some_iff.1 hb).2
    rw [← this]; rfl
   simp [execOp,ho,hux,oZ hr hy,Instr.index,asIntOf,run_underlying hu,hn,hg']
  ·have:=b.toNat_lt
   unfold inR IntKind.min IntKind.max
   simp [IntKind.signed,IntKind.bits]; omega
theorem BE(hT : ba P T){ops : Array Oper}{o : Oper}{rest : List Oper}{st : St}{K : St→Prop}{t : TypeId}{x : Operand}{id i off k b s : Nat}{g : Bool}{xs : List (List D)}{el : List D}{v : AV}
  (ho : o.op = .load t x) (hg : o.guard = none) (hd : aU c.n o.dst = true) (ht : jg T t = some (g,s)) (hx : ev st x = some (.one (.rref id i off))) (hl : look st.sto id = some (.row k b xs))
  (hel : xs[i]? = some el) (hv : fC g s ((el.drop off).map .d) = some v)
  (h : ae P c ops rest ⟨bt o.dst v st.fr,st.sto⟩ K) : ae P c ops (o::rest) st K :=
 bk hg fun a w σ φ hr=>by
  have h1 : RepC σ φ st.sto (.rref id i off) (a.eval x):=aI hr hx
  generalize hux : a.eval x = ux at h1
  cases h1 with
  | dead hxx _=>simp [bG,b5 hl] at hxx
  | rref hl' hp =>
    rename_i k' b' B cap xs'
    rw [hl] at hl'; cases hl'
    obtain ⟨arr,ty,us,hh,hsz,hle,_,_,hlk,ha,hcell,_,hul⟩:=(hr.inv.obj _ _ hl).row_cells hp
    have hi : i < xs.length:=(List.getElem?_eq_some_iff.1 hel).1
    have hek:=hlk el (List.mem_of_getElem? hel)
    have hall : All2 (Rep σ) el ((us.drop (i * k)).take k):=by
     refine All2.of_get ?_ fun j d u hd hu=>?_
     ·have : (i + 1) * k≤xs.length * k:=Nat.mul_le_mul_right _ hi
      rw [Nat.succ_mul] at this
      simp [hul,hek]; omega
     ·have hj : j < k:=by rw [← hek]; exact (List.getElem?_eq_some_iff.1 hd).1
      rw [List.getElem?_take,if_pos hj,List.getElem?_drop] at hu
      obtain ⟨u',hu',hru⟩:=ha.get ((eh hlk hel hj).trans hd)
      rw [hu] at hu'; cases hu'; exact hru
    have hmem : jA w B (i * k + off) (((us.drop (i * k)).take k).drop off):=by
     intro j u hu
     rw [List.getElem?_drop,List.getElem?_take] at hu
     split at hu
     ·rw [List.getElem?_drop] at hu
      rw [fZ hh,Nat.add_assoc]
      exact hcell _ _ hu
     ·cases hu
    obtain ⟨u,hu,hru⟩:=kC (φ:=φ) (sto:=st.sto) hT ht hv ((hall.drop off).map_d) hmem
    exact ⟨u,w,_,σ,φ,by simp [execOp,ho,hux,hu],hr.put hd hru,h⟩
end Go.Abs
