import Derived.RangeFuncIn
import Derived.Test.YtpejdgkaapnekaaGreatGP6
set_option linter.unusedVariables false
set_option linter.unusedSimpArgs false
set_option linter.unnecessarySimpa false
set_option maxHeartbeats 1000000
namespace Go.Abs
open Go
variable {P : Program} {c : Ctx} {T : Tab} {σ : Sig} {φ : Pl} {w : World}
def KeyOk(P : Program)(t : TypeId)(kg : Bool)(ks : List KK) : Prop :=
 eS P 6 t = some ks∧P.keyTypeAt 6 t = true∧jB P t = kg∧P.eqGuardType P.depth t = false∧(kg = false→∃ k,ks = [k]∧P.underlying t = some (mQ k))
theorem KeyOk.eok{t : TypeId}{ks : List KK}(h : KeyOk P t true ks) : EOk P t ks:=⟨h.1,h.2.1,h.2.2.1,h.2.2.2.1⟩
theorem Ew{g : Bool}{ds : List D}{v : Value}(h : RepD σ g ds v) : All2 (Rep σ) ds v.cells.toList:=by
 cases g with
 | true =>
   obtain ⟨vs,rfl,h1⟩:=gN h
   simpa [Value.cells] using h1
 | false =>
   obtain ⟨d,rfl,h1⟩:=gO h
   have h2:=h1.oneCell
   have : v.cells.toList = [v]:=by
    cases v <;> first | rfl | simp [Value.oneCell] at h2
   rw [this]
   exact ⟨h1,trivial⟩
theorem pX{t : TypeId}{kg : Bool}{ks : List KK}(h : KeyOk P t kg ks){kd : List D}{kv : Value}(hk : RepD σ kg kd kv)(hf : All2 bw ks kd)(em : Bool)(w : World) : (Instr.checkKey em 10000 t kv).run P w = .ok () w:=by
 obtain ⟨h1,h2,h3,_⟩:=h
 refine run_checkKey_deep em 9994 6 t h2 w 6 kv _ ?_ (ga 6 h1 (Ew hk) hf)
 cases kg with
 | true =>
   obtain ⟨vs,rfl,hr⟩:=gN hk
   have l1:=hr.length
   have l2:=hf.length
   have hs:=jC 6 h1
   unfold jB at h3
   unfold Value.formed
   split at h3 <;> simp_all
 | false =>
   obtain ⟨d,rfl,hr⟩:=gO hk
   unfold jB at h3
   match ks,hf with
   | [k],hf =>
     have hk1:=hf.1
     cases k <;> cases d <;> simp only [bw] at hk1 <;> cases hr <;> simp only [Value.formed] <;> (split <;> simp_all)
theorem rA{t : TypeId}{kg vg : Bool}{ks : List KK}(h : KeyOk P t kg ks){kd : List D}{kv : Value}(hk : RepD σ kg kd kv)(hf : All2 bw ks kd)(w : World){es : List (List D×List D)}{ents : List MapEntry}{n : Nat}
  (hr : RepE σ kg vg n es ents) (hall : ∀ p∈es,All2 bw ks p.1) :
  (cz kd es 0 = none∧(Instr.findKey t kv ents).run P w = .ok none w)∨∃ j e vd,cz kd es 0 = some (j,vd)∧(Instr.findKey t kv ents).run P w = .ok (some (j,e.val)) w∧ents[j]? = some e∧RepD σ vg vd e.val:=by
 cases kg with
 | false =>
   obtain ⟨k,rfl,hu⟩:=h.2.2.2.2 rfl
   obtain ⟨d,rfl,hkr⟩:=gO hk
   rcases rB hkr hf.1 (i:=0) hr hall with ⟨h1,h2⟩ | ⟨j,e,vd,h1,h2,h3,h4⟩
   ·exact .inl ⟨h1,by simp [Instr.findKey,run_underlying hu,h2]⟩
   ·rw [Nat.zero_add] at h1 h2
    exact .inr ⟨j,e,vd,h1,by simp [Instr.findKey,run_underlying hu,h2],h3,h4⟩
 | true =>
   have hE:=h.eok
   have hu : ∃ u,P.underlying t = some u∧cK u = true:=by
    have:=hE.agg
    unfold jB at this
    split at this <;> (try (simp at this; done)) <;> exact ⟨_,by assumption,rfl⟩
   obtain ⟨u,hu,hua⟩:=hu
   have hnow : Instr.findNow u kv ents 0 = some none∧ents = []∨Instr.findNow u kv ents 0 = none:=by
    cases ents with
    | nil=>exact .inl ⟨rfl,rfl⟩
    | cons e r =>
      refine .inr ?_
      have : Instr.sameNow u kv e.key = none:=by cases u <;> simp [cK] at hua <;> rfl
      simp only [Instr.findNow,this]
   rcases nK hE hk hf w (i:=0) hr hall with ⟨h1,h2⟩ | ⟨j,e,vd,h1,h2,h3,h4⟩
   ·refine .inl ⟨h1,?_⟩
    rcases hnow with ⟨hn,_⟩ | hn
    ·simp [Instr.findKey,run_underlying hu,hn]
    ·simp [Instr.findKey,run_underlying hu,hn,h2]
   ·rw [Nat.zero_add] at h1 h2
    refine .inr ⟨j,e,vd,h1,?_,h3,h4⟩
    rcases hnow with ⟨_,rfl⟩ | hn
    ·simp at h3
    ·simp [Instr.findKey,run_underlying hu,hn,h2]
end Go.Abs
namespace Go.Abs
open Go
variable {P : Program} {c : Ctx} {T : Tab} {σ : Sig} {φ : Pl} {w : World}
theorem wI{ops : Array Oper}{o : Oper}{rest : List Oper}{st : St}{K : St→Prop}{d id : Nat}{t : TypeId}(kg vg : Bool)(ho : o.op = .makeMap t none)(hg : o.guard = none)(hdst : o.dst = some d)(hd : (Nat.blt d c.n && Nat.blt id 1000000) = true)
  (hm1 : bn id st.fr = false) (hm2 : aM id st.sto = false)
  (h : ac P c ops rest ⟨(d,.one (.mapr id))::st.fr,(id,.map kg vg [])::st.sto⟩ K) : ac P c ops (o::rest) st K :=
 ba hg fun a w σ φ hr=>by
  have hobj : ObjRep σ (bL φ id (some (w.heap.size,0))) ((id,.map kg vg [])::st.sto) (w.alloc (.map #[] 0)) id (.map kg vg []) :=
   ⟨w.heap.size,0,[],aK,b5 w _,trivial,il hr.inv⟩
  refine ⟨.map (some w.heap.size),w.alloc (.map #[] 0),_,σ,bL φ id (some (w.heap.size,0)),?_,?_,h⟩
  ·simp [execOp,ho,Instr.makeMap]
  rw [hdst]
  simp only [Bool.and_eq_true] at hd
  have hd' : aP c.n (some d) = true:=hd.1
  refine hr.putTo (dst:=some d) (st':=⟨st.fr,(id,.map kg vg [])::st.sto⟩) hd' hr.le hr.fresh (hr.inv.add hm2 hobj) ?_ (hr.fra.alloc _) (fun i hi=>by
   have : i≠id:=by have:=Nat.le_of_ble_eq_true hd.2; omega
   rw [aZ this]; exact hr.pin i hi) (fun _=>RepC.mapr (cap:=0) aI aK) ?_
  ·intro i e p hi hp
   rcases ah hi with ⟨rfl,rfl⟩ | ⟨hne,hi⟩
   ·rw [aK] at hp; cases hp; exact .inl hr.fra.size
   ·rw [aZ hne] at hp; exact hr.mine _ _ _ hi hp
  ·intro s x _ hx
   exact ⟨x,hx,fun z hz=>hz.ext (Sig.le_refl _) Ext.add fun j hj=>by cases hj; exact dy hm1 hx⟩
def Fu(g : Bool)(ds : List D) : Option (Bool×List AC):=match g,ds with
 | true,ds=>some (true,ds.map .d)
 | false,[d]=>some (false,[.d d])
 | _,_=>none
theorem Fv{g : Bool}{ds : List D}{v : Value}{p : Bool×List AC}{sto : Sto}(h : Fu g ds = some p)(hr : RepD σ g ds v) : RepT σ φ sto p v:=by
 unfold Fu at h
 split at h <;> simp at h <;> subst h
 ·obtain ⟨vs,rfl,h1⟩:=gN hr
  refine ⟨vs,rfl,?_⟩
  have : ∀ {ds : List D} {vs : List Value},All2 (Rep σ) ds vs→All2 (RepC σ φ sto) (ds.map .d) vs:=by
   intro ds
   induction ds with
   | nil=>intro vs h; cases vs with
     | nil=>trivial
     | cons _ _=>exact h.elim
   | cons d ds ih=>intro vs h; cases vs with
     | nil=>exact h.elim
     | cons v vs=>exact ⟨.d h.1,ih h.2⟩
  exact this h1
 ·obtain ⟨d,e,h1⟩:=gO hr
  cases e
  exact ⟨.d h1,trivial⟩
end Go.Abs
namespace Go.Abs
open Go
variable {P : Program} {c : Ctx} {T : Tab} {σ : Sig} {φ : Pl} {w : World}
structure MTy where
 kt : TypeId
 et : TypeId
 kg : Bool
 ks : List KK
 vg : Bool
 z : List D
structure MOk (P : Program) (t : TypeId) (m : MTy) : Prop where
 und : P.underlying t = some (.map m.kt m.et)
 key : KeyOk P m.kt m.kg m.ks
 zero : ∃ (i : TypeInfo) (zv : Value),P.info? m.et = some i∧i.zero = some zv∧(∀ σ : Sig,RepD σ m.vg m.z zv)
def kY(g : Bool) : AV→Option (List D)
 | .one (.d d)=>bif g then none else some [d]
 | .agg cs=>bif g then eL cs else none
 | _=>none
theorem pe{g : Bool}{v : AV}{ds : List D}{sto : Sto}(h : kY g v = some ds){u : Value}(hr : RepV σ φ sto v u) : RepD σ g ds u:=by
 unfold kY at h
 split at h
 ·cases g <;> simp at h
  subst h
  exact ⟨RepC.d_inv hr,trivial⟩
 ·cases g <;> simp only [cond_true,cond_false,reduceCtorEq] at h
  obtain rfl:=j5 h
  obtain ⟨vs,rfl,h1⟩:=hr
  exact ⟨vs,rfl,mw h1⟩
 ·simp at h
def fL(ks : List KK) : List (List D×List D)→Bool
 | []=>true
 | p::r=>eR ks p.1 && fL ks r
theorem lE{ks : List KK} : ∀ {es : List (List D×List D)},fL ks es = true→∀ p∈es,All2 bw ks p.1
 | [],_,p,h=>by simp at h
 | q::r,h,p,hp=>by
   simp only [fL,Bool.and_eq_true] at h
   rcases List.mem_cons.1 hp with rfl | hp
   ·exact fc h.1
   ·exact lE h.2 p hp
def QN : Bool×List AC→AV
 | (true,cs)=>.agg cs
 | (false,c::_)=>.one c
 | (false,[])=>.any
def uP(g : Bool)(ds : List D)(b ok : Bool) : Option AV :=
 match Fu g ds with
 | none=>none
 | some p=>some (bif ok then .tup [p,(false,[.d (.bool b)])] else QN p)
def qM(m : MTy)(es : List (List D×List D))(kd : List D)(ok : Bool) : Option AV :=
 match cz kd es 0 with
 | some (_,vd)=>uP m.vg vd true ok
 | none=>uP m.vg m.z false ok
theorem zB{g b ok : Bool}{ds : List D}{v : AV}{sto : Sto}(h : uP g ds b ok = some v){u : Value}(hr : RepD σ g ds u) :
  RepV σ φ sto v (if ok then .tuple #[u,.bool b] else u):=by
 unfold uP at h
 split at h <;> simp at h
 rename_i p hp
 subst h
 have h1 : RepT σ φ sto p u:=Fv hp hr
 cases ok with
 | true=>exact ⟨[u,.bool b],rfl,h1,⟨RepC.d .bool,trivial⟩,trivial⟩
 | false =>
   simp only [cond_false,Bool.false_eq_true,if_false]
   obtain ⟨g',cs⟩:=p
   cases g' with
   | true=>exact h1
   | false =>
     match cs,h1 with
     | [c],h1=>exact h1.1
     | [],h1=>exact h1.elim
     | _::_::_,h1=>exact h1.2.elim
theorem Bg{st : St}{a : Act}(hr : Rel c st a w σ φ){x : Operand}{id : Nat}{kg vg : Bool}{es : List (List D×List D)}(hx : ev st x = some (.one (.mapr id)))(hl : look st.sto id = some (.map kg vg es)) :
  ∃ (B cap : Nat) (ents : List MapEntry),a.eval x = .map (some B)∧φ id = some (B,cap)∧w.heap[B]? = some (.map ents.toArray es.length)∧RepE σ kg vg 0 es ents∧σ B = none:=by
 have h1 : RepC σ φ st.sto (.mapr id) (a.eval x):=aC hr hx
 generalize hux : a.eval x = ux at h1
 cases h1 with
 | dead hxx _=>simp [bx,bP hl] at hxx
 | mapr hl' hp =>
   rename_i B cap kg' vg' es'
   rw [hl] at hl'; cases hl'
   obtain ⟨B',c',ents,hp',hh,he,hσ⟩:=hr.inv.obj _ _ hl
   rw [hp] at hp'; cases hp'
   exact ⟨B,cap,ents,rfl,hp,hh,he,hσ⟩
theorem pW{ops : Array Oper}{o : Oper}{rest : List Oper}{st : St}{K : St→Prop}{t : TypeId}{m : MTy}{x y : Operand}{ok : Bool}{id : Nat}{es : List (List D×List D)}{ky v : AV}{kd : List D}(hM : MOk P t m)
  (ho : o.op = .lookup t x y ok) (hg : o.guard = none) (hd : aP c.n o.dst = true) (hx : ev st x = some (.one (.mapr id))) (hl : look st.sto id = some (.map m.kg m.vg es))
  (hy : ev st y = some ky) (hk : kY m.kg ky = some kd) (hf : eR m.ks kd = true) (hall : fL m.ks es = true) (hv : qM m es kd ok = some v)
  (h : ac P c ops rest ⟨bj o.dst v st.fr,st.sto⟩ K) : ac P c ops (o::rest) st K :=
 ba hg fun a w σ φ hr=>by
  obtain ⟨B,cap,ents,hux,hp,hh,he,hσ⟩:=Bg hr hx hl
  have hkr:=pe hk (aC hr hy)
  have hchk:=fun em=>pX hM.key hkr (fc hf) em w
  have hget:=MapKept.run_getObj_map (P:=P) hh
  obtain ⟨i,zv,hi,hz,hzr⟩:=hM.zero
  have hfin : ∃ u,(execOp a.eval o).run P w = .ok (.value u) w∧RepV σ φ st.sto v u:=by
   rcases rA hM.key hkr (fc hf) w he (lE hall) with ⟨h1,h2⟩ | ⟨j,e,vd,h1,h2,h3,h4⟩
   ·simp only [qM,h1] at hv
    refine ⟨_,?_,zB hv (hzr σ)⟩
    simp only [execOp,ho,hux,Instr.lookup,Sem.run_bind,run_underlying hM.und,Result.andThen_ok,hget,Sem.run_pure,hchk,h2,d6 hi hz]
   ·simp only [qM,h1] at hv
    refine ⟨_,?_,zB hv h4⟩
    simp only [execOp,ho,hux,Instr.lookup,Sem.run_bind,run_underlying hM.und,Result.andThen_ok,hget,Sem.run_pure,hchk,h2]
  obtain ⟨u,hrun,hru⟩:=hfin
  exact ⟨u,w,_,σ,φ,hrun,hr.put hd hru,h⟩
def gx(kd vd : List D) : List (List D×List D)→List (List D×List D)
 | []=>[(kd,vd)]
 | p::r=>bif cb kd p.1 then (p.1,vd)::r else p::gx kd vd r
theorem IN{g : Bool}{ks : List KK}{ds es : List D}{v u : Value}(hf : All2 bw ks ds)(he : All2 bw ks es)(hv : RepD σ g ds v)(hu : RepD σ g es u)(h : cb ds es = true) : v = u:=by
 cases g with
 | true =>
   obtain ⟨vs,rfl,h1⟩:=gN hv
   obtain ⟨us,rfl,h2⟩:=gN hu
   rw [(vZ hf he h1 h2).1 h]
 | false =>
   obtain ⟨d,rfl,h1⟩:=gO hv
   obtain ⟨e,rfl,h2⟩:=gO hu
   match ks,hf,he with
   | [k],hf,he =>
     simp only [cb,Bool.and_true] at h
     exact (yp hf.1 he.1 h1 h2).1 h
theorem qr{k : KK}{d : D}{v : Value}(n : Nat)(hf : bw k d)(hv : Rep σ d v) : Instr.sameBits n v v = true:=by
 cases k <;> cases d <;> simp only [bw] at hf <;> cases hv <;> cases n <;> simp [Instr.sameBits,MapKept.bytes_beq]
theorem wO{ks : List KK}(n : Nat) : ∀ {ds : List D} {vs : List Value},All2 bw ks ds→All2 (Rep σ) ds vs→((vs.zip vs).all fun (x,y)=>Instr.sameBits n x y) = true:=by
 induction ks with
 | nil =>
   intro ds vs h1 h2
   match ds,vs,h1,h2 with
   | [],[],_,_=>rfl
 | cons k ks ih =>
   intro ds vs h1 h2
   match ds,vs,h1,h2 with
   | d::ds,v::vs,h1,h2 =>
     simp only [List.zip_cons_cons,List.all_cons,qr n h1.1 h2.1,Bool.true_and]
     exact ih h1.2 h2.2
theorem wP{g : Bool}{ks : List KK}{ds : List D}{v : Value}(hf : All2 bw ks ds)(hv : RepD σ g ds v) : Instr.sameBits 10000 v v = true:=by
 cases g with
 | true =>
   obtain ⟨vs,rfl,h1⟩:=gN hv
   simp only [Instr.sameBits,beq_self_eq_true,Bool.true_and]
   exact wO 9999 hf h1
 | false =>
   obtain ⟨d,rfl,h1⟩:=gO hv
   match ks,hf with
   | [k],hf=>exact qr _ hf.1 h1
theorem wy{kg vg : Bool}{kd vd : List D}{kv vv : Value}(hk : RepD σ kg kd kv)(hv : RepD σ vg vd vv) : ∀ {n i : Nat} {es : List (List D×List D)} {ents : List MapEntry},RepE σ kg vg n es ents→cz kd es i = none →
  RepE σ kg vg n (gx kd vd es) (ents ++ [{ key:=kv,val:=vv,born:=n + es.length }])
 | _,_,[],[],_,_=>⟨hk,hv,by simp,trivial⟩
 | n,i,p::es,e::ents,h,hf=>by
   simp only [cz] at hf
   cases hb : cb kd p.1 with
   | true=>simp [hb] at hf
   | false =>
     simp only [hb,cond_false] at hf
     have ih:=wy hk hv (n:=n + 1) h.2.2.2 hf
     simp only [gx,hb,cond_false,List.cons_append,List.length_cons]
     rw [show n + (es.length + 1) = n + 1 + es.length by omega]
     exact ⟨h.1,h.2.1,h.2.2.1,ih⟩
 | _,_,[],_::_,h,_=>h.elim
 | _,_,_::_,[],h,_=>h.elim
theorem zC{kd : List D} : ∀ {es : List (List D×List D)} {i p : Nat} {v : List D},cz kd es i = some (p,v)→i≤p
 | [],_,_,_,h=>by simp [cz] at h
 | q::r,i,p,v,h=>by
   simp only [cz] at h
   cases hb : cb kd q.1 with
   | true=>simp [hb] at h; omega
   | false=>simp only [hb,cond_false] at h; have:=zC h; omega
theorem wz{kg vg : Bool}{ks : List KK}{kd vd : List D}{kv vv : Value}(hfk : All2 bw ks kd)(hk : RepD σ kg kd kv)(hv : RepD σ vg vd vv) : ∀ {n i j : Nat} {es : List (List D×List D)} {ents : List MapEntry} {v0 : List D},RepE σ kg vg n es ents →
  (∀ p∈es,All2 bw ks p.1)→cz kd es i = some (i + j,v0)→∃ e,ents[j]? = some e∧e.key = kv∧RepE σ kg vg n (gx kd vd es) (ents.modify j fun e=>{ e with key:=kv,val:=vv })
 | _,_,_,[],[],_,_,_,hf=>by simp [cz] at hf
 | n,i,j,p::es,e::ents,v0,h,hall,hf=>by
   simp only [cz] at hf
   cases hb : cb kd p.1 with
   | true =>
     simp only [hb,cond_true,Option.some.injEq,Prod.mk.injEq] at hf
     obtain rfl : j = 0:=by omega
     have hke:=IN hfk (hall p List.mem_cons_self) hk h.1 hb
     refine ⟨e,rfl,hke.symm,?_⟩
     simp only [gx,hb,cond_true,List.modify_zero_cons]
     exact ⟨by rw [hke]; exact h.1,hv,h.2.2.1,h.2.2.2⟩
   | false =>
     simp only [hb,cond_false] at hf
     have hge:=zC hf
     obtain ⟨j,rfl⟩ : ∃ j',j = j' + 1:=⟨j - 1,by omega⟩
     obtain ⟨e',h1,h2,h3⟩:=wz hfk hk hv (n:=n + 1) (i:=i + 1) (j:=j) h.2.2.2 (fun q hq=>hall q (List.mem_cons_of_mem _ hq)) (by rw [hf]; congr 2; omega)
     refine ⟨e',by simpa using h1,h2,?_⟩
     simp only [gx,hb,cond_false,List.modify_succ_cons]
     exact ⟨h.1,h.2.1,h.2.2.1,h3⟩
 | _,_,_,[],_::_,_,h,_,_=>h.elim
 | _,_,_,_::_,[],_,h,_,_=>h.elim
theorem sM{kd vd : List D} : ∀ {es : List (List D×List D)} {i : Nat},(cz kd es i = none→(gx kd vd es).length = es.length + 1)∧(cz kd es i≠none→(gx kd vd es).length = es.length)
 | [],i=>by simp [cz,gx]
 | p::r,i=>by
   have ih:=sM (kd:=kd) (vd:=vd) (es:=r) (i:=i + 1)
   simp only [cz,gx]
   cases hb : cb kd p.1 with
   | true=>simp
   | false =>
     simp only [cond_false,List.length_cons]
     exact ⟨fun h=>by rw [ih.1 h],fun h=>by rw [ih.2 h]⟩
theorem Rel.writeO{st : St}{a : Act}{w' : World}(h : Rel c st a w σ φ){id B cap : Nat}{o o' : AObj}(hl : look st.sto id = some o)(hp : φ id = some (B,cap))
  (hw : ∀ b,b≠B→w'.heap[b]? = w.heap[b]?) (hsz : w.heap.size≤w'.heap.size∧w.drawn≤w'.drawn) (hos : w'.os = w.os) (htape : w'.tape = w.tape) (hout : w'.output = w.output)
  (hc : compat o o') (hobj : ObjRep σ φ ((id,o')::st.sto) w' id o') :
  ∃ σ' φ',Rel c ⟨st.fr,bH id o' st.sto⟩ a w' σ' φ':=by
 have hE : Ext (fun _=>False) φ φ st.sto ((id,o')::st.sto):=Ext.upd hl hc
 have hm:=h.mine _ _ _ hl hp
 have h1 : Rel c ⟨st.fr,(id,o')::st.sto⟩ a w' σ φ:=by
  refine ⟨h.le,h.fresh,h.inv.set hl hp ((h.inv.obj _ _ hl).sig hp) hw hc hobj,fun i e p hi hpi=>?_,fun s v hv=>?_,h.defers,h.size,?_,h.pin⟩
  ·rcases ah hi with ⟨rfl,rfl⟩ | ⟨_,hi⟩
   ·rw [hp] at hpi; cases hpi; exact hm
   ·exact h.mine _ _ _ hi hpi
  ·obtain ⟨u,hu,hru⟩:=h.slot s v hv
   exact ⟨u,hu,hru.ext (Sig.le_refl _) hE fun j hj=>by cases hj⟩
  ·refine ⟨hos.trans h.fra.os,htape.trans h.fra.tape,hout.trans h.fra.output,Nat.le_trans h.fra.size hsz.1,Nat.le_trans h.fra.drawn hsz.2,fun b hb hM=>?_⟩
   have : b≠B:=by
    rintro rfl
    rcases hm with hm | hm
    ·simp only at hm; omega
    ·exact hM hm
   rw [hw b this]
   exact h.fra.block b hb hM
 exact nB (fun i=>ci) a _ σ φ h1
theorem mP{ops : Array Oper}{o : Oper}{rest : List Oper}{st : St}{K : St→Prop}{t : TypeId}{m : MTy}{x y z : Operand}{id : Nat}{es : List (List D×List D)}{ky vl : AV}{kd vd : List D}(hM : MOk P t m)
  (ho : o.op = .mapUpdate t x y z) (hg : o.guard = none) (hdst : o.dst = none) (hx : ev st x = some (.one (.mapr id))) (hl : look st.sto id = some (.map m.kg m.vg es))
  (hy : ev st y = some ky) (hk : kY m.kg ky = some kd) (hf : eR m.ks kd = true) (hall : fL m.ks es = true) (hz : ev st z = some vl) (hv : kY m.vg vl = some vd)
  (h : ac P c ops rest ⟨st.fr,bH id (.map m.kg m.vg (gx kd vd es)) st.sto⟩ K) : ac P c ops (o::rest) st K:=by
 refine ov hg fun a w σ φ hr=>?_
 obtain ⟨B,cap,ents,hux,hp,hh,he,hσ⟩:=Bg hr hx hl
 have hkr:=pe hk (aC hr hy)
 have hvr:=pe hv (aC hr hz)
 have hchk:=fun em=>pX hM.key hkr (fc hf) em w
 have hget:=MapKept.run_getObj_map (P:=P) hh
 have hset:=fun o=>MapKept.run_setObj_map (P:=P) o hh
 have hlt : B < w.heap.size:=(Array.getElem?_eq_some_iff.1 hh).1
 have fin : ∀ (ents' : List MapEntry),RepE σ m.kg m.vg 0 (gx kd vd es) ents' →
   ∃ σ' φ',Rel c ⟨st.fr,bH id (.map m.kg m.vg (gx kd vd es)) st.sto⟩ a { w with heap:=w.heap.setIfInBounds B (.map ents'.toArray (gx kd vd es).length) } σ' φ':=by
  intro ents' he'
  refine hr.writeO (o':=.map m.kg m.vg (gx kd vd es)) hl hp (fun b hb=>?_) (by simp) rfl rfl rfl ⟨rfl,rfl⟩ ⟨B,cap,ents',hp,?_,he',hσ⟩
  ·simp [Array.getElem?_setIfInBounds_ne (fun e=>hb e.symm)]
  ·simp [hlt]
 rcases rA hM.key hkr (fc hf) w he (lE hall) with ⟨h1,h2⟩ | ⟨j,e,vd0,h1,h2,h3,h4⟩
 ·have he':=wy hkr hvr he h1
  rw [Nat.zero_add] at he'
  obtain ⟨σ',φ',hr'⟩:=fin _ he'
  refine ⟨_,_,σ',φ',?_,by rw [hdst]; exact hr',h⟩
  have hlen:=(sM (kd:=kd) (vd:=vd) (es:=es) (i:=0)).1 h1
  simp only [execOp,ho,hux,Instr.mapUpdate,Sem.run_bind,run_underlying hM.und,Result.andThen_ok,hget,Sem.run_pure,hchk,h2,hset,hlen,List.push_toArray]
 ·obtain ⟨e',h5,h6,h7⟩:=wz (fc hf) hkr hvr (i:=0) (j:=j) he (lE hall) (by rw [Nat.zero_add]; exact h1)
  rw [h3] at h5; cases h5
  obtain ⟨σ',φ',hr'⟩:=fin _ h7
  refine ⟨_,_,σ',φ',?_,by rw [hdst]; exact hr',h⟩
  have hlen:=(sM (kd:=kd) (vd:=vd) (es:=es) (i:=0)).2 (by rw [h1]; simp)
  have hold : ((ents[j]?.map (·.key)).getD (a.eval y)) = a.eval y:=by rw [h3]; simp [h6]
  have hks : (Instr.keyThatStays (a.eval y) (a.eval y)).run P w = .ok (a.eval y) w:=by
   unfold Instr.keyThatStays
   simp [wP (fc hf) hkr]
  simp only [execOp,ho,hux,Instr.mapUpdate,Sem.run_bind,run_underlying hM.und,Result.andThen_ok,hget,Sem.run_pure,hchk,h2,hset,hlen,List.getElem?_toArray,hold,hks,List.modify_toArray]
end Go.Abs
namespace Go.Abs
open Go
variable {P : Program} {c : Ctx} {T : Tab} {σ : Sig} {φ : Pl} {sto : Sto} {w : World}
structure YieldA (P : Program) (id : Nat) (args : List AV) (sto : Sto) (rav : AV) (rsto : Sto) : Prop where
 run : ∀ (w : World) (σ : Sig) (φ : Pl) (vs : List Value) (B cp : Nat),HInv σ φ sto w→φ id = some (B,cp)→All2 (RepV σ φ sto) args vs →
  ∃ fn tmps assign body,(Instr.yield B vs.toArray).run P w = .ok (.round B fn tmps assign body) w ∧
    RoundIn Fence.wide 0 P B fn tmps assign body w fun e w'=>∃ v σ' φ',e = .returned v∧RetP rav rsto w σ φ (MOf φ sto) v w' σ' φ'
theorem gK{c : Ctx}(h : c.rd = none) : fnc c = Fence.wide:=by
 unfold fnc; rw [h]; rfl
theorem wc{a : Act}{o : Oper}{fop : Operand}{args : Array Operand}{ats : Array TypeId}{B : Nat}{nx : Next}(ho : o.op = .call { callee:=.value fop,args:=args,argTypes:=ats })
  (hf : a.eval fop = .func (.yield B) #[] #[]) (h : (Instr.yield B (args.toList.map a.eval).toArray).run P w = .ok nx w) : (execOp a.eval o).run P w = .ok nx w:=by
 have e : (#[] ++ args.map a.eval) = (args.toList.map a.eval).toArray:=by
  apply Array.ext'; simp
 simp only [execOp,ho,resolve,Deferred.ofValue,hf,invoke,Sem.run_bind,Sem.run_pure,Result.andThen_ok]
 rw [e,h]
theorem zM{ops : Array Oper}{o : Oper}{rest : List Oper}{st : St}{K : St→Prop}{fop : Operand}{args : Array Operand}{ats : Array TypeId}{i jd : Nat}{cargs : List AV}{cs rs : Sto}{rav : AV}(k : Nat)(ρ : List (Nat×Nat))
  (hrd : c.rd = none) (ho : o.op = .call { callee:=.value fop,args:=args,argTypes:=ats }) (hg : o.guard = none) (hd : aP c.n o.dst = true) (hf : ev st fop = some (.one (.yl i))) (hj : look ρ jd = some i)
  (ha : evL st args.toList = some (cJ (rn k ρ) cargs)) (hY : YieldA P jd cargs cs rav rs) (hpass : Pass st (rn k ρ) ρ cs) (hcomp : CompatL st (rn k ρ) ρ rs)
  (hk : (fb ρ && iC ρ && fU cs ρ && fB ρ && cw ρ rs && da cs cargs && bd cs cs && cX rs rav && bd rs rs && Nat.ble (k + 16) 1000000) = true) (hfresh : jL k st)
  (h : ac P c ops rest ⟨bj o.dst (dr (rn k ρ) rav) st.fr,dC (rn k ρ) (fA ρ st.sto) rs⟩ K) : ac P c ops (o::rest) st K:=by
 intro a w σ φ Q hr hQ
 have hk':=hk
 simp only [Bool.and_eq_true,Nat.ble_eq] at hk'
 obtain ⟨⟨⟨⟨⟨⟨⟨⟨⟨hbig,hinj⟩,hall⟩,hnd⟩,hko⟩,hai⟩,hci⟩,hri⟩,hrs⟩,hkl⟩:=hk'
 obtain ⟨oj,hoj⟩:=gM (tL hall hj)
 obtain ⟨i',h1,h2⟩:=hpass.look hoj
 rw [hj] at h1; cases h1
 have hfr : RepC σ φ st.sto (.yl i) (a.eval fop):=aC hr hf
 generalize hfe : a.eval fop = fv at hfr
 cases hfr with
 | dead hxx _=>simp [bx,bP h2] at hxx
 | yl hl hp =>
   rename_i B cap li fr s p
   obtain ⟨fn,tmps,assign,body,hy,hR⟩:=hY.run w σ (phC φ ρ) _ B cap (yO hbig hinj hpass hci hr.inv) ((eD hj).trans hp) (unL hbig hpass hai (gm hr ha))
   refine wpListIn_plain hg fun K' hK=>⟨fun f _=>gR c f,?_⟩
   rw [jg (by simp) (wc ho hfe hy),Oper.uponIn_round,gK hrd]
   refine ⟨fun h=>by simp [Fence.wide] at h,hR.mono fun e w' he=>?_⟩
   obtain ⟨v,σ',φ',rfl,hret⟩:=he
   obtain ⟨σ2,φ2,h3,_⟩:=uT k ρ hr hd hpass hcomp hk hfresh hret
   exact hK _ _ (h _ _ _ _ _ h3 hQ)
end Go.Abs
namespace Go.Abs
open Go
variable {P : Program} {c : Ctx} {T : Tab} {σ : Sig} {φ : Pl} {sto : Sto} {w : World}
def fE : List Nat→List AV→List (Nat×AV)→List (Nat×AV)
 | p::ps,v::vs,fr=>fE ps vs ((p,v)::fr)
 | _,_,fr=>fr
def iM(n : Nat) : List Nat→Bool
 | []=>true
 | p::r=>Nat.blt p n && iM n r
theorem px : ∀ {ps : List Nat} {args : List AV} {fr : List (Nat×AV)} {vs : List Value} {tmps : Array Value},iM tmps.size ps = true→All2 (RepV σ φ sto) args vs→ps.length = vs.length →
  (∀ s v,look fr s = some v→∃ u,tmps[s]? = some u∧RepV σ φ sto v u) →
  ((ps.zip vs).foldl (fun (t : Array Value) (p : Nat×Value)=>t.setIfInBounds p.1 p.2) tmps).size = tmps.size ∧
  ∀ s v,look (fE ps args fr) s = some v→∃ u,((ps.zip vs).foldl (fun (t : Array Value) (p : Nat×Value)=>t.setIfInBounds p.1 p.2) tmps)[s]? = some u∧RepV σ φ sto v u
 | [],args,fr,vs,tmps,_,_,_,h=>⟨by simp,by
   intro s v hv
   have : fE [] args fr = fr:=by cases args <;> rfl
   rw [this] at hv
   simpa using h s v hv⟩
 | p::ps,a::args,fr,v::vs,tmps,hb,ha,hl,h=>by
   simp only [iM,Bool.and_eq_true,Nat.blt_eq] at hb
   simp only [List.zip_cons_cons,List.foldl_cons,fE]
   have ih:=px (ps:=ps) (args:=args) (fr:=(p,a)::fr) (vs:=vs) (tmps:=tmps.setIfInBounds p v) (by simpa using hb.2) ha.2 (by simpa using hl) (by
    intro s x hx
    rcases ah hx with ⟨rfl,rfl⟩ | ⟨hne,hx⟩
    ·exact ⟨v,by simp [hb.1],ha.1⟩
    ·obtain ⟨u,hu,hru⟩:=h s x hx
     exact ⟨u,by rw [Array.getElem?_setIfInBounds_ne (fun e=>hne e.symm)]; exact hu,hru⟩)
   exact ⟨by rw [ih.1]; simp,ih.2⟩
 | _::_,[],_,_::_,_,_,ha,_,_=>ha.elim
 | _::_,_::_,_,[],_,_,ha,_,_=>ha.elim
 | _::_,[],_,[],_,_,_,hl,_=>by simp at hl
theorem q9{ps : Array Nat}{vs : List Value}{tmps : Array Value} :
  (ps.zip vs.toArray).foldl (fun (t : Array Value) (p : Nat×Value)=>t.setIfInBounds p.1 p.2) tmps = (ps.toList.zip vs).foldl (fun (t : Array Value) (p : Nat×Value)=>t.setIfInBounds p.1 p.2) tmps:=by
 rw [← Array.foldl_toList,Array.toList_zip]
theorem Rel.retP{w : World}{σ : Sig}{φ : Pl}{sto : Sto}{n : Nat}{rd : Option Nat}{mk : List Deferred}{st' : St}{a' : Act}{w' : World}{σ' : Sig}{φ' : Pl}{rav : AV}{rsto : Sto}{u : Value}
  (hr : Rel ⟨w,σ,φ,MOf φ sto,n,rd,mk⟩ st' a' w' σ' φ') (hru : RepV σ' φ' st'.sto rav u) (hsub : SubL st'.sto rsto) : RetP rav rsto w σ φ (MOf φ sto) u w' σ' φ' :=
 ⟨hr.le,hr.fresh,⟨hr.inv.sig,fun i e hi=>(hr.inv.obj _ _ (hsub.look hi)).ext (X:=fun _=>False) (Sig.le_refl _) (Ext.sub hsub) (fun j hj=>hj.elim) rfl fun _ _ _=>⟨rfl,rfl⟩,
  fun i i' e e' p p' hi hi'=>hr.inv.inj _ _ _ _ _ _ (hsub.look hi) (hsub.look hi')⟩,hru.ext (Sig.le_refl _) (Ext.sub hsub) (fun j hj=>hj.elim),
  fun i e p hi hp=>hr.mine _ _ _ (hsub.look hi) hp,hr.pin,⟨hr.fra.os,hr.fra.tape,hr.fra.output,hr.fra.size,hr.fra.drawn,hr.fra.block⟩⟩
def xx : Exit→Option Code
 | .ret=>some .ret
 | .exit id=>some (.exit id)
 | _=>none
def cx(id : Nat)(rav : AV)(rsto : Sto)(e : Exit)(st : St) : Prop :=
 ∃ li fr p,look st.sto id = some (.loop li fr .busy p) ∧
   ((e = .normal∧rav = .one (.d (.bool true))∧SubL (bH id (.loop li fr .ready none) st.sto) rsto) ∨
    (∃ j,xx e = some j∧rav = .one (.d (.bool false))∧SubL (bH id (.loop li fr .done (some j)) st.sto) rsto))
theorem rY{st : St}{a : Act}(hr : Rel c st a w σ φ){id B cp : Nat}{li : LI}{fr : List (Nat×AV)}{s : LoopState}{p : Option Code}(hl : look st.sto id = some (.loop li fr s p))(hp : φ id = some (B,cp)) :
  ∃ r : Loop,w.heap[B]? = some (.loop r)∧(r.state = s∧r.pending = p∧r.params = li.params∧r.assign = li.assign∧r.body = li.body∧r.tmps.size = li.n):=by
 obtain ⟨B',c',r,h1,h2,h3,_⟩:=hr.inv.obj _ _ hl
 rw [hp] at h1; cases h1
 exact ⟨r,h2,h3⟩
theorem Rel.mark{st : St}{a : Act}(hr : Rel c st a w σ φ){id B cp : Nat}{li : LI}{fr : List (Nat×AV)}{s : LoopState}{p : Option Code}(hl : look st.sto id = some (.loop li fr s p))(hp : φ id = some (B,cp))
  {r : Loop} (hh : w.heap[B]? = some (.loop r)) (s' : LoopState) (p' : Option Code) (r' : Loop) (hr' : r' = { r with state:=s',pending:=p' }) :
  ∃ σ' φ',Rel c ⟨st.fr,bH id (.loop li fr s' p') st.sto⟩ a { w with heap:=w.heap.setIfInBounds B (.loop r') } σ' φ':=by
 subst hr'
 obtain ⟨B',c',r0,h1,h2,⟨h3,h4,h6,h7,h8,h9⟩,h10,h11⟩:=hr.inv.obj _ _ hl
 rw [hp] at h1; cases h1
 rw [hh] at h2; cases h2
 have hlt : B < w.heap.size:=(Array.getElem?_eq_some_iff.1 hh).1
 have hE : Ext (fun _=>False) φ φ st.sto ((id,.loop li fr s' p')::st.sto):=Ext.upd hl trivial
 refine hr.writeO (o':=.loop li fr s' p') hl hp (fun b hb=>?_) (by simp) rfl rfl rfl trivial ⟨B,cp,{ r with state:=s',pending:=p' },hp,?_,⟨rfl,rfl,h6,h7,h8,h9⟩,fun s v hv=>?_,h11⟩
 ·simp [Array.getElem?_setIfInBounds_ne (fun e=>hb e.symm)]
 ·simp [hlt]
 ·obtain ⟨u,hu,hru⟩:=h10 s v hv
  exact ⟨u,hu,hru.ext (Sig.le_refl _) hE fun j hj=>hj.elim⟩
theorem kB{B : Nat}{r : Loop}(h : w.heap[B]? = some (.loop r)) : (Instr.getLoop B).run P w = .ok r w:=by
 simp [Instr.getLoop,getObj,Sem.run,h]
theorem mY{B : Nat}{r : Loop}(h : w.heap[B]? = some (.loop r))(o : Obj) : (setObj B o).run P w = .ok () { w with heap:=w.heap.setIfInBounds B o }:=by
 simp [setObj,Sem.run,h]
theorem pq{id : Nat}{li : LI}{fr : List (Nat×AV)}{args : List AV}{sto : Sto}{rav : AV}{rsto : Sto}(hid : Pin id)(hl : look sto id = some (.loop li fr .ready none))
  (hps : (iM li.n li.params.toList && Nat.beq li.params.toList.length args.length) = true)
  (h : ∀ (w0 : World) (σ0 : Sig) (φ0 : Pl) (M : Nat→Prop) (B : Nat),OkC P ⟨w0,σ0,φ0,M,li.n,some B,[]⟩ li.assign ⟨fE li.params.toList args fr,sto⟩
   (fun e st1=>e = .normal∧∃ li1 fr1,look st1.sto id = some (.loop li1 fr1 .ready none) ∧
    OkC P ⟨w0,σ0,φ0,M,li.n,some B,[]⟩ li.body ⟨st1.fr,bH id (.loop li1 fr1 .busy none) st1.sto⟩ (cx id rav rsto))) : YieldA P id args sto rav rsto:=by
 refine ⟨fun w σ φ vs B cp hinv hp hargs=>?_⟩
 simp only [Bool.and_eq_true] at hps
 have hlen:=hargs.length
 have hpl:=Nat.eq_of_beq_eq_true hps.2
 obtain ⟨B',c',r,h1,h2,⟨h3,h4,h6,h7,h8,h9⟩,h10,h11⟩:=hinv.obj _ _ hl
 rw [hp] at h1; cases h1
 have hslot:=px (σ:=σ) (φ:=φ) (sto:=sto) (ps:=li.params.toList) (args:=args) (fr:=fr) (vs:=vs) (tmps:=r.tmps) (by rw [h9]; exact hps.1) hargs (by omega) h10
 refine ⟨r.fn,(r.params.zip vs.toArray).foldl (fun tmps (t,a)=>tmps.setIfInBounds t a) r.tmps,r.assign,r.body,?_,?_⟩
 ·have : ¬ (vs.toArray.size≠r.params.size):=by
   rw [h6]; simp; rw [← hlen,← hpl]; simp
  simp only [Instr.yield,Sem.run_bind,kB h2,Result.andThen_ok,if_neg this,Sem.run_pure]
 refine roundIn_of_wpIn trivial ?_
 rw [h7,h8]
 have e0 : ((r.params.zip vs.toArray).foldl (fun tmps (t,a)=>tmps.setIfInBounds t a) r.tmps) = (li.params.toList.zip vs).foldl (fun (t : Array Value) (p : Nat×Value)=>t.setIfInBounds p.1 p.2) r.tmps:=by
  rw [h6]; exact q9
 rw [e0]
 have hrel : Rel ⟨w,σ,φ,MOf φ sto,li.n,some B,[]⟩ ⟨fE li.params.toList args fr,sto⟩ { tmps:=(li.params.toList.zip vs).foldl (fun (t : Array Value) (p : Nat×Value)=>t.setIfInBounds p.1 p.2) r.tmps,defers:=[] } w σ φ :=
  ⟨Sig.le_refl _,fun b hb=>.inl hb,hinv,fun id e p hi hp=>.inr ⟨id,e,p,hi,hp,rfl⟩,hslot.2,rfl,hslot.1.trans h9,⟨rfl,rfl,rfl,Nat.le_refl _,Nat.le_refl _,fun _ _ _=>rfl⟩,fun _ _=>rfl⟩
 refine wpIn_mono (h w σ φ (MOf φ sto) B _ _ _ _ hrel) ?_
 rintro e a1 w1 ⟨st1,σ1,φ1,⟨rfl,li1,fr1,hl1,hbody⟩,hrE⟩
 have hr1:=hrE.rel (by simp)
 have hp1 : φ1 id = some (B,cp):=(hr1.pin id hid).trans hp
 obtain ⟨r1,hh1,hs1⟩:=rY hr1 hl1 hp1
 obtain ⟨σ2,φ2,hr2⟩:=hr1.mark hl1 hp1 hh1 .busy none { r1 with state:=.busy } (by rw [← hs1.2.1])
 refine ⟨_,?_,wpIn_mono (hbody _ _ _ _ hr2) ?_⟩
 ·simp only [Instr.beginRound,Sem.run_bind,kB hh1,Result.andThen_ok,mY hh1,hs1.1,Sem.run_pure]
 rintro e a2 w2 ⟨st2,σ3,φ3,⟨li2,fr2,p2,hl2,hq⟩,hrE2⟩
 have fin : ∀ {a2 : Act} {s' : LoopState} {p' : Option Code} {b : Bool},Rel ⟨w,σ,φ,MOf φ sto,li.n,some B,[]⟩ st2 a2 w2 σ3 φ3→rav = .one (.d (.bool b))→SubL (bH id (.loop li2 fr2 s' p') st2.sto) rsto→(s' = if p'.isNone then .ready else .done)→b = p'.isNone →
   ∃ v w',(Instr.endRound B p').run P w2 = .ok v w'∧∃ v' σ' φ',Ending.returned v = .returned v'∧RetP rav rsto w σ φ (MOf φ sto) v' w' σ' φ':=by
  intro a2 s' p' b hr3 hrav hsub hs' hb
  have hp3 : φ3 id = some (B,cp):=(hr3.pin id hid).trans hp
  obtain ⟨r3,hh3,hs3⟩:=rY hr3 hl2 hp3
  obtain ⟨σ4,φ4,hr4⟩:=hr3.mark hl2 hp3 hh3 s' p' { r3 with state:=s',pending:=p' } rfl
  refine ⟨.bool b,_,?_,.bool b,σ4,φ4,rfl,hr4.retP (by rw [hrav]; exact RepC.d .bool) hsub⟩
  subst hs' hb
  simp only [Instr.endRound,Sem.run_bind,kB hh3,Result.andThen_ok,mY hh3,Sem.run_pure]
 rcases hq with ⟨rfl,hrav,hsub⟩ | ⟨j,hj,hrav,hsub⟩
 ·exact fin (hrE2.rel (by simp)) hrav hsub rfl rfl
 ·have hr3 : ∃ a2,Rel ⟨w,σ,φ,MOf φ sto,li.n,some B,[]⟩ st2 a2 w2 σ3 φ3:=by
   rcases hrE2 with h | ⟨_,_,_,_,_,h⟩
   ·exact ⟨_,h⟩
   ·exact ⟨_,h⟩
  obtain ⟨a3,hr3⟩:=hr3
  cases e <;> simp only [xx,Option.some.injEq,reduceCtorEq] at hj <;> subst hj
  ·exact fin hr3 hrav hsub rfl rfl
  ·exact fin hr3 hrav hsub rfl rfl
end Go.Abs
namespace Go.Abs
open Go
variable {P : Program} {c : Ctx} {T : Tab} {σ : Sig} {φ : Pl} {sto : Sto} {w : World}
theorem Rel.dropTo{st : St}{a : Act}(hr : Rel c st a w σ φ){s' : Sto}(h : ∀ i e,look s' i = some e→look st.sto i = some e) : Rel c ⟨st.fr,s'⟩ a w σ φ:=by
 have hE : Ext (fun _=>False) φ φ st.sto s':=by
  intro id _
  cases hl : look s' id with
  | none=>exact .inl rfl
  | some e=>exact .inr ⟨e,h _ _ hl,rfl,e,rfl,compat.refl e⟩
 refine ⟨hr.le,hr.fresh,⟨hr.inv.sig,fun i e hi=>?_,fun i i' e e' p p' hi hi'=>hr.inv.inj _ _ _ _ _ _ (h _ _ hi) (h _ _ hi')⟩,
  fun i e p hi hp=>hr.mine _ _ _ (h _ _ hi) hp,fun s v hv=>?_,hr.defers,hr.size,hr.fra,hr.pin⟩
 ·exact (hr.inv.obj _ _ (h _ _ hi)).ext (X:=fun _=>False) (Sig.le_refl _) hE (fun j hj=>hj.elim) rfl fun _ _ _=>⟨rfl,rfl⟩
 ·obtain ⟨u,hu,hru⟩:=hr.slot s v hv
  exact ⟨u,hu,hru.ext (Sig.le_refl _) hE fun j hj=>hj.elim⟩
theorem Rel.alien{st : St}{a : Act}(hr : Rel c st a w σ φ)(o : Obj) : Rel c st a (w.alloc o) σ φ:=by
 have hheap : ∀ B,B < w.heap.size→(w.alloc o).heap[B]? = w.heap[B]?:=fun B hB=>RowKit.Below.heap_alloc w o B hB
 refine ⟨hr.le,hr.fresh,⟨fun b cs hb=>?_,fun i e hi=>?_,hr.inv.inj⟩,hr.mine,hr.slot,hr.defers,hr.size,hr.fra.alloc _,hr.pin⟩
 ·obtain ⟨t,f,hh⟩:=hr.inv.sig b cs hb
  exact ⟨t,f,(hheap b (Array.getElem?_eq_some_iff.1 hh).1).trans hh⟩
 ·have ho:=hr.inv.obj i e hi
  exact ho.ext (X:=fun _=>False) (Sig.le_refl _) (Ext.refl _ _) (fun j hj=>hj.elim) rfl fun B cc hB=>⟨hheap B (ho.lt hB),rfl⟩
theorem Rel.anew{st : St}{a : Act}(hr : Rel c st a w σ φ)(mk : List Deferred)(rd : Option Nat) : Rel ⟨w,σ,φ,MOf φ st.sto,c.n,rd,mk⟩ st { a with defers:=mk } w σ φ :=
 ⟨Sig.le_refl _,fun _ hb=>.inl hb,hr.inv,fun id e p hi hp=>.inr ⟨id,e,p,hi,hp,rfl⟩,hr.slot,rfl,hr.size,⟨rfl,rfl,rfl,Nat.le_refl _,Nat.le_refl _,fun _ _ _=>rfl⟩,fun _ _=>rfl⟩
theorem Rel.back{st st' : St}{a a' : Act}{w' : World}{σ' : Sig}{φ' : Pl}{mk : List Deferred}{rd : Option Nat}(hr : Rel c st a w σ φ)(h : Rel ⟨w,σ,φ,MOf φ st.sto,c.n,rd,mk⟩ st' a' w' σ' φ') : Rel c st' { a' with defers:=c.mks } w' σ' φ':=by
 have hM : ∀ {b : Nat},MOf φ st.sto b→c.w0.heap.size≤b∨c.M b:=by
  rintro b ⟨id,e,p,h1,h2,rfl⟩
  exact hr.mine _ _ _ h1 h2
 refine ⟨Sig.le_trans hr.le h.le,fun b hb=>?_,h.inv,fun i e p hi hp=>?_,h.slot,rfl,h.size,⟨h.fra.os.trans hr.fra.os,h.fra.tape.trans hr.fra.tape,h.fra.output.trans hr.fra.output,Nat.le_trans hr.fra.size h.fra.size,Nat.le_trans hr.fra.drawn h.fra.drawn,fun b hb hn=>?_⟩,
  fun i hi=>(h.pin i hi).trans (hr.pin i hi)⟩
 ·rcases h.fresh b hb with h1 | h1 | h1
  ·exact hr.fresh b h1
  ·exact .inr (.inl (Nat.le_trans hr.fra.size h1))
  ·exact .inr (hM h1)
 ·rcases h.mine _ _ _ hi hp with h1 | h1
  ·exact .inl (Nat.le_trans hr.fra.size h1)
  ·exact hM h1
 ·rw [h.fra.block b (Nat.lt_of_lt_of_le hb hr.fra.size) fun h1=>?_]
  ·exact hr.fra.block b hb hn
  ·rcases hM h1 with h2 | h2
   ·omega
   ·exact hn h2
def kx{α : Type}(l : List (Nat×α))(i : Nat) : Bool:=match look l i with | none=>true | some _=>false
theorem nq{α : Type}{l : List (Nat×α)}{i : Nat}(h : kx l i = true) : look l i = none:=by
 unfold kx at h
 split at h
 ·assumption
 ·cases h
theorem wA{s s2 : Sto}{i : Nat}(h : look s i = look s2 i) : ∀ {ρ : List (Nat×Nat)},look (fA ρ s) i = look (fA ρ s2) i
 | []=>h
 | (j,i0)::l=>by
   simp only [fA]
   by_cases e : i = i0
   ·subst e
    have none : ∀ {x : Sto},look (del i x) i = none:=by
     intro x
     cases hl : look (del i x) i with
     | none=>rfl
     | some o=>exact absurd rfl (df hl).1
    rw [none,none]
   ·rw [dO e,dO e]
    exact wA h
theorem wC{r : Nat→Nat}{s s2 : Sto}{i : Nat}(h : look s i = look s2 i) : ∀ {rs : Sto},look (dC r s rs) i = look (dC r s2 rs) i
 | []=>h
 | (j,o)::l=>by
   simp only [dC,ci,look]
   rw [wC h (rs:=l)]
def jc(k : Nat)(ρ : List (Nat×Nat))(rs s : Sto) : Sto:=dC (rn k ρ) (fA ρ s) rs
def zF(st : St)(idl : Nat)(li : LI)(fr : List (Nat×AV)) : St:=⟨st.fr,(idl,.loop li fr .ready none)::st.sto⟩
def xv(c c1 : Ctx) : Prop:=c1.n = c.n∧c1.rd = none∧c1.mks≠[]∧∀ st a w σ φ,Rel c1 st a w σ φ→RelE c .ret st a w σ φ
theorem vE{g : Operand}{ps : Array Nat}{assign body : Code}{st : St}{f : FuncId}{caps : List D}{frC frR : List (Nat×AV)}{cs rs : Sto}{rav : AV}{liR : LI}{s' : LoopState}{p' : Option Code}(k idl : Nat)(ρ : List (Nat×Nat))
  (hrd : c.rd = none) (hmk : c.mks = []) (hg : ev st g = some (.one (.d (.fn f caps))))
  (hC : CallA P f ((.one (.yl 1000000))::caps.map fun x=>.one (.d x)) ((1000000,.loop ⟨c.n,ps,assign,body⟩ frC .ready none)::cs) rav ((1000000,.loop liR frR s' p')::rs))
  (hfr : ∀ s v,look (cP (rn k ((1000000,idl)::ρ)) frC) s = some v→look st.fr s = some v)
  (hpass : Pass (zF st idl ⟨c.n,ps,assign,body⟩ (cP (rn k ((1000000,idl)::ρ)) frC)) (rn k ((1000000,idl)::ρ)) ((1000000,idl)::ρ) cs)
  (hcomp : CompatL (zF st idl ⟨c.n,ps,assign,body⟩ (cP (rn k ((1000000,idl)::ρ)) frC)) (rn k ((1000000,idl)::ρ)) ((1000000,idl)::ρ) rs)
  (hk : (fb ((1000000,idl)::ρ) && iC ((1000000,idl)::ρ) && fU ((1000000,.loop ⟨c.n,ps,assign,body⟩ frC .ready none)::cs) ((1000000,idl)::ρ) && fB ((1000000,idl)::ρ) &&
   cw ((1000000,idl)::ρ) ((1000000,.loop liR frR s' p')::rs) && da ((1000000,.loop ⟨c.n,ps,assign,body⟩ frC .ready none)::cs) ((.one (.yl 1000000))::caps.map fun x=>.one (.d x)) &&
   bd ((1000000,.loop ⟨c.n,ps,assign,body⟩ frC .ready none)::cs) ((1000000,.loop ⟨c.n,ps,assign,body⟩ frC .ready none)::cs) && cX ((1000000,.loop liR frR s' p')::rs) rav &&
   bd ((1000000,.loop liR frR s' p')::rs) ((1000000,.loop liR frR s' p')::rs) && Nat.ble (k + 16) 1000000) = true)
  (hi : (Nat.blt idl k && kx st.sto idl && !bn idl st.fr && !aM idl st.sto && Nat.ble (k + 16) 1000000 && o9 k (cP (rn k ((1000000,idl)::ρ)) frC) && kx rs 1000000) = true) (hfresh : jL k st) (hs : s'≠.busy)
  (hp' : p' = none∨p' = some .ret) :
  ∀ (a : Act) (w : World) (σ : Sig) (φ : Pl),Rel c st a w σ φ→(Code.rangeFunc g ps assign body).wpIn (fnc c) 0 P (fun e a' w' =>
    (p' = none∧e = .normal∧∃ c1 σ' φ',xv c c1∧Rel c1 ⟨st.fr,jc k ((1000000,idl)::ρ) rs st.sto⟩ a' w' σ' φ') ∨
    (p' = some .ret∧e = .ret∧∃ σ' φ',RelE c .ret ⟨st.fr,jc k ((1000000,idl)::ρ) rs st.sto⟩ a' w' σ' φ')) a w:=by
 intro a w σ φ hr
 refine wpIn_rangeFunc fun fn _=>?_
 simp only [Bool.and_eq_true,Bool.not_eq_true'] at hi
 obtain ⟨⟨⟨⟨⟨⟨hi1,hi2⟩,hi3⟩,hi4⟩,hi5⟩,hi6⟩,hi7⟩:=hi
 have hik : idl < k:=Nat.le_of_ble_eq_true hi1
 have hk16 : k + 16≤1000000:=Nat.le_of_ble_eq_true hi5
 have hin : look st.sto idl = none:=nq hi2
 -- the record, and the block for the calls that rounds defer
 let L : Loop:={ state:=.ready,pending:=none,fn,tmps:=a.tmps,params:=ps,assign,body,defers:=w.heap.size }
 have hr1:=hr.alien (.deferred (some []))
 have hsz1 : (w.alloc (.deferred (some []))).heap.size = w.heap.size + 1:=World.size_alloc _ _
 let li : LI:=⟨c.n,ps,assign,body⟩
 let ρ1:=(1000000,idl)::ρ
 let frL:=cP (rn k ρ1) frC
 let w1:=(w.alloc (.deferred (some []))).alloc (.loop L)
 let l:=(w.alloc (.deferred (some []))).heap.size
 let φ1:=bL φ idl (some (l,0))
 let st1 : St:=zF st idl li frL
 have hE1 : Ext (· = idl) φ φ1 st.sto st1.sto:=Ext.add
 have hobj : ObjRep σ φ1 st1.sto w1 idl (.loop li frL .ready none) :=
  ⟨_,0,L,aK,b5 _ _,⟨rfl,rfl,rfl,rfl,rfl,hr.size⟩,fun s v hv=>by
   have h0:=hfr s v hv
   obtain ⟨u,hu,hru⟩:=hr.slot s v h0
   exact ⟨u,hu,hru.ext (Sig.le_refl _) hE1 fun j hj=>by cases hj; exact dy hi3 h0⟩,il hr1.inv⟩
 have hr2 : Rel c st1 a w1 σ φ1:=by
  refine ⟨hr.le,hr.fresh,hr1.inv.add hi4 hobj,fun i e p hi' hp=>?_,fun s v hv=>?_,hr.defers,hr.size,(hr.fra.alloc _).alloc _,fun i hi'=>?_⟩
  ·rcases ah hi' with ⟨rfl,rfl⟩ | ⟨hne,hi'⟩
   ·have hp' : bL φ i (some (l,0)) i = some p:=hp
    rw [aK] at hp'; cases hp'
    left
    have:=hr.fra.size
    show c.w0.heap.size≤(w.alloc (.deferred (some []))).heap.size
    rw [hsz1]; omega
   ·have hp' : bL φ idl (some (l,0)) i = some p:=hp
    rw [aZ hne] at hp'; exact hr.mine _ _ _ hi' hp'
  ·obtain ⟨u,hu,hru⟩:=hr.slot s v hv
   exact ⟨u,hu,hru.ext (Sig.le_refl _) hE1 fun j hj=>by cases hj; exact dy hi3 hv⟩
  ·have : i≠idl:=by omega
   show bL φ idl _ i = _
   rw [aZ this]; exact hr.pin i hi'
 have hfresh1 : jL k st1:=by
  intro i h1 h2
  obtain ⟨f1,f2,f3⟩:=hfresh i h1 h2
  refine ⟨by show look ((idl,_)::st.sto) i = none; rw [aN (by omega)]; exact f1,f2,?_⟩
  show aM i ((idl,AObj.loop li frL .ready none)::st.sto) = false
  simp only [aM,f3,Bool.or_false]
  exact mU h1 h2 hi6
 have hr3:=hr2.anew [k9 w.heap.size] none
 -- the function's value
 have hgr:=aC hr2 (x:=g) (v:=.one (.d (.fn f caps))) (by
  have : ev st1 g = ev st g:=by cases g <;> rfl
  rw [this]; exact hg)
 replace hgr:=RepC.d_inv hgr
 generalize hge : a.eval g = gv at hgr
 cases hgr with
 | fn cvs hl hcs =>
 have hCf:=hC
 obtain ⟨fnc',hfn1,hfn2,hfn3⟩:=hCf.fn
 have hfn3' : fnc'.body.isNone = false:=by cases hb : fnc'.body <;> simp_all
 have hcaps : All2 (RepV σ φ1 st1.sto) (caps.map fun x=>.one (.d x)) cvs:=by
  refine All2.of_get (by simp [hl]) fun j x v hx hv=>?_
  simp only [List.getElem?_map,Option.map_eq_some_iff] at hx
  obtain ⟨d,hd,rfl⟩:=hx
  exact RepC.d (hcs j d v hd hv)
 have hkk:=hk
 have hk':=hkk
 simp only [Bool.and_eq_true,Nat.ble_eq] at hk'
 obtain ⟨⟨⟨⟨⟨⟨⟨⟨⟨hbig,hinj⟩,hall⟩,hnd⟩,hko⟩,hai⟩,hci⟩,hri⟩,hrs⟩,hkl⟩:=hk'
 have hj0 : look ρ1 1000000 = some idl:=aI
 have hidl : rn k ρ1 1000000 = idl:=gg hbig hj0
 have hyl : RepV σ φ1 st1.sto (.one (.yl idl)) (.func (.yield l) #[] #[]):=RepC.yl (cap:=0) (aI : look st1.sto idl = _) aK
 have hargs : All2 (RepV σ φ1 st1.sto) (cJ (rn k ρ1) ((.one (.yl 1000000))::caps.map fun x=>.one (.d x))) (.func (.yield l) #[] #[]::cvs):=by
  refine ⟨?_,by rw [mJ]; exact hcaps⟩
  show RepV σ φ1 st1.sto (.one (.yl (rn k ρ1 1000000))) _
  rw [hidl]; exact hyl
 have hpass1 : Pass st1 (rn k ρ1) ρ1 ((1000000,.loop li frC .ready none)::cs):=⟨⟨idl,hj0,aI⟩,hpass⟩
 have hcomp1 : CompatL st1 (rn k ρ1) ρ1 ((1000000,.loop liR frR s' p')::rs):=⟨fun i e h1 h2=>by
  rw [hj0] at h1; cases h1
  rw [show look st1.sto idl = _ from aI] at h2; cases h2
  exact trivial,hcomp⟩
 have hround : (fnc c).round = none:=hrd
 refine ⟨l,[k9 w.heap.size],w1,{ target:=.fn (.func f) cvs.toArray,args:=#[.func (.yield l) #[] #[]] },w1,f,(Value.func (.yield l) #[] #[]::cvs).toArray,w1,?_,?_,fun f' _=>gR c f',?_,fun h=>by simp [fnc,Fence.wide] at h,?_⟩
 ·rw [hround]
  simp [Instr.enterLoop,newObj,Sem.run,k9,w1,l,L]
 ·simp only [resolve,rangeCall,hge,Deferred.ofValue,Sem.run_pure]
  simp [Act.eval]
 ·simp only [invoke,callFunc,Sem.run_bind]
  simp only [show (program).run P w1 = .ok P w1 from rfl,Result.andThen_ok,hfn1,hfn2,hfn3',Bool.false_eq_true,if_false,Sem.run_pure]
  simp
 refine (rL (c:=c) (n:=0 - 1) (hCf.run w1 σ (phC φ1 ρ1) _ (yO hbig hinj hpass1 hci hr3.inv) (unL hbig hpass1 hai hargs))).mono ?_
 rintro e w' ⟨v,σ',φ',rfl,hret'⟩
 obtain ⟨σ2,φ2,hr4,hφ2⟩:=uT (o:={ (default : Oper) with dst:=none }) k ρ1 hr3 rfl hpass1 hcomp1 hkk hfresh1 hret'
 have hp2 : φ2 idl = some (l,0):=by
  rw [← hidl,hφ2 1000000 _ aI,hret'.pin 1000000 ⟨Nat.le_refl _,by omega⟩,eD hj0]
  exact aK
 have hl2 : look (dC (rn k ρ1) (fA ρ1 st1.sto) ((1000000,.loop liR frR s' p')::rs)) idl = some (.loop liR (cP (rn k ρ1) frR) s' p'):=by
  simp only [dC,ci,hidl]
  exact aI
 obtain ⟨r',hh',hr'1,hr'2,_⟩:=rY hr4 hl2 hp2
 obtain ⟨σ3,φ3,hr5⟩:=hr4.mark hl2 hp2 hh' .exhausted p' { r' with state:=.exhausted } (by rw [← hr'2])
 have hr6:=hr5.dropTo (s':=jc k ρ1 rs st.sto) (by
  intro i e hie
  have hne : i≠idl:=by
   rintro rfl
   rcases p8 hie with ⟨j,o,h1,h2,_⟩ | ⟨_,h2⟩
   ·rcases gn hko (j:=j) (o:=o) (by
     by_cases e : j = 1000000
     ·subst e; rw [nq hi7] at h2; cases h2
     ·rw [aN e]; exact h2) with h3 | ⟨i',h3⟩
    ·rw [iU h3] at h1; omega
    ·rw [gg hbig h3] at h1
     subst h1
     have:=p7 hinj h3 hj0
     subst this
     rw [nq hi7] at h2; cases h2
   ·exact absurd rfl (df h2).1
  rw [ci,aN hne]
  simp only [dC,ci,hidl]
  rw [aN hne]
  refine (wC ?_).trans hie
  exact wA (aN hne))
 have hbusy : (r'.state == .busy) = false:=by
  rw [hr'1]
  cases s' <;> first | rfl | exact absurd rfl hs
 have hend : (Instr.endLoop l).run P w' = .ok p' { w' with heap:=w'.heap.setIfInBounds l (.loop { r' with state:=.exhausted }) }:=by
  simp only [Instr.endLoop,Sem.run_bind,kB hh',Result.andThen_ok,hbusy,Bool.false_eq_true,if_false,mY hh',Sem.run_pure,hr'2]
 have hmkeq : ({ a with defers:=[k9 w.heap.size] ++ a.defers } : Act) = { a with defers:=[k9 w.heap.size] }:=by
  rw [hr.defers,hmk]; rfl
 have hgood : ∀ {st' : St} {a' : Act} {w4 : World} {σ4 : Sig} {φ4 : Pl},Rel ⟨w1,σ,φ1,MOf φ1 st1.sto,c.n,none,[k9 w.heap.size]⟩ st' a' w4 σ4 φ4→RelE c .ret st' a' w4 σ4 φ4:=by
  intro st' a' w4 σ4 φ4 h4
  refine .inr ⟨rfl,w.heap.size,h4.defers,?_,hr.fra.size,?_⟩
  ·have hlt : w.heap.size < w1.heap.size:=by
    show _ < ((w.alloc (.deferred (some []))).alloc (.loop L)).heap.size
    rw [World.size_alloc,World.size_alloc]; omega
   rw [h4.fra.block w.heap.size hlt fun hM=>?_]
   ·show ((w.alloc (.deferred (some []))).alloc (.loop L)).heap[w.heap.size]? = _
    rw [RowKit.Below.heap_alloc _ _ _ (by rw [hsz1]; omega)]
    exact b5 _ _
   ·obtain ⟨id,e,p,h1,h2,h3⟩:=hM
    rcases ah h1 with ⟨rfl,rfl⟩ | ⟨hne,h1⟩
    ·have h2' : bL φ id (some (l,0)) id = some p:=h2
     rw [aK] at h2'; cases h2'
     have : l = w.heap.size + 1:=hsz1
     simp only at h3; omega
    ·have h2' : bL φ idl (some (l,0)) id = some p:=h2
     rw [aZ hne] at h2'
     have:=(hr.inv.obj _ _ h1).lt h2'
     omega
  ·have:=hr2.back h4
   rwa [hmk] at this
 refine ⟨p',_,hend,?_⟩
 rw [hmkeq]
 have hG : xv c ⟨w1,σ,φ1,MOf φ1 st1.sto,c.n,none,[k9 w.heap.size]⟩:=⟨rfl,rfl,by simp,fun _ _ _ _ _ h=>hgood h⟩
 rcases hp' with rfl | rfl
 ·exact .inl ⟨rfl,rfl,_,_,_,hG,hr6⟩
 ·exact wpIn_ret (.inr ⟨rfl,rfl,_,_,hgood hr6⟩)
end Go.Abs
