import Derived.Lib.Strings
import Derived.Test.YtpejdgkaapnekaaGreatGP1
set_option linter.unusedVariables false
set_option linter.unusedSimpArgs false
set_option linter.unnecessarySimpa false
set_option maxHeartbeats 1000000
namespace Go.Abs
open Go
variable {P : Program} {c : Ctx} {T : Tab} {σ : Sig} {φ : Pl} {sto : Sto} {w : World}
theorem ni{α : Type} : ∀ {o : Nat} {n l : List α},o + n.length≤l.length→cM o n l = some (l.take o ++ n ++ l.drop (o + n.length))
 | 0,[],l,_=>by simp [cM]
 | 0,c::n,x::l,h=>by
   simp only [List.length_cons] at h
   simp only [cM]
   rw [ni (o:=0) (by omega)]
   simp
 | o + 1,n,x::l,h=>by
   simp only [List.length_cons] at h
   simp only [cM]
   rw [ni (o:=o) (by omega)]
   have : o + 1 + n.length = (o + n.length) + 1:=by omega
   simp [this]
 | 0,_::_,[],h=>by simp at h
 | o + 1,n,[],h=>by simp at h
theorem dP{α : Type}{k : Nat} : ∀ {xs : List (List α)} {i j : Nat} {x : List α},(∀ x∈xs,x.length = k)→xs[i]? = some x→j < k→xs.flatten[i * k + j]? = x[j]?
 | [],_,_,_,_,h,_=>by simp at h
 | y::ys,0,j,x,hk,h,hj=>by
   simp at h; subst h
   have:=hk y (by simp)
   simp only [List.flatten_cons,Nat.zero_mul,Nat.zero_add]
   rw [List.getElem?_append_left (by omega)]
 | y::ys,i + 1,j,x,hk,h,hj=>by
   have hy:=hk y (by simp)
   have e : (i + 1) * k + j = y.length + (i * k + j):=by rw [hy,Nat.succ_mul]; omega
   simp only [List.flatten_cons]
   rw [e,List.getElem?_append_right (by omega),Nat.add_sub_cancel_left]
   exact dP (fun x hx=>hk x (by simp [hx])) (by simpa using h) hj
theorem bU{α : Type}{k : Nat} : ∀ {xs : List (List α)},(∀ x∈xs,x.length = k)→xs.flatten.length = xs.length * k
 | [],_=>by simp
 | y::ys,hk=>by
   have hy:=hk y (by simp)
   simp only [List.flatten_cons,List.length_append,List.length_cons]
   rw [bU (fun x hx=>hk x (by simp [hx])),hy,Nat.succ_mul]; omega
theorem ObjRep.mk_row{id k b B cap : Nat}{xs : List (List D)}{arr : Array Value}{t : TypeId}(h1 : φ id = some (B,cap))(h2 : w.heap[B]? = some (.cells arr t (0,0)))(h3 : arr.size = cap * k)
  (h4 : xs.length≤cap) (h5 : xs.length < 2 ^ 48) (h6 : xs.length * b≤2 ^ 47) (h7 : ∀ x∈xs,x.length = k) {us : List Value} (h8 : All2 (Rep σ) xs.flatten us)
  (h9 : ∀ (j : Nat) (u : Value),us[j]? = some u→arr[j]? = some u) (h10 : σ B = none) : ObjRep σ φ sto w id (.row k b xs):=by
 have key : ∀ i j x d,xs[i]? = some x→x[j]? = some d→∃ u,arr[i * k + j]? = some u∧Rep σ d u:=by
  intro i j x d hx hd
  have hj : j < k:=by
   rw [← h7 x (List.mem_of_getElem? hx)]
   exact (List.getElem?_eq_some_iff.1 hd).1
  obtain ⟨u,hu,hr⟩:=h8.get ((dP h7 hx hj).trans hd)
  exact ⟨u,h9 _ _ hu,hr⟩
 refine .inr ⟨B,cap,arr,t,fun i j=>arr.getD (i * k + j) undef,h1,h2,h3,h4,h5,h6,h7,fun i j hi hj=>?_,fun i j x d hx hd=>?_,h10⟩
 ·have hx : xs[i]? = some xs[i]:=List.getElem?_eq_getElem hi
  have hl:=h7 xs[i] (List.getElem_mem hi)
  obtain ⟨u,hu,_⟩:=key i j xs[i] (xs[i][j]'(by omega)) hx (List.getElem?_eq_getElem (by omega))
  simp [Array.getD_eq_getD_getElem?,hu]
 ·obtain ⟨u,hu,hr⟩:=key i j x d hx hd
  simpa [Array.getD_eq_getD_getElem?,hu] using hr
theorem ObjRep.row_cells{id k b B cap : Nat}{xs : List (List D)}(h : ObjRep σ φ sto w id (.row k b xs))(hp : φ id = some (B,cap)) :
  ∃ (arr : Array Value) (t : TypeId) (us : List Value),w.heap[B]? = some (.cells arr t (0,0))∧arr.size = cap * k∧xs.length≤cap∧xs.length < 2 ^ 48∧xs.length * b≤2 ^ 47∧(∀ x∈xs,x.length = k) ∧
    All2 (Rep σ) xs.flatten us∧(∀ (j : Nat) (u : Value),us[j]? = some u→arr[j]? = some u)∧σ B = none∧us.length = xs.length * k:=by
 rcases h with ⟨_,h2⟩ | ⟨B',cap',arr,t,vs,h1,h2,h3,h4,h5,h6,h7,h8,h9,h10⟩
 ·rw [hp] at h2; cases h2
 ·rw [hp] at h1; cases h1
  have hfl:=bU h7
  have hsz : xs.length * k≤arr.size:=by rw [h3]; exact Nat.mul_le_mul_right _ h4
  refine ⟨arr,t,arr.toList.take (xs.length * k),h2,h3,h4,h5,h6,h7,?_,?_,h10,?_⟩
  ·refine All2.of_get (by simp [hfl]; omega) fun j d u hd hu=>?_
   have hj : j < xs.length * k:=by rw [← hfl]; exact (List.getElem?_eq_some_iff.1 hd).1
   have hk : 0 < k:=by
    rcases Nat.eq_zero_or_pos k with h0 | h0
    ·subst h0; simp at hj
    ·exact h0
   have hi : j / k < xs.length:=Nat.div_lt_of_lt_mul (by rw [Nat.mul_comm]; exact hj)
   have hm : j % k < k:=Nat.mod_lt _ hk
   have hx : xs[j / k]? = some xs[j / k]:=List.getElem?_eq_getElem hi
   have e : j / k * k + j % k = j:=by rw [Nat.mul_comm]; exact Nat.div_add_mod j k
   have h11:=dP h7 hx hm
   rw [e,hd] at h11
   have h12:=h8 (j / k) (j % k) hi hm
   rw [e] at h12
   have h13:=h9 (j / k) (j % k) _ d hx h11.symm
   have : u = vs (j / k) (j % k):=by
    rw [List.getElem?_take,if_pos hj] at hu
    rw [Array.getElem?_toList,h12] at hu
    cases hu; rfl
   rw [this]; exact h13
  ·intro j u hu
   rw [List.getElem?_take] at hu
   split at hu
   ·simpa using hu
   ·cases hu
  ·simp; omega
theorem nB{fr : List (Nat×AV)}{sto sto' : Sto}(h : ∀ i,look sto' i = look sto i) : Imp c ⟨fr,sto⟩ ⟨fr,sto'⟩:=by
 intro a w σ φ hr
 have hE : Ext (fun _=>False) φ φ sto sto':=Ext.of_some (fun i e _ hi=>⟨rfl,e,(h i).trans hi,compat.refl _⟩) (fun i _ hi=>(h i).trans hi)
 refine ⟨σ,φ,⟨hr.le,hr.fresh,⟨hr.inv.sig,fun i e hi=>?_,fun i i' e e' p p' hi hi'=>hr.inv.inj _ _ _ _ _ _ ((h i).symm.trans hi) ((h i').symm.trans hi')⟩,
  fun i e p hi hp=>hr.mine _ _ _ ((h i).symm.trans hi) hp,fun s v hv=>?_,hr.defers,hr.size,hr.fra,hr.pin⟩⟩
 ·exact (hr.inv.obj _ _ ((h i).symm.trans hi)).ext (Sig.le_refl _) hE (fun j hj=>by cases hj) rfl fun _ _ _=>⟨rfl,rfl⟩
 ·obtain ⟨u,hu,hru⟩:=hr.slot s v hv
  exact ⟨u,hu,hru.ext (Sig.le_refl _) hE fun j hj=>by cases hj⟩
def bH(id : Nat)(o : AObj) : Sto→Sto
 | []=>[(id,o)]
 | p::r=>bif Nat.beq p.1 id then (id,o)::r else p::bH id o r
theorem ci{id : Nat}{o : AObj} : ∀ {sto : Sto} {i : Nat},look (bH id o sto) i = look ((id,o)::sto) i
 | [],_=>rfl
 | (j,x)::r,i=>by
   simp only [bH]
   cases hb : Nat.beq j id with
   | true =>
     have:=Nat.eq_of_beq_eq_true hb; subst this
     simp only [cond_true,look]
     cases Nat.beq j i <;> rfl
   | false =>
     simp only [cond_false,look,ci (sto:=r)]
     cases h1 : Nat.beq j i <;> cases h2 : Nat.beq id i <;> simp
     have e1:=Nat.eq_of_beq_eq_true h1
     have e2:=Nat.eq_of_beq_eq_true h2
     subst e1; subst e2
     rw [Nat.beq_refl] at hb; cases hb
end Go.Abs
namespace Go.Abs
open Go
variable {P : Program} {c : Ctx} {T : Tab} {σ : Sig} {φ : Pl} {sto : Sto} {w : World}
def aR(T : Tab)(t : TypeId) : Option (TypeId×Nat×Nat×List D) :=
 match look T t with
 | some ⟨.slice e,_,_,_⟩=>match look T e with
   | some td=>some (e,td.size,td.bytes,td.zero)
   | none=>none
 | _=>none
theorem de(hT : aU P T){t e k b : Nat}{z : List D}(h : aR T t = some (e,k,b,z)) :
  ∃ (i : TypeInfo) (zv : Value),P.underlying t = some (.slice e)∧P.info? e = some i∧i.size = k∧i.bytes = b∧i.zero = some zv∧zv.cells = (z.map iD).toArray∧(∀ x∈z,gr x = true)∧z.length = k:=by
 unfold aR at h
 split at h
 ·rename_i e' _ _ _ h1
  split at h <;> simp at h
  rename_i td h2
  obtain ⟨rfl,rfl,rfl,rfl⟩:=h
  obtain ⟨_,u,_,_,hu,_,_,_,hk,_⟩:=(hT t _ h1).ex
  simp only [dR] at hk; subst hk
  obtain ⟨i,_,zv,hi,_,hs,hb,hz,_,hzc,hzb,hzl,_⟩:=(hT e' td h2).ex
  exact ⟨i,zv,hu,hi,hs,hb,hz,hzc,hzb,hzl⟩
 ·simp at h
def dA(st : St)(k : Nat) : Nat→List (Nat×Operand)→Option (List (List D))
 | _,[]=>some []
 | i,(j,x)::r=>bif Nat.beq i j then (match ev st x with
   | some v=>(match cellsOf v with
     | some cs=>(match eL cs with
       | some ds=>bif Nat.beq ds.length k then (match dA st k (i + 1) r with | some l=>some (ds::l) | none=>none) else none
       | none=>none)
     | none=>none)
   | none=>none) else none
theorem oQ{st : St}{k : Nat} : ∀ {parts : List (Nat×Operand)} {i : Nat} {xs : List (List D)},dA st k i parts = some xs→xs.length = parts.length∧∀ x∈xs,x.length = k
 | [],_,xs,h=>by simp [dA] at h; subst h; simp
 | (j,x)::r,i,xs,h=>by
   simp only [dA] at h
   cases hb : Nat.beq i j <;> simp only [hb,cond_true,cond_false,reduceCtorEq] at h
   split at h <;> (try (simp at h; done))
   split at h <;> (try (simp at h; done))
   split at h <;> (try (simp at h; done))
   rename_i ds hd
   cases hk : Nat.beq ds.length k <;> simp only [hk,cond_true,cond_false,reduceCtorEq] at h
   split at h <;> simp at h
   rename_i l hl
   subst h
   obtain ⟨h1,h2⟩:=oQ hl
   exact ⟨by simp [h1],fun x hx=>by
    rcases List.mem_cons.1 hx with rfl | hx
    ·exact Nat.eq_of_beq_eq_true hk
    ·exact h2 x hx⟩
theorem mw : ∀ {ds : List D} {vs : List Value},All2 (RepC σ φ sto) (ds.map .d) vs→All2 (Rep σ) ds vs
 | [],[],_=>trivial
 | _::_,_::_,h=>⟨by have h:=RepC.d_inv h.1; exact h,mw h.2⟩
 | [],_::_,h=>h.elim
 | _::_,[],h=>h.elim
theorem oR{c : Ctx}{st : St}{a : Act}(hrel : Rel c st a w σ φ){k : Nat} :
  ∀ (parts : List (Nat×Operand)) (i : Nat) (xs done : List (List D)) (rest : List AC) (cells : Array Value),dA st k i parts = some xs→done.length = i→(∀ x∈done,x.length = k) →
    parts.length * k≤rest.length→All2 (RepC σ φ st.sto) (done.flatten.map .d ++ rest) cells.toList →
    ∃ cells' : Array Value,Instr.fill (fun i=>some (i * k,k)) cells (parts.map fun p=>(p.1,a.eval p.2)) = some cells'∧All2 (RepC σ φ st.sto) ((done ++ xs).flatten.map .d ++ rest.drop (parts.length * k)) cells'.toList
 | [],i,xs,done,rest,cells,h,_,_,_,ha=>by
   simp [dA] at h; subst h
   exact ⟨cells,rfl,by simpa using ha⟩
 | (j,x)::r,i,xs,done,rest,cells,h,hi,hdk,hrl,ha=>by
   simp only [dA] at h
   cases hb : Nat.beq i j <;> simp only [hb,cond_true,cond_false,reduceCtorEq] at h
   split at h <;> (try (simp at h; done))
   rename_i v hv
   split at h <;> (try (simp at h; done))
   rename_i cs hcs
   split at h <;> (try (simp at h; done))
   rename_i ds hd
   cases hk : Nat.beq ds.length k <;> simp only [hk,cond_true,cond_false,reduceCtorEq] at h
   split at h <;> simp at h
   rename_i l hl
   subst h
   have hij:=Nat.eq_of_beq_eq_true hb
   subst hij
   have hdl:=Nat.eq_of_beq_eq_true hk
   obtain rfl:=j5 hd
   have hr:=gi hcs (aC hrel hv)
   have hfl:=bU hdk
   have hfm : (done.flatten.map AC.d).length = i * k:=by rw [List.length_map,hfl,hi]
   have hcat : (done ++ [ds]).flatten.map AC.d = done.flatten.map AC.d ++ ds.map AC.d:=by
    rw [List.flatten_append,List.map_append]; simp
   have hsp : cM (i * k) (ds.map AC.d) (done.flatten.map .d ++ rest) = some ((done ++ [ds]).flatten.map .d ++ rest.drop k):=by
    rw [hcat]
    generalize done.flatten.map AC.d = f at hfm
    rw [ni (by simp only [List.length_map,List.length_append,hfm,hdl]; simp only [List.length_cons,Nat.succ_mul] at hrl; omega)]
    congr 1
    have e1 : (f ++ rest).take (i * k) = f:=by
     rw [List.take_append_of_le_length (by omega)]
     exact List.take_of_length_le (by omega)
    have e2 : (f ++ rest).drop (i * k + (ds.map AC.d).length) = rest.drop k:=by
     rw [List.drop_append,List.drop_of_length_le (by omega)]
     simp only [List.nil_append,hfm,List.length_map,hdl,Nat.add_sub_cancel_left]
    rw [e1,e2]
   obtain ⟨cells',h1,_,h3⟩:=pY (σ:=σ) (φ:=φ) (sto:=st.sto) (fun i=>some (i * k,k)) (i:=i) (u:=a.eval x) (rest:=r.map fun p=>(p.1,a.eval p.2)) (cells:=cells) (o:=i * k) (by simp [hdl]) hsp hr ha
   obtain ⟨cells'',h4,h5⟩:=oR hrel r (i + 1) l (done ++ [ds]) (rest.drop k) cells' hl (by simp [hi]) (fun x hx=>by
    rcases List.mem_append.1 hx with hx | hx
    ·exact hdk x hx
    ·simp at hx; subst hx; exact hdl) (by simp only [List.length_cons,Nat.succ_mul] at hrl; simp; omega) h1
   refine ⟨cells'',by simp only [List.map_cons]; rw [h3]; exact h4,?_⟩
   have e : (rest.drop k).drop (r.length * k) = rest.drop (((i,x)::r).length * k):=by
    rw [List.drop_drop,List.length_cons,Nat.succ_mul,Nat.add_comm]
   rw [e] at h5
   simpa using h5
theorem nj{k : Nat}{z : List D}{zv : Value}(hz : zv.cells = (z.map iD).toArray)(hzb : ∀ x∈z,gr x = true)(hl : z.length = k)(n : Nat) :
  All2 (RepC σ φ sto) ((List.replicate n z).flatten.map .d) (((Array.range (n * k)).map (fun i=>zv.cells[i % zv.cells.size]!)).toList):=by
 refine All2.of_get ?_ fun j a b ha hb=>?_
 ·rw [List.length_map,bU (k:=k) (by intro x hx; rw [List.eq_of_mem_replicate hx]; exact hl)]
  simp
 ·have hj : j < n * k:=by
   have:=(List.getElem?_eq_some_iff.1 hb).1
   simpa using this
  have hk : 0 < k:=by
   rcases Nat.eq_zero_or_pos k with h0 | h0
   ·subst h0; simp at hj
   ·exact h0
  have hi : j / k < n:=Nat.div_lt_of_lt_mul (by rw [Nat.mul_comm]; exact hj)
  have hm : j % k < k:=Nat.mod_lt _ hk
  have e : j / k * k + j % k = j:=by rw [Nat.mul_comm]; exact Nat.div_add_mod j k
  have h1 : (List.replicate n z).flatten[j]? = z[j % k]?:=by
   have:=dP (k:=k) (xs:=List.replicate n z) (i:=j / k) (j:=j % k) (x:=z) (by intro x hx; rw [List.eq_of_mem_replicate hx]; exact hl) (by simp [hi]) hm
   rwa [e] at this
  have hmz : j % k < z.length:=by omega
  have hsz : zv.cells.size = k:=by rw [hz]; simp [hl]
  simp only [List.getElem?_map,h1,List.getElem?_eq_getElem hmz,Option.map_some,Option.some.injEq] at ha
  subst ha
  have hb' : b = iD z[j % k]:=by
   simp only [Array.toList_map,List.getElem?_map,Array.getElem?_toList,Array.getElem?_range,hj,if_true,Option.map_some,Option.some.injEq] at hb
   rw [← hb,hsz]
   simp [hz,hmz]
  rw [hb']
  exact .d (l6 (hzb _ (List.getElem_mem hmz)))
theorem r9(hT : aU P T){ops : Array Oper}{o : Oper}{rest : List Oper}{st : St}{K : St→Prop}{d id n k b : Nat}{t e : TypeId}{z : List D}{parts : Array (Nat×Operand)}{xs : List (List D)}
  (ho : o.op = .buildSlice t n parts) (hg : o.guard = none) (hdst : o.dst = some d) (hd : (Nat.blt d c.n && Nat.blt id 1000000) = true) (ht : aR T t = some (e,k,b,z))
  (hp : dA st k 0 parts.toList = some xs) (hn : Nat.beq parts.toList.length n = true) (hbig : (Nat.ble (n * k) 1000000 && Nat.ble (n * b) 1000000 && Nat.ble n 1000000) = true)
  (hm1 : bn id st.fr = false) (hm2 : aM id st.sto = false)
  (h : ac P c ops rest ⟨(d,.one (.own id n))::st.fr,(id,.row k b xs)::st.sto⟩ K) : ac P c ops (o::rest) st K:=by
 refine my hg hdst hd hm1 hm2 (fun a w σ φ hr=>?_) h
 obtain ⟨i,zv,hu,hi,rfl,rfl,hz,hzc,hzb,hzl⟩:=de hT ht
 have hnl:=Nat.eq_of_beq_eq_true hn
 simp only [Bool.and_eq_true,Nat.ble_eq] at hbig
 obtain ⟨⟨hb1,hb2⟩,hb3⟩:=hbig
 obtain ⟨hl,hlk⟩:=oQ hp
 have hxn : xs.length = n:=by omega
 have hz0:=nj (σ:=σ) (φ:=φ) (sto:=st.sto) hzc hzb hzl n
 obtain ⟨cells',h1,h2⟩:=oR hr (k:=i.size) parts.toList 0 xs [] ((List.replicate n z).flatten.map .d) ((Array.range (n * i.size)).map (fun j=>zv.cells[j % zv.cells.size]!)) hp rfl (by simp)
  (by rw [List.length_map,bU (k:=i.size) (by intro x hx; rw [List.eq_of_mem_replicate hx]; exact hzl)]; simp [hnl]) (by simpa using hz0)
 have hdrop : ((List.replicate n z).flatten.map AC.d).drop (parts.toList.length * i.size) = []:=by
  apply List.drop_of_length_le
  rw [List.length_map,bU (k:=i.size) (by intro x hx; rw [List.eq_of_mem_replicate hx]; exact hzl)]
  simp only [List.length_replicate,hnl]; exact Nat.le_refl _
 rw [hdrop,List.append_nil,List.nil_append] at h2
 have h2':=mw h2
 have hsz : cells'.size = n * i.size:=by
  have:=h2'.length
  rw [bU hlk,hxn] at this
  simpa using this.symm
 refine ⟨.slice (some ⟨w.heap.size,0,none⟩) n n,cells',e,n,?_,ObjRep.mk_row (B:=w.heap.size) (cap:=n) aK (b5 w _) hsz (by omega) (by omega) ?_ hlk h2' (fun j u hu=>by simpa using hu) (il hr.inv),?_⟩
 ·have hbig' : ¬ (n * i.size > 2 ^ 24):=by omega
  have hpm : (parts.map fun (x : Nat×Operand)=>(x.1,a.eval x.2)).toList = parts.toList.map fun p=>(p.1,a.eval p.2):=by simp
  simp only [execOp,ho,Instr.buildSlice,Sem.run_bind,run_underlying hu,Result.andThen_ok,bI hi,if_neg hbig']
  by_cases h0 : n * i.size = 0
  ·have e0 : ∀ f : Nat→Value,(Array.range (n * i.size)).map f = #[]:=by rw [h0]; intro f; simp
   rw [e0] at h1
   simp only [if_pos h0,Sem.run_bind,Sem.run_pure,Result.andThen_ok,e0,hpm,h1]
   simp [newRow]
  ·simp only [if_neg h0,Sem.run_bind,d6 hi hz,Sem.run_pure,Result.andThen_ok,hpm,h1]
   simp [newRow]
 ·rw [hxn]; omega
 ·have:=RepC.own (σ:=σ) (φ:=bL φ id (some (w.heap.size,n))) (sto:=(id,.row i.size i.bytes xs)::st.sto) (id:=id) (n:=n) (B:=w.heap.size) (cap:=n) aI (by omega) aK
  exact this
end Go.Abs
namespace Go.Abs
open Go
variable {P : Program} {c : Ctx} {T : Tab} {σ : Sig} {φ : Pl} {sto : Sto} {w : World}
theorem te(hT : aU P T){ops : Array Oper}{o : Oper}{rest : List Oper}{st : St}{K : St→Prop}{d id k b : Nat}{t e : TypeId}{z : List D}{x y : Operand}{n : Nat}
  (ho : o.op = .makeSlice t x y) (hg : o.guard = none) (hdst : o.dst = some d) (hd : (Nat.blt d c.n && Nat.blt id 1000000) = true) (ht : aR T t = some (e,k,b,z))
  (hx : ev st x = some (.one (.d (.int .i64 (n : Int))))) (hy : ev st y = some (.one (.d (.int .i64 (n : Int))))) (hn : n < 2 ^ 47) (hb : n * b≤2 ^ 47)
  (hm1 : bn id st.fr = false) (hm2 : aM id st.sto = false)
  (h : ac P c ops rest ⟨(d,.one (.own id n))::st.fr,(id,.row k b (List.replicate n z))::st.sto⟩ K) : ac P c ops (o::rest) st K:=by
 refine my hg hdst hd hm1 hm2 (fun a w σ φ hr=>?_) h
 obtain ⟨i,zv,hu,hi,rfl,rfl,hz,hzc,hzb,hzl⟩:=de hT ht
 have hz0:=nj (σ:=σ) (φ:=φ) (sto:=st.sto) hzc hzb hzl n
 have h1:=aC hr hx
 have h2:=aC hr hy
 replace h1:=RepC.d_inv h1
 replace h2:=RepC.d_inv h2
 generalize hux : a.eval x = ux at h1
 generalize huy : a.eval y = uy at h2
 cases h1
 cases h2
 have hlk : ∀ x∈List.replicate n z,x.length = i.size:=by intro x hx; rw [List.eq_of_mem_replicate hx]; exact hzl
 refine ⟨.slice (some ⟨w.heap.size,0,none⟩) n n,(Array.range (n * i.size)).map (fun j=>zv.cells[j % zv.cells.size]!),e,n,?_,
  ObjRep.mk_row (B:=w.heap.size) (cap:=n) aK (b5 w _) (by simp) (by simp) (by simp; omega) (by simpa using hb) hlk (mw hz0) (fun j u hu=>by rw [← Array.getElem?_toList]; exact hu) (il hr.inv),?_⟩
 ·have hwrap : IntKind.i64.wrap (n : Int) = n:=by
   unfold IntKind.wrap
   simp [IntKind.signed,IntKind.bits]
   have : (n : Int) % 18446744073709551616 = n:=Int.emod_eq_of_lt (by omega) (by omega)
   rw [this]; split <;> omega
  have hnb : (i.bytes : Int) * (n : Int)≤2 ^ 47:=by rw [Int.mul_comm]; exact_mod_cast hb
  have hbig : (decide ((n : Int) < 0) || decide ((i.bytes : Int) * (n : Int) > 2 ^ 48)) = false:=by
   simp only [Bool.or_eq_false_iff,decide_eq_false_iff_not]
   omega
  have hroom : (askRoom (n * i.bytes)).run P w = .ok () w:=by
   unfold askRoom roomBytes
   rw [if_neg (by omega)]; rfl
  simp only [execOp,ho,hux,huy,Instr.makeSlice,Sem.run_bind,run_underlying hu,Result.andThen_ok,asInt,asIntOf,Sem.run_pure,hwrap]
  simp only [typeInfo,Sem.run_bind,show (program).run P w = .ok P w from rfl,Result.andThen_ok,hi,Sem.run_pure]
  have hcond : ((decide ((n : Int) < 0) || decide ((i.bytes : Int) * (n : Int) > 2 ^ 48)) || decide ((n : Int) < 0) || decide ((n : Int) > (n : Int))) = false:=by
   rw [hbig]; simp
  simp only [hcond,Bool.false_eq_true,if_false,Int.toNat_natCast,Sem.run_bind,hroom,Result.andThen_ok,bI hi]
  by_cases h0 : n * i.size = 0
  ·have e0 : ∀ f : Nat→Value,(Array.range (n * i.size)).map f = #[]:=by rw [h0]; intro f; simp
   simp only [if_pos h0,Sem.run_bind,Sem.run_pure,Result.andThen_ok,e0]
   simp [newRow]
  ·simp only [if_neg h0,Sem.run_bind,d6 hi hz,Sem.run_pure,Result.andThen_ok]
   simp [newRow]
 ·exact RepC.own (cap:=n) aI (by simp) aK
theorem nV{a : Act}{st : St}(hr : Rel c st a w σ φ){x : Operand}{k : IntKind}{n : Int}(hx : ev st x = some (.one (.d (.int k n)))) : a.eval x = .int k n:=by
 have h1:=aC hr hx
 replace h1:=RepC.d_inv h1
 generalize a.eval x = u at h1
 cases h1; rfl
theorem E0(hT : aU P T){ops : Array Oper}{o : Oper}{rest : List Oper}{st : St}{K : St→Prop}{k b k' b' : Nat}{t e : TypeId}{z : List D}{x y : Operand}{xs : List (List D)}{ik : IntKind}{n : Int}{el : List D}
  (ho : o.op = .indexAddr t x y) (hg : o.guard = none) (hd : aP c.n o.dst = true) (ht : aR T t = some (e,k',b',z)) (hx : ev st x = some (.one (.d (.sl k b xs)))) (hk : Nat.beq k k' = true)
  (hy : ev st y = some (.one (.d (.int ik n)))) (hn : 0≤n) (hel : xs[n.toNat]? = some el)
  (h : ac P c ops rest ⟨bj o.dst (.one (.d (.ptr el))) st.fr,st.sto⟩ K) : ac P c ops (o::rest) st K :=
 ba hg fun a w σ φ hr=>by
  obtain ⟨i,zv,hu,hi,rfl,_⟩:=de hT ht
  obtain rfl:=Nat.eq_of_beq_eq_true hk
  have h1:=aC hr hx
  replace h1:=RepC.d_inv h1
  generalize hux : a.eval x = ux at h1
  have hlt : n.toNat < xs.length:=(List.getElem?_eq_some_iff.1 hel).1
  cases h1 with
  | sl vs hc h48 hb hk hA hh =>
    rename_i A cap
    obtain ⟨B,off,cells,rfl,hσ,hcell⟩:=hA (by omega)
    refine ⟨.pointer (some ⟨B,off + n.toNat * i.size,none⟩),w,_,σ,φ,?_,hr.put (v:=.one (.d (.ptr el))) hd (.d (.ptr (fun j=>vs n.toNat j) hσ (fun j hj=>?_) (fun j d hd=>?_))),h⟩
    ·have hc1 : 0≤n∧n < (xs.length : Int):=⟨hn,by omega⟩
     simp [execOp,ho,hux,nV hr hy,Instr.indexAt,asIntOf,run_underlying hu,hc1,bI hi,ff]
    ·have:=hk el (List.mem_of_getElem? hel)
     exact hcell _ _ hlt (by omega)
    ·exact hh _ _ _ _ hel hd
theorem zq(hT : aU P T){ops : Array Oper}{o : Oper}{rest : List Oper}{st : St}{K : St→Prop}{k b k' b' id m : Nat}{t e : TypeId}{z : List D}{x y : Operand}{xs : List (List D)}{ik : IntKind}{n : Int}
  (ho : o.op = .indexAddr t x y) (hg : o.guard = none) (hd : aP c.n o.dst = true) (ht : aR T t = some (e,k',b',z)) (hx : ev st x = some (.one (.own id m))) (hl : look st.sto id = some (.row k b xs)) (hk : Nat.beq k k' = true)
  (hy : ev st y = some (.one (.d (.int ik n)))) (hn : 0≤n) (hm : n < m)
  (h : ac P c ops rest ⟨bj o.dst (.one (.rref id n.toNat 0)) st.fr,st.sto⟩ K) : ac P c ops (o::rest) st K :=
 ba hg fun a w σ φ hr=>by
  obtain ⟨i,zv,hu,hi,rfl,_⟩:=de hT ht
  obtain rfl:=Nat.eq_of_beq_eq_true hk
  have h1 : RepC σ φ st.sto (.own id m) (a.eval x):=aC hr hx
  generalize hux : a.eval x = ux at h1
  cases h1 with
  | dead hxx _=>simp [bx,bP hl] at hxx
  | ownNil h hp=>omega
  | own hl' hn' hp =>
    rename_i B cap xs'
    rw [hl] at hl'; cases hl'
    refine ⟨.pointer (some ⟨B,n.toNat * i.size + 0,none⟩),w,_,σ,φ,?_,hr.put (v:=.one (.rref id n.toNat 0)) hd (.rref hl hp),h⟩
    have hc1 : 0≤n∧n < (m : Int):=⟨hn,hm⟩
    simp [execOp,ho,hux,nV hr hy,Instr.indexAt,asIntOf,run_underlying hu,hc1,bI hi,ff]
theorem zt(hT : aU P T){ops : Array Oper}{o : Oper}{rest : List Oper}{st : St}{K : St→Prop}{k b k' b' id lo m : Nat}{t e : TypeId}{z : List D}{x y : Operand}{xs : List (List D)}{ik : IntKind}{n : Int}
  (ho : o.op = .indexAddr t x y) (hg : o.guard = none) (hd : aP c.n o.dst = true) (ht : aR T t = some (e,k',b',z)) (hx : ev st x = some (.one (.sub id lo m))) (hl : look st.sto id = some (.row k b xs)) (hk : Nat.beq k k' = true)
  (hy : ev st y = some (.one (.d (.int ik n)))) (hn : 0≤n) (hm : n < m)
  (h : ac P c ops rest ⟨bj o.dst (.one (.rref id (lo + n.toNat) 0)) st.fr,st.sto⟩ K) : ac P c ops (o::rest) st K :=
 ba hg fun a w σ φ hr=>by
  obtain ⟨i,zv,hu,hi,rfl,_⟩:=de hT ht
  obtain rfl:=Nat.eq_of_beq_eq_true hk
  have h1 : RepC σ φ st.sto (.sub id lo m) (a.eval x):=aC hr hx
  generalize hux : a.eval x = ux at h1
  cases h1 with
  | dead hxx _=>simp [bx,bP hl] at hxx
  | sub hl' hn' hc hA =>
    rename_i A c' xs'
    rw [hl] at hl'; cases hl'
    obtain ⟨B,cap,hp,rfl⟩:=hA (by omega)
    refine ⟨.pointer (some ⟨B,(lo + n.toNat) * i.size + 0,none⟩),w,_,σ,φ,?_,hr.put (v:=.one (.rref id (lo + n.toNat) 0)) hd (.rref hl hp),h⟩
    have hc1 : 0≤n∧n < (m : Int):=⟨hn,hm⟩
    simp [execOp,ho,hux,nV hr hy,Instr.indexAt,asIntOf,run_underlying hu,hc1,bI hi,ff,Nat.add_mul]
def oq(T : Tab)(t : TypeId) : Option (Nat×Nat) :=
 match look T t with
 | some ⟨.array n e,_,_,_⟩=>match look T e with
   | some td=>some (n,td.size)
   | none=>none
 | _=>none
theorem ze(hT : aU P T){t n s : Nat}(h : oq T t = some (n,s)) : ∃ (e : TypeId) (i : TypeInfo),P.underlying t = some (.array n e)∧P.info? e = some i∧i.size = s:=by
 unfold oq at h
 split at h
 ·rename_i e' _ _ _ h1
  split at h <;> simp at h
  rename_i td h2
  obtain ⟨rfl,rfl⟩:=h
  obtain ⟨_,u,_,_,hu,_,_,_,hk,_⟩:=(hT t _ h1).ex
  simp only [dR] at hk; subst hk
  obtain ⟨i,_,_,hi,_,hs,_⟩:=(hT _ td h2).ex
  exact ⟨_,i,hu,hi,hs⟩
 ·simp at h
theorem zu(hT : aU P T){ops : Array Oper}{o : Oper}{rest : List Oper}{st : St}{K : St→Prop}{m s : Nat}{t : TypeId}{x y : Operand}{ik : IntKind}{n : Int}{v v' : AV}
  (ho : o.op = .indexAddr t x y) (hg : o.guard = none) (hd : aP c.n o.dst = true) (ht : oq T t = some (m,s)) (hx : ev st x = some v)
  (hy : ev st y = some (.one (.d (.int ik n)))) (hn : 0≤n) (hm : n < m) (hv : mW st.sto (n.toNat * s) v = some v')
  (h : ac P c ops rest ⟨bj o.dst v' st.fr,st.sto⟩ K) : ac P c ops (o::rest) st K :=
 ba hg fun a w σ φ hr=>by
  obtain ⟨e,i,hu,hi,rfl⟩:=ze hT ht
  obtain ⟨B,off,hux,hv'⟩:=nY hv (aC hr hx)
  refine ⟨.pointer (some ⟨B,off + n.toNat * i.size,none⟩),w,_,σ,φ,?_,hr.put hd hv',h⟩
  have hc1 : 0≤n∧n < (m : Int):=⟨hn,hm⟩
  simp [execOp,ho,hux,nV hr hy,Instr.indexAt,Instr.sureAddr,asIntOf,run_underlying hu,hc1,bI hi,ff]
theorem zc{a : Act}{st : St}(hr : Rel c st a w σ φ){x : Operand}{s : List UInt8}(hx : ev st x = some (.one (.d (.str s)))) : a.eval x = .string ⟨s.toArray⟩∧s.length < 2 ^ 48:=by
 have h1:=aC hr hx
 replace h1:=RepC.d_inv h1
 generalize a.eval x = u at h1
 cases h1 with
 | str h=>exact ⟨rfl,h⟩
def fP(T : Tab)(t : TypeId) : Bool:=match look T t with | some ⟨.str,_,_,_⟩=>true | _=>false
theorem qj(hT : aU P T){t : TypeId}(h : fP T t = true) : P.underlying t = some .string:=by
 unfold fP at h
 split at h
 ·rename_i h1
  obtain ⟨_,u,_,_,hu,_,_,_,hk,_⟩:=(hT t _ h1).ex
  simp only [dR] at hk; subst hk; exact hu
 ·simp at h
theorem zw(hT : aU P T){ops : Array Oper}{o : Oper}{rest : List Oper}{st : St}{K : St→Prop}{t : TypeId}{x y : Operand}{ik : IntKind}{n : Int}{s : List UInt8}{b : UInt8}
  (ho : o.op = .index t x y) (hg : o.guard = none) (hd : aP c.n o.dst = true) (ht : fP T t = true) (hx : ev st x = some (.one (.d (.str s))))
  (hy : ev st y = some (.one (.d (.int ik n)))) (hn : 0≤n) (hb : s[n.toNat]? = some b)
  (h : ac P c ops rest ⟨bj o.dst (.one (.d (.int .u8 (b.toNat : Int)))) st.fr,st.sto⟩ K) : ac P c ops (o::rest) st K :=
 ba hg fun a w σ φ hr=>by
  have hu:=qj hT ht
  obtain ⟨hux,_⟩:=zc hr hx
  refine ⟨.int .u8 b.toNat,w,_,σ,φ,?_,hr.put (v:=.one (.d (.int .u8 (b.toNat : Int)))) hd (RepC.d (.int ?_)),h⟩
  ·have hg' : (⟨s.toArray⟩ : ByteArray)[n.toNat]? = some b:=by
    have hlt : n.toNat < s.length:=(List.getElem?_eq_some_iff.1 hb).1
    have hlt' : n.toNat < (⟨s.toArray⟩ : ByteArray).size:=by simpa [ByteArray.size] using hlt
    rw [getElem?_pos (⟨s.toArray⟩ : ByteArray) n.toNat hlt']
    have : s[n.toNat] = b:=(List.getElem?_eq_some_iff.1 hb).2
    rw [← this]; rfl
   simp [execOp,ho,hux,nV hr hy,Instr.index,asIntOf,run_underlying hu,hn,hg']
  ·have:=b.toNat_lt
   unfold inR IntKind.min IntKind.max
   simp [IntKind.signed,IntKind.bits]; omega
theorem Aa(hT : aU P T){ops : Array Oper}{o : Oper}{rest : List Oper}{st : St}{K : St→Prop}{t : TypeId}{x : Operand}{id i off k b s : Nat}{g : Bool}{xs : List (List D)}{el : List D}{v : AV}
  (ho : o.op = .load t x) (hg : o.guard = none) (hd : aP c.n o.dst = true) (ht : iI T t = some (g,s)) (hx : ev st x = some (.one (.rref id i off))) (hl : look st.sto id = some (.row k b xs))
  (hel : xs[i]? = some el) (hv : eX g s ((el.drop off).map .d) = some v)
  (h : ac P c ops rest ⟨bj o.dst v st.fr,st.sto⟩ K) : ac P c ops (o::rest) st K :=
 ba hg fun a w σ φ hr=>by
  have h1 : RepC σ φ st.sto (.rref id i off) (a.eval x):=aC hr hx
  generalize hux : a.eval x = ux at h1
  cases h1 with
  | dead hxx _=>simp [bx,bP hl] at hxx
  | rref hl' hp =>
    rename_i k' b' B cap xs'
    rw [hl] at hl'; cases hl'
    obtain ⟨arr,ty,us,hh,hsz,hle,_,_,hlk,ha,hcell,_,hul⟩:=(hr.inv.obj _ _ hl).row_cells hp
    have hi : i < xs.length:=(List.getElem?_eq_some_iff.1 hel).1
    have hek:=hlk el (List.mem_of_getElem? hel)
    have hall : All2 (Rep σ) el ((us.drop (i * k)).take k):=by
     refine All2.of_get ?_ fun j d u hd hu=>?_
     ·have : (i + 1) * k≤xs.length * k:=Nat.mul_le_mul_right _ hi
      rw [Nat.succ_mul] at this
      simp [hul,hek]; omega
     ·have hj : j < k:=by rw [← hek]; exact (List.getElem?_eq_some_iff.1 hd).1
      rw [List.getElem?_take,if_pos hj,List.getElem?_drop] at hu
      obtain ⟨u',hu',hru⟩:=ha.get ((dP hlk hel hj).trans hd)
      rw [hu] at hu'; cases hu'; exact hru
    have hmem : i6 w B (i * k + off) (((us.drop (i * k)).take k).drop off):=by
     intro j u hu
     rw [List.getElem?_drop,List.getElem?_take] at hu
     split at hu
     ·rw [List.getElem?_drop] at hu
      rw [fF hh,Nat.add_assoc]
      exact hcell _ _ hu
     ·cases hu
    obtain ⟨u,hu,hru⟩:=jR (φ:=φ) (sto:=st.sto) hT ht hv ((hall.drop off).map_d) hmem
    exact ⟨u,w,_,σ,φ,by simp [execOp,ho,hux,hu],hr.put hd hru,h⟩
end Go.Abs
namespace Go.Abs
open Go
variable {P : Program} {c : Ctx} {T : Tab} {σ : Sig} {φ : Pl} {sto : Sto} {w : World}
theorem n9{v : Value}(h : v.oneCell = true) : v.oneCell' = true:=by cases v <;> first | rfl | simp [Value.oneCell] at h
theorem Aq{cs : List AC}{vs : List Value}(h : All2 (RepC σ φ sto) cs vs) : ∀ v∈vs,v.oneCell' = true:=by
 induction cs generalizing vs with
 | nil=>cases vs with
   | nil=>simp
   | cons _ _=>exact h.elim
 | cons c cs ih=>cases vs with
   | nil=>exact h.elim
   | cons v vs =>
     intro u hu
     rcases List.mem_cons.1 hu with rfl | hu
     ·exact n9 h.1.oneCell
     ·exact ih h.2 u hu
theorem Rel.write{st : St}{a : Act}(h : Rel c st a w σ φ){id B cap : Nat}{o o' : AObj}{arr arr' : Array Value}{t : TypeId}(hl : look st.sto id = some o)(hp : φ id = some (B,cap))
  (hh : w.heap[B]? = some (.cells arr t (0,0))) (hc : compat o o') (hobj : ObjRep σ φ ((id,o')::st.sto) (w.setRow B arr') id o') :
  ∃ σ' φ',Rel c ⟨st.fr,bH id o' st.sto⟩ a (w.setRow B arr') σ' φ':=by
 have hE : Ext (fun _=>False) φ φ st.sto ((id,o')::st.sto):=Ext.upd hl hc
 have hm:=h.mine _ _ _ hl hp
 have h1 : Rel c ⟨st.fr,(id,o')::st.sto⟩ a (w.setRow B arr') σ φ:=by
  refine ⟨h.le,h.fresh,h.inv.set hl hp ((h.inv.obj _ _ hl).sig hp) (fun b hb=>setRow_other w B b arr' hb) hc hobj,fun i e p hi hpi=>?_,fun s v hv=>?_,h.defers,h.size,?_,h.pin⟩
  ·rcases ah hi with ⟨rfl,rfl⟩ | ⟨_,hi⟩
   ·rw [hp] at hpi; cases hpi; exact hm
   ·exact h.mine _ _ _ hi hpi
  ·obtain ⟨u,hu,hru⟩:=h.slot s v hv
   exact ⟨u,hu,hru.ext (Sig.le_refl _) hE fun j hj=>by cases hj⟩
  ·refine ⟨h.fra.os,h.fra.tape,h.fra.output,by rw [setRow_size]; exact h.fra.size,h.fra.drawn,fun b hb hM=>?_⟩
   have : b≠B:=by
    rintro rfl
    rcases hm with hm | hm
    ·simp only at hm; omega
    ·exact hM hm
   rw [setRow_other w B b arr' this]
   exact h.fra.block b hb hM
 exact nB (fun i=>ci) a _ σ φ h1
theorem mH{t ty : TypeId}{i : TypeInfo}{B o : Nat}{arr : Array Value}{v : Value}(hi : P.info? t = some i)(hh : w.heap[B]? = some (.cells arr ty (0,0)))(hs : v.cells.size = i.size)
  (hf : o + v.cells.size≤arr.size) (h1 : ∀ u∈v.cells.toList,u.oneCell' = true) :
  (storeVar t ⟨B,o,none⟩ v).run P w = .ok () (w.setRow B (arr.toList.take o ++ v.cells.toList ++ arr.toList.drop (o + v.cells.toList.length)).toArray):=by
 have hst:=run_storeCells_at P B o ty v.cells.toList 0 arr w hh (by simpa using hf) h1
 simp only [Nat.add_zero] at hst
 unfold storeVar
 simp only [Sem.run_bind,bI hi,Result.andThen_ok,hs,ne_eq,not_true_eq_false,if_false]
 exact hst
theorem zU(hT : aU P T){ops : Array Oper}{o : Oper}{rest : List Oper}{st : St}{K : St→Prop}{t : TypeId}{x y : Operand}{id off s : Nat}{g : Bool}{cells cs cells' : List AC}{v : AV}
  (ho : o.op = .store t x y) (hg : o.guard = none) (hdst : o.dst = none) (ht : iI T t = some (g,s)) (hx : ev st x = some (.one (.ref id off))) (hl : look st.sto id = some (.box cells))
  (hy : ev st y = some v) (hc : cellsOf v = some cs) (hn : Nat.beq cs.length s = true) (hsp : cM off cs cells = some cells')
  (h : ac P c ops rest ⟨st.fr,bH id (.box cells') st.sto⟩ K) : ac P c ops (o::rest) st K:=by
 refine ov hg fun a w σ φ hr=>?_
 obtain ⟨i,u,hi,_,hs,_⟩:=xX hT ht
 have h1 : RepC σ φ st.sto (.ref id off) (a.eval x):=aC hr hx
 generalize hux : a.eval x = ux at h1
 have hrep:=gi hc (aC hr hy)
 have hns:=Nat.eq_of_beq_eq_true hn
 obtain ⟨he,hle⟩:=jk hsp
 cases h1 with
 | dead hxx _=>simp [bx,bP hl] at hxx
 | ref hl' hp =>
   rename_i B cap cs'
   rw [hl] at hl'; cases hl'
   obtain ⟨B',c',vs,ty,hp',hh,ha,hσ⟩:=hr.inv.obj _ _ hl
   rw [hp] at hp'; cases hp'
   have hlen:=hrep.length
   have hlen2:=ha.length
   have hE : Ext (fun _=>False) φ φ st.sto ((id,.box cells')::st.sto):=Ext.upd hl trivial
   have hrun:=mH (P:=P) (w:=w) (t:=t) (v:=a.eval y) (o:=off) hi hh (by rw [hs,← hns,hlen,Array.length_toList]) (by rw [← Array.length_toList,← hlen]; simp; omega) (Aq hrep)
   obtain ⟨σ',φ',hr'⟩:=hr.write (o':=.box cells') (arr':=(vs.take off ++ (a.eval y).cells.toList ++ vs.drop (off + (a.eval y).cells.toList.length)).toArray) hl hp hh trivial
    ⟨B,cap,_,ty,hp,setRow_heap w B _ _ ty _ hh,jb (Sig.le_refl _) hE (fun j hj=>by cases hj) (by
     rw [he,hlen]
     exact ((ha.take off).append hrep).append (ha.drop _)),hσ⟩
   refine ⟨_,_,σ',φ',?_,by rw [hdst]; exact hr',h⟩
   simp only [execOp,ho,hux,Instr.storeAt,Instr.sureAddr,Sem.run_bind,Sem.run_pure,Result.andThen_ok,hrun]
theorem pC{α : Type}{k : Nat} : ∀ {xs : List (List α)} {i : Nat} {x y : List α},(∀ x∈xs,x.length = k)→xs[i]? = some x→y.length = k →
  (xs.set i y).flatten = xs.flatten.take (i * k) ++ y ++ xs.flatten.drop (i * k + k)
 | [],_,_,_,_,h,_=>by simp at h
 | z::zs,0,x,y,hk,h,hy=>by
   have hz:=hk z (by simp)
   simp [hz]
 | z::zs,i + 1,x,y,hk,h,hy=>by
   have hz:=hk z (by simp)
   simp only [List.set_cons_succ,List.flatten_cons]
   rw [pC (fun x hx=>hk x (by simp [hx])) (by simpa using h) hy]
   have e1 : (i + 1) * k = z.length + i * k:=by rw [hz,Nat.succ_mul]; omega
   have e2 : (i + 1) * k + k = z.length + (i * k + k):=by omega
   rw [e1,Nat.add_assoc,List.take_append,List.drop_append,List.take_of_length_le (Nat.le_add_right _ _),List.drop_of_length_le (Nat.le_add_right _ _),Nat.add_sub_cancel_left,Nat.add_sub_cancel_left]
   simp
theorem xY(hT : aU P T){ops : Array Oper}{o : Oper}{rest : List Oper}{st : St}{K : St→Prop}{t : TypeId}{x y : Operand}{id j off k b s : Nat}{g : Bool}{xs : List (List D)}{el el' ds : List D}{cs : List AC}{v : AV}
  (ho : o.op = .store t x y) (hg : o.guard = none) (hdst : o.dst = none) (ht : iI T t = some (g,s)) (hx : ev st x = some (.one (.rref id j off))) (hl : look st.sto id = some (.row k b xs)) (hel : xs[j]? = some el)
  (hy : ev st y = some v) (hc : cellsOf v = some cs) (hn : Nat.beq cs.length s = true) (hds : eL cs = some ds) (hsp : cM off ds el = some el')
  (h : ac P c ops rest ⟨st.fr,bH id (.row k b (xs.set j el')) st.sto⟩ K) : ac P c ops (o::rest) st K:=by
 refine ov hg fun a w σ φ hr=>?_
 obtain ⟨i,u,hi,_,hs,_⟩:=xX hT ht
 have h1 : RepC σ φ st.sto (.rref id j off) (a.eval x):=aC hr hx
 generalize hux : a.eval x = ux at h1
 obtain rfl:=j5 hds
 have hrep:=gi hc (aC hr hy)
 have hns:=Nat.eq_of_beq_eq_true hn
 obtain ⟨he,hle⟩:=jk hsp
 cases h1 with
 | dead hxx _=>simp [bx,bP hl] at hxx
 | rref hl' hp =>
   rename_i k' b' B cap xs'
   rw [hl] at hl'; cases hl'
   obtain ⟨arr,ty,us,hh,hsz,hle2,h48,hb47,hlk,ha,hcell,hσ,hul⟩:=(hr.inv.obj _ _ hl).row_cells hp
   have hlen:=hrep.length
   rw [List.length_map] at hlen hns
   have hj : j < xs.length:=(List.getElem?_eq_some_iff.1 hel).1
   have hek:=hlk el (List.mem_of_getElem? hel)
   have hel'k : el'.length = k:=by rw [he]; simp; omega
   have hjk : j * k + k≤xs.length * k:=by have:=Nat.mul_le_mul_right k hj; rw [Nat.succ_mul] at this; exact this
   have hasz : xs.length * k≤arr.size:=by rw [hsz]; exact Nat.mul_le_mul_right _ hle2
   have hrun:=mH (P:=P) (w:=w) (t:=t) (v:=a.eval y) (o:=j * k + off) hi hh (by rw [hs,← hns,hlen,Array.length_toList]) (by rw [← Array.length_toList,← hlen]; omega) (Aq hrep)
   have hus : ∀ (q : Nat) (u : Value),(us.take (j * k + off) ++ (a.eval y).cells.toList ++ us.drop (j * k + off + (a.eval y).cells.toList.length))[q]? = some u →
     ((arr.toList.take (j * k + off) ++ (a.eval y).cells.toList ++ arr.toList.drop (j * k + off + (a.eval y).cells.toList.length)).toArray)[q]? = some u:=by
    intro q u hq
    have hl1 : (us.take (j * k + off)).length = j * k + off:=by simp; omega
    have hl2 : (arr.toList.take (j * k + off)).length = j * k + off:=by simp; omega
    rw [List.append_assoc] at hq
    simp only [List.getElem?_toArray,List.append_assoc]
    rcases Nat.lt_or_ge q (j * k + off) with h0 | h0
    ·rw [List.getElem?_append_left (by omega),List.getElem?_take,if_pos h0] at hq
     rw [List.getElem?_append_left (by omega),List.getElem?_take,if_pos h0,Array.getElem?_toList]
     exact hcell _ _ hq
    ·rw [List.getElem?_append_right (by omega),hl1] at hq
     rw [List.getElem?_append_right (by omega),hl2]
     rcases Nat.lt_or_ge (q - (j * k + off)) (a.eval y).cells.toList.length with h2 | h2
     ·rw [List.getElem?_append_left h2] at hq ⊢
      exact hq
     ·rw [List.getElem?_append_right h2,List.getElem?_drop] at hq
      rw [List.getElem?_append_right h2,List.getElem?_drop,Array.getElem?_toList]
      exact hcell _ _ hq
   have hrow : (xs.set j el').flatten = xs.flatten.take (j * k + off) ++ ds ++ xs.flatten.drop (j * k + off + ds.length):=by
    rw [pC hlk hel hel'k,he]
    have hfl:=bU hlk
    have e1 : xs.flatten.take (j * k + off) = xs.flatten.take (j * k) ++ el.take off:=by
     apply List.ext_getElem?
     intro q
     rw [List.getElem?_take]
     have hl1 : (xs.flatten.take (j * k)).length = j * k:=by simp only [List.length_take,hfl]; omega
     split
     ·rcases Nat.lt_or_ge q (j * k) with h0 | h0
      ·rw [List.getElem?_append_left (by omega),List.getElem?_take,if_pos h0]
      ·rw [List.getElem?_append_right (by omega),hl1,List.getElem?_take,if_pos (by omega)]
       have:=dP (j:=q - j * k) hlk hel (by omega)
       rw [← this]; congr 1; omega
     ·rw [List.getElem?_append_right (by omega),hl1,List.getElem?_take,if_neg (by omega)]
    have e2 : xs.flatten.drop (j * k + off + ds.length) = el.drop (off + ds.length) ++ xs.flatten.drop (j * k + k):=by
     apply List.ext_getElem?
     intro q
     rw [List.getElem?_drop]
     have hl1 : (el.drop (off + ds.length)).length = k - (off + ds.length):=by simp [hek]
     rcases Nat.lt_or_ge q (k - (off + ds.length)) with h0 | h0
     ·rw [List.getElem?_append_left (by omega),List.getElem?_drop]
      have:=dP (j:=off + ds.length + q) hlk hel (by omega)
      rw [← this]; congr 1; omega
     ·rw [List.getElem?_append_right (by omega),hl1,List.getElem?_drop]
      congr 1; omega
    rw [e1,e2]
    simp
   have hmap : All2 (Rep σ) ds (a.eval y).cells.toList:=mw hrep
   obtain ⟨σ',φ',hr'⟩:=hr.write (o':=.row k b (xs.set j el')) (arr':=(arr.toList.take (j * k + off) ++ (a.eval y).cells.toList ++ arr.toList.drop (j * k + off + (a.eval y).cells.toList.length)).toArray) hl hp hh
    ⟨rfl,rfl,by simp⟩
    (ObjRep.mk_row hp (setRow_heap w B _ _ ty _ hh) (by rw [← hsz,List.size_toArray]; simp only [List.length_append,List.length_take,List.length_drop,Array.length_toList] at hlen ⊢; omega) (by simpa using hle2) (by simpa using h48) (by simpa using hb47) (fun x hx=>by
     rcases List.mem_or_eq_of_mem_set hx with hx | rfl
     ·exact hlk x hx
     ·exact hel'k) (by
     rw [hrow]
     have:=hmap.length
     rw [this]
     exact ((ha.take _).append hmap).append (ha.drop _)) hus hσ)
   refine ⟨_,_,σ',φ',?_,by rw [hdst]; exact hr',h⟩
   simp only [execOp,ho,hux,Instr.storeAt,Instr.sureAddr,Sem.run_bind,Sem.run_pure,Result.andThen_ok,hrun]
end Go.Abs
