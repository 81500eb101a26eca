import Derived.Lib.Strings
import Derived.Test.YtpejdgkaapnekaaGreatKP1
set_option linter.unusedVariables false
set_option linter.unusedSimpArgs false
set_option maxHeartbeats 1000000
namespace Go.Abs
open Go
variable {P:Program} {c:Ctx} {T:Tab} {σ:Sig} {φ:Pl} {sto:Sto} {w:World}
theorem pG{α:Type}:∀ {o:Nat} {n l:List α},o+n.length≤l.length→dK o n l=some (l.take o++n++l.drop (o+n.length))
 | 0,[],l,_=>by simp[dK]
 | 0,c::n,x::l,h=>by
   simp only[Xq] at h
   simp only[dK]
   rw[pG (o:=0) (by omega)]
   simp
 | o+1,n,x::l,h=>by
   simp only[Xq] at h
   simp only[dK]
   rw[pG (o:=o) (by omega)]
   have:o+1+n.length=(o+n.length)+1:=by omega
   simp[this]
 | 0,_::_,[],h=>by simp at h
 | o+1,n,[],h=>by simp at h
theorem fg{α:Type}{k:Nat}:∀ {xs:List (List α)} {i j:Nat} {x:List α},(∀ x∈xs,x.length=k)→xs[i]?=some x→j<k→xs.flatten[i*k+j]?=x[j]?
 | [],_,_,_,_,h,_=>by simp at h
 | y::ys,0,j,x,hk,h,hj=>by
   simp at h;subst h
   have:=hk y (by simp)
   simp only[List.flatten_cons,Nat.zero_mul,Xp]
   rw[Xw (by omega)]
 | y::ys,i+1,j,x,hk,h,hj=>by
   have hy:=hk y (by simp)
   have e:(i+1)*k+j=y.length+(i*k+j):=by rw[hy,Nat.succ_mul];omega
   simp only[List.flatten_cons]
   rw[e,Xy (by omega),X9]
   exact fg (fun x hx=>hk x (by simp[hx])) (by simpa using h) hj
theorem cP{α:Type}{k:Nat}:∀ {xs:List (List α)},(∀ x∈xs,x.length=k)→xs.flatten.length=xs.length*k
 | [],_=>by simp
 | y::ys,hk=>by
   have hy:=hk y (by simp)
   simp only[List.flatten_cons,W9,Xq]
   rw[cP (fun x hx=>hk x (by simp[hx])),hy,Nat.succ_mul];omega
theorem ObjRep.mk_row{id k b B cap:Nat}{xs:List (List D)}{arr:Array Value}{t:TypeId}(h1:φ id=some (B,cap))(h2:w.heap[B]?=some (.cells arr t (0,0)))(h3:arr.size=cap*k)
  (h4:xs.length≤cap) (h5:xs.length<2^48) (h6:xs.length*b≤2^47) (h7:∀ x∈xs,x.length=k) {us:List Value} (h8:All2 (Rep σ) xs.flatten us)
  (h9:∀ (j:Nat) (u:Value),us[j]?=some u→arr[j]?=some u) (h10:σ B=none):ObjRep σ φ sto w id (.row k b xs):=by
 have key:∀ i j x d,xs[i]?=some x→x[j]?=some d→∃ u,arr[i*k+j]?=some u∧Rep σ d u:=by
  intro i j x d hx hd
  have hj:j<k:=by
   rw[← h7 x (List.mem_of_getElem? hx)]
   exact (W8.1 hd).1
  obtain⟨u,hu,hr⟩:=h8.get ((fg h7 hx hj).trans hd)
  exact⟨u,h9 _ _ hu,hr⟩
 refine .inr ⟨B,cap,arr,t,fun i j=>arr.getD (i*k+j) undef,h1,h2,h3,h4,h5,h6,h7,fun i j hi hj=>?_,fun i j x d hx hd=>?_,h10⟩
 ·have hx:xs[i]?=some xs[i]:=Xf hi
  have hl:=h7 xs[i] (List.getElem_mem hi)
  obtain⟨u,hu,_⟩:=key i j xs[i] (xs[i][j]'(by omega)) hx (Xf (by omega))
  simp[Xv,hu]
 ·obtain⟨u,hu,hr⟩:=key i j x d hx hd
  simpa[Xv,hu] using hr
theorem ObjRep.row_cells{id k b B cap:Nat}{xs:List (List D)}(h:ObjRep σ φ sto w id (.row k b xs))(hp:φ id=some (B,cap)) :
  ∃ (arr:Array Value) (t:TypeId) (us:List Value),w.heap[B]?=some (.cells arr t (0,0))∧arr.size=cap*k∧xs.length≤cap∧xs.length<2^48∧xs.length*b≤2^47∧(∀ x∈xs,x.length=k) ∧
    All2 (Rep σ) xs.flatten us∧(∀ (j:Nat) (u:Value),us[j]?=some u→arr[j]?=some u)∧σ B=none∧us.length=xs.length*k:=by
 rcases h with⟨_,h2⟩|⟨B',cap',arr,t,vs,h1,h2,h3,h4,h5,h6,h7,h8,h9,h10⟩
 ·rw[hp] at h2;cases h2
 ·rw[hp] at h1;cases h1
  have hfl:=cP h7
  have hsz:xs.length*k≤arr.size:=by rw[h3];exact Xn _ h4
  refine⟨arr,t,arr.toList.take (xs.length*k),h2,h3,h4,h5,h6,h7,?_,?_,h10,?_⟩
  ·refine All2.of_get (by simp[hfl];omega) fun j d u hd hu=>?_
   have hj:j<xs.length*k:=by rw[← hfl];exact (W8.1 hd).1
   have hk:0<k:=by
    rcases Yd k with h0|h0
    ·subst h0;simp at hj
    ·exact h0
   have hi:j / k<xs.length:=Yc (by rw[Yo];exact hj)
   have hm:j % k<k:=Nat.mod_lt _ hk
   have hx:xs[j / k]?=some xs[j / k]:=Xf hi
   have e:j / k*k+j % k=j:=by rw[Yo];exact Nat.div_add_mod j k
   have h11:=fg h7 hx hm
   rw[e,hd] at h11
   have h12:=h8 (j / k) (j % k) hi hm
   rw[e] at h12
   have h13:=h9 (j / k) (j % k) _ d hx h11.symm
   have:u=vs (j / k) (j % k):=by
    rw[XH,if_pos hj] at hu
    rw[XP,h12] at hu
    cases hu;rfl
   rw[this];exact h13
  ·intro j u hu
   rw[XH] at hu
   split at hu
   ·simpa using hu
   ·cases hu
  ·simp;omega
theorem pX{fr:List (Nat×AV)}{sto sto':Sto}(h:∀ i,look sto' i=look sto i):Imp c ⟨fr,sto⟩ ⟨fr,sto'⟩:=by
 intro a w σ φ hr
 have hE:Ext (fun _=>False) φ φ sto sto':=Ext.of_some (fun i e _ hi=>⟨rfl,e,(h i).trans hi,compat.refl _⟩) (fun i _ hi=>(h i).trans hi)
 refine⟨σ,φ,⟨hr.le,hr.fresh,⟨hr.inv.sig,fun i e hi=>?_,fun i i' e e' p p' hi hi'=>hr.inv.inj _ _ _ _ _ _ ((h i).symm.trans hi) ((h i').symm.trans hi')⟩,
  fun i e p hi hp=>hr.mine _ _ _ ((h i).symm.trans hi) hp,fun s v hv=>?_,hr.defers,hr.size,hr.fra,hr.pin⟩⟩
 ·exact (hr.inv.obj _ _ ((h i).symm.trans hi)).ext (Sig.le_refl _) hE (fun j hj=>by cases hj) rfl fun _ _ _=>⟨rfl,rfl⟩
 ·obtain⟨u,hu,hru⟩:=hr.slot s v hv
  exact⟨u,hu,hru.ext (Sig.le_refl _) hE fun j hj=>by cases hj⟩
def cD(id:Nat)(o:AObj):Sto→Sto
 | []=>[(id,o)]
 | p::r=>bif Nat.beq p.1 id then (id,o)::r else p::cD id o r
theorem dq{id:Nat}{o:AObj}:∀ {sto:Sto} {i:Nat},look (cD id o sto) i=look ((id,o)::sto) i
 | [],_=>rfl
 | (j,x)::r,i=>by
   simp only[cD]
   cases hb:Nat.beq j id with
   | true =>
     have:=W4 hb;subst this
     simp only[Yf,look]
     cases Nat.beq j i<;>rfl
   | false =>
     simp only[Ye,look,dq (sto:=r)]
     cases h1:Nat.beq j i<;>cases h2:Nat.beq id i<;>simp
     have e1:=W4 h1
     have e2:=W4 h2
     subst e1;subst e2
     rw[XN] at hb;cases hb
end Go.Abs
namespace Go.Abs
open Go
variable {P:Program} {c:Ctx} {T:Tab} {σ:Sig} {φ:Pl} {sto:Sto} {w:World}
def bc(T:Tab)(t:TypeId):Option (TypeId×Nat×Nat×List D) :=
 match look T t with
 | some ⟨.slice e,_,_,_⟩=>match look T e with
   | some td=>some (e,td.size,td.bytes,td.zero)
   | none=>none
 | _=>none
theorem eb(hT:bg P T){t e k b:Nat}{z:List D}(h:bc T t=some (e,k,b,z)) :
  ∃ (i:TypeInfo) (zv:Value),P.underlying t=some (.slice e)∧P.info? e=some i∧i.size=k∧i.bytes=b∧i.zero=some zv∧zv.cells=(z.map jW).toArray∧(∀ x∈z,iX x=true)∧z.length=k:=by
 unfold bc at h
 split at h
 ·rename_i e' _ _ _ h1
  split at h<;>simp at h
  rename_i td h2
  obtain⟨rfl,rfl,rfl,rfl⟩:=h
  obtain⟨_,u,_,_,hu,_,_,_,hk,_⟩:=(hT t _ h1).ex
  simp only[fj] at hk;subst hk
  obtain⟨i,_,zv,hi,_,hs,hb,hz,_,hzc,hzb,hzl,_⟩:=(hT e' td h2).ex
  exact⟨i,zv,hu,hi,hs,hb,hz,hzc,hzb,hzl⟩
 ·simp at h
def eJ(st:St)(k:Nat):Nat→List (Nat×Operand)→Option (List (List D))
 | _,[]=>some []
 | i,(j,x)::r=>bif Nat.beq i j then (match ev st x with
   | some v=>(match cellsOf v with
     | some cs=>(match gf cs with
       | some ds=>bif Nat.beq ds.length k then (match eJ st k (i+1) r with|some l=>some (ds::l)|none=>none) else none
       | none=>none)
     | none=>none)
   | none=>none) else none
theorem rD{st:St}{k:Nat}:∀ {parts:List (Nat×Operand)} {i:Nat} {xs:List (List D)},eJ st k i parts=some xs→xs.length=parts.length∧∀ x∈xs,x.length=k
 | [],_,xs,h=>by simp[eJ] at h;subst h;simp
 | (j,x)::r,i,xs,h=>by
   simp only[eJ] at h
   cases hb:Nat.beq i j<;>simp only[hb,Yf,Ye,reduceCtorEq] at h
   split at h<;>(try (simp at h;done))
   split at h<;>(try (simp at h;done))
   split at h<;>(try (simp at h;done))
   rename_i ds hd
   cases hk:Nat.beq ds.length k<;>simp only[hk,Yf,Ye,reduceCtorEq] at h
   split at h<;>simp at h
   rename_i l hl
   subst h
   obtain⟨h1,h2⟩:=rD hl
   exact⟨by simp[h1],fun x hx=>by
    rcases Xo.1 hx with rfl|hx
    ·exact W4 hk
    ·exact h2 x hx⟩
theorem oF:∀ {ds:List D} {vs:List Value},All2 (RepC σ φ sto) (ds.map .d) vs→All2 (Rep σ) ds vs
 | [],[],_=>trivial
 | _::_,_::_,h=>⟨by have h:=RepC.d_inv h.1;exact h,oF h.2⟩
 | [],_::_,h=>h.elim
 | _::_,[],h=>h.elim
theorem rE{c:Ctx}{st:St}{a:Act}(hrel:Rel c st a w σ φ){k:Nat} :
  ∀ (parts:List (Nat×Operand)) (i:Nat) (xs done:List (List D)) (rest:List AC) (cells:Array Value),eJ st k i parts=some xs→done.length=i→(∀ x∈done,x.length=k) →
    parts.length*k≤rest.length→All2 (RepC σ φ st.sto) (done.flatten.map .d++rest) cells.toList →
    ∃ cells':Array Value,Instr.fill (fun i=>some (i*k,k)) cells (parts.map fun p=>(p.1,a.eval p.2))=some cells'∧All2 (RepC σ φ st.sto) ((done++xs).flatten.map .d++rest.drop (parts.length*k)) cells'.toList
 | [],i,xs,done,rest,cells,h,_,_,_,ha=>by
   simp[eJ] at h;subst h
   exact⟨cells,rfl,by simpa using ha⟩
 | (j,x)::r,i,xs,done,rest,cells,h,hi,hdk,hrl,ha=>by
   simp only[eJ] at h
   cases hb:Nat.beq i j<;>simp only[hb,Yf,Ye,reduceCtorEq] at h
   split at h<;>(try (simp at h;done))
   rename_i v hv
   split at h<;>(try (simp at h;done))
   rename_i cs hcs
   split at h<;>(try (simp at h;done))
   rename_i ds hd
   cases hk:Nat.beq ds.length k<;>simp only[hk,Yf,Ye,reduceCtorEq] at h
   split at h<;>simp at h
   rename_i l hl
   subst h
   have hij:=W4 hb
   subst hij
   have hdl:=W4 hk
   obtain rfl:=lR hd
   have hr:=iO hcs (aD hrel hv)
   have hfl:=cP hdk
   have hfm:(done.flatten.map AC.d).length=i*k:=by rw[WZ,hfl,hi]
   have hcat:(done++[ds]).flatten.map AC.d=done.flatten.map AC.d++ds.map AC.d:=by
    rw[List.flatten_append,XB];simp
   have hsp:dK (i*k) (ds.map AC.d) (done.flatten.map .d++rest)=some ((done++[ds]).flatten.map .d++rest.drop k):=by
    rw[hcat]
    generalize done.flatten.map AC.d=f at hfm
    rw[pG (by simp only[WZ,W9,hfm,hdl];simp only[Xq,Nat.succ_mul] at hrl;omega)]
    congr 1
    have e1:(f++rest).take (i*k)=f:=by
     rw[List.take_append_of_le_length (by omega)]
     exact WY (by omega)
    have e2:(f++rest).drop (i*k+(ds.map AC.d).length)=rest.drop k:=by
     rw[List.drop_append,List.drop_of_length_le (by omega)]
     simp only[X3,hfm,WZ,hdl,X9]
    rw[e1,e2]
   obtain⟨cells',h1,_,h3⟩:=sU (σ:=σ) (φ:=φ) (sto:=st.sto) (fun i=>some (i*k,k)) (i:=i) (u:=a.eval x) (rest:=r.map fun p=>(p.1,a.eval p.2)) (cells:=cells) (o:=i*k) (by simp[hdl]) hsp hr ha
   obtain⟨cells'',h4,h5⟩:=rE hrel r (i+1) l (done++[ds]) (rest.drop k) cells' hl (by simp[hi]) (fun x hx=>by
    rcases XF.1 hx with hx|hx
    ·exact hdk x hx
    ·simp at hx;subst hx;exact hdl) (by simp only[Xq,Nat.succ_mul] at hrl;simp;omega) h1
   refine⟨cells'',by simp only[XK];rw[h3];exact h4,?_⟩
   have e:(rest.drop k).drop (r.length*k)=rest.drop (((i,x)::r).length*k):=by
    rw[List.drop_drop,Xq,Nat.succ_mul,Nat.add_comm]
   rw[e] at h5
   simpa using h5
theorem pH{k:Nat}{z:List D}{zv:Value}(hz:zv.cells=(z.map jW).toArray)(hzb:∀ x∈z,iX x=true)(hl:z.length=k)(n:Nat) :
  All2 (RepC σ φ sto) ((List.replicate n z).flatten.map .d) (((Array.range (n*k)).map (fun i=>zv.cells[i % zv.cells.size]!)).toList):=by
 refine All2.of_get ?_ fun j a b ha hb=>?_
 ·rw[WZ,cP (k:=k) (by intro x hx;rw[XQ hx];exact hl)]
  simp
 ·have hj:j<n*k:=by
   have:=(W8.1 hb).1
   simpa using this
  have hk:0<k:=by
   rcases Yd k with h0|h0
   ·subst h0;simp at hj
   ·exact h0
  have hi:j / k<n:=Yc (by rw[Yo];exact hj)
  have hm:j % k<k:=Nat.mod_lt _ hk
  have e:j / k*k+j % k=j:=by rw[Yo];exact Nat.div_add_mod j k
  have h1:(List.replicate n z).flatten[j]?=z[j % k]?:=by
   have:=fg (k:=k) (xs:=List.replicate n z) (i:=j / k) (j:=j % k) (x:=z) (by intro x hx;rw[XQ hx];exact hl) (by simp[hi]) hm
   rwa [e] at this
  have hmz:j % k<z.length:=by omega
  have hsz:zv.cells.size=k:=by rw[hz];simp[hl]
  simp only[X1,h1,Xf hmz,Option.map_some,W5] at ha
  subst ha
  have hb':b=jW z[j % k]:=by
   simp only[Array.toList_map,X1,XP,Array.getElem?_range,hj,if_true,Option.map_some,W5] at hb
   rw[← hb,hsz]
   simp[hz,hmz]
  rw[hb']
  exact .d (n4 (hzb _ (List.getElem_mem hmz)))
theorem va(hT:bg P T){ops:Array Oper}{o:Oper}{rest:List Oper}{st:St}{K:St→Prop}{d id n k b:Nat}{t e:TypeId}{z:List D}{parts:Array (Nat×Operand)}{xs:List (List D)}
  (ho:o.op=.buildSlice t n parts) (hg:o.guard=none) (hdst:o.dst=some d) (hd:(Nat.blt d c.n&&Nat.blt id 1000000)=true) (ht:bc T t=some (e,k,b,z))
  (hp:eJ st k 0 parts.toList=some xs) (hn:Nat.beq parts.toList.length n=true) (hbig:(Nat.ble (n*k) 1000000&&Nat.ble (n*b) 1000000&&Nat.ble n 1000000)=true)
  (hm1:br id st.fr=false) (hm2:aN id st.sto=false)
  (h:aa P c ops rest ⟨(d,.one (.own id n))::st.fr,(id,.row k b xs)::st.sto⟩ K):aa P c ops (o::rest) st K:=by
 refine oG hg hdst hd hm1 hm2 (fun a w σ φ hr=>?_) h
 obtain⟨i,zv,hu,hi,rfl,rfl,hz,hzc,hzb,hzl⟩:=eb hT ht
 have hnl:=W4 hn
 simp only[WX,Nat.ble_eq] at hbig
 obtain⟨⟨hb1,hb2⟩,hb3⟩:=hbig
 obtain⟨hl,hlk⟩:=rD hp
 have hxn:xs.length=n:=by omega
 have hz0:=pH (σ:=σ) (φ:=φ) (sto:=st.sto) hzc hzb hzl n
 obtain⟨cells',h1,h2⟩:=rE hr (k:=i.size) parts.toList 0 xs [] ((List.replicate n z).flatten.map .d) ((Array.range (n*i.size)).map (fun j=>zv.cells[j % zv.cells.size]!)) hp rfl (by simp)
  (by rw[WZ,cP (k:=i.size) (by intro x hx;rw[XQ hx];exact hzl)];simp[hnl]) (by simpa using hz0)
 have hdrop:((List.replicate n z).flatten.map AC.d).drop (parts.toList.length*i.size)=[]:=by
  apply List.drop_of_length_le
  rw[WZ,cP (k:=i.size) (by intro x hx;rw[XQ hx];exact hzl)]
  simp only[List.length_replicate,hnl];exact Xc _
 rw[hdrop,Yt,X3] at h2
 have h2':=oF h2
 have hsz:cells'.size=n*i.size:=by
  have:=h2'.length
  rw[cP hlk,hxn] at this
  simpa using this.symm
 refine⟨.slice (some ⟨w.heap.size,0,none⟩) n n,cells',e,n,?_,ObjRep.mk_row (B:=w.heap.size) (cap:=n) az (da w _) hsz (by omega) (by omega) ?_ hlk h2' (fun j u hu=>by simpa using hu) (jK hr.inv),?_⟩
 ·have hbig':¬ (n*i.size > 2^24):=by omega
  have hpm:(parts.map fun (x:Nat×Operand)=>(x.1,a.eval x.2)).toList=parts.toList.map fun p=>(p.1,a.eval p.2):=by simp
  simp only[execOp,ho,Instr.buildSlice,Xl,Ym hu,Xb,cF hi,if_neg hbig']
  by_cases h0:n*i.size=0
  ·have e0:∀ f:Nat→Value,(Array.range (n*i.size)).map f=#[]:=by rw[h0];intro f;simp
   rw[e0] at h1
   simp only[if_pos h0,Xl,Xt,Xb,e0,hpm,h1]
   simp[newRow]
  ·simp only[if_neg h0,Xl,eQ hi hz,Xt,Xb,hpm,h1]
   simp[newRow]
 ·rw[hxn];omega
 ·have:=RepC.own (σ:=σ) (φ:=cq φ id (some (w.heap.size,n))) (sto:=(id,.row i.size i.bytes xs)::st.sto) (id:=id) (n:=n) (B:=w.heap.size) (cap:=n) aH (by omega) az
  exact this
end Go.Abs
namespace Go.Abs
open Go
variable {P:Program} {c:Ctx} {T:Tab} {σ:Sig} {φ:Pl} {sto:Sto} {w:World}
theorem wm(hT:bg P T){ops:Array Oper}{o:Oper}{rest:List Oper}{st:St}{K:St→Prop}{d id k b:Nat}{t e:TypeId}{z:List D}{x y:Operand}{n:Nat}
  (ho:o.op=.makeSlice t x y) (hg:o.guard=none) (hdst:o.dst=some d) (hd:(Nat.blt d c.n&&Nat.blt id 1000000)=true) (ht:bc T t=some (e,k,b,z))
  (hx:ev st x=some (.one (.d (.int .i64 (n:Int))))) (hy:ev st y=some (.one (.d (.int .i64 (n:Int))))) (hn:n<2^47) (hb:n*b≤2^47)
  (hm1:br id st.fr=false) (hm2:aN id st.sto=false)
  (h:aa P c ops rest ⟨(d,.one (.own id n))::st.fr,(id,.row k b (List.replicate n z))::st.sto⟩ K):aa P c ops (o::rest) st K:=by
 refine oG hg hdst hd hm1 hm2 (fun a w σ φ hr=>?_) h
 obtain⟨i,zv,hu,hi,rfl,rfl,hz,hzc,hzb,hzl⟩:=eb hT ht
 have hz0:=pH (σ:=σ) (φ:=φ) (sto:=st.sto) hzc hzb hzl n
 have h1:=aD hr hx
 have h2:=aD hr hy
 replace h1:=RepC.d_inv h1
 replace h2:=RepC.d_inv h2
 generalize hux:a.eval x=ux at h1
 generalize huy:a.eval y=uy at h2
 cases h1
 cases h2
 have hlk:∀ x∈List.replicate n z,x.length=i.size:=by intro x hx;rw[XQ hx];exact hzl
 refine⟨.slice (some ⟨w.heap.size,0,none⟩) n n,(Array.range (n*i.size)).map (fun j=>zv.cells[j % zv.cells.size]!),e,n,?_,
  ObjRep.mk_row (B:=w.heap.size) (cap:=n) az (da w _) (by simp) (by simp) (by simp;omega) (by simpa using hb) hlk (oF hz0) (fun j u hu=>by rw[← XP];exact hu) (jK hr.inv),?_⟩
 ·have hwrap:IntKind.i64.wrap (n:Int)=n:=by
   unfold IntKind.wrap
   simp[IntKind.signed,IntKind.bits]
   have:(n:Int) % 18446744073709551616=n:=Int.emod_eq_of_lt (by omega) (by omega)
   rw[this];split<;>omega
  have hnb:(i.bytes:Int)*(n:Int)≤2^47:=by rw[XI];exact_mod_cast hb
  have hbig:(decide ((n:Int)<0)||decide ((i.bytes:Int)*(n:Int) > 2^48))=false:=by
   simp only[XA,Yj]
   omega
  have hroom:(askRoom (n*i.bytes)).run P w=.ok () w:=by
   unfold askRoom roomBytes
   rw[if_neg (by omega)];rfl
  simp only[execOp,ho,hux,huy,Instr.makeSlice,Xl,Ym hu,Xb,asInt,asIntOf,Xt,hwrap]
  simp only[typeInfo,Xl,show (program).run P w=.ok P w from rfl,Xb,hi,Xt]
  have hcond:((decide ((n:Int)<0)||decide ((i.bytes:Int)*(n:Int) > 2^48))||decide ((n:Int)<0)||decide ((n:Int) > (n:Int)))=false:=by
   rw[hbig];simp
  simp only[hcond,XD,if_false,Xr,Xl,hroom,Xb,cF hi]
  by_cases h0:n*i.size=0
  ·have e0:∀ f:Nat→Value,(Array.range (n*i.size)).map f=#[]:=by rw[h0];intro f;simp
   simp only[if_pos h0,Xl,Xt,Xb,e0]
   simp[newRow]
  ·simp only[if_neg h0,Xl,eQ hi hz,Xt,Xb]
   simp[newRow]
 ·exact RepC.own (cap:=n) aH (by simp) az
theorem qC{a:Act}{st:St}(hr:Rel c st a w σ φ){x:Operand}{k:IntKind}{n:Int}(hx:ev st x=some (.one (.d (.int k n)))):a.eval x=.int k n:=by
 have h1:=aD hr hx
 replace h1:=RepC.d_inv h1
 generalize a.eval x=u at h1
 cases h1;rfl
theorem Jk(hT:bg P T){ops:Array Oper}{o:Oper}{rest:List Oper}{st:St}{K:St→Prop}{k b k' b':Nat}{t e:TypeId}{z:List D}{x y:Operand}{xs:List (List D)}{ik:IntKind}{n:Int}{el:List D}
  (ho:o.op=.indexAddr t x y) (hg:o.guard=none) (hd:aX c.n o.dst=true) (ht:bc T t=some (e,k',b',z)) (hx:ev st x=some (.one (.d (.sl k b xs)))) (hk:Nat.beq k k'=true)
  (hy:ev st y=some (.one (.d (.int ik n)))) (hn:0≤n) (hel:xs[n.toNat]?=some el)
  (h:aa P c ops rest ⟨bI o.dst (.one (.d (.ptr el))) st.fr,st.sto⟩ K):aa P c ops (o::rest) st K :=
 bu hg fun a w σ φ hr=>by
  obtain⟨i,zv,hu,hi,rfl,_⟩:=eb hT ht
  obtain rfl:=W4 hk
  have h1:=aD hr hx
  replace h1:=RepC.d_inv h1
  generalize hux:a.eval x=ux at h1
  have hlt:n.toNat<xs.length:=(W8.1 hel).1
  cases h1 with
  | sl vs hc h48 hb hk hA hh =>
    rename_i A cap
    obtain⟨B,off,cells,rfl,hσ,hcell⟩:=hA (by omega)
    refine⟨.pointer (some ⟨B,off+n.toNat * i.size,none⟩),w,_,σ,φ,?_,hr.put (v:=.one (.d (.ptr el))) hd (.d (.ptr (fun j=>vs n.toNat j) hσ (fun j hj=>?_) (fun j d hd=>?_))),h⟩
    ·have hc1:0≤n∧n<(xs.length:Int):=⟨hn,by omega⟩
     simp[execOp,ho,hux,qC hr hy,Instr.indexAt,asIntOf,Ym hu,hc1,cF hi,gJ]
    ·have:=hk el (List.mem_of_getElem? hel)
     exact hcell _ _ hlt (by omega)
    ·exact hh _ _ _ _ hel hd
theorem CU(hT:bg P T){ops:Array Oper}{o:Oper}{rest:List Oper}{st:St}{K:St→Prop}{k b k' b' id m:Nat}{t e:TypeId}{z:List D}{x y:Operand}{xs:List (List D)}{ik:IntKind}{n:Int}
  (ho:o.op=.indexAddr t x y) (hg:o.guard=none) (hd:aX c.n o.dst=true) (ht:bc T t=some (e,k',b',z)) (hx:ev st x=some (.one (.own id m))) (hl:look st.sto id=some (.row k b xs)) (hk:Nat.beq k k'=true)
  (hy:ev st y=some (.one (.d (.int ik n)))) (hn:0≤n) (hm:n<m)
  (h:aa P c ops rest ⟨bI o.dst (.one (.rref id n.toNat 0)) st.fr,st.sto⟩ K):aa P c ops (o::rest) st K :=
 bu hg fun a w σ φ hr=>by
  obtain⟨i,zv,hu,hi,rfl,_⟩:=eb hT ht
  obtain rfl:=W4 hk
  have h1:RepC σ φ st.sto (.own id m) (a.eval x):=aD hr hx
  generalize hux:a.eval x=ux at h1
  cases h1 with
  | dead hxx _=>simp[bY,cy hl] at hxx
  | ownNil h hp=>omega
  | own hl' hn' hp =>
    rename_i B cap xs'
    rw[hl] at hl';cases hl'
    refine⟨.pointer (some ⟨B,n.toNat * i.size+0,none⟩),w,_,σ,φ,?_,hr.put (v:=.one (.rref id n.toNat 0)) hd (.rref hl hp),h⟩
    have hc1:0≤n∧n<(m:Int):=⟨hn,hm⟩
    simp[execOp,ho,hux,qC hr hy,Instr.indexAt,asIntOf,Ym hu,hc1,cF hi,gJ]
theorem CV(hT:bg P T){ops:Array Oper}{o:Oper}{rest:List Oper}{st:St}{K:St→Prop}{k b k' b' id lo m:Nat}{t e:TypeId}{z:List D}{x y:Operand}{xs:List (List D)}{ik:IntKind}{n:Int}
  (ho:o.op=.indexAddr t x y) (hg:o.guard=none) (hd:aX c.n o.dst=true) (ht:bc T t=some (e,k',b',z)) (hx:ev st x=some (.one (.sub id lo m))) (hl:look st.sto id=some (.row k b xs)) (hk:Nat.beq k k'=true)
  (hy:ev st y=some (.one (.d (.int ik n)))) (hn:0≤n) (hm:n<m)
  (h:aa P c ops rest ⟨bI o.dst (.one (.rref id (lo+n.toNat) 0)) st.fr,st.sto⟩ K):aa P c ops (o::rest) st K :=
 bu hg fun a w σ φ hr=>by
  obtain⟨i,zv,hu,hi,rfl,_⟩:=eb hT ht
  obtain rfl:=W4 hk
  have h1:RepC σ φ st.sto (.sub id lo m) (a.eval x):=aD hr hx
  generalize hux:a.eval x=ux at h1
  cases h1 with
  | dead hxx _=>simp[bY,cy hl] at hxx
  | sub hl' hn' hc hA =>
    rename_i A c' xs'
    rw[hl] at hl';cases hl'
    obtain⟨B,cap,hp,rfl⟩:=hA (by omega)
    refine⟨.pointer (some ⟨B,(lo+n.toNat)*i.size+0,none⟩),w,_,σ,φ,?_,hr.put (v:=.one (.rref id (lo+n.toNat) 0)) hd (.rref hl hp),h⟩
    have hc1:0≤n∧n<(m:Int):=⟨hn,hm⟩
    simp[execOp,ho,hux,qC hr hy,Instr.indexAt,asIntOf,Ym hu,hc1,cF hi,gJ,X2]
def qZ(T:Tab)(t:TypeId):Option (Nat×Nat) :=
 match look T t with
 | some ⟨.array n e,_,_,_⟩=>match look T e with
   | some td=>some (n,td.size)
   | none=>none
 | _=>none
theorem CI(hT:bg P T){t n s:Nat}(h:qZ T t=some (n,s)):∃ (e:TypeId) (i:TypeInfo),P.underlying t=some (.array n e)∧P.info? e=some i∧i.size=s:=by
 unfold qZ at h
 split at h
 ·rename_i e' _ _ _ h1
  split at h<;>simp at h
  rename_i td h2
  obtain⟨rfl,rfl⟩:=h
  obtain⟨_,u,_,_,hu,_,_,_,hk,_⟩:=(hT t _ h1).ex
  simp only[fj] at hk;subst hk
  obtain⟨i,_,_,hi,_,hs,_⟩:=(hT _ td h2).ex
  exact⟨_,i,hu,hi,hs⟩
 ·simp at h
theorem CW(hT:bg P T){ops:Array Oper}{o:Oper}{rest:List Oper}{st:St}{K:St→Prop}{m s:Nat}{t:TypeId}{x y:Operand}{ik:IntKind}{n:Int}{v v':AV}
  (ho:o.op=.indexAddr t x y) (hg:o.guard=none) (hd:aX c.n o.dst=true) (ht:qZ T t=some (m,s)) (hx:ev st x=some v)
  (hy:ev st y=some (.one (.d (.int ik n)))) (hn:0≤n) (hm:n<m) (hv:pg st.sto (n.toNat * s) v=some v')
  (h:aa P c ops rest ⟨bI o.dst v' st.fr,st.sto⟩ K):aa P c ops (o::rest) st K :=
 bu hg fun a w σ φ hr=>by
  obtain⟨e,i,hu,hi,rfl⟩:=CI hT ht
  obtain⟨B,off,hux,hv'⟩:=qF hv (aD hr hx)
  refine⟨.pointer (some ⟨B,off+n.toNat * i.size,none⟩),w,_,σ,φ,?_,hr.put hd hv',h⟩
  have hc1:0≤n∧n<(m:Int):=⟨hn,hm⟩
  simp[execOp,ho,hux,qC hr hy,Instr.indexAt,Instr.sureAddr,asIntOf,Ym hu,hc1,cF hi,gJ]
theorem CG{a:Act}{st:St}(hr:Rel c st a w σ φ){x:Operand}{s:List UInt8}(hx:ev st x=some (.one (.d (.str s)))):a.eval x=.string ⟨s.toArray⟩∧s.length<2^48:=by
 have h1:=aD hr hx
 replace h1:=RepC.d_inv h1
 generalize a.eval x=u at h1
 cases h1 with
 | str h=>exact⟨rfl,h⟩
def iq(T:Tab)(t:TypeId):Bool:=match look T t with|some ⟨.str,_,_,_⟩=>true|_=>false
theorem tf(hT:bg P T){t:TypeId}(h:iq T t=true):P.underlying t=some .string:=by
 unfold iq at h
 split at h
 ·rename_i h1
  obtain⟨_,u,_,_,hu,_,_,_,hk,_⟩:=(hT t _ h1).ex
  simp only[fj] at hk;subst hk;exact hu
 ·simp at h
theorem CX(hT:bg P T){ops:Array Oper}{o:Oper}{rest:List Oper}{st:St}{K:St→Prop}{t:TypeId}{x y:Operand}{ik:IntKind}{n:Int}{s:List UInt8}{b:UInt8}
  (ho:o.op=.index t x y) (hg:o.guard=none) (hd:aX c.n o.dst=true) (ht:iq T t=true) (hx:ev st x=some (.one (.d (.str s))))
  (hy:ev st y=some (.one (.d (.int ik n)))) (hn:0≤n) (hb:s[n.toNat]?=some b)
  (h:aa P c ops rest ⟨bI o.dst (.one (.d (.int .u8 (b.toNat:Int)))) st.fr,st.sto⟩ K):aa P c ops (o::rest) st K :=
 bu hg fun a w σ φ hr=>by
  have hu:=tf hT ht
  obtain⟨hux,_⟩:=CG hr hx
  refine⟨.int .u8 b.toNat,w,_,σ,φ,?_,hr.put (v:=.one (.d (.int .u8 (b.toNat:Int)))) hd (RepC.d (.int ?_)),h⟩
  ·have hg':(⟨s.toArray⟩:ByteArray)[n.toNat]?=some b:=by
    have hlt:n.toNat<s.length:=(W8.1 hb).1
    have hlt':n.toNat<(⟨s.toArray⟩:ByteArray).size:=by simpa[ByteArray.size] using hlt
    rw[getElem?_pos (⟨s.toArray⟩:ByteArray) n.toNat hlt']
    have:s[n.toNat]=b:=(W8.1 hb).2
    rw[← this];rfl
   simp[execOp,ho,hux,qC hr hy,Instr.index,asIntOf,Ym hu,hn,hg']
  ·have:=b.toNat_lt
   unfold inR IntKind.min IntKind.max
   simp[IntKind.signed,IntKind.bits];omega
theorem DS(hT:bg P T){ops:Array Oper}{o:Oper}{rest:List Oper}{st:St}{K:St→Prop}{t:TypeId}{x:Operand}{id i off k b s:Nat}{g:Bool}{xs:List (List D)}{el:List D}{v:AV}
  (ho:o.op=.load t x) (hg:o.guard=none) (hd:aX c.n o.dst=true) (ht:j6 T t=some (g,s)) (hx:ev st x=some (.one (.rref id i off))) (hl:look st.sto id=some (.row k b xs))
  (hel:xs[i]?=some el) (hv:gA g s ((el.drop off).map .d)=some v)
  (h:aa P c ops rest ⟨bI o.dst v st.fr,st.sto⟩ K):aa P c ops (o::rest) st K :=
 bu hg fun a w σ φ hr=>by
  have h1:RepC σ φ st.sto (.rref id i off) (a.eval x):=aD hr hx
  generalize hux:a.eval x=ux at h1
  cases h1 with
  | dead hxx _=>simp[bY,cy hl] at hxx
  | rref hl' hp =>
    rename_i k' b' B cap xs'
    rw[hl] at hl';cases hl'
    obtain⟨arr,ty,us,hh,hsz,hle,_,_,hlk,ha,hcell,_,hul⟩:=(hr.inv.obj _ _ hl).row_cells hp
    have hi:i<xs.length:=(W8.1 hel).1
    have hek:=hlk el (List.mem_of_getElem? hel)
    have hall:All2 (Rep σ) el ((us.drop (i*k)).take k):=by
     refine All2.of_get ?_ fun j d u hd hu=>?_
     ·have:(i+1)*k≤xs.length*k:=Xn _ hi
      rw[Nat.succ_mul] at this
      simp[hul,hek];omega
     ·have hj:j<k:=by rw[← hek];exact (W8.1 hd).1
      rw[XH,if_pos hj,XC] at hu
      obtain⟨u',hu',hru⟩:=ha.get ((fg hlk hel hj).trans hd)
      rw[hu] at hu';cases hu';exact hru
    have hmem:kp w B (i*k+off) (((us.drop (i*k)).take k).drop off):=by
     intro j u hu
     rw[XC,XH] at hu
     split at hu
     ·rw[XC] at hu
      rw[gZ hh,Nat.add_assoc]
      exact hcell _ _ hu
     ·cases hu
    obtain⟨u,hu,hru⟩:=lJ (φ:=φ) (sto:=st.sto) hT ht hv ((hall.drop off).map_d) hmem
    exact⟨u,w,_,σ,φ,by simp[execOp,ho,hux,hu],hr.put hd hru,h⟩
end Go.Abs
namespace Go.Abs
open Go
variable {P:Program} {c:Ctx} {T:Tab} {σ:Sig} {φ:Pl} {sto:Sto} {w:World}
theorem qL{v:Value}(h:v.oneCell=true):v.oneCell'=true:=by cases v<;>first|rfl|simp[Value.oneCell] at h
theorem Em{cs:List AC}{vs:List Value}(h:All2 (RepC σ φ sto) cs vs):∀ v∈vs,v.oneCell'=true:=by
 induction cs generalizing vs with
 | nil=>cases vs with
   | nil=>simp
   | cons _ _=>exact h.elim
 | cons c cs ih=>cases vs with
   | nil=>exact h.elim
   | cons v vs =>
     intro u hu
     rcases Xo.1 hu with rfl|hu
     ·exact qL h.1.oneCell
     ·exact ih h.2 u hu
theorem Rel.write{st:St}{a:Act}(h:Rel c st a w σ φ){id B cap:Nat}{o o':AObj}{arr arr':Array Value}{t:TypeId}(hl:look st.sto id=some o)(hp:φ id=some (B,cap))
  (hh:w.heap[B]?=some (.cells arr t (0,0))) (hc:compat o o') (hobj:ObjRep σ φ ((id,o')::st.sto) (w.setRow B arr') id o') :
  ∃ σ' φ',Rel c ⟨st.fr,cD id o' st.sto⟩ a (w.setRow B arr') σ' φ':=by
 have hE:Ext (fun _=>False) φ φ st.sto ((id,o')::st.sto):=Ext.upd hl hc
 have hm:=h.mine _ _ _ hl hp
 have h1:Rel c ⟨st.fr,(id,o')::st.sto⟩ a (w.setRow B arr') σ φ:=by
  refine⟨h.le,h.fresh,h.inv.set hl hp ((h.inv.obj _ _ hl).sig hp) (fun b hb=>setRow_other w B b arr' hb) hc hobj,fun i e p hi hpi=>?_,fun s v hv=>?_,h.defers,h.size,?_,h.pin⟩
  ·rcases ah hi with⟨rfl,rfl⟩|⟨_,hi⟩
   ·rw[hp] at hpi;cases hpi;exact hm
   ·exact h.mine _ _ _ hi hpi
  ·obtain⟨u,hu,hru⟩:=h.slot s v hv
   exact⟨u,hu,hru.ext (Sig.le_refl _) hE fun j hj=>by cases hj⟩
  ·refine⟨h.fra.os,h.fra.tape,h.fra.output,by rw[setRow_size];exact h.fra.size,h.fra.drawn,fun b hb hM=>?_⟩
   have:b≠B:=by
    rintro rfl
    rcases hm with hm|hm
    ·simp only at hm;omega
    ·exact hM hm
   rw[setRow_other w B b arr' this]
   exact h.fra.block b hb hM
 exact pX (fun i=>dq) a _ σ φ h1
theorem oR{t ty:TypeId}{i:TypeInfo}{B o:Nat}{arr:Array Value}{v:Value}(hi:P.info? t=some i)(hh:w.heap[B]?=some (.cells arr ty (0,0)))(hs:v.cells.size=i.size)
  (hf:o+v.cells.size≤arr.size) (h1:∀ u∈v.cells.toList,u.oneCell'=true) :
  (storeVar t ⟨B,o,none⟩ v).run P w=.ok () (w.setRow B (arr.toList.take o++v.cells.toList++arr.toList.drop (o+v.cells.toList.length)).toArray):=by
 have hst:=run_storeCells_at P B o ty v.cells.toList 0 arr w hh (by simpa using hf) h1
 simp only[Nat.add_zero] at hst
 unfold storeVar
 simp only[Xl,cF hi,Xb,hs,ne_eq,not_true_eq_false,if_false]
 exact hst
theorem DD(hT:bg P T){ops:Array Oper}{o:Oper}{rest:List Oper}{st:St}{K:St→Prop}{t:TypeId}{x y:Operand}{id off s:Nat}{g:Bool}{cells cs cells':List AC}{v:AV}
  (ho:o.op=.store t x y) (hg:o.guard=none) (hdst:o.dst=none) (ht:j6 T t=some (g,s)) (hx:ev st x=some (.one (.ref id off))) (hl:look st.sto id=some (.box cells))
  (hy:ev st y=some v) (hc:cellsOf v=some cs) (hn:Nat.beq cs.length s=true) (hsp:dK off cs cells=some cells')
  (h:aa P c ops rest ⟨st.fr,cD id (.box cells') st.sto⟩ K):aa P c ops (o::rest) st K:=by
 refine ra hg fun a w σ φ hr=>?_
 obtain⟨i,u,hi,_,hs,_⟩:=Bx hT ht
 have h1:RepC σ φ st.sto (.ref id off) (a.eval x):=aD hr hx
 generalize hux:a.eval x=ux at h1
 have hrep:=iO hc (aD hr hy)
 have hns:=W4 hn
 obtain⟨he,hle⟩:=kN hsp
 cases h1 with
 | dead hxx _=>simp[bY,cy hl] at hxx
 | ref hl' hp =>
   rename_i B cap cs'
   rw[hl] at hl';cases hl'
   obtain⟨B',c',vs,ty,hp',hh,ha,hσ⟩:=hr.inv.obj _ _ hl
   rw[hp] at hp';cases hp'
   have hlen:=hrep.length
   have hlen2:=ha.length
   have hE:Ext (fun _=>False) φ φ st.sto ((id,.box cells')::st.sto):=Ext.upd hl trivial
   have hrun:=oR (P:=P) (w:=w) (t:=t) (v:=a.eval y) (o:=off) hi hh (by rw[hs,← hns,hlen,Array.length_toList]) (by rw[← Array.length_toList,← hlen];simp;omega) (Em hrep)
   obtain⟨σ',φ',hr'⟩:=hr.write (o':=.box cells') (arr':=(vs.take off++(a.eval y).cells.toList++vs.drop (off+(a.eval y).cells.toList.length)).toArray) hl hp hh trivial
    ⟨B,cap,_,ty,hp,setRow_heap w B _ _ ty _ hh,kC (Sig.le_refl _) hE (fun j hj=>by cases hj) (by
     rw[he,hlen]
     exact ((ha.take off).append hrep).append (ha.drop _)),hσ⟩
   refine⟨_,_,σ',φ',?_,by rw[hdst];exact hr',h⟩
   simp only[execOp,ho,hux,Instr.storeAt,Instr.sureAddr,Xl,Xt,Xb,hrun]
theorem sw{α:Type}{k:Nat}:∀ {xs:List (List α)} {i:Nat} {x y:List α},(∀ x∈xs,x.length=k)→xs[i]?=some x→y.length=k →
  (xs.set i y).flatten=xs.flatten.take (i*k)++y++xs.flatten.drop (i*k+k)
 | [],_,_,_,_,h,_=>by simp at h
 | z::zs,0,x,y,hk,h,hy=>by
   have hz:=hk z (by simp)
   simp[hz]
 | z::zs,i+1,x,y,hk,h,hy=>by
   have hz:=hk z (by simp)
   simp only[List.set_cons_succ,List.flatten_cons]
   rw[sw (fun x hx=>hk x (by simp[hx])) (by simpa using h) hy]
   have e1:(i+1)*k=z.length+i*k:=by rw[hz,Nat.succ_mul];omega
   have e2:(i+1)*k+k=z.length+(i*k+k):=by omega
   rw[e1,Nat.add_assoc,List.take_append,List.drop_append,WY (Nat.le_add_right _ _),List.drop_of_length_le (Nat.le_add_right _ _),X9,X9]
   simp
theorem By(hT:bg P T){ops:Array Oper}{o:Oper}{rest:List Oper}{st:St}{K:St→Prop}{t:TypeId}{x y:Operand}{id j off k b s:Nat}{g:Bool}{xs:List (List D)}{el el' ds:List D}{cs:List AC}{v:AV}
  (ho:o.op=.store t x y) (hg:o.guard=none) (hdst:o.dst=none) (ht:j6 T t=some (g,s)) (hx:ev st x=some (.one (.rref id j off))) (hl:look st.sto id=some (.row k b xs)) (hel:xs[j]?=some el)
  (hy:ev st y=some v) (hc:cellsOf v=some cs) (hn:Nat.beq cs.length s=true) (hds:gf cs=some ds) (hsp:dK off ds el=some el')
  (h:aa P c ops rest ⟨st.fr,cD id (.row k b (xs.set j el')) st.sto⟩ K):aa P c ops (o::rest) st K:=by
 refine ra hg fun a w σ φ hr=>?_
 obtain⟨i,u,hi,_,hs,_⟩:=Bx hT ht
 have h1:RepC σ φ st.sto (.rref id j off) (a.eval x):=aD hr hx
 generalize hux:a.eval x=ux at h1
 obtain rfl:=lR hds
 have hrep:=iO hc (aD hr hy)
 have hns:=W4 hn
 obtain⟨he,hle⟩:=kN hsp
 cases h1 with
 | dead hxx _=>simp[bY,cy hl] at hxx
 | rref hl' hp =>
   rename_i k' b' B cap xs'
   rw[hl] at hl';cases hl'
   obtain⟨arr,ty,us,hh,hsz,hle2,h48,hb47,hlk,ha,hcell,hσ,hul⟩:=(hr.inv.obj _ _ hl).row_cells hp
   have hlen:=hrep.length
   rw[WZ] at hlen hns
   have hj:j<xs.length:=(W8.1 hel).1
   have hek:=hlk el (List.mem_of_getElem? hel)
   have hel'k:el'.length=k:=by rw[he];simp;omega
   have hjk:j*k+k≤xs.length*k:=by have:=Xn k hj;rw[Nat.succ_mul] at this;exact this
   have hasz:xs.length*k≤arr.size:=by rw[hsz];exact Xn _ hle2
   have hrun:=oR (P:=P) (w:=w) (t:=t) (v:=a.eval y) (o:=j*k+off) hi hh (by rw[hs,← hns,hlen,Array.length_toList]) (by rw[← Array.length_toList,← hlen];omega) (Em hrep)
   have hus:∀ (q:Nat) (u:Value),(us.take (j*k+off)++(a.eval y).cells.toList++us.drop (j*k+off+(a.eval y).cells.toList.length))[q]?=some u →
     ((arr.toList.take (j*k+off)++(a.eval y).cells.toList++arr.toList.drop (j*k+off+(a.eval y).cells.toList.length)).toArray)[q]?=some u:=by
    intro q u hq
    have hl1:(us.take (j*k+off)).length=j*k+off:=by simp;omega
    have hl2:(arr.toList.take (j*k+off)).length=j*k+off:=by simp;omega
    rw[X5] at hq
    simp only[List.getElem?_toArray,X5]
    rcases XM q (j*k+off) with h0|h0
    ·rw[Xw (by omega),XH,if_pos h0] at hq
     rw[Xw (by omega),XH,if_pos h0,XP]
     exact hcell _ _ hq
    ·rw[Xy (by omega),hl1] at hq
     rw[Xy (by omega),hl2]
     rcases XM (q-(j*k+off)) (a.eval y).cells.toList.length with h2|h2
     ·rw[Xw h2] at hq ⊢
      exact hq
     ·rw[Xy h2,XC] at hq
      rw[Xy h2,XC,XP]
      exact hcell _ _ hq
   have hrow:(xs.set j el').flatten=xs.flatten.take (j*k+off)++ds++xs.flatten.drop (j*k+off+ds.length):=by
    rw[sw hlk hel hel'k,he]
    have hfl:=cP hlk
    have e1:xs.flatten.take (j*k+off)=xs.flatten.take (j*k)++el.take off:=by
     apply List.ext_getElem?
     intro q
     rw[XH]
     have hl1:(xs.flatten.take (j*k)).length=j*k:=by simp only[XU,hfl];omega
     split
     ·rcases XM q (j*k) with h0|h0
      ·rw[Xw (by omega),XH,if_pos h0]
      ·rw[Xy (by omega),hl1,XH,if_pos (by omega)]
       have:=fg (j:=q-j*k) hlk hel (by omega)
       rw[← this];congr 1;omega
     ·rw[Xy (by omega),hl1,XH,if_neg (by omega)]
    have e2:xs.flatten.drop (j*k+off+ds.length)=el.drop (off+ds.length)++xs.flatten.drop (j*k+k):=by
     apply List.ext_getElem?
     intro q
     rw[XC]
     have hl1:(el.drop (off+ds.length)).length=k-(off+ds.length):=by simp[hek]
     rcases XM q (k-(off+ds.length)) with h0|h0
     ·rw[Xw (by omega),XC]
      have:=fg (j:=off+ds.length+q) hlk hel (by omega)
      rw[← this];congr 1;omega
     ·rw[Xy (by omega),hl1,XC]
      congr 1;omega
    rw[e1,e2]
    simp
   have hmap:All2 (Rep σ) ds (a.eval y).cells.toList:=oF hrep
   obtain⟨σ',φ',hr'⟩:=hr.write (o':=.row k b (xs.set j el')) (arr':=(arr.toList.take (j*k+off)++(a.eval y).cells.toList++arr.toList.drop (j*k+off+(a.eval y).cells.toList.length)).toArray) hl hp hh
    ⟨rfl,rfl,by simp⟩
    (ObjRep.mk_row hp (setRow_heap w B _ _ ty _ hh) (by rw[← hsz,List.size_toArray];simp only[W9,XU,List.length_drop,Array.length_toList] at hlen ⊢;omega) (by simpa using hle2) (by simpa using h48) (by simpa using hb47) (fun x hx=>by
     rcases List.mem_or_eq_of_mem_set hx with hx|rfl
     ·exact hlk x hx
     ·exact hel'k) (by
     rw[hrow]
     have:=hmap.length
     rw[this]
     exact ((ha.take _).append hmap).append (ha.drop _)) hus hσ)
   refine⟨_,_,σ',φ',?_,by rw[hdst];exact hr',h⟩
   simp only[execOp,ho,hux,Instr.storeAt,Instr.sureAddr,Xl,Xt,Xb,hrun]
end Go.Abs
namespace Go.Abs
open Go
variable {P:Program} {c:Ctx} {T:Tab} {σ:Sig} {φ:Pl} {sto:Sto} {w:World}
def JS(id:Nat)(x:AC):AC:=bif x.men id then .junk else x
def FE(id:Nat):List AC→List AC
 | []=>[]
 | c::r=>JS id c::FE id r
def FF(id:Nat)(v:AV):AV:=bif v.men id then .any else v
def nq(id:Nat):List (Nat×AV)→List (Nat×AV)
 | []=>[]
 | (s,v)::r=>(s,FF id v)::nq id r
def Ba(id:Nat):AObj→AObj
 | .box cs=>.box (FE id cs)
 | .loop li fr s p=>.loop li (nq id fr) s p
 | o=>o
def eA(id:Nat):Sto→Sto
 | []=>[]
 | (i,o)::r=>(i,Ba id o)::eA id r
theorem gI{id:Nat}:∀ {sto:Sto} {i:Nat} {e:AObj},look (eA id sto) i=some e→∃ e0,look sto i=some e0∧e=Ba id e0
 | [],_,_,h=>by simp[eA,look] at h
 | (j,x)::r,i,e,h=>by
   simp only[eA] at h
   rcases ah h with⟨rfl,rfl⟩|⟨hne,h⟩
   ·exact⟨x,aH,rfl⟩
   ·obtain⟨e0,h2,h3⟩:=gI h
    exact⟨e0,by rw[aP hne];exact h2,h3⟩
theorem pW{id:Nat}:∀ {sto:Sto} {i:Nat} {e:AObj},look sto i=some e→look (eA id sto) i=some (Ba id e)
 | [],_,_,h=>by simp[look] at h
 | (j,x)::r,i,e,h=>by
   simp only[eA]
   rcases ah h with⟨rfl,rfl⟩|⟨hn,h⟩
   ·exact aH
   ·rw[aP hn];exact pW h
theorem qQ{id:Nat}:∀ {fr:List (Nat×AV)} {s:Nat} {v:AV},look (nq id fr) s=some v→∃ v0,look fr s=some v0∧v=FF id v0
 | [],_,_,h=>by simp[nq,look] at h
 | (j,x)::r,s,v,h=>by
   simp only[nq] at h
   rcases ah h with⟨rfl,rfl⟩|⟨hne,h⟩
   ·exact⟨x,aH,rfl⟩
   ·obtain⟨v0,h1,h2⟩:=qQ h
    exact⟨v0,by rw[aP hne];exact h1,h2⟩
theorem Dv{id:Nat}{e:AObj}:compat e (Ba id e):=by cases e<;>simp[Ba,compat]
theorem uV{id i:Nat}{sto:Sto}(h:look sto i=none):look (eA id sto) i=none:=by
 cases hl:look (eA id sto) i with
 | none=>rfl
 | some e =>
   obtain⟨e0,h1,_⟩:=gI hl
   rw[h] at h1;cases h1
theorem Ext.pur{id:Nat}{e:AObj}{p:Option (Nat×Nat)}:Ext (·=id) φ (cq φ id p) sto ((id,e)::eA id sto) :=
 Ext.of_some (fun _ _ hi h=>⟨aL hi,_,(aP hi).trans (pW h),Dv⟩) (fun _ hi h=>(aP hi).trans (uV h))
theorem JT{id:Nat}{e:AObj}{p:Option (Nat×Nat)}{x:AC}{v:Value}(h:RepC σ φ sto x v):RepC σ (cq φ id p) ((id,e)::eA id sto) (JS id x) v:=by
 unfold JS
 cases hm:x.men id with
 | true=>exact .junk h.oneCell
 | false=>exact h.ext (Sig.le_refl _) Ext.pur fun j hj=>by cases hj;exact hm
theorem y0{id:Nat}{e:AObj}{p:Option (Nat×Nat)}:∀ {cs:List AC} {vs:List Value},All2 (RepC σ φ sto) cs vs→All2 (RepC σ (cq φ id p) ((id,e)::eA id sto)) (FE id cs) vs
 | [],[],_=>trivial
 | _::_,_::_,h=>⟨JT h.1,y0 h.2⟩
 | [],_::_,h=>h.elim
 | _::_,[],h=>h.elim
theorem Bb{id:Nat}{e:AObj}{p:Option (Nat×Nat)}{x:AV}{v:Value}(h:RepV σ φ sto x v):RepV σ (cq φ id p) ((id,e)::eA id sto) (FF id x) v:=by
 unfold FF
 cases hm:x.men id with
 | true=>trivial
 | false=>exact h.ext (Sig.le_refl _) Ext.pur fun j hj=>by cases hj;exact hm
def Bc(P:Program)(o:Oper)(a:Act)(w:World)(σ:Sig)(φ:Pl)(id:Nat)(o':AObj)(m:Nat):Prop :=
 ∃ (u:Value) (w':World) (p:Option (Nat×Nat)),(execOp a.eval o).run P w=.ok (.value u) w'∧w'.os=w.os∧w'.tape=w.tape∧w'.output=w.output∧(w.heap.size≤w'.heap.size∧w.drawn≤w'.drawn) ∧
   (∀ b,b<w.heap.size→(∀ c,φ id≠some (b,c))→w'.heap[b]?=w.heap[b]?) ∧
   (∀ q,p=some q→(∃ c,φ id=some (q.1,c))∨(w.heap.size≤q.1∧q.1<w'.heap.size)) ∧
   ∀ (id':Nat) (sto':Sto),ObjRep σ (cq φ id' p) ((id',o')::sto') w' id' o'∧RepV σ (cq φ id' p) ((id',o')::sto') (.one (.own id' m)) u
theorem Ext.renew{id id':Nat}{e:AObj}{p:Option (Nat×Nat)}:Ext (·=id') φ (cq φ id' p) sto ((id',e)::del id sto):=by
 intro i hi
 by_cases h:i=id
 ·subst h
  refine .inl ?_
  rw[aP hi]
  cases hl:look (del i sto) i with
  | none=>rfl
  | some e=>exact absurd rfl (ee hl).1
 ·cases hl:look sto i with
  | none=>exact .inl (by rw[aP hi,ff h];exact hl)
  | some e'=>exact .inr ⟨e',rfl,aL hi,e',by rw[aP hi,ff h];exact hl,compat.refl _⟩
theorem Rel.renew{st:St}{a:Act}(h:Rel c st a w σ φ){id id':Nat}{o o':AObj}{m:Nat}(hlt:Nat.blt id' 1000000=true)(hl:look st.sto id=some o)(hm1:br id' st.fr=false)(hm2:aN id' st.sto=false)(hm3:look st.sto id'=none)
  {op:Oper} (H:Bc P op a w σ φ id o' m) (hd:aX c.n op.dst=true) :
  ∃ u w' σ' φ',(execOp a.eval op).run P w=.ok (.value u) w'∧Rel c ⟨bI op.dst (.one (.own id' m)) st.fr,(id',o')::del id st.sto⟩ (a.put op.dst u) w' σ' φ':=by
 obtain⟨u,w',p,hrun,hos,htape,hout,hsize,hw,hp,hboth⟩:=H
 obtain⟨hobj,hv⟩:=hboth id' (del id st.sto)
 simp only[Yb] at hlt
 refine⟨u,w',σ,cq φ id' p,hrun,?_⟩
 have hne':∀ {i:Nat} {e:AObj},look st.sto i=some e→i≠id':=by rintro i e hi rfl;rw[hm3] at hi;cases hi
 have hother:∀ {i:Nat} {e:AObj} {q:Nat×Nat},look st.sto i=some e→i≠id→φ i=some q→q.1<w.heap.size∧(∀ c,φ id≠some (q.1,c)):=by
  intro i e q hi hne hq
  refine⟨(h.inv.obj _ _ hi).lt hq,fun c' hc'=>?_⟩
  exact h.inv.inj _ _ _ _ _ _ hi hl hne hq hc' rfl
 have hsigb:∀ b cs,σ b=some cs→b<w.heap.size∧(∀ c,φ id≠some (b,c)):=by
  intro b cs hb
  obtain⟨t,f,hh⟩:=h.inv.sig b cs hb
  refine⟨(Xm.1 hh).1,fun c' hc'=>?_⟩
  have:=(h.inv.obj _ _ hl).sig hc'
  rw[hb] at this;cases this
 have hinv:HInv σ (cq φ id' p) ((id',o')::del id st.sto) w':=by
  refine⟨fun b cs hb=>?_,fun i e hi=>?_,fun i i' e e' q q' hi hi' hne hq hq'=>?_⟩
  ·obtain⟨t,f,hh⟩:=h.inv.sig b cs hb
   obtain⟨h1,h2⟩:=hsigb b cs hb
   exact⟨t,f,(hw b h1 h2).trans hh⟩
  ·rcases ah hi with⟨rfl,rfl⟩|⟨hne,hi⟩
   ·exact hobj
   ·obtain⟨hni,h0⟩:=ee hi
    have ho:=h.inv.obj _ _ h0
    refine ho.ext (X:=(·=id')) (Sig.le_refl _) Ext.renew (fun j hj=>by cases hj;exact fG hm2 h0) (aL hne) fun B c' hB=>?_
    obtain⟨h5,h6⟩:=hother h0 hni hB
    exact⟨hw B h5 h6,rfl⟩
  ·rcases ah hi with⟨h1,h2⟩|⟨hn,hi⟩
   ·subst h1;subst h2
    rcases ah hi' with⟨h3,_⟩|⟨hn',hi'⟩
    ·exact absurd h3.symm hne
    ·obtain⟨hni,h0⟩:=ee hi'
     rw[az] at hq;rw[aL hn'] at hq'
     obtain⟨h5,h6⟩:=hother h0 hni hq'
     rcases hp q hq with⟨c',hc'⟩|⟨h7,_⟩
     ·intro e;rw[e] at hc';exact h6 c' hc'
     ·omega
   ·obtain⟨hni,h1⟩:=ee hi
    rw[aL hn] at hq
    obtain⟨h5,h6⟩:=hother h1 hni hq
    rcases ah hi' with⟨h3,h4⟩|⟨hn',hi'⟩
    ·subst h3;subst h4
     rw[az] at hq'
     rcases hp q' hq' with⟨c',hc'⟩|⟨h7,_⟩
     ·intro e;rw[← e] at hc';exact h6 c' hc'
     ·omega
    ·obtain⟨_,h2⟩:=ee hi'
     rw[aL hn'] at hq'
     exact h.inv.inj _ _ _ _ _ _ h1 h2 hne hq hq'
 refine h.putTo (st':=⟨st.fr,(id',o')::del id st.sto⟩) (w':=w') (σ':=σ) (φ':=cq φ id' p) hd h.le h.fresh hinv (fun i e q hi hq=>?_)
  ⟨hos.trans h.fra.os,htape.trans h.fra.tape,hout.trans h.fra.output,Xg h.fra.size hsize.1,Xg h.fra.drawn hsize.2,fun b hb hM=>?_⟩ (fun i hi=>by
   rw[aL (by omega)];exact h.pin i hi) (fun _=>hv) (fun s x _ hx=>⟨x,hx,fun z hz=>hz.ext (Sig.le_refl _) Ext.renew fun j hj=>by cases hj;exact dP hm1 hx⟩)
 ·rcases ah hi with⟨h1,_⟩|⟨hn,hi⟩
  ·subst h1
   rw[az] at hq
   rcases hp q hq with⟨c',hc'⟩|⟨h7,_⟩
   ·exact h.mine _ _ (q.1,c') hl hc'
   ·exact .inl (Xg h.fra.size h7)
  ·obtain⟨_,h0⟩:=ee hi
   rw[aL hn] at hq
   exact h.mine _ _ _ h0 hq
 ·rw[hw b (Xz hb h.fra.size) fun c' hc'=>?_]
  ·exact h.fra.block b hb hM
  ·rcases h.mine _ _ _ hl hc' with h1|h1
   ·simp only at h1;omega
   ·exact hM h1
theorem Rel.replace{st:St}{a:Act}{w':World}(h:Rel c st a w σ φ){id:Nat}{o o':AObj}{p:Option (Nat×Nat)}(hlt:∀ i,Pin i→i≠id)(hl:look st.sto id=some o)
  (hos:w'.os=w.os) (htape:w'.tape=w.tape) (hout:w'.output=w.output) (hsize:w.heap.size≤w'.heap.size∧w.drawn≤w'.drawn)
  (hw:∀ b,b<w.heap.size→(∀ c,φ id≠some (b,c))→w'.heap[b]?=w.heap[b]?)
  (hp:∀ q,p=some q→(∃ c,φ id=some (q.1,c))∨(w.heap.size≤q.1∧q.1<w'.heap.size))
  (hobj:ObjRep σ (cq φ id p) ((id,o')::eA id st.sto) w' id o') {dst:Option Nat} (hd:aX c.n dst=true) {v:AV} {u:Value}
  (hv:RepV σ (cq φ id p) ((id,o')::eA id st.sto) v u) :
  ∃ σ' φ',Rel c ⟨bI dst v (nq id st.fr),cD id o' (eA id st.sto)⟩ (a.put dst u) w' σ' φ':=by
 have hother:∀ {i:Nat} {e:AObj} {q:Nat×Nat},look st.sto i=some e→i≠id→φ i=some q→q.1<w.heap.size∧(∀ c,φ id≠some (q.1,c)):=by
  intro i e q hi hne hq
  refine⟨(h.inv.obj _ _ hi).lt hq,fun c' hc'=>?_⟩
  exact h.inv.inj _ _ _ _ _ _ hi hl hne hq hc' rfl
 have hsigb:∀ b cs,σ b=some cs→b<w.heap.size∧(∀ c,φ id≠some (b,c)):=by
  intro b cs hb
  obtain⟨t,f,hh⟩:=h.inv.sig b cs hb
  refine⟨(Xm.1 hh).1,fun c' hc'=>?_⟩
  have:=(h.inv.obj _ _ hl).sig hc'
  rw[hb] at this;cases this
 have hinv:HInv σ (cq φ id p) ((id,o')::eA id st.sto) w':=by
  refine⟨fun b cs hb=>?_,fun i e hi=>?_,fun i i' e e' q q' hi hi' hne hq hq'=>?_⟩
  ·obtain⟨t,f,hh⟩:=h.inv.sig b cs hb
   obtain⟨h1,h2⟩:=hsigb b cs hb
   exact⟨t,f,(hw b h1 h2).trans hh⟩
  ·rcases ah hi with⟨rfl,rfl⟩|⟨hne,hi⟩
   ·exact hobj
   ·obtain⟨e0,h0,rfl⟩:=gI hi
    have ho:=h.inv.obj _ _ h0
    cases e0 with
    | box cs =>
      obtain⟨B,c',vs,t,h1,h2,h3,h4⟩:=ho
      obtain⟨h5,h6⟩:=hother h0 hne h1
      exact⟨B,c',vs,t,(aL hne).trans h1,(hw B h5 h6).trans h2,y0 h3,h4⟩
    | row k b xs =>
      rcases ho with⟨h1,h2⟩|⟨B,cap,arr,t,vs,h1,h2,h3⟩
      ·exact .inl ⟨h1,(aL hne).trans h2⟩
      ·obtain⟨h5,h6⟩:=hother h0 hne h1
       exact .inr ⟨B,cap,arr,t,vs,(aL hne).trans h1,(hw B h5 h6).trans h2,h3⟩
    | map kg vg es =>
      obtain⟨B,c',ents,h1,h2,h3⟩:=ho
      obtain⟨h5,h6⟩:=hother h0 hne h1
      exact⟨B,c',ents,(aL hne).trans h1,(hw B h5 h6).trans h2,h3⟩
    | loop li fr s p =>
      obtain⟨B,c',r,h1,h2,h3,h3',h4⟩:=ho
      obtain⟨h5,h6⟩:=hother h0 hne h1
      exact⟨B,c',r,(aL hne).trans h1,(hw B h5 h6).trans h2,h3,fun s v hv=>by
       obtain⟨v0,hv0,rfl⟩:=qQ hv
       obtain⟨u,hu,hru⟩:=h3' s v0 hv0
       exact⟨u,hu,Bb hru⟩,h4⟩
  ·rcases ah hi with⟨h1,h2⟩|⟨hn,hi⟩
   ·subst h1;subst h2
    rcases ah hi' with⟨h3,_⟩|⟨hn',hi'⟩
    ·exact absurd h3.symm hne
    ·obtain⟨e0,h0,_⟩:=gI hi'
     rw[az] at hq;rw[aL hn'] at hq'
     obtain⟨h5,h6⟩:=hother h0 hn' hq'
     rcases hp q hq with⟨c',hc'⟩|⟨h7,_⟩
     ·intro e;rw[e] at hc';exact h6 c' hc'
     ·omega
   ·obtain⟨e1,h1,_⟩:=gI hi
    rw[aL hn] at hq
    obtain⟨h5,h6⟩:=hother h1 hn hq
    rcases ah hi' with⟨h3,h4⟩|⟨hn',hi'⟩
    ·subst h3;subst h4
     rw[az] at hq'
     rcases hp q' hq' with⟨c',hc'⟩|⟨h7,_⟩
     ·intro e;rw[← e] at hc';exact h6 c' hc'
     ·omega
    ·obtain⟨e2,h2,_⟩:=gI hi'
     rw[aL hn'] at hq'
     exact h.inv.inj _ _ _ _ _ _ h1 h2 hne hq hq'
 have hr:=h.putTo (st':=⟨nq id st.fr,(id,o')::eA id st.sto⟩) (v:=v) (u:=u) (w':=w') (σ':=σ) (φ':=cq φ id p) hd h.le h.fresh hinv (fun i e q hi hq=>?_)
  ⟨hos.trans h.fra.os,htape.trans h.fra.tape,hout.trans h.fra.output,Xg h.fra.size hsize.1,Xg h.fra.drawn hsize.2,fun b hb hM=>?_⟩ (fun i hi=>by
   have:i≠id:=hlt i hi
   rw[aL this];exact h.pin i hi) (fun _=>hv) (fun s x _ hx=>?_)
 ·exact pX (fun i=>dq) _ _ _ _ hr
 ·rcases ah hi with⟨h1,_⟩|⟨hn,hi⟩
  ·subst h1
   rw[az] at hq
   rcases hp q hq with⟨c',hc'⟩|⟨h7,_⟩
   ·exact h.mine _ _ (q.1,c') hl hc'
   ·exact .inl (Xg h.fra.size h7)
  ·obtain⟨e0,h0,_⟩:=gI hi
   rw[aL hn] at hq
   exact h.mine _ _ _ h0 hq
 ·rw[hw b (Xz hb h.fra.size) fun c' hc'=>?_]
  ·exact h.fra.block b hb hM
  ·rcases h.mine _ _ _ hl hc' with h1|h1
   ·simp only at h1;omega
   ·exact hM h1
 ·obtain⟨v0,h1,rfl⟩:=qQ hx
  exact⟨v0,h1,fun z hz=>Bb hz⟩
def ga(st:St)(k:Nat):AV→Option (List (List D))
 | .one (.d (.sl k' _ ys))=>bif Nat.beq k k' then some ys else none
 | .one (.d .nil)=>some []
 | .one (.own i m)=>match look st.sto i with
   | some (.row k' _ ys)=>bif Nat.beq k k' then some (ys.take m) else none
   | _=>none
 | .one (.sub i lo m)=>match look st.sto i with
   | some (.row k' _ ys)=>bif Nat.beq k k' then some ((ys.drop lo).take m) else none
   | _=>none
 | _=>none
theorem nS{α:Type}{k:Nat}:∀ {xs:List (List α)} (n:Nat),(∀ x∈xs,x.length=k)→(xs.take n).flatten=xs.flatten.take (n*k)
 | [],n,_=>by simp
 | x::xs,0,_=>by simp
 | x::xs,n+1,hk=>by
   have hx:=hk x (by simp)
   have e:(n+1)*k=x.length+n*k:=by rw[hx,Nat.succ_mul];omega
   simp only[List.take_succ_cons,List.flatten_cons]
   rw[nS n (fun y hy=>hk y (by simp[hy])),e,List.take_append,WY (Nat.le_add_right _ _),X9]
theorem sd{α:Type}{k:Nat}:∀ {xs:List (List α)} (n:Nat),(∀ x∈xs,x.length=k)→(xs.drop n).flatten=xs.flatten.drop (n*k)
 | [],n,_=>by simp
 | x::xs,0,_=>by simp
 | x::xs,n+1,hk=>by
   have hx:=hk x (by simp)
   have e:(n+1)*k=x.length+n*k:=by rw[hx,Nat.succ_mul];omega
   simp only[List.drop_succ_cons,List.flatten_cons]
   rw[sd n (fun y hy=>hk y (by simp[hy])),e,List.drop_append,List.drop_of_length_le (Nat.le_add_right _ _),X9,X3]
structure Src (σ:Sig) (w:World) (k:Nat) (ys:List (List D)) (v:Value) (us:List Value):Prop where
 shape:∃ A cap,v=.slice A ys.length cap
 first:∀ (P:Program) (w':World),w'.heap=w.heap→(Builtin.firstCells k ys.length v).run P w'=.ok us.toArray w'
 rep:All2 (Rep σ) ys.flatten us
 len:∀ y∈ys,y.length=k
 one:∀ u∈us,u.oneCell'=true
theorem qR{w':World}{k n B o cap:Nat}{us:List Value}(hl:us.length=n*k)(hm:kp w B o us)(hw:w'.heap=w.heap):(Builtin.firstCells k n (.slice (some ⟨B,o,none⟩) n cap)).run P w'=.ok us.toArray w':=by
 refine run_firstCells_some (P:=P) w' k n ⟨B,o,none⟩ n cap us hl fun j v hv=>?_
 have:=hm j v hv
 rw[gJ]
 unfold World.cell? at this ⊢
 rw[hw];exact this
theorem se{ds:List D}{us:List Value}(h:All2 (Rep σ) ds us):∀ u∈us,u.oneCell'=true:=by
 induction ds generalizing us with
 | nil=>cases us with
   | nil=>simp
   | cons _ _=>exact h.elim
 | cons d ds ih=>cases us with
   | nil=>exact h.elim
   | cons u us =>
     intro x hx
     rcases Xo.1 hx with rfl|hx
     ·exact qL h.1.oneCell
     ·exact ih h.2 x hx
theorem fK{w':World}{k cap:Nat}{A:Option Addr}:(Builtin.firstCells k 0 (.slice A 0 cap)).run P w'=.ok #[] w':=by
 cases A with
 | none=>simp[Builtin.firstCells]
 | some a=>exact run_firstCells_some (P:=P) w' k 0 a 0 cap [] (by simp) (by simp)
theorem Eg{st:St}{k:Nat}{v:AV}{ys:List (List D)}(hs:ga st k v=some ys)(hi:HInv σ φ st.sto w){u:Value}(h:RepV σ φ st.sto v u):∃ us,Src σ w k ys u us:=by
 have hrow:∀ {i k' b' B cap lo m:Nat} {zs:List (List D)},look st.sto i=some (.row k' b' zs)→φ i=some (B,cap)→lo+m≤zs.length→∃ us:List Value,All2 (Rep σ) ((zs.drop lo).take m).flatten us ∧
   kp w B (lo*k') us∧us.length=m*k'∧∀ y∈(zs.drop lo).take m,y.length=k':=by
  intro i k' b' B cap lo m zs hl hp hlm
  obtain⟨arr,ty,us,hh,hsz,hle,_,_,hlk,ha,hcell,_,hul⟩:=(hi.obj _ _ hl).row_cells hp
  have hlk':∀ y∈(zs.drop lo).take m,y.length=k':=fun y hy=>hlk y (List.mem_of_mem_drop (List.mem_of_mem_take hy))
  refine⟨(us.drop (lo*k')).take (m*k'),?_,?_,?_,hlk'⟩
  ·rw[nS m (fun y hy=>hlk y (List.mem_of_mem_drop hy)),sd lo hlk]
   exact (ha.drop _).take _
  ·intro j u hu
   rw[XH] at hu
   split at hu
   ·rw[XC] at hu
    rw[gZ hh]
    exact hcell _ _ hu
   ·cases hu
  ·have:(lo+m)*k'≤zs.length*k':=Xn _ hlm
   rw[X2] at this
   simp[hul];omega
 unfold ga at hs
 split at hs
 ·rename_i k' b' ys'
  cases hb:Nat.beq k k'<;>simp only[hb,Yf,Ye,reduceCtorEq,W5] at hs
  subst hs
  obtain rfl:=W4 hb
  replace h:=RepC.d_inv h
  cases h with
  | sl vs hc h48 hb47 hk hA hh =>
    rename_i A cap
    rcases Yd ys'.length with h0|h0
    ·have:=List.eq_nil_of_length_eq_zero h0
     subst this
     exact⟨[],⟨⟨A,cap,rfl⟩,fun P w' _=>fK,trivial,by simp,by simp⟩⟩
    ·obtain⟨B,off,cells,rfl,hσ,hcell⟩:=hA h0
     obtain⟨t,f,hhp⟩:=hi.sig _ _ hσ
     have hfl:=cP hk
     let us:List Value:=(List.range (ys'.length*k)).map fun j=>vs (j / k) (j % k)
     have hus:∀ j,j<ys'.length*k→us[j]?=some (vs (j / k) (j % k)):=fun j hj=>by simp[us,hj]
     have hdiv:∀ j,j<ys'.length*k→0<k∧j / k<ys'.length∧j % k<k∧j / k*k+j % k=j:=by
      intro j hj
      have hk0:0<k:=by
       rcases Yd k with h0|h0
       ·subst h0;simp at hj
       ·exact h0
      exact⟨hk0,Yc (by rw[Yo];exact hj),Nat.mod_lt _ hk0,by rw[Yo];exact Nat.div_add_mod j k⟩
     have hrep:All2 (Rep σ) ys'.flatten us:=by
      refine All2.of_get (by simp[us,hfl]) fun j d u hd hu=>?_
      have hj:j<ys'.length*k:=by rw[← hfl];exact (W8.1 hd).1
      obtain⟨hk0,h1,h2,h3⟩:=hdiv j hj
      rw[hus j hj] at hu;cases hu
      have hx:ys'[j / k]?=some ys'[j / k]:=Xf h1
      have:=fg hk hx h2
      rw[h3,hd] at this
      exact hh _ _ _ _ hx this.symm
     refine⟨us,⟨⟨_,cap,rfl⟩,fun P w' hw=>qR (by simp[us]) ?_ hw,hrep,hk,se hrep⟩⟩
     intro j u hu
     have hj:j<ys'.length*k:=by
      have:=(W8.1 hu).1
      simpa[us] using this
     obtain⟨hk0,h1,h2,h3⟩:=hdiv j hj
     rw[hus j hj] at hu;cases hu
     rw[gZ hhp,← hcell _ _ h1 h2]
     congr 1;omega
 ·simp only[W5] at hs;subst hs
  replace h:=RepC.d_inv h;cases h
  exact⟨[],⟨⟨none,0,rfl⟩,fun P w' _=>fK,trivial,by simp,by simp⟩⟩
 ·rename_i i m
  split at hs<;>(try (simp at hs;done))
  rename_i k' b' ys' hl
  cases hb:Nat.beq k k'<;>simp only[hb,Yf,Ye,reduceCtorEq,W5] at hs
  subst hs
  obtain rfl:=W4 hb
  cases h with
  | dead hxx _=>simp[bY,cy hl] at hxx
  | ownNil h hp=>exact⟨[],⟨⟨none,0,by simp⟩,fun P w' _=>by simpa using fK,by simp[All2],by simp,by simp⟩⟩
  | own hl' hn hp =>
    rw[hl] at hl';cases hl'
    obtain⟨us,h1,h2,h3,h4⟩:=hrow (lo:=0) (m:=m) hl hp (by omega)
    simp only[List.drop_zero,Nat.zero_mul] at h1 h2 h4
    have hm:(ys'.take m).length=m:=by simp;omega
    refine⟨us,⟨⟨_,_,by rw[hm]⟩,fun P w' hw=>?_,h1,h4,se h1⟩⟩
    rw[hm]
    exact qR h3 h2 hw
 ·rename_i i lo m
  split at hs<;>(try (simp at hs;done))
  rename_i k' b' ys' hl
  cases hb:Nat.beq k k'<;>simp only[hb,Yf,Ye,reduceCtorEq,W5] at hs
  subst hs
  obtain rfl:=W4 hb
  cases h with
  | dead hxx _=>simp[bY,cy hl] at hxx
  | sub hl' hn hc hA =>
    rw[hl] at hl';cases hl'
    rename_i cap' A
    have hm:((ys'.drop lo).take m).length=m:=by simp;omega
    rcases Yd m with h0|h0
    ·subst h0
     exact⟨[],⟨⟨A,cap',by simp⟩,fun P w' _=>by simpa using fK,by simp[All2],by simp,by simp⟩⟩
    ·obtain⟨B,cap,hp,rfl⟩:=hA h0
     obtain⟨us,h1,h2,h3,h4⟩:=hrow (lo:=lo) (m:=m) hl hp hn
     refine⟨us,⟨⟨_,_,by rw[hm]⟩,fun P w' hw=>?_,h1,h4,se h1⟩⟩
     rw[hm]
     exact qR h3 h2 hw
 ·simp at hs
end Go.Abs
