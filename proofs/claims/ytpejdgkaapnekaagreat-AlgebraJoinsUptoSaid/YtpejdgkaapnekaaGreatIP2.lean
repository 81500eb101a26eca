import Derived.Lib.Strings
import Derived.Test.YtpejdgkaapnekaaGreatIP1
set_option linter.unusedVariables false
set_option linter.unusedSimpArgs false
set_option maxHeartbeats 1000000
namespace Go.Abs
open Go
variable {P:Program} {c:Ctx} {T:Tab} {σ:Sig} {φ:Pl} {sto:Sto} {w:World}
def aM(T:Tab)(t:TypeId):Option (TypeId×Nat×Nat×List D) :=
 match look T t with
 | some ⟨.slice e,_,_,_⟩=>match look T e with
   | some td=>some (e,td.size,td.bytes,td.zero)
   | none=>none
 | _=>none
theorem cy(hT:aD P T){t e k b:Nat}{z:List D}(h:aM T t=some (e,k,b,z)) :
  ∃ (i:TypeInfo) (zv:Value),P.underlying t=some (.slice e)∧P.info? e=some i∧i.size=k∧i.bytes=b∧i.zero=some zv∧zv.cells=(z.map fD).toArray∧(∀ x∈z,eR x=true)∧z.length=k:=by
 unfold aM at h
 split at h
 ·rename_i e' _ _ _ h1
  split at h<;>simp at h
  rename_i td h2
  obtain⟨rfl,rfl,rfl,rfl⟩:=h
  obtain⟨_,u,_,_,hu,_,_,_,hk,_⟩:=(hT t _ h1).ex
  simp only[cX] at hk;subst hk
  obtain⟨i,_,zv,hi,_,hs,hb,hz,_,hzc,hzb,hzl,_⟩:=(hT e' td h2).ex
  exact⟨i,zv,hu,hi,hs,hb,hz,hzc,hzb,hzl⟩
 ·simp at h
def cK(st:St)(k:Nat):Nat→List (Nat×Operand)→Option (List (List D))
 | _,[]=>some []
 | i,(j,x)::r=>bif Nat.beq i j then (match ev st x with
   | some v=>(match cellsOf v with
     | some cs=>(match dI cs with
       | some ds=>bif Nat.beq ds.length k then (match cK st k (i+1) r with|some l=>some (ds::l)|none=>none) else none
       | none=>none)
     | none=>none)
   | none=>none) else none
theorem mj{st:St}{k:Nat}:∀ {parts:List (Nat×Operand)} {i:Nat} {xs:List (List D)},cK st k i parts=some xs→xs.length=parts.length∧∀ x∈xs,x.length=k
 | [],_,xs,h=>by simp[cK] at h;subst h;simp
 | (j,x)::r,i,xs,h=>by
   simp only[cK] at h
   cases hb:Nat.beq i j<;>simp only[hb,HW,HV,reduceCtorEq] at h
   split at h<;>(try (simp at h;done))
   split at h<;>(try (simp at h;done))
   split at h<;>(try (simp at h;done))
   rename_i ds hd
   cases hk:Nat.beq ds.length k<;>simp only[hk,HW,HV,reduceCtorEq] at h
   split at h<;>simp at h
   rename_i l hl
   subst h
   obtain⟨h1,h2⟩:=mj hl
   exact⟨by simp[h1],fun x hx=>by
    rcases Hm.1 hx with rfl|hx
    ·exact G3 hk
    ·exact h2 x hx⟩
theorem kb:∀ {ds:List D} {vs:List Value},All2 (RepC σ φ sto) (ds.map .d) vs→All2 (Rep σ) ds vs
 | [],[],_=>trivial
 | _::_,_::_,h=>⟨by have h:=RepC.d_inv h.1;exact h,kb h.2⟩
 | [],_::_,h=>h.elim
 | _::_,[],h=>h.elim
theorem ml{c:Ctx}{st:St}{a:Act}(hrel:Rel c st a w σ φ){k:Nat} :
  ∀ (parts:List (Nat×Operand)) (i:Nat) (xs done:List (List D)) (rest:List AC) (cells:Array Value),cK st k i parts=some xs→done.length=i→(∀ x∈done,x.length=k) →
    parts.length*k≤rest.length→All2 (RepC σ φ st.sto) (done.flatten.map .d++rest) cells.toList →
    ∃ cells':Array Value,Instr.fill (fun i=>some (i*k,k)) cells (parts.map fun p=>(p.1,a.eval p.2))=some cells'∧All2 (RepC σ φ st.sto) ((done++xs).flatten.map .d++rest.drop (parts.length*k)) cells'.toList
 | [],i,xs,done,rest,cells,h,_,_,_,ha=>by
   simp[cK] at h;subst h
   exact⟨cells,rfl,by simpa using ha⟩
 | (j,x)::r,i,xs,done,rest,cells,h,hi,hdk,hrl,ha=>by
   simp only[cK] at h
   cases hb:Nat.beq i j<;>simp only[hb,HW,HV,reduceCtorEq] at h
   split at h<;>(try (simp at h;done))
   rename_i v hv
   split at h<;>(try (simp at h;done))
   rename_i cs hcs
   split at h<;>(try (simp at h;done))
   rename_i ds hd
   cases hk:Nat.beq ds.length k<;>simp only[hk,HW,HV,reduceCtorEq] at h
   split at h<;>simp at h
   rename_i l hl
   subst h
   have hij:=G3 hb
   subst hij
   have hdl:=G3 hk
   obtain rfl:=gX hd
   have hr:=eM hcs (ak hrel hv)
   have hfl:=bE hdk
   have hfm:(done.flatten.map AC.d).length=i*k:=by rw[G2,hfl,hi]
   have hcat:(done++[ds]).flatten.map AC.d=done.flatten.map AC.d++ds.map AC.d:=by
    rw[List.flatten_append,Hy];simp
   have hsp:b7 (i*k) (ds.map AC.d) (done.flatten.map .d++rest)=some ((done++[ds]).flatten.map .d++rest.drop k):=by
    rw[hcat]
    generalize done.flatten.map AC.d=f at hfm
    rw[kT (by simp only[G2,G8,hfm,hdl];simp only[Ho,Nat.succ_mul] at hrl;omega)]
    congr 1
    have e1:(f++rest).take (i*k)=f:=by
     rw[List.take_append_of_le_length (by omega)]
     exact G1 (by omega)
    have e2:(f++rest).drop (i*k+(ds.map AC.d).length)=rest.drop k:=by
     rw[List.drop_append,List.drop_of_length_le (by omega)]
     simp only[HQ,hfm,G2,hdl,HS]
    rw[e1,e2]
   obtain⟨cells',h1,_,h3⟩:=nu (σ:=σ) (φ:=φ) (sto:=st.sto) (fun i=>some (i*k,k)) (i:=i) (u:=a.eval x) (rest:=r.map fun p=>(p.1,a.eval p.2)) (cells:=cells) (o:=i*k) (by simp[hdl]) hsp hr ha
   obtain⟨cells'',h4,h5⟩:=ml hrel r (i+1) l (done++[ds]) (rest.drop k) cells' hl (by simp[hi]) (fun x hx=>by
    rcases HB.1 hx with hx|hx
    ·exact hdk x hx
    ·simp at hx;subst hx;exact hdl) (by simp only[Ho,Nat.succ_mul] at hrl;simp;omega) h1
   refine⟨cells'',by simp only[HE];rw[h3];exact h4,?_⟩
   have e:(rest.drop k).drop (r.length*k)=rest.drop (((i,x)::r).length*k):=by
    rw[List.drop_drop,Ho,Nat.succ_mul,Nat.add_comm]
   rw[e] at h5
   simpa using h5
theorem kU{k:Nat}{z:List D}{zv:Value}(hz:zv.cells=(z.map fD).toArray)(hzb:∀ x∈z,eR x=true)(hl:z.length=k)(n:Nat) :
  All2 (RepC σ φ sto) ((List.replicate n z).flatten.map .d) (((Array.range (n*k)).map (fun i=>zv.cells[i % zv.cells.size]!)).toList):=by
 refine All2.of_get ?_ fun j a b ha hb=>?_
 ·rw[G2,bE (k:=k) (by intro x hx;rw[HJ hx];exact hl)]
  simp
 ·have hj:j<n*k:=by
   have:=(G7.1 hb).1
   simpa using this
  have hk:0<k:=by
   rcases HU k with h0|h0
   ·subst h0;simp at hj
   ·exact h0
  have hi:j / k<n:=Nat.div_lt_of_lt_mul (by rw[Nat.mul_comm];exact hj)
  have hm:j % k<k:=Nat.mod_lt _ hk
  have e:j / k*k+j % k=j:=by rw[Nat.mul_comm];exact Nat.div_add_mod j k
  have h1:(List.replicate n z).flatten[j]?=z[j % k]?:=by
   have:=c8 (k:=k) (xs:=List.replicate n z) (i:=j / k) (j:=j % k) (x:=z) (by intro x hx;rw[HJ hx];exact hl) (by simp[hi]) hm
   rwa [e] at this
  have hmz:j % k<z.length:=by omega
  have hsz:zv.cells.size=k:=by rw[hz];simp[hl]
  simp only[HP,h1,He hmz,Option.map_some,G4] at ha
  subst ha
  have hb':b=fD z[j % k]:=by
   simp only[Array.toList_map,HP,HI,Array.getElem?_range,hj,if_true,Option.map_some,G4] at hb
   rw[← hb,hsz]
   simp[hz,hmz]
  rw[hb']
  exact .d (jQ (hzb _ (List.getElem_mem hmz)))
theorem o4(hT:aD P T){ops:Array Oper}{o:Oper}{rest:List Oper}{st:St}{K:St→Prop}{d id n k b:Nat}{t e:TypeId}{z:List D}{parts:Array (Nat×Operand)}{xs:List (List D)}
  (ho:o.op=.buildSlice t n parts) (hg:o.guard=none) (hdst:o.dst=some d) (hd:(Nat.blt d c.n&&Nat.blt id 1000000)=true) (ht:aM T t=some (e,k,b,z))
  (hp:cK st k 0 parts.toList=some xs) (hn:Nat.beq parts.toList.length n=true) (hbig:(Nat.ble (n*k) 1000000&&Nat.ble (n*b) 1000000&&Nat.ble n 1000000)=true)
  (hm1:aQ id st.fr=false) (hm2:aF id st.sto=false)
  (h:aa P c ops rest ⟨(d,.one (.own id n))::st.fr,(id,.row k b xs)::st.sto⟩ K):aa P c ops (o::rest) st K:=by
 refine kc hg hdst hd hm1 hm2 (fun a w σ φ hr=>?_) h
 obtain⟨i,zv,hu,hi,rfl,rfl,hz,hzc,hzb,hzl⟩:=cy hT ht
 have hnl:=G3 hn
 simp only[GZ,Nat.ble_eq] at hbig
 obtain⟨⟨hb1,hb2⟩,hb3⟩:=hbig
 obtain⟨hl,hlk⟩:=mj hp
 have hxn:xs.length=n:=by omega
 have hz0:=kU (σ:=σ) (φ:=φ) (sto:=st.sto) hzc hzb hzl n
 obtain⟨cells',h1,h2⟩:=ml hr (k:=i.size) parts.toList 0 xs [] ((List.replicate n z).flatten.map .d) ((Array.range (n*i.size)).map (fun j=>zv.cells[j % zv.cells.size]!)) hp rfl (by simp)
  (by rw[G2,bE (k:=i.size) (by intro x hx;rw[HJ hx];exact hzl)];simp[hnl]) (by simpa using hz0)
 have hdrop:((List.replicate n z).flatten.map AC.d).drop (parts.toList.length*i.size)=[]:=by
  apply List.drop_of_length_le
  rw[G2,bE (k:=i.size) (by intro x hx;rw[HJ hx];exact hzl)]
  simp only[List.length_replicate,hnl];exact Hb _
 rw[hdrop,H6,HQ] at h2
 have h2':=kb h2
 have hsz:cells'.size=n*i.size:=by
  have:=h2'.length
  rw[bE hlk,hxn] at this
  simpa using this.symm
 refine⟨.slice (some ⟨w.heap.size,0,none⟩) n n,cells',e,n,?_,ObjRep.mk_row (B:=w.heap.size) (cap:=n) ai (bO w _) hsz (by omega) (by omega) ?_ hlk h2' (fun j u hu=>by simpa using hu) (fu hr.inv),?_⟩
 ·have hbig':¬ (n*i.size > 2^24):=by omega
  have hpm:(parts.map fun (x:Nat×Operand)=>(x.1,a.eval x.2)).toList=parts.toList.map fun p=>(p.1,a.eval p.2):=by simp
  simp only[execOp,ho,Instr.buildSlice,Hj,HZ hu,Ha,bu hi,if_neg hbig']
  by_cases h0:n*i.size=0
  ·have e0:∀ f:Nat→Value,(Array.range (n*i.size)).map f=#[]:=by rw[h0];intro f;simp
   rw[e0] at h1
   simp only[if_pos h0,Hj,Hr,Ha,e0,hpm,h1]
   simp[newRow]
  ·simp only[if_neg h0,Hj,cS hi hz,Hr,Ha,hpm,h1]
   simp[newRow]
 ·rw[hxn];omega
 ·have:=RepC.own (σ:=σ) (φ:=bo φ id (some (w.heap.size,n))) (sto:=(id,.row i.size i.bytes xs)::st.sto) (id:=id) (n:=n) (B:=w.heap.size) (cap:=n) ao (by omega) ai
  exact this
end Go.Abs
namespace Go.Abs
open Go
variable {P:Program} {c:Ctx} {T:Tab} {σ:Sig} {φ:Pl} {sto:Sto} {w:World}
theorem pS(hT:aD P T){ops:Array Oper}{o:Oper}{rest:List Oper}{st:St}{K:St→Prop}{d id k b:Nat}{t e:TypeId}{z:List D}{x y:Operand}{n:Nat}
  (ho:o.op=.makeSlice t x y) (hg:o.guard=none) (hdst:o.dst=some d) (hd:(Nat.blt d c.n&&Nat.blt id 1000000)=true) (ht:aM T t=some (e,k,b,z))
  (hx:ev st x=some (.one (.d (.int .i64 (n:Int))))) (hy:ev st y=some (.one (.d (.int .i64 (n:Int))))) (hn:n<2^47) (hb:n*b≤2^47)
  (hm1:aQ id st.fr=false) (hm2:aF id st.sto=false)
  (h:aa P c ops rest ⟨(d,.one (.own id n))::st.fr,(id,.row k b (List.replicate n z))::st.sto⟩ K):aa P c ops (o::rest) st K:=by
 refine kc hg hdst hd hm1 hm2 (fun a w σ φ hr=>?_) h
 obtain⟨i,zv,hu,hi,rfl,rfl,hz,hzc,hzb,hzl⟩:=cy hT ht
 have hz0:=kU (σ:=σ) (φ:=φ) (sto:=st.sto) hzc hzb hzl n
 have h1:=ak hr hx
 have h2:=ak hr hy
 replace h1:=RepC.d_inv h1
 replace h2:=RepC.d_inv h2
 generalize hux:a.eval x=ux at h1
 generalize huy:a.eval y=uy at h2
 cases h1
 cases h2
 have hlk:∀ x∈List.replicate n z,x.length=i.size:=by intro x hx;rw[HJ hx];exact hzl
 refine⟨.slice (some ⟨w.heap.size,0,none⟩) n n,(Array.range (n*i.size)).map (fun j=>zv.cells[j % zv.cells.size]!),e,n,?_,
  ObjRep.mk_row (B:=w.heap.size) (cap:=n) ai (bO w _) (by simp) (by simp) (by simp;omega) (by simpa using hb) hlk (kb hz0) (fun j u hu=>by rw[← HI];exact hu) (fu hr.inv),?_⟩
 ·have hwrap:IntKind.i64.wrap (n:Int)=n:=by
   unfold IntKind.wrap
   simp[IntKind.signed,IntKind.bits]
   have:(n:Int) % 18446744073709551616=n:=Int.emod_eq_of_lt (by omega) (by omega)
   rw[this];split<;>omega
  have hnb:(i.bytes:Int)*(n:Int)≤2^47:=by rw[Int.mul_comm];exact_mod_cast hb
  have hbig:(decide ((n:Int)<0)||decide ((i.bytes:Int)*(n:Int) > 2^48))=false:=by
   simp only[Hx,HY]
   omega
  have hroom:(askRoom (n*i.bytes)).run P w=.ok () w:=by
   unfold askRoom roomBytes
   rw[if_neg (by omega)];rfl
  simp only[execOp,ho,hux,huy,Instr.makeSlice,Hj,HZ hu,Ha,asInt,asIntOf,Hr,hwrap]
  simp only[typeInfo,Hj,show (program).run P w=.ok P w from rfl,Ha,hi,Hr]
  have hcond:((decide ((n:Int)<0)||decide ((i.bytes:Int)*(n:Int) > 2^48))||decide ((n:Int)<0)||decide ((n:Int) > (n:Int)))=false:=by
   rw[hbig];simp
  simp only[hcond,HA,if_false,Hp,Hj,hroom,Ha,bu hi]
  by_cases h0:n*i.size=0
  ·have e0:∀ f:Nat→Value,(Array.range (n*i.size)).map f=#[]:=by rw[h0];intro f;simp
   simp only[if_pos h0,Hj,Hr,Ha,e0]
   simp[newRow]
  ·simp only[if_neg h0,Hj,cS hi hz,Hr,Ha]
   simp[newRow]
 ·exact RepC.own (cap:=n) ao (by simp) ai
theorem lI{a:Act}{st:St}(hr:Rel c st a w σ φ){x:Operand}{k:IntKind}{n:Int}(hx:ev st x=some (.one (.d (.int k n)))):a.eval x=.int k n:=by
 have h1:=ak hr hx
 replace h1:=RepC.d_inv h1
 generalize a.eval x=u at h1
 cases h1;rfl
theorem zH(hT:aD P T){ops:Array Oper}{o:Oper}{rest:List Oper}{st:St}{K:St→Prop}{k b k' b':Nat}{t e:TypeId}{z:List D}{x y:Operand}{xs:List (List D)}{ik:IntKind}{n:Int}{el:List D}
  (ho:o.op=.indexAddr t x y) (hg:o.guard=none) (hd:aw c.n o.dst=true) (ht:aM T t=some (e,k',b',z)) (hx:ev st x=some (.one (.d (.sl k b xs)))) (hk:Nat.beq k k'=true)
  (hy:ev st y=some (.one (.d (.int ik n)))) (hn:0≤n) (hel:xs[n.toNat]?=some el)
  (h:aa P c ops rest ⟨aU o.dst (.one (.d (.ptr el))) st.fr,st.sto⟩ K):aa P c ops (o::rest) st K :=
 aJ hg fun a w σ φ hr=>by
  obtain⟨i,zv,hu,hi,rfl,_⟩:=cy hT ht
  obtain rfl:=G3 hk
  have h1:=ak hr hx
  replace h1:=RepC.d_inv h1
  generalize hux:a.eval x=ux at h1
  have hlt:n.toNat<xs.length:=(G7.1 hel).1
  cases h1 with
  | sl vs hc h48 hb hk hA hh =>
    rename_i A cap
    obtain⟨B,off,cells,rfl,hσ,hcell⟩:=hA (by omega)
    refine⟨.pointer (some ⟨B,off+n.toNat * i.size,none⟩),w,_,σ,φ,?_,hr.put (v:=.one (.d (.ptr el))) hd (.d (.ptr (fun j=>vs n.toNat j) hσ (fun j hj=>?_) (fun j d hd=>?_))),h⟩
    ·have hc1:0≤n∧n<(xs.length:Int):=⟨hn,by omega⟩
     simp[execOp,ho,hux,lI hr hy,Instr.indexAt,asIntOf,HZ hu,hc1,bu hi,ec]
    ·have:=hk el (List.mem_of_getElem? hel)
     exact hcell _ _ hlt (by omega)
    ·exact hh _ _ _ _ hel hd
theorem uH(hT:aD P T){ops:Array Oper}{o:Oper}{rest:List Oper}{st:St}{K:St→Prop}{k b k' b' id m:Nat}{t e:TypeId}{z:List D}{x y:Operand}{xs:List (List D)}{ik:IntKind}{n:Int}
  (ho:o.op=.indexAddr t x y) (hg:o.guard=none) (hd:aw c.n o.dst=true) (ht:aM T t=some (e,k',b',z)) (hx:ev st x=some (.one (.own id m))) (hl:look st.sto id=some (.row k b xs)) (hk:Nat.beq k k'=true)
  (hy:ev st y=some (.one (.d (.int ik n)))) (hn:0≤n) (hm:n<m)
  (h:aa P c ops rest ⟨aU o.dst (.one (.rref id n.toNat 0)) st.fr,st.sto⟩ K):aa P c ops (o::rest) st K :=
 aJ hg fun a w σ φ hr=>by
  obtain⟨i,zv,hu,hi,rfl,_⟩:=cy hT ht
  obtain rfl:=G3 hk
  have h1:RepC σ φ st.sto (.own id m) (a.eval x):=ak hr hx
  generalize hux:a.eval x=ux at h1
  cases h1 with
  | dead hxx _=>simp[bm,bn hl] at hxx
  | ownNil h hp=>omega
  | own hl' hn' hp =>
    rename_i B cap xs'
    rw[hl] at hl';cases hl'
    refine⟨.pointer (some ⟨B,n.toNat * i.size+0,none⟩),w,_,σ,φ,?_,hr.put (v:=.one (.rref id n.toNat 0)) hd (.rref hl hp),h⟩
    have hc1:0≤n∧n<(m:Int):=⟨hn,hm⟩
    simp[execOp,ho,hux,lI hr hy,Instr.indexAt,asIntOf,HZ hu,hc1,bu hi,ec]
theorem uI(hT:aD P T){ops:Array Oper}{o:Oper}{rest:List Oper}{st:St}{K:St→Prop}{k b k' b' id lo m:Nat}{t e:TypeId}{z:List D}{x y:Operand}{xs:List (List D)}{ik:IntKind}{n:Int}
  (ho:o.op=.indexAddr t x y) (hg:o.guard=none) (hd:aw c.n o.dst=true) (ht:aM T t=some (e,k',b',z)) (hx:ev st x=some (.one (.sub id lo m))) (hl:look st.sto id=some (.row k b xs)) (hk:Nat.beq k k'=true)
  (hy:ev st y=some (.one (.d (.int ik n)))) (hn:0≤n) (hm:n<m)
  (h:aa P c ops rest ⟨aU o.dst (.one (.rref id (lo+n.toNat) 0)) st.fr,st.sto⟩ K):aa P c ops (o::rest) st K :=
 aJ hg fun a w σ φ hr=>by
  obtain⟨i,zv,hu,hi,rfl,_⟩:=cy hT ht
  obtain rfl:=G3 hk
  have h1:RepC σ φ st.sto (.sub id lo m) (a.eval x):=ak hr hx
  generalize hux:a.eval x=ux at h1
  cases h1 with
  | dead hxx _=>simp[bm,bn hl] at hxx
  | sub hl' hn' hc hA =>
    rename_i A c' xs'
    rw[hl] at hl';cases hl'
    obtain⟨B,cap,hp,rfl⟩:=hA (by omega)
    refine⟨.pointer (some ⟨B,(lo+n.toNat)*i.size+0,none⟩),w,_,σ,φ,?_,hr.put (v:=.one (.rref id (lo+n.toNat) 0)) hd (.rref hl hp),h⟩
    have hc1:0≤n∧n<(m:Int):=⟨hn,hm⟩
    simp[execOp,ho,hux,lI hr hy,Instr.indexAt,asIntOf,HZ hu,hc1,bu hi,ec,Nat.add_mul]
def l5(T:Tab)(t:TypeId):Option (Nat×Nat) :=
 match look T t with
 | some ⟨.array n e,_,_,_⟩=>match look T e with
   | some td=>some (n,td.size)
   | none=>none
 | _=>none
theorem uw(hT:aD P T){t n s:Nat}(h:l5 T t=some (n,s)):∃ (e:TypeId) (i:TypeInfo),P.underlying t=some (.array n e)∧P.info? e=some i∧i.size=s:=by
 unfold l5 at h
 split at h
 ·rename_i e' _ _ _ h1
  split at h<;>simp at h
  rename_i td h2
  obtain⟨rfl,rfl⟩:=h
  obtain⟨_,u,_,_,hu,_,_,_,hk,_⟩:=(hT t _ h1).ex
  simp only[cX] at hk;subst hk
  obtain⟨i,_,_,hi,_,hs,_⟩:=(hT _ td h2).ex
  exact⟨_,i,hu,hi,hs⟩
 ·simp at h
theorem uJ(hT:aD P T){ops:Array Oper}{o:Oper}{rest:List Oper}{st:St}{K:St→Prop}{m s:Nat}{t:TypeId}{x y:Operand}{ik:IntKind}{n:Int}{v v':AV}
  (ho:o.op=.indexAddr t x y) (hg:o.guard=none) (hd:aw c.n o.dst=true) (ht:l5 T t=some (m,s)) (hx:ev st x=some v)
  (hy:ev st y=some (.one (.d (.int ik n)))) (hn:0≤n) (hm:n<m) (hv:kD st.sto (n.toNat * s) v=some v')
  (h:aa P c ops rest ⟨aU o.dst v' st.fr,st.sto⟩ K):aa P c ops (o::rest) st K :=
 aJ hg fun a w σ φ hr=>by
  obtain⟨e,i,hu,hi,rfl⟩:=uw hT ht
  obtain⟨B,off,hux,hv'⟩:=lK hv (ak hr hx)
  refine⟨.pointer (some ⟨B,off+n.toNat * i.size,none⟩),w,_,σ,φ,?_,hr.put hd hv',h⟩
  have hc1:0≤n∧n<(m:Int):=⟨hn,hm⟩
  simp[execOp,ho,hux,lI hr hy,Instr.indexAt,Instr.sureAddr,asIntOf,HZ hu,hc1,bu hi,ec]
theorem nt{a:Act}{st:St}(hr:Rel c st a w σ φ){x:Operand}{s:List UInt8}(hx:ev st x=some (.one (.d (.str s)))):a.eval x=.string ⟨s.toArray⟩∧s.length<2^48:=by
 have h1:=ak hr hx
 replace h1:=RepC.d_inv h1
 generalize a.eval x=u at h1
 cases h1 with
 | str h=>exact⟨rfl,h⟩
def dD(T:Tab)(t:TypeId):Bool:=match look T t with|some ⟨.str,_,_,_⟩=>true|_=>false
theorem kr(hT:aD P T){t:TypeId}(h:dD T t=true):P.underlying t=some .string:=by
 unfold dD at h
 split at h
 ·rename_i h1
  obtain⟨_,u,_,_,hu,_,_,_,hk,_⟩:=(hT t _ h1).ex
  simp only[cX] at hk;subst hk;exact hu
 ·simp at h
theorem uK(hT:aD P T){ops:Array Oper}{o:Oper}{rest:List Oper}{st:St}{K:St→Prop}{t:TypeId}{x y:Operand}{ik:IntKind}{n:Int}{s:List UInt8}{b:UInt8}
  (ho:o.op=.index t x y) (hg:o.guard=none) (hd:aw c.n o.dst=true) (ht:dD T t=true) (hx:ev st x=some (.one (.d (.str s))))
  (hy:ev st y=some (.one (.d (.int ik n)))) (hn:0≤n) (hb:s[n.toNat]?=some b)
  (h:aa P c ops rest ⟨aU o.dst (.one (.d (.int .u8 (b.toNat:Int)))) st.fr,st.sto⟩ K):aa P c ops (o::rest) st K :=
 aJ hg fun a w σ φ hr=>by
  have hu:=kr hT ht
  obtain⟨hux,_⟩:=nt hr hx
  refine⟨.int .u8 b.toNat,w,_,σ,φ,?_,hr.put (v:=.one (.d (.int .u8 (b.toNat:Int)))) hd (RepC.d (.int ?_)),h⟩
  ·have hg':(⟨s.toArray⟩:ByteArray)[n.toNat]?=some b:=by
    have hlt:n.toNat<s.length:=(G7.1 hb).1
    have hlt':n.toNat<(⟨s.toArray⟩:ByteArray).size:=by simpa[ByteArray.size] using hlt
    rw[getElem?_pos (⟨s.toArray⟩:ByteArray) n.toNat hlt']
    have:s[n.toNat]=b:=(G7.1 hb).2
    rw[← this];rfl
   simp[execOp,ho,hux,lI hr hy,Instr.index,asIntOf,HZ hu,hn,hg']
  ·have:=b.toNat_lt
   unfold inR IntKind.min IntKind.max
   simp[IntKind.signed,IntKind.bits];omega
theorem vm(hT:aD P T){ops:Array Oper}{o:Oper}{rest:List Oper}{st:St}{K:St→Prop}{t:TypeId}{x:Operand}{id i off k b s:Nat}{g:Bool}{xs:List (List D)}{el:List D}{v:AV}
  (ho:o.op=.load t x) (hg:o.guard=none) (hd:aw c.n o.dst=true) (ht:fI T t=some (g,s)) (hx:ev st x=some (.one (.rref id i off))) (hl:look st.sto id=some (.row k b xs))
  (hel:xs[i]?=some el) (hv:dX g s ((el.drop off).map .d)=some v)
  (h:aa P c ops rest ⟨aU o.dst v st.fr,st.sto⟩ K):aa P c ops (o::rest) st K :=
 aJ hg fun a w σ φ hr=>by
  have h1:RepC σ φ st.sto (.rref id i off) (a.eval x):=ak hr hx
  generalize hux:a.eval x=ux at h1
  cases h1 with
  | dead hxx _=>simp[bm,bn hl] at hxx
  | rref hl' hp =>
    rename_i k' b' B cap xs'
    rw[hl] at hl';cases hl'
    obtain⟨arr,ty,us,hh,hsz,hle,_,_,hlk,ha,hcell,_,hul⟩:=(hr.inv.obj _ _ hl).row_cells hp
    have hi:i<xs.length:=(G7.1 hel).1
    have hek:=hlk el (List.mem_of_getElem? hel)
    have hall:All2 (Rep σ) el ((us.drop (i*k)).take k):=by
     refine All2.of_get ?_ fun j d u hd hu=>?_
     ·have:(i+1)*k≤xs.length*k:=Hl _ hi
      rw[Nat.succ_mul] at this
      simp[hul,hek];omega
     ·have hj:j<k:=by rw[← hek];exact (G7.1 hd).1
      rw[HC,if_pos hj,Hz] at hu
      obtain⟨u',hu',hru⟩:=ha.get ((c8 hlk hel hj).trans hd)
      rw[hu] at hu';cases hu';exact hru
    have hmem:fT w B (i*k+off) (((us.drop (i*k)).take k).drop off):=by
     intro j u hu
     rw[Hz,HC] at hu
     split at hu
     ·rw[Hz] at hu
      rw[dz hh,Nat.add_assoc]
      exact hcell _ _ hu
     ·cases hu
    obtain⟨u,hu,hru⟩:=gR (φ:=φ) (sto:=st.sto) hT ht hv ((hall.drop off).map_d) hmem
    exact⟨u,w,_,σ,φ,by simp[execOp,ho,hux,hu],hr.put hd hru,h⟩
end Go.Abs
namespace Go.Abs
open Go
variable {P:Program} {c:Ctx} {T:Tab} {σ:Sig} {φ:Pl} {sto:Sto} {w:World}
theorem lP{v:Value}(h:v.oneCell=true):v.oneCell'=true:=by cases v<;>first|rfl|simp[Value.oneCell] at h
theorem vK{cs:List AC}{vs:List Value}(h:All2 (RepC σ φ sto) cs vs):∀ v∈vs,v.oneCell'=true:=by
 induction cs generalizing vs with
 | nil=>cases vs with
   | nil=>simp
   | cons _ _=>exact h.elim
 | cons c cs ih=>cases vs with
   | nil=>exact h.elim
   | cons v vs =>
     intro u hu
     rcases Hm.1 hu with rfl|hu
     ·exact lP h.1.oneCell
     ·exact ih h.2 u hu
theorem Rel.write{st:St}{a:Act}(h:Rel c st a w σ φ){id B cap:Nat}{o o':AObj}{arr arr':Array Value}{t:TypeId}(hl:look st.sto id=some o)(hp:φ id=some (B,cap))
  (hh:w.heap[B]?=some (.cells arr t (0,0))) (hc:compat o o') (hobj:ObjRep σ φ ((id,o')::st.sto) (w.setRow B arr') id o') :
  ∃ σ' φ',Rel c ⟨st.fr,bR id o' st.sto⟩ a (w.setRow B arr') σ' φ':=by
 have hE:Ext (fun _=>False) φ φ st.sto ((id,o')::st.sto):=Ext.upd hl hc
 have hm:=h.mine _ _ _ hl hp
 have h1:Rel c ⟨st.fr,(id,o')::st.sto⟩ a (w.setRow B arr') σ φ:=by
  refine⟨h.le,h.fresh,h.inv.set hl hp ((h.inv.obj _ _ hl).sig hp) (fun b hb=>setRow_other w B b arr' hb) hc hobj,fun i e p hi hpi=>?_,fun s v hv=>?_,h.defers,h.size,?_,h.pin⟩
  ·rcases ab hi with⟨rfl,rfl⟩|⟨_,hi⟩
   ·rw[hp] at hpi;cases hpi;exact hm
   ·exact h.mine _ _ _ hi hpi
  ·obtain⟨u,hu,hru⟩:=h.slot s v hv
   exact⟨u,hu,hru.ext (Sig.le_refl _) hE fun j hj=>by cases hj⟩
  ·refine⟨h.fra.os,h.fra.tape,h.fra.output,by rw[setRow_size];exact h.fra.size,h.fra.drawn,fun b hb hM=>?_⟩
   have:b≠B:=by
    rintro rfl
    rcases hm with hm|hm
    ·simp only at hm;omega
    ·exact hM hm
   rw[setRow_other w B b arr' this]
   exact h.fra.block b hb hM
 exact lh (fun i=>cn) a _ σ φ h1
theorem ki{t ty:TypeId}{i:TypeInfo}{B o:Nat}{arr:Array Value}{v:Value}(hi:P.info? t=some i)(hh:w.heap[B]?=some (.cells arr ty (0,0)))(hs:v.cells.size=i.size)
  (hf:o+v.cells.size≤arr.size) (h1:∀ u∈v.cells.toList,u.oneCell'=true) :
  (storeVar t ⟨B,o,none⟩ v).run P w=.ok () (w.setRow B (arr.toList.take o++v.cells.toList++arr.toList.drop (o+v.cells.toList.length)).toArray):=by
 have hst:=run_storeCells_at P B o ty v.cells.toList 0 arr w hh (by simpa using hf) h1
 simp only[Nat.add_zero] at hst
 unfold storeVar
 simp only[Hj,bu hi,Ha,hs,ne_eq,not_true_eq_false,if_false]
 exact hst
theorem u6(hT:aD P T){ops:Array Oper}{o:Oper}{rest:List Oper}{st:St}{K:St→Prop}{t:TypeId}{x y:Operand}{id off s:Nat}{g:Bool}{cells cs cells':List AC}{v:AV}
  (ho:o.op=.store t x y) (hg:o.guard=none) (hdst:o.dst=none) (ht:fI T t=some (g,s)) (hx:ev st x=some (.one (.ref id off))) (hl:look st.sto id=some (.box cells))
  (hy:ev st y=some v) (hc:cellsOf v=some cs) (hn:Nat.beq cs.length s=true) (hsp:b7 off cs cells=some cells')
  (h:aa P c ops rest ⟨st.fr,bR id (.box cells') st.sto⟩ K):aa P c ops (o::rest) st K:=by
 refine l7 hg fun a w σ φ hr=>?_
 obtain⟨i,u,hi,_,hs,_⟩:=tC hT ht
 have h1:RepC σ φ st.sto (.ref id off) (a.eval x):=ak hr hx
 generalize hux:a.eval x=ux at h1
 have hrep:=eM hc (ak hr hy)
 have hns:=G3 hn
 obtain⟨he,hle⟩:=gd hsp
 cases h1 with
 | dead hxx _=>simp[bm,bn hl] at hxx
 | ref hl' hp =>
   rename_i B cap cs'
   rw[hl] at hl';cases hl'
   obtain⟨B',c',vs,ty,hp',hh,ha,hσ⟩:=hr.inv.obj _ _ hl
   rw[hp] at hp';cases hp'
   have hlen:=hrep.length
   have hlen2:=ha.length
   have hE:Ext (fun _=>False) φ φ st.sto ((id,.box cells')::st.sto):=Ext.upd hl trivial
   have hrun:=ki (P:=P) (w:=w) (t:=t) (v:=a.eval y) (o:=off) hi hh (by rw[hs,← hns,hlen,Array.length_toList]) (by rw[← Array.length_toList,← hlen];simp;omega) (vK hrep)
   obtain⟨σ',φ',hr'⟩:=hr.write (o':=.box cells') (arr':=(vs.take off++(a.eval y).cells.toList++vs.drop (off+(a.eval y).cells.toList.length)).toArray) hl hp hh trivial
    ⟨B,cap,_,ty,hp,setRow_heap w B _ _ ty _ hh,fW (Sig.le_refl _) hE (fun j hj=>by cases hj) (by
     rw[he,hlen]
     exact ((ha.take off).append hrep).append (ha.drop _)),hσ⟩
   refine⟨_,_,σ',φ',?_,by rw[hdst];exact hr',h⟩
   simp only[execOp,ho,hux,Instr.storeAt,Instr.sureAddr,Hj,Hr,Ha,hrun]
theorem mV{α:Type}{k:Nat}:∀ {xs:List (List α)} {i:Nat} {x y:List α},(∀ x∈xs,x.length=k)→xs[i]?=some x→y.length=k →
  (xs.set i y).flatten=xs.flatten.take (i*k)++y++xs.flatten.drop (i*k+k)
 | [],_,_,_,_,h,_=>by simp at h
 | z::zs,0,x,y,hk,h,hy=>by
   have hz:=hk z (by simp)
   simp[hz]
 | z::zs,i+1,x,y,hk,h,hy=>by
   have hz:=hk z (by simp)
   simp only[List.set_cons_succ,List.flatten_cons]
   rw[mV (fun x hx=>hk x (by simp[hx])) (by simpa using h) hy]
   have e1:(i+1)*k=z.length+i*k:=by rw[hz,Nat.succ_mul];omega
   have e2:(i+1)*k+k=z.length+(i*k+k):=by omega
   rw[e1,Nat.add_assoc,List.take_append,List.drop_append,G1 (Nat.le_add_right _ _),List.drop_of_length_le (Nat.le_add_right _ _),HS,HS]
   simp
theorem tD(hT:aD P T){ops:Array Oper}{o:Oper}{rest:List Oper}{st:St}{K:St→Prop}{t:TypeId}{x y:Operand}{id j off k b s:Nat}{g:Bool}{xs:List (List D)}{el el' ds:List D}{cs:List AC}{v:AV}
  (ho:o.op=.store t x y) (hg:o.guard=none) (hdst:o.dst=none) (ht:fI T t=some (g,s)) (hx:ev st x=some (.one (.rref id j off))) (hl:look st.sto id=some (.row k b xs)) (hel:xs[j]?=some el)
  (hy:ev st y=some v) (hc:cellsOf v=some cs) (hn:Nat.beq cs.length s=true) (hds:dI cs=some ds) (hsp:b7 off ds el=some el')
  (h:aa P c ops rest ⟨st.fr,bR id (.row k b (xs.set j el')) st.sto⟩ K):aa P c ops (o::rest) st K:=by
 refine l7 hg fun a w σ φ hr=>?_
 obtain⟨i,u,hi,_,hs,_⟩:=tC hT ht
 have h1:RepC σ φ st.sto (.rref id j off) (a.eval x):=ak hr hx
 generalize hux:a.eval x=ux at h1
 obtain rfl:=gX hds
 have hrep:=eM hc (ak hr hy)
 have hns:=G3 hn
 obtain⟨he,hle⟩:=gd hsp
 cases h1 with
 | dead hxx _=>simp[bm,bn hl] at hxx
 | rref hl' hp =>
   rename_i k' b' B cap xs'
   rw[hl] at hl';cases hl'
   obtain⟨arr,ty,us,hh,hsz,hle2,h48,hb47,hlk,ha,hcell,hσ,hul⟩:=(hr.inv.obj _ _ hl).row_cells hp
   have hlen:=hrep.length
   rw[G2] at hlen hns
   have hj:j<xs.length:=(G7.1 hel).1
   have hek:=hlk el (List.mem_of_getElem? hel)
   have hel'k:el'.length=k:=by rw[he];simp;omega
   have hjk:j*k+k≤xs.length*k:=by have:=Hl k hj;rw[Nat.succ_mul] at this;exact this
   have hasz:xs.length*k≤arr.size:=by rw[hsz];exact Hl _ hle2
   have hrun:=ki (P:=P) (w:=w) (t:=t) (v:=a.eval y) (o:=j*k+off) hi hh (by rw[hs,← hns,hlen,Array.length_toList]) (by rw[← Array.length_toList,← hlen];omega) (vK hrep)
   have hus:∀ (q:Nat) (u:Value),(us.take (j*k+off)++(a.eval y).cells.toList++us.drop (j*k+off+(a.eval y).cells.toList.length))[q]?=some u →
     ((arr.toList.take (j*k+off)++(a.eval y).cells.toList++arr.toList.drop (j*k+off+(a.eval y).cells.toList.length)).toArray)[q]?=some u:=by
    intro q u hq
    have hl1:(us.take (j*k+off)).length=j*k+off:=by simp;omega
    have hl2:(arr.toList.take (j*k+off)).length=j*k+off:=by simp;omega
    rw[List.append_assoc] at hq
    simp only[List.getElem?_toArray,List.append_assoc]
    rcases HG q (j*k+off) with h0|h0
    ·rw[Hu (by omega),HC,if_pos h0] at hq
     rw[Hu (by omega),HC,if_pos h0,HI]
     exact hcell _ _ hq
    ·rw[Hv (by omega),hl1] at hq
     rw[Hv (by omega),hl2]
     rcases HG (q-(j*k+off)) (a.eval y).cells.toList.length with h2|h2
     ·rw[Hu h2] at hq ⊢
      exact hq
     ·rw[Hv h2,Hz] at hq
      rw[Hv h2,Hz,HI]
      exact hcell _ _ hq
   have hrow:(xs.set j el').flatten=xs.flatten.take (j*k+off)++ds++xs.flatten.drop (j*k+off+ds.length):=by
    rw[mV hlk hel hel'k,he]
    have hfl:=bE hlk
    have e1:xs.flatten.take (j*k+off)=xs.flatten.take (j*k)++el.take off:=by
     apply List.ext_getElem?
     intro q
     rw[HC]
     have hl1:(xs.flatten.take (j*k)).length=j*k:=by simp only[List.length_take,hfl];omega
     split
     ·rcases HG q (j*k) with h0|h0
      ·rw[Hu (by omega),HC,if_pos h0]
      ·rw[Hv (by omega),hl1,HC,if_pos (by omega)]
       have:=c8 (j:=q-j*k) hlk hel (by omega)
       rw[← this];congr 1;omega
     ·rw[Hv (by omega),hl1,HC,if_neg (by omega)]
    have e2:xs.flatten.drop (j*k+off+ds.length)=el.drop (off+ds.length)++xs.flatten.drop (j*k+k):=by
     apply List.ext_getElem?
     intro q
     rw[Hz]
     have hl1:(el.drop (off+ds.length)).length=k-(off+ds.length):=by simp[hek]
     rcases HG q (k-(off+ds.length)) with h0|h0
     ·rw[Hu (by omega),Hz]
      have:=c8 (j:=off+ds.length+q) hlk hel (by omega)
      rw[← this];congr 1;omega
     ·rw[Hv (by omega),hl1,Hz]
      congr 1;omega
    rw[e1,e2]
    simp
   have hmap:All2 (Rep σ) ds (a.eval y).cells.toList:=kb hrep
   obtain⟨σ',φ',hr'⟩:=hr.write (o':=.row k b (xs.set j el')) (arr':=(arr.toList.take (j*k+off)++(a.eval y).cells.toList++arr.toList.drop (j*k+off+(a.eval y).cells.toList.length)).toArray) hl hp hh
    ⟨rfl,rfl,by simp⟩
    (ObjRep.mk_row hp (setRow_heap w B _ _ ty _ hh) (by rw[← hsz,List.size_toArray];simp only[G8,List.length_take,List.length_drop,Array.length_toList] at hlen ⊢;omega) (by simpa using hle2) (by simpa using h48) (by simpa using hb47) (fun x hx=>by
     rcases List.mem_or_eq_of_mem_set hx with hx|rfl
     ·exact hlk x hx
     ·exact hel'k) (by
     rw[hrow]
     have:=hmap.length
     rw[this]
     exact ((ha.take _).append hmap).append (ha.drop _)) hus hσ)
   refine⟨_,_,σ',φ',?_,by rw[hdst];exact hr',h⟩
   simp only[execOp,ho,hux,Instr.storeAt,Instr.sureAddr,Hj,Hr,Ha,hrun]
end Go.Abs
namespace Go.Abs
open Go
variable {P:Program} {c:Ctx} {T:Tab} {σ:Sig} {φ:Pl} {sto:Sto} {w:World}
def z6(id:Nat)(x:AC):AC:=bif x.men id then .junk else x
def wP(id:Nat):List AC→List AC
 | []=>[]
 | c::r=>z6 id c::wP id r
def wQ(id:Nat)(v:AV):AV:=bif v.men id then .any else v
def jj(id:Nat):List (Nat×AV)→List (Nat×AV)
 | []=>[]
 | (s,v)::r=>(s,wQ id v)::jj id r
def tc(id:Nat):AObj→AObj
 | .box cs=>.box (wP id cs)
 | .loop li fr s p=>.loop li (jj id fr) s p
 | o=>o
def cz(id:Nat):Sto→Sto
 | []=>[]
 | (i,o)::r=>(i,tc id o)::cz id r
theorem eb{id:Nat}:∀ {sto:Sto} {i:Nat} {e:AObj},look (cz id sto) i=some e→∃ e0,look sto i=some e0∧e=tc id e0
 | [],_,_,h=>by simp[cz,look] at h
 | (j,x)::r,i,e,h=>by
   simp only[cz] at h
   rcases ab h with⟨rfl,rfl⟩|⟨hne,h⟩
   ·exact⟨x,ao,rfl⟩
   ·obtain⟨e0,h2,h3⟩:=eb h
    exact⟨e0,by rw[ax hne];exact h2,h3⟩
theorem lg{id:Nat}:∀ {sto:Sto} {i:Nat} {e:AObj},look sto i=some e→look (cz id sto) i=some (tc id e)
 | [],_,_,h=>by simp[look] at h
 | (j,x)::r,i,e,h=>by
   simp only[cz]
   rcases ab h with⟨rfl,rfl⟩|⟨hn,h⟩
   ·exact ao
   ·rw[ax hn];exact lg h
theorem lT{id:Nat}:∀ {fr:List (Nat×AV)} {s:Nat} {v:AV},look (jj id fr) s=some v→∃ v0,look fr s=some v0∧v=wQ id v0
 | [],_,_,h=>by simp[jj,look] at h
 | (j,x)::r,s,v,h=>by
   simp only[jj] at h
   rcases ab h with⟨rfl,rfl⟩|⟨hne,h⟩
   ·exact⟨x,ao,rfl⟩
   ·obtain⟨v0,h1,h2⟩:=lT h
    exact⟨v0,by rw[ax hne];exact h1,h2⟩
theorem uX{id:Nat}{e:AObj}:compat e (tc id e):=by cases e<;>simp[tc,compat]
theorem oX{id i:Nat}{sto:Sto}(h:look sto i=none):look (cz id sto) i=none:=by
 cases hl:look (cz id sto) i with
 | none=>rfl
 | some e =>
   obtain⟨e0,h1,_⟩:=eb hl
   rw[h] at h1;cases h1
theorem Ext.pur{id:Nat}{e:AObj}{p:Option (Nat×Nat)}:Ext (·=id) φ (bo φ id p) sto ((id,e)::cz id sto) :=
 Ext.of_some (fun _ _ hi h=>⟨au hi,_,(ax hi).trans (lg h),uX⟩) (fun _ hi h=>(ax hi).trans (oX h))
theorem z7{id:Nat}{e:AObj}{p:Option (Nat×Nat)}{x:AC}{v:Value}(h:RepC σ φ sto x v):RepC σ (bo φ id p) ((id,e)::cz id sto) (z6 id x) v:=by
 unfold z6
 cases hm:x.men id with
 | true=>exact .junk h.oneCell
 | false=>exact h.ext (Sig.le_refl _) Ext.pur fun j hj=>by cases hj;exact hm
theorem rF{id:Nat}{e:AObj}{p:Option (Nat×Nat)}:∀ {cs:List AC} {vs:List Value},All2 (RepC σ φ sto) cs vs→All2 (RepC σ (bo φ id p) ((id,e)::cz id sto)) (wP id cs) vs
 | [],[],_=>trivial
 | _::_,_::_,h=>⟨z7 h.1,rF h.2⟩
 | [],_::_,h=>h.elim
 | _::_,[],h=>h.elim
theorem te{id:Nat}{e:AObj}{p:Option (Nat×Nat)}{x:AV}{v:Value}(h:RepV σ φ sto x v):RepV σ (bo φ id p) ((id,e)::cz id sto) (wQ id x) v:=by
 unfold wQ
 cases hm:x.men id with
 | true=>trivial
 | false=>exact h.ext (Sig.le_refl _) Ext.pur fun j hj=>by cases hj;exact hm
def tf(P:Program)(o:Oper)(a:Act)(w:World)(σ:Sig)(φ:Pl)(id:Nat)(o':AObj)(m:Nat):Prop :=
 ∃ (u:Value) (w':World) (p:Option (Nat×Nat)),(execOp a.eval o).run P w=.ok (.value u) w'∧w'.os=w.os∧w'.tape=w.tape∧w'.output=w.output∧(w.heap.size≤w'.heap.size∧w.drawn≤w'.drawn) ∧
   (∀ b,b<w.heap.size→(∀ c,φ id≠some (b,c))→w'.heap[b]?=w.heap[b]?) ∧
   (∀ q,p=some q→(∃ c,φ id=some (q.1,c))∨(w.heap.size≤q.1∧q.1<w'.heap.size)) ∧
   ∀ (id':Nat) (sto':Sto),ObjRep σ (bo φ id' p) ((id',o')::sto') w' id' o'∧RepV σ (bo φ id' p) ((id',o')::sto') (.one (.own id' m)) u
theorem Ext.renew{id id':Nat}{e:AObj}{p:Option (Nat×Nat)}:Ext (·=id') φ (bo φ id' p) sto ((id',e)::del id sto):=by
 intro i hi
 by_cases h:i=id
 ·subst h
  refine .inl ?_
  rw[ax hi]
  cases hl:look (del i sto) i with
  | none=>rfl
  | some e=>exact absurd rfl (cG hl).1
 ·cases hl:look sto i with
  | none=>exact .inl (by rw[ax hi,c7 h];exact hl)
  | some e'=>exact .inr ⟨e',rfl,au hi,e',by rw[ax hi,c7 h];exact hl,compat.refl _⟩
theorem Rel.renew{st:St}{a:Act}(h:Rel c st a w σ φ){id id':Nat}{o o':AObj}{m:Nat}(hlt:Nat.blt id' 1000000=true)(hl:look st.sto id=some o)(hm1:aQ id' st.fr=false)(hm2:aF id' st.sto=false)(hm3:look st.sto id'=none)
  {op:Oper} (H:tf P op a w σ φ id o' m) (hd:aw c.n op.dst=true) :
  ∃ u w' σ' φ',(execOp a.eval op).run P w=.ok (.value u) w'∧Rel c ⟨aU op.dst (.one (.own id' m)) st.fr,(id',o')::del id st.sto⟩ (a.put op.dst u) w' σ' φ':=by
 obtain⟨u,w',p,hrun,hos,htape,hout,hsize,hw,hp,hboth⟩:=H
 obtain⟨hobj,hv⟩:=hboth id' (del id st.sto)
 simp only[HT] at hlt
 refine⟨u,w',σ,bo φ id' p,hrun,?_⟩
 have hne':∀ {i:Nat} {e:AObj},look st.sto i=some e→i≠id':=by rintro i e hi rfl;rw[hm3] at hi;cases hi
 have hother:∀ {i:Nat} {e:AObj} {q:Nat×Nat},look st.sto i=some e→i≠id→φ i=some q→q.1<w.heap.size∧(∀ c,φ id≠some (q.1,c)):=by
  intro i e q hi hne hq
  refine⟨(h.inv.obj _ _ hi).lt hq,fun c' hc'=>?_⟩
  exact h.inv.inj _ _ _ _ _ _ hi hl hne hq hc' rfl
 have hsigb:∀ b cs,σ b=some cs→b<w.heap.size∧(∀ c,φ id≠some (b,c)):=by
  intro b cs hb
  obtain⟨t,f,hh⟩:=h.inv.sig b cs hb
  refine⟨(Hk.1 hh).1,fun c' hc'=>?_⟩
  have:=(h.inv.obj _ _ hl).sig hc'
  rw[hb] at this;cases this
 have hinv:HInv σ (bo φ id' p) ((id',o')::del id st.sto) w':=by
  refine⟨fun b cs hb=>?_,fun i e hi=>?_,fun i i' e e' q q' hi hi' hne hq hq'=>?_⟩
  ·obtain⟨t,f,hh⟩:=h.inv.sig b cs hb
   obtain⟨h1,h2⟩:=hsigb b cs hb
   exact⟨t,f,(hw b h1 h2).trans hh⟩
  ·rcases ab hi with⟨rfl,rfl⟩|⟨hne,hi⟩
   ·exact hobj
   ·obtain⟨hni,h0⟩:=cG hi
    have ho:=h.inv.obj _ _ h0
    refine ho.ext (X:=(·=id')) (Sig.le_refl _) Ext.renew (fun j hj=>by cases hj;exact dr hm2 h0) (au hne) fun B c' hB=>?_
    obtain⟨h5,h6⟩:=hother h0 hni hB
    exact⟨hw B h5 h6,rfl⟩
  ·rcases ab hi with⟨h1,h2⟩|⟨hn,hi⟩
   ·subst h1;subst h2
    rcases ab hi' with⟨h3,_⟩|⟨hn',hi'⟩
    ·exact absurd h3.symm hne
    ·obtain⟨hni,h0⟩:=cG hi'
     rw[ai] at hq;rw[au hn'] at hq'
     obtain⟨h5,h6⟩:=hother h0 hni hq'
     rcases hp q hq with⟨c',hc'⟩|⟨h7,_⟩
     ·intro e;rw[e] at hc';exact h6 c' hc'
     ·omega
   ·obtain⟨hni,h1⟩:=cG hi
    rw[au hn] at hq
    obtain⟨h5,h6⟩:=hother h1 hni hq
    rcases ab hi' with⟨h3,h4⟩|⟨hn',hi'⟩
    ·subst h3;subst h4
     rw[ai] at hq'
     rcases hp q' hq' with⟨c',hc'⟩|⟨h7,_⟩
     ·intro e;rw[← e] at hc';exact h6 c' hc'
     ·omega
    ·obtain⟨_,h2⟩:=cG hi'
     rw[au hn'] at hq'
     exact h.inv.inj _ _ _ _ _ _ h1 h2 hne hq hq'
 refine h.putTo (st':=⟨st.fr,(id',o')::del id st.sto⟩) (w':=w') (σ':=σ) (φ':=bo φ id' p) hd h.le h.fresh hinv (fun i e q hi hq=>?_)
  ⟨hos.trans h.fra.os,htape.trans h.fra.tape,hout.trans h.fra.output,Hf h.fra.size hsize.1,Hf h.fra.drawn hsize.2,fun b hb hM=>?_⟩ (fun i hi=>by
   rw[au (by omega)];exact h.pin i hi) (fun _=>hv) (fun s x _ hx=>⟨x,hx,fun z hz=>hz.ext (Sig.le_refl _) Ext.renew fun j hj=>by cases hj;exact ch hm1 hx⟩)
 ·rcases ab hi with⟨h1,_⟩|⟨hn,hi⟩
  ·subst h1
   rw[ai] at hq
   rcases hp q hq with⟨c',hc'⟩|⟨h7,_⟩
   ·exact h.mine _ _ (q.1,c') hl hc'
   ·exact .inl (Hf h.fra.size h7)
  ·obtain⟨_,h0⟩:=cG hi
   rw[au hn] at hq
   exact h.mine _ _ _ h0 hq
 ·rw[hw b (Hw hb h.fra.size) fun c' hc'=>?_]
  ·exact h.fra.block b hb hM
  ·rcases h.mine _ _ _ hl hc' with h1|h1
   ·simp only at h1;omega
   ·exact hM h1
theorem Rel.replace{st:St}{a:Act}{w':World}(h:Rel c st a w σ φ){id:Nat}{o o':AObj}{p:Option (Nat×Nat)}(hlt:∀ i,Pin i→i≠id)(hl:look st.sto id=some o)
  (hos:w'.os=w.os) (htape:w'.tape=w.tape) (hout:w'.output=w.output) (hsize:w.heap.size≤w'.heap.size∧w.drawn≤w'.drawn)
  (hw:∀ b,b<w.heap.size→(∀ c,φ id≠some (b,c))→w'.heap[b]?=w.heap[b]?)
  (hp:∀ q,p=some q→(∃ c,φ id=some (q.1,c))∨(w.heap.size≤q.1∧q.1<w'.heap.size))
  (hobj:ObjRep σ (bo φ id p) ((id,o')::cz id st.sto) w' id o') {dst:Option Nat} (hd:aw c.n dst=true) {v:AV} {u:Value}
  (hv:RepV σ (bo φ id p) ((id,o')::cz id st.sto) v u) :
  ∃ σ' φ',Rel c ⟨aU dst v (jj id st.fr),bR id o' (cz id st.sto)⟩ (a.put dst u) w' σ' φ':=by
 have hother:∀ {i:Nat} {e:AObj} {q:Nat×Nat},look st.sto i=some e→i≠id→φ i=some q→q.1<w.heap.size∧(∀ c,φ id≠some (q.1,c)):=by
  intro i e q hi hne hq
  refine⟨(h.inv.obj _ _ hi).lt hq,fun c' hc'=>?_⟩
  exact h.inv.inj _ _ _ _ _ _ hi hl hne hq hc' rfl
 have hsigb:∀ b cs,σ b=some cs→b<w.heap.size∧(∀ c,φ id≠some (b,c)):=by
  intro b cs hb
  obtain⟨t,f,hh⟩:=h.inv.sig b cs hb
  refine⟨(Hk.1 hh).1,fun c' hc'=>?_⟩
  have:=(h.inv.obj _ _ hl).sig hc'
  rw[hb] at this;cases this
 have hinv:HInv σ (bo φ id p) ((id,o')::cz id st.sto) w':=by
  refine⟨fun b cs hb=>?_,fun i e hi=>?_,fun i i' e e' q q' hi hi' hne hq hq'=>?_⟩
  ·obtain⟨t,f,hh⟩:=h.inv.sig b cs hb
   obtain⟨h1,h2⟩:=hsigb b cs hb
   exact⟨t,f,(hw b h1 h2).trans hh⟩
  ·rcases ab hi with⟨rfl,rfl⟩|⟨hne,hi⟩
   ·exact hobj
   ·obtain⟨e0,h0,rfl⟩:=eb hi
    have ho:=h.inv.obj _ _ h0
    cases e0 with
    | box cs =>
      obtain⟨B,c',vs,t,h1,h2,h3,h4⟩:=ho
      obtain⟨h5,h6⟩:=hother h0 hne h1
      exact⟨B,c',vs,t,(au hne).trans h1,(hw B h5 h6).trans h2,rF h3,h4⟩
    | row k b xs =>
      rcases ho with⟨h1,h2⟩|⟨B,cap,arr,t,vs,h1,h2,h3⟩
      ·exact .inl ⟨h1,(au hne).trans h2⟩
      ·obtain⟨h5,h6⟩:=hother h0 hne h1
       exact .inr ⟨B,cap,arr,t,vs,(au hne).trans h1,(hw B h5 h6).trans h2,h3⟩
    | map kg vg es =>
      obtain⟨B,c',ents,h1,h2,h3⟩:=ho
      obtain⟨h5,h6⟩:=hother h0 hne h1
      exact⟨B,c',ents,(au hne).trans h1,(hw B h5 h6).trans h2,h3⟩
    | loop li fr s p =>
      obtain⟨B,c',r,h1,h2,h3,h3',h4⟩:=ho
      obtain⟨h5,h6⟩:=hother h0 hne h1
      exact⟨B,c',r,(au hne).trans h1,(hw B h5 h6).trans h2,h3,fun s v hv=>by
       obtain⟨v0,hv0,rfl⟩:=lT hv
       obtain⟨u,hu,hru⟩:=h3' s v0 hv0
       exact⟨u,hu,te hru⟩,h4⟩
  ·rcases ab hi with⟨h1,h2⟩|⟨hn,hi⟩
   ·subst h1;subst h2
    rcases ab hi' with⟨h3,_⟩|⟨hn',hi'⟩
    ·exact absurd h3.symm hne
    ·obtain⟨e0,h0,_⟩:=eb hi'
     rw[ai] at hq;rw[au hn'] at hq'
     obtain⟨h5,h6⟩:=hother h0 hn' hq'
     rcases hp q hq with⟨c',hc'⟩|⟨h7,_⟩
     ·intro e;rw[e] at hc';exact h6 c' hc'
     ·omega
   ·obtain⟨e1,h1,_⟩:=eb hi
    rw[au hn] at hq
    obtain⟨h5,h6⟩:=hother h1 hn hq
    rcases ab hi' with⟨h3,h4⟩|⟨hn',hi'⟩
    ·subst h3;subst h4
     rw[ai] at hq'
     rcases hp q' hq' with⟨c',hc'⟩|⟨h7,_⟩
     ·intro e;rw[← e] at hc';exact h6 c' hc'
     ·omega
    ·obtain⟨e2,h2,_⟩:=eb hi'
     rw[au hn'] at hq'
     exact h.inv.inj _ _ _ _ _ _ h1 h2 hne hq hq'
 have hr:=h.putTo (st':=⟨jj id st.fr,(id,o')::cz id st.sto⟩) (v:=v) (u:=u) (w':=w') (σ':=σ) (φ':=bo φ id p) hd h.le h.fresh hinv (fun i e q hi hq=>?_)
  ⟨hos.trans h.fra.os,htape.trans h.fra.tape,hout.trans h.fra.output,Hf h.fra.size hsize.1,Hf h.fra.drawn hsize.2,fun b hb hM=>?_⟩ (fun i hi=>by
   have:i≠id:=hlt i hi
   rw[au this];exact h.pin i hi) (fun _=>hv) (fun s x _ hx=>?_)
 ·exact lh (fun i=>cn) _ _ _ _ hr
 ·rcases ab hi with⟨h1,_⟩|⟨hn,hi⟩
  ·subst h1
   rw[ai] at hq
   rcases hp q hq with⟨c',hc'⟩|⟨h7,_⟩
   ·exact h.mine _ _ (q.1,c') hl hc'
   ·exact .inl (Hf h.fra.size h7)
  ·obtain⟨e0,h0,_⟩:=eb hi
   rw[au hn] at hq
   exact h.mine _ _ _ h0 hq
 ·rw[hw b (Hw hb h.fra.size) fun c' hc'=>?_]
  ·exact h.fra.block b hb hM
  ·rcases h.mine _ _ _ hl hc' with h1|h1
   ·simp only at h1;omega
   ·exact hM h1
 ·obtain⟨v0,h1,rfl⟩:=lT hx
  exact⟨v0,h1,fun z hz=>te hz⟩
def dG(st:St)(k:Nat):AV→Option (List (List D))
 | .one (.d (.sl k' _ ys))=>bif Nat.beq k k' then some ys else none
 | .one (.d .nil)=>some []
 | .one (.own i m)=>match look st.sto i with
   | some (.row k' _ ys)=>bif Nat.beq k k' then some (ys.take m) else none
   | _=>none
 | .one (.sub i lo m)=>match look st.sto i with
   | some (.row k' _ ys)=>bif Nat.beq k k' then some ((ys.drop lo).take m) else none
   | _=>none
 | _=>none
theorem jG{α:Type}{k:Nat}:∀ {xs:List (List α)} (n:Nat),(∀ x∈xs,x.length=k)→(xs.take n).flatten=xs.flatten.take (n*k)
 | [],n,_=>by simp
 | x::xs,0,_=>by simp
 | x::xs,n+1,hk=>by
   have hx:=hk x (by simp)
   have e:(n+1)*k=x.length+n*k:=by rw[hx,Nat.succ_mul];omega
   simp only[List.take_succ_cons,List.flatten_cons]
   rw[jG n (fun y hy=>hk y (by simp[hy])),e,List.take_append,G1 (Nat.le_add_right _ _),HS]
theorem mL{α:Type}{k:Nat}:∀ {xs:List (List α)} (n:Nat),(∀ x∈xs,x.length=k)→(xs.drop n).flatten=xs.flatten.drop (n*k)
 | [],n,_=>by simp
 | x::xs,0,_=>by simp
 | x::xs,n+1,hk=>by
   have hx:=hk x (by simp)
   have e:(n+1)*k=x.length+n*k:=by rw[hx,Nat.succ_mul];omega
   simp only[List.drop_succ_cons,List.flatten_cons]
   rw[mL n (fun y hy=>hk y (by simp[hy])),e,List.drop_append,List.drop_of_length_le (Nat.le_add_right _ _),HS,HQ]
structure Src (σ:Sig) (w:World) (k:Nat) (ys:List (List D)) (v:Value) (us:List Value):Prop where
 shape:∃ A cap,v=.slice A ys.length cap
 first:∀ (P:Program) (w':World),w'.heap=w.heap→(Builtin.firstCells k ys.length v).run P w'=.ok us.toArray w'
 rep:All2 (Rep σ) ys.flatten us
 len:∀ y∈ys,y.length=k
 one:∀ u∈us,u.oneCell'=true
theorem lU{w':World}{k n B o cap:Nat}{us:List Value}(hl:us.length=n*k)(hm:fT w B o us)(hw:w'.heap=w.heap):(Builtin.firstCells k n (.slice (some ⟨B,o,none⟩) n cap)).run P w'=.ok us.toArray w':=by
 refine run_firstCells_some (P:=P) w' k n ⟨B,o,none⟩ n cap us hl fun j v hv=>?_
 have:=hm j v hv
 rw[ec]
 unfold World.cell? at this ⊢
 rw[hw];exact this
theorem mM{ds:List D}{us:List Value}(h:All2 (Rep σ) ds us):∀ u∈us,u.oneCell'=true:=by
 induction ds generalizing us with
 | nil=>cases us with
   | nil=>simp
   | cons _ _=>exact h.elim
 | cons d ds ih=>cases us with
   | nil=>exact h.elim
   | cons u us =>
     intro x hx
     rcases Hm.1 hx with rfl|hx
     ·exact lP h.1.oneCell
     ·exact ih h.2 x hx
theorem du{w':World}{k cap:Nat}{A:Option Addr}:(Builtin.firstCells k 0 (.slice A 0 cap)).run P w'=.ok #[] w':=by
 cases A with
 | none=>simp[Builtin.firstCells]
 | some a=>exact run_firstCells_some (P:=P) w' k 0 a 0 cap [] (by simp) (by simp)
theorem vE{st:St}{k:Nat}{v:AV}{ys:List (List D)}(hs:dG st k v=some ys)(hi:HInv σ φ st.sto w){u:Value}(h:RepV σ φ st.sto v u):∃ us,Src σ w k ys u us:=by
 have hrow:∀ {i k' b' B cap lo m:Nat} {zs:List (List D)},look st.sto i=some (.row k' b' zs)→φ i=some (B,cap)→lo+m≤zs.length→∃ us:List Value,All2 (Rep σ) ((zs.drop lo).take m).flatten us ∧
   fT w B (lo*k') us∧us.length=m*k'∧∀ y∈(zs.drop lo).take m,y.length=k':=by
  intro i k' b' B cap lo m zs hl hp hlm
  obtain⟨arr,ty,us,hh,hsz,hle,_,_,hlk,ha,hcell,_,hul⟩:=(hi.obj _ _ hl).row_cells hp
  have hlk':∀ y∈(zs.drop lo).take m,y.length=k':=fun y hy=>hlk y (List.mem_of_mem_drop (List.mem_of_mem_take hy))
  refine⟨(us.drop (lo*k')).take (m*k'),?_,?_,?_,hlk'⟩
  ·rw[jG m (fun y hy=>hlk y (List.mem_of_mem_drop hy)),mL lo hlk]
   exact (ha.drop _).take _
  ·intro j u hu
   rw[HC] at hu
   split at hu
   ·rw[Hz] at hu
    rw[dz hh]
    exact hcell _ _ hu
   ·cases hu
  ·have:(lo+m)*k'≤zs.length*k':=Hl _ hlm
   rw[Nat.add_mul] at this
   simp[hul];omega
 unfold dG at hs
 split at hs
 ·rename_i k' b' ys'
  cases hb:Nat.beq k k'<;>simp only[hb,HW,HV,reduceCtorEq,G4] at hs
  subst hs
  obtain rfl:=G3 hb
  replace h:=RepC.d_inv h
  cases h with
  | sl vs hc h48 hb47 hk hA hh =>
    rename_i A cap
    rcases HU ys'.length with h0|h0
    ·have:=List.eq_nil_of_length_eq_zero h0
     subst this
     exact⟨[],⟨⟨A,cap,rfl⟩,fun P w' _=>du,trivial,by simp,by simp⟩⟩
    ·obtain⟨B,off,cells,rfl,hσ,hcell⟩:=hA h0
     obtain⟨t,f,hhp⟩:=hi.sig _ _ hσ
     have hfl:=bE hk
     let us:List Value:=(List.range (ys'.length*k)).map fun j=>vs (j / k) (j % k)
     have hus:∀ j,j<ys'.length*k→us[j]?=some (vs (j / k) (j % k)):=fun j hj=>by simp[us,hj]
     have hdiv:∀ j,j<ys'.length*k→0<k∧j / k<ys'.length∧j % k<k∧j / k*k+j % k=j:=by
      intro j hj
      have hk0:0<k:=by
       rcases HU k with h0|h0
       ·subst h0;simp at hj
       ·exact h0
      exact⟨hk0,Nat.div_lt_of_lt_mul (by rw[Nat.mul_comm];exact hj),Nat.mod_lt _ hk0,by rw[Nat.mul_comm];exact Nat.div_add_mod j k⟩
     have hrep:All2 (Rep σ) ys'.flatten us:=by
      refine All2.of_get (by simp[us,hfl]) fun j d u hd hu=>?_
      have hj:j<ys'.length*k:=by rw[← hfl];exact (G7.1 hd).1
      obtain⟨hk0,h1,h2,h3⟩:=hdiv j hj
      rw[hus j hj] at hu;cases hu
      have hx:ys'[j / k]?=some ys'[j / k]:=He h1
      have:=c8 hk hx h2
      rw[h3,hd] at this
      exact hh _ _ _ _ hx this.symm
     refine⟨us,⟨⟨_,cap,rfl⟩,fun P w' hw=>lU (by simp[us]) ?_ hw,hrep,hk,mM hrep⟩⟩
     intro j u hu
     have hj:j<ys'.length*k:=by
      have:=(G7.1 hu).1
      simpa[us] using this
     obtain⟨hk0,h1,h2,h3⟩:=hdiv j hj
     rw[hus j hj] at hu;cases hu
     rw[dz hhp,← hcell _ _ h1 h2]
     congr 1;omega
 ·simp only[G4] at hs;subst hs
  replace h:=RepC.d_inv h;cases h
  exact⟨[],⟨⟨none,0,rfl⟩,fun P w' _=>du,trivial,by simp,by simp⟩⟩
 ·rename_i i m
  split at hs<;>(try (simp at hs;done))
  rename_i k' b' ys' hl
  cases hb:Nat.beq k k'<;>simp only[hb,HW,HV,reduceCtorEq,G4] at hs
  subst hs
  obtain rfl:=G3 hb
  cases h with
  | dead hxx _=>simp[bm,bn hl] at hxx
  | ownNil h hp=>exact⟨[],⟨⟨none,0,by simp⟩,fun P w' _=>by simpa using du,by simp[All2],by simp,by simp⟩⟩
  | own hl' hn hp =>
    rw[hl] at hl';cases hl'
    obtain⟨us,h1,h2,h3,h4⟩:=hrow (lo:=0) (m:=m) hl hp (by omega)
    simp only[List.drop_zero,Nat.zero_mul] at h1 h2 h4
    have hm:(ys'.take m).length=m:=by simp;omega
    refine⟨us,⟨⟨_,_,by rw[hm]⟩,fun P w' hw=>?_,h1,h4,mM h1⟩⟩
    rw[hm]
    exact lU h3 h2 hw
 ·rename_i i lo m
  split at hs<;>(try (simp at hs;done))
  rename_i k' b' ys' hl
  cases hb:Nat.beq k k'<;>simp only[hb,HW,HV,reduceCtorEq,G4] at hs
  subst hs
  obtain rfl:=G3 hb
  cases h with
  | dead hxx _=>simp[bm,bn hl] at hxx
  | sub hl' hn hc hA =>
    rw[hl] at hl';cases hl'
    rename_i cap' A
    have hm:((ys'.drop lo).take m).length=m:=by simp;omega
    rcases HU m with h0|h0
    ·subst h0
     exact⟨[],⟨⟨A,cap',by simp⟩,fun P w' _=>by simpa using du,by simp[All2],by simp,by simp⟩⟩
    ·obtain⟨B,cap,hp,rfl⟩:=hA h0
     obtain⟨us,h1,h2,h3,h4⟩:=hrow (lo:=lo) (m:=m) hl hp hn
     refine⟨us,⟨⟨_,_,by rw[hm]⟩,fun P w' hw=>?_,h1,h4,mM h1⟩⟩
     rw[hm]
     exact lU h3 h2 hw
 ·simp at hs
end Go.Abs
