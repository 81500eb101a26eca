import Derived.RangeFuncLeaves
import Derived.Test.YtpejdgkaapnekaaGreatKP2
set_option linter.unusedVariables false
set_option linter.unusedSimpArgs false
set_option maxHeartbeats 1000000
namespace Go.Abs
open Go
variable {P:Program} {c:Ctx} {T:Tab} {σ:Sig} {φ:Pl} {sto:Sto} {w:World}
theorem vA{t t2 ty e e2:TypeId}{i:TypeInfo}{z:Value}(ht:P.underlying t=some (.slice e))(ht2:P.underlying t2=some (.slice e2))(hi:P.info? e=some i)(hz:i.zero=some z)
  {base A:Option Addr} {n cap m c':Nat} {olds news:List Value}
  (hfo:∀ w',w'.heap=w.heap→(Builtin.firstCells i.size n (.slice base n cap)).run P w'=.ok olds.toArray w')
  (hfx:∀ w',w'.heap=w.heap→(Builtin.firstCells i.size m (.slice A m c')).run P w'=.ok news.toArray w')
  (hg:cap<n+m) (hb:(n+m)*i.bytes≤140737488355328) (h48:n+m<2^48) :
  (Builtin.append_ #[t,t2] ty #[.slice base n cap,.slice A m c']).run P w =
   .ok (.slice (some ⟨w.heap.size,0,none⟩) (n+m) (grownCap w (n+m) cap e))
    (w.drew.alloc (.cells (olds++news++(Builtin.zeroCells z.cells (grownCap w (n+m) cap e-(n+m))).toList).toArray e)):=by
 have hn:¬ (n+m≤cap):=by omega
 have h63':¬ (9223372036854775807<((n:Int)+(m:Int))):=by omega
 have hfit:=growslice_fits hg hb
 have h48':¬ (281474976710656<Builtin.nextslicecap (n+m) cap*i.bytes):=by omega
 have hf:=hfx w.drew rfl
 have hf2:=hfo w.drew rfl
 simp[Builtin.append_,Ym ht,Ym ht2,sizeOf,typeInfo,zeroValue,hi,hz,Builtin.lenOf,hn,h63',h48',Question.forced,hf,hf2,newRow,grownCap]
 congr 2
 apply Array.ext'
 simp
theorem vB{t t2 ty e e2 ty0:TypeId}{i:TypeInfo}(ht:P.underlying t=some (.slice e))(ht2:P.underlying t2=some (.slice e2))(hi:P.info? e=some i)
  {A:Option Addr} {B n cap m c':Nat} {arr:Array Value} {news:List Value} (hh:w.heap[B]?=some (.cells arr ty0 (0,0)))
  (hfx:(Builtin.firstCells i.size m (.slice A m c')).run P w=.ok news.toArray w) (h1:∀ u∈news,u.oneCell'=true)
  (hg:n+m≤cap) (hfit:n*i.size+news.length≤arr.size) :
  (Builtin.append_ #[t,t2] ty #[.slice (some ⟨B,0,none⟩) n cap,.slice A m c']).run P w =
   .ok (.slice (some ⟨B,0,none⟩) (n+m) cap) (w.setRow B (arr.toList.take (n*i.size)++news++arr.toList.drop (n*i.size+news.length)).toArray):=by
 have hst:=run_storeCells_at P B (n*i.size) ty0 news 0 arr w hh (by simpa using hfit) h1
 simp only[Nat.add_zero] at hst
 simp[Builtin.append_,Ym ht,Ym ht2,sizeOf,typeInfo,hi,Builtin.lenOf,hg,hfx,Addr.add_lit,hst]
theorem wZ{t t2 ty e e2:TypeId}{i:TypeInfo}(ht:P.underlying t=some (.slice e))(ht2:P.underlying t2=some (.slice e2))(hi:P.info? e=some i)
  {A:Option Addr} {c':Nat}:(Builtin.append_ #[t,t2] ty #[.slice none 0 0,.slice A 0 c']).run P w=.ok (.slice none 0 0) w:=by
 have:=fK (P:=P) (w':=w) (k:=i.size) (cap:=c') (A:=A)
 simp[Builtin.append_,Ym ht,Ym ht2,sizeOf,typeInfo,hi,Builtin.lenOf,this]
theorem pI(hT:bg P T){o:Oper}{st:St}{a:Act}(hr:Rel c st a w σ φ){t t2 e e2 k b k2 b2 k' b' id n:Nat}{z z2:List D}{x y:Operand}{v:AV}{xs ys zs:List (List D)}
  (ho:o.op=.call { callee:=.builtin .append,args:=#[x,y],argTypes:=#[t,t2] }) (ht:bc T t=some (e,k,b,z)) (ht2:bc T t2=some (e2,k2,b2,z2))
  (h1:RepC σ φ st.sto (.own id n) (a.eval x)) (hl:look st.sto id=some (.row k' b' xs)) (hkb:(Nat.beq k k'&&Nat.beq b b')=true) (hy:ev st y=some v) (hs:ga st k v=some ys) (hzs:zs=xs.take n++ys)
  (h48:n+ys.length<2^48) (hb47:(n+ys.length)*b≤2^47):Bc P o a w σ φ id (.row k b zs) (n+ys.length):=by
 obtain⟨i,zv,hu,hi,rfl,rfl,hz,hzc,hzb,hzl⟩:=eb hT ht
 obtain⟨_,_,hu2,_⟩:=eb hT ht2
 simp only[WX] at hkb
 obtain rfl:=W4 hkb.1
 obtain rfl:=W4 hkb.2
 obtain⟨us,hsrc⟩:=Eg hs hr.inv (aD hr hy)
 obtain⟨⟨A,c',hux⟩,hfirst,hrep,hlen,hone⟩:=hsrc
 have hexec:∀ {u:Value} {w':World},(Builtin.append_ #[t,t2] o.type #[a.eval x,a.eval y]).run P w=.ok u w'→(execOp a.eval o).run P w=.ok (.value u) w':=by
  intro u w' hrun
  simp[execOp,ho,resolve,invoke,builtin,hrun]
 have hul:us.length=ys.length*i.size:=by rw[← hrep.length];exact cP hlen
 generalize hue:a.eval x=ux at h1
 have hobj0:=hr.inv.obj _ _ hl
 have hzc':zv.cells.size=i.size:=by rw[hzc];simp[hzl]
 -- growing, out of whatever was there
 have grow:∀ (base:Option Addr) (cap:Nat) (olds:List Value),ux=.slice base n cap→cap<n+ys.length→(∀ x∈xs.take n,x.length=i.size)→(xs.take n).length=n →
   All2 (Rep σ) (xs.take n).flatten olds→(∀ w',w'.heap=w.heap→(Builtin.firstCells i.size n (.slice base n cap)).run P w'=.ok olds.toArray w') →
   Bc P o a w σ φ id (.row i.size i.bytes zs) (n+ys.length):=by
  intro base cap olds he hcap hk1 hn1 hro hfo
  have hrun:=vA (P:=P) (w:=w) (ty:=o.type) hu hu2 hi hz (A:=A) (m:=ys.length) (c':=c') hfo (fun w' hw=>by rw[← hux];exact hfirst P w' hw) hcap hb47 h48
  rw[← hux,← he,← hue] at hrun
  have hgc:=grownCap_ge w (n+ys.length) cap e
  have hol:olds.length=n*i.size:=by rw[← hro.length];rw[cP hk1,hn1]
  refine⟨_,_,some (w.heap.size,grownCap w (n+ys.length) cap e),hexec hrun,rfl,rfl,rfl,by simp,fun bb hbb _=>RowKit.Below.heap_alloc w.drew _ bb hbb,fun q hq=>by cases hq;exact .inr ⟨Xc _,by simp⟩,fun id' sto'=>⟨?_,?_⟩⟩
  ·exact (ObjRep.mk_row (B:=w.heap.size) (cap:=grownCap w (n+ys.length) cap e) (us:=olds++us) az (da w.drew _) (by
    simp only[List.size_toArray,W9,Array.length_toList,size_zeroCells,hzc',hol,hul,← X2]
    congr 1;omega) (by rw[hzs];simp only[W9,hn1];exact hgc) (by rw[hzs];simp only[W9,hn1];exact h48) (by rw[hzs];simp only[W9,hn1];exact hb47)
    (fun x hx=>by
     rw[hzs] at hx
     rcases XF.1 hx with hx|hx
     ·exact hk1 x hx
     ·exact hlen x hx)
    (by rw[hzs,List.flatten_append];exact hro.append hrep)
    (fun j u hj=>by
     have hlt:=(W8.1 hj).1
     simp only[List.getElem?_toArray]
     rw[Xw hlt];exact hj)
    (jK hr.inv))
  ·exact RepC.own (cap:=grownCap w (n+ys.length) cap e) aH (by rw[hzs];simp only[W9,hn1];exact Xc _) az
 cases h1 with
 | dead hxx _=>simp[bY,cy hl] at hxx
 | ownNil hl' hp =>
   rw[hl] at hl';cases hl'
   rcases Yd ys.length with h0|h0
   ·have hys:=List.eq_nil_of_length_eq_zero h0
    subst hys
    have hrun:=wZ (P:=P) (w:=w) (ty:=o.type) hu hu2 hi (A:=A) (c':=c')
    have e0:(0:Nat)+([]:List (List D)).length=0:=rfl
    rw[show a.eval x=.slice none 0 0 from hue,show a.eval y=.slice A 0 c' from hux] at hexec
    exact⟨_,w,none,hexec hrun,rfl,rfl,rfl,⟨Xc _,Xc _⟩,fun _ _ _=>rfl,fun q hq=>(by cases hq),fun id' sto'=>⟨.inl ⟨by rw[hzs];simp,az⟩,RepC.ownNil aH az⟩⟩
   ·exact grow none 0 [] rfl (by omega) (by simp) (by simp) (by simp[All2]) (fun w' _=>fK)
 | own hl' hn hp =>
   rename_i B cap xs'
   rw[hl] at hl';cases hl'
   obtain⟨arr,ty,vs,hh,hsz,hle,hx48,hxb,hlk,ha,hcell,hσ,hvl⟩:=hobj0.row_cells hp
   have hk1:∀ x∈xs.take n,x.length=i.size:=fun x hx=>hlk x (List.mem_of_mem_take hx)
   have hn1:(xs.take n).length=n:=by simp;omega
   have hro:All2 (Rep σ) (xs.take n).flatten (vs.take (n*i.size)):=by rw[nS n hlk];exact ha.take _
   have hnk:n*i.size≤xs.length*i.size:=Xn _ hn
   have hasz:xs.length*i.size≤arr.size:=by rw[hsz];exact Xn _ hle
   by_cases hcap:n+ys.length≤cap
   ·have hfit:n*i.size+us.length≤arr.size:=by rw[hul,hsz,← X2];exact Xn _ hcap
    have hrun:=vB (P:=P) (w:=w) (ty:=o.type) hu hu2 hi (A:=A) (m:=ys.length) (c':=c') (n:=n) (cap:=cap) hh (by rw[← hux];exact hfirst P w rfl) hone hcap hfit
    rw[← hux,← hue] at hrun
    refine⟨_,_,some (B,cap),hexec hrun,rfl,rfl,rfl,by simp,fun bb _ hne=>setRow_other w B bb _ (fun e=>hne cap (by rw[e];exact hp)),fun q hq=>by cases hq;exact .inl ⟨cap,hp⟩,fun id' sto'=>⟨?_,?_⟩⟩
    ·exact (ObjRep.mk_row (B:=B) (cap:=cap) (us:=vs.take (n*i.size)++us) az (setRow_heap w B _ _ ty _ hh) (by
       rw[← hsz,List.size_toArray];simp only[W9,XU,List.length_drop,Array.length_toList];omega)
      (by rw[hzs];simp only[W9,hn1];exact hcap) (by rw[hzs];simp only[W9,hn1];exact h48) (by rw[hzs];simp only[W9,hn1];exact hb47)
      (fun x hx=>by
       rw[hzs] at hx
       rcases XF.1 hx with hx|hx
       ·exact hk1 x hx
       ·exact hlen x hx)
      (by rw[hzs,List.flatten_append];exact hro.append hrep)
      (fun j u hj=>by
       have hl1:(vs.take (n*i.size)).length=n*i.size:=by simp;omega
       have hl2:(arr.toList.take (n*i.size)).length=n*i.size:=by simp;omega
       simp only[List.getElem?_toArray,X5]
       rcases XM j (n*i.size) with h0|h0
       ·rw[Xw (by omega),XH,if_pos h0] at hj
        rw[Xw (by omega),XH,if_pos h0,XP]
        exact hcell _ _ hj
       ·rw[Xy (by omega),hl1] at hj
        rw[Xy (by omega),hl2]
        have hlt:=(W8.1 hj).1
        rw[Xw hlt];exact hj)
      hσ)
    ·exact RepC.own (cap:=cap) aH (by rw[hzs];simp only[W9,hn1];exact Xc _) az
   ·refine grow (some ⟨B,0,none⟩) cap (vs.take (n*i.size)) rfl (by omega) hk1 hn1 hro (fun w' hw=>?_)
    refine qR (w:=w) (by simp;omega) (fun j u hj=>?_) hw
    rw[Xp,gZ hh]
    rw[XH] at hj
    split at hj
    ·exact hcell _ _ hj
    ·cases hj
theorem c6(hT:bg P T){ops:Array Oper}{o:Oper}{rest:List Oper}{st:St}{K:St→Prop}{t t2 e e2 k b k2 b2 k' b' id n:Nat}{z z2:List D}{x y:Operand}{v:AV}{xs ys zs:List (List D)}
  (ho:o.op=.call { callee:=.builtin .append,args:=#[x,y],argTypes:=#[t,t2] }) (hg:o.guard=none) (hd:aX c.n o.dst=true) (ht:bc T t=some (e,k,b,z)) (ht2:bc T t2=some (e2,k2,b2,z2))
  (hlt:(Nat.blt id 1000000||Nat.ble 2000000 id)=true) (hx:ev st x=some (.one (.own id n))) (hl:look st.sto id=some (.row k' b' xs)) (hkb:(Nat.beq k k'&&Nat.beq b b')=true) (hy:ev st y=some v) (hs:ga st k v=some ys) (hzs:zs=xs.take n++ys)
  (h48:n+ys.length<2^48) (hb47:(n+ys.length)*b≤2^47)
  (h:aa P c ops rest ⟨bI o.dst (.one (.own id (n+ys.length))) (nq id st.fr),cD id (.row k b zs) (eA id st.sto)⟩ K):aa P c ops (o::rest) st K:=by
 refine bu hg fun a w σ φ hr=>?_
 obtain⟨u,w',p,hrun,h1,h2,h3,h4,h5,h6,h7⟩:=pI hT hr ho ht ht2 (aD hr hx) hl hkb hy hs hzs h48 hb47
 obtain⟨h8,h9⟩:=h7 id (eA id st.sto)
 obtain⟨σ',φ',hr'⟩:=hr.replace (dst:=o.dst) (fun i hi=>by simp only[Xs,Yb,Nat.ble_eq] at hlt;omega) hl h1 h2 h3 h4 h5 h6 h8 hd h9
 exact⟨u,w',_,σ',φ',hrun,hr',h⟩
theorem Ah(hT:bg P T){ops:Array Oper}{o:Oper}{rest:List Oper}{st:St}{K:St→Prop}{t t2 e e2 k b k2 b2 k' b' id id' n:Nat}{z z2:List D}{x y:Operand}{v:AV}{xs ys zs:List (List D)}
  (ho:o.op=.call { callee:=.builtin .append,args:=#[x,y],argTypes:=#[t,t2] }) (hg:o.guard=none) (hd:aX c.n o.dst=true) (ht:bc T t=some (e,k,b,z)) (ht2:bc T t2=some (e2,k2,b2,z2))
  (hlt:Nat.blt id' 1000000=true) (hx:ev st x=some (.one (.own id n))) (hl:look st.sto id=some (.row k' b' xs)) (hkb:(Nat.beq k k'&&Nat.beq b b')=true) (hy:ev st y=some v) (hs:ga st k v=some ys) (hzs:zs=xs.take n++ys)
  (h48:n+ys.length<2^48) (hb47:(n+ys.length)*b≤2^47) (hm1:br id' st.fr=false) (hm2:aN id' st.sto=false) (hm3:look st.sto id'=none)
  (h:aa P c ops rest ⟨bI o.dst (.one (.own id' (n+ys.length))) st.fr,(id',.row k b zs)::del id st.sto⟩ K):aa P c ops (o::rest) st K:=by
 refine bu hg fun a w σ φ hr=>?_
 obtain⟨u,w',σ',φ',hrun,hr'⟩:=hr.renew hlt hl hm1 hm2 hm3 (pI hT hr ho ht ht2 (aD hr hx) hl hkb hy hs hzs h48 hb47) hd
 exact⟨u,w',_,σ',φ',hrun,hr',h⟩
theorem Rel.nilRow{st:St}{a:Act}{id k b:Nat}(hr:Rel c st a w σ φ)(hlt:Nat.blt id 1000000=true)(hm1:br id st.fr=false)(hm2:aN id st.sto=false) :
  Rel c ⟨st.fr,(id,.row k b [])::st.sto⟩ a w σ (cq φ id none):=by
 have hE:Ext (·=id) φ (cq φ id none) st.sto ((id,.row k b [])::st.sto):=Ext.add
 refine⟨hr.le,hr.fresh,⟨hr.inv.sig,fun i e hi=>?_,fun i i' e e' p p' hi hi' hne hp hp'=>?_⟩,fun i e p hi hp=>?_,fun t v hv=>?_,hr.defers,hr.size,hr.fra,fun i hi=>by
  have:i≠id:=by have:=W6 hlt;omega
  rw[aL this];exact hr.pin i hi⟩
 ·rcases ah hi with⟨rfl,rfl⟩|⟨hne,hi⟩
  ·exact .inl ⟨rfl,az⟩
  ·exact (hr.inv.obj _ _ hi).ext (Sig.le_refl _) hE (fun j hj=>by cases hj;exact fG hm2 hi) (aL hne) fun _ _ _=>⟨rfl,rfl⟩
 ·rcases ah hi with⟨rfl,rfl⟩|⟨hn,hi⟩
  ·rw[az] at hp;cases hp
  ·rcases ah hi' with⟨rfl,rfl⟩|⟨hn',hi'⟩
   ·rw[az] at hp';cases hp'
   ·rw[aL hn] at hp;rw[aL hn'] at hp'
    exact hr.inv.inj _ _ _ _ _ _ hi hi' hne hp hp'
 ·rcases ah hi with⟨rfl,rfl⟩|⟨hn,hi⟩
  ·rw[az] at hp;cases hp
  ·rw[aL hn] at hp
   exact hr.mine _ _ _ hi hp
 ·obtain⟨u,hu,hru⟩:=hr.slot t v hv
  exact⟨u,hu,hru.ext (Sig.le_refl _) hE fun j hj=>by cases hj;exact dP hm1 hv⟩
theorem DM{i id:Nat}{o:AObj}{s:Sto}(ho:o.men i=false)(h:aN i s=false):aN i ((id,o)::s)=false:=by
 simp[aN,ho,h]
theorem w9(hT:bg P T){ops:Array Oper}{o:Oper}{rest:List Oper}{st:St}{K:St→Prop}{t t2 e e2 k b k2 b2 id:Nat}{z z2:List D}{x y:Operand}{v:AV}{ys:List (List D)}
  (ho:o.op=.call { callee:=.builtin .append,args:=#[x,y],argTypes:=#[t,t2] }) (hg:o.guard=none) (hd:aX c.n o.dst=true) (ht:bc T t=some (e,k,b,z)) (ht2:bc T t2=some (e2,k2,b2,z2))
  (hlt:Nat.blt (id+1) 1000000=true) (hx:ev st x=some (.one (.d .nil))) (hy:ev st y=some v) (hs:ga st k v=some ys)
  (h48:ys.length<2^48) (hb47:ys.length*b≤2^47) (hf:∀ i,i=id∨i=id+1→look st.sto i=none∧br i st.fr=false∧aN i st.sto=false)
  (h:aa P c ops rest ⟨bI o.dst (.one (.own id ys.length)) st.fr,(id,.row k b ys)::st.sto⟩ K):aa P c ops (o::rest) st K:=by
 refine bu hg fun a w σ φ hr=>?_
 obtain⟨f1,f2,f3⟩:=hf id (.inl rfl)
 obtain⟨g1,g2,g3⟩:=hf (id+1) (.inr rfl)
 simp only[Yb] at hlt
 have hr1:=hr.nilRow (id:=id+1) (k:=k) (b:=b) (by simpa using hlt) g2 g3
 have hxr:=aD hr hx
 replace hxr:=RepC.d_inv hxr
 have h1:RepC σ (cq φ (id+1) none) ((id+1,.row k b [])::st.sto) (.own (id+1) 0) (a.eval x):=by
  generalize a.eval x=ux at hxr
  cases hxr
  exact .ownNil aH az
 have hs':ga ⟨st.fr,(id+1,.row k b [])::st.sto⟩ k v=some ys:=by
  have hne:∀ {i:Nat} {o:AObj},look st.sto i=some o→look ((id+1,.row k b [])::st.sto) i=some o:=by
   intro i o hi
   rw[aP ?_];exact hi
   rintro rfl;rw[g1] at hi;cases hi
  unfold ga at hs ⊢
  split at hs
  ·exact hs
  ·exact hs
  ·split at hs
   ·rename_i hl;simp only[hne hl];exact hs
   ·cases hs
  ·split at hs
   ·rename_i hl;simp only[hne hl];exact hs
   ·cases hs
  ·cases hs
 have hrep:=pI hT hr1 ho ht ht2 h1 aH (by simp) hy hs' (zs:=ys) (by simp) (by simpa using h48) (by simpa using hb47)
 obtain⟨u,w',σ',φ',hrun,hr'⟩:=hr1.renew (id':=id) (by simp;omega) aH f2 (DM rfl f3) (by rw[aP (by omega)];exact f1) hrep hd
 have hr2:Rel c ⟨bI o.dst (.one (.own id (0+ys.length))) st.fr,(id,.row k b ys)::del (id+1) ((id+1,.row k b [])::st.sto)⟩ (a.put o.dst u) w' σ' φ':=hr'
 obtain⟨σ2,φ2,hr3⟩:=pX (sto':=(id,.row k b ys)::st.sto) (fun i=>by
  by_cases hi:i=id
  ·subst hi;rw[aH,aH]
  ·rw[aP hi,aP hi]
   by_cases hi2:i=id+1
   ·subst hi2
    rw[g1]
    cases hl:look (del (id+1) ((id+1,AObj.row k b [])::st.sto)) (id+1) with
    | none=>rfl
    | some e=>exact absurd rfl (ee hl).1
   ·rw[ff hi2,aP hi2]) _ _ _ _ hr2
 rw[Xp] at hr3
 exact⟨u,w',_,σ2,φ2,hrun,hr3,h⟩
end Go.Abs
namespace Go.Abs
open Go
variable {P:Program} {c:Ctx} {T:Tab} {σ:Sig} {φ:Pl} {sto:Sto} {w:World}
def MOf(φ:Pl)(sto:Sto)(b:Nat):Prop:=∃ id e p,look sto id=some e∧φ id=some p∧p.1=b
structure Kept (M:Nat→Prop) (w w':World):Prop where
 os:w'.os=w.os
 tape:w'.tape=w.tape
 output:w'.output=w.output
 size:w.heap.size≤w'.heap.size
 drawn:w.drawn≤w'.drawn
 block:∀ b,b<w.heap.size→¬ M b→w'.heap[b]?=w.heap[b]?
structure RetP (rav:AV) (rsto:Sto) (w:World) (σ:Sig) (φ:Pl) (M:Nat→Prop) (v:Value) (w':World) (σ':Sig) (φ':Pl):Prop where
 le:σ.le σ'
 fresh:∀ b,σ' b≠none→σ b≠none∨w.heap.size≤b∨M b
 inv:HInv σ' φ' rsto w'
 rep:RepV σ' φ' rsto rav v
 mine:∀ id e p,look rsto id=some e→φ' id=some p→w.heap.size≤p.1∨M p.1
 pin:∀ id,Pin id→φ' id=φ id
 kept:Kept M w w'
structure CallA (P:Program) (f:FuncId) (args:List AV) (sto:Sto) (rav:AV) (rsto:Sto):Prop where
 fn : ∃ fn, P.funcs[f]? = some fn ∧ (fn.name == "runtime.NumGoroutine") = false ∧ fn.body.isSome = true
 run:∀ (w:World) (σ:Sig) (φ:Pl) (vs:List Value),HInv σ φ sto w→All2 (RepV σ φ sto) args vs →
  Calls P f vs.toArray w fun e w'=>∃ v σ' φ',e=.returned v∧RetP rav rsto w σ φ (MOf φ sto) v w' σ' φ'
def GW(T:Tab)(st:St):ResultVar→Option (Bool×List AC)
 | .tmp t=>match look st.fr t with
   | some (.one x)=>some (false,[x])
   | some (.agg cs)=>some (true,cs)
   | _=>none
 | .cell a t=>match j6 T t,look st.fr a with
   | some (g,s),some v=>match mD st.sto g s v with
     | some (.one x)=>some (false,[x])
     | some (.agg cs)=>some (true,cs)
     | _=>none
   | _,_=>none
def nR(T:Tab)(st:St):List ResultVar→Option (List (Bool×List AC))
 | []=>some []
 | r::rs=>match GW T st r with
   | some x=>match nR T st rs with
     | some l=>some (x::l)
     | none=>none
   | none=>none
def qO:List (Bool×List AC)→Option AV
 | [(false,[x])]=>some (.one x)
 | [(true,cs)]=>some (.agg cs)
 | [_]=>none
 | l=>some (.tup l)
theorem Ln(hT:bg P T){st:St}{a:Act}(hr:Rel c st a w σ φ){r:ResultVar}{x:Bool×List AC}(h:GW T st r=some x) :
  ∃ u,((match r with
    | .tmp t=>pure (a.tmps.getD t undef)
    | .cell b t=>do loadVar t (← asAddr (a.tmps.getD b undef))):Sem Value).run P w=.ok u w∧RepT σ φ st.sto x u:=by
 cases r with
 | tmp t =>
   simp only[GW] at h
   split at h<;>simp at h<;>subst h<;>rename_i hl<;>obtain⟨u,hu,hru⟩:=hr.slot _ _ hl
   ·refine⟨u,by simp[Xv,hu],hru,trivial⟩
   ·exact⟨u,by simp[Xv,hu],hru⟩
 | cell b t =>
   simp only[GW] at h
   split at h
   ·rename_i g s v ht hl
    obtain⟨u,hu,hru⟩:=hr.slot _ _ hl
    have key:∀ {v':AV},mD st.sto g s v=some v'→∃ u',(do loadVar t (← asAddr (a.tmps.getD b undef)):Sem Value).run P w=.ok u' w∧RepV σ φ st.sto v' u':=by
     intro v' hv'
     obtain⟨u',hu',hru'⟩:=yO (P:=P) (w:=w) hT ht hv' hru hr.inv
     have hp:∃ ad,u=.pointer (some ad):=by
      unfold mD at hv'
      split at hv'
      ·replace hru:=RepC.d_inv hru;cases hru;exact⟨_,rfl⟩
      ·rename_i id o'
       split at hv'
       ·rename_i cells hlk
        cases hru with
        | ref _ _=>exact⟨_,rfl⟩
        | dead hxx _=>simp[bY,cy hlk] at hxx
       ·simp at hv'
      ·simp at hv'
     obtain⟨ad,rfl⟩:=hp
     refine⟨u',?_,hru'⟩
     simpa[Xv,hu,asAddr,Instr.loadAt,Instr.sureAddr] using hu'
    split at h
    ·rename_i x' hx
     simp at h;subst h
     obtain⟨u',h1,h2⟩:=key hx
     exact⟨u',h1,h2,trivial⟩
    ·rename_i cs hx
     simp at h;subst h
     obtain⟨u',h1,h2⟩:=key hx
     exact⟨u',h1,h2⟩
    ·simp at h
   ·simp at h
theorem C7(hT:bg P T){st:St}{a:Act}(hr:Rel c st a w σ φ):∀ {rs:List ResultVar} {l:List (Bool×List AC)},nR T st rs=some l →
  ∃ us,(rs.mapM (fun r=>(match r with
    | .tmp t=>pure (a.tmps.getD t undef)
    | .cell b t=>do loadVar t (← asAddr (a.tmps.getD b undef)):Sem Value)):Sem (List Value)).run P w=.ok us w∧All2 (RepT σ φ st.sto) l us
 | [],l,h=>by simp[nR] at h;subst h;exact⟨[],by simp,trivial⟩
 | r::rs,l,h=>by
   simp only[nR] at h
   split at h<;>(try (simp at h;done))
   rename_i x hx
   split at h<;>simp at h
   rename_i l' hl'
   subst h
   obtain⟨u,hu,hru⟩:=Ln (P:=P) hT hr hx
   obtain⟨us,hus,hrus⟩:=C7 hT hr hl'
   refine⟨u::us,?_,hru,hrus⟩
   simp only[List.mapM_cons,Xl,hu,Xb,hus,Xt]
theorem Jo(hT:bg P T){st:St}{a:Act}(hr:Rel c st a w σ φ){fn:Func}{l:List (Bool×List AC)}{rav:AV}(h:nR T st fn.results.toList=some l)(h2:qO l=some rav) :
  ∃ u,(results fn a.tmps).run P w=.ok u w∧RepV σ φ st.sto rav u:=by
 obtain⟨us,hus,hrus⟩:=C7 (P:=P) hT hr h
 have hrun:(results fn a.tmps).run P w=.ok (if h:us.toArray.size=1 then us.toArray[0] else .tuple us.toArray) w:=by
  unfold results
  rw[Array.mapM_eq_mapM_toList,Xl,Sem.run_map]
  erw [hus]
  rfl
 refine⟨_,hrun,?_⟩
 unfold qO at h2
 split at h2
 ·simp at h2;subst h2
  match us,hrus with
  | [u],hrus=>exact hrus.1.1
 ·simp at h2;subst h2
  match us,hrus with
  | [u],hrus=>exact hrus.1
 ·simp at h2
 ·rename_i l' h3 h4 h5
  simp at h2;subst h2
  have hl1:=hrus.length
  have:us.toArray.size≠1:=by
   intro hs
   have hl2:l.length=1:=by rw[hl1];simpa using hs
   match l,hl2 with
   | [x],_=>exact h5 x rfl
  rw[dif_neg this]
  exact⟨us,rfl,hrus⟩
def aI(T:Tab)(rs:List ResultVar)(rav:AV)(rsto:Sto)(e:Exit)(st:St):Prop :=
 (e=.ret∨e=.normal)∧∃ l,nR T st rs=some l∧qO l=some rav∧SubL st.sto rsto
def mW:Nat→List AV→List (Nat×AV)
 | _,[]=>[]
 | i,v::r=>(i,v)::mW (i+1) r
theorem uC:∀ {args:List AV} {i s:Nat} {v:AV},look (mW i args) s=some v→i≤s∧args[s-i]?=some v
 | [],_,_,_,h=>by simp[mW,look] at h
 | a::r,i,s,v,h=>by
   simp only[mW] at h
   rcases ah h with⟨rfl,rfl⟩|⟨hne,h⟩
   ·exact⟨Xc _,by simp⟩
   ·obtain⟨h1,h2⟩:=uC h
    have:s-i=(s-(i+1))+1:=by omega
    exact⟨by omega,by rw[this];simpa using h2⟩
theorem ObjRep.off{id r:Nat}{e:AObj}{w':World}{ds:Option (List Deferred)}(hr:w.heap[r]?=some (.deferred ds))(hw:∀ b,b≠r→w'.heap[b]?=w.heap[b]?)(h:ObjRep σ φ sto w id e):ObjRep σ φ sto w' id e:=by
 have key:∀ {B:Nat} {o:Obj},w.heap[B]?=some o→(∀ ds,o≠.deferred ds)→w'.heap[B]?=some o:=by
  intro B o hB ho
  rw[hw B ?_];exact hB
  rintro rfl
  rw[hr] at hB;cases hB
  exact ho _ rfl
 cases e with
 | box cs =>
   obtain⟨B,c,vs,t,h1,h2,h3⟩:=h
   exact⟨B,c,vs,t,h1,key h2 (by simp),h3⟩
 | row k b xs =>
   rcases h with h|⟨B,cap,arr,t,vs,h1,h2,h3⟩
   ·exact .inl h
   ·exact .inr ⟨B,cap,arr,t,vs,h1,key h2 (by simp),h3⟩
 | map kg vg es =>
   obtain⟨B,c,ents,h1,h2,h3⟩:=h
   exact⟨B,c,ents,h1,key h2 (by simp),h3⟩
 | loop li fr s p =>
   obtain⟨B,c,r',h1,h2,h3⟩:=h
   exact⟨B,c,r',h1,key h2 (by simp),h3⟩
theorem Rel.off{st:St}{a:Act}{w':World}{r:Nat}{ds:Option (List Deferred)}(h:Rel c st a w σ φ)(hr:w.heap[r]?=some (.deferred ds))(hge:c.w0.heap.size≤r)(hw:∀ b,b≠r→w'.heap[b]?=w.heap[b]?)
  (hos:w'.os=w.os) (htape:w'.tape=w.tape) (hout:w'.output=w.output) (hsize:w.heap.size≤w'.heap.size∧w.drawn≤w'.drawn):Rel c st a w' σ φ:=by
 refine⟨h.le,h.fresh,⟨fun b cs hb=>?_,fun id e hi=>(h.inv.obj id e hi).off hr hw,h.inv.inj⟩,h.mine,h.slot,h.defers,h.size,⟨hos.trans h.fra.os,htape.trans h.fra.tape,hout.trans h.fra.output,Xg h.fra.size hsize.1,Xg h.fra.drawn hsize.2,fun b hb hM=>?_⟩,h.pin⟩
 ·obtain⟨t,f,hh⟩:=h.inv.sig b cs hb
  refine⟨t,f,(hw b ?_).trans hh⟩
  rintro rfl
  rw[hr] at hh;cases hh
 ·rw[hw b (by omega)]
  exact h.fra.block b hb hM
theorem Lo{r:Nat}(hr:w.heap[r]?=some (.deferred (some []))):∃ w',(Instr.takeDeferred r).run P w=.ok [] w'∧(∀ b,b≠r→w'.heap[b]?=w.heap[b]?)∧w'.os=w.os∧w'.tape=w.tape∧w'.output=w.output∧(w.heap.size≤w'.heap.size∧w.drawn≤w'.drawn):=by
 refine⟨{ w with heap:=w.heap.setIfInBounds r (.deferred none) },by simp[Instr.takeDeferred,getObj,setObj,Sem.run,hr],fun b hb=>?_,rfl,rfl,rfl,?_⟩
 ·simp[Xu (fun e=>hb e.symm)]
 ·simp
theorem uv(hT:bg P T){f:FuncId}{fn:Func}{code:Code}{args:List AV}{sto:Sto}{rav:AV}{rsto:Sto}(hf:P.funcs[f]?=some fn)(hb:fn.body=some code)
  (hname : (fn.name == "runtime.NumGoroutine") = false) (hn : Nat.ble args.length fn.ntmps = true)
  (h:∀ (w0:World) (σ0:Sig) (φ0:Pl) (M:Nat→Prop),OkC P ⟨w0,σ0,φ0,M,fn.ntmps,none,[]⟩ code ⟨mW 0 args,sto⟩ (aI T fn.results.toList rav rsto)):CallA P f args sto rav rsto:=by
 refine⟨⟨fn,hf,hname,by rw[hb];rfl⟩,fun w σ φ vs hinv hargs=>?_⟩
 refine (callsIn_wide (n:=0)).1 (callsIn_of_wp_marks hf hb trivial ?_)
 have hlen:=hargs.length
 have hle:=W6 hn
 have hrel:Rel ⟨w,σ,φ,MOf φ sto,fn.ntmps,none,[]⟩ ⟨mW 0 args,sto⟩ { tmps:=vs.toArray++Array.replicate (fn.ntmps-vs.toArray.size) undef,defers:=[] } w σ φ:=by
  refine⟨Sig.le_refl _,fun b hb=>.inl hb,hinv,fun id e p hi hp=>.inr ⟨id,e,p,hi,hp,rfl⟩,fun s v hv=>?_,rfl,by simp;omega,⟨rfl,rfl,rfl,Xc _,Xc _,fun _ _ _=>rfl⟩,fun _ _=>rfl⟩
  obtain⟨_,h2⟩:=uC hv
  simp only[Nat.sub_zero] at h2
  obtain⟨u,hu,hru⟩:=hargs.get h2
  have hlt:=(W8.1 hu).1
  refine⟨u,?_,hru⟩
  simp only
  rw[Array.getElem?_append_left (by simpa using hlt)]
  simpa using hu
 refine wpIn_mono (h w σ φ (MOf φ sto) _ _ _ _ hrel) ?_
 rintro e a' w' ⟨st',σ',φ',⟨he,l,hl,hav,hsub⟩,hrE⟩
 have fin:∀ {a':Act} {w':World},Rel ⟨w,σ,φ,MOf φ sto,fn.ntmps,none,[]⟩ st' a' w' σ' φ'→∃ u,(results fn a'.tmps).run P w'=.ok u w'∧∃ v σ' φ',Ending.returned u=.returned v∧RetP rav rsto w σ φ (MOf φ sto) v w' σ' φ':=by
  intro a' w' hr
  obtain⟨u,hu,hru⟩:=Jo (P:=P) hT hr hl hav
  refine⟨u,hu,u,σ',φ',rfl,hr.le,hr.fresh,⟨hr.inv.sig,fun i e hi=>?_,fun i i' e e' p p' hi hi'=>hr.inv.inj _ _ _ _ _ _ (hsub.look hi) (hsub.look hi')⟩,hru.ext (Sig.le_refl _) (Ext.sub hsub) (fun j hj=>hj.elim),
   fun i e p hi hp=>hr.mine _ _ _ (hsub.look hi) hp,hr.pin,⟨hr.fra.os,hr.fra.tape,hr.fra.output,hr.fra.size,hr.fra.drawn,hr.fra.block⟩⟩
  exact (hr.inv.obj _ _ (hsub.look hi)).ext (X:=fun _=>False) (Sig.le_refl _) (Ext.sub hsub) (fun j hj=>hj.elim) rfl fun _ _ _=>⟨rfl,rfl⟩
 have plain:∀ {a':Act} {w':World},Rel ⟨w,σ,φ,MOf φ sto,fn.ntmps,none,[]⟩ st' a' w' σ' φ'→LeavesInM Fence.wide 0 P fn a'.tmps (fun e w'=>∃ v σ' φ',e=.returned v∧RetP rav rsto w σ φ (MOf φ sto) v w' σ' φ') a'.defers .returning w':=by
  intro a' w' hr
  rw[hr.defers]
  obtain⟨u,hu,hf⟩:=fin hr
  exact⟨u,hu,hf⟩
 have hpost:LeavesInM Fence.wide 0 P fn a'.tmps (fun e w'=>∃ v σ' φ',e=.returned v∧RetP rav rsto w σ φ (MOf φ sto) v w' σ' φ') a'.defers .returning w':=by
  rcases hrE with hr|⟨_,r,hd,hh,hge,hr⟩
  ·exact plain hr
  ·obtain⟨w2,h1,h2,h3,h4,h5,h6⟩:=Lo (P:=P) hh
   have hr2:=hr.off hh hge h2 h3 h4 h5 h6
   obtain⟨u,hu,hf⟩:=fin hr2
   rw[hd]
   exact⟨by simp,.inl ⟨r,w2,rfl,h1,u,hu,hf⟩⟩
 rcases he with rfl|rfl
 ·exact hpost
 ·exact hpost
end Go.Abs
namespace Go.Abs
open Go
variable {P:Program} {c:Ctx} {T:Tab} {σ:Sig} {φ:Pl} {sto:Sto} {w:World}
theorem mw{ops:Array Oper}{o:Oper}{rest:List Oper}{st:St}{K:St→Prop}(hg:o.guard=none)
  (H:∀ (a:Act) (w:World) (σ:Sig) (φ:Pl),Rel c st a w σ φ→∃ f vs R,(execOp a.eval o).run P w=.ok (.enter f vs) w∧Calls P f vs w R ∧
   ∀ e w',R e w'→∃ v st' σ' φ',e=.returned v∧Rel c st' (a.put o.dst v) w' σ' φ'∧aa P c ops rest st' K):aa P c ops (o::rest) st K:=by
 intro a w σ φ Q hr hQ
 obtain⟨f,vs,R,hrun,hcalls,hR⟩:=H a w σ φ hr
 refine wpListIn_plain hg fun K' hK=>⟨fun f _=>iL c f,?_⟩
 rw[jx (by simp) hrun,Oper.uponIn_enter]
 refine⟨fun h=>by simp[fnc,Fence.wide] at h,(uD hcalls).mono fun e w' he=>?_⟩
 obtain⟨v,st',σ',φ',rfl,hr',hok⟩:=hR e w' he
 exact hK _ _ (hok _ _ _ _ _ hr' hQ)
def evL(st:St):List Operand→Option (List AV)
 | []=>some []
 | x::r=>match ev st x with
   | some v=>match evL st r with
     | some l=>some (v::l)
     | none=>none
   | none=>none
theorem iT{st:St}{a:Act}(hr:Rel c st a w σ φ):∀ {xs:List Operand} {vs:List AV},evL st xs=some vs→All2 (RepV σ φ st.sto) vs (xs.map a.eval)
 | [],vs,h=>by simp[evL] at h;subst h;trivial
 | x::r,vs,h=>by
   simp only[evL] at h
   split at h<;>(try (simp at h;done))
   rename_i v hv
   split at h<;>simp at h
   rename_i l hl
   subst h
   exact⟨aD hr hv,iT hr hl⟩
def iY:List AC→Bool
 | []=>true
 | .d _::r=>iY r
 | _::_=>false
def avD:AV→Bool
 | .one (.d _)=>true
 | .agg cs=>iY cs
 | _=>false
def c8:List AV→Bool
 | []=>true
 | v::r=>avD v&&c8 r
theorem C9{σ':Sig}{φ':Pl}{sto':Sto}(hle:σ.le σ'):∀ {cs:List AC} {vs:List Value},iY cs=true→All2 (RepC σ φ sto) cs vs→All2 (RepC σ' φ' sto') cs vs
 | [],[],_,_=>trivial
 | .d _::_,_::_,hd,h=>⟨by have h1:=RepC.d_inv h.1;exact .d (h1.mono hle),C9 hle (by simpa[iY] using hd) h.2⟩
 | [],_::_,_,h=>h.elim
 | _::_,[],_,h=>h.elim
 | .own _ _::_,_::_,hd,_=>by simp[iY] at hd
 | .sub _ _ _::_,_::_,hd,_=>by simp[iY] at hd
 | .ref _ _::_,_::_,hd,_=>by simp[iY] at hd
 | .rref _ _ _::_,_::_,hd,_=>by simp[iY] at hd
 | .junk::_,_::_,hd,_=>by simp[iY] at hd
 | .yl _::_,_::_,hd,_=>by simp[iY] at hd
 | .mapr _::_,_::_,hd,_=>by simp[iY] at hd
 | .bsl _ _ _::_,_::_,hd,_=>by simp[iY] at hd
theorem N9{σ':Sig}{φ':Pl}{sto':Sto}(hle:σ.le σ'){v:AV}{u:Value}(hd:avD v=true)(h:RepV σ φ sto v u):RepV σ' φ' sto' v u:=by
 cases v with
 | one c =>
   cases c with
   | d x=>replace h:=RepC.d_inv h;exact RepC.d (h.mono hle)
   | _=>simp[avD] at hd
 | agg cs=>obtain⟨us,rfl,h⟩:=h;exact⟨us,rfl,C9 hle hd h⟩
 | tup _=>simp[avD] at hd
 | any=>simp[avD] at hd
theorem vi{σ':Sig}{φ':Pl}{sto':Sto}(hle:σ.le σ'):∀ {vs:List AV} {us:List Value},c8 vs=true→All2 (RepV σ φ sto) vs us→All2 (RepV σ' φ' sto') vs us
 | [],[],_,_=>trivial
 | _::_,_::_,hd,h=>by
   simp only[c8,WX] at hd
   exact⟨N9 hle hd.1 h.1,vi hle hd.2 h.2⟩
 | [],_::_,_,h=>h.elim
 | _::_,[],_,h=>h.elim
def fi(sto:Sto):List AC→Bool
 | []=>true
 | c::r=>bY sto c&&fi sto r
def yb(sto:Sto):List (Bool×List AC)→Bool
 | []=>true
 | t::r=>fi sto t.2&&yb sto r
def dG(sto:Sto):AV→Bool
 | .one c=>bY sto c
 | .agg cs=>fi sto cs
 | .tup ts=>yb sto ts
 | .any=>true
def iC(sto:Sto):List (Nat×AV)→Bool
 | []=>true
 | (_,v)::r=>dG sto v&&iC sto r
def F8(sto:Sto):AObj→Bool
 | .box cs=>fi sto cs
 | .loop _ fr _ _=>iC sto fr
 | _=>true
def bt(sto:Sto):Sto→Bool
 | []=>true
 | (_,o)::r=>F8 sto o&&bt sto r
theorem mN{sto:Sto}:∀ {l:List (Nat×AV)},iC sto l=true→∀ {s:Nat} {v:AV},look l s=some v→dG sto v=true
 | [],_,_,_,h=>by simp[look] at h
 | (t,x)::r,hi,s,v,h=>by
   simp only[iC,WX] at hi
   rcases ah h with⟨_,rfl⟩|⟨_,h⟩
   ·exact hi.1
   ·exact mN hi.2 h
theorem gq{sto:Sto}:∀ {l:Sto},bt sto l=true→∀ {s:Nat} {o:AObj},look l s=some o→F8 sto o=true
 | [],_,_,_,h=>by simp[look] at h
 | (t,x)::r,hi,s,v,h=>by
   simp only[bt,WX] at hi
   rcases ah h with⟨_,rfl⟩|⟨_,h⟩
   ·exact hi.1
   ·exact gq hi.2 h
def jm(r:Nat→Nat):AC→AC
 | .own i n=>.own (r i) n
 | .sub i lo n=>.sub (r i) lo n
 | .ref i off=>.ref (r i) off
 | .rref i j off=>.rref (r i) j off
 | .yl i=>.yl (r i)
 | .mapr i=>.mapr (r i)
 | .bsl i off n=>.bsl (r i) off n
 | .d x=>.d x
 | .junk=>.junk
def kX(r:Nat→Nat):List AC→List AC
 | []=>[]
 | c::l=>jm r c::kX r l
def qJ(r:Nat→Nat):List (Bool×List AC)→List (Bool×List AC)
 | []=>[]
 | (g,cs)::l=>(g,kX r cs)::qJ r l
def eC(r:Nat→Nat):AV→AV
 | .one c=>.one (jm r c)
 | .agg cs=>.agg (kX r cs)
 | .tup ts=>.tup (qJ r ts)
 | .any=>.any
def dO(r:Nat→Nat):List (Nat×AV)→List (Nat×AV)
 | []=>[]
 | (s,v)::l=>(s,eC r v)::dO r l
def du(r:Nat→Nat):AObj→AObj
 | .box cs=>.box (kX r cs)
 | .row a b xs=>.row a b xs
 | .map kg vg es=>.map kg vg es
 | .loop li fr s p=>.loop li (dO r fr) s p
def dF(r:Nat→Nat):List AV→List AV
 | []=>[]
 | v::l=>eC r v::dF r l
def gp(n:Nat):Sto→Bool
 | []=>true
 | (i,_)::r=>Nat.blt i n&&gp n r
def tS(k:Nat):Sto→Bool
 | []=>true
 | (i,_)::r=>(Nat.blt i k||Nat.ble (k+16) i)&&tS k r
def GZ(k:Nat):AC→Bool
 | .own i _|.sub i _ _|.ref i _|.rref i _ _|.yl i|.mapr i|.bsl i _ _=>Nat.blt i k||Nat.ble (k+16) i
 | _=>true
def qB(k:Nat):List AC→Bool
 | []=>true
 | c::r=>GZ k c&&qB k r
def AA(k:Nat):List (Bool×List AC)→Bool
 | []=>true
 | t::r=>qB k t.2&&AA k r
def Mj(k:Nat):AV→Bool
 | .one c=>GZ k c
 | .agg cs=>qB k cs
 | .tup ts=>AA k ts
 | .any=>true
def rK(k:Nat):List (Nat×AV)→Bool
 | []=>true
 | p::r=>Mj k p.2&&rK k r
def Mk(k:Nat):AObj→Bool
 | .box cs=>qB k cs
 | .loop _ fr _ _=>rK k fr
 | _=>true
def xm(k:Nat):Sto→Bool
 | []=>true
 | (_,o)::r=>Mk k o&&xm k r
theorem zW{k i:Nat}(h1:k≤i)(h2:i<k+16){c:AC}(h:GZ k c=true):c.men i=false:=by
 have key:∀ {j:Nat},(Nat.blt j k||Nat.ble (k+16) j)=true→Nat.beq j i=false:=by
  intro j hj
  simp only[Xs,Yb,Nat.ble_eq] at hj
  cases hb:Nat.beq j i with
  | false=>rfl
  | true=>have:=W4 hb;omega
 cases c<;>first|rfl|exact key h
theorem nC{k i:Nat}(h1:k≤i)(h2:i<k+16):∀ {cs:List AC},qB k cs=true→db i cs=false
 | [],_=>rfl
 | _::_,h=>by
   simp only[qB,WX] at h
   simp only[db,zW h1 h2 h.1,nC h1 h2 h.2,Bool.or_self]
theorem zX{k i:Nat}(h1:k≤i)(h2:i<k+16):∀ {ts:List (Bool×List AC)},AA k ts=true→gP i ts=false
 | [],_=>rfl
 | _::_,h=>by
   simp only[AA,WX] at h
   simp only[gP,nC h1 h2 h.1,zX h1 h2 h.2,Bool.or_self]
theorem Jr{k i:Nat}(h1:k≤i)(h2:i<k+16){v:AV}(h:Mj k v=true):v.men i=false:=by
 cases v with
 | one c=>exact zW h1 h2 h
 | agg cs=>exact nC h1 h2 h
 | tup ts=>exact zX h1 h2 h
 | any=>rfl
theorem pe{k i:Nat}(h1:k≤i)(h2:i<k+16):∀ {fr:List (Nat×AV)},rK k fr=true→br i fr=false
 | [],_=>rfl
 | _::_,h=>by
   simp only[rK,WX] at h
   simp only[br,Jr h1 h2 h.1,pe h1 h2 h.2,Bool.or_self]
theorem Js{k i:Nat}(h1:k≤i)(h2:i<k+16){o:AObj}(h:Mk k o=true):o.men i=false:=by
 cases o with
 | box cs=>exact nC h1 h2 h
 | loop li fr s p=>exact pe h1 h2 h
 | _=>rfl
theorem xn{k i:Nat}(h1:k≤i)(h2:i<k+16):∀ {sto:Sto},xm k sto=true→aN i sto=false
 | [],_=>rfl
 | (_,o)::_,h=>by
   simp only[xm,WX] at h
   simp only[aN,Js h1 h2 h.1,xn h1 h2 h.2,Bool.or_self]
def lz(k:Nat)(st:St):Prop:=∀ i,k≤i→i<k+16→look st.sto i=none∧br i st.fr=false∧aN i st.sto=false
theorem mz{n:Nat}:∀ {sto:Sto},gp n sto=true→∀ {i:Nat} {o:AObj},look sto i=some o→i<n
 | [],_,_,_,h=>by simp[look] at h
 | (j,x)::r,hk,i,o,h=>by
   simp only[gp,WX,Yb] at hk
   rcases ah h with⟨rfl,_⟩|⟨_,h⟩
   ·exact hk.1
   ·exact mz hk.2 h
theorem tl{k:Nat}:∀ {sto:Sto},tS k sto=true→∀ {i:Nat} {o:AObj},look sto i=some o→i<k∨k+16≤i
 | [],_,_,_,h=>by simp[look] at h
 | (j,x)::r,hk,i,o,h=>by
   simp only[tS,WX,Xs,Yb,Nat.ble_eq] at hk
   rcases ah h with⟨rfl,_⟩|⟨_,h⟩
   ·exact hk.1
   ·exact tl hk.2 h
def nF(k:Nat)(st:St):Bool:=tS k st.sto&&rK k st.fr&&xm k st.sto
theorem qT{k:Nat}{st:St}(h:nF k st=true):lz k st:=by
 simp only[nF,WX] at h
 intro i h1 h2
 refine⟨?_,pe h1 h2 h.1.2,xn h1 h2 h.2⟩
 cases hl:look st.sto i with
 | none=>rfl
 | some e=>have:=tl h.1.1 hl;omega
def rn(k:Nat)(ρ:List (Nat×Nat))(j:Nat):Nat:=bif Nat.blt j 16 then k+j else match look ρ j with|some i=>i|none=>0
def inK(ρ:List (Nat×Nat))(j:Nat):Bool:=match look ρ j with|some _=>true|none=>false
def c7(ρ:List (Nat×Nat)):Sto→Bool
 | []=>true
 | (j,_)::r=>(Nat.blt j 16||inK ρ j)&&c7 ρ r
def gG:List (Nat×Nat)→Bool
 | []=>true
 | (j,_)::r=>Nat.ble 1000000 j&&Nat.blt j 2000000&&gG r
def AB(i:Nat):List (Nat×Nat)→Bool
 | []=>true
 | (_,i')::r=>!(Nat.beq i' i)&&AB i r
def jV:List (Nat×Nat)→Bool
 | []=>true
 | (_,i)::r=>AB i r&&jV r
def Pass(st:St)(r:Nat→Nat)(ρ:List (Nat×Nat)):Sto→Prop
 | []=>True
 | (j,o)::l=>(∃ i,look ρ j=some i∧look st.sto i=some (du r o))∧Pass st r ρ l
def eL(r:Nat→Nat)(s:Sto):Sto→Sto
 | []=>s
 | (j,o)::l=>cD (r j) (du r o) (eL r s l)
def gT:List (Nat×Nat)→Sto→Sto
 | [],s=>s
 | (_,i)::l,s=>del i (gT l s)
def CompatL(st:St)(r:Nat→Nat)(ρ:List (Nat×Nat)):Sto→Prop
 | []=>True
 | (j,o)::l=>(∀ i e,look ρ j=some i→look st.sto i=some e→compat e o)∧CompatL st r ρ l
theorem Pass.look{st:St}{r:Nat→Nat}{ρ:List (Nat×Nat)}:∀ {l:Sto},Pass st r ρ l→∀ {j:Nat} {o:AObj},Go.Abs.look l j=some o→∃ i,Go.Abs.look ρ j=some i∧Go.Abs.look st.sto i=some (du r o)
 | [],_,_,_,h=>by simp[Go.Abs.look] at h
 | (j',o')::l,hp,j,o,h=>by
   rcases ah h with⟨rfl,rfl⟩|⟨_,h⟩
   ·exact hp.1
   ·exact Pass.look hp.2 h
theorem CompatL.look{st:St}{r:Nat→Nat}{ρ:List (Nat×Nat)}:∀ {l:Sto},CompatL st r ρ l→∀ {j:Nat} {o:AObj},Go.Abs.look l j=some o→∀ {i:Nat} {e:AObj},Go.Abs.look ρ j=some i→Go.Abs.look st.sto i=some e→compat e o
 | [],_,_,_,h=>by simp[Go.Abs.look] at h
 | (j',o')::l,hp,j,o,h=>by
   rcases ah h with⟨rfl,rfl⟩|⟨_,h⟩
   ·exact fun h1 h2=>hp.1 _ _ h1 h2
   ·exact CompatL.look hp.2 h
theorem pb{ρ:List (Nat×Nat)}:gG ρ=true→∀ {j i:Nat},look ρ j=some i→Pin j:=by
 induction ρ with
 | nil=>intro _ j i h;simp[look] at h
 | cons p r ih =>
   obtain⟨j',i'⟩:=p
   intro hb j i h
   simp only[gG,WX,Nat.ble_eq,Yb] at hb
   rcases ah h with⟨rfl,rfl⟩|⟨_,h⟩
   ·exact hb.1
   ·exact ih hb.2 h
theorem xo{ρ:List (Nat×Nat)}{i:Nat}:AB i ρ=true→∀ {j i':Nat},look ρ j=some i'→i'≠i:=by
 induction ρ with
 | nil=>intro _ j i h;simp[look] at h
 | cons p r ih =>
   obtain⟨j',i''⟩:=p
   intro hb j i' h
   simp only[AB,WX,Xe] at hb
   rcases ah h with⟨rfl,rfl⟩|⟨_,h⟩
   ·exact OR hb.1
   ·exact ih hb.2 h
theorem sX{ρ:List (Nat×Nat)}:jV ρ=true→∀ {j j' i:Nat},look ρ j=some i→look ρ j'=some i→j=j':=by
 induction ρ with
 | nil=>intro _ j j' i h;simp[look] at h
 | cons p r ih =>
   obtain⟨j0,i0⟩:=p
   intro hb j j' i h h'
   simp only[jV,WX] at hb
   rcases ah h with⟨e1,e2⟩|⟨_,k1⟩
   ·rcases ah h' with⟨e3,_⟩|⟨_,k2⟩
    ·rw[e1,e3]
    ·exact absurd e2 (xo hb.1 k2)
   ·rcases ah h' with⟨_,e4⟩|⟨_,k2⟩
    ·exact absurd e4 (xo hb.1 k1)
    ·exact ih hb.2 k1 k2
theorem iV{ρ:List (Nat×Nat)}:∀ {l:Sto},c7 ρ l=true→∀ {j:Nat} {o:AObj},look l j=some o→j<16∨∃ i,look ρ j=some i
 | [],_,_,_,h=>by simp[look] at h
 | (j',o')::l,hk,j,o,h=>by
   simp only[c7,WX,Xs,Yb] at hk
   rcases ah h with⟨rfl,rfl⟩|⟨_,h⟩
   ·rcases hk.1 with h1|h1
    ·exact .inl h1
    ·unfold inK at h1
     split at h1
     ·exact .inr ⟨_,by assumption⟩
     ·cases h1
   ·exact iV hk.2 h
theorem kh{k j:Nat}{ρ:List (Nat×Nat)}(h:j<16):rn k ρ j=k+j:=by unfold rn;rw[show Nat.blt j 16=true by simpa using h];rfl
theorem iM{k j i:Nat}{ρ:List (Nat×Nat)}(hb:gG ρ=true)(h:look ρ j=some i):rn k ρ j=i:=by
 have:=pb hb h
 unfold rn
 have h16:Nat.blt j 16=false:=by
  cases hh:Nat.blt j 16 with
  | false=>rfl
  | true=>simp only[Yb] at hh;omega
 rw[h16,h];rfl
theorem IU{ρ:List (Nat×Nat)}{s:Sto}{i:Nat}{o:AObj}:look (gT ρ s) i=some o→look s i=some o∧∀ j,look ρ j≠some i:=by
 induction ρ with
 | nil=>intro h;exact⟨h,by simp[look]⟩
 | cons p r ih =>
   obtain⟨j0,i0⟩:=p
   intro h
   obtain⟨h1,h2⟩:=ee h
   obtain⟨h3,h4⟩:=ih h2
   refine⟨h3,fun j hj=>?_⟩
   rcases ah hj with⟨rfl,rfl⟩|⟨_,hj⟩
   ·exact h1 rfl
   ·exact h4 j hj
def gU:List (Nat×Nat)→Bool
 | []=>true
 | (j,_)::r=>!inK r j&&gU r
section
variable {k:Nat} {ρ:List (Nat×Nat)} {rs s:Sto}
theorem sY{r:Nat→Nat}:∀ {rs:Sto} {i:Nat} {o:AObj},look (eL r s rs) i=some o→(∃ j o',i=r j∧look rs j=some o'∧o=du r o')∨((∀ j o',look rs j=some o'→r j≠i)∧look s i=some o)
 | [],_,_,h=>.inr ⟨fun _ _ h=>by simp[look] at h,h⟩
 | (j,x)::l,i,o,h=>by
   simp only[eL,dq] at h
   rcases ah h with⟨rfl,rfl⟩|⟨hne,h⟩
   ·exact .inl ⟨j,x,rfl,aH,rfl⟩
   ·rcases sY h with⟨j',o',rfl,h2,h4⟩|⟨h1,h2⟩
    ·refine .inl ⟨j',o',rfl,?_,h4⟩
     rw[aP ?_];exact h2
     rintro rfl;exact hne rfl
    ·refine .inr ⟨fun j' o' hj=>?_,h2⟩
     rcases ah hj with⟨rfl,_⟩|⟨_,hj⟩
     ·exact fun e=>hne e.symm
     ·exact h1 j' o' hj
theorem zJ{r:Nat→Nat}:∀ {rs:Sto},(∀ j j' o o',look rs j=some o→look rs j'=some o'→r j=r j'→j=j')→∀ {j:Nat} {o:AObj},look rs j=some o→look (eL r s rs) (r j)=some (du r o)
 | [],_,_,_,h=>by simp[look] at h
 | (j0,x)::l,hinj,j,o,h=>by
   simp only[eL,dq]
   rcases ah h with⟨rfl,rfl⟩|⟨hne,h'⟩
   ·exact aH
   ·rw[aP fun e=>hne (hinj j j0 o x h aH e)]
    refine zJ (fun a b o1 o2 ha hb e=>?_) h'
    by_cases ha0:a=j0
    ·by_cases hb0:b=j0
     ·rw[ha0,hb0]
     ·subst ha0
      exact hinj a b x o2 aH (by rw[aP hb0];exact hb) e
    ·by_cases hb0:b=j0
     ·subst hb0
      exact hinj a b o1 x (by rw[aP ha0];exact ha) aH e
     ·exact hinj a b o1 o2 (by rw[aP ha0];exact ha) (by rw[aP hb0];exact hb) e
end
end Go.Abs
