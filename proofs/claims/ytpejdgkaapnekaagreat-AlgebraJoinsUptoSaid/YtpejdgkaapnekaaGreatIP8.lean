import Derived.Test.YtpejdgkaapnekaaGreatIP7
import Derived.Test.YtpejdgkaapnekaaGreatIP6
set_option linter.unusedVariables false
set_option linter.unusedSimpArgs false
set_option maxHeartbeats 1000000
namespace Go.Abs
open Go
variable {P:Program} {c:Ctx} {T:Tab} {σ:Sig} {φ:Pl} {w:World}
abbrev wU:=List (Nat×MTy)
structure Env where
 T:Tab
 E:oS
 M:wU
structure EnvOk (P:Program) (V:Env):Prop where
 T:aD P V.T
 E:ta P V.E
 M:∀ t m,look V.M t=some m→MOk P t m
def bEq:Bool→Bool→Bool
 | true,true|false,false=>true
 | _,_=>false
theorem e9{a b:Bool}(h:bEq a b=true):a=b:=by cases a<;>cases b<;>first|rfl|simp[bEq] at h
def DD(T:Tab)(t:TypeId):Option (Nat×Bool×Nat) :=
 match look T t with
 | some ⟨.array n e,_,_,_⟩=>(match look T e with|some td=>some (n,td.kind.isAgg,td.size)|none=>none)
 | _=>none
def A8(T:Tab)(t:TypeId):Option AV→Option AV→Option AV
 | some (.one (.d (.int _ n))),some (.agg cs)=>match DD T t with
   | some (m,g,s)=>bif decide (0≤n)&&decide (n<(m:Int))&&Nat.blt 0 s then dX g s (cs.drop (n.toNat * s)) else none
   | none=>none
 | _,_=>none
theorem A9(hT:aD P T){e:TypeId}{td:TD}(he:look T e=some td){off:Nat}{cs:List AC}{v:AV}{sto:Sto}(h0:0<td.size)(hv:dX td.kind.isAgg td.size (cs.drop off)=some v)
  {vs:List Value} (hr:All2 (RepC σ φ sto) cs vs):∃ u,(part e vs.toArray off).run P w=.ok u w∧RepV σ φ sto v u:=by
 obtain⟨i,u,z,hi,hu,hs,hby,hz,hk,_⟩:=(hT e td he).ex
 have hg:=mU hk
 cases hag:b0 u with
 | true =>
   rw[← hg,hag,← hs] at hv
   have h1:(isAgg e).run P w=.ok true w:=by
    unfold isAgg
    cases u<;>simp[b0] at hag<;>simp[HZ hu]
   obtain⟨hl,hrv⟩:=mu hv (hr.drop off)
   refine⟨_,by simp[part,h1,sizeOf,typeInfo,hi];rfl,?_⟩
   have e:List.extract vs off (off+i.size)=(vs.drop off).take i.size:=by
    simp[List.extract_eq_take_drop]
   simpa[e] using hrv
 | false =>
   rw[← hg,hag] at hv
   have h1:(isAgg e).run P w=.ok false w:=by
    unfold isAgg
    cases u<;>simp[b0] at hag<;>simp[HZ hu]
   obtain⟨x,hx,hrv⟩:=mw hv (hr.drop off)
   have hx':vs[off]?=some x:=by simpa[Hz] using hx
   exact⟨x,by simp[part,h1,hx'],hrv⟩
theorem yc(hT:aD P T){ops:Array Oper}{o:Oper}{rest:List Oper}{st:St}{K:St→Prop}{t:TypeId}{x y:Operand}{v:AV}
  (ho:o.op=.index t x y) (hg:o.guard=none) (hd:aw c.n o.dst=true) (hv:A8 T t (ev st y) (ev st x)=some v)
  (h:aa P c ops rest ⟨aU o.dst v st.fr,st.sto⟩ K):aa P c ops (o::rest) st K :=
 aJ hg fun a w σ φ hr=>by
  unfold A8 at hv
  split at hv<;>(try (simp at hv;done))
  rename_i ik n cs hy hx
  split at hv<;>(try (simp at hv;done))
  rename_i m g s ht
  unfold DD at ht
  split at ht<;>(try (simp at ht;done))
  rename_i n' e sz bb z hta
  split at ht<;>(try (simp at ht;done))
  rename_i td hte
  simp only[G4,HD] at ht
  obtain⟨rfl,rfl,rfl⟩:=ht
  cases hb:decide (0≤n)&&decide (n<(n':Int))&&Nat.blt 0 td.size<;>simp only[hb,HW,HV,reduceCtorEq] at hv
  simp only[GZ,HX,HT] at hb
  obtain⟨i,u,z',hi,hu,_,_,_,hk,_⟩:=(hT t _ hta).ex
  simp only[cX] at hk;subst hk
  obtain⟨i2,_,_,hi2,_,hs2,_⟩:=(hT e td hte).ex
  obtain⟨vs,hvs,hrs⟩:=ak hr hx
  have hyr:=RepC.d_inv (ak hr hy)
  generalize hye:a.eval y=yv at hyr
  cases hyr
  obtain⟨u,hu',hru⟩:=A9 (P:=P) (w:=w) hT hte (off:=n.toNat * td.size) hb.2 hv hrs
  refine⟨u,w,_,σ,φ,?_,hr.put hd hru,h⟩
  have hlt:(0≤n∧n<(n':Int)):=hb.1
  simp only[execOp,ho,hvs,hye,Instr.index,asIntOf,Hj,Hr,Ha,HZ hu,if_pos hlt,bu hi2,hs2,hu']
def aR(V:Env)(st:St)(o:Oper)(id:Nat):Option Ef :=
 match dg V.T st o id with
 | some e=>some e
 | none=>match o.op with
   | .binOp op t x y _=>(match gA op,zX V.E t (ev st x) (ev st y) with
     | some e,some b=>some ⟨.one (.d (.bool (b==e))),[],[]⟩
     | _,_=>(match xN op (ev st x) (ev st y) with
       | some d=>some ⟨.one (.d d),[],[]⟩
       | none=>(match gA op,pq st.sto (ev st x),pt st.sto (ev st x) with
         | some e,some b,_=>bif iy V.T t&&lE (ev st y) then some ⟨.one (.d (.bool (b==e))),[],[]⟩ else none
         | some e,none,some b=>bif qp V.T t&&nW (ev st y) then some ⟨.one (.d (.bool (b==e))),[],[]⟩ else none
         | _,_,_=>none)))
   | .convert src dst x=>(match ev st x with
     | some (.one (.d (.str s)))=>bif dD V.T src&&fl V.T dst&&Nat.ble s.length 1000000 then some ⟨.one (.d (lC s)),[],[]⟩ else none
     | _=>none)
   | .makeFunc (.func f) ⟨[]⟩ caps=>(match cW st.sto (ck st.sto (bJ st caps.toList) []) with
     | some os=>(match iY os st caps.toList with
       | some avs=>(match gO avs with|some ds=>some ⟨.one (.d (.fn f ds)),lO (ck st.sto (bJ st caps.toList) []),[]⟩|none=>none)
       | none=>none)
     | none=>none)
   | .slice t x none none none=>(match l5 V.T t,ev st x with
     | some (n,_),some (.one (.ref i off))=>(match look st.sto i with
       | some (.box _)=>some ⟨.one (.bsl i off n),[],[]⟩
       | _=>none)
     | _,_=>none)
   | .call { callee:=.builtin .copy,args:=⟨[x,y]⟩,argTypes:=⟨[t,t2]⟩ }=>(match aM V.T t,aM V.T t2,ev st x,ev st y with
     | some (_,k,_,_),some _,some (.one (.bsl i off n)),some v=>(match look st.sto i,dG st k v with
       | some (.box cells),some ys=>(match b7 off (ys.flatten.map .d) cells with
         | some cells'=>bif Nat.ble ys.length n&&Nat.ble ys.length 1000000 then some ⟨.one (.d (.int .i64 ys.length)),[(i,some (.box cells'))],[]⟩ else none
         | none=>none)
       | _,_=>none)
     | _,_,_,_=>none)
   | .buildSlice t n parts=>(match cW st.sto (ck st.sto (bJ st (parts.toList.map (·.2))) []),aM V.T t with
     | some os,some (_,k,b,_)=>(match j6 os st k 0 parts.toList with
       | some xs=>bif fi o.dst&&(Nat.beq parts.toList.length n&&(Nat.ble (n*k) 1000000&&Nat.ble (n*b) 1000000&&Nat.ble n 1000000)) then some ⟨.one (.own id n),(id,some (.row k b xs))::lO (ck st.sto (bJ st (parts.toList.map (·.2))) []),[id]⟩ else none
       | none=>none)
     | _,_=>none)
   | .build t parts=>(match xT V.T t with
     | some (n,k,z)=>(match dx st k n (z.map .d) parts.toList with|some cs=>some ⟨.agg cs,[],[]⟩|none=>none)
     | none=>none)
   | .index t x y=>(match A8 V.T t (ev st y) (ev st x) with|some v=>some ⟨v,[],[]⟩|none=>none)
   | .makeMap t none=>(match look V.M t with
     | some m=>bif fi o.dst then some ⟨.one (.mapr id),[(id,some (.map m.kg m.vg []))],[id]⟩ else none
     | none=>none)
   | .lookup t x y ok=>(match look V.M t,ev st x,ev st y with
     | some m,some (.one (.mapr i)),some ky=>(match look st.sto i,gQ m.kg ky with
       | some (.map kg vg es),some kd=>bif bEq kg m.kg&&bEq vg m.vg&&(dO m.ks kd&&dw m.ks es) then (match kp m es kd ok with|some v=>some ⟨v,[],[]⟩|none=>none) else none
       | _,_=>none)
     | _,_,_=>none)
   | .mapUpdate t x y z=>(match look V.M t,ev st x,ev st y,ev st z with
     | some m,some (.one (.mapr i)),some ky,some vl=>(match look st.sto i,gQ m.kg ky,gQ m.vg vl with
       | some (.map kg vg es),some kd,some vd=>bif bEq kg m.kg&&bEq vg m.vg&&(dO m.ks kd&&dw m.ks es)&&!fi o.dst then some ⟨.any,[(i,some (.map m.kg m.vg (eS kd vd es)))],[]⟩ else none
       | _,_,_=>none)
     | _,_,_,_=>none)
   | _=>none
theorem mh{V:Env}(hV:EnvOk P V){o:Oper}{st:St}{id:Nat}{e:Ef}(hd:aw c.n o.dst=true)(h:aR V st o id=some e)(hid:Nat.blt (id+1) 1000000=true)(hf:k0 st e.new):gH P c o st e:=by
 unfold aR at h
 split at h
 ·rename_i e' he
  simp only[G4] at h;subst h
  exact Ar hV.T hd he hid hf
 split at h
 ·rename_i op t x y ty ho
  split at h
  ·rename_i e' b h1 h2
   simp only[G4] at h;subst h
   intro ops rest K hk
   exact yy hV.E (o:={ o with guard:=none }) ho h1 rfl hd h2 hk
  ·split at h
   ·rename_i d hdv
    simp only[G4] at h;subst h
    intro ops rest K hk
    exact zq (o:={ o with guard:=none }) ho rfl hd hdv hk
   ·split at h<;>(try (simp at h;done))
    ·rename_i e' b h1 h2
     cases hb:iy V.T t&&lE (ev st y)<;>simp only[hb,HW,HV,reduceCtorEq,G4] at h
     subst h
     intro ops rest K hk
     exact vh hV.T (o:={ o with guard:=none }) ho h1 rfl hd hb h2 hk
    ·rename_i e' b h1 h2 h3
     cases hb:qp V.T t&&nW (ev st y)<;>simp only[hb,HW,HV,reduceCtorEq,G4] at h
     subst h
     intro ops rest K hk
     exact uv hV.T (o:={ o with guard:=none }) ho h1 rfl hd hb h3 hk
 ·rename_i src dst x ho
  split at h<;>(try (simp at h;done))
  rename_i s hx
  cases hb:dD V.T src&&fl V.T dst&&Nat.ble s.length 1000000<;>simp only[hb,HW,HV,reduceCtorEq,G4] at h
  subst h
  rw[GZ] at hb
  have hl:=G5 hb.2
  intro ops rest K hk
  exact oD hV.T (o:={ o with guard:=none }) ho rfl hd hb.1 hx (by omega) hk
 ·rename_i f caps ho
  split at h<;>(try (simp at h;done))
  rename_i os hos
  split at h<;>(try (simp at h;done))
  rename_i avs ha
  split at h<;>simp at h
  rename_i ds hds
  subst h
  intro ops rest K hk
  obtain⟨ss,h1,h2⟩:=ft hos
  refine qo (o:={ o with guard:=none }) _ ho rfl hd h1 ((jC h2).trans ha) hds ?_
  rw[gW] at hk
  exact hk
 ·rename_i t x ho
  split at h<;>(try (simp at h;done))
  rename_i n s i off ht hx
  split at h<;>simp at h
  rename_i cells hl
  subst h
  intro ops rest K hk
  exact rj hV.T (o:={ o with guard:=none }) ho rfl hd ht hx hl hk
 ·rename_i x y t t2 ho
  split at h<;>(try (simp at h;done))
  rename_i e1 k b z q i off n v ht ht2 hx hy
  obtain⟨q1,q2,q3,q4⟩:=q
  split at h<;>(try (simp at h;done))
  rename_i cells ys hl hs
  split at h<;>(try (simp at h;done))
  rename_i cells' hsp
  cases hb:Nat.ble ys.length n&&Nat.ble ys.length 1000000<;>simp only[hb,HW,HV,reduceCtorEq,G4] at h
  subst h
  simp only[GZ,Nat.ble_eq] at hb
  intro ops rest K hk
  exact vi hV.T (o:={ o with guard:=none }) ho rfl hd ht ht2 hx hl hy hs hb.1 (by omega) hsp hk
 ·rename_i t n parts ho
  split at h<;>(try (simp at h;done))
  rename_i os e k b z hos ht
  split at h<;>(try (simp at h;done))
  rename_i xs hxs
  cases hb:fi o.dst&&(Nat.beq parts.toList.length n&&(Nat.ble (n*k) 1000000&&Nat.ble (n*b) 1000000&&Nat.ble n 1000000))<;>simp only[hb,HW,HV,reduceCtorEq,G4] at h
  subst h
  rw[GZ,GZ] at hb
  obtain⟨hD,hb1,hb2⟩:=hb
  intro ops rest K hk
  obtain⟨d,hdst⟩:∃ d,o.dst=some d:=by
   cases h:o.dst with
   | none=>simp[h,fi] at hD
   | some d=>exact⟨d,rfl⟩
  obtain⟨f1,f2,f3⟩:=hf id (by simp)
  obtain⟨ss,h1,h2⟩:=ft hos
  rw[hdst] at hk hd
  refine od hV.T (o:={ o with guard:=none }) _ ho rfl hdst ?_ h1 ht ((sj h2).trans hxs) hb1 hb2 f2 (kN f3) (iP ?_)
  ·simp only[GZ]
   refine⟨hd,?_⟩
   have:=G5 hid
   show Nat.ble _ _=true
   rw[Nat.ble_eq];omega
  ·simp only[bT,gW] at hk
   exact hk
 ·rename_i t parts ho
  split at h<;>(try (simp at h;done))
  rename_i n k z ht
  split at h<;>simp at h
  rename_i cs hcs
  subst h
  intro ops rest K hk
  exact uz hV.T (o:={ o with guard:=none }) ho rfl hd ht hcs hk
 ·rename_i t x y ho
  split at h<;>simp at h
  rename_i v hv
  subst h
  intro ops rest K hk
  exact yc hV.T (o:={ o with guard:=none }) ho rfl hd hv hk
 ·rename_i t ho
  split at h<;>(try (simp at h;done))
  rename_i m hm
  cases hD:fi o.dst<;>simp only[hD,HW,HV,reduceCtorEq,G4] at h
  subst h
  intro ops rest K hk
  obtain⟨d,hdst⟩:∃ d,o.dst=some d:=by
   cases h:o.dst with
   | none=>simp[h,fi] at hD
   | some d=>exact⟨d,rfl⟩
  obtain⟨f1,f2,f3⟩:=hf id (by simp)
  rw[hdst] at hk hd
  refine sA (o:={ o with guard:=none }) m.kg m.vg ho rfl hdst ?_ f2 f3 (iP ?_)
  ·simp only[GZ]
   refine⟨hd,?_⟩
   have:=G5 hid
   show Nat.ble _ _=true
   rw[Nat.ble_eq];omega
  ·exact hk
 ·rename_i t x y ok ho
  split at h<;>(try (simp at h;done))
  rename_i m i ky hm hx hy
  split at h<;>(try (simp at h;done))
  rename_i kg vg es kd hl hk
  cases hb:bEq kg m.kg&&bEq vg m.vg&&(dO m.ks kd&&dw m.ks es)<;>simp only[hb,HW,HV,reduceCtorEq] at h
  simp only[GZ] at hb
  split at h<;>simp at h
  rename_i v hv
  subst h
  obtain rfl:=e9 hb.1.1
  obtain rfl:=e9 hb.1.2
  intro ops rest K hk'
  exact nq (hV.M t m hm) (o:={ o with guard:=none }) ho rfl hd hx hl hy hk hb.2.1 hb.2.2 hv hk'
 ·rename_i t x y z ho
  split at h<;>(try (simp at h;done))
  rename_i m i ky vl hm hx hy hz
  split at h<;>(try (simp at h;done))
  rename_i kg vg es kd vd hl hk hv
  cases hb:bEq kg m.kg&&bEq vg m.vg&&(dO m.ks kd&&dw m.ks es)&&!fi o.dst<;>simp only[hb,HW,HV,reduceCtorEq,G4] at h
  simp only[GZ,Hd] at hb
  subst h
  obtain rfl:=e9 hb.1.1.1
  obtain rfl:=e9 hb.1.1.2
  have hdst:o.dst=none:=by
   have h2:=hb.2
   cases h:o.dst<;>simp[h,fi] at h2 ⊢
  intro ops rest K hk'
  rw[hdst] at hk'
  exact kq (hV.M t m hm) (o:={ o with guard:=none }) ho rfl hdst hx hl hy hk hb.1.2.1 hb.1.2.2 hz hv hk'
 ·simp at h
theorem zM{s s2:Sto}{vx:Option AV}(h:∀ v,vx=some v→∀ i∈bw v,look s2 i=look s i):pq s2 vx=pq s vx:=by
 unfold pq
 split
 ·rfl
 ·rfl
 ·rw[h _ rfl _ (by simp[bw,dq])]
 ·rfl
theorem zN{s s2:Sto}{vx:Option AV}(h:∀ v,vx=some v→∀ i∈bw v,look s2 i=look s i):pt s2 vx=pt s vx:=by
 unfold pt
 split
 ·rfl
 ·rfl
 ·rw[iW (h _ rfl _ (by simp[bw,dq]))]
 ·rw[iW (h _ rfl _ (by simp[bw,dq]))]
 ·rfl
theorem nH{st st2:St}{k n:Nat}:∀ {parts:List (Nat×Operand)} {acc:List AC},(∀ p∈parts,ev st2 p.2=ev st p.2)→dx st2 k n acc parts=dx st k n acc parts
 | [],_,_=>rfl
 | (i,x)::r,acc,h=>by
   have h1:=h (i,x) Hc
   have ih:∀ {acc},dx st2 k n acc r=dx st k n acc r:=fun {acc}=>nH fun p hp=>h p (G9 _ hp)
   simp only at h1
   simp only[dx,h1,ih]
theorem yd{V:Env}{st st2:St}{o:Oper}{id:Nat}(hs:∀ t,t∈eP o.op→look st2.fr t=look st.fr t)(hi:∀ i,i∈bJ st o.op.operands.toList→look st2.sto i=look st.sto i):aR V st2 o id=aR V st o id:=by
 unfold aR
 rw[wZ hs hi]
 have he:∀ {x:Operand},x∈o.op.operands.toList→ev st2 x=ev st x:=fun hx=>c5 hs hx
 have hid:∀ {x:Operand},x∈o.op.operands.toList→∀ v,ev st x=some v→∀ i,i∈bw v→look st2.sto i=look st.sto i:=fun hx v hv i h=>hi i (ga hv h hx)
 split
 ·rfl
 generalize hop:o.op=op at he hid
 split
 ·rename_i op t x y ty
  rw[he (x:=x) (by simp[Op.operands]),he (x:=y) (by simp[Op.operands]),zM (hid (x:=x) (by simp[Op.operands])),zN (hid (x:=x) (by simp[Op.operands]))]
 ·rename_i src dst x
  rw[he (x:=x) (by simp[Op.operands])]
 ·rename_i f caps
  have hcap:∀ x∈caps.toList,ev st2 x=ev st x:=fun x hx=>he (by simp[Op.operands];simpa using hx)
  have hids:∀ {l:List Operand},(∀ x∈l,ev st2 x=ev st x)→bJ st2 l=bJ st l:=by
   intro l
   induction l with
   | nil=>intro _;rfl
   | cons x r ih =>
     intro h
     simp only[bJ,nX,h x Hc,ih fun y hy=>h y (G9 _ hy)]
  have hi':∀ i∈bJ st caps.toList,look st2.sto i=look st.sto i:=fun i h=>hi i (by
   have hmem:∀ {l:List Operand} {l':List Operand},i∈bJ st l→(∀ x∈l,x∈l')→i∈bJ st l':=by
    intro l
    induction l with
    | nil=>intro l' h;simp[bJ] at h
    | cons x r ih =>
      intro l' h hs
      simp only[bJ,HB] at h
      rcases h with h|h
      ·unfold nX at h
       split at h
       ·rename_i v hv
        exact ga hv h (hs x Hc)
       ·simp at h
      ·exact ih h fun y hy=>hs y (G9 _ hy)
   exact hmem h fun x hx=>by rw[hop];simp[Op.operands];simpa using hx)
  rw[hids hcap,iH hi']
  have ho:cW st2.sto (ck st.sto (bJ st caps.toList) [])=cW st.sto (ck st.sto (bJ st caps.toList) []):=gu fun i h=>by
   rcases jr h with h|h
   ·exact hi' i h
   ·simp at h
  rw[ho]
  simp only[j9 hcap]
 ·rename_i t x
  rw[he (x:=x) (by simp[Op.operands])]
  split
  ·rename_i n s i off ht hx
   rw[hid (x:=x) (by simp[Op.operands]) _ hx i (by simp[bw,dq])]
  ·rfl
 ·rename_i x y t t2
  rw[he (x:=x) (by simp[Op.operands,Call.operands]),he (x:=y) (by simp[Op.operands,Call.operands])]
  split
  ·rename_i e1 k b z q i off n v ht ht2 hx hy
   rw[hid (x:=x) (by simp[Op.operands,Call.operands]) _ hx i (by simp[bw,dq]),l6 (hid (x:=y) (by simp[Op.operands,Call.operands]) _ hy)]
  ·rfl
 ·rename_i t n parts
  have hpar:∀ p∈parts.toList,ev st2 p.2=ev st p.2:=fun p hp=>he (by
   simp only[Op.operands,Array.toList_map,Hh]
   exact⟨p,by simpa using hp,rfl⟩)
  have hids:∀ {l:List (Nat×Operand)},(∀ p∈l,ev st2 p.2=ev st p.2)→bJ st2 (l.map (·.2))=bJ st (l.map (·.2)):=by
   intro l
   induction l with
   | nil=>intro _;rfl
   | cons x r ih =>
     intro h
     simp only[HE,bJ,nX,h x Hc,ih fun y hy=>h y (G9 _ hy)]
  have hi':∀ i∈bJ st (parts.toList.map (·.2)),look st2.sto i=look st.sto i:=fun i h=>hi i (by
   rw[hop]
   simpa[Op.operands] using h)
  rw[hids hpar,iH hi']
  have ho:cW st2.sto (ck st.sto (bJ st (parts.toList.map (·.2))) [])=cW st.sto (ck st.sto (bJ st (parts.toList.map (·.2))) []):=gu fun i h=>by
   rcases jr h with h|h
   ·exact hi' i h
   ·simp at h
  rw[ho]
  simp only[oG hpar]
 ·rename_i t parts
  have:∀ {k n acc},dx st2 k n acc parts.toList=dx st k n acc parts.toList:=fun {k n acc}=>nH fun p hp=>he (by
   simp only[Op.operands,Array.toList_map,Hh]
   exact⟨p,by simpa using hp,rfl⟩)
  simp only[this]
 ·rename_i t x y
  rw[he (x:=x) (by simp[Op.operands]),he (x:=y) (by simp[Op.operands])]
 ·rfl
 ·rename_i t x y ok
  rw[he (x:=x) (by simp[Op.operands]),he (x:=y) (by simp[Op.operands])]
  split
  ·rename_i m i ky hm hx hy
   rw[hid (x:=x) (by simp[Op.operands]) _ hx i (by simp[bw,dq])]
  ·rfl
 ·rename_i t x y z
  rw[he (x:=x) (by simp[Op.operands]),he (x:=y) (by simp[Op.operands]),he (x:=z) (by simp[Op.operands])]
  split
  ·rename_i m i ky vl hm hx hy hz
   rw[hid (x:=x) (by simp[Op.operands]) _ hx i (by simp[bw,dq])]
  ·rfl
 ·rfl
def oR(st:St)(op:Op):List Nat:=match op with
 | .move _|.assign _=>[]
 | op=>bJ st op.operands.toList
theorem vo{V:Env}{st st2:St}{o:Oper}{id:Nat}(hs:∀ t,t∈eP o.op→look st2.fr t=look st.fr t)(hi:∀ i,i∈oR st o.op→look st2.sto i=look st.sto i):aR V st2 o id=aR V st o id:=by
 have he:∀ {x:Operand},x∈o.op.operands.toList→ev st2 x=ev st x:=fun hx=>c5 hs hx
 generalize hop:o.op=op at he
 cases op with
 | move x =>
   have h1:=he (x:=x) (by simp[Op.operands])
   simp only[aR,dg,hop,b5,h1,db,jK]
 | assign x =>
   have h1:=he (x:=x) (by simp[Op.operands])
   simp only[aR,dg,hop,b5,h1,db,jK]
 | _=>exact yd hs (by rw[hop] at hi ⊢;exact hi)
theorem ka{V:Env}(hV:EnvOk P V){o:Oper}{st:St}{id:Nat}{e:Ef}(hd:aw c.n o.dst=true)(h:aR V st o id=some e)(hid:Nat.blt (id+1) 1000000=true):Loc P c o st (e.tr (oR st o.op)):=by
 intro st2 hs hri hnew ops rest K hk
 exact mh hV hd ((vo hs hri).trans h) hid hnew ops rest K hk
end Go.Abs
namespace Go.Abs
open Go
variable {P:Program} {c:Ctx} {T:Tab} {σ:Sig} {φ:Pl} {w:World}
abbrev Orc:=Option FuncId→Bool→List AV→Sto→Option (AV×Sto)
structure OrcOk (P:Program) (orc:Orc):Prop where
 call:∀ f b avs cs r s,orc (some f) b avs cs=some (r,s)→CallA P f avs cs r s
 yld:∀ j b avs cs r s,orc none b (.one (.yl j)::avs) cs=some (r,s)→YieldA P j avs cs r s
def mx(l:List Nat)(m:Nat):Nat:=match l with
 | []=>m
 | i::r=>mx r (bif Nat.ble m i&&Nat.blt i 1000000 then i+1 else m)
def CA:List (Nat×AV)→Nat→Nat
 | [],m=>m
 | (_,v)::r,m=>CA r (mx (bw v) m)
def gn:List (Nat×AV)→List Nat
 | []=>[]
 | (_,v)::r=>bw v++gn r
def sV:AObj→List Nat
 | .box cs=>lL cs
 | .loop _ fr _ _=>gn fr
 | _=>[]
def Bg:Sto→Nat→Nat
 | [],m=>m
 | (i,o)::r,m=>Bg r (mx (i::sV o) m)
def iJ(st:St):Nat:=Bg st.sto (CA st.fr 0)
def cO(st:St):List Nat→Bool
 | []=>true
 | i::r=>!aZ st.sto i&&!aQ i st.fr&&!aF i st.sto&&cO st r
theorem dN{st:St}:∀ {l:List Nat},cO st l=true→k0 st l
 | [],_=>fun i h=>by simp at h
 | j::r,h=>by
   simp only[cO,GZ,Hd] at h
   intro i hi
   rcases Hm.1 hi with rfl|hi
   ·refine⟨?_,h.1.1.2,h.1.2⟩
    cases hl:look st.sto i with
    | none=>rfl
    | some e=>have:=h.1.1.1;simp[aZ,hl] at this
   ·exact dN h.2 i hi
def gp:List AV→List Nat
 | []=>[]
 | v::r=>bw v++gp r
def fm(s:Sto):Nat→List Nat→List Nat→List Nat
 | 0,_,acc=>acc
 | _+1,[],acc=>acc
 | n+1,i::r,acc=>bif bU i acc then fm s n r acc else (match look s i with
   | none=>fm s n r acc
   | some o=>fm s n (sV o++r) (acc++[i]))
def fP(s:Sto):List Nat→Option (List (Nat×AObj))
 | []=>some []
 | i::r=>match look s i with
   | some o=>(match fP s r with|some l=>some ((i,o)::l)|none=>none)
   | none=>none
def bx(n:Nat):List Nat→List (Nat×Nat)
 | []=>[]
 | i::r=>(n,i)::bx (n+1) r
def inv(n:Nat):List Nat→Nat→Nat
 | [],_=>0
 | j::r,i=>bif Nat.beq j i then n else inv (n+1) r i
def gT(ids:List Nat):List Nat→Bool
 | []=>true
 | i::r=>bU i ids&&gT ids r
def e8(q:Nat→Nat):List (Nat×AObj)→Sto
 | []=>[]
 | (i,o)::r=>(q i,b6 q o)::e8 q r
def kE(ids:List Nat):List (Nat×AObj)→Bool
 | []=>true
 | (i,o)::r=>bU i ids&&gT ids (sV o)&&kE ids r
def qC:AObj→AObj→Bool
 | .box _,.box _=>true
 | .row k b xs,.row k' b' xs'=>Nat.beq k k'&&Nat.beq b b'&&Nat.ble xs.length xs'.length
 | .map kg vg _,.map kg' vg' _=>bEq kg kg'&&bEq vg vg'
 | .loop _ _ _ _,.loop _ _ _ _=>true
 | _,_=>false
theorem wI{e o:AObj}(h:qC e o=true):compat e o:=by
 cases e<;>cases o<;>simp only[qC,GZ,reduceCtorEq] at h<;>simp only[compat]
 ·exact⟨G3 h.1.1,G3 h.1.2,G5 h.2⟩
 ·exact⟨e9 h.1,e9 h.2⟩
def dZ(s:Sto)(ρ:List (Nat×Nat)):Sto→Bool
 | []=>true
 | (j,o)::r=>(match look ρ j with
   | none=>true
   | some i=>match look s i with
     | none=>true
     | some e=>qC e o)&&dZ s ρ r
theorem sW{i:Nat}:∀ {ids:List Nat} {n:Nat},bU i ids=true→n≤inv n ids i
 | [],_,h=>by simp[bU] at h
 | j::r,n,h=>by
   simp only[inv]
   cases hb:Nat.beq j i with
   | true=>exact Hb _
   | false =>
     simp only[bU,hb,Bool.false_or] at h
     have:=sW (n:=n+1) h
     simp only[HV];omega
theorem lM{i:Nat}:∀ {ids:List Nat} {n:Nat},bU i ids=true→look (bx n ids) (inv n ids i)=some i
 | [],_,h=>by simp[bU] at h
 | j::r,n,h=>by
   simp only[inv,bx]
   cases hb:Nat.beq j i with
   | true =>
     have:=G3 hb;subst this
     exact ao
   | false =>
     simp only[bU,hb,Bool.false_or] at h
     have:=sW (n:=n+1) h
     simp only[HV]
     rw[ax (by omega)]
     exact lM h
theorem qD{j i:Nat}:∀ {ids:List Nat} {n:Nat},look (bx n ids) j=some i→i∈ids
 | [],_,h=>by simp[bx,look] at h
 | k::r,n,h=>by
   simp only[bx] at h
   rcases ab h with⟨_,rfl⟩|⟨_,h⟩
   ·simp
   ·exact G9 _ (qD h)
theorem pC{k i:Nat}{ids:List Nat}(h:bU i ids=true):rn k (bx 1000000 ids) (inv 1000000 ids i)=i:=by
 have h1:=sW (n:=1000000) h
 have h2:=lM (n:=1000000) h
 unfold rn
 have hb:Nat.blt (inv 1000000 ids i) 16=false:=by
  cases hb:Nat.blt (inv 1000000 ids i) 16 with
  | false=>rfl
  | true=>have:=G5 hb;omega
 rw[hb,h2];rfl
section
variable {r q:Nat→Nat}
theorem sX{x:AC}(h:∀ i∈dq x,r (q i)=i):fC r (fC q x)=x:=by
 cases x<;>simp only[fC,dq,List.mem_singleton,forall_eq] at h ⊢<;>rw[h]
theorem j8:∀ {xs:List AC},(∀ i∈lL xs,r (q i)=i)→gq r (gq q xs)=xs
 | [],_=>rfl
 | x::xs,h=>by
   simp only[gq]
   rw[sX fun i hi=>h i (by simp[lL,hi]),j8 fun i hi=>h i (by simp[lL,hi])]
theorem ry:∀ {xs:List (Bool×List AC)},(∀ i∈nJ xs,r (q i)=i)→lN r (lN q xs)=xs
 | [],_=>rfl
 | (g,x)::xs,h=>by
   simp only[lN]
   rw[j8 fun i hi=>h i (by simp[nJ,hi]),ry fun i hi=>h i (by simp[nJ,hi])]
theorem sY{v:AV}(h:∀ i∈bw v,r (q i)=i):cZ r (cZ q v)=v:=by
 cases v with
 | one x=>simp only[cZ];rw[sX h]
 | agg xs=>simp only[cZ];rw[j8 h]
 | tup xs=>simp only[cZ];rw[ry h]
 | any=>rfl
theorem mE:∀ {xs:List (Nat×AV)},(∀ i∈gn xs,r (q i)=i)→cV r (cV q xs)=xs
 | [],_=>rfl
 | (s,x)::xs,h=>by
   simp only[cV]
   rw[sY fun i hi=>h i (by simp[gn,hi]),mE fun i hi=>h i (by simp[gn,hi])]
theorem zW{o:AObj}(h:∀ i∈sV o,r (q i)=i):b6 r (b6 q o)=o:=by
 cases o with
 | box xs=>simp only[b6];rw[j8 h]
 | loop li fr s p=>simp only[b6];rw[mE h]
 | _=>rfl
theorem oP:∀ {xs:List AV},(∀ i∈gp xs,r (q i)=i)→cC r (cC q xs)=xs
 | [],_=>rfl
 | x::xs,h=>by
   simp only[cC]
   rw[sY fun i hi=>h i (by simp[gp,hi]),oP fun i hi=>h i (by simp[gp,hi])]
end
theorem k5{ids:List Nat}:∀ {l:List Nat},gT ids l=true→∀ i∈l,bU i ids=true
 | [],_,i,h=>by simp at h
 | j::r,h,i,hi=>by
   simp only[gT,GZ] at h
   rcases Hm.1 hi with rfl|hi
   ·exact h.1
   ·exact k5 h.2 i hi
theorem jg{s s2:Sto}:∀ {ids:List Nat},(∀ i∈ids,look s2 i=look s i)→fP s2 ids=fP s ids
 | [],_=>rfl
 | i::r,h=>by
   simp only[fP,h i Hc]
   rw[jg fun j hj=>h j (G9 _ hj)]
theorem jh{fr:List (Nat×AV)}{s:Sto}{k:Nat}{ids:List Nat}:∀ {l:List Nat} {os:List (Nat×AObj)},fP s l=some os→kE ids os=true →
  Pass ⟨fr,s⟩ (rn k (bx 1000000 ids)) (bx 1000000 ids) (e8 (inv 1000000 ids) os)
 | [],os,h,_=>by simp only[fP,G4] at h;subst h;trivial
 | i::r,os,h,ha=>by
   simp only[fP] at h
   split at h<;>(try (simp at h;done))
   rename_i o ho
   split at h<;>simp at h
   rename_i l hl
   subst h
   simp only[kE,GZ] at ha
   refine⟨⟨i,lM ha.1.1,?_⟩,jh hl ha.2⟩
   rw[zW fun i hi=>pC (k5 ha.1.2 i hi)]
   exact ho
theorem iC{fr:List (Nat×AV)}{s s2:Sto}{r:Nat→Nat}{ρ:List (Nat×Nat)}(h:∀ j i,look ρ j=some i→look s2 i=look s i):∀ {rs:Sto},dZ s ρ rs=true→CompatL ⟨fr,s2⟩ r ρ rs
 | [],_=>trivial
 | (j,o)::l,hb=>by
   simp only[dZ,GZ] at hb
   refine⟨fun i e h1 h2=>?_,iC h hb.2⟩
   have h3:=hb.1
   rw[h1] at h3
   have h2':look s i=some e:=(h j i h1).symm.trans h2
   simp only[h2'] at h3
   exact wI h3
theorem oQ{s:Sto}:∀ {ids:List Nat} {n:Nat},ej (bx n ids) s=cT ids s
 | [],_=>rfl
 | i::r,n=>by simp only[bx,ej,cT,oQ (ids:=r)]
def jx(k:Nat)(ids:List Nat)(rav:AV)(rs:Sto):Tr:=⟨cZ (rn k (bx 1000000 ids)) rav,qE (rn k (bx 1000000 ids)) rs++lO ids,ids,rng k 16⟩
theorem yp{o:Oper}{st:St}{fop:Operand}{args:Array Operand}{ats:Array TypeId}{f:FuncId}{caps:List D}{avs:List AV}{rav:AV}{rs:Sto}{os:List (Nat×AObj)}(k:Nat)(ids:List Nat)
  (ho:o.op=.call { callee:=.value fop,args:=args,argTypes:=ats }) (hd:aw c.n o.dst=true) (hf:ev st fop=some (.one (.d (.fn f caps)))) (ha:evL st args.toList=some avs)
  (hos:fP st.sto ids=some os) (hsub:(gT ids (gp avs)&&kE ids os)=true) (hC:CallA P f (cC (inv 1000000 ids) avs++caps.map fun x=>.one (.d x)) (e8 (inv 1000000 ids) os) rav rs)
  (hcm:dZ st.sto (bx 1000000 ids) rs=true)
  (hk:(eA (bx 1000000 ids)&&gr (bx 1000000 ids)&&fo (e8 (inv 1000000 ids) os) (bx 1000000 ids)&&fa (bx 1000000 ids)&&bY (bx 1000000 ids) rs&&fp (e8 (inv 1000000 ids) os) (cC (inv 1000000 ids) avs++caps.map fun x=>.one (.d x)) &&
   bg (e8 (inv 1000000 ids) os) (e8 (inv 1000000 ids) os)&&cE rs rav&&bg rs rs&&Nat.ble (k+16) 1000000)=true):Loc P c o st (jx k ids rav rs):=by
 intro st2 hs hri hnew ops rest K h
 have he:∀ {x:Operand},x∈o.op.operands.toList→ev st2 x=ev st x:=fun hx=>c5 hs hx
 rw[ho] at he
 have hri':∀ i∈ids,look st2.sto i=look st.sto i:=hri
 have ha2:evL st2 args.toList=some avs:=(gU fun x hx=>he (by simp[Op.operands,Call.operands];exact .inr (by simpa using hx))).trans ha
 simp only[GZ] at hsub
 refine kF (o:={ o with guard:=none }) k (bx 1000000 ids) ho rfl hd ((he (by simp[Op.operands,Call.operands])).trans hf) (cargs:=cC (inv 1000000 ids) avs) ?_ hC
  (jh (fr:=st2.fr) ((jg hri').trans hos) hsub.2) (iC (fr:=st2.fr) (s:=st.sto) (fun j i hji=>hri' i (qD hji)) hcm) hk (fun i h1 h2=>hnew i (rng_mem.2 ⟨h1,h2⟩)) ?_
 ·rw[oP fun i hi=>pC (k5 hsub.1 i hi)]
  exact ha2
 ·simp only[jx] at h
  rw[gV,gW] at h
  rw[oQ]
  exact h
def hkB(k:Nat)(ids:List Nat)(cs:Sto)(cargs:List AV)(rav:AV)(rs:Sto):Bool :=
 eA (bx 1000000 ids)&&gr (bx 1000000 ids)&&fo cs (bx 1000000 ids)&&fa (bx 1000000 ids)&&bY (bx 1000000 ids) rs&&fp cs cargs&&bg cs cs&&cE rs rav&&bg rs rs&&Nat.ble (k+16) 1000000
theorem yq{o:Oper}{st:St}{fop:Operand}{args:Array Operand}{ats:Array TypeId}{i:Nat}{avs:List AV}{rav:AV}{rs:Sto}{os:List (Nat×AObj)}(k:Nat)(ids:List Nat)(hrd:c.rd=none)
  (ho:o.op=.call { callee:=.value fop,args:=args,argTypes:=ats }) (hd:aw c.n o.dst=true) (hf:ev st fop=some (.one (.yl i))) (ha:evL st args.toList=some avs)
  (hos:fP st.sto ids=some os) (hsub:(bU i ids&&gT ids (gp avs)&&kE ids os)=true) (hY:YieldA P (inv 1000000 ids i) (cC (inv 1000000 ids) avs) (e8 (inv 1000000 ids) os) rav rs)
  (hcm:dZ st.sto (bx 1000000 ids) rs=true) (hk:hkB k ids (e8 (inv 1000000 ids) os) (cC (inv 1000000 ids) avs) rav rs=true):Loc P c o st (jx k ids rav rs):=by
 intro st2 hs hri hnew ops rest K h
 have he:∀ {x:Operand},x∈o.op.operands.toList→ev st2 x=ev st x:=fun hx=>c5 hs hx
 rw[ho] at he
 have hri':∀ i∈ids,look st2.sto i=look st.sto i:=hri
 have ha2:evL st2 args.toList=some avs:=(gU fun x hx=>he (by simp[Op.operands,Call.operands];exact .inr (by simpa using hx))).trans ha
 simp only[GZ] at hsub
 refine uV (o:={ o with guard:=none }) k (bx 1000000 ids) hrd ho rfl hd ((he (by simp[Op.operands,Call.operands])).trans hf) (lM hsub.1.1) (cargs:=cC (inv 1000000 ids) avs) ?_ hY
  (jh (fr:=st2.fr) ((jg hri').trans hos) hsub.2) (iC (fr:=st2.fr) (s:=st.sto) (fun j i hji=>hri' i (qD hji)) hcm) hk (fun i h1 h2=>hnew i (rng_mem.2 ⟨h1,h2⟩)) ?_
 ·rw[oP fun i hi=>pC (k5 hsub.1.2 i hi)]
  exact ha2
 ·simp only[jx] at h
  rw[gV,gW] at h
  rw[oQ]
  exact h
theorem yr{o:Oper}{st:St}{fop:Operand}{args:Array Operand}{ats:Array TypeId}{f:FuncId}{caps:List D}{avs:List AV}{rav:AV}{rsto:Sto}{os:List (Nat×AObj)}(dl:List Nat)
  (ho:o.op=.call { callee:=.value fop,args:=args,argTypes:=ats }) (hd:aw c.n o.dst=true) (hos:cW st.sto dl=some os) (hf:evS os st fop=some (.one (.d (.fn f caps))))
  (ha:iY os st args.toList=some avs) (hD:bS avs=true) (hC:CallA P f (avs++caps.map fun x=>.one (.d x)) [] rav rsto) (hfl:fq rav=true):Loc P c o st ⟨rav,[],dl,[]⟩:=by
 intro st2 hs hri hnew ops rest K h
 have he:∀ {x:Operand},x∈o.op.operands.toList→ev st2 x=ev st x:=fun hx=>c5 hs hx
 rw[ho] at he
 have hos2:cW st2.sto dl=some os:=(gu hri).trans hos
 obtain⟨ss,h1,h2⟩:=ft hos2
 have ha2:evL ss args.toList=some avs:=by
  rw[jC h2,j9 (st:=st) fun x hx=>he (by simp[Op.operands,Call.operands];exact .inr (by simpa using hx))]
  exact ha
 have hf2:ev ss fop=some (.one (.d (.fn f caps))):=by
  rw[h2]
  unfold evS
  rw[he (x:=fop) (by simp[Op.operands,Call.operands])]
  exact hf
 exact fJ (o:={ o with guard:=none }) ho rfl hd (fun a w σ φ hr=>by
  obtain⟨σs,_,h3,_⟩:=Rel.sealL h1 hr
  exact⟨σs,φ,h3⟩) hf2 ha2 hD hC hfl h
def yt(orc:Orc)(ow:Bool)(id:Nat)(st:St)(f:FuncId)(caps:List D)(avs:List AV)(ids:List Nat):Option Tr :=
 match fP st.sto ids with
 | some os=>(match orc (some f) ow (cC (inv 1000000 ids) avs++caps.map fun x=>.one (.d x)) (e8 (inv 1000000 ids) os) with
   | some (rav,rs)=>bif gT ids (gp avs)&&kE ids os&&dZ st.sto (bx 1000000 ids) rs&&hkB id ids (e8 (inv 1000000 ids) os) (cC (inv 1000000 ids) avs++caps.map fun x=>.one (.d x)) rav rs&&cO st (rng id 16) then some (jx id ids rav rs) else none
   | none=>none)
 | none=>none
def yu(orc:Orc)(id:Nat)(st:St)(i:Nat)(avs:List AV)(ids:List Nat):Option Tr :=
 match fP st.sto ids with
 | some os=>(match orc none false (.one (.yl (inv 1000000 ids i))::cC (inv 1000000 ids) avs) (e8 (inv 1000000 ids) os) with
   | some (rav,rs)=>bif (bU i ids&&gT ids (gp avs)&&kE ids os)&&dZ st.sto (bx 1000000 ids) rs&&hkB id ids (e8 (inv 1000000 ids) os) (cC (inv 1000000 ids) avs) rav rs&&cO st (rng id 16) then some (jx id ids rav rs) else none
   | none=>none)
 | none=>none
def yw(orc:Orc)(ow:Bool)(id:Nat)(st:St)(fop:Operand)(args:List Operand)(dl:List Nat):Option Tr :=
 match cW st.sto dl with
 | some os=>(match evS os st fop,iY os st args with
   | some (.one (.d (.fn f caps))),some avs=>bif bS avs then (match orc (some f) ow (avs++caps.map fun x=>.one (.d x)) [] with
     | some (rav,rsto)=>bif fq rav then some ⟨rav,[],dl,[]⟩ else bif bY [] rsto&&Nat.ble (id+16) 1000000&&cE rsto rav&&bg rsto rsto&&cO st (rng id 16) then some (iK id dl dl rav rsto) else none
     | none=>none) else none
   | _,_=>none)
 | none=>none
def xTr(V:Env)(mf:FuncId→Bool)(orc:Orc)(yf ow:Bool)(id:Nat)(st:St)(o:Oper):Option Tr :=
 match aR V st o id with
 | some e=>bif Nat.blt (id+1) 1000000&&cO st e.new then some (e.tr (oR st o.op)) else none
 | none=>match o.op with
   | .call { callee:=.value fop,args,.. }=>(match ev st fop with
     | some (.one (.d (.fn f caps)))=>bif mf f then
       (match evL st args.toList with
       | some avs=>yt orc ow id st f caps avs (fm st.sto 1000 (gp avs) [])
       | none=>none)
       else yw orc ow id st fop args.toList (ck st.sto (bJ st args.toList) [])
     | some (.one (.yl i))=>bif yf then
       (match evL st args.toList with
       | some avs=>yu orc id st i avs (fm st.sto 1000 (i::gp avs) [])
       | none=>none)
       else none
     | _=>none)
   | _=>none
theorem yx{V:Env}(hV:EnvOk P V){mf:FuncId→Bool}{orc:Orc}(hO:OrcOk P orc){yf ow:Bool}(hy:yf=true→c.rd=none){id:Nat}{st:St}{o:Oper}{tr:Tr}(hd:aw c.n o.dst=true)(h:xTr V mf orc yf ow id st o=some tr):Loc P c o st tr∧k0 st tr.new:=by
 unfold xTr at h
 split at h
 ·rename_i e he
  cases hb:Nat.blt (id+1) 1000000&&cO st e.new<;>simp only[hb,HW,HV,reduceCtorEq,G4] at h
  subst h
  rw[GZ] at hb
  exact⟨ka hV hd he hb.1,dN hb.2⟩
 split at h<;>(try (simp at h;done))
 rename_i fop args ats ho
 split at h<;>(try (simp at h;done))
 ·rename_i f0 caps0 hf0
  cases hm:mf f0 with
  | true =>
    simp only[hm,HW] at h
    split at h<;>(try (simp at h;done))
    rename_i avs ha
    generalize fm st.sto 1000 (gp avs) []=ids at h
    unfold yt at h
    split at h<;>(try (simp at h;done))
    rename_i os hos
    split at h<;>(try (simp at h;done))
    rename_i rav rs hor
    cases hb:gT ids (gp avs)&&kE ids os&&dZ st.sto (bx 1000000 ids) rs&&hkB id ids (e8 (inv 1000000 ids) os) (cC (inv 1000000 ids) avs++caps0.map fun x=>.one (.d x)) rav rs&&cO st (rng id 16)<;>simp only[hb,HW,HV,reduceCtorEq,G4] at h
    subst h
    simp only[GZ] at hb
    obtain⟨⟨⟨⟨h1,h2⟩,h3⟩,h4⟩,h5⟩:=hb
    exact⟨yp id ids ho hd hf0 ha hos (by rw[GZ];exact⟨h1,h2⟩) (hO.call _ _ _ _ _ _ hor) h3 h4,dN h5⟩
  | false =>
    simp only[hm,HV] at h
    generalize ck st.sto (bJ st args.toList) []=dl at h
    unfold yw at h
    split at h<;>(try (simp at h;done))
    rename_i os hos
    split at h<;>(try (simp at h;done))
    rename_i f caps avs hf ha
    cases hD:bS avs<;>simp only[hD,HW,HV,reduceCtorEq] at h
    split at h<;>(try (simp at h;done))
    rename_i rav rsto hor
    cases hfl:fq rav with
    | true =>
      simp only[hfl,HW,G4] at h
      subst h
      exact⟨yr _ ho hd hos hf ha hD (hO.call _ _ _ _ _ _ hor) hfl,fun i hi=>by simp at hi⟩
    | false =>
    simp only[hfl,HV] at h
    cases hb:bY [] rsto&&Nat.ble (id+16) 1000000&&cE rsto rav&&bg rsto rsto&&cO st (rng id 16)<;>simp only[hb,HW,HV,reduceCtorEq,G4] at h
    subst h
    rw[GZ] at hb
    exact⟨rz id _ ho hd hos hf ha hD (hO.call _ _ _ _ _ _ hor) hb.1,dN hb.2⟩
 ·rename_i i hf0
  cases yf with
  | false=>simp at h
  | true =>
    simp only[HW] at h
    split at h<;>(try (simp at h;done))
    rename_i avs ha
    generalize fm st.sto 1000 (i::gp avs) []=ids at h
    unfold yu at h
    split at h<;>(try (simp at h;done))
    rename_i os hos
    split at h<;>(try (simp at h;done))
    rename_i rav rs hor
    cases hb:(bU i ids&&gT ids (gp avs)&&kE ids os)&&dZ st.sto (bx 1000000 ids) rs&&hkB id ids (e8 (inv 1000000 ids) os) (cC (inv 1000000 ids) avs) rav rs&&cO st (rng id 16)<;>simp only[hb,HW,HV,reduceCtorEq,G4] at h
    subst h
    rw[GZ,GZ,GZ] at hb
    obtain⟨⟨⟨h1,h3⟩,h4⟩,h5⟩:=hb
    exact⟨yq id ids (hy rfl) ho hd hf0 ha hos h1 (hO.yld _ _ _ _ _ _ hor) h3 h4,dN h5⟩
end Go.Abs
namespace Go.Abs
open Go
variable {P:Program} {c:Ctx} {T:Tab} {σ:Sig} {φ:Pl} {w:World}
def bh:Sto→List Nat
 | []=>[]
 | (i,_)::r=>i::bh r
def dY(s:Sto):List Nat→Sto
 | []=>[]
 | i::r=>match look s i with
   | some o=>(i,o)::dY s r
   | none=>dY s r
theorem keepK_sub{s:Sto}:∀ {l:List Nat},SubL s (dY s l)
 | []=>trivial
 | i::r=>by
   simp only[dY]
   cases h:look s i with
   | none=>exact keepK_sub
   | some o=>exact⟨h,keepK_sub⟩
def dn:List Nat→Bool
 | []=>true
 | i::r=>!bU i r&&dn r
def jE(r:Nat→Nat):Sto→Sto
 | []=>[]
 | (i,o)::s=>(r i,b6 r o)::jE r s
def gY(r:Nat→Nat):List Nat→List Nat
 | []=>[]
 | i::l=>r i::gY r l
def rq(r:Nat→Nat):List Nat→Bool
 | []=>true
 | i::l=>(bif Nat.ble 1000000 i then Nat.beq (r i) i else Nat.blt (r i) 1000000)&&rq r l
theorem lQ{s:Sto}{i:Nat}{o:AObj}(h:look s i=some o):i∈bh s:=by
 induction s with
 | nil=>simp[look] at h
 | cons p r ih =>
   obtain⟨j,x⟩:=p
   rcases ab h with⟨rfl,_⟩|⟨_,h⟩
   ·simp[bh]
   ·simp[bh,ih h]
theorem my{r:Nat→Nat}{i:Nat}:∀ {l:List Nat},i∈l→r i∈gY r l
 | [],h=>by simp at h
 | j::l,h=>by
   rcases Hm.1 h with rfl|h
   ·simp[gY]
   ·simp[gY,my h]
theorem mI{r:Nat→Nat}:∀ {s:Sto},dn (gY r (bh s))=true→∀ {i:Nat} {o:AObj},look s i=some o→look (jE r s) (r i)=some (b6 r o)
 | [],_,_,_,h=>by simp[look] at h
 | (j,x)::l,hn,i,o,h=>by
   simp only[bh,gY,dn,GZ,Hd] at hn
   simp only[jE]
   rcases ab h with⟨rfl,rfl⟩|⟨hne,h⟩
   ·exact ao
   ·have:r i≠r j:=by
     intro e
     have h1:r i∈gY r (bh l):=my (lQ h)
     rw[e] at h1
     have:=memL_iff.2 h1
     rw[hn.1] at this;cases this
    rw[ax this]
    exact mI hn.2 h
theorem dR{r:Nat→Nat}:∀ {s:Sto},dn (bh s)=true→∀ {t:Nat} {e:AObj},look (jE r s) t=some e→∃ i o,t=r i∧look s i=some o∧e=b6 r o
 | [],_,_,_,h=>by simp[jE,look] at h
 | (j,x)::l,hn,t,e,h=>by
   simp only[bh,dn,GZ,Hd] at hn
   simp only[jE] at h
   rcases ab h with⟨rfl,rfl⟩|⟨_,h⟩
   ·exact⟨j,x,rfl,ao,rfl⟩
   ·obtain⟨i,o,h1,h2,h3⟩:=dR hn.2 h
    refine⟨i,o,h1,?_,h3⟩
    rw[ax]
    ·exact h2
    ·rintro rfl
     have:=memL_iff.2 (lQ h2)
     rw[hn.1] at this;cases this
theorem mH{r:Nat→Nat}:∀ {l:List Nat},dn (gY r l)=true→∀ {i j:Nat},i∈l→j∈l→r i=r j→i=j
 | [],_,_,_,h,_,_=>by simp at h
 | k::l,hn,i,j,hi,hj,e=>by
   simp only[gY,dn,GZ,Hd] at hn
   have hi1:=Hm.1 hi
   have hj1:=Hm.1 hj
   rcases hi1 with h1|h1<;>rcases hj1 with h2|h2
   ·rw[h1,h2]
   ·have:=memL_iff.2 (my (r:=r) h2);rw[← e,h1,hn.1] at this;cases this
   ·have:=memL_iff.2 (my (r:=r) h1);rw[e,h2,hn.1] at this;cases this
   ·exact mH hn.2 h1 h2 e
theorem wm{r:Nat→Nat}:∀ {l:List Nat},rq r l=true→∀ {i:Nat},i∈l→(1000000≤i→r i=i)∧(i<1000000→r i<1000000)
 | [],_,_,h=>by simp at h
 | k::l,hn,i,hi=>by
   simp only[rq,GZ] at hn
   rcases Hm.1 hi with rfl|hi
   ·have h1:=hn.1
    cases hb:Nat.ble 1000000 i with
    | true =>
      rw[hb] at h1
      have:=G5 hb
      exact⟨fun _=>G3 h1,fun h=>by omega⟩
    | false =>
      rw[hb] at h1
      have h2:¬ 1000000≤i:=by intro h;rw[Nat.ble_eq.mpr h] at hb;cases hb
      exact⟨fun h=>absurd h h2,fun _=>G5 h1⟩
   ·exact wm hn.2 hi
theorem Rel.renameTo{fr fr2:List (Nat×AV)}{S:Sto}{r:Nat→Nat}{a:Act}(hr:Rel c ⟨fr,S⟩ a w σ φ)(hf:∀ s v,look fr2 s=some v→look fr s=some v)(hk:(dn (bh S)&&dn (gY r (bh S))&&rq r (bh S)&&bg S S&&kH S fr2)=true) :
  ∃ φ',Rel c ⟨cV r fr2,jE r S⟩ a w σ φ':=by
 simp only[GZ] at hk
 obtain⟨⟨⟨⟨h1,h2⟩,h3⟩,h4⟩,h5⟩:=hk
 classical
 let φ':Pl:=fun t=>if h:∃ i,i∈bh S∧r i=t then φ h.choose else φ t
 have hφ:∀ {i:Nat},i∈bh S→φ' (r i)=φ i:=by
  intro i hi
  have hex:∃ j,j∈bh S∧r j=r i:=⟨i,hi,rfl⟩
  show (if h:∃ j,j∈bh S∧r j=r i then φ h.choose else φ (r i))=φ i
  rw[dif_pos hex]
  have:=hex.choose_spec
  rw[mH h2 this.1 hi this.2]
 have hR:∀ j o,look S j=some o→look (jE r S) (r j)=some (b6 r o)∧φ' (r j)=φ j:=fun j o hj=>⟨mI h2 hj,hφ (lQ hj)⟩
 refine⟨φ',hr.le,hr.fresh,⟨hr.inv.sig,fun t e ht=>?_,fun t t' e e' p p' ht ht' hne hp hp'=>?_⟩,fun t e p ht hp=>?_,fun s v hv=>?_,hr.defers,hr.size,hr.fra,fun t ht=>?_⟩
 ·obtain⟨i,o,rfl,hi,rfl⟩:=dR h1 ht
  exact wO hR hi (fw h4 hi) (hr.inv.obj _ _ hi)
 ·obtain⟨i,o,rfl,hi,rfl⟩:=dR h1 ht
  obtain⟨i',o',rfl,hi',rfl⟩:=dR h1 ht'
  rw[(hR _ _ hi).2] at hp
  rw[(hR _ _ hi').2] at hp'
  exact hr.inv.inj _ _ _ _ _ _ hi hi' (fun e=>hne (by rw[e])) hp hp'
 ·obtain⟨i,o,rfl,hi,rfl⟩:=dR h1 ht
  rw[(hR _ _ hi).2] at hp
  exact hr.mine _ _ _ hi hp
 ·rw[gC] at hv
  cases hl:look fr2 s with
  | none=>rw[hl] at hv;cases hv
  | some v0 =>
    rw[hl] at hv;cases hv
    obtain⟨u,hu,hru⟩:=hr.slot s v0 (hf s v0 hl)
    exact⟨u,hu,reV hR (iL h5 hl) hru⟩
 ·show (if h:∃ j,j∈bh S∧r j=t then φ h.choose else φ t)=_
  split
  ·rename_i hex
   have hs:=hex.choose_spec
   obtain⟨f1,f2⟩:=wm h3 hs.1
   rcases HG hex.choose 1000000 with h5|h5
   ·have:=f2 h5;omega
   ·have:=f1 h5
    rw[hs.2] at this
    rw[← this];exact hr.pin t ht
  ·exact hr.pin t ht
def cg(ids:List Nat):List (Nat×AV)→List Nat→List (Nat×AV)
 | [],_=>[]
 | (s,v)::r,seen=>bif bU s seen then cg ids r seen else bif gT ids (bw v) then (s,v)::cg ids r (s::seen) else cg ids r (s::seen)
theorem fN{ids:List Nat}:∀ {fr:List (Nat×AV)} {seen:List Nat} {s:Nat} {v:AV},look (cg ids fr seen) s=some v→bU s seen=false∧look fr s=some v
 | [],_,_,_,h=>by simp[cg,look] at h
 | (t,x)::r,seen,s,v,h=>by
   simp only[cg] at h
   have step:∀ {seen':List Nat},look (cg ids r (t::seen)) s=some v→bU s seen=false∧look ((t,x)::r) s=some v:=by
    intro _ h
    obtain⟨h1,h2⟩:=fN h
    simp only[bU,Hx] at h1
    refine⟨h1.2,?_⟩
    rw[ax]
    ·exact h2
    ·rintro rfl
     rw[HH] at h1;cases h1.1
   cases hm:bU t seen with
   | true =>
     simp only[hm,HW] at h
     obtain⟨h1,h2⟩:=fN h
     refine⟨h1,?_⟩
     rw[ax]
     ·exact h2
     ·rintro rfl
      rw[hm] at h1;cases h1
   | false =>
     simp only[hm,HV] at h
     cases hs:gT ids (bw x) with
     | true =>
       simp only[hs,HW] at h
       rcases ab h with⟨rfl,rfl⟩|⟨_,h⟩
       ·exact⟨hm,ao⟩
       ·exact step (seen':=[]) h
     | false =>
       simp only[hs,HV] at h
       exact step (seen':=[]) h
theorem js{ids:List Nat}:∀ {fr:List (Nat×AV)} {seen:List Nat},∀ i∈gn (cg ids fr seen),bU i ids=true
 | [],_,i,h=>by simp[cg,gn] at h
 | (t,x)::r,seen,i,h=>by
   simp only[cg] at h
   cases hm:bU t seen with
   | true=>simp only[hm,HW] at h;exact js i h
   | false =>
     simp only[hm,HV] at h
     cases hs:gT ids (bw x) with
     | true =>
       simp only[hs,HW,gn,HB] at h
       rcases h with h|h
       ·exact k5 hs i h
       ·exact js i h
     | false=>simp only[hs,HV] at h;exact js i h
def n5(ids:List Nat):AObj→AObj
 | .loop li fr s p=>.loop li (cg ids fr []) s p
 | o=>o
def e6(ids:List Nat):Sto→Sto
 | []=>[]
 | (i,o)::r=>(i,n5 ids o)::e6 ids r
theorem ju{ids:List Nat}:∀ {s:Sto} {i:Nat},look (e6 ids s) i=(look s i).map (n5 ids)
 | [],_=>rfl
 | (j,o)::r,i=>by
   simp only[e6,look]
   cases Nat.beq j i with
   | true=>rfl
   | false=>simp only[HV];exact ju
theorem uQ{ids:List Nat}{o:AObj}:compat o (n5 ids o):=by
 cases o<;>simp[n5,compat]
theorem Rel.weak{st:St}{a:Act}(hr:Rel c st a w σ φ)(ids:List Nat):Rel c ⟨st.fr,e6 ids st.sto⟩ a w σ φ:=by
 have hE:Ext (fun _=>False) φ φ st.sto (e6 ids st.sto):=by
  intro i _
  cases hl:look st.sto i with
  | none=>exact .inl (by rw[ju,hl];rfl)
  | some e=>exact .inr ⟨e,rfl,rfl,n5 ids e,by rw[ju,hl];rfl,uQ⟩
 have hex:∀ {i:Nat} {e:AObj},look (e6 ids st.sto) i=some e→∃ e0,look st.sto i=some e0∧e=n5 ids e0:=by
  intro i e h
  rw[ju] at h
  cases hl:look st.sto i with
  | none=>rw[hl] at h;cases h
  | some e0=>rw[hl] at h;cases h;exact⟨e0,rfl,rfl⟩
 refine⟨hr.le,hr.fresh,⟨hr.inv.sig,fun i e hi=>?_,fun i i' e e' p p' hi hi'=>?_⟩,fun i e p hi hp=>?_,fun s v hv=>?_,hr.defers,hr.size,hr.fra,hr.pin⟩
 ·obtain⟨e0,h0,rfl⟩:=hex hi
  have ho:=(hr.inv.obj _ _ h0).ext (X:=fun _=>False) (w':=w) (Sig.le_refl _) hE (fun j hj=>hj.elim) rfl fun _ _ _=>⟨rfl,rfl⟩
  cases e0 with
  | loop li fr s p =>
    obtain⟨B,cc,r,h1,h2,h3,h4,h5⟩:=ho
    exact⟨B,cc,r,h1,h2,h3,fun s v hv=>h4 s v (fN hv).2,h5⟩
  | _=>exact ho
 ·obtain⟨e0,h0,_⟩:=hex hi
  obtain⟨e1,h1,_⟩:=hex hi'
  exact hr.inv.inj _ _ _ _ _ _ h0 h1
 ·obtain⟨e0,h0,_⟩:=hex hi
  exact hr.mine _ _ _ h0 hp
 ·obtain⟨u,hu,hru⟩:=hr.slot s v hv
  exact⟨u,hu,hru.ext (Sig.le_refl _) hE fun j hj=>hj.elim⟩
def sO(s:Sto):List Nat→List Nat
 | []=>[]
 | i::r=>(match look s i with|some o=>sV o|none=>[])++sO s r
def nZ:List Nat→List Nat
 | []=>[]
 | i::r=>bif Nat.blt i 1000000 then i::nZ r else nZ r
def Bz(n:Nat):List Nat→Nat→Nat
 | [],_=>999999
 | j::r,i=>bif Nat.beq j i then n else Bz (n+1) r i
def rr(L:List Nat)(i:Nat):Nat:=bif Nat.ble 1000000 i then i else Bz 0 L i
def sN(fr:List (Nat×AV))(s:Sto)(keys L:List Nat):Option St :=
 bif dn (bh (e6 (keys++L) (dY s (keys++L))))&&dn (gY (rr L) (bh (e6 (keys++L) (dY s (keys++L)))))&&rq (rr L) (bh (e6 (keys++L) (dY s (keys++L)))) &&
  bg (e6 (keys++L) (dY s (keys++L))) (e6 (keys++L) (dY s (keys++L)))&&kH (e6 (keys++L) (dY s (keys++L))) (cg (keys++L) fr []) then
  some ⟨cV (rr L) (cg (keys++L) fr []),jE (rr L) (e6 (keys++L) (dY s (keys++L)))⟩ else none
theorem Rel.endTo{st st':St}{fr2:List (Nat×AV)}{keys L:List Nat}{a:Act}(hr:Rel c st a w σ φ)(hf:∀ s v,look fr2 s=some v→look st.fr s=some v)(h:sN fr2 st.sto keys L=some st'):∃ φ',Rel c st' a w σ φ':=by
 unfold sN at h
 generalize hS:e6 (keys++L) (dY st.sto (keys++L))=S at h
 cases hb:dn (bh S)&&dn (gY (rr L) (bh S))&&rq (rr L) (bh S)&&bg S S&&kH S (cg (keys++L) fr2 [])<;>simp only[hb,HW,HV,reduceCtorEq,G4] at h
 subst h
 have h1:=(hr.dropTo (s':=dY st.sto (keys++L)) fun i e hi=>keepK_sub.look hi).weak (keys++L)
 simp only[hS] at h1
 exact h1.renameTo (fun s v hv=>hf s v (fN hv).2) hb
end Go.Abs
