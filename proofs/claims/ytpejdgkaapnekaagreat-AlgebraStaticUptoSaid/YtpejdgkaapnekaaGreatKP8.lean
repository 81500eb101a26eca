import Derived.Test.YtpejdgkaapnekaaGreatKP7
import Derived.Test.YtpejdgkaapnekaaGreatKP6
set_option linter.unusedVariables false
set_option linter.unusedSimpArgs false
set_option maxHeartbeats 1000000
namespace Go.Abs
open Go
variable {P:Program} {c:Ctx} {T:Tab} {σ:Sig} {φ:Pl} {w:World}
abbrev FJ:=List (Nat×MTy)
structure Env where
 T:Tab
 E:uL
 M:FJ
structure EnvOk (P:Program) (V:Env):Prop where
 T:bg P V.T
 E:AU P V.E
 M:∀ t m,look V.M t=some m→MOk P t m
def bEq:Bool→Bool→Bool
 | true,true|false,false=>true
 | _,_=>false
theorem jl{a b:Bool}(h:bEq a b=true):a=b:=by cases a<;>cases b<;>first|rfl|simp[bEq] at h
def Qz(T:Tab)(t:TypeId):Option (Nat×Bool×Nat) :=
 match look T t with
 | some ⟨.array n e,_,_,_⟩=>(match look T e with|some td=>some (n,td.kind.isAgg,td.size)|none=>none)
 | _=>none
def AZ(T:Tab)(t:TypeId):Option AV→Option AV→Option AV
 | some (.one (.d (.int _ n))),some (.agg cs)=>match Qz T t with
   | some (m,g,s)=>bif decide (0≤n)&&decide (n<(m:Int))&&Nat.blt 0 s then gA g s (cs.drop (n.toNat * s)) else none
   | none=>none
 | _,_=>none
theorem Lu(hT:bg P T){e:TypeId}{td:TD}(he:look T e=some td){off:Nat}{cs:List AC}{v:AV}{sto:Sto}(h0:0<td.size)(hv:gA td.kind.isAgg td.size (cs.drop off)=some v)
  {vs:List Value} (hr:All2 (RepC σ φ sto) cs vs):∃ u,(part e vs.toArray off).run P w=.ok u w∧RepV σ φ sto v u:=by
 obtain⟨i,u,z,hi,hu,hs,hby,hz,hk,_⟩:=(hT e td he).ex
 have hg:=sv hk
 cases hag:dI u with
 | true =>
   rw[← hg,hag,← hs] at hv
   have h1:(isAgg e).run P w=.ok true w:=by
    unfold isAgg
    cases u<;>simp[dI] at hag<;>simp[Ym hu]
   obtain⟨hl,hrv⟩:=rO hv (hr.drop off)
   refine⟨_,by simp[part,h1,sizeOf,typeInfo,hi];rfl,?_⟩
   have e:List.extract vs off (off+i.size)=(vs.drop off).take i.size:=by
    simp[List.extract_eq_take_drop]
   simpa[e] using hrv
 | false =>
   rw[← hg,hag] at hv
   have h1:(isAgg e).run P w=.ok false w:=by
    unfold isAgg
    cases u<;>simp[dI] at hag<;>simp[Ym hu]
   obtain⟨x,hx,hrv⟩:=rP hv (hr.drop off)
   have hx':vs[off]?=some x:=by simpa[XC] using hx
   exact⟨x,by simp[part,h1,hx'],hrv⟩
theorem G7(hT:bg P T){ops:Array Oper}{o:Oper}{rest:List Oper}{st:St}{K:St→Prop}{t:TypeId}{x y:Operand}{v:AV}
  (ho:o.op=.index t x y) (hg:o.guard=none) (hd:aX c.n o.dst=true) (hv:AZ T t (ev st y) (ev st x)=some v)
  (h:aa P c ops rest ⟨bI o.dst v st.fr,st.sto⟩ K):aa P c ops (o::rest) st K :=
 bu hg fun a w σ φ hr=>by
  unfold AZ at hv
  split at hv<;>(try (simp at hv;done))
  rename_i ik n cs hy hx
  split at hv<;>(try (simp at hv;done))
  rename_i m g s ht
  unfold Qz at ht
  split at ht<;>(try (simp at ht;done))
  rename_i n' e sz bb z hta
  split at ht<;>(try (simp at ht;done))
  rename_i td hte
  simp only[W5,XJ] at ht
  obtain⟨rfl,rfl,rfl⟩:=ht
  cases hb:decide (0≤n)&&decide (n<(n':Int))&&Nat.blt 0 td.size<;>simp only[hb,Yf,Ye,reduceCtorEq] at hv
  simp only[WX,Yi,Yb] at hb
  obtain⟨i,u,z',hi,hu,_,_,_,hk,_⟩:=(hT t _ hta).ex
  simp only[fj] at hk;subst hk
  obtain⟨i2,_,_,hi2,_,hs2,_⟩:=(hT e td hte).ex
  obtain⟨vs,hvs,hrs⟩:=aD hr hx
  have hyr:=RepC.d_inv (aD hr hy)
  generalize hye:a.eval y=yv at hyr
  cases hyr
  obtain⟨u,hu',hru⟩:=Lu (P:=P) (w:=w) hT hte (off:=n.toNat * td.size) hb.2 hv hrs
  refine⟨u,w,_,σ,φ,?_,hr.put hd hru,h⟩
  have hlt:(0≤n∧n<(n':Int)):=hb.1
  simp only[execOp,ho,hvs,hye,Instr.index,asIntOf,Xl,Xt,Xb,Ym hu,if_pos hlt,cF hi2,hs2,hu']
def aR(V:Env)(st:St)(o:Oper)(id:Nat):Option Ef :=
 match dg V.T st o id with
 | some e=>some e
 | none=>match o.op with
   | .binOp op t x y _=>(match jI op,JL V.E t (ev st x) (ev st y) with
     | some e,some b=>some ⟨.one (.d (.bool (b==e))),[],[]⟩
     | _,_=>(match yn op (ev st x) (ev st y) with
       | some d=>some ⟨.one (.d d),[],[]⟩
       | none=>(match jI op,vC st.sto (ev st x),vD st.sto (ev st x) with
         | some e,some b,_=>bif ma V.T t&&qu (ev st y) then some ⟨.one (.d (.bool (b==e))),[],[]⟩ else none
         | some e,none,some b=>bif xf V.T t&&tN (ev st y) then some ⟨.one (.d (.bool (b==e))),[],[]⟩ else none
         | _,_,_=>none)))
   | .convert src dst x=>(match ev st x with
     | some (.one (.d (.str s)))=>bif iq V.T src&&ot V.T dst&&Nat.ble s.length 1000000 then some ⟨.one (.d (qt s)),[],[]⟩ else none
     | _=>none)
   | .makeFunc (.func f) ⟨[]⟩ caps=>(match eF st.sto (dS st.sto (cX st caps.toList) []) with
     | some os=>(match lQ os st caps.toList with
       | some avs=>(match lH avs with|some ds=>some ⟨.one (.d (.fn f ds)),qK (dS st.sto (cX st caps.toList) []),[]⟩|none=>none)
       | none=>none)
     | none=>none)
   | .slice t x none none none=>(match qZ V.T t,ev st x with
     | some (n,_),some (.one (.ref i off))=>(match look st.sto i with
       | some (.box _)=>some ⟨.one (.bsl i off n),[],[]⟩
       | _=>none)
     | _,_=>none)
   | .call { callee:=.builtin .copy,args:=⟨[x,y]⟩,argTypes:=⟨[t,t2]⟩ }=>(match bc V.T t,bc V.T t2,ev st x,ev st y with
     | some (_,k,_,_),some _,some (.one (.bsl i off n)),some v=>(match look st.sto i,ga st k v with
       | some (.box cells),some ys=>(match dK off (ys.flatten.map .d) cells with
         | some cells'=>bif Nat.ble ys.length n&&Nat.ble ys.length 1000000 then some ⟨.one (.d (.int .i64 ys.length)),[(i,some (.box cells'))],[]⟩ else none
         | none=>none)
       | _,_=>none)
     | _,_,_,_=>none)
   | .buildSlice t n parts=>(match eF st.sto (dS st.sto (cX st (parts.toList.map (·.2))) []),bc V.T t with
     | some os,some (_,k,b,_)=>(match ov os st k 0 parts.toList with
       | some xs=>bif iE o.dst&&(Nat.beq parts.toList.length n&&(Nat.ble (n*k) 1000000&&Nat.ble (n*b) 1000000&&Nat.ble n 1000000)) then some ⟨.one (.own id n),(id,some (.row k b xs))::qK (dS st.sto (cX st (parts.toList.map (·.2))) []),[id]⟩ else none
       | none=>none)
     | _,_=>none)
   | .build t parts=>(match GP V.T t with
     | some (n,k,z)=>(match fO st k n (z.map .d) parts.toList with|some cs=>some ⟨.agg cs,[],[]⟩|none=>none)
     | none=>none)
   | .index t x y=>(match AZ V.T t (ev st y) (ev st x) with|some v=>some ⟨v,[],[]⟩|none=>none)
   | .makeMap t none=>(match look V.M t with
     | some m=>bif iE o.dst then some ⟨.one (.mapr id),[(id,some (.map m.kg m.vg []))],[id]⟩ else none
     | none=>none)
   | .lookup t x y ok=>(match look V.M t,ev st x,ev st y with
     | some m,some (.one (.mapr i)),some ky=>(match look st.sto i,jB m.kg ky with
       | some (.map kg vg es),some kd=>bif bEq kg m.kg&&bEq vg m.vg&&(gm m.ks kd&&fM m.ks es) then (match o6 m es kd ok with|some v=>some ⟨v,[],[]⟩|none=>none) else none
       | _,_=>none)
     | _,_,_=>none)
   | .mapUpdate t x y z=>(match look V.M t,ev st x,ev st y,ev st z with
     | some m,some (.one (.mapr i)),some ky,some vl=>(match look st.sto i,jB m.kg ky,jB m.vg vl with
       | some (.map kg vg es),some kd,some vd=>bif bEq kg m.kg&&bEq vg m.vg&&(gm m.ks kd&&fM m.ks es)&&!iE o.dst then some ⟨.any,[(i,some (.map m.kg m.vg (ig kd vd es)))],[]⟩ else none
       | _,_,_=>none)
     | _,_,_,_=>none)
   | _=>none
theorem rB{V:Env}(hV:EnvOk P V){o:Oper}{st:St}{id:Nat}{e:Ef}(hd:aX c.n o.dst=true)(h:aR V st o id=some e)(hid:Nat.blt (id+1) 1000000=true)(hf:pO st e.new):lx P c o st e:=by
 unfold aR at h
 split at h
 ·rename_i e' he
  simp only[W5] at h;subst h
  exact J7 hV.T hd he hid hf
 split at h
 ·rename_i op t x y ty ho
  split at h
  ·rename_i e' b h1 h2
   simp only[W5] at h;subst h
   intro ops rest K hk
   exact HC hV.E (o:={ o with guard:=none }) ho h1 rfl hd h2 hk
  ·split at h
   ·rename_i d hdv
    simp only[W5] at h;subst h
    intro ops rest K hk
    exact I2 (o:={ o with guard:=none }) ho rfl hd hdv hk
   ·split at h<;>(try (simp at h;done))
    ·rename_i e' b h1 h2
     cases hb:ma V.T t&&qu (ev st y)<;>simp only[hb,Yf,Ye,reduceCtorEq,W5] at h
     subst h
     intro ops rest K hk
     exact DQ hV.T (o:={ o with guard:=none }) ho h1 rfl hd hb h2 hk
    ·rename_i e' b h1 h2 h3
     cases hb:xf V.T t&&tN (ev st y)<;>simp only[hb,Yf,Ye,reduceCtorEq,W5] at h
     subst h
     intro ops rest K hk
     exact CH hV.T (o:={ o with guard:=none }) ho h1 rfl hd hb h3 hk
 ·rename_i src dst x ho
  split at h<;>(try (simp at h;done))
  rename_i s hx
  cases hb:iq V.T src&&ot V.T dst&&Nat.ble s.length 1000000<;>simp only[hb,Yf,Ye,reduceCtorEq,W5] at h
  subst h
  rw[WX] at hb
  have hl:=W6 hb.2
  intro ops rest K hk
  exact uu hV.T (o:={ o with guard:=none }) ho rfl hd hb.1 hx (by omega) hk
 ·rename_i f caps ho
  split at h<;>(try (simp at h;done))
  rename_i os hos
  split at h<;>(try (simp at h;done))
  rename_i avs ha
  split at h<;>simp at h
  rename_i ds hds
  subst h
  intro ops rest K hk
  obtain⟨ss,h1,h2⟩:=jH hos
  refine xe (o:={ o with guard:=none }) _ ho rfl hd h1 ((nO h2).trans ha) hds ?_
  rw[lP] at hk
  exact hk
 ·rename_i t x ho
  split at h<;>(try (simp at h;done))
  rename_i n s i off ht hx
  split at h<;>simp at h
  rename_i cells hl
  subst h
  intro ops rest K hk
  exact yz hV.T (o:={ o with guard:=none }) ho rfl hd ht hx hl hk
 ·rename_i x y t t2 ho
  split at h<;>(try (simp at h;done))
  rename_i e1 k b z q i off n v ht ht2 hx hy
  obtain⟨q1,q2,q3,q4⟩:=q
  split at h<;>(try (simp at h;done))
  rename_i cells ys hl hs
  split at h<;>(try (simp at h;done))
  rename_i cells' hsp
  cases hb:Nat.ble ys.length n&&Nat.ble ys.length 1000000<;>simp only[hb,Yf,Ye,reduceCtorEq,W5] at h
  subst h
  simp only[WX,Nat.ble_eq] at hb
  intro ops rest K hk
  exact DR hV.T (o:={ o with guard:=none }) ho rfl hd ht ht2 hx hl hy hs hb.1 (by omega) hsp hk
 ·rename_i t n parts ho
  split at h<;>(try (simp at h;done))
  rename_i os e k b z hos ht
  split at h<;>(try (simp at h;done))
  rename_i xs hxs
  cases hb:iE o.dst&&(Nat.beq parts.toList.length n&&(Nat.ble (n*k) 1000000&&Nat.ble (n*b) 1000000&&Nat.ble n 1000000))<;>simp only[hb,Yf,Ye,reduceCtorEq,W5] at h
  subst h
  rw[WX,WX] at hb
  obtain⟨hD,hb1,hb2⟩:=hb
  intro ops rest K hk
  obtain⟨d,hdst⟩:∃ d,o.dst=some d:=by
   cases h:o.dst with
   | none=>simp[h,iE] at hD
   | some d=>exact⟨d,rfl⟩
  obtain⟨f1,f2,f3⟩:=hf id (by simp)
  obtain⟨ss,h1,h2⟩:=jH hos
  rw[hdst] at hk hd
  refine tY hV.T (o:={ o with guard:=none }) _ ho rfl hdst ?_ h1 ht ((zQ h2).trans hxs) hb1 hb2 f2 (pA f3) (mQ ?_)
  ·simp only[WX]
   refine⟨hd,?_⟩
   have:=W6 hid
   show Nat.ble _ _=true
   rw[Nat.ble_eq];omega
  ·simp only[dh,lP] at hk
   exact hk
 ·rename_i t parts ho
  split at h<;>(try (simp at h;done))
  rename_i n k z ht
  split at h<;>simp at h
  rename_i cs hcs
  subst h
  intro ops rest K hk
  exact CJ hV.T (o:={ o with guard:=none }) ho rfl hd ht hcs hk
 ·rename_i t x y ho
  split at h<;>simp at h
  rename_i v hv
  subst h
  intro ops rest K hk
  exact G7 hV.T (o:={ o with guard:=none }) ho rfl hd hv hk
 ·rename_i t ho
  split at h<;>(try (simp at h;done))
  rename_i m hm
  cases hD:iE o.dst<;>simp only[hD,Yf,Ye,reduceCtorEq,W5] at h
  subst h
  intro ops rest K hk
  obtain⟨d,hdst⟩:∃ d,o.dst=some d:=by
   cases h:o.dst with
   | none=>simp[h,iE] at hD
   | some d=>exact⟨d,rfl⟩
  obtain⟨f1,f2,f3⟩:=hf id (by simp)
  rw[hdst] at hk hd
  refine Ad (o:={ o with guard:=none }) m.kg m.vg ho rfl hdst ?_ f2 f3 (mQ ?_)
  ·simp only[WX]
   refine⟨hd,?_⟩
   have:=W6 hid
   show Nat.ble _ _=true
   rw[Nat.ble_eq];omega
  ·exact hk
 ·rename_i t x y ok ho
  split at h<;>(try (simp at h;done))
  rename_i m i ky hm hx hy
  split at h<;>(try (simp at h;done))
  rename_i kg vg es kd hl hk
  cases hb:bEq kg m.kg&&bEq vg m.vg&&(gm m.ks kd&&fM m.ks es)<;>simp only[hb,Yf,Ye,reduceCtorEq] at h
  simp only[WX] at hb
  split at h<;>simp at h
  rename_i v hv
  subst h
  obtain rfl:=jl hb.1.1
  obtain rfl:=jl hb.1.2
  intro ops rest K hk'
  exact sR (hV.M t m hm) (o:={ o with guard:=none }) ho rfl hd hx hl hy hk hb.2.1 hb.2.2 hv hk'
 ·rename_i t x y z ho
  split at h<;>(try (simp at h;done))
  rename_i m i ky vl hm hx hy hz
  split at h<;>(try (simp at h;done))
  rename_i kg vg es kd vd hl hk hv
  cases hb:bEq kg m.kg&&bEq vg m.vg&&(gm m.ks kd&&fM m.ks es)&&!iE o.dst<;>simp only[hb,Yf,Ye,reduceCtorEq,W5] at h
  simp only[WX,Xe] at hb
  subst h
  obtain rfl:=jl hb.1.1.1
  obtain rfl:=jl hb.1.1.2
  have hdst:o.dst=none:=by
   have h2:=hb.2
   cases h:o.dst<;>simp[h,iE] at h2 ⊢
  intro ops rest K hk'
  rw[hdst] at hk'
  exact o7 (hV.M t m hm) (o:={ o with guard:=none }) ho rfl hdst hx hl hy hk hb.1.2.1 hb.1.2.2 hz hv hk'
 ·simp at h
theorem Jw{s s2:Sto}{vx:Option AV}(h:∀ v,vx=some v→∀ i∈cH v,look s2 i=look s i):vC s2 vx=vC s vx:=by
 unfold vC
 split
 ·rfl
 ·rfl
 ·rw[h _ rfl _ (by simp[cH,fC])]
 ·rfl
theorem Jx{s s2:Sto}{vx:Option AV}(h:∀ v,vx=some v→∀ i∈cH v,look s2 i=look s i):vD s2 vx=vD s vx:=by
 unfold vD
 split
 ·rfl
 ·rfl
 ·rw[mZ (h _ rfl _ (by simp[cH,fC]))]
 ·rw[mZ (h _ rfl _ (by simp[cH,fC]))]
 ·rfl
theorem tm{st st2:St}{k n:Nat}:∀ {parts:List (Nat×Operand)} {acc:List AC},(∀ p∈parts,ev st2 p.2=ev st p.2)→fO st2 k n acc parts=fO st k n acc parts
 | [],_,_=>rfl
 | (i,x)::r,acc,h=>by
   have h1:=h (i,x) Xd
   have ih:∀ {acc},fO st2 k n acc r=fO st k n acc r:=fun {acc}=>tm fun p hp=>h p (Xa _ hp)
   simp only at h1
   simp only[fO,h1,ih]
theorem G8{V:Env}{st st2:St}{o:Oper}{id:Nat}(hs:∀ t,t∈iS o.op→look st2.fr t=look st.fr t)(hi:∀ i,i∈cX st o.op.operands.toList→look st2.sto i=look st.sto i):aR V st2 o id=aR V st o id:=by
 unfold aR
 rw[FM hs hi]
 have he:∀ {x:Operand},x∈o.op.operands.toList→ev st2 x=ev st x:=fun hx=>fJ hs hx
 have hid:∀ {x:Operand},x∈o.op.operands.toList→∀ v,ev st x=some v→∀ i,i∈cH v→look st2.sto i=look st.sto i:=fun hx v hv i h=>hi i (kJ hv h hx)
 split
 ·rfl
 generalize hop:o.op=op at he hid
 split
 ·rename_i op t x y ty
  rw[he (x:=x) (by simp[Op.operands]),he (x:=y) (by simp[Op.operands]),Jw (hid (x:=x) (by simp[Op.operands])),Jx (hid (x:=x) (by simp[Op.operands]))]
 ·rename_i src dst x
  rw[he (x:=x) (by simp[Op.operands])]
 ·rename_i f caps
  have hcap:∀ x∈caps.toList,ev st2 x=ev st x:=fun x hx=>he (by simp[Op.operands];simpa using hx)
  have hids:∀ {l:List Operand},(∀ x∈l,ev st2 x=ev st x)→cX st2 l=cX st l:=by
   intro l
   induction l with
   | nil=>intro _;rfl
   | cons x r ih =>
     intro h
     simp only[cX,tP,h x Xd,ih fun y hy=>h y (Xa _ hy)]
  have hi':∀ i∈cX st caps.toList,look st2.sto i=look st.sto i:=fun i h=>hi i (by
   have hmem:∀ {l:List Operand} {l':List Operand},i∈cX st l→(∀ x∈l,x∈l')→i∈cX st l':=by
    intro l
    induction l with
    | nil=>intro l' h;simp[cX] at h
    | cons x r ih =>
      intro l' h hs
      simp only[cX,XF] at h
      rcases h with h|h
      ·unfold tP at h
       split at h
       ·rename_i v hv
        exact kJ hv h (hs x Xd)
       ·simp at h
      ·exact ih h fun y hy=>hs y (Xa _ hy)
   exact hmem h fun x hx=>by rw[hop];simp[Op.operands];simpa using hx)
  rw[hids hcap,mE hi']
  have ho:eF st2.sto (dS st.sto (cX st caps.toList) [])=eF st.sto (dS st.sto (cX st caps.toList) []):=k5 fun i h=>by
   rcases nz h with h|h
   ·exact hi' i h
   ·simp at h
  rw[ho]
  simp only[oD hcap]
 ·rename_i t x
  rw[he (x:=x) (by simp[Op.operands])]
  split
  ·rename_i n s i off ht hx
   rw[hid (x:=x) (by simp[Op.operands]) _ hx i (by simp[cH,fC])]
  ·rfl
 ·rename_i x y t t2
  rw[he (x:=x) (by simp[Op.operands,Call.operands]),he (x:=y) (by simp[Op.operands,Call.operands])]
  split
  ·rename_i e1 k b z q i off n v ht ht2 hx hy
   rw[hid (x:=x) (by simp[Op.operands,Call.operands]) _ hx i (by simp[cH,fC]),q7 (hid (x:=y) (by simp[Op.operands,Call.operands]) _ hy)]
  ·rfl
 ·rename_i t n parts
  have hpar:∀ p∈parts.toList,ev st2 p.2=ev st p.2:=fun p hp=>he (by
   simp only[Op.operands,Array.toList_map,Xj]
   exact⟨p,by simpa using hp,rfl⟩)
  have hids:∀ {l:List (Nat×Operand)},(∀ p∈l,ev st2 p.2=ev st p.2)→cX st2 (l.map (·.2))=cX st (l.map (·.2)):=by
   intro l
   induction l with
   | nil=>intro _;rfl
   | cons x r ih =>
     intro h
     simp only[XK,cX,tP,h x Xd,ih fun y hy=>h y (Xa _ hy)]
  have hi':∀ i∈cX st (parts.toList.map (·.2)),look st2.sto i=look st.sto i:=fun i h=>hi i (by
   rw[hop]
   simpa[Op.operands] using h)
  rw[hids hpar,mE hi']
  have ho:eF st2.sto (dS st.sto (cX st (parts.toList.map (·.2))) [])=eF st.sto (dS st.sto (cX st (parts.toList.map (·.2))) []):=k5 fun i h=>by
   rcases nz h with h|h
   ·exact hi' i h
   ·simp at h
  rw[ho]
  simp only[uz hpar]
 ·rename_i t parts
  have:∀ {k n acc},fO st2 k n acc parts.toList=fO st k n acc parts.toList:=fun {k n acc}=>tm fun p hp=>he (by
   simp only[Op.operands,Array.toList_map,Xj]
   exact⟨p,by simpa using hp,rfl⟩)
  simp only[this]
 ·rename_i t x y
  rw[he (x:=x) (by simp[Op.operands]),he (x:=y) (by simp[Op.operands])]
 ·rfl
 ·rename_i t x y ok
  rw[he (x:=x) (by simp[Op.operands]),he (x:=y) (by simp[Op.operands])]
  split
  ·rename_i m i ky hm hx hy
   rw[hid (x:=x) (by simp[Op.operands]) _ hx i (by simp[cH,fC])]
  ·rfl
 ·rename_i t x y z
  rw[he (x:=x) (by simp[Op.operands]),he (x:=y) (by simp[Op.operands]),he (x:=z) (by simp[Op.operands])]
  split
  ·rename_i m i ky vl hm hx hy hz
   rw[hid (x:=x) (by simp[Op.operands]) _ hx i (by simp[cH,fC])]
  ·rfl
 ·rfl
def uK(st:St)(op:Op):List Nat:=match op with
 | .move _|.assign _=>[]
 | op=>cX st op.operands.toList
theorem DW{V:Env}{st st2:St}{o:Oper}{id:Nat}(hs:∀ t,t∈iS o.op→look st2.fr t=look st.fr t)(hi:∀ i,i∈uK st o.op→look st2.sto i=look st.sto i):aR V st2 o id=aR V st o id:=by
 have he:∀ {x:Operand},x∈o.op.operands.toList→ev st2 x=ev st x:=fun hx=>fJ hs hx
 generalize hop:o.op=op at he
 cases op with
 | move x =>
   have h1:=he (x:=x) (by simp[Op.operands])
   simp only[aR,dg,hop,cL,h1,df,lv]
 | assign x =>
   have h1:=he (x:=x) (by simp[Op.operands])
   simp only[aR,dg,hop,cL,h1,df,lv]
 | _=>exact G8 hs (by rw[hop] at hi ⊢;exact hi)
theorem oE{V:Env}(hV:EnvOk P V){o:Oper}{st:St}{id:Nat}{e:Ef}(hd:aX c.n o.dst=true)(h:aR V st o id=some e)(hid:Nat.blt (id+1) 1000000=true):Loc P c o st (e.tr (uK st o.op)):=by
 intro st2 hs hri hnew ops rest K hk
 exact rB hV hd ((DW hs hri).trans h) hid hnew ops rest K hk
end Go.Abs
namespace Go.Abs
open Go
variable {P:Program} {c:Ctx} {T:Tab} {σ:Sig} {φ:Pl} {w:World}
abbrev Orc:=Option FuncId→Bool→List AV→Sto→Option (AV×Sto)
structure OrcOk (P:Program) (orc:Orc):Prop where
 call:∀ f b avs cs r s,orc (some f) b avs cs=some (r,s)→CallA P f avs cs r s
 yld:∀ j b avs cs r s,orc none b (.one (.yl j)::avs) cs=some (r,s)→YieldA P j avs cs r s
def mx(l:List Nat)(m:Nat):Nat:=match l with
 | []=>m
 | i::r=>mx r (bif Nat.ble m i&&Nat.blt i 1000000 then i+1 else m)
def Oz:List (Nat×AV)→Nat→Nat
 | [],m=>m
 | (_,v)::r,m=>Oz r (mx (cH v) m)
def kV:List (Nat×AV)→List Nat
 | []=>[]
 | (_,v)::r=>cH v++kV r
def AP:AObj→List Nat
 | .box cs=>qH cs
 | .loop _ fr _ _=>kV fr
 | _=>[]
def LD:Sto→Nat→Nat
 | [],m=>m
 | (i,o)::r,m=>LD r (mx (i::AP o) m)
def mJ(st:St):Nat:=LD st.sto (Oz st.fr 0)
def eM(st:St):List Nat→Bool
 | []=>true
 | i::r=>!bw st.sto i&&!br i st.fr&&!aN i st.sto&&eM st r
theorem fB{st:St}:∀ {l:List Nat},eM st l=true→pO st l
 | [],_=>fun i h=>by simp at h
 | j::r,h=>by
   simp only[eM,WX,Xe] at h
   intro i hi
   rcases Xo.1 hi with rfl|hi
   ·refine⟨?_,h.1.1.2,h.1.2⟩
    cases hl:look st.sto i with
    | none=>rfl
    | some e=>have:=h.1.1.1;simp[bw,hl] at this
   ·exact fB h.2 i hi
def kW:List AV→List Nat
 | []=>[]
 | v::r=>cH v++kW r
def jF(s:Sto):Nat→List Nat→List Nat→List Nat
 | 0,_,acc=>acc
 | _+1,[],acc=>acc
 | n+1,i::r,acc=>bif cT i acc then jF s n r acc else (match look s i with
   | none=>jF s n r acc
   | some o=>jF s n (AP o++r) (acc++[i]))
def jG(s:Sto):List Nat→Option (List (Nat×AObj))
 | []=>some []
 | i::r=>match look s i with
   | some o=>(match jG s r with|some l=>some ((i,o)::l)|none=>none)
   | none=>none
def cj(n:Nat):List Nat→List (Nat×Nat)
 | []=>[]
 | i::r=>(n,i)::cj (n+1) r
def inv(n:Nat):List Nat→Nat→Nat
 | [],_=>0
 | j::r,i=>bif Nat.beq j i then n else inv (n+1) r i
def lN(ids:List Nat):List Nat→Bool
 | []=>true
 | i::r=>cT i ids&&lN ids r
def iW(q:Nat→Nat):List (Nat×AObj)→Sto
 | []=>[]
 | (i,o)::r=>(q i,du q o)::iW q r
def pq(ids:List Nat):List (Nat×AObj)→Bool
 | []=>true
 | (i,o)::r=>cT i ids&&lN ids (AP o)&&pq ids r
def xv:AObj→AObj→Bool
 | .box _,.box _=>true
 | .row k b xs,.row k' b' xs'=>Nat.beq k k'&&Nat.beq b b'&&Nat.ble xs.length xs'.length
 | .map kg vg _,.map kg' vg' _=>bEq kg kg'&&bEq vg vg'
 | .loop _ _ _ _,.loop _ _ _ _=>true
 | _,_=>false
theorem FC{e o:AObj}(h:xv e o=true):compat e o:=by
 cases e<;>cases o<;>simp only[xv,WX,reduceCtorEq] at h<;>simp only[compat]
 ·exact⟨W4 h.1.1,W4 h.1.2,W6 h.2⟩
 ·exact⟨jl h.1,jl h.2⟩
def gF(s:Sto)(ρ:List (Nat×Nat)):Sto→Bool
 | []=>true
 | (j,o)::r=>(match look ρ j with
   | none=>true
   | some i=>match look s i with
     | none=>true
     | some e=>xv e o)&&gF s ρ r
theorem AQ{i:Nat}:∀ {ids:List Nat} {n:Nat},cT i ids=true→n≤inv n ids i
 | [],_,h=>by simp[cT] at h
 | j::r,n,h=>by
   simp only[inv]
   cases hb:Nat.beq j i with
   | true=>exact Xc _
   | false =>
     simp only[cT,hb,Bool.false_or] at h
     have:=AQ (n:=n+1) h
     simp only[Ye];omega
theorem qI{i:Nat}:∀ {ids:List Nat} {n:Nat},cT i ids=true→look (cj n ids) (inv n ids i)=some i
 | [],_,h=>by simp[cT] at h
 | j::r,n,h=>by
   simp only[inv,cj]
   cases hb:Nat.beq j i with
   | true =>
     have:=W4 hb;subst this
     exact aH
   | false =>
     simp only[cT,hb,Bool.false_or] at h
     have:=AQ (n:=n+1) h
     simp only[Ye]
     rw[aP (by omega)]
     exact qI h
theorem xw{j i:Nat}:∀ {ids:List Nat} {n:Nat},look (cj n ids) j=some i→i∈ids
 | [],_,h=>by simp[cj,look] at h
 | k::r,n,h=>by
   simp only[cj] at h
   rcases ah h with⟨_,rfl⟩|⟨_,h⟩
   ·simp
   ·exact Xa _ (xw h)
theorem r7{k i:Nat}{ids:List Nat}(h:cT i ids=true):rn k (cj 1000000 ids) (inv 1000000 ids i)=i:=by
 have h1:=AQ (n:=1000000) h
 have h2:=qI (n:=1000000) h
 unfold rn
 have hb:Nat.blt (inv 1000000 ids i) 16=false:=by
  cases hb:Nat.blt (inv 1000000 ids i) 16 with
  | false=>rfl
  | true=>have:=W6 hb;omega
 rw[hb,h2];rfl
section
variable {r q:Nat→Nat}
theorem AR{x:AC}(h:∀ i∈fC x,r (q i)=i):jm r (jm q x)=x:=by
 cases x<;>simp only[jm,fC,X6,forall_eq] at h ⊢<;>rw[h]
theorem oB:∀ {xs:List AC},(∀ i∈qH xs,r (q i)=i)→kX r (kX q xs)=xs
 | [],_=>rfl
 | x::xs,h=>by
   simp only[kX]
   rw[AR fun i hi=>h i (by simp[qH,hi]),oB fun i hi=>h i (by simp[qH,hi])]
theorem yQ:∀ {xs:List (Bool×List AC)},(∀ i∈tq xs,r (q i)=i)→qJ r (qJ q xs)=xs
 | [],_=>rfl
 | (g,x)::xs,h=>by
   simp only[qJ]
   rw[oB fun i hi=>h i (by simp[tq,hi]),yQ fun i hi=>h i (by simp[tq,hi])]
theorem AS{v:AV}(h:∀ i∈cH v,r (q i)=i):eC r (eC q v)=v:=by
 cases v with
 | one x=>simp only[eC];rw[AR h]
 | agg xs=>simp only[eC];rw[oB h]
 | tup xs=>simp only[eC];rw[yQ h]
 | any=>rfl
theorem oC:∀ {xs:List (Nat×AV)},(∀ i∈kV xs,r (q i)=i)→dO r (dO q xs)=xs
 | [],_=>rfl
 | (s,x)::xs,h=>by
   simp only[dO]
   rw[AS fun i hi=>h i (by simp[kV,hi]),oC fun i hi=>h i (by simp[kV,hi])]
theorem JK{o:AObj}(h:∀ i∈AP o,r (q i)=i):du r (du q o)=o:=by
 cases o with
 | box xs=>simp only[du];rw[oB h]
 | loop li fr s p=>simp only[du];rw[oC h]
 | _=>rfl
theorem uI:∀ {xs:List AV},(∀ i∈kW xs,r (q i)=i)→dF r (dF q xs)=xs
 | [],_=>rfl
 | x::xs,h=>by
   simp only[dF]
   rw[AS fun i hi=>h i (by simp[kW,hi]),uI fun i hi=>h i (by simp[kW,hi])]
end
theorem pP{ids:List Nat}:∀ {l:List Nat},lN ids l=true→∀ i∈l,cT i ids=true
 | [],_,i,h=>by simp at h
 | j::r,h,i,hi=>by
   simp only[lN,WX] at h
   rcases Xo.1 hi with rfl|hi
   ·exact h.1
   ·exact pP h.2 i hi
theorem kY{s s2:Sto}:∀ {ids:List Nat},(∀ i∈ids,look s2 i=look s i)→jG s2 ids=jG s ids
 | [],_=>rfl
 | i::r,h=>by
   simp only[jG,h i Xd]
   rw[kY fun j hj=>h j (Xa _ hj)]
theorem kZ{fr:List (Nat×AV)}{s:Sto}{k:Nat}{ids:List Nat}:∀ {l:List Nat} {os:List (Nat×AObj)},jG s l=some os→pq ids os=true →
  Pass ⟨fr,s⟩ (rn k (cj 1000000 ids)) (cj 1000000 ids) (iW (inv 1000000 ids) os)
 | [],os,h,_=>by simp only[jG,W5] at h;subst h;trivial
 | i::r,os,h,ha=>by
   simp only[jG] at h
   split at h<;>(try (simp at h;done))
   rename_i o ho
   split at h<;>simp at h
   rename_i l hl
   subst h
   simp only[pq,WX] at ha
   refine⟨⟨i,qI ha.1.1,?_⟩,kZ hl ha.2⟩
   rw[JK fun i hi=>r7 (pP ha.1.2 i hi)]
   exact ho
theorem j8{fr:List (Nat×AV)}{s s2:Sto}{r:Nat→Nat}{ρ:List (Nat×Nat)}(h:∀ j i,look ρ j=some i→look s2 i=look s i):∀ {rs:Sto},gF s ρ rs=true→CompatL ⟨fr,s2⟩ r ρ rs
 | [],_=>trivial
 | (j,o)::l,hb=>by
   simp only[gF,WX] at hb
   refine⟨fun i e h1 h2=>?_,j8 h hb.2⟩
   have h3:=hb.1
   rw[h1] at h3
   have h2':look s i=some e:=(h j i h1).symm.trans h2
   simp only[h2'] at h3
   exact FC h3
theorem uJ{s:Sto}:∀ {ids:List Nat} {n:Nat},gT (cj n ids) s=eR ids s
 | [],_=>rfl
 | i::r,n=>by simp only[cj,gT,eR,uJ (ids:=r)]
def nG(k:Nat)(ids:List Nat)(rav:AV)(rs:Sto):Tr:=⟨eC (rn k (cj 1000000 ids)) rav,xx (rn k (cj 1000000 ids)) rs++qK ids,ids,rng k 16⟩
theorem Hw{o:Oper}{st:St}{fop:Operand}{args:Array Operand}{ats:Array TypeId}{f:FuncId}{caps:List D}{avs:List AV}{rav:AV}{rs:Sto}{os:List (Nat×AObj)}(k:Nat)(ids:List Nat)
  (ho:o.op=.call { callee:=.value fop,args:=args,argTypes:=ats }) (hd:aX c.n o.dst=true) (hf:ev st fop=some (.one (.d (.fn f caps)))) (ha:evL st args.toList=some avs)
  (hos:jG st.sto ids=some os) (hsub:(lN ids (kW avs)&&pq ids os)=true) (hC:CallA P f (dF (inv 1000000 ids) avs++caps.map fun x=>.one (.d x)) (iW (inv 1000000 ids) os) rav rs)
  (hcm:gF st.sto (cj 1000000 ids) rs=true)
  (hk:(gG (cj 1000000 ids)&&jV (cj 1000000 ids)&&iB (iW (inv 1000000 ids) os) (cj 1000000 ids)&&gU (cj 1000000 ids)&&c7 (cj 1000000 ids) rs&&dU (iW (inv 1000000 ids) os) (dF (inv 1000000 ids) avs++caps.map fun x=>.one (.d x)) &&
   bt (iW (inv 1000000 ids) os) (iW (inv 1000000 ids) os)&&dG rs rav&&bt rs rs&&Nat.ble (k+16) 1000000)=true):Loc P c o st (nG k ids rav rs):=by
 intro st2 hs hri hnew ops rest K h
 have he:∀ {x:Operand},x∈o.op.operands.toList→ev st2 x=ev st x:=fun hx=>fJ hs hx
 rw[ho] at he
 have hri':∀ i∈ids,look st2.sto i=look st.sto i:=hri
 have ha2:evL st2 args.toList=some avs:=(kn fun x hx=>he (by simp[Op.operands,Call.operands];exact .inr (by simpa using hx))).trans ha
 simp only[WX] at hsub
 refine mh (o:={ o with guard:=none }) k (cj 1000000 ids) ho rfl hd ((he (by simp[Op.operands,Call.operands])).trans hf) (cargs:=dF (inv 1000000 ids) avs) ?_ hC
  (kZ (fr:=st2.fr) ((kY hri').trans hos) hsub.2) (j8 (fr:=st2.fr) (s:=st.sto) (fun j i hji=>hri' i (xw hji)) hcm) hk (fun i h1 h2=>hnew i (rng_mem.2 ⟨h1,h2⟩)) ?_
 ·rw[uI fun i hi=>r7 (pP hsub.1 i hi)]
  exact ha2
 ·simp only[nG] at h
  rw[lO,lP] at h
  rw[uJ]
  exact h
def hkB(k:Nat)(ids:List Nat)(cs:Sto)(cargs:List AV)(rav:AV)(rs:Sto):Bool :=
 gG (cj 1000000 ids)&&jV (cj 1000000 ids)&&iB cs (cj 1000000 ids)&&gU (cj 1000000 ids)&&c7 (cj 1000000 ids) rs&&dU cs cargs&&bt cs cs&&dG rs rav&&bt rs rs&&Nat.ble (k+16) 1000000
theorem Hx{o:Oper}{st:St}{fop:Operand}{args:Array Operand}{ats:Array TypeId}{i:Nat}{avs:List AV}{rav:AV}{rs:Sto}{os:List (Nat×AObj)}(k:Nat)(ids:List Nat)(hrd:c.rd=none)
  (ho:o.op=.call { callee:=.value fop,args:=args,argTypes:=ats }) (hd:aX c.n o.dst=true) (hf:ev st fop=some (.one (.yl i))) (ha:evL st args.toList=some avs)
  (hos:jG st.sto ids=some os) (hsub:(cT i ids&&lN ids (kW avs)&&pq ids os)=true) (hY:YieldA P (inv 1000000 ids i) (dF (inv 1000000 ids) avs) (iW (inv 1000000 ids) os) rav rs)
  (hcm:gF st.sto (cj 1000000 ids) rs=true) (hk:hkB k ids (iW (inv 1000000 ids) os) (dF (inv 1000000 ids) avs) rav rs=true):Loc P c o st (nG k ids rav rs):=by
 intro st2 hs hri hnew ops rest K h
 have he:∀ {x:Operand},x∈o.op.operands.toList→ev st2 x=ev st x:=fun hx=>fJ hs hx
 rw[ho] at he
 have hri':∀ i∈ids,look st2.sto i=look st.sto i:=hri
 have ha2:evL st2 args.toList=some avs:=(kn fun x hx=>he (by simp[Op.operands,Call.operands];exact .inr (by simpa using hx))).trans ha
 simp only[WX] at hsub
 refine Dt (o:={ o with guard:=none }) k (cj 1000000 ids) hrd ho rfl hd ((he (by simp[Op.operands,Call.operands])).trans hf) (qI hsub.1.1) (cargs:=dF (inv 1000000 ids) avs) ?_ hY
  (kZ (fr:=st2.fr) ((kY hri').trans hos) hsub.2) (j8 (fr:=st2.fr) (s:=st.sto) (fun j i hji=>hri' i (xw hji)) hcm) hk (fun i h1 h2=>hnew i (rng_mem.2 ⟨h1,h2⟩)) ?_
 ·rw[uI fun i hi=>r7 (pP hsub.1.2 i hi)]
  exact ha2
 ·simp only[nG] at h
  rw[lO,lP] at h
  rw[uJ]
  exact h
theorem yR{o:Oper}{st:St}{fop:Operand}{args:Array Operand}{ats:Array TypeId}{f:FuncId}{caps:List D}{avs:List AV}{rav:AV}{rsto:Sto}{os:List (Nat×AObj)}(dl:List Nat)
  (ho:o.op=.call { callee:=.value fop,args:=args,argTypes:=ats }) (hd:aX c.n o.dst=true) (hos:eF st.sto dl=some os) (hf:evS os st fop=some (.one (.d (.fn f caps))))
  (ha:lQ os st args.toList=some avs) (hD:c8 avs=true) (hC:CallA P f (avs++caps.map fun x=>.one (.d x)) [] rav rsto) (hfl:fZ rav=true):Loc P c o st ⟨rav,[],dl,[]⟩:=by
 intro st2 hs hri hnew ops rest K h
 have he:∀ {x:Operand},x∈o.op.operands.toList→ev st2 x=ev st x:=fun hx=>fJ hs hx
 rw[ho] at he
 have hos2:eF st2.sto dl=some os:=(k5 hri).trans hos
 obtain⟨ss,h1,h2⟩:=jH hos2
 have ha2:evL ss args.toList=some avs:=by
  rw[nO h2,oD (st:=st) fun x hx=>he (by simp[Op.operands,Call.operands];exact .inr (by simpa using hx))]
  exact ha
 have hf2:ev ss fop=some (.one (.d (.fn f caps))):=by
  rw[h2]
  unfold evS
  rw[he (x:=fop) (by simp[Op.operands,Call.operands])]
  exact hf
 exact j9 (o:={ o with guard:=none }) ho rfl hd (fun a w σ φ hr=>by
  obtain⟨σs,_,h3,_⟩:=Rel.sealL h1 hr
  exact⟨σs,φ,h3⟩) hf2 ha2 hD hC hfl h
def Hy(orc:Orc)(ow:Bool)(id:Nat)(st:St)(f:FuncId)(caps:List D)(avs:List AV)(ids:List Nat):Option Tr :=
 match jG st.sto ids with
 | some os=>(match orc (some f) ow (dF (inv 1000000 ids) avs++caps.map fun x=>.one (.d x)) (iW (inv 1000000 ids) os) with
   | some (rav,rs)=>bif lN ids (kW avs)&&pq ids os&&gF st.sto (cj 1000000 ids) rs&&hkB id ids (iW (inv 1000000 ids) os) (dF (inv 1000000 ids) avs++caps.map fun x=>.one (.d x)) rav rs&&eM st (rng id 16) then some (nG id ids rav rs) else none
   | none=>none)
 | none=>none
def Hz(orc:Orc)(id:Nat)(st:St)(i:Nat)(avs:List AV)(ids:List Nat):Option Tr :=
 match jG st.sto ids with
 | some os=>(match orc none false (.one (.yl (inv 1000000 ids i))::dF (inv 1000000 ids) avs) (iW (inv 1000000 ids) os) with
   | some (rav,rs)=>bif (cT i ids&&lN ids (kW avs)&&pq ids os)&&gF st.sto (cj 1000000 ids) rs&&hkB id ids (iW (inv 1000000 ids) os) (dF (inv 1000000 ids) avs) rav rs&&eM st (rng id 16) then some (nG id ids rav rs) else none
   | none=>none)
 | none=>none
def HA(orc:Orc)(ow:Bool)(id:Nat)(st:St)(fop:Operand)(args:List Operand)(dl:List Nat):Option Tr :=
 match eF st.sto dl with
 | some os=>(match evS os st fop,lQ os st args with
   | some (.one (.d (.fn f caps))),some avs=>bif c8 avs then (match orc (some f) ow (avs++caps.map fun x=>.one (.d x)) [] with
     | some (rav,rsto)=>bif fZ rav then some ⟨rav,[],dl,[]⟩ else bif c7 [] rsto&&Nat.ble (id+16) 1000000&&dG rsto rav&&bt rsto rsto&&eM st (rng id 16) then some (k6 id dl dl rav rsto) else none
     | none=>none) else none
   | _,_=>none)
 | none=>none
def xTr(V:Env)(mf:FuncId→Bool)(orc:Orc)(yf ow:Bool)(id:Nat)(st:St)(o:Oper):Option Tr :=
 match aR V st o id with
 | some e=>bif Nat.blt (id+1) 1000000&&eM st e.new then some (e.tr (uK st o.op)) else none
 | none=>match o.op with
   | .call { callee:=.value fop,args,.. }=>(match ev st fop with
     | some (.one (.d (.fn f caps)))=>bif mf f then
       (match evL st args.toList with
       | some avs=>Hy orc ow id st f caps avs (jF st.sto 1000 (kW avs) [])
       | none=>none)
       else HA orc ow id st fop args.toList (dS st.sto (cX st args.toList) [])
     | some (.one (.yl i))=>bif yf then
       (match evL st args.toList with
       | some avs=>Hz orc id st i avs (jF st.sto 1000 (i::kW avs) [])
       | none=>none)
       else none
     | _=>none)
   | _=>none
theorem HB{V:Env}(hV:EnvOk P V){mf:FuncId→Bool}{orc:Orc}(hO:OrcOk P orc){yf ow:Bool}(hy:yf=true→c.rd=none){id:Nat}{st:St}{o:Oper}{tr:Tr}(hd:aX c.n o.dst=true)(h:xTr V mf orc yf ow id st o=some tr):Loc P c o st tr∧pO st tr.new:=by
 unfold xTr at h
 split at h
 ·rename_i e he
  cases hb:Nat.blt (id+1) 1000000&&eM st e.new<;>simp only[hb,Yf,Ye,reduceCtorEq,W5] at h
  subst h
  rw[WX] at hb
  exact⟨oE hV hd he hb.1,fB hb.2⟩
 split at h<;>(try (simp at h;done))
 rename_i fop args ats ho
 split at h<;>(try (simp at h;done))
 ·rename_i f0 caps0 hf0
  cases hm:mf f0 with
  | true =>
    simp only[hm,Yf] at h
    split at h<;>(try (simp at h;done))
    rename_i avs ha
    generalize jF st.sto 1000 (kW avs) []=ids at h
    unfold Hy at h
    split at h<;>(try (simp at h;done))
    rename_i os hos
    split at h<;>(try (simp at h;done))
    rename_i rav rs hor
    cases hb:lN ids (kW avs)&&pq ids os&&gF st.sto (cj 1000000 ids) rs&&hkB id ids (iW (inv 1000000 ids) os) (dF (inv 1000000 ids) avs++caps0.map fun x=>.one (.d x)) rav rs&&eM st (rng id 16)<;>simp only[hb,Yf,Ye,reduceCtorEq,W5] at h
    subst h
    simp only[WX] at hb
    obtain⟨⟨⟨⟨h1,h2⟩,h3⟩,h4⟩,h5⟩:=hb
    exact⟨Hw id ids ho hd hf0 ha hos (by rw[WX];exact⟨h1,h2⟩) (hO.call _ _ _ _ _ _ hor) h3 h4,fB h5⟩
  | false =>
    simp only[hm,Ye] at h
    generalize dS st.sto (cX st args.toList) []=dl at h
    unfold HA at h
    split at h<;>(try (simp at h;done))
    rename_i os hos
    split at h<;>(try (simp at h;done))
    rename_i f caps avs hf ha
    cases hD:c8 avs<;>simp only[hD,Yf,Ye,reduceCtorEq] at h
    split at h<;>(try (simp at h;done))
    rename_i rav rsto hor
    cases hfl:fZ rav with
    | true =>
      simp only[hfl,Yf,W5] at h
      subst h
      exact⟨yR _ ho hd hos hf ha hD (hO.call _ _ _ _ _ _ hor) hfl,fun i hi=>by simp at hi⟩
    | false =>
    simp only[hfl,Ye] at h
    cases hb:c7 [] rsto&&Nat.ble (id+16) 1000000&&dG rsto rav&&bt rsto rsto&&eM st (rng id 16)<;>simp only[hb,Yf,Ye,reduceCtorEq,W5] at h
    subst h
    rw[WX] at hb
    exact⟨yS id _ ho hd hos hf ha hD (hO.call _ _ _ _ _ _ hor) hb.1,fB hb.2⟩
 ·rename_i i hf0
  cases yf with
  | false=>simp at h
  | true =>
    simp only[Yf] at h
    split at h<;>(try (simp at h;done))
    rename_i avs ha
    generalize jF st.sto 1000 (i::kW avs) []=ids at h
    unfold Hz at h
    split at h<;>(try (simp at h;done))
    rename_i os hos
    split at h<;>(try (simp at h;done))
    rename_i rav rs hor
    cases hb:(cT i ids&&lN ids (kW avs)&&pq ids os)&&gF st.sto (cj 1000000 ids) rs&&hkB id ids (iW (inv 1000000 ids) os) (dF (inv 1000000 ids) avs) rav rs&&eM st (rng id 16)<;>simp only[hb,Yf,Ye,reduceCtorEq,W5] at h
    subst h
    rw[WX,WX,WX] at hb
    obtain⟨⟨⟨h1,h3⟩,h4⟩,h5⟩:=hb
    exact⟨Hx id ids (hy rfl) ho hd hf0 ha hos h1 (hO.yld _ _ _ _ _ _ hor) h3 h4,fB h5⟩
end Go.Abs
namespace Go.Abs
open Go
variable {P:Program} {c:Ctx} {T:Tab} {σ:Sig} {φ:Pl} {w:World}
def bn:Sto→List Nat
 | []=>[]
 | (i,_)::r=>i::bn r
def gB(s:Sto):List Nat→Sto
 | []=>[]
 | i::r=>match look s i with
   | some o=>(i,o)::gB s r
   | none=>gB s r
theorem keepK_sub{s:Sto}:∀ {l:List Nat},SubL s (gB s l)
 | []=>trivial
 | i::r=>by
   simp only[gB]
   cases h:look s i with
   | none=>exact keepK_sub
   | some o=>exact⟨h,keepK_sub⟩
def dn:List Nat→Bool
 | []=>true
 | i::r=>!cT i r&&dn r
def gW(r:Nat→Nat):Sto→Sto
 | []=>[]
 | (i,o)::s=>(r i,du r o)::gW r s
def jX(r:Nat→Nat):List Nat→List Nat
 | []=>[]
 | i::l=>r i::jX r l
def yJ(r:Nat→Nat):List Nat→Bool
 | []=>true
 | i::l=>(bif Nat.ble 1000000 i then Nat.beq (r i) i else Nat.blt (r i) 1000000)&&yJ r l
theorem nQ{s:Sto}{i:Nat}{o:AObj}(h:look s i=some o):i∈bn s:=by
 induction s with
 | nil=>simp[look] at h
 | cons p r ih =>
   obtain⟨j,x⟩:=p
   rcases ah h with⟨rfl,_⟩|⟨_,h⟩
   ·simp[bn]
   ·simp[bn,ih h]
theorem rR{r:Nat→Nat}{i:Nat}:∀ {l:List Nat},i∈l→r i∈jX r l
 | [],h=>by simp at h
 | j::l,h=>by
   rcases Xo.1 h with rfl|h
   ·simp[jX]
   ·simp[jX,rR h]
theorem oJ{r:Nat→Nat}:∀ {s:Sto},dn (jX r (bn s))=true→∀ {i:Nat} {o:AObj},look s i=some o→look (gW r s) (r i)=some (du r o)
 | [],_,_,_,h=>by simp[look] at h
 | (j,x)::l,hn,i,o,h=>by
   simp only[bn,jX,dn,WX,Xe] at hn
   simp only[gW]
   rcases ah h with⟨rfl,rfl⟩|⟨hne,h⟩
   ·exact aH
   ·have:r i≠r j:=by
     intro e
     have h1:r i∈jX r (bn l):=rR (nQ h)
     rw[e] at h1
     have:=memL_iff.2 h1
     rw[hn.1] at this;cases this
    rw[aP this]
    exact oJ hn.2 h
theorem ey{r:Nat→Nat}:∀ {s:Sto},dn (bn s)=true→∀ {t:Nat} {e:AObj},look (gW r s) t=some e→∃ i o,t=r i∧look s i=some o∧e=du r o
 | [],_,_,_,h=>by simp[gW,look] at h
 | (j,x)::l,hn,t,e,h=>by
   simp only[bn,dn,WX,Xe] at hn
   simp only[gW] at h
   rcases ah h with⟨rfl,rfl⟩|⟨_,h⟩
   ·exact⟨j,x,rfl,aH,rfl⟩
   ·obtain⟨i,o,h1,h2,h3⟩:=ey hn.2 h
    refine⟨i,o,h1,?_,h3⟩
    rw[aP]
    ·exact h2
    ·rintro rfl
     have:=memL_iff.2 (nQ h2)
     rw[hn.1] at this;cases this
theorem oI{r:Nat→Nat}:∀ {l:List Nat},dn (jX r l)=true→∀ {i j:Nat},i∈l→j∈l→r i=r j→i=j
 | [],_,_,_,h,_,_=>by simp at h
 | k::l,hn,i,j,hi,hj,e=>by
   simp only[jX,dn,WX,Xe] at hn
   have hi1:=Xo.1 hi
   have hj1:=Xo.1 hj
   rcases hi1 with h1|h1<;>rcases hj1 with h2|h2
   ·rw[h1,h2]
   ·have:=memL_iff.2 (rR (r:=r) h2);rw[← e,h1,hn.1] at this;cases this
   ·have:=memL_iff.2 (rR (r:=r) h1);rw[e,h2,hn.1] at this;cases this
   ·exact oI hn.2 h1 h2 e
theorem Fo{r:Nat→Nat}:∀ {l:List Nat},yJ r l=true→∀ {i:Nat},i∈l→(1000000≤i→r i=i)∧(i<1000000→r i<1000000)
 | [],_,_,h=>by simp at h
 | k::l,hn,i,hi=>by
   simp only[yJ,WX] at hn
   rcases Xo.1 hi with rfl|hi
   ·have h1:=hn.1
    cases hb:Nat.ble 1000000 i with
    | true =>
      rw[hb] at h1
      have:=W6 hb
      exact⟨fun _=>W4 h1,fun h=>by omega⟩
    | false =>
      rw[hb] at h1
      have h2:¬ 1000000≤i:=by intro h;rw[Nat.ble_eq.mpr h] at hb;cases hb
      exact⟨fun h=>absurd h h2,fun _=>W6 h1⟩
   ·exact Fo hn.2 hi
theorem Rel.renameTo{fr fr2:List (Nat×AV)}{S:Sto}{r:Nat→Nat}{a:Act}(hr:Rel c ⟨fr,S⟩ a w σ φ)(hf:∀ s v,look fr2 s=some v→look fr s=some v)(hk:(dn (bn S)&&dn (jX r (bn S))&&yJ r (bn S)&&bt S S&&iC S fr2)=true) :
  ∃ φ',Rel c ⟨dO r fr2,gW r S⟩ a w σ φ':=by
 simp only[WX] at hk
 obtain⟨⟨⟨⟨h1,h2⟩,h3⟩,h4⟩,h5⟩:=hk
 classical
 let φ':Pl:=fun t=>if h:∃ i,i∈bn S∧r i=t then φ h.choose else φ t
 have hφ:∀ {i:Nat},i∈bn S→φ' (r i)=φ i:=by
  intro i hi
  have hex:∃ j,j∈bn S∧r j=r i:=⟨i,hi,rfl⟩
  show (if h:∃ j,j∈bn S∧r j=r i then φ h.choose else φ (r i))=φ i
  rw[dif_pos hex]
  have:=hex.choose_spec
  rw[oI h2 this.1 hi this.2]
 have hR:∀ j o,look S j=some o→look (gW r S) (r j)=some (du r o)∧φ' (r j)=φ j:=fun j o hj=>⟨oJ h2 hj,hφ (nQ hj)⟩
 refine⟨φ',hr.le,hr.fresh,⟨hr.inv.sig,fun t e ht=>?_,fun t t' e e' p p' ht ht' hne hp hp'=>?_⟩,fun t e p ht hp=>?_,fun s v hv=>?_,hr.defers,hr.size,hr.fra,fun t ht=>?_⟩
 ·obtain⟨i,o,rfl,hi,rfl⟩:=ey h1 ht
  exact Am hR hi (gq h4 hi) (hr.inv.obj _ _ hi)
 ·obtain⟨i,o,rfl,hi,rfl⟩:=ey h1 ht
  obtain⟨i',o',rfl,hi',rfl⟩:=ey h1 ht'
  rw[(hR _ _ hi).2] at hp
  rw[(hR _ _ hi').2] at hp'
  exact hr.inv.inj _ _ _ _ _ _ hi hi' (fun e=>hne (by rw[e])) hp hp'
 ·obtain⟨i,o,rfl,hi,rfl⟩:=ey h1 ht
  rw[(hR _ _ hi).2] at hp
  exact hr.mine _ _ _ hi hp
 ·rw[lj] at hv
  cases hl:look fr2 s with
  | none=>rw[hl] at hv;cases hv
  | some v0 =>
    rw[hl] at hv;cases hv
    obtain⟨u,hu,hru⟩:=hr.slot s v0 (hf s v0 hl)
    exact⟨u,hu,reV hR (mN h5 hl) hru⟩
 ·show (if h:∃ j,j∈bn S∧r j=t then φ h.choose else φ t)=_
  split
  ·rename_i hex
   have hs:=hex.choose_spec
   obtain⟨f1,f2⟩:=Fo h3 hs.1
   rcases XM hex.choose 1000000 with h5|h5
   ·have:=f2 h5;omega
   ·have:=f1 h5
    rw[hs.2] at this
    rw[← this];exact hr.pin t ht
  ·exact hr.pin t ht
def cN(ids:List Nat):List (Nat×AV)→List Nat→List (Nat×AV)
 | [],_=>[]
 | (s,v)::r,seen=>bif cT s seen then cN ids r seen else bif lN ids (cH v) then (s,v)::cN ids r (s::seen) else cN ids r (s::seen)
theorem iP{ids:List Nat}:∀ {fr:List (Nat×AV)} {seen:List Nat} {s:Nat} {v:AV},look (cN ids fr seen) s=some v→cT s seen=false∧look fr s=some v
 | [],_,_,_,h=>by simp[cN,look] at h
 | (t,x)::r,seen,s,v,h=>by
   simp only[cN] at h
   have step:∀ {seen':List Nat},look (cN ids r (t::seen)) s=some v→cT s seen=false∧look ((t,x)::r) s=some v:=by
    intro _ h
    obtain⟨h1,h2⟩:=iP h
    simp only[cT,XA] at h1
    refine⟨h1.2,?_⟩
    rw[aP]
    ·exact h2
    ·rintro rfl
     rw[XN] at h1;cases h1.1
   cases hm:cT t seen with
   | true =>
     simp only[hm,Yf] at h
     obtain⟨h1,h2⟩:=iP h
     refine⟨h1,?_⟩
     rw[aP]
     ·exact h2
     ·rintro rfl
      rw[hm] at h1;cases h1
   | false =>
     simp only[hm,Ye] at h
     cases hs:lN ids (cH x) with
     | true =>
       simp only[hs,Yf] at h
       rcases ah h with⟨rfl,rfl⟩|⟨_,h⟩
       ·exact⟨hm,aH⟩
       ·exact step (seen':=[]) h
     | false =>
       simp only[hs,Ye] at h
       exact step (seen':=[]) h
theorem lh{ids:List Nat}:∀ {fr:List (Nat×AV)} {seen:List Nat},∀ i∈kV (cN ids fr seen),cT i ids=true
 | [],_,i,h=>by simp[cN,kV] at h
 | (t,x)::r,seen,i,h=>by
   simp only[cN] at h
   cases hm:cT t seen with
   | true=>simp only[hm,Yf] at h;exact lh i h
   | false =>
     simp only[hm,Ye] at h
     cases hs:lN ids (cH x) with
     | true =>
       simp only[hs,Yf,kV,XF] at h
       rcases h with h|h
       ·exact pP hs i h
       ·exact lh i h
     | false=>simp only[hs,Ye] at h;exact lh i h
def tU(ids:List Nat):AObj→AObj
 | .loop li fr s p=>.loop li (cN ids fr []) s p
 | o=>o
def jg(ids:List Nat):Sto→Sto
 | []=>[]
 | (i,o)::r=>(i,tU ids o)::jg ids r
theorem nD{ids:List Nat}:∀ {s:Sto} {i:Nat},look (jg ids s) i=(look s i).map (tU ids)
 | [],_=>rfl
 | (j,o)::r,i=>by
   simp only[jg,look]
   cases Nat.beq j i with
   | true=>rfl
   | false=>simp only[Ye];exact nD
theorem Dk{ids:List Nat}{o:AObj}:compat o (tU ids o):=by
 cases o<;>simp[tU,compat]
theorem Rel.weak{st:St}{a:Act}(hr:Rel c st a w σ φ)(ids:List Nat):Rel c ⟨st.fr,jg ids st.sto⟩ a w σ φ:=by
 have hE:Ext (fun _=>False) φ φ st.sto (jg ids st.sto):=by
  intro i _
  cases hl:look st.sto i with
  | none=>exact .inl (by rw[nD,hl];rfl)
  | some e=>exact .inr ⟨e,rfl,rfl,tU ids e,by rw[nD,hl];rfl,Dk⟩
 have hex:∀ {i:Nat} {e:AObj},look (jg ids st.sto) i=some e→∃ e0,look st.sto i=some e0∧e=tU ids e0:=by
  intro i e h
  rw[nD] at h
  cases hl:look st.sto i with
  | none=>rw[hl] at h;cases h
  | some e0=>rw[hl] at h;cases h;exact⟨e0,rfl,rfl⟩
 refine⟨hr.le,hr.fresh,⟨hr.inv.sig,fun i e hi=>?_,fun i i' e e' p p' hi hi'=>?_⟩,fun i e p hi hp=>?_,fun s v hv=>?_,hr.defers,hr.size,hr.fra,hr.pin⟩
 ·obtain⟨e0,h0,rfl⟩:=hex hi
  have ho:=(hr.inv.obj _ _ h0).ext (X:=fun _=>False) (w':=w) (Sig.le_refl _) hE (fun j hj=>hj.elim) rfl fun _ _ _=>⟨rfl,rfl⟩
  cases e0 with
  | loop li fr s p =>
    obtain⟨B,cc,r,h1,h2,h3,h4,h5⟩:=ho
    exact⟨B,cc,r,h1,h2,h3,fun s v hv=>h4 s v (iP hv).2,h5⟩
  | _=>exact ho
 ·obtain⟨e0,h0,_⟩:=hex hi
  obtain⟨e1,h1,_⟩:=hex hi'
  exact hr.inv.inj _ _ _ _ _ _ h0 h1
 ·obtain⟨e0,h0,_⟩:=hex hi
  exact hr.mine _ _ _ h0 hp
 ·obtain⟨u,hu,hru⟩:=hr.slot s v hv
  exact⟨u,hu,hru.ext (Sig.le_refl _) hE fun j hj=>hj.elim⟩
def Az(s:Sto):List Nat→List Nat
 | []=>[]
 | i::r=>(match look s i with|some o=>AP o|none=>[])++Az s r
def np:List Nat→List Nat
 | []=>[]
 | i::r=>bif Nat.blt i 1000000 then i::np r else np r
def Mn(n:Nat):List Nat→Nat→Nat
 | [],_=>999999
 | j::r,i=>bif Nat.beq j i then n else Mn (n+1) r i
def yK(L:List Nat)(i:Nat):Nat:=bif Nat.ble 1000000 i then i else Mn 0 L i
def Ay(fr:List (Nat×AV))(s:Sto)(keys L:List Nat):Option St :=
 bif dn (bn (jg (keys++L) (gB s (keys++L))))&&dn (jX (yK L) (bn (jg (keys++L) (gB s (keys++L)))))&&yJ (yK L) (bn (jg (keys++L) (gB s (keys++L)))) &&
  bt (jg (keys++L) (gB s (keys++L))) (jg (keys++L) (gB s (keys++L)))&&iC (jg (keys++L) (gB s (keys++L))) (cN (keys++L) fr []) then
  some ⟨dO (yK L) (cN (keys++L) fr []),gW (yK L) (jg (keys++L) (gB s (keys++L)))⟩ else none
theorem Rel.endTo{st st':St}{fr2:List (Nat×AV)}{keys L:List Nat}{a:Act}(hr:Rel c st a w σ φ)(hf:∀ s v,look fr2 s=some v→look st.fr s=some v)(h:Ay fr2 st.sto keys L=some st'):∃ φ',Rel c st' a w σ φ':=by
 unfold Ay at h
 generalize hS:jg (keys++L) (gB st.sto (keys++L))=S at h
 cases hb:dn (bn S)&&dn (jX (yK L) (bn S))&&yJ (yK L) (bn S)&&bt S S&&iC S (cN (keys++L) fr2 [])<;>simp only[hb,Yf,Ye,reduceCtorEq,W5] at h
 subst h
 have h1:=(hr.dropTo (s':=gB st.sto (keys++L)) fun i e hi=>keepK_sub.look hi).weak (keys++L)
 simp only[hS] at h1
 exact h1.renameTo (fun s v hv=>hf s v (iP hv).2) hb
end Go.Abs
