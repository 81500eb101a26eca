import Derived.DeepKeys3
import Derived.Laws.StructEq
import Derived.MapKept
import Derived.Test.YtpejdgkaapnekaaGreatGP5
set_option linter.unusedVariables false
set_option linter.unusedSimpArgs false
set_option linter.unnecessarySimpa false
set_option maxHeartbeats 1000000
namespace Go.Abs
open Go
variable {P : Program} {c : Ctx} {T : Tab} {σ : Sig} {φ : Pl} {w : World}
structure Ef where
 v : AV
 wr : List (Nat×Option AObj)
 new : List Nat
def oo(T : Tab)(sto : Sto)(t : TypeId) : Option AV→Option AV→Option AV
 | some (.one (.d (.int _ n))),some (.one (.d (.sl k _ xs)))=>match aR T t with
   | some (_,k',_,_)=>bif Nat.beq k k' && decide (0≤n) then (match nth xs n.toNat with | some el=>some (.one (.d (.ptr el))) | none=>none) else none
   | none=>none
 | some (.one (.d (.int _ n))),some (.one (.own id m))=>match aR T t,look sto id with
   | some (_,k',_,_),some (.row k _ _)=>bif Nat.beq k k' && decide (0≤n) && decide (n < m) then some (.one (.rref id n.toNat 0)) else none
   | _,_=>none
 | some (.one (.d (.int _ n))),some (.one (.sub id lo m))=>match aR T t,look sto id with
   | some (_,k',_,_),some (.row k _ _)=>bif Nat.beq k k' && decide (0≤n) && decide (n < m) then some (.one (.rref id (lo + n.toNat) 0)) else none
   | _,_=>none
 | some (.one (.d (.int _ n))),some v=>match oq T t with
   | some (m,s)=>bif decide (0≤n) && decide (n < m) then mW sto (n.toNat * s) v else none
   | none=>none
 | _,_=>none
def qQ(T : Tab)(t : TypeId) : Option AV→Option AV→Option AV
 | some (.one (.d (.int _ n))),some (.one (.d (.str s)))=>bif fP T t && decide (0≤n) then (match nth s n.toNat with | some b=>some (.one (.d (.int .u8 (b.toNat : Int)))) | none=>none) else none
 | _,_=>none
def l0(T : Tab)(sto : Sto)(t : TypeId) : Option AV→Option AV
 | some (.one (.rref id i off))=>match iI T t,look sto id with
   | some (g,s),some (.row _ _ xs)=>(match nth xs i with | some el=>eX g s ((el.drop off).map .d) | none=>none)
   | _,_=>none
 | _=>none
def l5(T : Tab)(sto : Sto)(t : TypeId) : Option AV→Option AV→Option (Nat×AObj)
 | some (.one (.ref id off)),some v=>match iI T t,look sto id,cellsOf v with
   | some (_,s),some (.box cells),some cs=>bif Nat.beq cs.length s then (match cM off cs cells with | some cells'=>some (id,.box cells') | none=>none) else none
   | _,_,_=>none
 | some (.one (.rref id j off)),some v=>match iI T t,look sto id,cellsOf v with
   | some (_,s),some (.row k b xs),some cs=>bif Nat.beq cs.length s then (match eL cs,nth xs j with
     | some ds,some el=>(match cM off ds el with | some el'=>some (id,.row k b (xs.set j el')) | none=>none)
     | _,_=>none) else none
   | _,_,_=>none
 | _,_=>none
def fG(st : St)(o : Option Operand)(d : Nat) : Option Nat :=
 match o with
 | none=>some d
 | some x=>match ev st x with
   | some (.one (.d (.int _ z)))=>bif decide (0≤z) then some z.toNat else none
   | _=>none
def fH(T : Tab)(sto : Sto)(t : TypeId)(lo hi : Nat→Option Nat) : Option AV→Option AV
 | some (.one (.d (.sl k b xs)))=>match aR T t,lo 0,hi xs.length with
   | some (_,k',_,_),some l,some h=>bif Nat.beq k k' && (Nat.ble l h && Nat.ble h xs.length) then some (.one (.d (.sl k b ((xs.take h).drop l)))) else none
   | _,_,_=>none
 | some (.one (.d (.str s)))=>match lo 0,hi s.length with
   | some l,some h=>bif fP T t && (Nat.ble l h && Nat.ble h s.length) then some (.one (.d (.str ((s.drop l).take (h - l))))) else none
   | _,_=>none
 | some (.one (.own id n))=>match aR T t,look sto id,lo 0,hi n with
   | some (_,k',_,_),some (.row k _ xs),some l,some h=>bif Nat.beq k k' && (Nat.ble l h && Nat.ble h xs.length) then
     (bif Nat.beq l 0 && (Nat.ble xs.length n || Nat.ble h n) then some (.one (.own id h)) else some (.one (.sub id l (h - l)))) else none
   | _,_,_,_=>none
 | _=>none
def lh(T : Tab)(st : St)(id : Nat) : Op→Option (AV×AObj)
 | .alloc t=>match look T t with | some td=>some (.one (.ref id 0),.box (td.zero.map .d)) | none=>none
 | .box _ x=>match ev st x with | some v=>(match cellsOf v with | some cs=>bif b6 id cs then none else some (.one (.ref id 0),.box cs) | none=>none) | none=>none
 | .buildSlice t n parts=>match aR T t with
   | some (_,k,b,_)=>(match dA st k 0 parts.toList with
     | some xs=>bif Nat.beq parts.toList.length n && (Nat.ble (n * k) 1000000 && Nat.ble (n * b) 1000000 && Nat.ble n 1000000) then some (.one (.own id n),.row k b xs) else none
     | none=>none)
   | none=>none
 | .makeSlice t x y=>match aR T t,ev st x,ev st y with
   | some (_,k,b,z),some (.one (.d (.int .i64 n))),some (.one (.d (.int .i64 m))) =>
     bif decide (0≤n) && decide (n = m) && (Nat.ble (n.toNat * b) 1000000 && Nat.ble n.toNat 1000000) then some (.one (.own id n.toNat),.row k b (List.replicate n.toNat z)) else none
   | _,_,_=>none
 | _=>none
def sa(T : Tab)(st : St)(id : Nat)(t t2 : TypeId) : Option AV→Option AV→Option Ef
 | some (.one (.own i n)),some v=>match aR T t,aR T t2,look st.sto i with
   | some (_,k,b,_),some _,some (.row k' b' xs)=>(match eI st k v with
     | some ys=>bif Nat.beq k k' && Nat.beq b b' && (Nat.ble (n + ys.length) 1000000000 && Nat.ble ((n + ys.length) * b) 100000000000) then
       some ⟨.one (.own id (n + ys.length)),[(id,some (.row k b (xs.take n ++ ys))),(i,none)],[id]⟩ else none
     | none=>none)
   | _,_,_=>none
 | some (.one (.d .nil)),some v=>match aR T t,aR T t2 with
   | some (_,k,b,_),some _=>(match eI st k v with
     | some ys=>bif Nat.ble ys.length 1000000000 && Nat.ble (ys.length * b) 100000000000 then some ⟨.one (.own id ys.length),[(id,some (.row k b ys))],[id,id + 1]⟩ else none
     | none=>none)
   | _,_=>none
 | _,_=>none
def cj(T : Tab)(st : St)(id : Nat) : Op→Option Ef
 | .pick x y z=>match ev st x with
   | some (.one (.d (.bool b)))=>(match ev st (if b then y else z) with | some v=>some ⟨v,[],[]⟩ | none=>none)
   | _=>none
 | .indexAddr t x y=>match oo T st.sto t (ev st y) (ev st x) with | some v=>some ⟨v,[],[]⟩ | none=>none
 | .index t x y=>match qQ T t (ev st y) (ev st x) with | some v=>some ⟨v,[],[]⟩ | none=>none
 | .load t x=>match l0 T st.sto t (ev st x) with | some v=>some ⟨v,[],[]⟩ | none=>none
 | .slice t x lo hi none=>match fH T st.sto t (fG st lo) (fG st hi) (ev st x) with | some v=>some ⟨v,[],[]⟩ | none=>none
 | .call { callee:=.builtin .append,args:=⟨[x,y]⟩,argTypes:=⟨[t,t2]⟩ }=>sa T st id t t2 (ev st x) (ev st y)
 | .makeFunc (.func f) ⟨[]⟩ caps=>match evL st caps.toList with
   | some avs=>(match jP avs with | some ds=>some ⟨.one (.d (.fn f ds)),[],[]⟩ | none=>none)
   | none=>none
 | _=>none
def gq : Option Nat→Bool
 | some _=>true
 | none=>false
def cF(T : Tab)(st : St)(o : Oper)(id : Nat) : Option Ef :=
 match bQ T st o.op with
 | some v=>some ⟨v,[],[]⟩
 | none=>match cj T st id o.op with
   | some e=>some e
   | none=>bif gq o.dst then (match lh T st id o.op with | some (v,ob)=>some ⟨v,[(id,some ob)],[id]⟩ | none=>none)
     else match o.op with
      | .store t x y=>match l5 T st.sto t (ev st x) (ev st y) with | some (i,ob)=>some ⟨.any,[(i,some ob)],[]⟩ | none=>none
      | _=>none
def Ef.tr(e : Ef)(ri : List Nat) : Tr:=⟨e.v,e.wr,ri,e.new⟩
def nt(st : St)(l : List Nat) : Prop:=∀ i,i∈l→look st.sto i = none∧bn i st.fr = false∧aM i st.sto = false
theorem js{st : St}{o : Option Operand}{d l : Nat}(h : fG st o d = some l) : bnd st o d l:=by
 unfold fG at h
 split at h
 ·simp at h; exact h.symm
 ·rename_i x
  split at h <;> (try (simp at h; done))
  rename_i k z hz
  cases hb : decide (0≤z) <;> simp [hb] at h
  simp at hb
  exact ⟨k,z,hz,by omega⟩
theorem kP{P : Program}{ops : Array Oper}{rest : List Oper}{fr : List (Nat×AV)}{sto : Sto}{id : Nat}{o : AObj}{K : St→Prop}(h : ac P c ops rest ⟨fr,bH id o sto⟩ K) : ac P c ops rest ⟨fr,(id,o)::sto⟩ K :=
 dU (nB fun _=>ci) h
def jI(P : Program)(c : Ctx)(o : Oper)(st : St)(e : Ef) : Prop :=
 ∀ (ops : Array Oper) (rest : List Oper) (K : St→Prop),ac P c ops rest ⟨bj o.dst e.v st.fr,cC e.wr st.sto⟩ K→ac P c ops ({ o with guard:=none }::rest) st K
theorem HC(hT : aU P T){o : Oper}{st : St}{t : TypeId}{x y : Operand}{v : AV}(ho : o.op = .indexAddr t x y)(hd : aP c.n o.dst = true)(h : oo T st.sto t (ev st y) (ev st x) = some v) : jI P c o st ⟨v,[],[]⟩:=by
 intro ops rest K hk
 unfold oo at h
 split at h
 ·rename_i ik n k b xs hy hx
  split at h <;> (try (simp at h; done))
  rename_i e k' b' z ht
  cases hb : Nat.beq k k' && decide (0≤n) <;> simp only [hb,cond_true,cond_false,reduceCtorEq] at h
  simp only [Bool.and_eq_true,decide_eq_true_eq] at hb
  split at h <;> simp at h
  rename_i el hel
  subst h
  exact E0 hT (o:={ o with guard:=none }) ho rfl hd ht hx hb.1 hy hb.2 (by rw [← fO]; exact hel) hk
 ·rename_i ik n id m hy hx
  split at h <;> (try (simp at h; done))
  rename_i e k' b' z k b xs ht hl
  cases hb : Nat.beq k k' && decide (0≤n) && decide (n < m) <;> simp only [hb,cond_true,cond_false,reduceCtorEq,Option.some.injEq] at h
  subst h
  simp only [Bool.and_eq_true,decide_eq_true_eq] at hb
  exact zq hT (o:={ o with guard:=none }) ho rfl hd ht hx hl hb.1.1 hy hb.1.2 hb.2 hk
 ·rename_i ik n id lo m hy hx
  split at h <;> (try (simp at h; done))
  rename_i e k' b' z k b xs ht hl
  cases hb : Nat.beq k k' && decide (0≤n) && decide (n < m) <;> simp only [hb,cond_true,cond_false,reduceCtorEq,Option.some.injEq] at h
  subst h
  simp only [Bool.and_eq_true,decide_eq_true_eq] at hb
  exact zt hT (o:={ o with guard:=none }) ho rfl hd ht hx hl hb.1.1 hy hb.1.2 hb.2 hk
 ·rename_i ik n v0 _ _ _ hy hx
  split at h <;> (try (simp at h; done))
  rename_i m s ht
  cases hb : decide (0≤n) && decide (n < m) <;> simp only [hb,cond_true,cond_false,reduceCtorEq] at h
  simp only [Bool.and_eq_true,decide_eq_true_eq] at hb
  exact zu hT (o:={ o with guard:=none }) ho rfl hd ht hx hy hb.1 hb.2 h hk
 ·simp at h
theorem BH(hT : aU P T){o : Oper}{st : St}{t : TypeId}{x y : Operand}{v : AV}(ho : o.op = .index t x y)(hd : aP c.n o.dst = true)(h : qQ T t (ev st y) (ev st x) = some v) : jI P c o st ⟨v,[],[]⟩:=by
 intro ops rest K hk
 unfold qQ at h
 split at h <;> (try (simp at h; done))
 rename_i ik n s hy hx
 cases hb : fP T t && decide (0≤n) <;> simp only [hb,cond_true,cond_false,reduceCtorEq] at h
 simp only [Bool.and_eq_true,decide_eq_true_eq] at hb
 split at h <;> simp at h
 rename_i b hel
 subst h
 exact zw hT (o:={ o with guard:=none }) ho rfl hd hb.1 hx hy hb.2 (by rw [← fO]; exact hel) hk
theorem DK(hT : aU P T){o : Oper}{st : St}{t : TypeId}{x : Operand}{v : AV}(ho : o.op = .load t x)(hd : aP c.n o.dst = true)(h : l0 T st.sto t (ev st x) = some v) : jI P c o st ⟨v,[],[]⟩:=by
 intro ops rest K hk
 unfold l0 at h
 split at h <;> (try (simp at h; done))
 rename_i id i off hx
 split at h <;> (try (simp at h; done))
 rename_i g s k b xs ht hl
 split at h <;> (try (simp at h; done))
 rename_i el hel
 exact Aa hT (o:={ o with guard:=none }) ho rfl hd ht hx hl (by rw [← fO]; exact hel) h hk
theorem DM(hT : aU P T){o : Oper}{st : St}{t : TypeId}{x y : Operand}{i : Nat}{ob : AObj}(ho : o.op = .store t x y)(hd : o.dst = none)(h : l5 T st.sto t (ev st x) (ev st y) = some (i,ob)) : jI P c o st ⟨.any,[(i,some ob)],[]⟩:=by
 intro ops rest K hk
 rw [hd] at hk
 unfold l5 at h
 split at h <;> (try (simp at h; done))
 ·rename_i id off v hx hy
  split at h <;> (try (simp at h; done))
  rename_i g s cells cs ht hl hc
  cases hb : Nat.beq cs.length s <;> simp only [hb,cond_true,cond_false,reduceCtorEq] at h
  split at h <;> simp at h
  rename_i cells' hsp
  obtain ⟨rfl,rfl⟩:=h
  exact zU hT (o:={ o with guard:=none }) ho rfl hd ht hx hl hy hc hb hsp hk
 ·rename_i id j off v hx hy
  split at h <;> (try (simp at h; done))
  rename_i g s k b xs cs ht hl hc
  cases hb : Nat.beq cs.length s <;> simp only [hb,cond_true,cond_false,reduceCtorEq] at h
  split at h <;> (try (simp at h; done))
  rename_i ds el hds hel
  split at h <;> simp at h
  rename_i el' hsp
  obtain ⟨rfl,rfl⟩:=h
  exact xY hT (o:={ o with guard:=none }) ho rfl hd ht hx hl (by rw [← fO]; exact hel) hy hc hb hds hsp hk
theorem DL(hT : aU P T){o : Oper}{st : St}{t : TypeId}{x : Operand}{lo hi : Option Operand}{v : AV}(ho : o.op = .slice t x lo hi none)(hd : aP c.n o.dst = true)(h : fH T st.sto t (fG st lo) (fG st hi) (ev st x) = some v) : jI P c o st ⟨v,[],[]⟩:=by
 intro ops rest K hk
 unfold fH at h
 split at h
 ·rename_i k b xs hx
  split at h <;> (try (simp at h; done))
  rename_i e k' b' z l u ht hl hu
  cases hb : Nat.beq k k' && (Nat.ble l u && Nat.ble u xs.length) <;> simp only [hb,cond_true,cond_false,reduceCtorEq,Option.some.injEq] at h
  subst h
  simp only [Bool.and_eq_true,Nat.ble_eq] at hb
  exact Ac hT (o:={ o with guard:=none }) ho rfl hd ht hx hb.1 (js hl) (js hu) hb.2.1 hb.2.2 hk
 ·rename_i s hx
  split at h <;> (try (simp at h; done))
  rename_i l u hl hu
  cases hb : fP T t && (Nat.ble l u && Nat.ble u s.length) <;> simp only [hb,cond_true,cond_false,reduceCtorEq,Option.some.injEq] at h
  subst h
  simp only [Bool.and_eq_true,Nat.ble_eq] at hb
  exact ve hT (o:={ o with guard:=none }) ho rfl hd hb.1 hx (js hl) (js hu) hb.2.1 hb.2.2 hk
 ·rename_i id n hx
  split at h <;> (try (simp at h; done))
  rename_i e k' b' z k b xs l u ht hrow hl hu
  cases hb : Nat.beq k k' && (Nat.ble l u && Nat.ble u xs.length) <;> simp only [hb,cond_true,cond_false,reduceCtorEq] at h
  simp only [Bool.and_eq_true,Nat.ble_eq] at hb
  cases hb2 : Nat.beq l 0 && (Nat.ble xs.length n || Nat.ble u n) <;> simp only [hb2,cond_true,cond_false,Option.some.injEq] at h
  ·subst h
   exact vh hT (o:={ o with guard:=none }) ho rfl hd ht hx hrow hb.1 (js hl) (js hu) hb.2.1 hb.2.2 hk
  ·subst h
   simp only [Bool.and_eq_true,Bool.or_eq_true,Nat.ble_eq] at hb2
   obtain rfl:=Nat.eq_of_beq_eq_true hb2.1
   exact vi hT (o:={ o with guard:=none }) ho rfl hd ht hx hrow hb.1 (js hl) (js hu) hb.2.2 hb2.2 hk
 ·simp at h
theorem HD(hT : aU P T){o : Oper}{st : St}{id : Nat}{t t2 : TypeId}{x y : Operand}{e : Ef}(ho : o.op = .call { callee:=.builtin .append,args:=⟨[x,y]⟩,argTypes:=⟨[t,t2]⟩ })(hd : aP c.n o.dst = true)
  (h : sa T st id t t2 (ev st x) (ev st y) = some e) (hid : Nat.blt (id + 1) 1000000 = true) (hf : nt st e.new) : jI P c o st e:=by
 intro ops rest K hk
 unfold sa at h
 split at h
 ·rename_i i n v hx hy
  split at h <;> (try (simp at h; done))
  rename_i e1 k b z q k' b' xs ht ht2 hl
  obtain ⟨q1,q2,q3⟩:=q
  split at h <;> (try (simp at h; done))
  rename_i ys hs
  cases hb : Nat.beq k k' && Nat.beq b b' && (Nat.ble (n + ys.length) 1000000000 && Nat.ble ((n + ys.length) * b) 100000000000) <;> simp only [hb,cond_true,cond_false,reduceCtorEq,Option.some.injEq] at h
  subst h
  obtain ⟨f1,f2,f3⟩:=hf id (by simp)
  simp only [Bool.and_eq_true,Nat.ble_eq,Nat.blt_eq] at hb hid
  refine wN hT (o:={ o with guard:=none }) (id':=id) ho rfl hd ht ht2 (by simp only [Nat.blt_eq]; omega) hx hl (by simp only [Bool.and_eq_true]; exact hb.1) hy hs rfl (by omega) (by omega) f2 f3 f1 ?_
  exact kP hk
 ·rename_i v hx hy
  split at h <;> (try (simp at h; done))
  rename_i e1 k b z q ht ht2
  obtain ⟨q1,q2,q3⟩:=q
  split at h <;> (try (simp at h; done))
  rename_i ys hs
  cases hb : Nat.ble ys.length 1000000000 && Nat.ble (ys.length * b) 100000000000 <;> simp only [hb,cond_true,cond_false,reduceCtorEq,Option.some.injEq] at h
  subst h
  simp only [Bool.and_eq_true,Nat.ble_eq] at hb
  refine tP hT (o:={ o with guard:=none }) (id:=id) ho rfl hd ht ht2 hid hx hy hs (by omega) (by omega) (fun i hi=>hf i (by simp; exact hi)) ?_
  exact kP hk
 ·simp at h
end Go.Abs
namespace Go.Abs
open Go
variable {P : Program} {c : Ctx} {T : Tab} {σ : Sig} {φ : Pl} {w : World}
theorem HB(hT : aU P T){o : Oper}{st : St}{id d : Nat}{v : AV}{ob : AObj}(hdst : o.dst = some d)(hd : aP c.n o.dst = true)(h : lh T st id o.op = some (v,ob))(hid : Nat.blt (id + 1) 1000000 = true)(hf : nt st [id]) :
  jI P c o st ⟨v,[(id,some ob)],[id]⟩:=by
 intro ops rest K hk
 obtain ⟨f1,f2,f3⟩:=hf id (by simp)
 rw [hdst] at hk hd
 replace hk:=kP hk
 simp only [aP,Nat.blt_eq] at hd hid
 have hd' : (Nat.blt d c.n && Nat.blt id 1000000) = true:=by simp only [Bool.and_eq_true,Nat.blt_eq]; omega
 unfold lh at h
 split at h
 ·rename_i t ho
  split at h <;> simp at h
  rename_i td ht
  obtain ⟨rfl,rfl⟩:=h
  exact rj hT (o:={ o with guard:=none }) ho rfl hdst hd' ht f2 f3 hk
 ·rename_i t x ho
  split at h <;> (try (simp at h; done))
  rename_i u hx
  split at h <;> (try (simp at h; done))
  rename_i cs hc
  cases hb : b6 id cs <;> simp only [hb,cond_true,cond_false,reduceCtorEq,Option.some.injEq,Prod.mk.injEq] at h
  obtain ⟨rfl,rfl⟩:=h
  exact vD (o:={ o with guard:=none }) ho rfl hdst hd' hx hc f2 f3 hb hk
 ·rename_i t n parts ho
  split at h <;> (try (simp at h; done))
  rename_i e k b z ht
  split at h <;> (try (simp at h; done))
  rename_i xs hp
  cases hb : Nat.beq parts.toList.length n && (Nat.ble (n * k) 1000000 && Nat.ble (n * b) 1000000 && Nat.ble n 1000000) <;> simp only [hb,cond_true,cond_false,reduceCtorEq,Option.some.injEq,Prod.mk.injEq] at h
  obtain ⟨rfl,rfl⟩:=h
  rw [Bool.and_eq_true] at hb
  exact r9 hT (o:={ o with guard:=none }) ho rfl hdst hd' ht hp hb.1 hb.2 f2 f3 hk
 ·rename_i t x y ho
  split at h <;> (try (simp at h; done))
  rename_i e k b z n m ht hx hy
  cases hb : decide (0≤n) && decide (n = m) && (Nat.ble (n.toNat * b) 1000000 && Nat.ble n.toNat 1000000) <;> simp only [hb,cond_true,cond_false,reduceCtorEq,Option.some.injEq,Prod.mk.injEq] at h
  obtain ⟨rfl,rfl⟩:=h
  simp only [Bool.and_eq_true,decide_eq_true_eq,Nat.ble_eq] at hb
  obtain ⟨⟨h0,rfl⟩,h1,h2⟩:=hb
  have hn : ((n.toNat : Nat) : Int) = n:=by omega
  exact te hT (o:={ o with guard:=none }) (n:=n.toNat) ho rfl hdst hd' ht (by rw [hn]; exact hx) (by rw [hn]; exact hy) (by omega) (by omega) f2 f3 hk
 ·simp at h
theorem FB(hT : aU P T){o : Oper}{st : St}{id : Nat}{e : Ef}(hd : aP c.n o.dst = true)(h : cF T st o id = some e)(hid : Nat.blt (id + 1) 1000000 = true)(hf : nt st e.new) : jI P c o st e:=by
 unfold cF at h
 split at h
 ·rename_i v hv
  simp at h; subst h
  intro ops rest K hk
  exact vL hT (o:={ o with guard:=none }) rfl hd hv hk
 split at h
 ·rename_i e' he'
  simp at h; subst h
  unfold cj at he'
  split at he'
  ·rename_i x y z ho
   split at he' <;> (try (simp at he'; done))
   rename_i b hb
   split at he' <;> simp at he'
   rename_i v hv
   subst he'
   intro ops rest K hk
   exact BG (o:={ o with guard:=none }) ho rfl hd hb hv hk
  ·rename_i t x y ho
   split at he' <;> simp at he'
   rename_i v hv
   subst he'
   exact HC hT ho hd hv
  ·rename_i t x y ho
   split at he' <;> simp at he'
   rename_i v hv
   subst he'
   exact BH hT ho hd hv
  ·rename_i t x ho
   split at he' <;> simp at he'
   rename_i v hv
   subst he'
   exact DK hT ho hd hv
  ·rename_i t x lo hi ho
   split at he' <;> simp at he'
   rename_i v hv
   subst he'
   exact DL hT ho hd hv
  ·rename_i x y t t2 ho
   exact HD hT ho hd he' hid hf
  ·rename_i f caps ho
   split at he' <;> (try (simp at he'; done))
   rename_i avs ha
   split at he' <;> simp at he'
   rename_i ds hds
   subst he'
   intro ops rest K hk
   exact ur (o:={ o with guard:=none }) ho rfl hd ha hds hk
  ·simp at he'
 cases hD : gq o.dst with
 | true =>
   simp only [hD,cond_true] at h
   split at h <;> simp at h
   rename_i v ob hn
   subst h
   cases hdst : o.dst with
   | none=>simp [hdst,gq] at hD
   | some d=>exact HB hT hdst hd hn hid hf
 | false =>
   simp only [hD,cond_false] at h
   have hdst : o.dst = none:=by cases h : o.dst <;> simp_all [gq]
   split at h <;> (try (simp at h; done))
   rename_i t x y ho
   split at h <;> simp at h
   rename_i i ob hs
   subst h
   exact DM hT ho hdst hs
section
variable {s s2 : Sto}
theorem DN{t : TypeId}{vy vx : Option AV}(h : ∀ v,vx = some v→∀ i∈bK v,look s2 i = look s i) : oo T s2 t vy vx = oo T s t vy vx:=by
 unfold oo
 split
 ·rfl
 ·rw [h _ rfl _ (by simp [bK,eb])]
 ·rw [h _ rfl _ (by simp [bK,eb])]
 ·cases oq T t with
  | none=>rfl
  | some p=>simp only; rw [vM (h _ rfl)]
 ·rfl
theorem zO{t : TypeId}{vx : Option AV}(h : ∀ v,vx = some v→∀ i∈bK v,look s2 i = look s i) : l0 T s2 t vx = l0 T s t vx:=by
 unfold l0
 split
 ·rw [h _ rfl _ (by simp [bK,eb])]
 ·rfl
theorem zP{t : TypeId}{vx vy : Option AV}(h : ∀ v,vx = some v→∀ i∈bK v,look s2 i = look s i) : l5 T s2 t vx vy = l5 T s t vx vy:=by
 unfold l5
 split
 ·rw [h _ rfl _ (by simp [bK,eb])]
 ·rw [h _ rfl _ (by simp [bK,eb])]
 ·rfl
theorem zQ{t : TypeId}{lo hi : Nat→Option Nat}{vx : Option AV}(h : ∀ v,vx = some v→∀ i∈bK v,look s2 i = look s i) : fH T s2 t lo hi vx = fH T s t lo hi vx:=by
 unfold fH
 split
 ·rfl
 ·rfl
 ·rw [h _ rfl _ (by simp [bK,eb])]
 ·rfl
end
theorem ot{st st2 : St}{k : Nat}{v : AV}(h : ∀ i∈bK v,look st2.sto i = look st.sto i) : eI st2 k v = eI st k v:=by
 unfold eI
 split
 ·rfl
 ·rfl
 ·rw [h _ (by simp [bK,eb])]
 ·rw [h _ (by simp [bK,eb])]
 ·rfl
theorem DO{st st2 : St}{id : Nat}{t t2 : TypeId}{vx vy : Option AV}(h : ∀ v,vx = some v→∀ i∈bK v,look st2.sto i = look st.sto i)(h' : ∀ v,vy = some v→∀ i∈bK v,look st2.sto i = look st.sto i) :
  sa T st2 id t t2 vx vy = sa T st id t t2 vx vy:=by
 unfold sa
 split
 ·rw [h _ rfl _ (by simp [bK,eb])]
  simp only [ot (h' _ rfl)]
 ·simp only [ot (h' _ rfl)]
 ·rfl
theorem rl{st st2 : St}{k : Nat} : ∀ {parts : List (Nat×Operand)} {i : Nat},(∀ p∈parts,ev st2 p.2 = ev st p.2)→dA st2 k i parts = dA st k i parts
 | [],_,_=>rfl
 | (j,x)::r,i,h=>by
   have h1:=h (j,x) List.mem_cons_self
   have ih : ∀ {i},dA st2 k i r = dA st k i r:=fun {i}=>rl fun p hp=>h p (List.mem_cons_of_mem _ hp)
   simp only at h1
   simp only [dA,h1,ih]
theorem i4{st st2 : St} : ∀ {l : List Operand},(∀ x∈l,ev st2 x = ev st x)→evL st2 l = evL st l
 | [],_=>rfl
 | x::r,h=>by
   simp only [evL,h x List.mem_cons_self,i4 (l:=r) fun y hy=>h y (List.mem_cons_of_mem _ hy)]
theorem vN{st st2 : St}{o : Option Operand}(h : ∀ x,o = some x→ev st2 x = ev st x) : fG st2 o = fG st o:=by
 funext d
 unfold fG
 cases o with
 | none=>rfl
 | some x=>simp only [h x rfl]
theorem zR{st st2 : St}{op : Op}{id : Nat}(hs : ∀ t,t∈gk op→look st2.fr t = look st.fr t)(hi : ∀ i,i∈bZ st op.operands.toList→look st2.sto i = look st.sto i) : cj T st2 id op = cj T st id op:=by
 have he : ∀ {x : Operand},x∈op.operands.toList→ev st2 x = ev st x:=fun hx=>eh hs hx
 have hid : ∀ {x : Operand},x∈op.operands.toList→∀ v,ev st x = some v→∀ i,i∈bK v→look st2.sto i = look st.sto i:=fun hx v hv i h=>hi i (jf hv h hx)
 unfold cj
 split
 ·rename_i x y z
  rw [he (x:=x) (by simp [Op.operands])]
  split
  ·rename_i b _
   rw [he (by cases b <;> simp [Op.operands])]
  ·rfl
 ·rename_i t x y
  rw [he (x:=x) (by simp [Op.operands]),he (x:=y) (by simp [Op.operands]),DN (hid (x:=x) (by simp [Op.operands]))]
 ·rename_i t x y
  rw [he (x:=x) (by simp [Op.operands]),he (x:=y) (by simp [Op.operands])]
 ·rename_i t x
  rw [he (x:=x) (by simp [Op.operands]),zO (hid (x:=x) (by simp [Op.operands]))]
 ·rename_i t x lo hi'
  have h1 : fG st2 lo = fG st lo:=vN fun y hy=>he (by subst hy; simp [Op.operands])
  have h2 : fG st2 hi' = fG st hi':=vN fun y hy=>he (by subst hy; cases lo <;> simp [Op.operands])
  rw [he (x:=x) (by simp [Op.operands]),h1,h2,zQ (hid (x:=x) (by simp [Op.operands]))]
 ·rename_i x y t t2
  rw [he (x:=x) (by simp [Op.operands,Call.operands]),he (x:=y) (by simp [Op.operands,Call.operands]),DO (hid (x:=x) (by simp [Op.operands,Call.operands])) (hid (x:=y) (by simp [Op.operands,Call.operands]))]
 ·rename_i f caps
  have : evL st2 caps.toList = evL st caps.toList:=i4 fun x hx=>he (by
   simp [Op.operands]
   simpa using hx)
  rw [this]
 ·rfl
theorem DP{st st2 : St}{op : Op}{id : Nat}(hs : ∀ t,t∈gk op→look st2.fr t = look st.fr t) : lh T st2 id op = lh T st id op:=by
 have he : ∀ {x : Operand},x∈op.operands.toList→ev st2 x = ev st x:=fun hx=>eh hs hx
 unfold lh
 split
 ·rfl
 ·rename_i t x
  rw [he (x:=x) (by simp [Op.operands])]
 ·rename_i t n parts
  have : ∀ {k},dA st2 k 0 parts.toList = dA st k 0 parts.toList:=fun {k}=>rl fun p hp=>he (by
   simp only [Op.operands,List.mem_map]
   simp
   exact ⟨p.1,by simpa using hp⟩)
  simp only [this]
 ·rename_i t x y
  rw [he (x:=x) (by simp [Op.operands]),he (x:=y) (by simp [Op.operands])]
 ·rfl
theorem BI{st st2 : St}{o : Oper}{id : Nat}(hs : ∀ t,t∈gk o.op→look st2.fr t = look st.fr t)(hi : ∀ i,i∈bZ st o.op.operands.toList→look st2.sto i = look st.sto i) : cF T st2 o id = cF T st o id:=by
 unfold cF
 rw [DQ hs hi,zR hs hi,DP hs]
 split
 ·rfl
 split
 ·rfl
 congr 1
 split
 ·rename_i t x y ho
  have he : ∀ {x : Operand},x∈o.op.operands.toList→ev st2 x = ev st x:=fun hx=>eh hs hx
  have hid : ∀ {x : Operand},x∈o.op.operands.toList→∀ v,ev st x = some v→∀ i,i∈bK v→look st2.sto i = look st.sto i:=fun hx v hv i h=>hi i (jf hv h hx)
  rw [ho] at he hid
  rw [he (x:=x) (by simp [Op.operands]),he (x:=y) (by simp [Op.operands]),zP (hid (x:=x) (by simp [Op.operands]))]
 ·rfl
end Go.Abs
namespace Go.Abs
open Go
variable {P : Program} {c : Ctx} {T : Tab} {σ : Sig} {φ : Pl} {w : World}
def sealL(st : St) : List Nat→Option St
 | []=>some st
 | id::r=>match look st.sto id with
   | some o=>bif ka o then sealL ⟨gQ id o st.fr,bq id o st.sto⟩ r else none
   | none=>none
def dF : List Nat→Sto→Sto
 | [],s=>s
 | i::l,s=>del i (dF l s)
theorem jo{dl : List Nat}{s : Sto}{i : Nat}{o : AObj} : look (dF dl s) i = some o→look s i = some o∧i ∉ dl:=by
 induction dl with
 | nil=>intro h; exact ⟨h,by simp⟩
 | cons j r ih =>
   intro h
   obtain ⟨h1,h2⟩:=df h
   obtain ⟨h3,h4⟩:=ih h2
   exact ⟨h3,by simp [h1,h4]⟩
theorem vW{dl : List Nat}{s : Sto}{i : Nat}(hi : i ∉ dl) : look (dF dl s) i = look s i:=by
 induction dl with
 | nil=>rfl
 | cons j r ih =>
   simp only [List.mem_cons,not_or] at hi
   simp only [dF]
   rw [dO hi.1,ih hi.2]
theorem D6{dl : List Nat}{s : Sto}{i : Nat}(hi : i∈dl) : look (dF dl s) i = none:=by
 cases h : look (dF dl s) i with
 | none=>rfl
 | some o=>exact absurd hi (jo h).2
theorem Rel.sealL : ∀ {dl : List Nat} {st ss : St} {a : Act} {σ : Sig},sealL st dl = some ss→Rel c st a w σ φ →
  ∃ σs,σ.le σs∧Rel c ss a w σs φ∧∀ b,σs b = σ b∨∃ id o cc,id∈dl∧look st.sto id = some o∧φ id = some (b,cc)
 | [],st,ss,a,σ,h,hr=>by
   simp only [Go.Abs.sealL,Option.some.injEq] at h; subst h
   exact ⟨σ,Sig.le_refl _,hr,fun _=>.inl rfl⟩
 | id::r,st,ss,a,σ,h,hr=>by
   simp only [Go.Abs.sealL] at h
   split at h <;> (try (simp at h; done))
   rename_i o hl
   cases hc : ka o <;> simp only [hc,cond_true,cond_false,reduceCtorEq] at h
   obtain ⟨σ',hS⟩:=hr.inv.sealSig hl hc
   have hle:=hS.le
   have hr' : Rel c ⟨gQ id o st.fr,bq id o st.sto⟩ a w σ' φ:=by
    refine ⟨Sig.le_trans hr.le hle,fun b hb=>?_,hr.inv.sealing hl hS,fun i e p hi hp=>?_,fun s v hv=>?_,hr.defers,hr.size,hr.fra,hr.pin⟩
    ·rcases hS with ⟨_,rfl⟩ | ⟨B,cap,arr,t,hp,hh,hs,rfl⟩
     ·exact hr.fresh b hb
     ·by_cases e : b = B
      ·subst e
       exact .inr (hr.mine _ _ _ hl hp)
      ·simp [fI,e] at hb; exact hr.fresh b hb
    ·obtain ⟨_,e0,h0,_⟩:=dz hi
     exact hr.mine _ _ _ h0 hp
    ·obtain ⟨v0,h1,rfl⟩:=nb hv
     obtain ⟨u,h2,h3⟩:=hr.slot s v0 h1
     exact ⟨u,h2,vK hr.inv hl hS h3⟩
   obtain ⟨σs,h1,h2,h3⟩:=Rel.sealL h hr'
   refine ⟨σs,Sig.le_trans hle h1,h2,fun b=>?_⟩
   rcases h3 b with h4 | ⟨i,o',cc,h5,h6,h7⟩
   ·rcases hS with ⟨_,rfl⟩ | ⟨B,cap,arr,t,hp,hh,hs,rfl⟩
    ·exact .inl h4
    ·by_cases e : b = B
     ·subst e; exact .inr ⟨id,o,cap,by simp,hl,hp⟩
     ·exact .inl (h4.trans (by simp [fI,e]))
   ·obtain ⟨_,e0,h8,_⟩:=dz h6
    exact .inr ⟨i,e0,cc,by simp [h5],h8,h7⟩
theorem Rel.given{dl : List Nat}{st ss : St}{a : Act}(h : Go.Abs.sealL st dl = some ss)(hr : Rel c st a w σ φ) : ∃ σs,Rel c ss a w σs φ∧Rel c ⟨st.fr,dF dl st.sto⟩ a w σs φ:=by
 obtain ⟨σs,hle,hrs,hb⟩:=Rel.sealL h hr
 have hE : Ext (fun _=>False) φ φ st.sto (dF dl st.sto):=by
  intro i _
  by_cases hi : i∈dl
  ·exact .inl (D6 hi)
  ·cases hl : look st.sto i with
   | none=>exact .inl (by rw [vW hi]; exact hl)
   | some e=>exact .inr ⟨e,rfl,rfl,e,by rw [vW hi]; exact hl,compat.refl _⟩
 refine ⟨σs,hrs,hrs.le,hrs.fresh,⟨hrs.inv.sig,fun i e hi=>?_,fun i i' e e' p p' hi hi'=>?_⟩,fun i e p hi hp=>?_,fun s v hv=>?_,hr.defers,hr.size,hr.fra,hr.pin⟩
 ·obtain ⟨h1,h2⟩:=jo hi
  have ho:=hr.inv.obj _ _ h1
  refine ho.ext (X:=fun _=>False) hle hE (fun j hj=>hj.elim) rfl fun B cc hB=>⟨rfl,?_⟩
  rcases hb B with h3 | ⟨j,o,cc',h4,h5,h6⟩
  ·exact h3
  ·have:=hr.inv.inj _ _ _ _ (B,cc) (B,cc') h1 h5 (fun e=>h2 (e ▸ h4)) hB h6
   exact absurd rfl this
 ·exact hr.inv.inj _ _ _ _ _ _ (jo hi).1 (jo hi').1
 ·exact hr.mine _ _ _ (jo hi).1 hp
 ·obtain ⟨u,hu,hru⟩:=hr.slot s v hv
  exact ⟨u,hu,hru.ext hle hE fun j hj=>hj.elim⟩
theorem kD{st : St}{r : Nat→Nat} : ∀ {l : Sto},CompatL st r [] l
 | []=>trivial
 | _::l=>⟨fun i e h=>by simp [look] at h,kD⟩
theorem vX : ∀ {ds : List D},cq (ds.map fun x=>AV.one (.d x)) = true
 | []=>rfl
 | _::l=>by simp only [List.map_cons,cq,avD,vX (ds:=l),Bool.and_self]
theorem yg : ∀ {a b : List AV},cq a = true→cq b = true→cq (a ++ b) = true
 | [],_,_,h=>h
 | x::l,b,h,h'=>by
   simp only [cq,Bool.and_eq_true] at h
   simp only [List.cons_append,cq,h.1,yg h.2 h',Bool.and_self]
theorem kC{ops : Array Oper}{o : Oper}{rest : List Oper}{st ss : St}{K : St→Prop}{fop : Operand}{args : Array Operand}{ats : Array TypeId}{f : FuncId}{caps : List D}{avs : List AV}{rav : AV}{rsto : Sto}(k : Nat)(dl : List Nat)
  (ho : o.op = .call { callee:=.value fop,args:=args,argTypes:=ats }) (hg : o.guard = none) (hd : aP c.n o.dst = true) (hss : sealL st dl = some ss) (hf : ev ss fop = some (.one (.d (.fn f caps))))
  (ha : evL ss args.toList = some avs) (hD : cq avs = true) (hC : CallA P f (avs ++ caps.map fun x=>.one (.d x)) [] rav rsto)
  (hk : (cw [] rsto && Nat.ble (k + 16) 1000000 && cX rsto rav && bd rsto rsto) = true) (hfresh : jL k ⟨st.fr,dF dl st.sto⟩)
  (h : ac P c ops rest ⟨bj o.dst (dr (rn k []) rav) st.fr,dC (rn k []) (dF dl st.sto) rsto⟩ K) : ac P c ops (o::rest) st K:=by
 refine kF hg fun a w σ φ hr=>?_
 obtain ⟨σs,hs,hr1⟩:=hr.given hss
 have hfr:=aC hs hf
 replace hfr:=RepC.d_inv hfr
 generalize hfe : a.eval fop = fv at hfr
 simp only [Bool.and_eq_true] at hk
 cases hfr with
 | fn cvs hl hcs =>
   have hcaps : All2 (RepV σs φ (dF dl st.sto)) (caps.map fun x=>.one (.d x)) cvs:=by
    refine All2.of_get (by simp [hl]) fun j x v hx hv=>?_
    simp only [List.getElem?_map,Option.map_eq_some_iff] at hx
    obtain ⟨d,hd,rfl⟩:=hx
    exact RepC.d (hcs j d v hd hv)
   have hargs:=sf (σ':=σs) (φ':=φ) (sto':=dF dl st.sto) (Sig.le_refl _) hD (gm hs ha)
   refine ⟨f,_,_,oA ho hfe hC.fn,yh (o:=o) k [] hr1 hd hC (by rw [sh,mJ,D7 hD]; exact hargs.append hcaps) trivial kD ?_ hfresh,?_⟩
   ·simp only [fb,iC,fU,fB,bd,Bool.true_and,Bool.and_true,hk.1.1.1,hk.1.1.2,hk.1.2,hk.2,Au (yg hD vX)]
   rintro e w' ⟨v,σ',φ',rfl,hr'⟩
   exact ⟨v,_,σ',φ',rfl,hr',h⟩
def uk(r : Nat→Nat) : Sto→List (Nat×Option AObj)
 | []=>[]
 | (j,o)::l=>(r j,some (co r o))::uk r l
def n8 : List Nat→List (Nat×Option AObj)
 | []=>[]
 | i::l=>(i,none)::n8 l
theorem jY{s : Sto} : ∀ {dl : List Nat},cC (n8 dl) s = dF dl s
 | []=>rfl
 | i::l=>by simp only [n8,cC,dF,jY (dl:=l)]
theorem jX{r : Nat→Nat}{s : Sto}{d : List (Nat×Option AObj)} : ∀ {rs : Sto},cC (uk r rs ++ d) s = dC r (cC d s) rs
 | []=>rfl
 | (j,o)::l=>by simp only [uk,List.cons_append,cC,dC,jX (rs:=l)]
def rng(k : Nat) : Nat→List Nat
 | 0=>[]
 | n + 1=>(k + n)::rng k n
theorem rng_mem{k i : Nat} : ∀ {n : Nat},i∈rng k n↔k≤i∧i < k + n
 | 0=>by simp only [rng,List.not_mem_nil,false_iff]; omega
 | n + 1=>by simp only [rng,List.mem_cons,rng_mem (n:=n)]; omega
def lP(k : Nat)(dl ri : List Nat)(rav : AV)(rsto : Sto) : Tr:=⟨dr (rn k []) rav,uk (rn k []) rsto ++ n8 dl,ri,rng k 16⟩
theorem nc{i : Nat}{s : Sto}(h : aM i s = false) : ∀ {dl : List Nat},aM i (dF dl s) = false
 | []=>h
 | _::l=>ly (nc h (dl:=l))
theorem D8{o : Oper}{st : St}{fop : Operand}{args : Array Operand}{ats : Array TypeId}{f : FuncId}{caps : List D}{avs : List AV}{rav : AV}{rsto : Sto}(k : Nat)
  (ho : o.op = .call { callee:=.value fop,args:=args,argTypes:=ats }) (hd : aP c.n o.dst = true) (hf : ev st fop = some (.one (.d (.fn f caps))))
  (ha : evL st args.toList = some avs) (hD : cq avs = true) (hC : CallA P f (avs ++ caps.map fun x=>.one (.d x)) [] rav rsto)
  (hk : (cw [] rsto && Nat.ble (k + 16) 1000000 && cX rsto rav && bd rsto rsto) = true) : Loc P c o st (lP k [] [] rav rsto):=by
 intro st2 hs hri hnew ops rest K h
 have he : ∀ {x : Operand},x∈o.op.operands.toList→ev st2 x = ev st x:=fun hx=>eh hs hx
 rw [ho] at he
 have ha2 : evL st2 args.toList = some avs:=(i4 fun x hx=>he (by simp [Op.operands,Call.operands]; exact .inr (by simpa using hx))).trans ha
 refine kC (o:={ o with guard:=none }) k [] ho rfl hd rfl ((he (by simp [Op.operands,Call.operands])).trans hf) ha2 hD hC hk (fun i h1 h2=>?_) ?_
 ·exact hnew i (rng_mem.2 ⟨h1,h2⟩)
 ·simp only [lP,n8,List.append_nil] at h
  have:=jX (r:=rn k []) (s:=st2.sto) (d:=[]) (rs:=rsto)
  simp only [List.append_nil] at this
  rw [this] at h
  exact h
def dx(s : Sto) : List Nat→Option (List (Nat×AObj))
 | []=>some []
 | id::r=>match look s id with
   | some o=>bif ka o then (match dx (bq id o s) r with | some l=>some ((id,o)::l) | none=>none) else none
   | none=>none
def D9 : List (Nat×AObj)→AV→AV
 | [],v=>v
 | (id,o)::r,v=>D9 r (ta id o v)
def evS(os : List (Nat×AObj))(st : St)(x : Operand) : Option AV:=match ev st x with | some v=>some (D9 os v) | none=>none
def jZ(os : List (Nat×AObj))(st : St) : List Operand→Option (List AV)
 | []=>some []
 | x::r=>match evS os st x with
   | some v=>(match jZ os st r with | some l=>some (v::l) | none=>none)
   | none=>none
theorem nH{id : Nat}{o : AObj} : ∀ {fr : List (Nat×AV)} {s : Nat},look (gQ id o fr) s = match look fr s with | some v=>some (ta id o v) | none=>none
 | [],_=>rfl
 | (t,v)::l,s=>by
   simp only [gQ,look]
   cases Nat.beq t s with
   | true=>rfl
   | false=>simp only [cond_false]; exact nH
theorem ii : ∀ {dl : List Nat} {st : St} {os : List (Nat×AObj)},dx st.sto dl = some os→∃ ss,sealL st dl = some ss∧∀ x,ev ss x = evS os st x
 | [],st,os,h=>by
   simp only [dx,Option.some.injEq] at h; subst h
   refine ⟨st,rfl,fun x=>?_⟩
   unfold evS
   cases ev st x <;> rfl
 | id::r,st,os,h=>by
   simp only [dx] at h
   split at h <;> (try (simp at h; done))
   rename_i o hl
   cases hc : ka o <;> simp only [hc,cond_true,cond_false,reduceCtorEq] at h
   split at h <;> simp at h
   rename_i l hr
   subst h
   obtain ⟨ss,h1,h2⟩:=ii (st:=⟨gQ id o st.fr,bq id o st.sto⟩) hr
   refine ⟨ss,by simp only [sealL,hl,hc,cond_true]; exact h1,fun x=>?_⟩
   rw [h2]
   cases x with
   | tmp t =>
     simp only [evS,ev]
     rw [nH]
     cases look st.fr t <;> rfl
   | const v =>
     simp only [evS,ev]
     cases cst v <;> rfl
   | func f=>rfl
   | global g=>rfl
theorem lO{os : List (Nat×AObj)}{st ss : St}(h : ∀ x,ev ss x = evS os st x) : ∀ {l : List Operand},evL ss l = jZ os st l
 | []=>rfl
 | x::r=>by simp only [evL,jZ,h x,lO h (l:=r)] <;> rfl
theorem mK{id : Nat}{o : AObj}{s : Sto}{i : Nat}(hi : i≠id) : look (bq id o s) i = match look s i with | some e=>some (om id o e) | none=>none:=by
 cases hl : look s i with
 | none=>exact ll hl
 | some e=>exact gA hi hl
theorem lm{id : Nat}{o : AObj}{s : Sto} : look (bq id o s) id = none:=by
 cases hl : look (bq id o s) id with
 | none=>rfl
 | some e=>exact absurd rfl (dz hl).1
theorem jz : ∀ {dl : List Nat} {s s2 : Sto},(∀ i∈dl,look s2 i = look s i)→dx s2 dl = dx s dl
 | [],_,_,_=>rfl
 | id::r,s,s2,h=>by
   simp only [dx]
   rw [h id List.mem_cons_self]
   cases hl : look s id with
   | none=>rfl
   | some o =>
     simp only
     have : dx (bq id o s2) r = dx (bq id o s) r:=jz fun i hi=>by
      by_cases e : i = id
      ·subst e; rw [lm,lm]
      ·rw [mK e,mK e,h i (List.mem_cons_of_mem _ hi)]
     rw [this]
theorem mt{os : List (Nat×AObj)}{st st2 : St} : ∀ {l : List Operand},(∀ x∈l,ev st2 x = ev st x)→jZ os st2 l = jZ os st l
 | [],_=>rfl
 | x::r,h=>by
   simp only [jZ,evS,h x List.mem_cons_self,mt (l:=r) fun y hy=>h y (List.mem_cons_of_mem _ hy)]
theorem vA{o : Oper}{st : St}{fop : Operand}{args : Array Operand}{ats : Array TypeId}{f : FuncId}{caps : List D}{avs : List AV}{rav : AV}{rsto : Sto}{os : List (Nat×AObj)}(k : Nat)(dl : List Nat)
  (ho : o.op = .call { callee:=.value fop,args:=args,argTypes:=ats }) (hd : aP c.n o.dst = true) (hos : dx st.sto dl = some os) (hf : evS os st fop = some (.one (.d (.fn f caps))))
  (ha : jZ os st args.toList = some avs) (hD : cq avs = true) (hC : CallA P f (avs ++ caps.map fun x=>.one (.d x)) [] rav rsto)
  (hk : (cw [] rsto && Nat.ble (k + 16) 1000000 && cX rsto rav && bd rsto rsto) = true) : Loc P c o st (lP k dl dl rav rsto):=by
 intro st2 hs hri hnew ops rest K h
 have he : ∀ {x : Operand},x∈o.op.operands.toList→ev st2 x = ev st x:=fun hx=>eh hs hx
 rw [ho] at he
 have hos2 : dx st2.sto dl = some os:=(jz hri).trans hos
 obtain ⟨ss,h1,h2⟩:=ii hos2
 have ha2 : evL ss args.toList = some avs:=by
  rw [lO h2,mt (st:=st) fun x hx=>he (by simp [Op.operands,Call.operands]; exact .inr (by simpa using hx))]
  exact ha
 have hf2 : ev ss fop = some (.one (.d (.fn f caps))):=by
  rw [h2]
  unfold evS
  rw [he (x:=fop) (by simp [Op.operands,Call.operands])]
  exact hf
 refine kC (o:={ o with guard:=none }) k dl ho rfl hd h1 hf2 ha2 hD hC hk (fun i h3 h4=>?_) ?_
 ·obtain ⟨n1,n2,n3⟩:=hnew i (rng_mem.2 ⟨h3,h4⟩)
  refine ⟨?_,n2,nc n3⟩
  cases hl : look (dF dl st2.sto) i with
  | none=>rfl
  | some e=>rw [(jo hl).1] at n1; cases n1
 ·simp only [lP] at h
  rw [jX,jY] at h
  exact h
end Go.Abs
namespace Go.Abs
open Go
variable {P : Program} {c : Ctx} {T : Tab} {σ : Sig} {φ : Pl} {w : World}
inductive KK where
 | int (k : IntKind) | bool | str
def bw : KK→D→Prop
 | .int k,.int k' _=>k' = k
 | .bool,.bool _=>True
 | .str,.str _=>True
 | _,_=>False
def nE(F : TypeId→Option (List KK)) : Nat→List Field→Option (List KK)
 | _,[]=>some []
 | off,f::r=>match F f.type with
   | some ks => bif Nat.beq f.offset off && (f.name != "_") then (match nE F (off + ks.length) r with | some l => some (ks ++ l) | none => none) else none
   | none=>none
def eS(P : Program) : Nat→TypeId→Option (List KK)
 | 0,_=>none
 | d + 1,t=>match P.underlying t with
   | some .bool=>bif Nat.beq (P.cellsOf t) 1 then some [.bool] else none
   | some (.int q)=>bif Nat.beq (P.cellsOf t) 1 then some [.int q] else none
   | some .string=>bif Nat.beq (P.cellsOf t) 1 then some [.str] else none
   | some (.array n e)=>match eS P d e with
     | some ks=>bif Nat.beq (n * ks.length) (P.cellsOf t) then some (List.replicate n ks).flatten else none
     | none=>none
   | some (.struct fs)=>match nE (eS P d) 0 fs.toList with
     | some l=>bif Nat.beq l.length (P.cellsOf t) then some l else none
     | none=>none
   | _=>none
def jA : D→Lit
 | .int k n=>.int k n
 | .bool b=>.bool b
 | .str s=>.string s
 | _=>.nil
theorem jC : ∀ (d : Nat) {t : TypeId} {ks : List KK},eS P d t = some ks→ks.length = P.cellsOf t
 | 0,_,_,h=>by simp [eS] at h
 | d + 1,t,ks,h=>by
   have hone : ∀ {k : KK},(bif Nat.beq (P.cellsOf t) 1 then some [k] else none) = some ks→ks.length = P.cellsOf t:=by
    intro k h
    cases hb : Nat.beq (P.cellsOf t) 1 <;> simp only [hb,cond_true,cond_false,reduceCtorEq,Option.some.injEq] at h
    subst h
    rw [Nat.eq_of_beq_eq_true hb]; rfl
   simp only [eS] at h
   split at h
   ·exact hone h
   ·exact hone h
   ·exact hone h
   ·rename_i n e _
    split at h <;> (try (simp at h; done))
    rename_i k' hk
    cases hb : Nat.beq (n * k'.length) (P.cellsOf t) <;> simp only [hb,cond_true,cond_false,reduceCtorEq,Option.some.injEq] at h
    subst h
    rw [← Nat.eq_of_beq_eq_true hb,bU (k:=k'.length) (fun x hx=>by rw [List.eq_of_mem_replicate hx])]
    simp
   ·split at h <;> (try (simp at h; done))
    rename_i l hl
    cases hb : Nat.beq l.length (P.cellsOf t) <;> simp only [hb,cond_true,cond_false,reduceCtorEq,Option.some.injEq] at h
    subst h
    exact Nat.eq_of_beq_eq_true hb
   ·simp at h
theorem vR{α β : Type}{f : α→Option β}{g : α→β} : ∀ {l : List α},(∀ a∈l,f a = some (g a))→l.mapM f = some (l.map g)
 | [],_=>rfl
 | a::l,h=>by
   rw [List.mapM_cons,h a List.mem_cons_self,vR fun b hb=>h b (List.mem_cons_of_mem _ hb)]
   rfl
theorem rm{α : Type}{m : Nat} : ∀ {n : Nat} {l : List α},l.length = n * m→((List.range n).map fun i=>(l.drop (i * m)).take m).flatten = l
 | 0,l,h=>by simp at h; simp [h]
 | n + 1,l,h=>by
   rw [List.range_succ_eq_map]
   simp only [List.map_cons,List.map_map,List.flatten_cons,Nat.zero_mul,List.drop_zero]
   have h1 : (l.drop m).length = n * m:=by rw [List.length_drop,h,Nat.succ_mul]; omega
   have ih:=rm (m:=m) (n:=n) (l:=l.drop m) h1
   have e : ((fun i=>(l.drop (i * m)).take m) ∘ Nat.succ) = fun i=>((l.drop m).drop (i * m)).take m:=by
    funext i
    simp only [Function.comp,List.drop_drop,Nat.succ_mul,Nat.succ_eq_add_one,Nat.add_mul,Nat.one_mul]
    rw [Nat.add_comm]
   rw [e,ih,List.take_append_drop]
theorem ga : ∀ (d : Nat) {t : TypeId} {ks : List KK} {ds : List D} {vs : List Value},eS P d t = some ks→All2 (Rep σ) ds vs→All2 bw ks ds→P.keyLits d t vs = some (ds.map jA)
 | 0,_,_,_,_,h,_,_=>by simp [eS] at h
 | d + 1,t,ks,ds,vs,h,hr,hf=>by
   have hlen:=jC (d + 1) h
   have hl1:=hr.length
   have hl2:=hf.length
   have one : ∀ {k : KK},(bif Nat.beq (P.cellsOf t) 1 then some [k] else none) = some ks→∃ x v,ds = [x]∧vs = [v]∧Rep σ x v∧bw k x:=by
    intro k h
    cases hb : Nat.beq (P.cellsOf t) 1 <;> simp only [hb,cond_true,cond_false,reduceCtorEq,Option.some.injEq] at h
    subst h
    match ds,vs,hr,hf with
    | [x],[v],hr,hf=>exact ⟨x,v,rfl,rfl,hr.1,hf.1⟩
   simp only [eS] at h
   split at h
   ·rename_i hu
    obtain ⟨x,v,rfl,rfl,h1,h2⟩:=one h
    cases h1 <;> simp [bw] at h2
    simp [Program.keyLits,hu,jA]
   ·rename_i q hu
    obtain ⟨x,v,rfl,rfl,h1,h2⟩:=one h
    cases h1 <;> simp [bw] at h2
    rename_i k n hin
    subst h2
    have hwf : (Lit.int k n).wf = true:=by simp [Lit.wf,hin.1,hin.2]
    simp [Program.keyLits,hu,jA,hwf]
   ·rename_i hu
    obtain ⟨x,v,rfl,rfl,h1,h2⟩:=one h
    cases h1 <;> simp [bw] at h2
    rename_i s hs
    have : s.toArray.size≤maxLen:=by simp [maxLen]; omega
    have hsz : (ByteArray.mk s.toArray).size≤maxLen:=this
    simp [Program.keyLits,hu,jA,hsz]
   ·rename_i n e hu
    split at h <;> (try (simp at h; done))
    rename_i k' hk
    cases hb : Nat.beq (n * k'.length) (P.cellsOf t) <;> simp only [hb,cond_true,cond_false,reduceCtorEq,Option.some.injEq] at h
    subst h
    have hce:=jC d hk
    have hn:=Nat.eq_of_beq_eq_true hb
    simp only [Program.keyLits,hu]
    rw [if_pos (by omega),← hce]
    have hds : ds.length = n * k'.length:=by omega
    rw [vR (g:=fun i=>((ds.drop (i * k'.length)).take k'.length).map jA) fun i hi=>?_]
    ·simp only [Option.map_some,Option.some.injEq]
     have:=rm (m:=k'.length) (n:=n) (l:=ds.map jA) (by simpa using hds)
     rw [← this]
     congr 1
     refine List.map_congr_left fun i _=>?_
     rw [List.map_take,List.map_drop]
    ·simp only [List.mem_range] at hi
     refine ga d hk ((hr.drop _).take _) ?_
     have hx : ((List.replicate n k').flatten.drop (i * k'.length)).take k'.length = k':=by
      have h3:=fun (j : Nat)=>dP (k:=k'.length) (xs:=List.replicate n k') (i:=i) (j:=j) (x:=k') (fun x hx=>by rw [List.eq_of_mem_replicate hx])
      refine List.ext_getElem? fun j=>?_
      rw [List.getElem?_take]
      split
      ·rename_i hj
       rw [List.getElem?_drop]
       exact h3 j (by simp [hi]) hj
      ·rename_i hj
       rw [List.getElem?_eq_none (by omega)]
     have:=(hf.drop (i * k'.length)).take k'.length
     rw [hx] at this
     exact this
   ·rename_i fs hu
    split at h <;> (try (simp at h; done))
    rename_i l hl
    cases hb : Nat.beq l.length (P.cellsOf t) <;> simp only [hb,cond_true,cond_false,reduceCtorEq,Option.some.injEq] at h
    subst h
    -- the fields, one behind the other
    have key : ∀ (gs : List Field) (off : Nat) (l : List KK) (ds : List D) (vs0 vs : List Value),nE (eS P d) off gs = some l→vs0.length = off→All2 (Rep σ) ds vs→All2 bw l ds →
      gs.all (·.name != "_") = true ∧ ∃ Ls : List (List Lit), gs.mapM (fun f => P.keyLits d f.type (((vs0 ++ vs).drop f.offset).take (P.cellsOf f.type))) = some Ls ∧ Ls.flatten = ds.map jA := by
     intro gs
     induction gs with
     | nil =>
       intro off l ds vs0 vs hs _ hr hf
       simp only [nE,Option.some.injEq] at hs; subst hs
       have : ds = []:=by cases ds with
        | nil=>rfl
        | cons _ _=>exact hf.elim
       subst this
       exact ⟨rfl,[],rfl,rfl⟩
     | cons f r ih =>
       intro off l ds vs0 vs hs h0 hr hf
       simp only [nE] at hs
       split at hs <;> (try (simp at hs; done))
       rename_i k' hk
       cases hb : Nat.beq f.offset off && (f.name != "_") <;> simp only [hb, cond_true, cond_false, reduceCtorEq] at hs
       rw [Bool.and_eq_true] at hb
       have hoff:=Nat.eq_of_beq_eq_true hb.1
       split at hs <;> simp at hs
       rename_i l' hl'
       subst hs
       have hce:=jC d hk
       have hfl:=hf.length
       have hrl:=hr.length
       simp only [List.length_append] at hfl
       have hf1 : All2 bw k' (ds.take k'.length):=by
        have:=hf.take k'.length
        rwa [List.take_left] at this
       have hf2 : All2 bw l' (ds.drop k'.length):=by
        have:=hf.drop k'.length
        rwa [List.drop_left] at this
       have h1:=ga d hk (hr.take k'.length) hf1
       obtain ⟨h2,Ls,h3,h4⟩:=ih (off + k'.length) l' (ds.drop k'.length) (vs0 ++ vs.take k'.length) (vs.drop k'.length) hl' (by simp; omega) (hr.drop _) hf2
       refine ⟨by simp only [List.all_cons,hb.2,h2,Bool.and_self],(ds.take k'.length).map jA::Ls,?_,?_⟩
       ·rw [List.mapM_cons]
        have e1 : ((vs0 ++ vs).drop f.offset).take (P.cellsOf f.type) = vs.take k'.length:=by
         rw [hoff,← h0,List.drop_left,hce]
        have e2 : (vs0 ++ vs.take k'.length) ++ vs.drop k'.length = vs0 ++ vs:=by rw [List.append_assoc,List.take_append_drop]
        rw [e2] at h3
        rw [e1,h1,h3]
        rfl
       ·rw [List.flatten_cons,h4,← List.map_append,List.take_append_drop]
    obtain ⟨h1,Ls,h2,h3⟩:=key fs.toList 0 l ds [] vs hl rfl hr hf
    simp only [Program.keyLits,hu]
    have hall : fs.all (·.name != "_") = true := by rw [← Array.all_toList]; exact h1
    rw [if_pos ⟨by omega,hall⟩]
    simp only [List.nil_append] at h2
    rw [h2]
    simp [h3]
   ·simp at h
end Go.Abs
namespace Go.Abs
open Go
variable {P : Program} {c : Ctx} {T : Tab} {σ : Sig} {φ : Pl} {w : World}
def Bz : KK→D→Bool
 | .int k,.int k' _=>kEq k' k
 | .bool,.bool _=>true
 | .str,.str _=>true
 | _,_=>false
def eR : List KK→List D→Bool
 | [],[]=>true
 | k::ks,d::ds=>Bz k d && eR ks ds
 | _,_=>false
theorem Hw{k : KK}{d : D}(h : Bz k d = true) : bw k d:=by
 cases k <;> cases d <;> simp [Bz,bw] at h ⊢
 exact fp h
theorem fc : ∀ {ks : List KK} {ds : List D},eR ks ds = true→All2 bw ks ds
 | [],[],_=>trivial
 | _::_,_::_,h=>by
   simp only [eR,Bool.and_eq_true] at h
   exact ⟨Hw h.1,fc h.2⟩
 | [],_::_,h=>by simp [eR] at h
 | _::_,[],h=>by simp [eR] at h
def eqD : D→D→Bool
 | .int _ x,.int _ y=>x == y
 | .bool x,.bool y=>x == y
 | .str x,.str y=>x == y
 | _,_=>false
def cb : List D→List D→Bool
 | [],[]=>true
 | x::xs,y::ys=>eqD x y && cb xs ys
 | _,_=>false
theorem xm : ∀ {ks : List KK} {ds es : List D},All2 bw ks ds→All2 bw ks es→(cb ds es = true↔ds.map jA = es.map jA)
 | [],[],[],_,_=>by simp [cb]
 | k::ks,d::ds,e::es,h,h'=>by
   have ih:=xm h.2 h'.2
   have h1:=h.1
   have h2:=h'.1
   simp only [cb,Bool.and_eq_true,List.map_cons,List.cons.injEq,ih]
   refine and_congr_left fun _=>?_
   cases k <;> cases d <;> simp only [bw] at h1 <;> cases e <;> simp only [bw] at h2 <;> simp [eqD,jA,h1,h2]
 | [],_::_,_,h,_=>h.elim
 | _::_,[],_,h,_=>h.elim
 | [],[],_::_,_,h=>h.elim
 | _::_,_::_,[],_,h=>h.elim
def jB(P : Program)(t : TypeId) : Bool:=match P.underlying t with | some (.struct _) | some (.array _ _)=>true | _=>false
abbrev rS:=List (Nat×List KK)
structure EOk (P : Program) (t : TypeId) (ks : List KK) : Prop where
 shape : eS P 6 t = some ks
 key : P.keyTypeAt 6 t = true
 agg : jB P t = true
 guard : P.eqGuardType P.depth t = false
def xn(P : Program)(E : rS) : Prop:=∀ t ks,look E t = some ks→EOk P t ks
theorem sR{t : TypeId}{ks : List KK}(h : EOk P t ks){vs : List Value}(hl : vs.length = ks.length) : (Value.agg vs.toArray).formed P t = true:=by
 have hs:=jC 6 h.shape
 have ha:=h.agg
 unfold jB at ha
 unfold Value.formed
 split at ha <;> simp_all
theorem vB{t : TypeId}{ks : List KK}(h : EOk P t ks){ds es : List D}{vs us : List Value}(h1 : All2 (Rep σ) ds vs)(h2 : All2 (Rep σ) es us)(f1 : All2 bw ks ds)(f2 : All2 bw ks es)(w : World) :
  (Op.equalIn 10000 t (.agg vs.toArray) (.agg us.toArray)).run P w = .ok (cb ds es) w:=by
 have l1:=h1.length
 have l2:=h2.length
 have l3:=f1.length
 have l4:=f2.length
 obtain ⟨r,hr,hiff⟩:=run_equalIn_deep 9994 6 t h.key w 6 6 _ _ _ _ (sR h (vs:=vs) (by omega)) (sR h (vs:=us) (by omega)) (ga 6 h.shape h1 f1) (ga 6 h.shape h2 f2)
 have : r = cb ds es:=by
  have h3:=xm f1 f2
  cases r <;> cases he : cb ds es <;> simp_all
 rw [← this]
 exact hr
def Fm(E : rS)(t : TypeId) : Option AV→Option AV→Option Bool
 | some (.agg c1),some (.agg c2)=>match look E t,eL c1,eL c2 with
   | some ks,some ds,some es=>bif eR ks ds && eR ks es then some (cb ds es) else none
   | _,_,_=>none
 | _,_=>none
def ij : BinOp→Option Bool
 | .eql=>some true
 | .neq=>some false
 | _=>none
theorem DC{E : rS}(hE : xn P E){ops : Array Oper}{o : Oper}{rest : List Oper}{st : St}{K : St→Prop}{op : BinOp}{t ty : TypeId}{x y : Operand}{b e : Bool}
  (ho : o.op = .binOp op t x y ty) (hop : ij op = some e) (hg : o.guard = none) (hd : aP c.n o.dst = true) (hv : Fm E t (ev st x) (ev st y) = some b)
  (h : ac P c ops rest ⟨bj o.dst (.one (.d (.bool (b == e)))) st.fr,st.sto⟩ K) : ac P c ops (o::rest) st K :=
 ba hg fun a w σ φ hr=>by
  unfold Fm at hv
  split at hv <;> (try (simp at hv; done))
  rename_i c1 c2 hx hy
  split at hv <;> (try (simp at hv; done))
  rename_i ks ds es hl h1 h2
  cases hb : eR ks ds && eR ks es <;> simp only [hb,cond_true,cond_false,reduceCtorEq,Option.some.injEq] at hv
  subst hv
  rw [Bool.and_eq_true] at hb
  have hk:=hE t ks hl
  obtain rfl:=j5 h1
  obtain rfl:=j5 h2
  obtain ⟨vs,hvs,r1⟩:=aC hr hx
  obtain ⟨us,hus,r2⟩:=aC hr hy
  have heq:=vB hk (mw r1) (mw r2) (fc hb.1) (fc hb.2) w
  have hgd:=run_eqGuard_agg (P:=P) (w:=w) op t x y vs.toArray us.toArray hk.guard
  refine ⟨.bool (cb ds es == e),w,_,σ,φ,?_,hr.put (v:=.one (.d (.bool (cb ds es == e)))) hd (RepC.d .bool),h⟩
  cases op <;> simp only [ij,Option.some.injEq,reduceCtorEq] at hop <;> subst hop
  ·simp only [execOp,ho,hvs,hus,Sem.run_bind,hgd,Result.andThen_ok,run_eql_struct,heq,Sem.run_pure]
   simp
  ·simp only [execOp,ho,hvs,hus,Sem.run_bind,hgd,Result.andThen_ok,run_neq_struct,heq,Sem.run_pure]
   simp
end Go.Abs
namespace Go.Abs
open Go
variable {P : Program} {c : Ctx} {T : Tab} {σ : Sig} {φ : Pl} {w : World}
structure KOk (P : Program) (t : TypeId) (kg : Bool) (ks : List KK) : Prop where
 shape : eS P 6 t = some ks
 key : P.keyTypeAt 6 t = true
 agg : jB P t = kg
theorem yp{k : KK}{d e : D}{v u : Value}(hd : bw k d)(he : bw k e)(hv : Rep σ d v)(hu : Rep σ e u) : (eqD d e = true↔v = u):=by
 cases k <;> cases d <;> simp only [bw] at hd <;> cases e <;> simp only [bw] at he <;> cases hv <;> cases hu <;> simp [eqD,hd,he]
theorem vZ : ∀ {ks : List KK} {ds es : List D} {vs us : List Value},All2 bw ks ds→All2 bw ks es→All2 (Rep σ) ds vs→All2 (Rep σ) es us→(cb ds es = true↔vs = us)
 | [],[],[],[],[],_,_,_,_=>by simp [cb]
 | k::ks,d::ds,e::es,v::vs,u::us,h1,h2,h3,h4=>by
   simp only [cb,Bool.and_eq_true,List.cons.injEq,yp h1.1 h2.1 h3.1 h4.1,vZ h1.2 h2.2 h3.2 h4.2]
 | [],_::_,_,_,_,h,_,_,_=>h.elim
 | _::_,[],_,_,_,h,_,_,_=>h.elim
 | [],[],_::_,_,_,_,h,_,_=>h.elim
 | _::_,_::_,[],_,_,_,h,_,_=>h.elim
 | [],[],[],_::_,_,_,_,h,_=>h.elim
 | _::_,_::_,_::_,[],_,_,_,h,_=>h.elim
 | [],[],[],[],_::_,_,_,_,h=>h.elim
 | _::_,_::_,_::_,_::_,[],_,_,_,h=>h.elim
def cz(kd : List D) : List (List D×List D)→Nat→Option (Nat×List D)
 | [],_=>none
 | (k,v)::r,i=>bif cb kd k then some (i,v) else cz kd r (i + 1)
theorem gN{ds : List D}{v : Value}(h : RepD σ true ds v) : ∃ vs : List Value,v = .agg vs.toArray∧All2 (Rep σ) ds vs:=h
theorem gO{ds : List D}{v : Value}(h : RepD σ false ds v) : ∃ d,ds = [d]∧Rep σ d v:=by
 match ds,h with
 | [d],h=>exact ⟨d,rfl,h.1⟩
 | [],h=>exact h.elim
 | _::_::_,h=>exact h.2.elim
theorem nK{t : TypeId}{ks : List KK}(hE : EOk P t ks){vg : Bool}{kd : List D}{kv : Value}(hk : RepD σ true kd kv)(hf : All2 bw ks kd)(w : World) :
  ∀ {es : List (List D×List D)} {ents : List MapEntry} {i n : Nat},RepE σ true vg n es ents→(∀ p∈es,All2 bw ks p.1) →
    (cz kd es i = none∧(Instr.findAsking t kv ents i).run P w = .ok none w)∨∃ j e vd,cz kd es i = some (i + j,vd)∧(Instr.findAsking t kv ents i).run P w = .ok (some (i + j,e.val)) w∧ents[j]? = some e∧RepD σ vg vd e.val
 | [],[],i,n,_,_=>.inl ⟨rfl,by simp [Instr.findAsking]⟩
 | p::es,e::ents,i,n,h,hall=>by
   obtain ⟨h1,h2,h3,h4⟩:=h
   obtain ⟨kvs,rfl,hkr⟩:=gN hk
   obtain ⟨evs,hev,her⟩:=gN h1
   have heq:=vB hE hkr her hf (hall p List.mem_cons_self) w
   have heq' : (Op.equal t (.agg kvs.toArray) e.key).run P w = .ok (cb kd p.1) w:=by
    rw [hev]; exact heq
   cases hb : cb kd p.1 with
   | true =>
     refine .inr ⟨0,e,p.2,?_,?_,rfl,h2⟩
     ·simp only [cz,hb,cond_true,Nat.add_zero]
     ·rw [hb] at heq'
      simp [Instr.findAsking,heq']
   | false =>
     rw [hb] at heq'
     rcases nK hE hk hf w (i:=i + 1) h4 (fun q hq=>hall q (List.mem_cons_of_mem _ hq)) with ⟨h5,h6⟩ | ⟨j,e',vd,h5,h6,h7,h8⟩
     ·refine .inl ⟨?_,?_⟩
      ·simp only [cz,hb,cond_false]; exact h5
      ·simp [Instr.findAsking,heq',h6]
     ·refine .inr ⟨j + 1,e',vd,?_,?_,by simpa using h7,h8⟩
      ·simp only [cz,hb,cond_false]; rw [h5,show i + 1 + j = i + (j + 1) by omega]
      ·simp [Instr.findAsking,heq',h6]; omega
 | [],_::_,_,_,h,_=>h.elim
 | _::_,[],_,_,h,_=>h.elim
end Go.Abs
namespace Go.Abs
open Go
variable {P : Program} {c : Ctx} {T : Tab} {σ : Sig} {φ : Pl} {w : World}
def mQ : KK→TypeDesc
 | .int k=>.int k
 | .bool=>.bool
 | .str=>.string
theorem zX{k : KK}{d e : D}{v u : Value}(hd : bw k d)(he : bw k e)(hv : Rep σ d v)(hu : Rep σ e u) : Instr.sameNow (mQ k) v u = some (eqD d e):=by
 cases k <;> cases d <;> simp only [bw] at hd <;> cases e <;> simp only [bw] at he <;> cases hv <;> cases hu
 ·subst hd; subst he; simp [mQ,Instr.sameNow,eqD]
 ·simp [mQ,Instr.sameNow,eqD]
 ·rename_i s s' _ _
  simp only [mQ,Instr.sameNow,eqD,Option.some.injEq]
  have h1 : (((⟨s.toArray⟩ : ByteArray) == ⟨s'.toArray⟩) = true)↔((s == s') = true):=by
   rw [MapKept.bytes_beq]; simp
  exact Bool.eq_iff_iff.2 h1
theorem rB{k : KK}{vg : Bool}{d : D}{kv : Value}(hk : Rep σ d kv)(hf : bw k d) :
  ∀ {es : List (List D×List D)} {ents : List MapEntry} {i n : Nat},RepE σ false vg n es ents→(∀ p∈es,All2 bw [k] p.1) →
    (cz [d] es i = none∧Instr.findNow (mQ k) kv ents i = some none)∨∃ j e vd,cz [d] es i = some (i + j,vd)∧Instr.findNow (mQ k) kv ents i = some (some (i + j,e.val))∧ents[j]? = some e∧RepD σ vg vd e.val
 | [],[],i,n,_,_=>.inl ⟨rfl,rfl⟩
 | p::es,e::ents,i,n,h,hall=>by
   obtain ⟨h1,h2,h3,h4⟩:=h
   obtain ⟨d',hd',her⟩:=gO h1
   have hp:=hall p List.mem_cons_self
   rw [hd'] at hp
   have heq:=zX hf hp.1 hk her
   have hcmp : cb [d] p.1 = eqD d d':=by rw [hd']; simp [cb]
   cases hb : eqD d d' with
   | true =>
     refine .inr ⟨0,e,p.2,?_,?_,rfl,h2⟩
     ·simp only [cz,hcmp,hb,cond_true,Nat.add_zero]
     ·rw [hb] at heq
      simp only [Instr.findNow,heq,Nat.add_zero]
   | false =>
     rw [hb] at heq
     rcases rB hk hf (i:=i + 1) h4 (fun q hq=>hall q (List.mem_cons_of_mem _ hq)) with ⟨h5,h6⟩ | ⟨j,e',vd,h5,h6,h7,h8⟩
     ·refine .inl ⟨?_,?_⟩
      ·simp only [cz,hcmp,hb,cond_false]; exact h5
      ·simp only [Instr.findNow,heq]; exact h6
     ·refine .inr ⟨j + 1,e',vd,?_,?_,by simpa using h7,h8⟩
      ·simp only [cz,hcmp,hb,cond_false]; rw [h5,show i + 1 + j = i + (j + 1) by omega]
      ·simp only [Instr.findNow,heq]; rw [h6,show i + 1 + j = i + (j + 1) by omega]
 | [],_::_,_,_,h,_=>h.elim
 | _::_,[],_,_,h,_=>h.elim
end Go.Abs
