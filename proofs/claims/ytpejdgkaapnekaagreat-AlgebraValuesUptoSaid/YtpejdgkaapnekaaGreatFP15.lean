import Derived.LoopNIn
import Derived.Test.YtpejdgkaapnekaaGreatFP14
set_option linter.unusedVariables false
set_option linter.unusedSimpArgs false
set_option maxHeartbeats 1000000
namespace Go.Proofs.YtpejdgkaapnekaaGreat
open Go Go.Abs
attribute [local irreducible] ao OkC aU bg aV bA
set_option maxRecDepth 10000
def d9(c : UInt8) : Bool:=decide (32≤c.toNat) && decide (c.toNat≤126)
def dU(k n d : Int)(s : List UInt8) : Bool :=
 if k = 0 then mH d s && (decide (1≤n) && decide (n≤255))
 else if k = 1 then mH d s && (n == 0 || n == 1)
 else if k = 2 then s == [] && (decide (1≤d) && (decide (d≤1099511627776) && (decide (-1099511627776≤n) && (decide (n≤1099511627776) && ((Nat.gcd n.natAbs d.toNat : Nat) : Int) == 1))))
 else if k = 3 then n == 0 && (d == 0 && (decide ((s.length : Int)≤16) && s.all d9))
 else false
def iD(k n d : Int)(s : List UInt8)(t : Int) : Bool :=
 dU k n d s && (decide (1≤t) && (decide (t≤4) && (if k = 0 then true else if k = 1 then t == 1 else if k = 2 then t == 3 || t == 2 && d == 1 else t == 4)))
theorem Jm(c : Int) : CallA Tryz.prog 281 [.one (.d (.int .i32 c))] [] (.one (.d (.bool (decide (c < 32) || decide (126 < c))))) []:=by
 refine enter ab Tryz.func281 rfl (by decide +kernel) rfl fun hok w0 σ0 φ0 M=>?_
 repeat' (first|(refine h6H ?_; first|refine ac ?_|refine ah ab J J J J J ?_|(refine h0H ?_; first|refine aT J J (by first|assumption|rfl) ?_|refine bH J J (by first|assumption|rfl) J J ?_|refine bn J J J J (fun h=>?_) (fun h=>?_))|(refine h2H ?_; first|refine s_e aa J J J (aF J J (by first|rfl|assumption) J) ?_|refine s_e aa J J J (az J J (by first|rfl|assumption) J) ?_))|(refine h7H ?_; first|refine al ?_|refine ae ?_|refine am ?_)|refine ak ?_|refine ai (.inl J) J J ?_)
 all_goals (try (((simp_all [aO,List.drop_eq_nil_of_le]) <;> first | omega | (rw [Bool.eq_iff_iff]; simp; omega) | grind); done))
end Go.Proofs.YtpejdgkaapnekaaGreat
namespace Go.Abs
open Go
variable {P : Program} {V : Env} {T : Tab} {c : Ctx} {w0 : World} {σ0 : Sig} {φ0 : Pl} {M : Nat→Prop} {n : Nat} {rd : Option Nat} {mk : List Deferred} {ops : Array Oper} {o : Oper} {rest : List Oper} {fr : List (Nat×AV)} {sto : Sto} {K : St→Prop} {st st0 : St}
def dB(met : List (List UInt8)) : List (List D×List D):=met.map fun nm=>([.str nm],[.bool true])
theorem pf{s : List UInt8} : ∀ {met : List (List UInt8)} {i : Nat},(met.contains s = true→∃ j,cZ [.str s] (dB met) i = some (j,[.bool true]))∧(met.contains s = false→cZ [.str s] (dB met) i = none)
 | [],i=>by simp [dB,cZ]
 | x::r,i=>by
   have ih:=pf (s:=s) (met:=r) (i:=i + 1)
   simp only [dB,List.map_cons,cZ,dt,eqD,Bool.and_true,List.contains_cons] at ih ⊢
   cases hb : (s == x) with
   | true=>simp
   | false=>simpa [hb] using ih
theorem wO{s : List UInt8} : ∀ {met : List (List UInt8)},met.contains s = false→gx [.str s] [.bool true] (dB met) = dB (met ++ [s])
 | [],_=>rfl
 | x::r,h=>by
   simp only [List.contains_cons,Bool.or_eq_false_iff] at h
   have ih:=wO (s:=s) (met:=r) h.2
   simp only [dB,List.map_cons,gx,dt,eqD,Bool.and_true,List.cons_append,h.1,cond_false] at ih ⊢
   rw [ih]
theorem ml : ∀ {met : List (List UInt8)},fO [.str] (dB met) = true
 | []=>rfl
 | x::r=>by
   have ih:=ml (met:=r)
   simp only [dB,List.map_cons,fO,fb,zE,Bool.and_true,Bool.true_and] at ih ⊢
   exact ih
theorem oI(hV : EnvOk P V){d t id : Nat}{m : MTy}{x y : Operand}{s : List UInt8}{met : List (List UInt8)}(ho : o.op = .lookup t x y false)(hg : o.guard = none)(hdst : o.dst = some d)(hd : Nat.blt d n = true)
  (hm : look V.M t = some m) (hms : m.ks = [.str]) (hk : m.kg = false) (hv : m.vg = false) (hz : m.z = [.bool false])
  (hx : ev ⟨fr,sto⟩ x = some (.one (.mapr id))) (hl : look sto id = some (.map false false (dB met))) (hy : ev ⟨fr,sto⟩ y = some (.one (.d (.str s))))
  (h : ao P ⟨w0,σ0,φ0,M,n,rd,mk⟩ ops rest ⟨(d,.one (.d (.bool (met.contains s))))::fr,sto⟩ K) : ao P ⟨w0,σ0,φ0,M,n,rd,mk⟩ ops (o::rest) ⟨fr,sto⟩ K:=by
 refine pg (hV.M t m hm) ho hg (by rw [hdst]; exact hd) hx (es:=dB met) (by rw [hl,hk,hv]) hy (kd:=[.str s]) (by rw [hk]; rfl) (by rw [hms]; rfl) (by rw [hms]; exact ml) (v:=.one (.d (.bool (met.contains s)))) ?_ (by rw [hdst]; exact h)
 cases hb : met.contains s with
 | true =>
   obtain ⟨j,hj⟩:=(pf (i:=0)).1 hb
   simp only [pM,hj,hv,tz]; rfl
 | false =>
   simp only [pM,(pf (i:=0)).2 hb,hv,hz,tz]; rfl
theorem qS(hV : EnvOk P V){t id : Nat}{m : MTy}{x y z : Operand}{s : List UInt8}{met : List (List UInt8)}(ho : o.op = .mapUpdate t x y z)(hg : o.guard = none)(hdst : o.dst = none)
  (hm : look V.M t = some m) (hms : m.ks = [.str]) (hk : m.kg = false) (hv : m.vg = false)
  (hx : ev ⟨fr,sto⟩ x = some (.one (.mapr id))) (hl : look sto id = some (.map false false (dB met))) (hy : ev ⟨fr,sto⟩ y = some (.one (.d (.str s)))) (hz : ev ⟨fr,sto⟩ z = some (.one (.d (.bool true)))) (hnot : met.contains s = false)
  (h : ao P ⟨w0,σ0,φ0,M,n,rd,mk⟩ ops rest ⟨fr,cL id (.map false false (dB (met ++ [s]))) sto⟩ K) : ao P ⟨w0,σ0,φ0,M,n,rd,mk⟩ ops (o::rest) ⟨fr,sto⟩ K:=by
 refine lX (hV.M t m hm) ho hg hdst hx (es:=dB met) (by rw [hl,hk,hv]) hy (kd:=[.str s]) (by rw [hk]; rfl) (by rw [hms]; rfl) (by rw [hms]; exact ml) hz (vd:=[.bool true]) (by rw [hv]; rfl) ?_
 rw [wO hnot,hk,hv]
 exact h
theorem mN(k : Nat)(ρ : List (Nat×Nat)){d : Nat}{fop : Operand}{args : Array Operand}{ats : Array TypeId}{f : FuncId}{cargs : List AV}{cs rs : Sto}{rav rav' : AV}{sto' : Sto}(hC : CallA P f cargs cs rav rs)
  (ho : o.op = .call { callee:=.value fop,args:=args,argTypes:=ats }) (hg : o.guard = none) (hdst : o.dst = some d) (hd : Nat.blt d n = true) (hf : ev ⟨fr,sto⟩ fop = some (.one (.d (.fn f []))))
  (ha : evL ⟨fr,sto⟩ args.toList = some (da (rn k ρ) cargs)) (hpass : Pass ⟨fr,sto⟩ (rn k ρ) ρ cs) (hcomp : CompatL ⟨fr,sto⟩ (rn k ρ) ρ rs)
  (hk : (fm ρ && ij ρ && fX cs ρ && fG ρ && cW ρ rs && dD cs (cargs ++ []) && bL cs cs && dr rs rav && bL rs rs && Nat.ble (k + 16) 1000000) = true) (hfresh : mI k ⟨fr,sto⟩ = true)
  (hr : dO (rn k ρ) rav = rav') (hs : ed (rn k ρ) (fF ρ sto) rs = sto')
  (h : ao P ⟨w0,σ0,φ0,M,n,rd,mk⟩ ops rest ⟨(d,rav')::fr,sto'⟩ K) : ao P ⟨w0,σ0,φ0,M,n,rd,mk⟩ ops (o::rest) ⟨fr,sto⟩ K:=by
 subst hr; subst hs
 exact jZ k ρ ho hg (by rw [hdst]; exact hd) hf ha (caps:=[]) (by simpa using hC) hpass hcomp hk (nt hfresh) (by rw [hdst]; exact h)
theorem cR{α : Type}{body : Code}{Q : Exit→St→Prop}(rg : Nat)(hrg : iK body = rg)(kept : List (Nat×AV))(hk : SubL fr kept)(L : α→List (Nat×AV))(S : α→Sto)(Inv : α→Prop)(μ : α→Nat)(x0 : α)(hL : SubL fr (L x0))(hS : SubL sto (S x0))(h0 : Inv x0)
  (hround : ∀ x,Inv x→OkC P c body ⟨L x ++ kept,S x⟩ (bg (fun st'=>∃ y,Inv y∧μ y < μ x∧SubL st'.sto (S y)∧SubL st'.fr (L y)∧SubL st'.fr kept) Q)) : OkC P c (.loop body) ⟨fr,sto⟩ Q:=by
 have hap : ∀ {f a b : List (Nat×AV)},SubL f a→SubL f b→SubL f (a ++ b):=by
  intro f a b h1 h2
  induction a with
  | nil=>exact h2
  | cons p r ih=>exact ⟨h1.1,ih h1.2⟩
 have hdr : ∀ {f : List (Nat×AV)} {s s' : Sto},SubL s s'→Imp c ⟨f,s⟩ ⟨f,s'⟩:=fun h a w σ φ hr=>⟨σ,φ,hr.dropTo fun i e hi=>h.look hi⟩
 refine dI (st':=⟨L x0 ++ kept,S x0⟩) (Imp.trans (iI (hap hL hk)) (hdr hS)) ?_
 refine mC (fun n st=>∃ x,Inv x∧n = μ x∧st = ⟨L x ++ kept,S x⟩) (μ x0) ⟨x0,h0,rfl,rfl⟩ ?_
 rintro n st ⟨x,hx,rfl,rfl⟩
 refine iO (hround x hx) fun e st h=>?_
 cases e with
 | normal =>
   obtain ⟨y,hy,hlt,hs,h1,h2⟩:=h
   obtain ⟨f,s⟩:=st
   simp only at hs h1 h2
   exact ⟨μ y,_,hlt,⟨y,hy,rfl,rfl⟩,Imp.trans (iI (hap h1 h2)) (hdr hs)⟩
 | _=>exact h
theorem f8{t ty : TypeId}{x y : Operand}{k k' : IntKind}{a b : Int}(ho : o.op = .binOp .rem t x y ty)
  (hx : ev st x = some (.one (.d (.int k a)))) (hy : ev st y = some (.one (.d (.int k' b)))) (hk : kEq k k' = true) (ha : 0≤a) (h0 : 0 < b) : bw V st o 0 = some ⟨.one (.d (.int k (a % b))),[],[]⟩:=by
 rw [← Int.tmod_eq_emod_of_nonneg ha]
 exact uB ho hx hy hk (by omega)
theorem fg{t ty : TypeId}{x y : Operand}{k k' : IntKind}{a b : Int}(ho : o.op = .binOp .quo t x y ty)
  (hx : ev st x = some (.one (.d (.int k a)))) (hy : ev st y = some (.one (.d (.int k' b)))) (hk : kEq k k' = true) (ha : 0≤a) (h0 : 0 < b) (hz : k.wrap (a / b) = a / b) : bw V st o 0 = some ⟨.one (.d (.int k (a / b))),[],[]⟩:=by
 refine BX ho hx hy hk (by omega) ?_
 rw [Int.tdiv_eq_ediv_of_nonneg ha]
 exact hz
theorem fT{dl : List Nat}{ss : St}(h : sealL st dl = some ss) : Imp c st ss:=fun a w σ φ hr=>by
 obtain ⟨σs,_,h3,_⟩:=Rel.sealL h hr
 exact ⟨σs,φ,h3⟩
theorem ba(k : Nat){d : Nat}{fop : Operand}{args : Array Operand}{ats : Array TypeId}{f : FuncId}{caps : List D}{avs avs' : List AV}{rav rav' : AV}
  (ho : o.op = .call { callee:=.value fop,args:=args,argTypes:=ats }) (hg : o.guard = none) (hdst : o.dst = some d) (hd : Nat.blt d n = true) (hf : ev ⟨fr,sto⟩ fop = some (.one (.d (.fn f caps))))
  (ha : evL ⟨fr,sto⟩ args.toList = some avs) (hD : cT avs = true) (hap : (avs ++ caps.map fun x=>.one (.d x)) = avs') (hC : CallA P f avs' [] rav [])
  (hk : (cW [] [] && Nat.ble (k + 16) 1000000 && dr [] rav && bL [] []) = true) (hfresh : mI k ⟨fr,sto⟩ = true) (hr : dO (rn k []) rav = rav')
  (h : ao P ⟨w0,σ0,φ0,M,n,rd,mk⟩ ops rest ⟨(d,rav')::fr,sto⟩ K) : ao P ⟨w0,σ0,φ0,M,n,rd,mk⟩ ops (o::rest) ⟨fr,sto⟩ K:=by
 subst hap; subst hr
 exact Ac k ho hg (by rw [hdst]; exact hd) hf ha hD hC hk (nt hfresh) (by rw [hdst]; exact h)
theorem b6(k : Nat){ops : Array Oper}{acc : List Tr}{d : Nat}{fop : Operand}{args : Array Operand}{ats : Array TypeId}{f : FuncId}{caps : List D}{avs avs' : List AV}{rav rav' : AV}
  (ho : o.op = .call { callee:=.value fop,args:=args,argTypes:=ats }) (hg : o.guard = none) (hdst : o.dst = some d) (hd : Nat.blt d c.n = true) (hf : ev ⟨fr,sto⟩ fop = some (.one (.d (.fn f caps))))
  (ha : evL ⟨fr,sto⟩ args.toList = some avs) (hD : cT avs = true) (hap : (avs ++ caps.map fun x=>.one (.d x)) = avs') (hC : CallA P f avs' [] rav [])
  (hk : (cW [] [] && Nat.ble (k + 16) 1000000 && dr [] rav && bL [] []) = true) (hr : dO (rn k []) rav = rav')
  (h : aU P c ops st0 rest ⟨(d,rav')::fr,sto⟩ (la k [] [] rav []::acc) K) : aU P c ops st0 (o::rest) ⟨fr,sto⟩ acc K:=by
 subst hap; subst hr
 refine lH hg (BQ k ho (by rw [hdst]; exact hd) hf ha hD hC hk) ?_
 rw [hdst]; exact h
def rc(P : Program)(c : Ctx)(body : Code)(Q : Exit→St→Prop) : Nat→St→Prop
 | 0,_=>False
 | m + 1,st=>OkC P c body st (bg (fun st'=>rc P c body Q m st') Q)
theorem oU{body : Code}{Q : Exit→St→Prop}(rg : Nat)(hrg : iK body = rg)(m : Nat)(h : rc P c body Q m st) : OkC P c (.loop body) st Q:=by
 intro a w σ φ hr
 refine wpIn_loop_rounds m ?_
 have key : ∀ m st a w σ φ,rc P c body Q m st→Rel c st a w σ φ→Code.roundsIn (fnc c) 0 P body (fun e a' w'=>∃ st' σ' φ',Q e st'∧RelE c e st' a' w' σ' φ') m a w:=by
  intro m
  induction m with
  | zero=>intro st a w σ φ h; exact h.elim
  | succ m ih =>
    intro st a w σ φ h hr
    rw [roundsIn_succ]
    refine wpIn_mono (h a w σ φ hr) fun e a' w' ⟨st',σ',φ',h1,h2⟩=>?_
    cases e with
    | normal=>exact ih st' a' w' σ' φ' h1 (h2.rel (by simp))
    | _=>exact ⟨st',σ',φ',h1,h2⟩
 exact key m st a w σ φ h hr
theorem cj(hV : EnvOk P V)(id : Nat){d : Nat}{v : AV}{wr : List (Nat×Option AObj)}{nw : List Nat}(hg : o.guard = none)(hdst : o.dst = some d)(hd : Nat.blt d n = true)(h : bw V ⟨fr,sto⟩ o id = some ⟨v,wr,nw⟩)(hid : Nat.blt (id + 1) 1000000 = true)(hf : dZ ⟨fr,sto⟩ nw = true)
  (hk : ao P ⟨w0,σ0,φ0,M,n,rd,mk⟩ ops rest ⟨(d,v)::fr,c4 wr sto⟩ K) : ao P ⟨w0,σ0,φ0,M,n,rd,mk⟩ ops (o::rest) ⟨fr,sto⟩ K:=by
 have:=nT (c:=⟨w0,σ0,φ0,M,n,rd,mk⟩) hV (o:=o) (by rw [hdst]; exact hd) h hid (eE hf) ops rest K (by rw [hdst]; exact hk)
 rwa [yT hg] at this
theorem iL{T : Tab}{rs : List ResultVar}{rav rav' : AV}{rsto : Sto}{e : Exit}{st : St}{l : List (Bool×List AC)}(he : e = .ret∨e = .normal)(hl : ld T st rs = some l)(hr : np l = some rav')(h : rav' = rav)(hs : SubL st.sto rsto) : bA T rs rav rsto e st :=
 ⟨he,l,hl,by rw [hr,h],hs⟩
end Go.Abs
namespace Go.Abs
open Go
variable {P : Program} {V : Env} {T : Tab} {c : Ctx} {w0 : World} {σ0 : Sig} {φ0 : Pl} {M : Nat→Prop} {n : Nat} {rd : Option Nat} {mk : List Deferred} {ops : Array Oper} {o : Oper} {rest : List Oper} {fr : List (Nat×AV)} {sto : Sto} {K : St→Prop} {st st0 : St} {acc : List Tr}
variable {σ σ' : Sig} {φ φ' : Pl} {w w' : World}
def tv : AC→Bool
 | .own i _ | .sub i _ _ | .ref i _ | .rref i _ _ | .yl i | .mapr i | .bsl i _ _=>Nat.ble i 1000000
 | _=>true
def jR : List AC→Bool
 | []=>true
 | x::r=>tv x && jR r
def pK : List (Bool×List AC)→Bool
 | []=>true
 | t::r=>jR t.2 && pK r
def tw : AV→Bool
 | .one x=>tv x
 | .agg cs=>jR cs
 | .tup ts=>pK ts
 | .any=>true
def ib : List (Nat×AV)→Bool
 | []=>true
 | p::r=>tw p.2 && ib r
def jS : Sto→Bool
 | []=>true
 | p::r=>(match p.2 with | .box cs=>jR cs | .loop _ fr _ _=>ib fr | _=>true) && jS r
theorem ql{x : AC}(h : tv x = true) : ∀ i,1000000 < i→x.men i = false:=by
 intro i hi
 have key : ∀ {j : Nat},Nat.ble j 1000000 = true→Nat.beq j i = false:=by
  intro j hj
  have:=Nat.le_of_ble_eq_true hj
  cases hb : Nat.beq j i with
  | false=>rfl
  | true=>have:=Nat.eq_of_beq_eq_true hb; omega
 cases x <;> first | rfl | exact key h
theorem jt : ∀ {l : List AC},jR l = true→∀ i,1000000 < i→cH i l = false
 | [],_,_,_=>rfl
 | x::r,h,i,hi=>by
   simp only [jR,Bool.and_eq_true] at h
   simp only [cH,ql h.1 i hi,jt h.2 i hi,Bool.or_self]
theorem qm : ∀ {l : List (Bool×List AC)},pK l = true→∀ i,1000000 < i→fy i l = false
 | [],_,_,_=>rfl
 | x::r,h,i,hi=>by
   simp only [pK,Bool.and_eq_true] at h
   simp only [fy,jt h.1 i hi,qm h.2 i hi,Bool.or_self]
theorem qn{x : AV}(h : tw x = true) : ∀ i,1000000 < i→x.men i = false:=by
 intro i hi
 cases x with
 | one x=>exact ql h i hi
 | agg cs=>exact jt h i hi
 | tup ts=>exact qm h i hi
 | any=>rfl
theorem oW : ∀ {l : List (Nat×AV)},ib l = true→∀ {s : Nat} {v : AV},look l s = some v→tw v = true
 | [],_,_,_,h=>by simp [look] at h
 | (t,x)::r,h,s,v,hl=>by
   simp only [ib,Bool.and_eq_true] at h
   rcases aB hl with ⟨_,rfl⟩ | ⟨_,hl⟩
   ·exact h.1
   ·exact oW h.2 hl
theorem qo : ∀ {l : List (Nat×AV)},ib l = true→∀ i,1000000 < i→bY i l = false
 | [],_,_,_=>rfl
 | x::r,h,i,hi=>by
   simp only [ib,Bool.and_eq_true] at h
   simp only [bY,qn h.1 i hi,qo h.2 i hi,Bool.or_self]
theorem oX : ∀ {l : Sto},jS l = true→∀ {j : Nat} {e : AObj},look l j = some e→∀ i,1000000 < i→e.men i = false
 | [],_,_,_,h,_,_=>by simp [look] at h
 | (t,x)::r,h,j,e,hl,i,hi=>by
   simp only [jS,Bool.and_eq_true] at h
   rcases aB hl with ⟨_,rfl⟩ | ⟨_,hl⟩
   ·have h1:=h.1
    cases e with
    | box cs=>exact jt h1 i hi
    | loop li fr s q=>exact qo h1 i hi
    | _=>rfl
   ·exact oX h.2 hl i hi
theorem mi{α : Type} : ∀ {a b : List (Nat×α)} {i : Nat},look (a ++ b) i = match look a i with | some v=>some v | none=>look b i
 | [],_,_=>rfl
 | (j,x)::r,b,i=>by
   simp only [List.cons_append,look]
   cases Nat.beq j i with
   | true=>rfl
   | false=>simp only [cond_false]; exact mi
def gI(s : Sto) : Prop:=∀ i e,look s i = some e→1000000≤i
theorem g6{o1 s : Sto}(hs : gI s){i : Nat}(hi : i < 1000000) : look (o1 ++ s) i = look o1 i:=by
 rw [mi]
 cases hl : look o1 i with
 | some v=>rfl
 | none =>
   simp only
   cases hl' : look s i with
   | none=>rfl
   | some e=>have:=hs _ _ hl'; omega
theorem ec{o1 s : Sto}(ho : fe 1000000 o1 = true){i : Nat}(hi : 1000000≤i) : look (o1 ++ s) i = look s i:=by
 rw [mi]
 cases hl : look o1 i with
 | none=>rfl
 | some e=>have:=j9 ho hl; omega
theorem RepC.mv{x : AC}{v : Value}{s s2 : Sto}(h : ∀ i,x.men i = true→look s2 i = look s i∧φ' i = φ i)(hr : RepC σ φ s x v) : RepC σ φ' s2 x v:=by
 have hk : ∀ i,x.men i = true→bQ s2 i = bQ s i:=fun i hi=>by unfold bQ; rw [(h i hi).1]
 cases hr with
 | d h1=>exact .d h1
 | junk h1=>exact .junk h1
 | dead hx h1 =>
   refine .dead ?_ h1
   cases x <;> simp only [ci] at hx ⊢ <;> first | exact hx | (rw [hk _ (Nat.beq_refl _)]; exact hx)
 | ownNil hl hp=>have:=h _ (Nat.beq_refl _); exact .ownNil (this.1.trans hl) (this.2.trans hp)
 | own hl hn hp=>have:=h _ (Nat.beq_refl _); exact .own (this.1.trans hl) hn (this.2.trans hp)
 | sub hl hn hc hA =>
   have:=h _ (Nat.beq_refl _)
   refine .sub (this.1.trans hl) hn hc fun h0=>?_
   obtain ⟨B,cap,h1,h2⟩:=hA h0
   exact ⟨B,cap,this.2.trans h1,h2⟩
 | ref hl hp=>have:=h _ (Nat.beq_refl _); exact .ref (this.1.trans hl) (this.2.trans hp)
 | rref hl hp=>have:=h _ (Nat.beq_refl _); exact .rref (this.1.trans hl) (this.2.trans hp)
 | yl hl hp=>have:=h _ (Nat.beq_refl _); exact .yl (this.1.trans hl) (this.2.trans hp)
 | mapr hl hp=>have:=h _ (Nat.beq_refl _); exact .mapr (this.1.trans hl) (this.2.trans hp)
 | bsl hl hp=>have:=h _ (Nat.beq_refl _); exact .bsl (this.1.trans hl) (this.2.trans hp)
theorem wJ{x : AC}{s : Sto}(h : ci s x = true) : ∀ i,x.men i = true→bQ s i = true:=by
 intro i hi
 cases x <;> simp only [AC.men,Bool.false_eq_true] at hi <;> (have:=Nat.eq_of_beq_eq_true hi; subst this; exact h)
theorem lV : ∀ {l : List AC} {s : Sto},eu s l = true→∀ i,cH i l = true→bQ s i = true
 | [],_,_,_,h=>by simp [cH] at h
 | x::r,s,h,i,hi=>by
   simp only [eu,Bool.and_eq_true] at h
   simp only [cH,Bool.or_eq_true] at hi
   rcases hi with hi | hi
   ·exact wJ h.1 i hi
   ·exact lV h.2 i hi
theorem wK : ∀ {l : List (Bool×List AC)} {s : Sto},tx s l = true→∀ i,fy i l = true→bQ s i = true
 | [],_,_,_,h=>by simp [fy] at h
 | x::r,s,h,i,hi=>by
   simp only [tx,Bool.and_eq_true] at h
   simp only [fy,Bool.or_eq_true] at hi
   rcases hi with hi | hi
   ·exact lV h.1 i hi
   ·exact wK h.2 i hi
theorem wL{x : AV}{s : Sto}(h : dr s x = true) : ∀ i,x.men i = true→bQ s i = true:=by
 intro i hi
 cases x with
 | one x=>exact wJ h i hi
 | agg cs=>exact lV h i hi
 | tup ts=>exact wK h i hi
 | any=>simp [AV.men] at hi
theorem wM : ∀ {l : List (Nat×AV)} {s : Sto},io s l = true→∀ i,bY i l = true→bQ s i = true
 | [],_,_,_,h=>by simp [bY] at h
 | x::r,s,h,i,hi=>by
   simp only [io,Bool.and_eq_true] at h
   simp only [bY,Bool.or_eq_true] at hi
   rcases hi with hi | hi
   ·exact wL h.1 i hi
   ·exact wM h.2 i hi
theorem oY{s s2 : Sto} : ∀ {l : List AC} {vs : List Value},(∀ i,cH i l = true→look s2 i = look s i∧φ' i = φ i)→All2 (RepC σ φ s) l vs→All2 (RepC σ φ' s2) l vs
 | [],[],_,_=>trivial
 | x::r,v::vs,h,ha=>⟨RepC.mv (fun i hi=>h i (by simp [cH,hi])) ha.1,oY (fun i hi=>h i (by simp [cH,hi])) ha.2⟩
 | [],_::_,_,ha=>ha.elim
 | _::_,[],_,ha=>ha.elim
theorem Fn{s s2 : Sto}{t : Bool×List AC}{v : Value}(h : ∀ i,cH i t.2 = true→look s2 i = look s i∧φ' i = φ i)(hr : RepT σ φ s t v) : RepT σ φ' s2 t v:=by
 obtain ⟨b,cs⟩:=t
 cases b with
 | true=>obtain ⟨vs,rfl,h1⟩:=hr; exact ⟨vs,rfl,oY h h1⟩
 | false=>exact oY h hr
theorem EC{s s2 : Sto} : ∀ {l : List (Bool×List AC)} {vs : List Value},(∀ i,fy i l = true→look s2 i = look s i∧φ' i = φ i)→All2 (RepT σ φ s) l vs→All2 (RepT σ φ' s2) l vs
 | [],[],_,_=>trivial
 | x::r,v::vs,h,ha=>⟨Fn (fun i hi=>h i (by simp [fy,hi])) ha.1,EC (fun i hi=>h i (by simp [fy,hi])) ha.2⟩
 | [],_::_,_,ha=>ha.elim
 | _::_,[],_,ha=>ha.elim
theorem RepV.mv{x : AV}{v : Value}{s s2 : Sto}(h : ∀ i,x.men i = true→look s2 i = look s i∧φ' i = φ i)(hr : RepV σ φ s x v) : RepV σ φ' s2 x v:=by
 cases x with
 | one x=>exact RepC.mv h hr
 | agg cs=>obtain ⟨vs,rfl,h1⟩:=hr; exact ⟨vs,rfl,oY h h1⟩
 | tup ts=>obtain ⟨vs,rfl,h1⟩:=hr; exact ⟨vs,rfl,EC h h1⟩
 | any=>trivial
theorem qK{e : AObj}{s : Sto}(h : zZ s e = true) : ∀ i,e.men i = true→bQ s i = true:=by
 intro i hi
 cases e with
 | box cs=>exact lV h i hi
 | loop li fr st p=>exact wM h i hi
 | _=>simp [AObj.men] at hi
theorem rZ : ∀ {fr : List (Nat×AV)} {s : Nat} {v : AV} {i : Nat},look fr s = some v→v.men i = true→bY i fr = true
  | [],_,_,_,h,_=>by simp [look] at h
  | (t,x)::r,s,v,i,h,hi=>by
    rcases aB h with ⟨_,rfl⟩ | ⟨_,h⟩
    ·simp [bY,hi]
    ·simp only [bY,rZ h hi,Bool.or_true]
theorem ObjRep.mv{id : Nat}{e : AObj}{s s2 : Sto}(h : ∀ i,e.men i = true→look s2 i = look s i∧φ' i = φ i)(hφ : φ' id = φ id)(hr : ObjRep σ φ s w id e) : ObjRep σ φ' s2 w id e:=by
 cases e with
 | box cs =>
   obtain ⟨B,c,vs,t,h1,h2,h3,h4⟩:=hr
   exact ⟨B,c,vs,t,hφ.trans h1,h2,oY h h3,h4⟩
 | row k b xs =>
   rcases hr with ⟨h1,h2⟩ | ⟨B,cap,arr,t,vs,h1,h2⟩
   ·exact .inl ⟨h1,hφ.trans h2⟩
   ·exact .inr ⟨B,cap,arr,t,vs,hφ.trans h1,h2⟩
 | map kg vg es =>
   obtain ⟨B,c,ents,h1,h2⟩:=hr
   exact ⟨B,c,ents,hφ.trans h1,h2⟩
 | loop li fr st p =>
   obtain ⟨B,c,r,h1,h2,h3,h4,h5⟩:=hr
   refine ⟨B,c,r,hφ.trans h1,h2,h3,fun s v hv=>?_,h5⟩
   obtain ⟨u,hu,hru⟩:=h4 s v hv
   refine ⟨u,hu,RepV.mv (fun i hi=>h i ?_) hru⟩
   exact rZ hv hi
theorem HInv.pinned{o1 s : Sto}(ho : fe 1000000 o1 = true)(hs : gI s)(hin : bL s s = true)(h : HInv σ φ (o1 ++ s) w) : HInv σ φ s w:=by
 have hl : ∀ {i : Nat},bQ s i = true→look s i = look (o1 ++ s) i:=fun {i} hi=>by
  obtain ⟨e,he⟩:=gJ hi
  rw [ec ho (hs _ _ he)]
 refine ⟨h.sig,fun i e hi=>?_,fun i i' e e' p p' hi hi'=>?_⟩
 ·refine ObjRep.mv (fun j hj=>⟨hl (qK (ff hin hi) j hj),rfl⟩) rfl (h.obj i e ?_)
  rw [ec ho (hs _ _ hi)]; exact hi
 ·exact h.inj _ _ _ _ _ _ (by rw [ec ho (hs _ _ hi)]; exact hi) (by rw [ec ho (hs _ _ hi')]; exact hi')
def kf(s : Sto) : Prop:=∃ li fr st p,look s 1000000 = some (.loop li fr st p)
theorem Rel.callW{o1 s s' : Sto}{a : Act}{rav : AV}{v : Value}{dst : Option Nat}(hr : Rel c ⟨fr,o1 ++ s⟩ a w σ φ)(hd : bu c.n dst = true)(ho : (fe 1000000 o1 && jS o1 && ib fr) = true)(hs : gI s)(hs' : gI s')(hin' : bL s' s' = true)
  (hlp : kf s) (hlp' : kf s') (hfl : eV rav = true) (hret : RetP rav s' w σ φ (MOf φ s) v w' σ' φ') : Rel c ⟨bX dst rav fr,o1 ++ s'⟩ (a.put dst v) w' σ' (fun i=>if 1000000≤i then φ' i else φ i):=by
 simp only [Bool.and_eq_true] at ho
 obtain ⟨⟨ho,hoc⟩,hfc⟩:=ho
 have hpin : ∀ i,1000000≤i→(fun i=>if 1000000≤i then φ' i else φ i) i = φ' i:=fun i hi=>by simp [hi]
 have hsm : ∀ i : Nat,i < 1000000→(fun i=>if 1000000≤i then φ' i else φ i) i = φ i:=by
  intro i hi
  have h9 : ¬ 1000000≤i:=by omega
  simp [h9]
 have hpn : φ' 1000000 = φ 1000000:=hret.pin 1000000 ⟨Nat.le_refl _,by omega⟩
 generalize hφ : (fun i=>if 1000000≤i then φ' i else φ i) = φn at hpin hsm ⊢
 have hold : ∀ {i e},look s i = some e→look (o1 ++ s) i = some e:=fun {i e} hi=>by rw [ec ho (hs _ _ hi)]; exact hi
 have hownl : ∀ {i e},look o1 i = some e→look (o1 ++ s) i = some e:=fun {i e} hi=>by rw [g6 hs (j9 ho hi)]; exact hi
 have hM : ∀ b,MOf φ s b→∃ i e p,look (o1 ++ s) i = some e∧1000000≤i∧φ i = some p∧p.1 = b:=by
  rintro b ⟨i,e,p,h1,h2,h3⟩
  exact ⟨i,e,p,hold h1,hs _ _ h1,h2,h3⟩
 have hsplit : ∀ {i e},look (o1 ++ s') i = some e→(i < 1000000∧look o1 i = some e)∨(1000000≤i∧look s' i = some e):=by
  intro i e hi
  rcases Nat.lt_or_ge i 1000000 with h | h
  ·exact .inl ⟨h,by rwa [g6 hs' h] at hi⟩
  ·exact .inr ⟨h,by rwa [ec ho h] at hi⟩
 obtain ⟨li,lf,ls,lp,hL⟩:=hlp
 obtain ⟨li',lf',ls',lp',hL'⟩:=hlp'
 have hE : Ext (fun i=>1000000 < i) φ φn (o1 ++ s) (o1 ++ s'):=by
  intro i hi
  rcases Nat.lt_or_ge i 1000000 with h | h
  ·rw [g6 hs' h,g6 hs h]
   cases hl : look o1 i with
   | none=>exact .inl rfl
   | some e=>exact .inr ⟨e,rfl,hsm i h,e,rfl,compat.refl _⟩
  ·have : i = 1000000:=by omega
   subst this
   exact .inr ⟨.loop li lf ls lp,hold hL,(hpin _ (Nat.le_refl _)).trans hpn,.loop li' lf' ls' lp',by rw [ec ho (Nat.le_refl _)]; exact hL',trivial⟩
 have hnot : ∀ {i e p},look o1 i = some e→φ i = some p→¬ MOf φ s p.1:=by
  intro i e p hi hp hm
  obtain ⟨j,e',q,h1,h2,h3,h4⟩:=hM _ hm
  exact hr.inv.inj _ _ _ _ _ _ (hownl hi) h1 (by have:=j9 ho hi; omega) hp h3 h4.symm
 have hinv : HInv σ' φn (o1 ++ s') w':=by
  refine ⟨hret.inv.sig,fun i e hi=>?_,fun i i' e e' p p' hi hi' hne hp hp'=>?_⟩
  ·rcases hsplit hi with ⟨h1,h2⟩ | ⟨h1,h2⟩
   ·have hob:=hr.inv.obj _ _ (hownl h2)
    refine hob.ext hret.le hE (fun j hj=>oX hoc h2 j hj) (hsm i h1) fun B cc hB=>?_
    have hlt:=hob.lt hB
    have hn:=hnot h2 hB
    refine ⟨hret.kept.block B hlt hn,?_⟩
    have hn0 : σ B = none:=by
     cases e with
     | box cs=>obtain ⟨_,_,_,_,q1,_,_,q4⟩:=hob; rw [hB] at q1; cases q1; exact q4
     | row k b xs =>
       rcases hob with ⟨_,q⟩ | ⟨_,_,_,_,_,q1,_,_,_,_,_,_,_,_,q4⟩
       ·rw [hB] at q; cases q
       ·rw [hB] at q1; cases q1; exact q4
     | map kg vg es=>obtain ⟨_,_,_,q1,_,_,q4⟩:=hob; rw [hB] at q1; cases q1; exact q4
     | loop li fr st p=>obtain ⟨_,_,_,q1,_,_,_,q4⟩:=hob; rw [hB] at q1; cases q1; exact q4
    rw [hn0]
    cases hσ : σ' B with
    | none=>rfl
    | some x =>
      rcases hret.fresh B (by rw [hσ]; simp) with q | q | q
      ·exact absurd hn0 q
      ·exact absurd hlt (by simp only at q ⊢; omega)
      ·exact absurd q hn
   ·refine ObjRep.mv (s:=s') (fun j hj=>?_) (hpin i h1) (hret.inv.obj _ _ h2)
    obtain ⟨e2,he2⟩:=gJ (qK (ff hin' h2) j hj)
    have hj2:=hs' _ _ he2
    exact ⟨ec ho hj2,hpin j hj2⟩
  ·rcases hsplit hi with ⟨h1,h2⟩ | ⟨h1,h2⟩ <;> rcases hsplit hi' with ⟨h3,h4⟩ | ⟨h3,h4⟩
   ·rw [hsm i h1] at hp; rw [hsm i' h3] at hp'; exact hr.inv.inj _ _ _ _ _ _ (hownl h2) (hownl h4) hne hp hp'
   ·rw [hsm i h1] at hp; rw [hpin i' h3] at hp'
    rcases hret.mine _ _ _ h4 hp' with q | q
    ·have:=(hr.inv.obj _ _ (hownl h2)).lt hp; omega
    ·intro e0; exact hnot h2 hp (e0 ▸ q)
   ·rw [hpin i h1] at hp; rw [hsm i' h3] at hp'
    rcases hret.mine _ _ _ h2 hp with q | q
    ·have:=(hr.inv.obj _ _ (hownl h4)).lt hp'; omega
    ·intro e0; exact hnot h4 hp' (e0 ▸ q)
   ·rw [hpin i h1] at hp; rw [hpin i' h3] at hp'; exact hret.inv.inj _ _ _ _ _ _ h2 h4 hne hp hp'
 have hMc : ∀ {b},MOf φ s b→c.w0.heap.size≤b∨c.M b:=by
  intro b hb
  obtain ⟨j,e',q,h1,h2,h3,rfl⟩:=hM _ hb
  exact hr.mine _ _ _ h1 h3
 refine hr.putTo (st':=⟨fr,o1 ++ s'⟩) hd (Sig.le_trans hr.le hret.le) (fun b hb=>?_) hinv (fun i e p hi hp=>?_) ⟨hret.kept.os.trans hr.fra.os,hret.kept.tape.trans hr.fra.tape,hret.kept.output.trans hr.fra.output,Nat.le_trans hr.fra.size hret.kept.size,Nat.le_trans hr.fra.drawn hret.kept.drawn,fun b hb hM'=>?_⟩ (fun i hi=>(hpin i hi.1).trans ((hret.pin i hi).trans (hr.pin i hi)))
  (fun _=>oZ hfl hret.rep) (fun t x _ hx=>⟨x,hx,fun z hz=>?_⟩)
 ·rcases hret.fresh b hb with q | q | q
  ·exact hr.fresh b q
  ·exact .inr (.inl (Nat.le_trans hr.fra.size q))
  ·exact .inr (hMc q)
 ·rcases hsplit hi with ⟨h1,h2⟩ | ⟨h1,h2⟩
  ·rw [hsm i h1] at hp; exact hr.mine _ _ _ (hownl h2) hp
  ·rw [hpin i h1] at hp
   rcases hret.mine _ _ _ h2 hp with q | q
   ·exact .inl (Nat.le_trans hr.fra.size q)
   ·exact hMc q
 ·rw [hret.kept.block b (Nat.lt_of_lt_of_le hb hr.fra.size) (fun hm=>?_)]
  ·exact hr.fra.block b hb hM'
  ·rcases hMc hm with q | q
   ·omega
   ·exact hM' q
 ·exact RepV.ext hret.le hE (fun i hi=>qn (oW hfc hx) i hi) hz
theorem mj{o1 s : Sto}(ho : fe 1000000 o1 = true)(hs : gI s) : ∀ {avs : List AV} {vs : List Value},dD s avs = true→All2 (RepV σ φ (o1 ++ s)) avs vs→All2 (RepV σ φ s) avs vs
 | [],[],_,_=>trivial
 | x::r,v::vs,h,ha=>by
   simp only [dD,Bool.and_eq_true] at h
   refine ⟨RepV.mv (fun i hi=>⟨?_,rfl⟩) ha.1,mj ho hs h.2 ha.2⟩
   obtain ⟨e,he⟩:=gJ (wL h.1 i hi)
   rw [ec ho (hs _ _ he)]
 | [],_::_,_,ha=>ha.elim
 | _::_,[],_,ha=>ha.elim
theorem yR(o1 : Sto){d : Nat}{s s' : Sto}{fop : Operand}{args : Array Operand}{ats : Array TypeId}{f : FuncId}{avs : List AV}{rav : AV}(hC : CallA P f avs s rav s')(hs : gI s)(hs' : gI s')(hin : bL s s = true)(hin' : bL s' s' = true)(hlp : kf s)(hlp' : kf s')
  (hsto : sto = o1 ++ s) (ho : o.op = .call { callee:=.value fop,args:=args,argTypes:=ats }) (hg : o.guard = none) (hdst : o.dst = some d) (hd : Nat.blt d n = true) (hf : ev ⟨fr,sto⟩ fop = some (.one (.d (.fn f []))))
  (ha : evL ⟨fr,sto⟩ args.toList = some avs) (hai : dD s avs = true) (hk : (fe 1000000 o1 && jS o1 && ib fr) = true) (hfl : eV rav = true)
  (h : ao P ⟨w0,σ0,φ0,M,n,rd,mk⟩ ops rest ⟨(d,rav)::fr,o1 ++ s'⟩ K) : ao P ⟨w0,σ0,φ0,M,n,rd,mk⟩ ops (o::rest) ⟨fr,sto⟩ K:=by
 subst hsto
 refine j8 hg fun a w σ φ hr=>?_
 have hfr:=bh hr hf
 replace hfr:=RepC.d_inv hfr
 generalize hfe : a.eval fop = fv at hfr
 have hk':=hk
 simp only [Bool.and_eq_true] at hk'
 cases hfr with
 | fn cs hl hcs =>
   have : cs = []:=by cases cs with | nil=>rfl | cons _ _=>simp at hl
   subst this
   have hargs:=mj hk'.1.1 hs hai (gm hr ha)
   refine ⟨f,_,_,nK ho hfe hC.fn,hC.run w σ φ _ (HInv.pinned hk'.1.1 hs hin hr.inv) (by rw [List.append_nil]; exact hargs),?_⟩
   rintro e w' ⟨v,σ',φ',rfl,hret⟩
   refine ⟨v,_,σ',_,rfl,hr.callW (dst:=o.dst) (by rw [hdst]; exact hd) hk hs hs' hin' hlp hlp' hfl hret,?_⟩
   rw [hdst]; exact h
theorem DJ(o1 : Sto){d : Nat}{s s' : Sto}{fop : Operand}{args : Array Operand}{ats : Array TypeId}{avs : List AV}{rav : AV}(hY : YieldA P 1000000 avs s rav s')(hs : gI s)(hs' : gI s')(hin : bL s s = true)(hin' : bL s' s' = true)(hlp : kf s)(hlp' : kf s')
  (hsto : sto = o1 ++ s) (hrd : rd = none) (ho : o.op = .call { callee:=.value fop,args:=args,argTypes:=ats }) (hg : o.guard = none) (hdst : o.dst = some d) (hd : Nat.blt d n = true) (hf : ev ⟨fr,sto⟩ fop = some (.one (.yl 1000000)))
  (ha : evL ⟨fr,sto⟩ args.toList = some avs) (hai : dD s avs = true) (hk : (fe 1000000 o1 && jS o1 && ib fr) = true) (hfl : eV rav = true)
  (h : ao P ⟨w0,σ0,φ0,M,n,rd,mk⟩ ops rest ⟨(d,rav)::fr,o1 ++ s'⟩ K) : ao P ⟨w0,σ0,φ0,M,n,rd,mk⟩ ops (o::rest) ⟨fr,sto⟩ K:=by
 subst hsto
 intro a w σ φ Q hr hQ
 have hk':=hk
 simp only [Bool.and_eq_true] at hk'
 have hfr : RepC σ φ (o1 ++ s) (.yl 1000000) (a.eval fop):=bh hr hf
 generalize hfe : a.eval fop = fv at hfr
 obtain ⟨li,lf,ls,lp,hL⟩:=hlp
 have hl0 : look (o1 ++ s) 1000000 = some (.loop li lf ls lp):=by rw [ec hk'.1.1 (Nat.le_refl _)]; exact hL
 cases hfr with
 | dead hxx _=>simp [ci,bQ,hl0] at hxx
 | yl hl hp =>
   rename_i B cap li2 fr2 s2 p2
   obtain ⟨fn,tmps,assign,body,hy,hR⟩:=hY.run w σ φ _ B cap (HInv.pinned hk'.1.1 hs hin hr.inv) hp (mj hk'.1.1 hs hai (gm hr ha))
   refine wpListIn_plain hg fun K' hK=>⟨fun f _=>gO _ f,?_⟩
   rw [iQ (by simp) (uA ho hfe hy),Oper.uponIn_round,gH (c:=⟨w0,σ0,φ0,M,n,rd,mk⟩) hrd]
   refine ⟨fun h=>by simp [Fence.wide] at h,hR.mono fun e w' he=>?_⟩
   obtain ⟨v,σ',φ',rfl,hret⟩:=he
   refine hK _ _ (h _ _ σ' (fun i=>if 1000000≤i then φ' i else φ i) _ ?_ hQ)
   have:=hr.callW (dst:=o.dst) (by rw [hdst]; exact hd) hk hs hs' hin' ⟨li,lf,ls,lp,hL⟩ hlp' hfl hret
   rw [hdst] at this ⊢; exact this
end Go.Abs
namespace Go.Abs
open Go
variable {P : Program} {V : Env} {T : Tab} {c : Ctx} {w0 : World} {σ0 : Sig} {φ0 : Pl} {M : Nat→Prop} {n : Nat} {rd : Option Nat} {mk : List Deferred} {ops : Array Oper} {o : Oper} {rest : List Oper} {fr : List (Nat×AV)} {sto : Sto} {K : St→Prop} {st st0 : St} {acc : List Tr}
theorem vO{t : TypeId}{x y : Operand}{a b v : AV}(ho : o.op = .index t x y)(hs : de V.T st o 0 = none)(hx : ev st x = some a)(hy : ev st y = some b)(h : vQ V.T t (some b) (some a) = some v) : bw V st o 0 = some ⟨v,[],[]⟩:=by
 simp only [bw,hs,ho,hx,hy,h]
theorem j4(hV : EnvOk P V)(id : Nat){d : Nat}{v : AV}{wr : List (Nat×Option AObj)}{nw : List Nat}(hg : o.guard = none)(hdst : o.dst = some d)(hd : Nat.blt d c.n = true)(h : bw V ⟨fr,sto⟩ o id = some ⟨v,wr,nw⟩)(hid : Nat.blt (id + 1) 1000000 = true)(hf : dZ ⟨fr,sto⟩ nw = true)
  (k : aU P c ops st0 rest ⟨(d,v)::fr,c4 wr sto⟩ (⟨v,wr,qF ⟨fr,sto⟩ o.op,nw⟩::acc) K) : aU P c ops st0 (o::rest) ⟨fr,sto⟩ acc K :=
 lH hg (lD hV (by rw [hdst]; exact hd) h hid) (by rw [hdst]; exact k)
theorem ca(hV : EnvOk P V){v : AV}{wr : List (Nat×Option AObj)}(hg : o.guard = none)(hdst : o.dst = none)(h : bw V ⟨fr,sto⟩ o 0 = some ⟨v,wr,[]⟩)
  (k : aU P c ops st0 rest ⟨fr,c4 wr sto⟩ (⟨v,wr,qF ⟨fr,sto⟩ o.op,[]⟩::acc) K) : aU P c ops st0 (o::rest) ⟨fr,sto⟩ acc K :=
 lH hg (lD hV (by rw [hdst]; rfl) h rfl) (by rw [hdst]; exact k)
def OkR(P : Program)(c : Ctx)(bl : Nat)(g : Operand)(ps : Array Nat)(assign body rest : Code)(st : St)(Q : Exit→St→Prop) : Prop :=
 ∀ (a : Act) (w : World) (σ : Sig) (φ : Pl),Rel c st a w σ φ→(Code.block bl (.rangeFunc g ps assign body)).wpIn (fnc c) 0 P
   (Exit.then (rest.wpIn (fnc c) 0 P fun e a' w'=>∃ st' σ' φ',Q e st'∧RelE c e st' a' w' σ' φ') fun e a' w'=>∃ st' σ' φ',Q e st'∧RelE c e st' a' w' σ' φ') a w
def lI(R : St→Prop)(e : Exit)(st : St) : Prop:=e = .normal∧R st
theorem vR{R : St→Prop}(h : R st) : lI R .normal st:=⟨rfl,h⟩
def ov(Q : Exit→St→Prop)(e : Exit)(st : St) : Prop:=e = .ret∧Q .ret st
theorem vS{Q : Exit→St→Prop}(h : Q .ret st) : ov Q .ret st:=⟨rfl,h⟩
theorem ox{bl : Nat}{g : Operand}{ps : Array Nat}{x assign body rest : Code}{Q : Exit→St→Prop}(h : OkC P c x st (lI fun st1=>OkR P c bl g ps assign body rest st1 Q)) : OkC P c (.seq (.seq x (.block bl (.rangeFunc g ps assign body))) rest) st Q:=by
 intro a w σ φ hr
 refine wpIn_seq (wpIn_seq (wpIn_mono (h a w σ φ hr) ?_))
 rintro e a1 w1 ⟨st1,σ1,φ1,⟨rfl,hR⟩,hre⟩
 exact hR a1 w1 σ1 φ1 (hre.rel (by simp))
theorem oy{g : Operand}{ps : Array Nat}{assign body rest : Code}{bl : Nat}{Q : Exit→St→Prop}{f : FuncId}{caps : List D}{os : List (Nat×AObj)}{rav : AV}{liR : LI}{frR : List (Nat×AV)}{s' : LoopState}{p' : Option Code}{rs : Sto}(ids : List Nat)(idl : Nat)
  (hrd : c.rd = none) (hmk : c.mks = []) (hg : ev st g = some (.one (.d (.fn f caps)))) (hos : gY st.sto ids = some os)
  (hC : CallA P f ((.one (.yl 1000000))::caps.map fun x=>.one (.d x)) ((1000000,.loop ⟨c.n,ps,assign,body⟩ (dj (inv 1000000 (idl::ids)) (cx ids st.fr [])) .ready none)::gp (inv 1000000 (idl::ids)) os) rav ((1000000,.loop liR frR s' p')::rs))
  (hb : oz st ids idl ⟨c.n,ps,assign,body⟩ os caps rav 1000000 liR frR s' p' rs = true)
  (h1 : p' = none→∀ c1,vT c c1→OkC P c1 rest ⟨st.fr,iN (idl + 1) (cb 1000000 (idl::ids)) rs st.sto⟩ (ov Q))
  (h2 : p' = some .ret→Q .ret ⟨st.fr,iN (idl + 1) (cb 1000000 (idl::ids)) rs st.sto⟩) : OkR P c bl g ps assign body rest st Q:=by
 intro a w σ φ hr
 unfold oz at hb
 simp only [Bool.and_eq_true,Bool.not_eq_true'] at hb
 obtain ⟨⟨⟨⟨⟨⟨⟨⟨hj,hall⟩,hni⟩,hcm⟩,hk⟩,hi⟩,hfr⟩,hbu⟩,hp⟩:=hb
 have hren : dj (rn (idl + 1) (cb 1000000 (idl::ids))) (dj (inv 1000000 (idl::ids)) (cx ids st.fr [])) = cx ids st.fr [] :=
  lB fun i hi=>oq (by simp only [cC,Bool.or_eq_true]; exact .inr (jj i hi))
 have hne : ∀ i∈ids,i≠idl:=by
  intro i hmem e
  rw [e] at hmem
  rw [memL_iff.2 hmem] at hni; cases hni
 have e : dj (rn (idl + 1) ((1000000,idl)::cb 1000001 ids)) (dj (inv 1000000 (idl::ids)) (cx ids st.fr [])) = cx ids st.fr []:=hren
 have hX:=ud (P:=P) (c:=c) (st:=st) (g:=g) (ps:=ps) (assign:=assign) (body:=body) (k:=idl + 1) (idl:=idl) (ρ:=cb 1000001 ids) hrd hmk hg hC (fun s v hv=>by rw [e] at hv; exact (gj hv).2)
  (jc (s:=(idl,_)::st.sto) ((jb (s:=st.sto) fun i hi=>bx (hne i hi)).trans hos) hall)
  (ir (s:=(idl,.loop ⟨c.n,ps,assign,body⟩ (cx ids st.fr []) .ready none)::st.sto) (fun j i _=>by
   show look ((idl,AObj.loop _ _ _ _)::st.sto) i = _
   rw [e]) hcm) hk (by
   rw [e]
   simp only [Bool.and_eq_true,Bool.not_eq_true']
   exact hi) (fun i h1 h2=>eE hfr i (rng_mem.2 ⟨h1,h2⟩)) (by rintro rfl; cases hbu) (by
   unfold pOk at hp
   split at hp
   ·exact .inl rfl
   ·exact .inr rfl
   ·cases hp) a w σ φ hr
 refine wpIn_block (wpIn_mono hX ?_)
 rintro x a' w' (⟨hp0,rfl,c1,σ',φ',hg1,hr1⟩ | ⟨hp0,rfl,σ',φ',hr1⟩)
 ·have hc:=h1 hp0 c1 hg1 a' w' σ' φ' hr1
  have hf : fnc c1 = fnc c:=by rw [gH hg1.2.1,gH hrd]
  rw [hf] at hc
  refine wpIn_mono hc ?_
  rintro x a2 w2 ⟨s2,σ2,φ2,⟨rfl,hq⟩,hre⟩
  refine ⟨s2,σ2,φ2,hq,?_⟩
  rcases hre with h5 | ⟨_,r,_,_,_,h5⟩
  ·exact hg1.2.2.2 _ _ _ _ _ h5
  ·exact absurd h5.defers.symm hg1.2.2.1
 ·exact ⟨_,σ',φ',h2 hp0,hr1⟩
structure FamW {α : Type} (E : α→Sto) : Prop where
 big : ∀ a,gI (E a)
 ins : ∀ a,bL (E a) (E a) = true
 lp : ∀ a,kf (E a)
 nd : ∀ a,cO (bJ (E a)) = true
theorem yC{α : Type}{l : List (Nat×α)} : ∀ {t : List (Nat×α)},(∀ q∈t,look l q.1 = some q.2)→SubL l t
 | [],_=>trivial
 | (i,x)::t,h=>⟨h _ List.mem_cons_self,yC fun q hq=>h q (List.mem_cons_of_mem _ hq)⟩
theorem vU : ∀ {s : Sto} {q : Nat×AObj},q∈s→cC q.1 (bJ s) = true
 | p::r,q,h=>by
   obtain ⟨i,x⟩:=p
   rcases List.mem_cons.1 h with rfl | h
   ·simp [bJ,cC]
   ·simp [bJ,cC,vU h]
theorem yD : ∀ {s : Sto},cO (bJ s) = true→∀ q∈s,look s q.1 = some q.2
 | (i,x)::r,h,q,hq=>by
   simp only [bJ,cO,Bool.and_eq_true,Bool.not_eq_true'] at h
   rcases List.mem_cons.1 hq with rfl | hq
   ·simp [look]
   ·have hm:=vU hq
    have hne : Nat.beq i q.1 = false:=by
     cases hb : Nat.beq i q.1 with
     | false=>rfl
     | true =>
       have:=Nat.eq_of_beq_eq_true hb
       subst this
       rw [h.1] at hm; cases hm
    simp only [look,hne,cond_false]
    exact yD h.2 q hq
theorem CQ{o1 s : Sto}(ho : fe 1000000 o1 = true)(hs : gI s)(hn : cO (bJ s) = true) : SubL (o1 ++ s) s :=
 yC fun q hq=>by
  have h:=yD hn q hq
  rw [ec ho (hs _ _ h)]; exact h
theorem EU{α β : Type}{E : α→Sto}(hE : FamW E)(g : β→α){body : Code}{Q : Exit→St→Prop}(o1 : Sto)(kept : List (Nat×AV))(hk : SubL fr kept)(L : β→List (Nat×AV))(Inv : β→Prop)(μ : β→Nat)(x0 : β)(hsto : sto = o1 ++ E (g x0))(ho : fe 1000000 o1 = true)(hL : SubL fr (L x0))(h0 : Inv x0)
  (hround : ∀ x,Inv x→OkC P c body ⟨L x ++ kept,o1 ++ E (g x)⟩ (bg (fun st'=>∃ y o2,Inv y∧μ y < μ x∧st'.sto = o2 ++ E (g y)∧fe 1000000 o2 = true∧SubL o2 o1∧SubL st'.fr (L y)∧SubL st'.fr kept) Q)) : OkC P c (.loop body) ⟨fr,sto⟩ Q:=by
 subst hsto
 have hap : ∀ {f a b : List (Nat×AV)},SubL f a→SubL f b→SubL f (a ++ b):=by
  intro f a b h1 h2
  induction a with
  | nil=>exact h2
  | cons p r ih=>exact ⟨h1.1,ih h1.2⟩
 have hdr : ∀ {f : List (Nat×AV)} {o2 s : Sto},gI s→fe 1000000 o2 = true→SubL o2 o1→Imp c ⟨f,o2 ++ s⟩ ⟨f,o1 ++ s⟩:=fun hs h2 h a w σ φ hr=>⟨σ,φ,hr.dropTo fun i e hi=>by
  show look (_ ++ _) i = some e
  rcases Nat.lt_or_ge i 1000000 with h3 | h3
  ·rw [g6 hs h3] at hi ⊢; exact h.look hi
  ·rw [ec ho h3] at hi; rw [ec h2 h3]; exact hi⟩
 refine dI (st':=⟨L x0 ++ kept,o1 ++ E (g x0)⟩) (iI (hap hL hk)) ?_
 refine mC (fun n st=>∃ x,Inv x∧n = μ x∧st = ⟨L x ++ kept,o1 ++ E (g x)⟩) (μ x0) ⟨x0,h0,rfl,rfl⟩ ?_
 rintro n st ⟨x,hx,rfl,rfl⟩
 refine iO (hround x hx) fun e st h=>?_
 cases e with
 | normal =>
   obtain ⟨y,o2,hy,hlt,hs,h4,h5,h1,h2⟩:=h
   obtain ⟨f,s⟩:=st
   simp only at hs h1 h2
   subst hs
   exact ⟨μ y,_,hlt,⟨y,hy,rfl,rfl⟩,Imp.trans (iI (hap h1 h2)) (hdr (hE.big (g y)) h4 h5)⟩
 | _=>exact h
def qJ(r : Nat→Nat) : List Nat→Bool
 | []=>true
 | i::l=>(!(Nat.ble 1000000 (r i) && Nat.blt (r i) 2000000) || Nat.beq (r i) i) && qJ r l
theorem sR{r : Nat→Nat} : ∀ {l : List Nat},qJ r l = true→∀ {i : Nat},i∈l→Pin (r i)→r i = i
 | j::l,h,i,hi,hb=>by
   simp only [qJ,Bool.and_eq_true,Bool.or_eq_true,Bool.not_eq_true'] at h
   rcases List.mem_cons.1 hi with rfl | hi
   ·rcases h.1 with h1 | h1
    ·rw [Nat.ble_eq.mpr hb.1,Nat.blt_eq.mpr hb.2] at h1; cases h1
    ·exact Nat.eq_of_beq_eq_true h1
   ·exact sR h.2 hi hb
theorem sS(r : Nat→Nat)(hk : (cO (bJ sto) && cO (im r (bJ sto)) && qJ r (bJ sto) && bL sto sto && io sto fr) = true) : Imp c ⟨fr,sto⟩ ⟨dj r fr,fI r sto⟩:=by
 intro a w σ φ hr
 simp only [Bool.and_eq_true] at hk
 obtain ⟨⟨⟨⟨h1,h2⟩,h3⟩,h4⟩,h5⟩:=hk
 classical
 let φ' : Pl:=fun t=>if h : ∃ i,i∈bJ sto∧r i = t then φ h.choose else φ t
 have hφ : ∀ {i : Nat},i∈bJ sto→φ' (r i) = φ i:=by
  intro i hi
  have hex : ∃ j,j∈bJ sto∧r j = r i:=⟨i,hi,rfl⟩
  show (if h : ∃ j,j∈bJ sto∧r j = r i then φ h.choose else φ (r i)) = φ i
  rw [dif_pos hex]
  have:=hex.choose_spec
  rw [lJ h2 this.1 hi this.2]
 have hR : ∀ j o,look sto j = some o→look (fI r sto) (r j) = some (cS r o)∧φ' (r j) = φ j:=fun j o hj=>⟨lK h2 hj,hφ (lc hj)⟩
 refine ⟨σ,φ',hr.le,hr.fresh,⟨hr.inv.sig,fun t e ht=>?_,fun t t' e e' p p' ht ht' hne hp hp'=>?_⟩,fun t e p ht hp=>?_,fun s v hv=>?_,hr.defers,hr.size,hr.fra,fun t ht=>?_⟩
 ·obtain ⟨i,o,rfl,hi,rfl⟩:=dJ h1 ht
  exact ve hR hi (ff h4 hi) (hr.inv.obj _ _ hi)
 ·obtain ⟨i,o,rfl,hi,rfl⟩:=dJ h1 ht
  obtain ⟨i',o',rfl,hi',rfl⟩:=dJ h1 ht'
  rw [(hR _ _ hi).2] at hp
  rw [(hR _ _ hi').2] at hp'
  exact hr.inv.inj _ _ _ _ _ _ hi hi' (fun e=>hne (by rw [e])) hp hp'
 ·obtain ⟨i,o,rfl,hi,rfl⟩:=dJ h1 ht
  rw [(hR _ _ hi).2] at hp
  exact hr.mine _ _ _ hi hp
 ·rw [jk] at hv
  cases hl : look fr s with
  | none=>rw [hl] at hv; cases hv
  | some v0 =>
    rw [hl] at hv; cases hv
    obtain ⟨u,hu,hru⟩:=hr.slot s v0 hl
    exact ⟨u,hu,reV hR (kh h5 hl) hru⟩
 ·show (if h : ∃ j,j∈bJ sto∧r j = t then φ h.choose else φ t) = _
  split
  ·rename_i hex
   have hs:=hex.choose_spec
   have:=sR h3 hs.1 (by rw [hs.2]; exact ht)
   rw [hs.2] at this
   rw [← this]; exact hr.pin t ht
  ·exact hr.pin t ht
theorem rE{i : Nat} : ∀ {a b : Sto},br i (a ++ b) = (br i a || br i b)
 | [],_=>by simp [br]
 | p::r,b=>by simp only [List.cons_append,br,rE (a:=r),Bool.or_assoc]
theorem rF{s t : Sto}(hs : gI s){i : Nat}(hi : i < 1000000) : ∀ {l : Sto},bL s l = true→br i l = false
 | [],_=>rfl
 | (j,e)::r,h=>by
   simp only [bL,Bool.and_eq_true] at h
   simp only [br]
   rw [rF (t:=t) hs hi h.2,Bool.or_false]
   cases hm : e.men i with
   | false=>rfl
   | true =>
     obtain ⟨e',he⟩:=gJ (qK h.1 i hm)
     have:=hs _ _ he; omega
theorem Bp{o1 s : Sto}(hs : gI s)(hin : bL s s = true){id : Nat}(h : (Nat.blt id 1000000 && (!bQ o1 id && !bY id fr && !br id o1)) = true) : (Nat.blt id 1000000 && (!bQ (o1 ++ s) id && !bY id fr && !br id (o1 ++ s))) = true:=by
 simp only [Bool.and_eq_true,Bool.not_eq_true',Nat.blt_eq] at h ⊢
 obtain ⟨h1,⟨h2,h3⟩,h4⟩:=h
 refine ⟨h1,⟨?_,h3⟩,?_⟩
 ·unfold bQ at h2 ⊢; rw [g6 hs h1]; exact h2
 ·rw [rE,h4,rF (t:=s) hs h1 hin]; rfl
theorem Gg(o1 : Sto)(id : Nat){s : Sto}(hs : gI s)(hin : bL s s = true){d : Nat}{t : TypeId}{x : Operand}{v : AV}{cs : List AC}(hsto : sto = o1 ++ s)(ho : o.op = .box t x)(hg : o.guard = none)(hdst : o.dst = some d)(hdn : Nat.blt d n = true)(hd : (Nat.blt id 1000000 && (!bQ o1 id && !bY id fr && !br id o1)) = true)
  (hx : ev ⟨fr,sto⟩ x = some v) (hc : (match cellsOf v with | some cs'=>bif cH id cs' then none else some cs' | none=>none) = some cs)
  (h : ao P ⟨w0,σ0,φ0,M,n,rd,mk⟩ ops rest ⟨(d,.one (.ref id 0))::fr,(id,.box cs)::sto⟩ K) : ao P ⟨w0,σ0,φ0,M,n,rd,mk⟩ ops (o::rest) ⟨fr,sto⟩ K:=by
 subst hsto
 exact aM id ho hg hdst (by rw [hdn,Bool.true_and]; exact Bp hs hin hd) hx hc h
theorem CR(hT : bE P T)(o1 : Sto)(id : Nat){s : Sto}(hs : gI s)(hin : bL s s = true){d : Nat}{t : TypeId}{td : TD}(hsto : sto = o1 ++ s)(ho : o.op = .alloc t)(hg : o.guard = none)(hdst : o.dst = some d)(hdn : Nat.blt d n = true)(hd : (Nat.blt id 1000000 && (!bQ o1 id && !bY id fr && !br id o1)) = true)(ht : look T t = some td)
  (h : ao P ⟨w0,σ0,φ0,M,n,rd,mk⟩ ops rest ⟨(d,.one (.ref id 0))::fr,(id,.box (td.zero.map .d))::sto⟩ K) : ao P ⟨w0,σ0,φ0,M,n,rd,mk⟩ ops (o::rest) ⟨fr,sto⟩ K:=by
 subst hsto
 exact ax hT id ho hg hdst (by rw [hdn,Bool.true_and]; exact Bp hs hin hd) ht h
theorem Et{s : Sto}(h : kf s) : bQ s 1000000 = true:=by
 obtain ⟨li,fr,st,p,h⟩:=h
 simp [bQ,h]
theorem oA{rs : List ResultVar}{rav rav' : AV}{rsto s : Sto}{e : Exit}{l : List (Bool×List AC)}(o1 : Sto)(he : e = .ret∨e = .normal)(hsto : sto = o1 ++ s)(hl : ld T ⟨fr,sto⟩ rs = some l)(hr : np l = some rav')(h : rav' = rav∧s = rsto)(ho : fe 1000000 o1 = true)(hs : gI s)(hn : cO (bJ s) = true) : bA T rs rav rsto e ⟨fr,sto⟩:=by
 obtain ⟨h1,rfl⟩:=h
 subst hsto
 exact ⟨he,l,hl,by rw [hr,h1],CQ ho hs hn⟩
def db(P : Program)(id : Nat)(c : Ctx)(body : Code)(rav : AV)(rsto : Sto)(e : Exit)(st : St) : Prop :=
 e = .normal∧∃ li1 fr1,look st.sto id = some (.loop li1 fr1 .ready none)∧OkC P c body ⟨st.fr,cL id (.loop li1 fr1 .busy none) st.sto⟩ (c6 id rav rsto)
theorem eA{id : Nat}{body : Code}{rav : AV}{rsto : Sto}{li1 : LI}{fr1 : List (Nat×AV)}(hl : look st.sto id = some (.loop li1 fr1 .ready none))(h : OkC P c body ⟨st.fr,cL id (.loop li1 fr1 .busy none) st.sto⟩ (c6 id rav rsto)) : db P id c body rav rsto .normal st:=⟨rfl,_,_,hl,h⟩
theorem fJ{id : Nat}{rav : AV}{rsto : Sto}{li : LI}{fr1 : List (Nat×AV)}{p : Option Code}(hl : look st.sto id = some (.loop li fr1 .busy p))(hr : rav = .one (.d (.bool true)))(hs : SubL (cL id (.loop li fr1 .ready none) st.sto) rsto) : c6 id rav rsto .normal st :=
 ⟨li,fr1,p,hl,.inl ⟨rfl,hr,hs⟩⟩
theorem mD{id : Nat}{rav : AV}{rsto : Sto}{li : LI}{fr1 : List (Nat×AV)}{p : Option Code}{e : Exit}{j : Code}(hl : look st.sto id = some (.loop li fr1 .busy p))(hj : vV e = some j)(hr : rav = .one (.d (.bool false)))(hs : SubL (cL id (.loop li fr1 .done (some j)) st.sto) rsto) : c6 id rav rsto e st :=
 ⟨li,fr1,p,hl,.inr ⟨j,hj,hr,hs⟩⟩
theorem oB{id : Nat}{li : LI}{fr : List (Nat×AV)}{args : List AV}{sto : Sto}{rav : AV}{rsto : Sto}(hid : Pin id)(hl : look sto id = some (.loop li fr .ready none))
  (hps : (iv li.n li.params.toList && Nat.beq li.params.toList.length args.length) = true)
  (h : ∀ (w0 : World) (σ0 : Sig) (φ0 : Pl) (M : Nat→Prop) (B : Nat),OkC P ⟨w0,σ0,φ0,M,li.n,some B,[]⟩ li.assign ⟨fK li.params.toList args fr,sto⟩ (db P id ⟨w0,σ0,φ0,M,li.n,some B,[]⟩ li.body rav rsto)) : YieldA P id args sto rav rsto:=oC hid hl hps h
end Go.Abs
