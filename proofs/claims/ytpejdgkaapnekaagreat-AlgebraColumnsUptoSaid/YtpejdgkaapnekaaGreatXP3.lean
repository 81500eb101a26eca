import Derived.Test.YtpejdgkaapnekaaGreatXP2
set_option linter.unusedVariables false
set_option linter.unusedSimpArgs false
set_option maxHeartbeats 1000000
namespace Go.Abs
open Go
variable {P : Program} {c : Ctx} {T : Tab} {σ : Sig} {φ : Pl} {sto : Sto} {w : World}
theorem lz{ops : Array Oper}{o : Oper}{rest : List Oper}{st : St}{K : St→Prop}(hg : o.guard = none)
  (H : ∀ (a : Act) (w : World) (σ : Sig) (φ : Pl),Rel c st a w σ φ→∃ f vs R,(execOp a.eval o).run P w = .ok (.enter f vs) w∧Calls P f vs w R ∧
   ∀ e w',R e w'→∃ v st' σ' φ',e = .returned v∧Rel c st' (a.put o.dst v) w' σ' φ'∧ae P c ops rest st' K) : ae P c ops (o::rest) st K:=by
 intro a w σ φ Q hr hQ
 obtain ⟨f,vs,R,hrun,hcalls,hR⟩:=H a w σ φ hr
 refine wpListIn_plain hg fun K' hK=>⟨fun f _=>iC c f,?_⟩
 rw [jK (by simp) hrun,Oper.uponIn_enter]
 refine ⟨fun h=>by simp [fnc,Fence.wide] at h,(sZ hcalls).mono fun e w' he=>?_⟩
 obtain ⟨v,st',σ',φ',rfl,hr',hok⟩:=hR e w' he
 exact hK _ _ (hok _ _ _ _ _ hr' hQ)
def evL(st : St) : List Operand→Option (List AV)
 | []=>some []
 | x::r=>match ev st x with
   | some v=>match evL st r with
     | some l=>some (v::l)
     | none=>none
   | none=>none
theorem gQ{st : St}{a : Act}(hr : Rel c st a w σ φ) : ∀ {xs : List Operand} {vs : List AV},evL st xs = some vs→All2 (RepV σ φ st.sto) vs (xs.map a.eval)
 | [],vs,h=>by simp [evL] at h; subst h; trivial
 | x::r,vs,h=>by
   simp only [evL] at h
   split at h <;> (try (simp at h; done))
   rename_i v hv
   split at h <;> simp at h
   rename_i l hl
   subst h
   exact ⟨aI hr hv,gQ hr hl⟩
def gY : List AC→Bool
 | []=>true
 | .d _::r=>gY r
 | _::_=>false
def avD : AV→Bool
 | .one (.d _)=>true
 | .agg cs=>gY cs
 | _=>false
def cw : List AV→Bool
 | []=>true
 | v::r=>avD v && cw r
theorem A9{σ' : Sig}{φ' : Pl}{sto' : Sto}(hle : σ.le σ') : ∀ {cs : List AC} {vs : List Value},gY cs = true→All2 (RepC σ φ sto) cs vs→All2 (RepC σ' φ' sto') cs vs
 | [],[],_,_=>trivial
 | .d _::_,_::_,hd,h=>⟨by have h1:=RepC.d_inv h.1; exact .d (h1.mono hle),A9 hle (by simpa [gY] using hd) h.2⟩
 | [],_::_,_,h=>h.elim
 | _::_,[],_,h=>h.elim
 | .own _ _::_,_::_,hd,_=>by simp [gY] at hd
 | .sub _ _ _::_,_::_,hd,_=>by simp [gY] at hd
 | .ref _ _::_,_::_,hd,_=>by simp [gY] at hd
 | .rref _ _ _::_,_::_,hd,_=>by simp [gY] at hd
 | .junk::_,_::_,hd,_=>by simp [gY] at hd
 | .yl _::_,_::_,hd,_=>by simp [gY] at hd
 | .mapr _::_,_::_,hd,_=>by simp [gY] at hd
 | .bsl _ _ _::_,_::_,hd,_=>by simp [gY] at hd
theorem Kr{σ' : Sig}{φ' : Pl}{sto' : Sto}(hle : σ.le σ'){v : AV}{u : Value}(hd : avD v = true)(h : RepV σ φ sto v u) : RepV σ' φ' sto' v u:=by
 cases v with
 | one c =>
   cases c with
   | d x=>replace h:=RepC.d_inv h; exact RepC.d (h.mono hle)
   | _=>simp [avD] at hd
 | agg cs=>obtain ⟨us,rfl,h⟩:=h; exact ⟨us,rfl,A9 hle hd h⟩
 | tup _=>simp [avD] at hd
 | any=>simp [avD] at hd
theorem tE{σ' : Sig}{φ' : Pl}{sto' : Sto}(hle : σ.le σ') : ∀ {vs : List AV} {us : List Value},cw vs = true→All2 (RepV σ φ sto) vs us→All2 (RepV σ' φ' sto') vs us
 | [],[],_,_=>trivial
 | _::_,_::_,hd,h=>by
   simp only [cw,Bool.and_eq_true] at hd
   exact ⟨Kr hle hd.1 h.1,tE hle hd.2 h.2⟩
 | [],_::_,_,h=>h.elim
 | _::_,[],_,h=>h.elim
def eC(sto : Sto) : List AC→Bool
 | []=>true
 | c::r=>bG sto c && eC sto r
def wh(sto : Sto) : List (Bool×List AC)→Bool
 | []=>true
 | t::r=>eC sto t.2 && wh sto r
def c7(sto : Sto) : AV→Bool
 | .one c=>bG sto c
 | .agg cs=>eC sto cs
 | .tup ts=>wh sto ts
 | .any=>true
def jc(sto : Sto) : List (Nat×AV)→Bool
 | []=>true
 | (_,v)::r=>c7 sto v && jc sto r
def DN(sto : Sto) : AObj→Bool
 | .box cs=>eC sto cs
 | .loop _ fr _ _=>jc sto fr
 | _=>true
def bm(sto : Sto) : Sto→Bool
 | []=>true
 | (_,o)::r=>DN sto o && bm sto r
theorem lH{sto : Sto} : ∀ {l : List (Nat×AV)},jc sto l = true→∀ {s : Nat} {v : AV},look l s = some v→c7 sto v = true
 | [],_,_,_,h=>by simp [look] at h
 | (t,x)::r,hi,s,v,h=>by
   simp only [jc,Bool.and_eq_true] at hi
   rcases ai h with ⟨_,rfl⟩ | ⟨_,h⟩
   ·exact hi.1
   ·exact lH hi.2 h
theorem fA{sto : Sto} : ∀ {l : Sto},bm sto l = true→∀ {s : Nat} {o : AObj},look l s = some o→DN sto o = true
 | [],_,_,_,h=>by simp [look] at h
 | (t,x)::r,hi,s,v,h=>by
   simp only [bm,Bool.and_eq_true] at hi
   rcases ai h with ⟨_,rfl⟩ | ⟨_,h⟩
   ·exact hi.1
   ·exact fA hi.2 h
def iq(r : Nat→Nat) : AC→AC
 | .own i n=>.own (r i) n
 | .sub i lo n=>.sub (r i) lo n
 | .ref i off=>.ref (r i) off
 | .rref i j off=>.rref (r i) j off
 | .yl i=>.yl (r i)
 | .mapr i=>.mapr (r i)
 | .bsl i off n=>.bsl (r i) off n
 | .d x=>.d x
 | .junk=>.junk
def j7(r : Nat→Nat) : List AC→List AC
 | []=>[]
 | c::l=>iq r c::j7 r l
def pe(r : Nat→Nat) : List (Bool×List AC)→List (Bool×List AC)
 | []=>[]
 | (g,cs)::l=>(g,j7 r cs)::pe r l
def dD(r : Nat→Nat) : AV→AV
 | .one c=>.one (iq r c)
 | .agg cs=>.agg (j7 r cs)
 | .tup ts=>.tup (pe r ts)
 | .any=>.any
def c6(r : Nat→Nat) : List (Nat×AV)→List (Nat×AV)
 | []=>[]
 | (s,v)::l=>(s,dD r v)::c6 r l
def cG(r : Nat→Nat) : AObj→AObj
 | .box cs=>.box (j7 r cs)
 | .row a b xs=>.row a b xs
 | .map kg vg es=>.map kg vg es
 | .loop li fr s p=>.loop li (c6 r fr) s p
def cX(r : Nat→Nat) : List AV→List AV
 | []=>[]
 | v::l=>dD r v::cX r l
def fz(n : Nat) : Sto→Bool
 | []=>true
 | (i,_)::r=>Nat.blt i n && fz n r
def sr(k : Nat) : Sto→Bool
 | []=>true
 | (i,_)::r=>(Nat.blt i k || Nat.ble (k + 16) i) && sr k r
def EG(k : Nat) : AC→Bool
 | .own i _ | .sub i _ _ | .ref i _ | .rref i _ _ | .yl i | .mapr i | .bsl i _ _=>Nat.blt i k || Nat.ble (k + 16) i
 | _=>true
def oY(k : Nat) : List AC→Bool
 | []=>true
 | c::r=>EG k c && oY k r
def yC(k : Nat) : List (Bool×List AC)→Bool
 | []=>true
 | t::r=>oY k t.2 && yC k r
def IZ(k : Nat) : AV→Bool
 | .one c=>EG k c
 | .agg cs=>oY k cs
 | .tup ts=>yC k ts
 | .any=>true
def qf(k : Nat) : List (Nat×AV)→Bool
 | []=>true
 | p::r=>IZ k p.2 && qf k r
def I0(k : Nat) : AObj→Bool
 | .box cs=>oY k cs
 | .loop _ fr _ _=>qf k fr
 | _=>true
def vj(k : Nat) : Sto→Bool
 | []=>true
 | (_,o)::r=>I0 k o && vj k r
theorem xQ{k i : Nat}(h1 : k≤i)(h2 : i < k + 16){c : AC}(h : EG k c = true) : c.men i = false:=by
 have key : ∀ {j : Nat},(Nat.blt j k || Nat.ble (k + 16) j) = true→Nat.beq j i = false:=by
  intro j hj
  simp only [Bool.or_eq_true,Nat.blt_eq,Nat.ble_eq] at hj
  cases hb : Nat.beq j i with
  | false=>rfl
  | true=>have:=Nat.eq_of_beq_eq_true hb; omega
 cases c <;> first | rfl | exact key h
theorem mm{k i : Nat}(h1 : k≤i)(h2 : i < k + 16) : ∀ {cs : List AC},oY k cs = true→cq i cs = false
 | [],_=>rfl
 | _::_,h=>by
   simp only [oY,Bool.and_eq_true] at h
   simp only [cq,xQ h1 h2 h.1,mm h1 h2 h.2,Bool.or_self]
theorem xR{k i : Nat}(h1 : k≤i)(h2 : i < k + 16) : ∀ {ts : List (Bool×List AC)},yC k ts = true→fM i ts = false
 | [],_=>rfl
 | _::_,h=>by
   simp only [yC,Bool.and_eq_true] at h
   simp only [fM,mm h1 h2 h.1,xR h1 h2 h.2,Bool.or_self]
theorem GJ{k i : Nat}(h1 : k≤i)(h2 : i < k + 16){v : AV}(h : IZ k v = true) : v.men i = false:=by
 cases v with
 | one c=>exact xQ h1 h2 h
 | agg cs=>exact mm h1 h2 h
 | tup ts=>exact xR h1 h2 h
 | any=>rfl
theorem nQ{k i : Nat}(h1 : k≤i)(h2 : i < k + 16) : ∀ {fr : List (Nat×AV)},qf k fr = true→bx i fr = false
 | [],_=>rfl
 | _::_,h=>by
   simp only [qf,Bool.and_eq_true] at h
   simp only [bx,GJ h1 h2 h.1,nQ h1 h2 h.2,Bool.or_self]
theorem GK{k i : Nat}(h1 : k≤i)(h2 : i < k + 16){o : AObj}(h : I0 k o = true) : o.men i = false:=by
 cases o with
 | box cs=>exact mm h1 h2 h
 | loop li fr s p=>exact nQ h1 h2 h
 | _=>rfl
theorem vk{k i : Nat}(h1 : k≤i)(h2 : i < k + 16) : ∀ {sto : Sto},vj k sto = true→aR i sto = false
 | [],_=>rfl
 | (_,o)::_,h=>by
   simp only [vj,Bool.and_eq_true] at h
   simp only [aR,GK h1 h2 h.1,vk h1 h2 h.2,Bool.or_self]
def kr(k : Nat)(st : St) : Prop:=∀ i,k≤i→i < k + 16→look st.sto i = none∧bx i st.fr = false∧aR i st.sto = false
theorem lA{n : Nat} : ∀ {sto : Sto},fz n sto = true→∀ {i : Nat} {o : AObj},look sto i = some o→i < n
 | [],_,_,_,h=>by simp [look] at h
 | (j,x)::r,hk,i,o,h=>by
   simp only [fz,Bool.and_eq_true,Nat.blt_eq] at hk
   rcases ai h with ⟨rfl,_⟩ | ⟨_,h⟩
   ·exact hk.1
   ·exact lA hk.2 h
theorem rL{k : Nat} : ∀ {sto : Sto},sr k sto = true→∀ {i : Nat} {o : AObj},look sto i = some o→i < k∨k + 16≤i
 | [],_,_,_,h=>by simp [look] at h
 | (j,x)::r,hk,i,o,h=>by
   simp only [sr,Bool.and_eq_true,Bool.or_eq_true,Nat.blt_eq,Nat.ble_eq] at hk
   rcases ai h with ⟨rfl,_⟩ | ⟨_,h⟩
   ·exact hk.1
   ·exact rL hk.2 h
def mu(k : Nat)(st : St) : Bool:=sr k st.sto && qf k st.fr && vj k st.sto
theorem po{k : Nat}{st : St}(h : mu k st = true) : kr k st:=by
 simp only [mu,Bool.and_eq_true] at h
 intro i h1 h2
 refine ⟨?_,nQ h1 h2 h.1.2,vk h1 h2 h.2⟩
 cases hl : look st.sto i with
 | none=>rfl
 | some e=>have:=rL h.1.1 hl; omega
def rn(k : Nat)(ρ : List (Nat×Nat))(j : Nat) : Nat:=bif Nat.blt j 16 then k + j else match look ρ j with | some i=>i | none=>0
def inK(ρ : List (Nat×Nat))(j : Nat) : Bool:=match look ρ j with | some _=>true | none=>false
def cA(ρ : List (Nat×Nat)) : Sto→Bool
 | []=>true
 | (j,_)::r=>(Nat.blt j 16 || inK ρ j) && cA ρ r
def fG : List (Nat×Nat)→Bool
 | []=>true
 | (j,_)::r=>Nat.ble 1000000 j && Nat.blt j 2000000 && fG r
def yD(i : Nat) : List (Nat×Nat)→Bool
 | []=>true
 | (_,i')::r=>!(Nat.beq i' i) && yD i r
def iZ : List (Nat×Nat)→Bool
 | []=>true
 | (_,i)::r=>yD i r && iZ r
def Pass(st : St)(r : Nat→Nat)(ρ : List (Nat×Nat)) : Sto→Prop
 | []=>True
 | (j,o)::l=>(∃ i,look ρ j = some i∧look st.sto i = some (cG r o))∧Pass st r ρ l
def dO(r : Nat→Nat)(s : Sto) : Sto→Sto
 | []=>s
 | (j,o)::l=>bS (r j) (cG r o) (dO r s l)
def fU : List (Nat×Nat)→Sto→Sto
 | [],s=>s
 | (_,i)::l,s=>del i (fU l s)
def CompatL(st : St)(r : Nat→Nat)(ρ : List (Nat×Nat)) : Sto→Prop
 | []=>True
 | (j,o)::l=>(∀ i e,look ρ j = some i→look st.sto i = some e→compat e o)∧CompatL st r ρ l
theorem Pass.look{st : St}{r : Nat→Nat}{ρ : List (Nat×Nat)} : ∀ {l : Sto},Pass st r ρ l→∀ {j : Nat} {o : AObj},Go.Abs.look l j = some o→∃ i,Go.Abs.look ρ j = some i∧Go.Abs.look st.sto i = some (cG r o)
 | [],_,_,_,h=>by simp [Go.Abs.look] at h
 | (j',o')::l,hp,j,o,h=>by
   rcases ai h with ⟨rfl,rfl⟩ | ⟨_,h⟩
   ·exact hp.1
   ·exact Pass.look hp.2 h
theorem CompatL.look{st : St}{r : Nat→Nat}{ρ : List (Nat×Nat)} : ∀ {l : Sto},CompatL st r ρ l→∀ {j : Nat} {o : AObj},Go.Abs.look l j = some o→∀ {i : Nat} {e : AObj},Go.Abs.look ρ j = some i→Go.Abs.look st.sto i = some e→compat e o
 | [],_,_,_,h=>by simp [Go.Abs.look] at h
 | (j',o')::l,hp,j,o,h=>by
   rcases ai h with ⟨rfl,rfl⟩ | ⟨_,h⟩
   ·exact fun h1 h2=>hp.1 _ _ h1 h2
   ·exact CompatL.look hp.2 h
theorem nN{ρ : List (Nat×Nat)} : fG ρ = true→∀ {j i : Nat},look ρ j = some i→Pin j:=by
 induction ρ with
 | nil=>intro _ j i h; simp [look] at h
 | cons p r ih =>
   obtain ⟨j',i'⟩:=p
   intro hb j i h
   simp only [fG,Bool.and_eq_true,Nat.ble_eq,Nat.blt_eq] at hb
   rcases ai h with ⟨rfl,rfl⟩ | ⟨_,h⟩
   ·exact hb.1
   ·exact ih hb.2 h
theorem vm{ρ : List (Nat×Nat)}{i : Nat} : yD i ρ = true→∀ {j i' : Nat},look ρ j = some i'→i'≠i:=by
 induction ρ with
 | nil=>intro _ j i h; simp [look] at h
 | cons p r ih =>
   obtain ⟨j',i''⟩:=p
   intro hb j i' h
   simp only [yD,Bool.and_eq_true,Bool.not_eq_true'] at hb
   rcases ai h with ⟨rfl,rfl⟩ | ⟨_,h⟩
   ·exact KU hb.1
   ·exact ih hb.2 h
theorem rz{ρ : List (Nat×Nat)} : iZ ρ = true→∀ {j j' i : Nat},look ρ j = some i→look ρ j' = some i→j = j':=by
 induction ρ with
 | nil=>intro _ j j' i h; simp [look] at h
 | cons p r ih =>
   obtain ⟨j0,i0⟩:=p
   intro hb j j' i h h'
   simp only [iZ,Bool.and_eq_true] at hb
   rcases ai h with ⟨e1,e2⟩ | ⟨_,k1⟩
   ·rcases ai h' with ⟨e3,_⟩ | ⟨_,k2⟩
    ·rw [e1,e3]
    ·exact absurd e2 (vm hb.1 k2)
   ·rcases ai h' with ⟨_,e4⟩ | ⟨_,k2⟩
    ·exact absurd e4 (vm hb.1 k1)
    ·exact ih hb.2 k1 k2
theorem gR{ρ : List (Nat×Nat)} : ∀ {l : Sto},cA ρ l = true→∀ {j : Nat} {o : AObj},look l j = some o→j < 16∨∃ i,look ρ j = some i
 | [],_,_,_,h=>by simp [look] at h
 | (j',o')::l,hk,j,o,h=>by
   simp only [cA,Bool.and_eq_true,Bool.or_eq_true,Nat.blt_eq] at hk
   rcases ai h with ⟨rfl,rfl⟩ | ⟨_,h⟩
   ·rcases hk.1 with h1 | h1
    ·exact .inl h1
    ·unfold inK at h1
     split at h1
     ·exact .inr ⟨_,by assumption⟩
     ·cases h1
   ·exact gR hk.2 h
theorem jq{k j : Nat}{ρ : List (Nat×Nat)}(h : j < 16) : rn k ρ j = k + j:=by unfold rn; rw [show Nat.blt j 16 = true by simpa using h]; rfl
theorem gK{k j i : Nat}{ρ : List (Nat×Nat)}(hb : fG ρ = true)(h : look ρ j = some i) : rn k ρ j = i:=by
 have:=nN hb h
 unfold rn
 have h16 : Nat.blt j 16 = false:=by
  cases hh : Nat.blt j 16 with
  | false=>rfl
  | true=>simp only [Nat.blt_eq] at hh; omega
 rw [h16,h]; rfl
theorem Gh{ρ : List (Nat×Nat)}{s : Sto}{i : Nat}{o : AObj} : look (fU ρ s) i = some o→look s i = some o∧∀ j,look ρ j≠some i:=by
 induction ρ with
 | nil=>intro h; exact ⟨h,by simp [look]⟩
 | cons p r ih =>
   obtain ⟨j0,i0⟩:=p
   intro h
   obtain ⟨h1,h2⟩:=dt h
   obtain ⟨h3,h4⟩:=ih h2
   refine ⟨h3,fun j hj=>?_⟩
   rcases ai hj with ⟨rfl,rfl⟩ | ⟨_,hj⟩
   ·exact h1 rfl
   ·exact h4 j hj
def fV : List (Nat×Nat)→Bool
 | []=>true
 | (j,_)::r=>!inK r j && fV r
section
variable {k : Nat} {ρ : List (Nat×Nat)} {rs s : Sto}
theorem rA{r : Nat→Nat} : ∀ {rs : Sto} {i : Nat} {o : AObj},look (dO r s rs) i = some o→(∃ j o',i = r j∧look rs j = some o'∧o = cG r o')∨((∀ j o',look rs j = some o'→r j≠i)∧look s i = some o)
 | [],_,_,h=>.inr ⟨fun _ _ h=>by simp [look] at h,h⟩
 | (j,x)::l,i,o,h=>by
   simp only [dO,cC] at h
   rcases ai h with ⟨rfl,rfl⟩ | ⟨hne,h⟩
   ·exact .inl ⟨j,x,rfl,aP,rfl⟩
   ·rcases rA h with ⟨j',o',rfl,h2,h4⟩ | ⟨h1,h2⟩
    ·refine .inl ⟨j',o',rfl,?_,h4⟩
     rw [aS ?_]; exact h2
     rintro rfl; exact hne rfl
    ·refine .inr ⟨fun j' o' hj=>?_,h2⟩
     rcases ai hj with ⟨rfl,_⟩ | ⟨_,hj⟩
     ·exact fun e=>hne e.symm
     ·exact h1 j' o' hj
theorem xC{r : Nat→Nat} : ∀ {rs : Sto},(∀ j j' o o',look rs j = some o→look rs j' = some o'→r j = r j'→j = j')→∀ {j : Nat} {o : AObj},look rs j = some o→look (dO r s rs) (r j) = some (cG r o)
 | [],_,_,_,h=>by simp [look] at h
 | (j0,x)::l,hinj,j,o,h=>by
   simp only [dO,cC]
   rcases ai h with ⟨rfl,rfl⟩ | ⟨hne,h'⟩
   ·exact aP
   ·rw [aS fun e=>hne (hinj j j0 o x h aP e)]
    refine xC (fun a b o1 o2 ha hb e=>?_) h'
    by_cases ha0 : a = j0
    ·by_cases hb0 : b = j0
     ·rw [ha0,hb0]
     ·subst ha0
      exact hinj a b x o2 aP (by rw [aS hb0]; exact hb) e
    ·by_cases hb0 : b = j0
     ·subst hb0
      exact hinj a b o1 x (by rw [aS ha0]; exact ha) aP e
     ·exact hinj a b o1 o2 (by rw [aS ha0]; exact ha) (by rw [aS hb0]; exact hb) e
end
end Go.Abs
namespace Go.Abs
open Go
variable {P : Program} {c : Ctx} {T : Tab} {σ : Sig} {φ : Pl} {sto : Sto} {w : World}
def phC(φ : Pl)(ρ : List (Nat×Nat)) : Pl:=fun j=>match look ρ j with | some i=>φ i | none=>none
theorem fc{φ : Pl}{ρ : List (Nat×Nat)}{j i : Nat}(h : look ρ j = some i) : phC φ ρ j = φ i:=by simp [phC,h]
theorem iv{sto : Sto}{i : Nat}(h : bo sto i = true) : ∃ o,look sto i = some o:=by
 unfold bo at h
 split at h
 ·exact ⟨_,by assumption⟩
 ·cases h
section
variable {k : Nat} {ρ : List (Nat×Nat)} {st : St} {cs : Sto}
theorem unC(hb : fG ρ = true)(hp : Pass st (rn k ρ) ρ cs){x : AC}{v : Value}(hin : bG cs x = true)(h : RepC σ φ st.sto (iq (rn k ρ) x) v) : RepC σ (phC φ ρ) cs x v:=by
 have key : ∀ {j : Nat},bo cs j = true→∃ o i,look cs j = some o∧look ρ j = some i∧rn k ρ j = i∧look st.sto i = some (cG (rn k ρ) o):=by
  intro j hj
  obtain ⟨o,ho⟩:=iv hj
  obtain ⟨i,h1,h2⟩:=hp.look ho
  exact ⟨o,i,ho,h1,gK hb h1,h2⟩
 cases x with
 | d x=>exact .d h.d_inv
 | junk =>
   cases h with
   | junk h=>exact .junk h
   | dead hx h=>exact .junk h
 | own j n =>
   obtain ⟨o,i,h1,h2,h3,h4⟩:=key hin
   simp only [iq,h3] at h
   cases h with
   | ownNil hl hp'=>rw [h4] at hl; cases o <;> simp [cG] at hl; obtain ⟨rfl,rfl,rfl⟩:=hl; exact .ownNil h1 ((fc h2).trans hp')
   | own hl hn hp'=>rw [h4] at hl; cases o <;> simp [cG] at hl; obtain ⟨rfl,rfl,rfl⟩:=hl; exact .own h1 hn ((fc h2).trans hp')
   | dead hx _=>simp [bG,b5 h4] at hx
 | sub j lo n =>
   obtain ⟨o,i,h1,h2,h3,h4⟩:=key hin
   simp only [iq,h3] at h
   cases h with
   | sub hl hn hc hA=>rw [h4] at hl; cases o <;> simp [cG] at hl; obtain ⟨rfl,rfl,rfl⟩:=hl; exact .sub h1 hn hc (fun h0=>by rw [fc h2]; exact hA h0)
   | dead hx _=>simp [bG,b5 h4] at hx
 | ref j off =>
   obtain ⟨o,i,h1,h2,h3,h4⟩:=key hin
   simp only [iq,h3] at h
   cases h with
   | ref hl hp'=>rw [h4] at hl; cases o <;> simp [cG] at hl; exact .ref h1 ((fc h2).trans hp')
   | dead hx _=>simp [bG,b5 h4] at hx
 | rref j m off =>
   obtain ⟨o,i,h1,h2,h3,h4⟩:=key hin
   simp only [iq,h3] at h
   cases h with
   | rref hl hp'=>rw [h4] at hl; cases o <;> simp [cG] at hl; obtain ⟨rfl,rfl,rfl⟩:=hl; exact .rref h1 ((fc h2).trans hp')
   | dead hx _=>simp [bG,b5 h4] at hx
 | yl j =>
   obtain ⟨o,i,h1,h2,h3,h4⟩:=key hin
   simp only [iq,h3] at h
   cases h with
   | yl hl hp'=>rw [h4] at hl; cases o <;> simp [cG] at hl; exact .yl h1 ((fc h2).trans hp')
   | dead hx _=>simp [bG,b5 h4] at hx
 | bsl j off n =>
   obtain ⟨o,i,h1,h2,h3,h4⟩:=key hin
   simp only [iq,h3] at h
   cases h with
   | bsl hl hp'=>rw [h4] at hl; cases o <;> simp [cG] at hl; exact .bsl h1 ((fc h2).trans hp')
   | dead hx _=>simp [bG,b5 h4] at hx
 | mapr j =>
   obtain ⟨o,i,h1,h2,h3,h4⟩:=key hin
   simp only [iq,h3] at h
   cases h with
   | mapr hl hp'=>rw [h4] at hl; cases o <;> simp [cG] at hl; exact .mapr h1 ((fc h2).trans hp')
   | dead hx _=>simp [bG,b5 h4] at hx
theorem Am(hb : fG ρ = true)(hp : Pass st (rn k ρ) ρ cs) : ∀ {xs : List AC} {vs : List Value},eC cs xs = true→All2 (RepC σ φ st.sto) (j7 (rn k ρ) xs) vs→All2 (RepC σ (phC φ ρ) cs) xs vs
 | [],[],_,_=>trivial
 | _::_,_::_,hi,h=>by
   simp only [eC,Bool.and_eq_true] at hi
   exact ⟨unC hb hp hi.1 h.1,Am hb hp hi.2 h.2⟩
 | [],_::_,_,h=>h.elim
 | _::_,[],_,h=>h.elim
theorem unV(hb : fG ρ = true)(hp : Pass st (rn k ρ) ρ cs){x : AV}{v : Value}(hi : c7 cs x = true)(h : RepV σ φ st.sto (dD (rn k ρ) x) v) : RepV σ (phC φ ρ) cs x v:=by
 cases x with
 | one c=>exact unC hb hp hi h
 | agg cs=>obtain ⟨us,rfl,h⟩:=h; exact ⟨us,rfl,Am hb hp hi h⟩
 | tup ts =>
   obtain ⟨us,rfl,h⟩:=h
   refine ⟨us,rfl,?_⟩
   simp only [c7] at hi
   induction ts generalizing us with
   | nil=>cases us <;> simp_all [All2,pe]
   | cons t ts ih =>
     cases us with
     | nil=>exact h.elim
     | cons u us =>
       simp only [wh,Bool.and_eq_true] at hi
       refine ⟨?_,ih hi.2 us h.2⟩
       obtain ⟨g,cs⟩:=t
       cases g with
       | true=>obtain ⟨vs,rfl,h1⟩:=h.1; exact ⟨vs,rfl,Am hb hp hi.1 h1⟩
       | false=>exact Am hb hp hi.1 h.1
 | any=>trivial
def dp(sto : Sto) : List AV→Bool
 | []=>true
 | v::r=>c7 sto v && dp sto r
theorem unL(hb : fG ρ = true)(hp : Pass st (rn k ρ) ρ cs) : ∀ {xs : List AV} {vs : List Value},dp cs xs = true→All2 (RepV σ φ st.sto) (cX (rn k ρ) xs) vs→All2 (RepV σ (phC φ ρ) cs) xs vs
 | [],[],_,_=>trivial
 | _::_,_::_,hi,h=>by
   simp only [dp,Bool.and_eq_true] at hi
   exact ⟨unV hb hp hi.1 h.1,unL hb hp hi.2 h.2⟩
 | [],_::_,_,h=>h.elim
 | _::_,[],_,h=>h.elim
theorem ki{r : Nat→Nat} : ∀ {fr : List (Nat×AV)} {s : Nat},look (c6 r fr) s = (look fr s).map (dD r)
 | [],_=>rfl
 | (t,v)::l,s=>by
   simp only [c6,look]
   cases Nat.beq t s with
   | true=>rfl
   | false=>simp only [cond_false]; exact ki
theorem Aj(hb : fG ρ = true)(hij : iZ ρ = true)(hp : Pass st (rn k ρ) ρ cs)(hs : bm cs cs = true)(h : HInv σ φ st.sto w) : HInv σ (phC φ ρ) cs w:=by
 refine ⟨h.sig,fun j o hj=>?_,fun j j' o o' p p' hj hj' hne hpp hpp'=>?_⟩
 ·obtain ⟨i,h1,h2⟩:=hp.look hj
  have ho:=h.obj _ _ h2
  have hin:=fA hs hj
  have hph:=fc (φ:=φ) h1
  cases o with
  | box xs =>
    obtain ⟨B,c',vs,t,a1,a2,a3,a4⟩:=ho
    exact ⟨B,c',vs,t,hph.trans a1,a2,Am hb hp hin a3,a4⟩
  | row a b xs =>
    rcases ho with ⟨a1,a2⟩ | ⟨B,cap,arr,t,vs,a1,a2⟩
    ·exact .inl ⟨a1,hph.trans a2⟩
    ·exact .inr ⟨B,cap,arr,t,vs,hph.trans a1,a2⟩
  | map kg vg es =>
    obtain ⟨B,c',ents,a1,a2⟩:=ho
    exact ⟨B,c',ents,hph.trans a1,a2⟩
  | loop li fr s p =>
    obtain ⟨B,c',r,a1,a2,a3,a4,a5⟩:=ho
    refine ⟨B,c',r,hph.trans a1,a2,a3,fun s v hv=>?_,a5⟩
    obtain ⟨u,hu,hru⟩:=a4 s (dD (rn k ρ) v) (by rw [ki,hv]; rfl)
    exact ⟨u,hu,unV hb hp (lH hin hv) hru⟩
 ·obtain ⟨i,h1,h2⟩:=hp.look hj
  obtain ⟨i',h1',h2'⟩:=hp.look hj'
  rw [fc h1] at hpp
  rw [fc h1'] at hpp'
  refine h.inj _ _ _ _ _ _ h2 h2' (fun e=>hne ?_) hpp hpp'
  subst e
  exact rz hij h1 h1'
end
section
variable {σ' : Sig} {φ' φn : Pl} {rs ns : Sto} {r : Nat→Nat}
theorem reC(hR : ∀ j o,look rs j = some o→look ns (r j) = some (cG r o)∧φn (r j) = φ' j){x : AC}{v : Value}(hin : bG rs x = true)(h : RepC σ' φ' rs x v) : RepC σ' φn ns (iq r x) v:=by
 cases h with
 | d h=>exact .d h
 | ownNil h hp=>obtain ⟨h1,h2⟩:=hR _ _ h; exact .ownNil h1 (h2.trans hp)
 | own h hn hp=>obtain ⟨h1,h2⟩:=hR _ _ h; exact .own h1 hn (h2.trans hp)
 | sub h hn hc hA=>obtain ⟨h1,h2⟩:=hR _ _ h; exact .sub h1 hn hc (fun h0=>by rw [h2]; exact hA h0)
 | ref h hp=>obtain ⟨h1,h2⟩:=hR _ _ h; exact .ref h1 (h2.trans hp)
 | rref h hp=>obtain ⟨h1,h2⟩:=hR _ _ h; exact .rref h1 (h2.trans hp)
 | yl h hp=>obtain ⟨h1,h2⟩:=hR _ _ h; exact .yl h1 (h2.trans hp)
 | mapr h hp=>obtain ⟨h1,h2⟩:=hR _ _ h; exact .mapr h1 (h2.trans hp)
 | bsl h hp=>obtain ⟨h1,h2⟩:=hR _ _ h; exact .bsl h1 (h2.trans hp)
 | junk h=>exact .junk h
 | dead hx h1=>rw [hin] at hx; cases hx
theorem Ao(hR : ∀ j o,look rs j = some o→look ns (r j) = some (cG r o)∧φn (r j) = φ' j) : ∀ {xs : List AC} {vs : List Value},eC rs xs = true→All2 (RepC σ' φ' rs) xs vs→All2 (RepC σ' φn ns) (j7 r xs) vs
 | [],[],_,_=>trivial
 | _::_,_::_,hi,h=>by
   simp only [eC,Bool.and_eq_true] at hi
   exact ⟨reC hR hi.1 h.1,Ao hR hi.2 h.2⟩
 | [],_::_,_,h=>h.elim
 | _::_,[],_,h=>h.elim
theorem reV(hR : ∀ j o,look rs j = some o→look ns (r j) = some (cG r o)∧φn (r j) = φ' j){x : AV}{v : Value}(hi : c7 rs x = true)(h : RepV σ' φ' rs x v) : RepV σ' φn ns (dD r x) v:=by
 cases x with
 | one c=>exact reC hR hi h
 | agg cs=>obtain ⟨us,rfl,h⟩:=h; exact ⟨us,rfl,Ao hR hi h⟩
 | tup ts =>
   obtain ⟨us,rfl,h⟩:=h
   refine ⟨us,rfl,?_⟩
   simp only [c7] at hi
   induction ts generalizing us with
   | nil=>cases us <;> simp_all [All2,pe]
   | cons t ts ih =>
     cases us with
     | nil=>exact h.elim
     | cons u us =>
       simp only [wh,Bool.and_eq_true] at hi
       refine ⟨?_,ih hi.2 us h.2⟩
       obtain ⟨g,cs⟩:=t
       cases g with
       | true=>obtain ⟨vs,rfl,h1⟩:=h.1; exact ⟨vs,rfl,Ao hR hi.1 h1⟩
       | false=>exact Ao hR hi.1 h.1
 | any=>trivial
theorem yo(hR : ∀ j o,look rs j = some o→look ns (r j) = some (cG r o)∧φn (r j) = φ' j){j : Nat}{o : AObj}(hj : look rs j = some o)(hi : DN rs o = true){w' : World}(h : ObjRep σ' φ' rs w' j o) :
  ObjRep σ' φn ns w' (r j) (cG r o):=by
 have hph:=(hR j o hj).2
 cases o with
 | box xs =>
   obtain ⟨B,c',vs,t,a1,a2,a3,a4⟩:=h
   exact ⟨B,c',vs,t,hph.trans a1,a2,Ao hR hi a3,a4⟩
 | row a b xs =>
   rcases h with ⟨a1,a2⟩ | ⟨B,cap,arr,t,vs,a1,a2⟩
   ·exact .inl ⟨a1,hph.trans a2⟩
   ·exact .inr ⟨B,cap,arr,t,vs,hph.trans a1,a2⟩
 | map kg vg es =>
   obtain ⟨B,c',ents,a1,a2⟩:=h
   exact ⟨B,c',ents,hph.trans a1,a2⟩
 | loop li fr s p =>
   obtain ⟨B,c',lp,a1,a2,a3,a4,a5⟩:=h
   refine ⟨B,c',lp,hph.trans a1,a2,a3,fun s v hv=>?_,a5⟩
   rw [ki] at hv
   cases hl : look fr s with
   | none=>rw [hl] at hv; cases hv
   | some v0 =>
     rw [hl] at hv; cases hv
     obtain ⟨u,hu,hru⟩:=a4 s v0 hl
     exact ⟨u,hu,reV hR (lH hi hl) hru⟩
end
theorem By{r : Nat→Nat}{e o : AObj}(h : compat e o) : compat e (cG r o):=by
 cases e <;> cases o <;> simp_all [compat,cG]
def gu(cs : Sto) : List (Nat×Nat)→Bool
 | []=>true
 | (j,_)::r=>bo cs j && gu cs r
theorem uT{cs : Sto}{ρ : List (Nat×Nat)} : gu cs ρ = true→∀ {j i : Nat},look ρ j = some i→bo cs j = true:=by
 induction ρ with
 | nil=>intro _ j i h; simp [look] at h
 | cons p r ih =>
   obtain ⟨j',i'⟩:=p
   intro hb j i h
   simp only [gu,Bool.and_eq_true] at hb
   rcases ai h with ⟨rfl,rfl⟩ | ⟨_,h⟩
   ·exact hb.1
   ·exact ih hb.2 h
theorem wm{st : St}{a : Act}{o : Oper}{cargs : List AV}{cs rs : Sto}{rav : AV}(k : Nat)(ρ : List (Nat×Nat))(hr : Rel c st a w σ φ)(hd : aU c.n o.dst = true)
  (hpass : Pass st (rn k ρ) ρ cs) (hcomp : CompatL st (rn k ρ) ρ rs)
  (hk : (fG ρ && iZ ρ && gu cs ρ && fV ρ && cA ρ rs && dp cs cargs && bm cs cs && c7 rs rav && bm rs rs && Nat.ble (k + 16) 1000000) = true) (hfresh : kr k st)
  {v : Value} {w' : World} {σ' : Sig} {φ' : Pl} (hret : RetP rav rs w σ (phC φ ρ) (MOf (phC φ ρ) cs) v w' σ' φ') :
  ∃ σ2 φ2,Rel c ⟨bt o.dst (dD (rn k ρ) rav) st.fr,dO (rn k ρ) (fU ρ st.sto) rs⟩ (a.put o.dst v) w' σ2 φ2∧∀ j o,look rs j = some o→φ2 (rn k ρ j) = φ' j:=by
 simp only [Bool.and_eq_true,Nat.ble_eq] at hk
 obtain ⟨⟨⟨⟨⟨⟨⟨⟨⟨hbig,hinj⟩,hall⟩,hnd⟩,hko⟩,hai⟩,hci⟩,hri⟩,hrs⟩,hkl⟩:=hk
 let φn : Pl:=fun i=>if k≤i∧i < k + 16 then φ' (i - k) else φ i
 have hφin : ∀ {j : Nat},j < 16→φn (k + j) = φ' j:=by
  intro j hj
  show (if _ then _ else _) = _
  rw [if_pos ⟨Nat.le_add_right _ _,by omega⟩,Nat.add_sub_cancel_left]
 have hφout : ∀ {i : Nat},(i < k∨k + 16≤i)→φn i = φ i:=by
  intro i hi
  show (if _ then _ else _) = _
  rw [if_neg (by omega)]
 have hout : ∀ {i : Nat} {o : AObj},look st.sto i = some o→i < k∨k + 16≤i:=by
  intro i o hi
  rcases Nat.lt_or_ge i k with h1 | h1
  ·exact .inl h1
  ·rcases Nat.lt_or_ge i (k + 16) with h2 | h2
   ·rw [(hfresh i h1 h2).1] at hi; cases hi
   ·exact .inr h2
 -- what was handed over
 have hgave : ∀ {j i : Nat},look ρ j = some i→∃ o,look cs j = some o∧look st.sto i = some (cG (rn k ρ) o):=by
  intro j i hj
  obtain ⟨o,ho⟩:=iv (uT hall hj)
  obtain ⟨i',h1,h2⟩:=hpass.look ho
  rw [hj] at h1; cases h1
  exact ⟨o,ho,h2⟩
 have hMof : ∀ {b : Nat},MOf (phC φ ρ) cs b→∃ j i o p,look ρ j = some i∧look st.sto i = some o∧φ i = some p∧p.1 = b:=by
  rintro b ⟨j,o,p,h1,h2,h3⟩
  obtain ⟨i,h4,h5⟩:=hpass.look h1
  rw [fc h4] at h2
  exact ⟨j,i,_,p,h4,h5,h2,h3⟩
 have hR : ∀ j o,look rs j = some o→look (dO (rn k ρ) (fU ρ st.sto) rs) (rn k ρ j) = some (cG (rn k ρ) o)∧φn (rn k ρ j) = φ' j:=by
  intro j o hj
  refine ⟨xC (fun j j' o o' hj hj' e=>?_) hj,?_⟩
  ·rcases gR hko hj with h1 | ⟨i,h1⟩ <;> rcases gR hko hj' with h2 | ⟨i',h2⟩
   ·rw [jq h1,jq h2] at e; omega
   ·rw [jq h1,gK hbig h2] at e
    obtain ⟨_,_,h3⟩:=hgave h2
    have:=hout h3; omega
   ·rw [gK hbig h1,jq h2] at e
    obtain ⟨_,_,h3⟩:=hgave h1
    have:=hout h3; omega
   ·rw [gK hbig h1,gK hbig h2] at e
    subst e
    exact rz hinj h1 h2
  ·rcases gR hko hj with h1 | ⟨i,h1⟩
   ·rw [jq h1]; exact hφin h1
   ·rw [gK hbig h1]
    obtain ⟨_,_,h3⟩:=hgave h1
    rw [hφout (hout h3),hret.pin j (nN hbig h1),fc h1]
 have hns : ∀ {i : Nat} {e : AObj},look (dO (rn k ρ) (fU ρ st.sto) rs) i = some e→(∃ j o,look rs j = some o∧e = cG (rn k ρ) o∧((j < 16∧i = k + j)∨look ρ j = some i))∨(look st.sto i = some e∧∀ j,look ρ j≠some i):=by
  intro i e h
  rcases rA h with ⟨j,o,rfl,h1,rfl⟩ | ⟨_,h1⟩
  ·refine .inl ⟨j,o,h1,rfl,?_⟩
   rcases gR hko h1 with h2 | ⟨i,h2⟩
   ·exact .inl ⟨h2,jq h2⟩
   ·exact .inr (by rw [gK hbig h2]; exact h2)
  ·exact .inr (Gh h1)
 have hE : Ext (fun i=>k≤i∧i < k + 16) φ φn st.sto (dO (rn k ρ) (fU ρ st.sto) rs):=by
  intro i hX
  cases hl : look (dO (rn k ρ) (fU ρ st.sto) rs) i with
  | none=>exact .inl rfl
  | some e =>
    rcases hns hl with ⟨j,o,h1,rfl,h2⟩ | ⟨h1,_⟩
    ·rcases h2 with ⟨h2,rfl⟩ | h2
     ·exact absurd ⟨Nat.le_add_right _ _,by omega⟩ hX
     ·obtain ⟨o',_,h4⟩:=hgave h2
      exact .inr ⟨_,h4,hφout (hout h4),_,rfl,By (hcomp.look h1 h2 h4)⟩
    ·exact .inr ⟨e,h1,hφout (hout h1),e,rfl,compat.refl _⟩
 -- an old object that was not handed over lies elsewhere
 have hap : ∀ {i : Nat} {e : AObj} {p : Nat×Nat},look st.sto i = some e→(∀ j,look ρ j≠some i)→φ i = some p→p.1 < w.heap.size∧¬ MOf (phC φ ρ) cs p.1:=by
  intro i e p hi hn hp
  refine ⟨(hr.inv.obj _ _ hi).lt hp,fun hM=>?_⟩
  obtain ⟨j,i',o,p',h1,h2,h3,h4⟩:=hMof hM
  exact hr.inv.inj _ _ _ _ _ _ h2 hi (fun e=>hn j (e ▸ h1)) h3 hp h4
 have hinv : HInv σ' φn (dO (rn k ρ) (fU ρ st.sto) rs) w':=by
  refine ⟨hret.inv.sig,fun i e hi=>?_,fun i i' e1 e2 p p' h1 h2 hne hp hp'=>?_⟩
  ·rcases hns hi with ⟨j,o,h1,rfl,h2⟩ | ⟨h1,hn⟩
   ·have:=yo hR h1 (fA hrs h1) (hret.inv.obj _ _ h1)
    rcases h2 with ⟨h2,rfl⟩ | h2
    ·rwa [jq h2] at this
    ·rwa [gK hbig h2] at this
   ·have ho:=hr.inv.obj _ _ h1
    refine ho.ext (X:=fun i=>k≤i∧i < k + 16) hret.le hE (fun j hj=>gL (hfresh j hj.1 hj.2).2.2 h1) (hφout (hout h1)) fun B cc hB=>?_
    obtain ⟨h3,h4⟩:=hap h1 hn hB
    refine ⟨hret.kept.block B h3 h4,?_⟩
    have hs:=ho.sig hB
    rw [hs]
    cases hb : σ' B with
    | none=>rfl
    | some cs' =>
      rcases hret.fresh B (by rw [hb]; simp) with h5 | h5 | h5
      ·exact absurd hs h5
      ·simp only at h3; omega
      ·exact absurd h5 h4
  ·have old : ∀ {i : Nat} {e : AObj} {p : Nat×Nat},look st.sto i = some e→φn i = some p→φ i = some p:=by
    intro i e p hi hp
    rwa [hφout (hout hi)] at hp
   have new : ∀ {j i : Nat} {o : AObj} {p : Nat×Nat},look rs j = some o→((j < 16∧i = k + j)∨look ρ j = some i)→φn i = some p→φ' j = some p∧(w.heap.size≤p.1∨MOf (phC φ ρ) cs p.1):=by
    intro j i o p hj hji hp
    have : φn (rn k ρ j) = φ' j:=(hR j o hj).2
    have hi : rn k ρ j = i:=by
     rcases hji with ⟨h,rfl⟩ | h
     ·exact jq h
     ·exact gK hbig h
    rw [hi,hp] at this
    exact ⟨this.symm,hret.mine _ _ _ hj this.symm⟩
   rcases hns h1 with ⟨j,o1,hj,_,hji⟩ | ⟨hi1,hn1⟩ <;> rcases hns h2 with ⟨j',o2,hj',_,hji'⟩ | ⟨hi2,hn2⟩
   ·refine hret.inv.inj _ _ _ _ _ _ hj hj' (fun e=>hne ?_) (new hj hji hp).1 (new hj' hji' hp').1
    subst e
    rcases hji with ⟨a1,rfl⟩ | a1 <;> rcases hji' with ⟨a2,rfl⟩ | a2
    ·rfl
    ·have:=nN hbig a2; omega
    ·have:=nN hbig a1; omega
    ·rw [a1] at a2; cases a2; rfl
   ·obtain ⟨_,h3⟩:=new hj hji hp
    obtain ⟨h4,h5⟩:=hap hi2 hn2 (old hi2 hp')
    intro e
    rcases h3 with h3 | h3
    ·omega
    ·rw [e] at h3; exact h5 h3
   ·obtain ⟨_,h3⟩:=new hj' hji' hp'
    obtain ⟨h4,h5⟩:=hap hi1 hn1 (old hi1 hp)
    intro e
    rcases h3 with h3 | h3
    ·omega
    ·rw [← e] at h3; exact h5 h3
   ·exact hr.inv.inj _ _ _ _ _ _ hi1 hi2 hne (old hi1 hp) (old hi2 hp')
 have hmineM : ∀ {b : Nat},MOf (phC φ ρ) cs b→c.w0.heap.size≤b∨c.M b:=by
  intro b hM
  obtain ⟨j,i',o,p',h1,h2,h3,h4⟩:=hMof hM
  have:=hr.mine _ _ _ h2 h3
  rwa [h4] at this
 refine ⟨σ',φn,hr.putTo (st':=⟨st.fr,dO (rn k ρ) (fU ρ st.sto) rs⟩) hd (Sig.le_trans hr.le hret.le) (fun b hb=>?_) hinv (fun i e p hi hp=>?_)
  ⟨hret.kept.os.trans hr.fra.os,hret.kept.tape.trans hr.fra.tape,hret.kept.output.trans hr.fra.output,Nat.le_trans hr.fra.size hret.kept.size,Nat.le_trans hr.fra.drawn hret.kept.drawn,fun b hb hM'=>?_⟩ (fun i hi=>?_)
  (fun _=>reV hR hri hret.rep) (fun s x _ hx=>⟨x,hx,fun z hz=>hz.ext hret.le hE fun j hj=>dJ (hfresh j hj.1 hj.2).2.1 hx⟩),fun j o hj=>(hR j o hj).2⟩
 ·rcases hret.fresh b hb with h1 | h1 | h1
  ·exact hr.fresh b h1
  ·exact .inr (.inl (Nat.le_trans hr.fra.size h1))
  ·exact .inr (hmineM h1)
 ·rcases hns hi with ⟨j,o,hj,_,hji⟩ | ⟨hi1,hn1⟩
  ·have : φn (rn k ρ j) = φ' j:=(hR j o hj).2
   have hi : rn k ρ j = i:=by
    rcases hji with ⟨h,rfl⟩ | h
    ·exact jq h
    ·exact gK hbig h
   rw [hi,hp] at this
   rcases hret.mine _ _ _ hj this.symm with h1 | h1
   ·exact .inl (Nat.le_trans hr.fra.size h1)
   ·exact hmineM h1
  ·rw [hφout (hout hi1)] at hp
   exact hr.mine _ _ _ hi1 hp
 ·rw [hret.kept.block b (Nat.lt_of_lt_of_le hb hr.fra.size) fun hM=>?_]
  ·exact hr.fra.block b hb hM'
  ·rcases hmineM hM with h | h
   ·omega
   ·exact hM' h
 ·rw [hφout (.inr (by omega))]
  exact hr.pin i hi
theorem zI{st : St}{a : Act}{o : Oper}{f : FuncId}{cargs : List AV}{cs rs : Sto}{rav : AV}{vs : List Value}(k : Nat)(ρ : List (Nat×Nat))(hr : Rel c st a w σ φ)(hd : aU c.n o.dst = true)
  (hC : CallA P f cargs cs rav rs) (hargs : All2 (RepV σ φ st.sto) (cX (rn k ρ) cargs) vs) (hpass : Pass st (rn k ρ) ρ cs) (hcomp : CompatL st (rn k ρ) ρ rs)
  (hk : (fG ρ && iZ ρ && gu cs ρ && fV ρ && cA ρ rs && dp cs cargs && bm cs cs && c7 rs rav && bm rs rs && Nat.ble (k + 16) 1000000) = true) (hfresh : kr k st) :
  Calls P f vs.toArray w fun e w'=>∃ v σ' φ',e = .returned v∧Rel c ⟨bt o.dst (dD (rn k ρ) rav) st.fr,dO (rn k ρ) (fU ρ st.sto) rs⟩ (a.put o.dst v) w' σ' φ':=by
 have hk':=hk
 simp only [Bool.and_eq_true,Nat.ble_eq] at hk'
 obtain ⟨⟨⟨⟨⟨⟨⟨⟨⟨hbig,hinj⟩,hall⟩,hnd⟩,hko⟩,hai⟩,hci⟩,hri⟩,hrs⟩,hkl⟩:=hk'
 refine (hC.run w σ (phC φ ρ) vs (Aj hbig hinj hpass hci hr.inv) (unL hbig hpass hai hargs)).mono ?_
 rintro e w' ⟨v,σ',φ',rfl,hret⟩
 obtain ⟨σ2,φ2,h2,_⟩:=wm k ρ hr hd hpass hcomp hk hfresh hret
 exact ⟨v,σ2,φ2,rfl,h2⟩
theorem pH{a : Act}{o : Oper}{fop : Operand}{args : Array Operand}{ats : Array TypeId}{f : FuncId}{cs : List Value}(ho : o.op = .call { callee:=.value fop,args:=args,argTypes:=ats })
  (hf : a.eval fop = .func (.func f) #[] cs.toArray) (hfn : ∃ fn, P.funcs[f]? = some fn ∧ (fn.name == "runtime.NumGoroutine") = false ∧ fn.body.isSome = true) :
  (execOp a.eval o).run P w = .ok (.enter f (args.toList.map a.eval ++ cs).toArray) w:=by
 obtain ⟨fn,h1,h2,h3⟩:=hfn
 have h3' : fn.body.isNone = false:=by cases hb : fn.body <;> simp_all
 have e : (#[] ++ args.map a.eval ++ cs.toArray) = (args.toList.map a.eval ++ cs).toArray:=by
  apply Array.ext'; simp
 simp only [execOp,ho,resolve,Deferred.ofValue,hf,invoke,callFunc,Sem.run_bind,Sem.run_pure,Result.andThen_ok]
 simp only [show (program).run P w = .ok P w from rfl,Result.andThen_ok,h1,h2,h3',Bool.false_eq_true,if_false,Sem.run_pure]
 rw [e]
theorem tF{r : Nat→Nat} : ∀ {a b : List AV},cX r (a ++ b) = cX r a ++ cX r b
 | [],_=>rfl
 | _::a,b=>by simp only [List.cons_append,cX,tF (a:=a)]
theorem nE{r : Nat→Nat} : ∀ {ds : List D},cX r (ds.map fun x=>.one (.d x)) = ds.map fun x=>.one (.d x)
 | []=>rfl
 | _::r=>by simp only [List.map_cons,cX,dD,iq,nE (ds:=r)]
theorem lu{ops : Array Oper}{o : Oper}{rest : List Oper}{st : St}{K : St→Prop}{fop : Operand}{args : Array Operand}{ats : Array TypeId}{f : FuncId}{caps : List D}{cargs : List AV}{cs rs : Sto}{rav : AV}(k : Nat)(ρ : List (Nat×Nat))
  (ho : o.op = .call { callee:=.value fop,args:=args,argTypes:=ats }) (hg : o.guard = none) (hd : aU c.n o.dst = true) (hf : ev st fop = some (.one (.d (.fn f caps))))
  (ha : evL st args.toList = some (cX (rn k ρ) cargs)) (hC : CallA P f (cargs ++ caps.map fun x=>.one (.d x)) cs rav rs) (hpass : Pass st (rn k ρ) ρ cs) (hcomp : CompatL st (rn k ρ) ρ rs)
  (hk : (fG ρ && iZ ρ && gu cs ρ && fV ρ && cA ρ rs && dp cs (cargs ++ caps.map fun x=>.one (.d x)) && bm cs cs && c7 rs rav && bm rs rs && Nat.ble (k + 16) 1000000) = true) (hfresh : kr k st)
  (h : ae P c ops rest ⟨bt o.dst (dD (rn k ρ) rav) st.fr,dO (rn k ρ) (fU ρ st.sto) rs⟩ K) : ae P c ops (o::rest) st K:=by
 refine lz hg fun a w σ φ hr=>?_
 have hfr:=aI hr hf
 replace hfr:=RepC.d_inv hfr
 generalize hfe : a.eval fop = fv at hfr
 cases hfr with
 | fn cvs hl hcs =>
   have hcaps : All2 (RepV σ φ st.sto) (caps.map fun x=>.one (.d x)) cvs:=by
    refine All2.of_get (by simp [hl]) fun j x v hx hv=>?_
    simp only [List.getElem?_map,Option.map_eq_some_iff] at hx
    obtain ⟨d,hd,rfl⟩:=hx
    exact RepC.d (hcs j d v hd hv)
   refine ⟨f,_,_,pH ho hfe hC.fn,zI (o:=o) k ρ hr hd hC (by rw [tF,nE]; exact (gQ hr ha).append hcaps) hpass hcomp hk hfresh,?_⟩
   rintro e w' ⟨v,σ',φ',rfl,hr'⟩
   exact ⟨v,_,σ',φ',rfl,hr',h⟩
theorem FP{r : Nat→Nat} : ∀ {avs : List AV},cw avs = true→cX r avs = avs:=by
 have h1 : ∀ {cs : List AC},gY cs = true→j7 r cs = cs:=by
  intro cs
  induction cs with
  | nil=>intro _; rfl
  | cons x l ih =>
    intro h
    cases x with
    | d x=>simp only [gY] at h; simp only [j7,iq,ih h]
    | _=>simp [gY] at h
 intro avs
 induction avs with
 | nil=>intro _; rfl
 | cons v l ih =>
   intro h
   simp only [cw,Bool.and_eq_true] at h
   simp only [cX,ih h.2]
   congr 1
   cases v with
   | one x=>cases x <;> first | rfl | simp [avD] at h
   | agg cs=>simp only [dD]; rw [h1 h.1]
   | _=>simp [avD] at h
theorem B0{s : Sto} : ∀ {avs : List AV},cw avs = true→dp s avs = true:=by
 have h1 : ∀ {cs : List AC},gY cs = true→eC s cs = true:=by
  intro cs
  induction cs with
  | nil=>intro _; rfl
  | cons x l ih =>
    intro h
    cases x with
    | d x=>simp only [gY] at h; simp only [eC,bG,ih h,Bool.and_self]
    | _=>simp [gY] at h
 intro avs
 induction avs with
 | nil=>intro _; rfl
 | cons v l ih =>
   intro h
   simp only [cw,Bool.and_eq_true] at h
   simp only [dp,ih h.2,Bool.and_true]
   cases v with
   | one x=>cases x <;> first | rfl | simp [avD] at h
   | agg cs=>exact h1 h.1
   | _=>simp [avD] at h
theorem DU{ops : Array Oper}{o : Oper}{rest : List Oper}{st : St}{K : St→Prop}{fop : Operand}{args : Array Operand}{ats : Array TypeId}{f : FuncId}{caps : List D}{avs : List AV}{rav : AV}{rsto : Sto}(k : Nat)
  (ho : o.op = .call { callee:=.value fop,args:=args,argTypes:=ats }) (hg : o.guard = none) (hd : aU c.n o.dst = true) (hf : ev st fop = some (.one (.d (.fn f caps))))
  (ha : evL st args.toList = some avs) (hD : cw avs = true) (hC : CallA P f (avs ++ caps.map fun x=>.one (.d x)) [] rav rsto)
  (hk : (cA [] rsto && Nat.ble (k + 16) 1000000 && c7 rsto rav && bm rsto rsto) = true) (hfresh : kr k st)
  (h : ae P c ops rest ⟨bt o.dst (dD (rn k []) rav) st.fr,dO (rn k []) st.sto rsto⟩ K) : ae P c ops (o::rest) st K:=by
 simp only [Bool.and_eq_true] at hk
 have hcd : ∀ {ds : List D},cw (ds.map fun x=>AV.one (.d x)) = true:=by
  intro ds
  induction ds with
  | nil=>rfl
  | cons x l ih=>simp only [List.map_cons,cw,avD,ih,Bool.and_self]
 have hap : ∀ {a b : List AV},cw a = true→cw b = true→cw (a ++ b) = true:=by
  intro a b
  induction a with
  | nil=>intro _ h; exact h
  | cons x l ih =>
    intro h h'
    simp only [cw,Bool.and_eq_true] at h
    simp only [List.cons_append,cw,h.1,ih h.2 h',Bool.and_self]
 refine lu k [] ho hg hd hf (cargs:=avs) (by rw [FP hD]; exact ha) hC trivial ?_ ?_ hfresh h
 ·have : ∀ {l : Sto},CompatL st (rn k []) [] l:=by
   intro l
   induction l with
   | nil=>trivial
   | cons p l ih=>exact ⟨fun i e h=>by simp [look] at h,ih⟩
  exact this
 ·simp only [fG,iZ,gu,fV,bm,Bool.true_and,Bool.and_true,hk.1.1.1,hk.1.1.2,hk.1.2,hk.2,B0 (hap hD hcd)]
end Go.Abs
namespace Go.Abs
open Go
variable {P : Program} {c : Ctx} {T : Tab} {σ : Sig} {φ : Pl} {sto : Sto} {w : World}
def sv : D→Bool
 | .int _ _ | .bool _ | .str _ | .nil | .raw _=>true
 | _=>false
def gn : List AC→Bool
 | []=>true
 | .d x::r=>sv x && gn r
 | _::_=>false
def Bf : List (Bool×List AC)→Bool
 | []=>true
 | t::r=>gn t.2 && Bf r
def fh : AV→Bool
 | .one (.d x)=>sv x
 | .agg cs=>gn cs
 | .tup ts=>Bf ts
 | _=>false
theorem xX{σ' : Sig}{x : D}{v : Value}(hf : sv x = true)(h : Rep σ x v) : Rep σ' x v:=by
 cases h with
 | int h=>exact .int h
 | bool=>exact .bool
 | str h=>exact .str h
 | nil=>exact .nil
 | raw h=>exact .raw h
 | sl=>simp [sv] at hf
 | ptr=>simp [sv] at hf
 | fn=>simp [sv] at hf
theorem mr{σ' : Sig}{φ' : Pl}{sto' : Sto} : ∀ {cs : List AC} {vs : List Value},gn cs = true→All2 (RepC σ φ sto) cs vs→All2 (RepC σ' φ' sto') cs vs
 | [],[],_,_=>trivial
 | .d _::_,_::_,hd,h=>by
   simp only [gn,Bool.and_eq_true] at hd
   exact ⟨by have h1:=RepC.d_inv h.1; exact .d (xX hd.1 h1),mr hd.2 h.2⟩
 | [],_::_,_,h=>h.elim
 | _::_,[],_,h=>h.elim
 | .own _ _::_,_::_,hd,_=>by simp [gn] at hd
 | .sub _ _ _::_,_::_,hd,_=>by simp [gn] at hd
 | .ref _ _::_,_::_,hd,_=>by simp [gn] at hd
 | .rref _ _ _::_,_::_,hd,_=>by simp [gn] at hd
 | .junk::_,_::_,hd,_=>by simp [gn] at hd
 | .yl _::_,_::_,hd,_=>by simp [gn] at hd
 | .mapr _::_,_::_,hd,_=>by simp [gn] at hd
 | .bsl _ _ _::_,_::_,hd,_=>by simp [gn] at hd
theorem q8{σ' : Sig}{φ' : Pl}{sto' : Sto}{v : AV}{u : Value}(hf : fh v = true)(h : RepV σ φ sto v u) : RepV σ' φ' sto' v u:=by
 cases v with
 | one c =>
   cases c with
   | d x=>replace h:=RepC.d_inv h; exact RepC.d (xX hf h)
   | _=>simp [fh] at hf
 | agg cs=>obtain ⟨us,rfl,h⟩:=h; exact ⟨us,rfl,mr hf h⟩
 | tup ts =>
   obtain ⟨us,rfl,h⟩:=h
   refine ⟨us,rfl,?_⟩
   simp only [fh] at hf
   induction ts generalizing us with
   | nil=>cases us <;> simp_all [All2]
   | cons t ts ih =>
     cases us with
     | nil=>exact h.elim
     | cons u us =>
       simp only [Bf,Bool.and_eq_true] at hf
       refine ⟨?_,ih hf.2 us h.2⟩
       obtain ⟨g,cs⟩:=t
       cases g with
       | true=>obtain ⟨vs,rfl,h1⟩:=h.1; exact ⟨vs,rfl,mr hf.1 h1⟩
       | false=>exact mr hf.1 h.1
 | any=>simp [fh] at hf
theorem ji{ops : Array Oper}{o : Oper}{rest : List Oper}{st ss : St}{K : St→Prop}{fop : Operand}{args : Array Operand}{ats : Array TypeId}{f : FuncId}{caps : List D}{avs : List AV}{rav : AV}{rsto : Sto}
  (ho : o.op = .call { callee:=.value fop,args:=args,argTypes:=ats }) (hg : o.guard = none) (hd : aU c.n o.dst = true) (hi : Imp c st ss) (hf : ev ss fop = some (.one (.d (.fn f caps))))
  (ha : evL ss args.toList = some avs) (hD : cw avs = true) (hC : CallA P f (avs ++ caps.map fun x=>.one (.d x)) [] rav rsto) (hfl : fh rav = true)
  (h : ae P c ops rest ⟨bt o.dst rav st.fr,st.sto⟩ K) : ae P c ops (o::rest) st K:=by
 refine lz hg fun a w σ φ hr=>?_
 obtain ⟨σs,φs,hs⟩:=hi a w σ φ hr
 have hfr:=aI hs hf
 replace hfr:=RepC.d_inv hfr
 generalize hfe : a.eval fop = fv at hfr
 cases hfr with
 | fn cs hl hcs =>
   have hinv0 : HInv σs φs [] w:=⟨hs.inv.sig,fun _ _ h=>by simp [look] at h,fun _ _ _ _ _ _ h=>by simp [look] at h⟩
   have hargs:=tE (σ':=σs) (φ':=φs) (sto':=[]) (Sig.le_refl _) hD (gQ hs ha)
   have hcaps : All2 (RepV σs φs []) (caps.map fun x=>.one (.d x)) cs:=by
    refine All2.of_get (by simp [hl]) fun j x v hx hv=>?_
    simp only [List.getElem?_map,Option.map_eq_some_iff] at hx
    obtain ⟨d,hd,rfl⟩:=hx
    exact RepC.d (hcs j d v hd hv)
   refine ⟨f,_,_,pH ho hfe hC.fn,hC.run w σs φs _ hinv0 (hargs.append hcaps),?_⟩
   rintro e w' ⟨v,σ',φ',rfl,hret⟩
   have hM : ∀ b,¬ MOf φs [] b:=by rintro b ⟨id,e,p,h,_⟩; simp [look] at h
   have hblk : ∀ b,b < w.heap.size→w'.heap[b]? = w.heap[b]?:=fun b hb=>hret.kept.block b hb (hM b)
   have hE:=Ext.refl φ st.sto
   have hinv : HInv σ φ st.sto w':=by
    refine ⟨fun b cs hb=>?_,fun i e hi=>?_,hr.inv.inj⟩
    ·obtain ⟨t,f,hh⟩:=hr.inv.sig b cs hb
     exact ⟨t,f,(hblk b (Array.getElem?_eq_some_iff.1 hh).1).trans hh⟩
    ·have ho:=hr.inv.obj _ _ hi
     exact ho.ext (X:=fun _=>False) (Sig.le_refl _) hE (fun j hj=>hj.elim) rfl fun B cc hB=>⟨hblk B (ho.lt hB),rfl⟩
   refine ⟨v,_,σ,φ,rfl,hr.putTo (st':=st) hd hr.le hr.fresh hinv hr.mine
    ⟨hret.kept.os.trans hr.fra.os,hret.kept.tape.trans hr.fra.tape,hret.kept.output.trans hr.fra.output,Nat.le_trans hr.fra.size hret.kept.size,Nat.le_trans hr.fra.drawn hret.kept.drawn,fun b hb hM'=>?_⟩ hr.pin
    (fun _=>q8 hfl hret.rep) (fun s x _ hx=>⟨x,hx,fun z hz=>hz⟩),h⟩
   rw [hblk b (Nat.lt_of_lt_of_le hb hr.fra.size)]
   exact hr.fra.block b hb hM'
def kA : List AV→Option (List D)
 | []=>some []
 | .one (.d x)::r=>match kA r with | some l=>some (x::l) | none=>none
 | _::_=>none
theorem nO : ∀ {vs : List AV} {ds : List D} {us : List Value},kA vs = some ds→All2 (RepV σ φ sto) vs us→All2 (Rep σ) ds us
 | [],ds,us,h,hr=>by
   simp [kA] at h; subst h
   cases us with
   | nil=>trivial
   | cons _ _=>exact hr.elim
 | v::r,ds,us,h,hr=>by
   cases us with
   | nil=>exact hr.elim
   | cons u us =>
     cases v with
     | one c =>
       cases c with
       | d x =>
         simp only [kA] at h
         split at h <;> simp at h
         rename_i l hl
         subst h
         have h1:=RepC.d_inv hr.1
         exact ⟨h1,nO hl hr.2⟩
       | _=>simp [kA] at h
     | _=>simp [kA] at h
theorem vH{ops : Array Oper}{o : Oper}{rest : List Oper}{st : St}{K : St→Prop}{f : FuncId}{caps : Array Operand}{avs : List AV}{ds : List D}
  (ho : o.op = .makeFunc (.func f) #[] caps) (hg : o.guard = none) (hd : aU c.n o.dst = true) (ha : evL st caps.toList = some avs) (hds : kA avs = some ds)
  (h : ae P c ops rest ⟨bt o.dst (.one (.d (.fn f ds))) st.fr,st.sto⟩ K) : ae P c ops (o::rest) st K :=
 bk hg fun a w σ φ hr=>by
  have h1:=nO hds (gQ hr ha)
  refine ⟨.func (.func f) #[] (caps.toList.map a.eval).toArray,w,_,σ,φ,?_,hr.put (v:=.one (.d (.fn f ds))) hd (RepC.d (.fn _ h1.length.symm fun j d v hd hv=>?_)),h⟩
  ·have e : (caps.toList.map a.eval).toArray = caps.map a.eval:=by rw [← Array.toList_map,Array.toArray_toList]
   rw [e]
   simp [execOp,ho,Instr.makeFunc]
  ·obtain ⟨u,hu,hru⟩:=h1.get hd
   rw [hv] at hu; cases hu; exact hru
def bnd(st : St)(o : Option Operand)(d n : Nat) : Prop :=
 match o with
 | none=>n = d
 | some x=>∃ k z,ev st x = some (.one (.d (.int k z)))∧z = (n : Int)
theorem lr{a : Act}{st : St}(hr : Rel c st a w σ φ){o : Option Operand}{x : Operand}(ho : o = some x){d n y : Nat}(hb : bnd st o d n)(hn : n≤y)(code : BoundsCode) :
  (Instr.sliceBound (a.eval x) y code).run P w = .ok n w:=by
 subst ho
 obtain ⟨k,z,hx,rfl⟩:=hb
 have : (0 : Int)≤(n : Int)∧(n : Int)≤(y : Int):=⟨by omega,by omega⟩
 simp [Instr.sliceBound,oZ hr hx,asIntOf,this]
theorem eD{a : Act}{st : St}(hr : Rel c st a w σ φ){lo hi : Option Operand}{l h len cap : Nat}(is : Bool)(hl : bnd st lo 0 l)(hh : bnd st hi len h)(h1 : l≤h)(h2 : h≤cap) :
  (Instr.sliceBounds is len cap (lo.map a.eval) (hi.map a.eval) none).run P w = .ok (l,h,cap) w:=by
 unfold Instr.sliceBounds
 cases hi with
 | none =>
   simp only [bnd] at hh; subst hh
   cases lo with
   | none=>simp only [bnd] at hl; subst hl; simp
   | some x=>simp [lr hr rfl hl h1]
 | some y =>
   have hy:=fun code=>lr (P:=P) hr rfl hh h2 code
   cases lo with
   | none=>simp only [bnd] at hl; subst hl; simp [hy]
   | some x=>simp [hy,lr hr rfl hl h1]
theorem MX{k b : Nat}{xs : List (List D)}{A : Option Addr}{cap l h : Nat}{u : Value}(hu : u = .slice A xs.length cap)(hr : Rep σ (.sl k b xs) u)(h1 : l≤h)(h2 : h≤xs.length) :
  Rep σ (.sl k b ((xs.take h).drop l)) (.slice (if cap = l then A else A.map (·.add (l * k))) (h - l) (cap - l)):=by
 subst hu
 generalize hm : xs.length = m at hr
 cases hr with
 | sl vs hc h48 hb hk hA hh =>
   have hlen : ((xs.take h).drop l).length = h - l:=by simp; omega
   have e : (Value.slice (if cap = l then A else A.map (·.add (l * k))) (h - l) (cap - l)) = .slice (if cap = l then A else A.map (·.add (l * k))) ((xs.take h).drop l).length (cap - l):=by rw [hlen]
   rw [e]
   refine .sl (fun i j=>vs (l + i) j) (by omega) (by omega) (by rw [hlen]; exact Nat.le_trans (Nat.mul_le_mul_right _ (by omega)) hb) (fun x hx=>hk x (List.mem_of_mem_take (List.mem_of_mem_drop hx))) (fun h0=>?_) (fun i j x d hx hd=>?_)
   ·obtain ⟨B,o,cells,rfl,hσ,hcell⟩:=hA (by omega)
    refine ⟨B,o + l * k,cells,?_,hσ,fun i j hi hj=>?_⟩
    ·rw [if_neg (by omega)]
     simp [fJ]
    ·rw [← hcell (l + i) j (by omega) hj]
     congr 1
     rw [Nat.add_mul]; omega
   ·have hx' : xs[l + i]? = some x:=by
     rw [List.getElem?_drop,List.getElem?_take] at hx
     split at hx
     ·exact hx
     ·cases hx
    exact hh _ _ _ _ hx' hd
theorem BF(hT : ba P T){ops : Array Oper}{o : Oper}{rest : List Oper}{st : St}{K : St→Prop}{k b k' b' l h : Nat}{t e : TypeId}{z : List D}{x : Operand}{lo hi : Option Operand}{xs : List (List D)}
  (ho : o.op = .slice t x lo hi none) (hg : o.guard = none) (hd : aU c.n o.dst = true) (ht : aW T t = some (e,k',b',z)) (hx : ev st x = some (.one (.d (.sl k b xs)))) (hk : Nat.beq k k' = true)
  (hl : bnd st lo 0 l) (hh : bnd st hi xs.length h) (h1 : l≤h) (h2 : h≤xs.length)
  (hok : ae P c ops rest ⟨bt o.dst (.one (.d (.sl k b ((xs.take h).drop l)))) st.fr,st.sto⟩ K) : ae P c ops (o::rest) st K :=
 bk hg fun a w σ φ hr=>by
  obtain ⟨i,zv,hu,hi',rfl,_⟩:=dr hT ht
  obtain rfl:=Nat.eq_of_beq_eq_true hk
  have hrx:=aI hr hx
  replace hrx:=RepC.d_inv hrx
  have hshape : ∃ A cap,a.eval x = .slice A xs.length cap∧xs.length≤cap:=by
   generalize a.eval x = ux at hrx
   cases hrx with
   | sl vs hc _ _ _ _ _=>exact ⟨_,_,rfl,hc⟩
  obtain ⟨A,cap,hux,hcap⟩:=hshape
  refine ⟨_,w,_,σ,φ,?_,hr.put (v:=.one (.d (.sl i.size b ((xs.take h).drop l)))) hd (RepC.d (MX hux hrx h1 h2)),hok⟩
  have hb:=eD (P:=P) hr true hl hh h1 (Nat.le_trans h2 hcap)
  simp only [execOp,ho,hux,Instr.sliceAt,Sem.run_bind,run_underlying hu,Result.andThen_ok,Instr.slice,Option.map_none,hb,bV hi',Sem.run_pure]
theorem wH(hT : ba P T){ops : Array Oper}{o : Oper}{rest : List Oper}{st : St}{K : St→Prop}{k b k' b' id n h : Nat}{t e : TypeId}{z : List D}{x : Operand}{lo hi : Option Operand}{xs : List (List D)}
  (ho : o.op = .slice t x lo hi none) (hg : o.guard = none) (hd : aU c.n o.dst = true) (ht : aW T t = some (e,k',b',z)) (hx : ev st x = some (.one (.own id n))) (hrow : look st.sto id = some (.row k b xs)) (hk : Nat.beq k k' = true)
  (hl : bnd st lo 0 0) (hh : bnd st hi n h) (h2 : h≤xs.length) (h3 : xs.length≤n∨h≤n)
  (hok : ae P c ops rest ⟨bt o.dst (.one (.own id h)) st.fr,st.sto⟩ K) : ae P c ops (o::rest) st K :=
 bk hg fun a w σ φ hr=>by
  obtain ⟨i,zv,hu,hi',rfl,_⟩:=dr hT ht
  obtain rfl:=Nat.eq_of_beq_eq_true hk
  have hrx : RepC σ φ st.sto (.own id n) (a.eval x):=aI hr hx
  generalize hux : a.eval x = ux at hrx
  have hobj:=hr.inv.obj _ _ hrow
  cases hrx with
  | dead hxx _=>simp [bG,b5 hrow] at hxx
  | ownNil hl' hp =>
    rw [hrow] at hl'; cases hl'
    rcases hobj with ⟨rfl,_⟩ | ⟨B,cap,_,_,_,h5,_⟩
    ·have : h = 0:=by simpa using h2
     subst this
     refine ⟨_,w,_,σ,φ,?_,hr.put (v:=.one (.own id 0)) hd (RepC.ownNil hrow hp),hok⟩
     have hb:=eD (P:=P) hr true hl hh (Nat.le_refl _) (Nat.le_refl 0)
     simp only [execOp,ho,hux,Instr.sliceAt,Sem.run_bind,run_underlying hu,Result.andThen_ok,Instr.slice,Option.map_none,hb,bV hi',Sem.run_pure]
     rfl
    ·rw [hp] at h5; cases h5
  | own hl' hn hp =>
    rename_i B cap xs'
    rw [hrow] at hl'; cases hl'
    obtain ⟨arr,ty,us,hh',hsz,hle,_⟩:=hobj.row_cells hp
    refine ⟨.slice (some ⟨B,0,none⟩) h cap,w,_,σ,φ,?_,hr.put (v:=.one (.own id h)) hd (RepC.own hrow h2 hp),hok⟩
    have hb:=eD (P:=P) hr true hl hh (Nat.zero_le _) (Nat.le_trans h2 hle)
    simp only [execOp,ho,hux,Instr.sliceAt,Sem.run_bind,run_underlying hu,Result.andThen_ok,Instr.slice,Option.map_none,hb,bV hi',Sem.run_pure]
    simp [fJ]
theorem wF(hT : ba P T){ops : Array Oper}{o : Oper}{rest : List Oper}{st : St}{K : St→Prop}{k b k' b' id n l h : Nat}{t e : TypeId}{z : List D}{x : Operand}{lo hi : Option Operand}{xs : List (List D)}
  (ho : o.op = .slice t x lo hi none) (hg : o.guard = none) (hd : aU c.n o.dst = true) (ht : aW T t = some (e,k',b',z)) (hx : ev st x = some (.one (.own id n))) (hrow : look st.sto id = some (.row k b xs)) (hk : Nat.beq k k' = true)
  (hl : bnd st lo 0 l) (hh : bnd st hi n h) (h1 : l≤h) (h2 : h≤xs.length)
  (hok : ae P c ops rest ⟨bt o.dst (.one (.sub id l (h - l))) st.fr,st.sto⟩ K) : ae P c ops (o::rest) st K :=
 bk hg fun a w σ φ hr=>by
  obtain ⟨i,zv,hu,hi',rfl,_⟩:=dr hT ht
  obtain rfl:=Nat.eq_of_beq_eq_true hk
  have hrx : RepC σ φ st.sto (.own id n) (a.eval x):=aI hr hx
  generalize hux : a.eval x = ux at hrx
  have hobj:=hr.inv.obj _ _ hrow
  cases hrx with
  | dead hxx _=>simp [bG,b5 hrow] at hxx
  | ownNil hl' hp =>
    rw [hrow] at hl'; cases hl'
    rcases hobj with ⟨rfl,_⟩ | ⟨B,cap,_,_,_,h5,_⟩
    ·have : h = 0:=by simpa using h2
     subst this
     have : l = 0:=by omega
     subst this
     refine ⟨_,w,_,σ,φ,?_,hr.put (v:=.one (.sub id 0 (0 - 0))) hd (RepC.sub (A:=none) (c:=0) hrow (by simp) (by simp) (by simp)),hok⟩
     have hb:=eD (P:=P) hr true hl hh (Nat.le_refl _) (Nat.le_refl 0)
     simp only [execOp,ho,hux,Instr.sliceAt,Sem.run_bind,run_underlying hu,Result.andThen_ok,Instr.slice,Option.map_none,hb,bV hi',Sem.run_pure]
     rfl
    ·rw [hp] at h5; cases h5
  | own hl' hn hp =>
    rename_i B cap xs'
    rw [hrow] at hl'; cases hl'
    obtain ⟨arr,ty,us,hh',hsz,hle,_⟩:=hobj.row_cells hp
    refine ⟨_,w,_,σ,φ,?_,hr.put (v:=.one (.sub id l (h - l))) hd (RepC.sub (A:=if cap = l then some ⟨B,0,none⟩ else (some ⟨B,0,none⟩ : Option Addr).map (·.add (l * i.size))) (c:=cap - l) hrow (by omega) (by omega) (fun h0=>⟨B,cap,hp,?_⟩)),hok⟩
    ·have hb:=eD (P:=P) hr true hl hh h1 (Nat.le_trans h2 hle)
     simp only [execOp,ho,hux,Instr.sliceAt,Sem.run_bind,run_underlying hu,Result.andThen_ok,Instr.slice,Option.map_none,hb,bV hi',Sem.run_pure]
    ·rw [if_neg (by omega)]
     simp [fJ]
theorem wE(hT : ba P T){ops : Array Oper}{o : Oper}{rest : List Oper}{st : St}{K : St→Prop}{l h : Nat}{t : TypeId}{x : Operand}{lo hi : Option Operand}{s : List UInt8}
  (ho : o.op = .slice t x lo hi none) (hg : o.guard = none) (hd : aU c.n o.dst = true) (ht : gm T t = true) (hx : ev st x = some (.one (.d (.str s))))
  (hl : bnd st lo 0 l) (hh : bnd st hi s.length h) (h1 : l≤h) (h2 : h≤s.length)
  (hok : ae P c ops rest ⟨bt o.dst (.one (.d (.str ((s.drop l).take (h - l))))) st.fr,st.sto⟩ K) : ae P c ops (o::rest) st K :=
 bk hg fun a w σ φ hr=>by
  have hu:=rH hT ht
  obtain ⟨hux,h48⟩:=AL hr hx
  have e : (⟨((s.drop l).take (h - l)).toArray⟩ : ByteArray) = (⟨s.toArray⟩ : ByteArray).extract l h:=by
   have:=Lib.extract_data (⟨s.toArray⟩ : ByteArray) l h
   simp only at this
   rw [← this]
  refine ⟨.string ((⟨s.toArray⟩ : ByteArray).extract l h),w,_,σ,φ,?_,hr.put (v:=.one (.d (.str ((s.drop l).take (h - l))))) hd (RepC.d (by rw [← e]; exact .str (by simp; omega))),hok⟩
  have hsz : (⟨s.toArray⟩ : ByteArray).size = s.length:=by simp [ByteArray.size]
  have hb:=eD (P:=P) (len:=s.length) (cap:=s.length) hr false hl hh h1 h2
  simp only [execOp,ho,hux,Instr.sliceAt,Sem.run_bind,run_underlying hu,Result.andThen_ok,Instr.slice,Option.map_none,Option.isSome_none,Bool.false_eq_true,if_false,hsz,hb,Sem.run_pure]
end Go.Abs
namespace Go.Abs
open Go
def ET : D→Value→Bool
 | .int k n,.int k' n'=>kEq k k' && decide (n = n')
 | .bool b,.bool b'=>b == b'
 | .str [],.string s=>s.data.toList.isEmpty
 | .nil,.slice none 0 0=>true
 | .raw .nilFunc,.nilFunc=>true
 | .raw .nilIface,.nilIface=>true
 | .raw (.map none),.map none=>true
 | .raw (.pointer none),.pointer none=>true
 | _,_=>false
theorem Iy{d : D}{v : Value}(h : ET d v = true) : v = ja d:=by
 unfold ET at h
 split at h
 ·simp only [Bool.and_eq_true,decide_eq_true_eq] at h
  obtain ⟨h1,rfl⟩:=h
  obtain rfl:=fQ h1
  rfl
 ·simp at h; subst h; rfl
 ·rename_i s
  have : s.data.toList = []:=by simpa using h
  simp only [ja]
  congr 1
  obtain ⟨l⟩:=s
  obtain ⟨l⟩:=l
  simp at this
  subst this; rfl
 ·rfl
 ·rfl
 ·rfl
 ·rfl
 ·rfl
 ·simp at h
def mZ : List D→List Value→Bool
 | [],[]=>true
 | d::ds,v::vs=>ET d v && mZ ds vs
 | _,_=>false
theorem ru : ∀ {ds : List D} {vs : List Value},mZ ds vs = true→vs = ds.map ja
 | [],[],_=>rfl
 | d::ds,v::vs,h=>by
   simp only [mZ,Bool.and_eq_true] at h
   rw [Iy h.1,ru h.2]; rfl
 | [],_::_,h=>by simp [mZ] at h
 | _::_,[],h=>by simp [mZ] at h
def uR : Value→Bool
 | .agg _=>true
 | _=>false
def I4(d : TD)(z : Value) : Bool :=
 mZ d.zero z.cells.toList && d.zero.all gU && Nat.beq d.zero.length d.size && (if d.kind.isAgg then uR z else z.oneCell)
def wR(P : Program) : List (Nat×Nat×Bool)→List Field→Bool
 | [],[]=>true
 | (o,s,g)::r,f::fs=>Nat.beq f.offset o && (match P.info? f.type,P.underlying f.type with
     | some i,some u=>Nat.beq i.size s && Nat.blt 0 s && (cY u == g)
     | _,_=>false) && wR P r fs
 | _,_=>false
def EU(P : Program) : TK→TypeDesc→Bool
 | .int k,.int k'=>kEq k k'
 | .bool,.bool=>true
 | .str,.string=>true
 | .slice e,.slice e'=>Nat.beq e e'
 | .struct fs,.struct fields=>wR P fs fields.toList
 | .array n e,.array n' e'=>Nat.beq n n' && Nat.beq e e'
 | .ptr,.pointer _=>true
 | .map k e,.map k' e'=>Nat.beq k k' && Nat.beq e e'
 | .func,.func _ _ _=>true
 | .other,u=>!cY u
 | _,_=>false
def tdB(P : Program)(t : TypeId)(d : TD) : Bool :=
 match P.info? t,P.underlying t with
 | some i,some u=>Nat.beq i.size d.size && Nat.beq i.bytes d.bytes && EU P d.kind u && (match i.zero with | some z=>I4 d z | none=>false)
 | _,_=>false
def Iz(P : Program) : Tab→Bool
 | []=>true
 | (t,d)::r=>tdB P t d && Iz P r
theorem CT{P : Program} : ∀ {fs : List (Nat×Nat×Bool)} {l : List Field},wR P fs l = true→l.length = fs.length ∧
  ∀ (j : Nat) (o s : Nat) (g : Bool),fs[j]? = some (o,s,g)→∃ f,l[j]? = some f∧f.offset = o∧P.cellsOf f.type = s∧0 < s∧(∃ i,P.info? f.type = some i)∧(∃ d',P.underlying f.type = some d'∧cY d' = g)
 | [],[],_=>⟨rfl,by simp⟩
 | (o,s,g)::r,f::fs,h=>by
   simp only [wR,Bool.and_eq_true] at h
   obtain ⟨⟨h1,h2⟩,h3⟩:=h
   obtain ⟨h4,h5⟩:=CT h3
   refine ⟨by simp [h4],fun j o' s' g' hj=>?_⟩
   cases j with
   | zero =>
     simp at hj
     obtain ⟨rfl,rfl,rfl⟩:=hj
     split at h2
     ·rename_i i u hi hu
      simp only [Bool.and_eq_true,beq_iff_eq] at h2
      refine ⟨f,rfl,Nat.eq_of_beq_eq_true h1,?_,by have:=h2.1.2; simpa [Nat.blt_eq] using this,⟨i,hi⟩,u,hu,h2.2⟩
      simp only [Program.cellsOf,hi]
      exact Nat.eq_of_beq_eq_true h2.1.1
     ·simp at h2
   | succ j =>
     obtain ⟨f',h6,h7⟩:=h5 j o' s' g' (by simpa using hj)
     exact ⟨f',by simpa using h6,h7⟩
 | [],_::_,h=>by simp [wR] at h
 | _::_,[],h=>by simp [wR] at h
theorem IA{P : Program}{k : TK}{u : TypeDesc}(h : EU P k u = true) : ej P k u:=by
 unfold EU at h
 split at h
 ·obtain rfl:=fQ h; rfl
 ·rfl
 ·rfl
 ·obtain rfl:=Nat.eq_of_beq_eq_true h; rfl
 ·rename_i fs fields
  obtain ⟨h1,h2⟩:=CT h
  refine ⟨fields,rfl,by simpa using h1,fun j o s g hj=>?_⟩
  obtain ⟨f,h3,h4⟩:=h2 j o s g hj
  exact ⟨f,by simpa using h3,h4⟩
 ·simp only [Bool.and_eq_true] at h
  obtain rfl:=Nat.eq_of_beq_eq_true h.1
  obtain rfl:=Nat.eq_of_beq_eq_true h.2; rfl
 ·exact ⟨_,rfl⟩
 ·simp only [Bool.and_eq_true] at h
  obtain rfl:=Nat.eq_of_beq_eq_true h.1
  obtain rfl:=Nat.eq_of_beq_eq_true h.2; rfl
 ·exact ⟨_,_,_,rfl⟩
 ·simpa [ej] using h
 ·simp at h
theorem B9{P : Program} : ∀ {T : Tab},Iz P T = true→ba P T
 | [],_,_,_,h=>by simp [look] at h
 | (t,d)::r,hb,t',d',h=>by
   simp only [Iz,Bool.and_eq_true] at hb
   rcases ai h with ⟨rfl,rfl⟩ | ⟨_,h⟩
   ·have h1:=hb.1
    unfold tdB at h1
    split at h1
    ·rename_i i u hi hu
     simp only [Bool.and_eq_true] at h1
     obtain ⟨⟨⟨h2,h3⟩,h4⟩,h5⟩:=h1
     split at h5
     ·rename_i z hz
      unfold I4 at h5
      simp only [Bool.and_eq_true,List.all_eq_true] at h5
      obtain ⟨⟨⟨h6,h7⟩,h8⟩,h9⟩:=h5
      have hz':=ru h6
      refine ⟨i,u,z,hi,hu,Nat.eq_of_beq_eq_true h2,Nat.eq_of_beq_eq_true h3,hz,IA h4,by rw [← hz',Array.toArray_toList],h7,Nat.eq_of_beq_eq_true h8,fun ha=>?_,fun ha=>?_⟩
      ·rw [if_pos ha] at h9
       cases z <;> simp [uR] at h9
       simp only [Value.cells] at hz'
       rw [← hz',Array.toArray_toList]
      ·rw [ha] at h9; simpa using h9
     ·simp at h5
    ·simp at h1
   ·exact B9 hb.2 t' d' h
end Go.Abs
namespace Go.Abs
open Go
structure Tr where
 v : AV
 wr : List (Nat×Option AObj)
 ri : List Nat
 new : List Nat
def cM : List (Nat×Option AObj)→Sto→Sto
 | [],s=>s
 | (i,some o)::r,s=>bS i o (cM r s)
 | (i,none)::r,s=>del i (cM r s)
def hU : List (Nat×Option AObj)→Nat→Option (Option AObj)
 | [],_=>none
 | (i,o)::r,t=>if i = t then some o else hU r t
theorem eP : ∀ {wr : List (Nat×Option AObj)} {s : Sto} {t : Nat},look (cM wr s) t = match hU wr t with | some o=>o | none=>look s t
 | [],_,_=>rfl
 | (i,some o)::r,s,t=>by
   simp only [cM,hU,cC]
   by_cases h : i = t
   ·subst h; rw [aP,if_pos rfl]
   ·rw [aS (fun e=>h e.symm),if_neg h]; exact eP
 | (i,none)::r,s,t=>by
   simp only [cM,hU]
   by_cases h : i = t
   ·subst h
    rw [if_pos rfl]
    cases hl : look (del i (cM r s)) i with
    | none=>rfl
    | some e=>exact absurd rfl (dt hl).1
   ·rw [if_neg h,ef (fun e=>h e.symm)]; exact eP
def oM : List Operand→List Nat
 | []=>[]
 | .tmp t::r=>t::oM r
 | _::r=>oM r
def gO(o : Op) : List Nat:=oM o.operands.toList
def uE(ops : List Oper)(o : Oper) : List Nat :=
 match o.guard with
 | none=>[]
 | some (j,_)=>match nth ops j with
   | some g=>match g.dst with
     | some d=>[d]
     | none=>[]
   | none=>[]
def Loc(P : Program)(c : Ctx)(o : Oper)(st : St)(tr : Tr) : Prop :=
 ∀ (st2 : St),(∀ t,t∈gO o.op→look st2.fr t = look st.fr t)→(∀ i,i∈tr.ri→look st2.sto i = look st.sto i) →
   (∀ i,i∈tr.new→look st2.sto i = none∧bx i st2.fr = false∧aR i st2.sto = false) →
   ∀ (ops : Array Oper) (rest : List Oper) (K : St→Prop),ae P c ops rest ⟨bt o.dst tr.v st2.fr,cM tr.wr st2.sto⟩ K→ae P c ops ({ o with guard:=none }::rest) st2 K
def gh(ops : Array Oper)(st : St)(o : Oper)(run : Bool) : Prop :=
 match o.guard with
 | none=>run = true
 | some (j,want)=>∃ y,gA st ops j = some y∧run = (y == some want)
def Tr.none : Tr:=⟨.tup [],[],[],[]⟩
def pI(acc : List Nat) : List Edge→Nat
 | []=>0
 | e::r=>if Region.binds .any e then 2 ^ e.on ||| acc.getD e.on 0 ||| pI acc r else pI acc r
def vU : List Oper→List Nat→List Nat
 | [],acc=>acc
 | o::r,acc=>vU r (acc ++ [pI acc o.after.toList])
def kW : Nat→List Oper→Bool
 | _,[]=>true
 | i,o::r=>o.after.toList.all (fun e=>!Region.binds .any e || Nat.blt e.on i) && kW (i + 1) r
def mV : List (Nat×Option AObj)→List Nat
 | []=>[]
 | (i,_)::r=>i::mV r
def rZ(id : Nat) : List (Nat×Option AObj)→Bool
 | []=>false
 | (_,some o)::r=>o.men id || rZ id r
 | (_,none)::r=>rZ id r
def tG(x : Nat) : List Nat→Bool
 | []=>false
 | y::r=>Nat.beq y x || tG x r
def uF(l : List Nat) : List Nat→Bool
 | []=>false
 | y::r=>tG y l || uF l r
def r7(d : Option Nat)(l : List Nat) : Bool:=match d with | some t=>tG t l | none=>false
def IN(d e : Option Nat) : Bool:=match d,e with | some a,some b=>Nat.beq a b | _,_=>false
def Lr(anc : List Nat)(i j : Nat) : Bool:=if i < j then (anc.getD j 0).testBit i else (anc.getD i 0).testBit j
def nG(ops : List Oper)(oi oj : Oper)(ti tj : Tr) : Bool :=
 r7 oi.dst (gO oj.op) || r7 oi.dst (uE ops oj) || IN oi.dst oj.dst || uF (mV ti.wr) tj.ri || uF (mV ti.wr) (mV tj.wr)
def zJ(ti : Tr)(id : Nat) : Bool:=tG id (mV ti.wr) || ti.v.men id || rZ id ti.wr
def yw(ops : List Oper)(anc : List Nat)(i j : Nat)(oi oj : Oper)(ti tj : Tr) : Bool :=
 (!nG ops oi oj ti tj || Lr anc i j) && tj.new.all (fun id=>!zJ ti id || (Nat.blt j i && (anc.getD i 0).testBit j))
def vV(ops : List Oper)(anc : List Nat)(j : Nat)(oj : Oper)(tj : Tr) : Nat→List Oper→List Tr→Bool
 | i,oi::r,ti::ts=>(Nat.beq i j || yw ops anc i j oi oj ti tj) && vV ops anc j oj tj (i + 1) r ts
 | _,_,_=>true
def zK(ops : List Oper)(trs : List Tr)(anc : List Nat)(st : St) : Nat→List Oper→List Tr→Bool
 | j,oj::r,tj::ts=>vV ops anc j oj tj 0 ops trs && tj.new.all (fun id=>!bo st.sto id && !bx id st.fr && !aR id st.sto) && zK ops trs anc st (j + 1) r ts
 | _,_,_=>true
def kM(ops : List Oper)(st : St)(trs : List Tr) : Bool:=kW 0 ops && zK ops trs (vU ops []) st 0 ops trs
def ar(P : Program)(c : Ctx)(ops : Array Oper)(st0 : St) : List Oper→St→List Tr→(St→Prop)→Prop
 | [],st,acc,K=>kM ops.toList st0 acc.reverse = true∧K st
 | o::r,st,acc,K=>∃ (run : Bool) (tr : Tr),gh ops st o run∧(run = true→Loc P c o st tr)∧(run = false→tr = Tr.none) ∧
     (run = false→aU c.n o.dst = true)∧ar P c ops st0 r ⟨bt o.dst tr.v st.fr,cM tr.wr st.sto⟩ (tr::acc) K
def Cs(ops : List Oper)(trs : List Tr)(st0 : St)(L : Nat→Bool) : Nat→St
 | 0=>st0
 | i + 1=>match ops[i]?,trs[i]? with
   | some o,some t=>if L i then ⟨bt o.dst t.v (Cs ops trs st0 L i).fr,cM t.wr (Cs ops trs st0 L i).sto⟩ else Cs ops trs st0 L i
   | _,_=>Cs ops trs st0 L i
section
variable {ops : List Oper} {trs : List Tr} {st0 : St}
theorem iG{dst : Option Nat}{v : AV}{fr : List (Nat×AV)}{t : Nat} : look (bt dst v fr) t = if dst = some t then some v else look fr t:=by
 cases dst with
 | none=>simp [bt]
 | some d =>
   simp only [bt,Option.some.injEq]
   by_cases h : d = t
   ·subst h; rw [aP,if_pos rfl]
   ·rw [aS (fun e=>h e.symm),if_neg h]
theorem jk{L L' : Nat→Bool}{t : Nat} : ∀ {m : Nat},(∀ i o,i < m→ops[i]? = some o→o.dst = some t→L i = L' i)→look (Cs ops trs st0 L m).fr t = look (Cs ops trs st0 L' m).fr t
 | 0,_=>rfl
 | m + 1,h=>by
   have ih:=jk (m:=m) fun i o hi=>h i o (by omega)
   simp only [Cs]
   cases ho : ops[m]? with
   | none=>exact ih
   | some o =>
     cases ht : trs[m]? with
     | none=>exact ih
     | some tr =>
       simp only
       by_cases hd : o.dst = some t
       ·have:=h m o (by omega) ho hd
        cases hL : L m <;> rw [hL] at this <;> simp only [← this,Bool.false_eq_true,if_false,if_true]
        ·exact ih
        ·rw [iG,iG,if_pos hd,if_pos hd]
       ·cases hL : L m <;> cases hL' : L' m <;> simp only [Bool.false_eq_true,if_false,if_true] <;> (try rw [iG,if_neg hd]) <;> (try rw [iG,if_neg hd]) <;> exact ih
theorem iA{L L' : Nat→Bool}{id : Nat} : ∀ {m : Nat},(∀ i t,i < m→trs[i]? = some t→hU t.wr id≠none→L i = L' i)→look (Cs ops trs st0 L m).sto id = look (Cs ops trs st0 L' m).sto id
 | 0,_=>rfl
 | m + 1,h=>by
   have ih:=iA (m:=m) fun i t hi=>h i t (by omega)
   simp only [Cs]
   cases ho : ops[m]? with
   | none=>exact ih
   | some o =>
     cases ht : trs[m]? with
     | none=>exact ih
     | some tr =>
       simp only
       cases hw : hU tr.wr id with
       | some x =>
         have:=h m tr (by omega) ht (by rw [hw]; simp)
         cases hL : L m <;> rw [hL] at this <;> simp only [← this,Bool.false_eq_true,if_false,if_true]
         ·exact ih
         ·rw [eP,eP,hw]
       | none =>
         cases hL : L m <;> cases hL' : L' m <;> simp only [Bool.false_eq_true,if_false,if_true] <;> (try rw [eP,hw]) <;> (try rw [eP,hw]) <;> exact ih
theorem uG{L : Nat→Bool}{j t : Nat}{oj : Oper}{tj : Tr}(hj : ops[j]? = some oj)(htj : trs[j]? = some tj)(hL : L j = true)(hd : oj.dst = some t) :
  ∀ {m : Nat},j < m→(∀ i o,j < i→i < m→ops[i]? = some o→o.dst = some t→L i = false)→look (Cs ops trs st0 L m).fr t = some tj.v
 | 0,h,_=>by omega
 | m + 1,hjm,h=>by
   simp only [Cs]
   by_cases e : j = m
   ·subst e
    simp only [hj,htj,hL,if_true]
    rw [iG,if_pos hd]
   ·have ih:=uG hj htj hL hd (m:=m) (by omega) fun i o h1 h2=>h i o h1 (by omega)
    cases ho : ops[m]? with
    | none=>exact ih
    | some o =>
      cases ht : trs[m]? with
      | none=>exact ih
      | some tr =>
        simp only
        by_cases hdm : o.dst = some t
        ·have:=h m o (by omega) (by omega) ho hdm
         simp only [this,Bool.false_eq_true,if_false]; exact ih
        ·split
         ·rw [iG,if_neg hdm]; exact ih
         ·exact ih
theorem sF{L : Nat→Bool}{j id : Nat}{oj : Oper}{tj : Tr}{x : Option AObj}(hj : ops[j]? = some oj)(htj : trs[j]? = some tj)(hL : L j = true)(hd : hU tj.wr id = some x) :
  ∀ {m : Nat},j < m→(∀ i t,j < i→i < m→trs[i]? = some t→hU t.wr id≠none→L i = false)→look (Cs ops trs st0 L m).sto id = x
 | 0,h,_=>by omega
 | m + 1,hjm,h=>by
   simp only [Cs]
   by_cases e : j = m
   ·subst e
    simp only [hj,htj,hL,if_true]
    rw [eP,hd]
   ·have ih:=sF hj htj hL hd (m:=m) (by omega) fun i t h1 h2=>h i t h1 (by omega)
    cases ho : ops[m]? with
    | none=>exact ih
    | some o =>
      cases ht : trs[m]? with
      | none=>exact ih
      | some tr =>
        simp only
        cases hw : hU tr.wr id with
        | some y =>
          have:=h m tr (by omega) (by omega) ht (by rw [hw]; simp)
          simp only [this,Bool.false_eq_true,if_false]; exact ih
        | none =>
          split
          ·rw [eP,hw]; exact ih
          ·exact ih
end
theorem h2H{x1 x2 x3 x4 x5 x6 x7 x8 x9 x10 x11 x12 x13 x14}(h : ar x1 x2 x3 x4 (Oper.mk x5 (Op.call x6) x7 x8 x9 (x10)::x11) x12 x13 x14) : ar x1 x2 x3 x4 (Oper.mk x5 (Op.call x6) x7 x8 x9 (x10)::x11) x12 x13 x14:=h
theorem h3H{x1 x2 x3 x4 x5 x6 x7 x8}(h : ar x1 x2 x3 x4 x5 x6 x7 x8) : ar x1 x2 x3 x4 x5 x6 x7 x8:=h
theorem Hg{x1 x2 x3 x4 x5 x6 x7 x8 x9 x10 x11 x12 x13 x14 x15 x16}(h : ar x1 x2 x3 x4 (Oper.mk x5 (Op.indexAddr x6 x7 x8) x9 x10 x11 (x12)::x13) x14 x15 x16) : ar x1 x2 x3 x4 (Oper.mk x5 (Op.indexAddr x6 x7 x8) x9 x10 x11 (x12)::x13) x14 x15 x16:=h
theorem tu{x1 x2 x3 x4 x5 x6 x7 x8 x9 x10 x11 x12 x13 x14}(h : ar x1 x2 x3 x4 (Oper.mk x5 (x6) x7 x8 x9 (some x10)::x11) x12 x13 x14) : ar x1 x2 x3 x4 (Oper.mk x5 (x6) x7 x8 x9 (some x10)::x11) x12 x13 x14:=h
theorem PR{x1 x2 x3 x4 x5 x6 x7 x8 x9 x10 x11 x12 x13 x14 x15 x16 x17}(h : ar x1 x2 x3 x4 (Oper.mk x5 (Op.binOp .shl x6 x7 x8 x9) x10 x11 x12 (x13)::x14) x15 x16 x17) : ar x1 x2 x3 x4 (Oper.mk x5 (Op.binOp .shl x6 x7 x8 x9) x10 x11 x12 (x13)::x14) x15 x16 x17:=h
theorem PS{x1 x2 x3 x4 x5 x6 x7 x8 x9 x10 x11 x12 x13 x14 x15}(h : ar x1 x2 x3 x4 (Oper.mk x5 (Op.load x6 x7) x8 x9 x10 (x11)::x12) x13 x14 x15) : ar x1 x2 x3 x4 (Oper.mk x5 (Op.load x6 x7) x8 x9 x10 (x11)::x12) x13 x14 x15:=h
theorem Qa{x1 x2 x3 x4 x5 x6 x7 x8 x9 x10 x11 x12 x13 x14 x15}(h : ar x1 x2 x3 x4 (Oper.mk x5 (Op.indexAddr 54 x6 x7) x8 x9 x10 (x11)::x12) x13 x14 x15) : ar x1 x2 x3 x4 (Oper.mk x5 (Op.indexAddr 54 x6 x7) x8 x9 x10 (x11)::x12) x13 x14 x15:=h
theorem Lt{x1 x2 x3 x4 x5 x6 x7 x8 x9 x10 x11 x12 x13 x14 x15 x16}(h : ar x1 x2 x3 x4 (Oper.mk x5 (Op.buildSlice x6 x7 x8) x9 x10 x11 (x12)::x13) x14 x15 x16) : ar x1 x2 x3 x4 (Oper.mk x5 (Op.buildSlice x6 x7 x8) x9 x10 x11 (x12)::x13) x14 x15 x16:=h
theorem Qb{x1 x2 x3 x4 x5 x6 x7 x8 x9 x10 x11 x12 x13 x14 x15 x16}(h : ar x1 x2 x3 x4 (Oper.mk x5 (Op.index x6 x7 x8) x9 x10 x11 (x12)::x13) x14 x15 x16) : ar x1 x2 x3 x4 (Oper.mk x5 (Op.index x6 x7 x8) x9 x10 x11 (x12)::x13) x14 x15 x16:=h
theorem Lu{x1 x2 x3 x4 x5 x6 x7 x8 x9 x10 x11 x12 x13 x14 x15 x16 x17}(h : ar x1 x2 x3 x4 (Oper.mk x5 (Op.binOp .rem x6 x7 x8 x9) x10 x11 x12 (x13)::x14) x15 x16 x17) : ar x1 x2 x3 x4 (Oper.mk x5 (Op.binOp .rem x6 x7 x8 x9) x10 x11 x12 (x13)::x14) x15 x16 x17:=h
theorem Qc{x1 x2 x3 x4 x5 x6 x7 x8 x9 x10 x11 x12 x13 x14 x15 x16 x17}(h : ar x1 x2 x3 x4 (Oper.mk x5 (Op.slice x6 x7 none x8 x9) x10 x11 x12 (x13)::x14) x15 x16 x17) : ar x1 x2 x3 x4 (Oper.mk x5 (Op.slice x6 x7 none x8 x9) x10 x11 x12 (x13)::x14) x15 x16 x17:=h
theorem Qd{x1 x2 x3 x4 x5 x6 x7 x8 x9 x10 x11 x12 x13 x14 x15 x16 x17}(h : ar x1 x2 x3 x4 (Oper.mk x5 (Op.slice x6 x7 x8 none x9) x10 x11 x12 (x13)::x14) x15 x16 x17) : ar x1 x2 x3 x4 (Oper.mk x5 (Op.slice x6 x7 x8 none x9) x10 x11 x12 (x13)::x14) x15 x16 x17:=h
theorem Qe{x1 x2 x3 x4 x5 x6 x7 x8 x9 x10 x11 x12 x13 x14 x15 x16 x17}(h : ar x1 x2 x3 x4 (Oper.mk x5 (Op.binOp .quo x6 x7 x8 x9) x10 x11 x12 (x13)::x14) x15 x16 x17) : ar x1 x2 x3 x4 (Oper.mk x5 (Op.binOp .quo x6 x7 x8 x9) x10 x11 x12 (x13)::x14) x15 x16 x17:=h
end Go.Abs
