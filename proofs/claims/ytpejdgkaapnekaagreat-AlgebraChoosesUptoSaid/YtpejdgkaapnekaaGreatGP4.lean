import Derived.Test.YtpejdgkaapnekaaGreatGP3
set_option linter.unusedVariables false
set_option linter.unusedSimpArgs false
set_option linter.unnecessarySimpa false
set_option maxHeartbeats 1000000
namespace Go.Abs
open Go
variable {P : Program} {c : Ctx} {T : Tab} {σ : Sig} {φ : Pl} {sto : Sto} {w : World}
theorem kF{ops : Array Oper}{o : Oper}{rest : List Oper}{st : St}{K : St→Prop}(hg : o.guard = none)
  (H : ∀ (a : Act) (w : World) (σ : Sig) (φ : Pl),Rel c st a w σ φ→∃ f vs R,(execOp a.eval o).run P w = .ok (.enter f vs) w∧Calls P f vs w R ∧
   ∀ e w',R e w'→∃ v st' σ' φ',e = .returned v∧Rel c st' (a.put o.dst v) w' σ' φ'∧ac P c ops rest st' K) : ac P c ops (o::rest) st K:=by
 intro a w σ φ Q hr hQ
 obtain ⟨f,vs,R,hrun,hcalls,hR⟩:=H a w σ φ hr
 refine wpListIn_plain hg fun K' hK=>⟨fun f _=>gR c f,?_⟩
 rw [jg (by simp) hrun,Oper.uponIn_enter]
 refine ⟨fun h=>by simp [fnc,Fence.wide] at h,(rL hcalls).mono fun e w' he=>?_⟩
 obtain ⟨v,st',σ',φ',rfl,hr',hok⟩:=hR e w' he
 exact hK _ _ (hok _ _ _ _ _ hr' hQ)
def evL(st : St) : List Operand→Option (List AV)
 | []=>some []
 | x::r=>match ev st x with
   | some v=>match evL st r with
     | some l=>some (v::l)
     | none=>none
   | none=>none
theorem gm{st : St}{a : Act}(hr : Rel c st a w σ φ) : ∀ {xs : List Operand} {vs : List AV},evL st xs = some vs→All2 (RepV σ φ st.sto) vs (xs.map a.eval)
 | [],vs,h=>by simp [evL] at h; subst h; trivial
 | x::r,vs,h=>by
   simp only [evL] at h
   split at h <;> (try (simp at h; done))
   rename_i v hv
   split at h <;> simp at h
   rename_i l hl
   subst h
   exact ⟨aC hr hv,gm hr hl⟩
def gy : List AC→Bool
 | []=>true
 | .d _::r=>gy r
 | _::_=>false
def avD : AV→Bool
 | .one (.d _)=>true
 | .agg cs=>gy cs
 | _=>false
def cq : List AV→Bool
 | []=>true
 | v::r=>avD v && cq r
theorem zA{σ' : Sig}{φ' : Pl}{sto' : Sto}(hle : σ.le σ') : ∀ {cs : List AC} {vs : List Value},gy cs = true→All2 (RepC σ φ sto) cs vs→All2 (RepC σ' φ' sto') cs vs
 | [],[],_,_=>trivial
 | .d _::_,_::_,hd,h=>⟨by have h1:=RepC.d_inv h.1; exact .d (h1.mono hle),zA hle (by simpa [gy] using hd) h.2⟩
 | [],_::_,_,h=>h.elim
 | _::_,[],_,h=>h.elim
 | .own _ _::_,_::_,hd,_=>by simp [gy] at hd
 | .sub _ _ _::_,_::_,hd,_=>by simp [gy] at hd
 | .ref _ _::_,_::_,hd,_=>by simp [gy] at hd
 | .rref _ _ _::_,_::_,hd,_=>by simp [gy] at hd
 | .junk::_,_::_,hd,_=>by simp [gy] at hd
 | .yl _::_,_::_,hd,_=>by simp [gy] at hd
 | .mapr _::_,_::_,hd,_=>by simp [gy] at hd
 | .bsl _ _ _::_,_::_,hd,_=>by simp [gy] at hd
theorem IM{σ' : Sig}{φ' : Pl}{sto' : Sto}(hle : σ.le σ'){v : AV}{u : Value}(hd : avD v = true)(h : RepV σ φ sto v u) : RepV σ' φ' sto' v u:=by
 cases v with
 | one c =>
   cases c with
   | d x=>replace h:=RepC.d_inv h; exact RepC.d (h.mono hle)
   | _=>simp [avD] at hd
 | agg cs=>obtain ⟨us,rfl,h⟩:=h; exact ⟨us,rfl,zA hle hd h⟩
 | tup _=>simp [avD] at hd
 | any=>simp [avD] at hd
theorem sf{σ' : Sig}{φ' : Pl}{sto' : Sto}(hle : σ.le σ') : ∀ {vs : List AV} {us : List Value},cq vs = true→All2 (RepV σ φ sto) vs us→All2 (RepV σ' φ' sto') vs us
 | [],[],_,_=>trivial
 | _::_,_::_,hd,h=>by
   simp only [cq,Bool.and_eq_true] at hd
   exact ⟨IM hle hd.1 h.1,sf hle hd.2 h.2⟩
 | [],_::_,_,h=>h.elim
 | _::_,[],_,h=>h.elim
def dY(sto : Sto) : List AC→Bool
 | []=>true
 | c::r=>bx sto c && dY sto r
def uO(sto : Sto) : List (Bool×List AC)→Bool
 | []=>true
 | t::r=>dY sto t.2 && uO sto r
def cX(sto : Sto) : AV→Bool
 | .one c=>bx sto c
 | .agg cs=>dY sto cs
 | .tup ts=>uO sto ts
 | .any=>true
def iF(sto : Sto) : List (Nat×AV)→Bool
 | []=>true
 | (_,v)::r=>cX sto v && iF sto r
def B2(sto : Sto) : AObj→Bool
 | .box cs=>dY sto cs
 | .loop _ fr _ _=>iF sto fr
 | _=>true
def bd(sto : Sto) : Sto→Bool
 | []=>true
 | (_,o)::r=>B2 sto o && bd sto r
theorem kN{sto : Sto} : ∀ {l : List (Nat×AV)},iF sto l = true→∀ {s : Nat} {v : AV},look l s = some v→cX sto v = true
 | [],_,_,_,h=>by simp [look] at h
 | (t,x)::r,hi,s,v,h=>by
   simp only [iF,Bool.and_eq_true] at hi
   rcases ah h with ⟨_,rfl⟩ | ⟨_,h⟩
   ·exact hi.1
   ·exact kN hi.2 h
theorem eU{sto : Sto} : ∀ {l : Sto},bd sto l = true→∀ {s : Nat} {o : AObj},look l s = some o→B2 sto o = true
 | [],_,_,_,h=>by simp [look] at h
 | (t,x)::r,hi,s,v,h=>by
   simp only [bd,Bool.and_eq_true] at hi
   rcases ah h with ⟨_,rfl⟩ | ⟨_,h⟩
   ·exact hi.1
   ·exact eU hi.2 h
def gJ(r : Nat→Nat) : AC→AC
 | .own i n=>.own (r i) n
 | .sub i lo n=>.sub (r i) lo n
 | .ref i off=>.ref (r i) off
 | .rref i j off=>.rref (r i) j off
 | .yl i=>.yl (r i)
 | .mapr i=>.mapr (r i)
 | .bsl i off n=>.bsl (r i) off n
 | .d x=>.d x
 | .junk=>.junk
def jw(r : Nat→Nat) : List AC→List AC
 | []=>[]
 | c::l=>gJ r c::jw r l
def n7(r : Nat→Nat) : List (Bool×List AC)→List (Bool×List AC)
 | []=>[]
 | (g,cs)::l=>(g,jw r cs)::n7 r l
def dr(r : Nat→Nat) : AV→AV
 | .one c=>.one (gJ r c)
 | .agg cs=>.agg (jw r cs)
 | .tup ts=>.tup (n7 r ts)
 | .any=>.any
def cP(r : Nat→Nat) : List (Nat×AV)→List (Nat×AV)
 | []=>[]
 | (s,v)::l=>(s,dr r v)::cP r l
def co(r : Nat→Nat) : AObj→AObj
 | .box cs=>.box (jw r cs)
 | .row a b xs=>.row a b xs
 | .map kg vg es=>.map kg vg es
 | .loop li fr s p=>.loop li (cP r fr) s p
def cJ(r : Nat→Nat) : List AV→List AV
 | []=>[]
 | v::l=>dr r v::cJ r l
def eT(n : Nat) : Sto→Bool
 | []=>true
 | (i,_)::r=>Nat.blt i n && eT n r
def qX(k : Nat) : Sto→Bool
 | []=>true
 | (i,_)::r=>(Nat.blt i k || Nat.ble (k + 16) i) && qX k r
def CW(k : Nat) : AC→Bool
 | .own i _ | .sub i _ _ | .ref i _ | .rref i _ _ | .yl i | .mapr i | .bsl i _ _=>Nat.blt i k || Nat.ble (k + 16) i
 | _=>true
def nU(k : Nat) : List AC→Bool
 | []=>true
 | c::r=>CW k c && nU k r
def xa(k : Nat) : List (Bool×List AC)→Bool
 | []=>true
 | t::r=>nU k t.2 && xa k r
def Hj(k : Nat) : AV→Bool
 | .one c=>CW k c
 | .agg cs=>nU k cs
 | .tup ts=>xa k ts
 | .any=>true
def o9(k : Nat) : List (Nat×AV)→Bool
 | []=>true
 | p::r=>Hj k p.2 && o9 k r
def Hk(k : Nat) : AObj→Bool
 | .box cs=>nU k cs
 | .loop _ fr _ _=>o9 k fr
 | _=>true
def t7(k : Nat) : Sto→Bool
 | []=>true
 | (_,o)::r=>Hk k o && t7 k r
theorem ww{k i : Nat}(h1 : k≤i)(h2 : i < k + 16){c : AC}(h : CW k c = true) : c.men i = false:=by
 have key : ∀ {j : Nat},(Nat.blt j k || Nat.ble (k + 16) j) = true→Nat.beq j i = false:=by
  intro j hj
  simp only [Bool.or_eq_true,Nat.blt_eq,Nat.ble_eq] at hj
  cases hb : Nat.beq j i with
  | false=>rfl
  | true=>have:=Nat.eq_of_beq_eq_true hb; omega
 cases c <;> first | rfl | exact key h
theorem lD{k i : Nat}(h1 : k≤i)(h2 : i < k + 16) : ∀ {cs : List AC},nU k cs = true→b6 i cs = false
 | [],_=>rfl
 | _::_,h=>by
   simp only [nU,Bool.and_eq_true] at h
   simp only [b6,ww h1 h2 h.1,lD h1 h2 h.2,Bool.or_self]
theorem wx{k i : Nat}(h1 : k≤i)(h2 : i < k + 16) : ∀ {ts : List (Bool×List AC)},xa k ts = true→fl i ts = false
 | [],_=>rfl
 | _::_,h=>by
   simp only [xa,Bool.and_eq_true] at h
   simp only [fl,lD h1 h2 h.1,wx h1 h2 h.2,Bool.or_self]
theorem E6{k i : Nat}(h1 : k≤i)(h2 : i < k + 16){v : AV}(h : Hj k v = true) : v.men i = false:=by
 cases v with
 | one c=>exact ww h1 h2 h
 | agg cs=>exact lD h1 h2 h
 | tup ts=>exact wx h1 h2 h
 | any=>rfl
theorem mU{k i : Nat}(h1 : k≤i)(h2 : i < k + 16) : ∀ {fr : List (Nat×AV)},o9 k fr = true→bn i fr = false
 | [],_=>rfl
 | _::_,h=>by
   simp only [o9,Bool.and_eq_true] at h
   simp only [bn,E6 h1 h2 h.1,mU h1 h2 h.2,Bool.or_self]
theorem E7{k i : Nat}(h1 : k≤i)(h2 : i < k + 16){o : AObj}(h : Hk k o = true) : o.men i = false:=by
 cases o with
 | box cs=>exact lD h1 h2 h
 | loop li fr s p=>exact mU h1 h2 h
 | _=>rfl
theorem t8{k i : Nat}(h1 : k≤i)(h2 : i < k + 16) : ∀ {sto : Sto},t7 k sto = true→aM i sto = false
 | [],_=>rfl
 | (_,o)::_,h=>by
   simp only [t7,Bool.and_eq_true] at h
   simp only [aM,E7 h1 h2 h.1,t8 h1 h2 h.2,Bool.or_self]
def jL(k : Nat)(st : St) : Prop:=∀ i,k≤i→i < k + 16→look st.sto i = none∧bn i st.fr = false∧aM i st.sto = false
theorem kG{n : Nat} : ∀ {sto : Sto},eT n sto = true→∀ {i : Nat} {o : AObj},look sto i = some o→i < n
 | [],_,_,_,h=>by simp [look] at h
 | (j,x)::r,hk,i,o,h=>by
   simp only [eT,Bool.and_eq_true,Nat.blt_eq] at hk
   rcases ah h with ⟨rfl,_⟩ | ⟨_,h⟩
   ·exact hk.1
   ·exact kG hk.2 h
theorem qo{k : Nat} : ∀ {sto : Sto},qX k sto = true→∀ {i : Nat} {o : AObj},look sto i = some o→i < k∨k + 16≤i
 | [],_,_,_,h=>by simp [look] at h
 | (j,x)::r,hk,i,o,h=>by
   simp only [qX,Bool.and_eq_true,Bool.or_eq_true,Nat.blt_eq,Nat.ble_eq] at hk
   rcases ah h with ⟨rfl,_⟩ | ⟨_,h⟩
   ·exact hk.1
   ·exact qo hk.2 h
def lH(k : Nat)(st : St) : Bool:=qX k st.sto && o9 k st.fr && t7 k st.sto
theorem oh{k : Nat}{st : St}(h : lH k st = true) : jL k st:=by
 simp only [lH,Bool.and_eq_true] at h
 intro i h1 h2
 refine ⟨?_,mU h1 h2 h.1.2,t8 h1 h2 h.2⟩
 cases hl : look st.sto i with
 | none=>rfl
 | some e=>have:=qo h.1.1 hl; omega
def rn(k : Nat)(ρ : List (Nat×Nat))(j : Nat) : Nat:=bif Nat.blt j 16 then k + j else match look ρ j with | some i=>i | none=>0
def inK(ρ : List (Nat×Nat))(j : Nat) : Bool:=match look ρ j with | some _=>true | none=>false
def cw(ρ : List (Nat×Nat)) : Sto→Bool
 | []=>true
 | (j,_)::r=>(Nat.blt j 16 || inK ρ j) && cw ρ r
def fb : List (Nat×Nat)→Bool
 | []=>true
 | (j,_)::r=>Nat.ble 1000000 j && Nat.blt j 2000000 && fb r
def xb(i : Nat) : List (Nat×Nat)→Bool
 | []=>true
 | (_,i')::r=>!(Nat.beq i' i) && xb i r
def iC : List (Nat×Nat)→Bool
 | []=>true
 | (_,i)::r=>xb i r && iC r
def Pass(st : St)(r : Nat→Nat)(ρ : List (Nat×Nat)) : Sto→Prop
 | []=>True
 | (j,o)::l=>(∃ i,look ρ j = some i∧look st.sto i = some (co r o))∧Pass st r ρ l
def dC(r : Nat→Nat)(s : Sto) : Sto→Sto
 | []=>s
 | (j,o)::l=>bH (r j) (co r o) (dC r s l)
def fA : List (Nat×Nat)→Sto→Sto
 | [],s=>s
 | (_,i)::l,s=>del i (fA l s)
def CompatL(st : St)(r : Nat→Nat)(ρ : List (Nat×Nat)) : Sto→Prop
 | []=>True
 | (j,o)::l=>(∀ i e,look ρ j = some i→look st.sto i = some e→compat e o)∧CompatL st r ρ l
theorem Pass.look{st : St}{r : Nat→Nat}{ρ : List (Nat×Nat)} : ∀ {l : Sto},Pass st r ρ l→∀ {j : Nat} {o : AObj},Go.Abs.look l j = some o→∃ i,Go.Abs.look ρ j = some i∧Go.Abs.look st.sto i = some (co r o)
 | [],_,_,_,h=>by simp [Go.Abs.look] at h
 | (j',o')::l,hp,j,o,h=>by
   rcases ah h with ⟨rfl,rfl⟩ | ⟨_,h⟩
   ·exact hp.1
   ·exact Pass.look hp.2 h
theorem CompatL.look{st : St}{r : Nat→Nat}{ρ : List (Nat×Nat)} : ∀ {l : Sto},CompatL st r ρ l→∀ {j : Nat} {o : AObj},Go.Abs.look l j = some o→∀ {i : Nat} {e : AObj},Go.Abs.look ρ j = some i→Go.Abs.look st.sto i = some e→compat e o
 | [],_,_,_,h=>by simp [Go.Abs.look] at h
 | (j',o')::l,hp,j,o,h=>by
   rcases ah h with ⟨rfl,rfl⟩ | ⟨_,h⟩
   ·exact fun h1 h2=>hp.1 _ _ h1 h2
   ·exact CompatL.look hp.2 h
theorem mR{ρ : List (Nat×Nat)} : fb ρ = true→∀ {j i : Nat},look ρ j = some i→Pin j:=by
 induction ρ with
 | nil=>intro _ j i h; simp [look] at h
 | cons p r ih =>
   obtain ⟨j',i'⟩:=p
   intro hb j i h
   simp only [fb,Bool.and_eq_true,Nat.ble_eq,Nat.blt_eq] at hb
   rcases ah h with ⟨rfl,rfl⟩ | ⟨_,h⟩
   ·exact hb.1
   ·exact ih hb.2 h
theorem ua{ρ : List (Nat×Nat)}{i : Nat} : xb i ρ = true→∀ {j i' : Nat},look ρ j = some i'→i'≠i:=by
 induction ρ with
 | nil=>intro _ j i h; simp [look] at h
 | cons p r ih =>
   obtain ⟨j',i''⟩:=p
   intro hb j i' h
   simp only [xb,Bool.and_eq_true,Bool.not_eq_true'] at hb
   rcases ah h with ⟨rfl,rfl⟩ | ⟨_,h⟩
   ·exact Jc hb.1
   ·exact ih hb.2 h
theorem p7{ρ : List (Nat×Nat)} : iC ρ = true→∀ {j j' i : Nat},look ρ j = some i→look ρ j' = some i→j = j':=by
 induction ρ with
 | nil=>intro _ j j' i h; simp [look] at h
 | cons p r ih =>
   obtain ⟨j0,i0⟩:=p
   intro hb j j' i h h'
   simp only [iC,Bool.and_eq_true] at hb
   rcases ah h with ⟨e1,e2⟩ | ⟨_,k1⟩
   ·rcases ah h' with ⟨e3,_⟩ | ⟨_,k2⟩
    ·rw [e1,e3]
    ·exact absurd e2 (ua hb.1 k2)
   ·rcases ah h' with ⟨_,e4⟩ | ⟨_,k2⟩
    ·exact absurd e4 (ua hb.1 k1)
    ·exact ih hb.2 k1 k2
theorem gn{ρ : List (Nat×Nat)} : ∀ {l : Sto},cw ρ l = true→∀ {j : Nat} {o : AObj},look l j = some o→j < 16∨∃ i,look ρ j = some i
 | [],_,_,_,h=>by simp [look] at h
 | (j',o')::l,hk,j,o,h=>by
   simp only [cw,Bool.and_eq_true,Bool.or_eq_true,Nat.blt_eq] at hk
   rcases ah h with ⟨rfl,rfl⟩ | ⟨_,h⟩
   ·rcases hk.1 with h1 | h1
    ·exact .inl h1
    ·unfold inK at h1
     split at h1
     ·exact .inr ⟨_,by assumption⟩
     ·cases h1
   ·exact gn hk.2 h
theorem iU{k j : Nat}{ρ : List (Nat×Nat)}(h : j < 16) : rn k ρ j = k + j:=by unfold rn; rw [show Nat.blt j 16 = true by simpa using h]; rfl
theorem gg{k j i : Nat}{ρ : List (Nat×Nat)}(hb : fb ρ = true)(h : look ρ j = some i) : rn k ρ j = i:=by
 have:=mR hb h
 unfold rn
 have h16 : Nat.blt j 16 = false:=by
  cases hh : Nat.blt j 16 with
  | false=>rfl
  | true=>simp only [Nat.blt_eq] at hh; omega
 rw [h16,h]; rfl
theorem EC{ρ : List (Nat×Nat)}{s : Sto}{i : Nat}{o : AObj} : look (fA ρ s) i = some o→look s i = some o∧∀ j,look ρ j≠some i:=by
 induction ρ with
 | nil=>intro h; exact ⟨h,by simp [look]⟩
 | cons p r ih =>
   obtain ⟨j0,i0⟩:=p
   intro h
   obtain ⟨h1,h2⟩:=df h
   obtain ⟨h3,h4⟩:=ih h2
   refine ⟨h3,fun j hj=>?_⟩
   rcases ah hj with ⟨rfl,rfl⟩ | ⟨_,hj⟩
   ·exact h1 rfl
   ·exact h4 j hj
def fB : List (Nat×Nat)→Bool
 | []=>true
 | (j,_)::r=>!inK r j && fB r
section
variable {k : Nat} {ρ : List (Nat×Nat)} {rs s : Sto}
theorem p8{r : Nat→Nat} : ∀ {rs : Sto} {i : Nat} {o : AObj},look (dC r s rs) i = some o→(∃ j o',i = r j∧look rs j = some o'∧o = co r o')∨((∀ j o',look rs j = some o'→r j≠i)∧look s i = some o)
 | [],_,_,h=>.inr ⟨fun _ _ h=>by simp [look] at h,h⟩
 | (j,x)::l,i,o,h=>by
   simp only [dC,ci] at h
   rcases ah h with ⟨rfl,rfl⟩ | ⟨hne,h⟩
   ·exact .inl ⟨j,x,rfl,aI,rfl⟩
   ·rcases p8 h with ⟨j',o',rfl,h2,h4⟩ | ⟨h1,h2⟩
    ·refine .inl ⟨j',o',rfl,?_,h4⟩
     rw [aN ?_]; exact h2
     rintro rfl; exact hne rfl
    ·refine .inr ⟨fun j' o' hj=>?_,h2⟩
     rcases ah hj with ⟨rfl,_⟩ | ⟨_,hj⟩
     ·exact fun e=>hne e.symm
     ·exact h1 j' o' hj
theorem wi{r : Nat→Nat} : ∀ {rs : Sto},(∀ j j' o o',look rs j = some o→look rs j' = some o'→r j = r j'→j = j')→∀ {j : Nat} {o : AObj},look rs j = some o→look (dC r s rs) (r j) = some (co r o)
 | [],_,_,_,h=>by simp [look] at h
 | (j0,x)::l,hinj,j,o,h=>by
   simp only [dC,ci]
   rcases ah h with ⟨rfl,rfl⟩ | ⟨hne,h'⟩
   ·exact aI
   ·rw [aN fun e=>hne (hinj j j0 o x h aI e)]
    refine wi (fun a b o1 o2 ha hb e=>?_) h'
    by_cases ha0 : a = j0
    ·by_cases hb0 : b = j0
     ·rw [ha0,hb0]
     ·subst ha0
      exact hinj a b x o2 aI (by rw [aN hb0]; exact hb) e
    ·by_cases hb0 : b = j0
     ·subst hb0
      exact hinj a b o1 x (by rw [aN ha0]; exact ha) aI e
     ·exact hinj a b o1 o2 (by rw [aN ha0]; exact ha) (by rw [aN hb0]; exact hb) e
end
end Go.Abs
namespace Go.Abs
open Go
variable {P : Program} {c : Ctx} {T : Tab} {σ : Sig} {φ : Pl} {sto : Sto} {w : World}
def phC(φ : Pl)(ρ : List (Nat×Nat)) : Pl:=fun j=>match look ρ j with | some i=>φ i | none=>none
theorem eD{φ : Pl}{ρ : List (Nat×Nat)}{j i : Nat}(h : look ρ j = some i) : phC φ ρ j = φ i:=by simp [phC,h]
theorem gM{sto : Sto}{i : Nat}(h : bf sto i = true) : ∃ o,look sto i = some o:=by
 unfold bf at h
 split at h
 ·exact ⟨_,by assumption⟩
 ·cases h
section
variable {k : Nat} {ρ : List (Nat×Nat)} {st : St} {cs : Sto}
theorem unC(hb : fb ρ = true)(hp : Pass st (rn k ρ) ρ cs){x : AC}{v : Value}(hin : bx cs x = true)(h : RepC σ φ st.sto (gJ (rn k ρ) x) v) : RepC σ (phC φ ρ) cs x v:=by
 have key : ∀ {j : Nat},bf cs j = true→∃ o i,look cs j = some o∧look ρ j = some i∧rn k ρ j = i∧look st.sto i = some (co (rn k ρ) o):=by
  intro j hj
  obtain ⟨o,ho⟩:=gM hj
  obtain ⟨i,h1,h2⟩:=hp.look ho
  exact ⟨o,i,ho,h1,gg hb h1,h2⟩
 cases x with
 | d x=>exact .d h.d_inv
 | junk =>
   cases h with
   | junk h=>exact .junk h
   | dead hx h=>exact .junk h
 | own j n =>
   obtain ⟨o,i,h1,h2,h3,h4⟩:=key hin
   simp only [gJ,h3] at h
   cases h with
   | ownNil hl hp'=>rw [h4] at hl; cases o <;> simp [co] at hl; obtain ⟨rfl,rfl,rfl⟩:=hl; exact .ownNil h1 ((eD h2).trans hp')
   | own hl hn hp'=>rw [h4] at hl; cases o <;> simp [co] at hl; obtain ⟨rfl,rfl,rfl⟩:=hl; exact .own h1 hn ((eD h2).trans hp')
   | dead hx _=>simp [bx,bP h4] at hx
 | sub j lo n =>
   obtain ⟨o,i,h1,h2,h3,h4⟩:=key hin
   simp only [gJ,h3] at h
   cases h with
   | sub hl hn hc hA=>rw [h4] at hl; cases o <;> simp [co] at hl; obtain ⟨rfl,rfl,rfl⟩:=hl; exact .sub h1 hn hc (fun h0=>by rw [eD h2]; exact hA h0)
   | dead hx _=>simp [bx,bP h4] at hx
 | ref j off =>
   obtain ⟨o,i,h1,h2,h3,h4⟩:=key hin
   simp only [gJ,h3] at h
   cases h with
   | ref hl hp'=>rw [h4] at hl; cases o <;> simp [co] at hl; exact .ref h1 ((eD h2).trans hp')
   | dead hx _=>simp [bx,bP h4] at hx
 | rref j m off =>
   obtain ⟨o,i,h1,h2,h3,h4⟩:=key hin
   simp only [gJ,h3] at h
   cases h with
   | rref hl hp'=>rw [h4] at hl; cases o <;> simp [co] at hl; obtain ⟨rfl,rfl,rfl⟩:=hl; exact .rref h1 ((eD h2).trans hp')
   | dead hx _=>simp [bx,bP h4] at hx
 | yl j =>
   obtain ⟨o,i,h1,h2,h3,h4⟩:=key hin
   simp only [gJ,h3] at h
   cases h with
   | yl hl hp'=>rw [h4] at hl; cases o <;> simp [co] at hl; exact .yl h1 ((eD h2).trans hp')
   | dead hx _=>simp [bx,bP h4] at hx
 | bsl j off n =>
   obtain ⟨o,i,h1,h2,h3,h4⟩:=key hin
   simp only [gJ,h3] at h
   cases h with
   | bsl hl hp'=>rw [h4] at hl; cases o <;> simp [co] at hl; exact .bsl h1 ((eD h2).trans hp')
   | dead hx _=>simp [bx,bP h4] at hx
 | mapr j =>
   obtain ⟨o,i,h1,h2,h3,h4⟩:=key hin
   simp only [gJ,h3] at h
   cases h with
   | mapr hl hp'=>rw [h4] at hl; cases o <;> simp [co] at hl; exact .mapr h1 ((eD h2).trans hp')
   | dead hx _=>simp [bx,bP h4] at hx
theorem yP(hb : fb ρ = true)(hp : Pass st (rn k ρ) ρ cs) : ∀ {xs : List AC} {vs : List Value},dY cs xs = true→All2 (RepC σ φ st.sto) (jw (rn k ρ) xs) vs→All2 (RepC σ (phC φ ρ) cs) xs vs
 | [],[],_,_=>trivial
 | _::_,_::_,hi,h=>by
   simp only [dY,Bool.and_eq_true] at hi
   exact ⟨unC hb hp hi.1 h.1,yP hb hp hi.2 h.2⟩
 | [],_::_,_,h=>h.elim
 | _::_,[],_,h=>h.elim
theorem unV(hb : fb ρ = true)(hp : Pass st (rn k ρ) ρ cs){x : AV}{v : Value}(hi : cX cs x = true)(h : RepV σ φ st.sto (dr (rn k ρ) x) v) : RepV σ (phC φ ρ) cs x v:=by
 cases x with
 | one c=>exact unC hb hp hi h
 | agg cs=>obtain ⟨us,rfl,h⟩:=h; exact ⟨us,rfl,yP hb hp hi h⟩
 | tup ts =>
   obtain ⟨us,rfl,h⟩:=h
   refine ⟨us,rfl,?_⟩
   simp only [cX] at hi
   induction ts generalizing us with
   | nil=>cases us <;> simp_all [All2,n7]
   | cons t ts ih =>
     cases us with
     | nil=>exact h.elim
     | cons u us =>
       simp only [uO,Bool.and_eq_true] at hi
       refine ⟨?_,ih hi.2 us h.2⟩
       obtain ⟨g,cs⟩:=t
       cases g with
       | true=>obtain ⟨vs,rfl,h1⟩:=h.1; exact ⟨vs,rfl,yP hb hp hi.1 h1⟩
       | false=>exact yP hb hp hi.1 h.1
 | any=>trivial
def da(sto : Sto) : List AV→Bool
 | []=>true
 | v::r=>cX sto v && da sto r
theorem unL(hb : fb ρ = true)(hp : Pass st (rn k ρ) ρ cs) : ∀ {xs : List AV} {vs : List Value},da cs xs = true→All2 (RepV σ φ st.sto) (cJ (rn k ρ) xs) vs→All2 (RepV σ (phC φ ρ) cs) xs vs
 | [],[],_,_=>trivial
 | _::_,_::_,hi,h=>by
   simp only [da,Bool.and_eq_true] at hi
   exact ⟨unV hb hp hi.1 h.1,unL hb hp hi.2 h.2⟩
 | [],_::_,_,h=>h.elim
 | _::_,[],_,h=>h.elim
theorem jF{r : Nat→Nat} : ∀ {fr : List (Nat×AV)} {s : Nat},look (cP r fr) s = (look fr s).map (dr r)
 | [],_=>rfl
 | (t,v)::l,s=>by
   simp only [cP,look]
   cases Nat.beq t s with
   | true=>rfl
   | false=>simp only [cond_false]; exact jF
theorem yO(hb : fb ρ = true)(hij : iC ρ = true)(hp : Pass st (rn k ρ) ρ cs)(hs : bd cs cs = true)(h : HInv σ φ st.sto w) : HInv σ (phC φ ρ) cs w:=by
 refine ⟨h.sig,fun j o hj=>?_,fun j j' o o' p p' hj hj' hne hpp hpp'=>?_⟩
 ·obtain ⟨i,h1,h2⟩:=hp.look hj
  have ho:=h.obj _ _ h2
  have hin:=eU hs hj
  have hph:=eD (φ:=φ) h1
  cases o with
  | box xs =>
    obtain ⟨B,c',vs,t,a1,a2,a3,a4⟩:=ho
    exact ⟨B,c',vs,t,hph.trans a1,a2,yP hb hp hin a3,a4⟩
  | row a b xs =>
    rcases ho with ⟨a1,a2⟩ | ⟨B,cap,arr,t,vs,a1,a2⟩
    ·exact .inl ⟨a1,hph.trans a2⟩
    ·exact .inr ⟨B,cap,arr,t,vs,hph.trans a1,a2⟩
  | map kg vg es =>
    obtain ⟨B,c',ents,a1,a2⟩:=ho
    exact ⟨B,c',ents,hph.trans a1,a2⟩
  | loop li fr s p =>
    obtain ⟨B,c',r,a1,a2,a3,a4,a5⟩:=ho
    refine ⟨B,c',r,hph.trans a1,a2,a3,fun s v hv=>?_,a5⟩
    obtain ⟨u,hu,hru⟩:=a4 s (dr (rn k ρ) v) (by rw [jF,hv]; rfl)
    exact ⟨u,hu,unV hb hp (kN hin hv) hru⟩
 ·obtain ⟨i,h1,h2⟩:=hp.look hj
  obtain ⟨i',h1',h2'⟩:=hp.look hj'
  rw [eD h1] at hpp
  rw [eD h1'] at hpp'
  refine h.inj _ _ _ _ _ _ h2 h2' (fun e=>hne ?_) hpp hpp'
  subst e
  exact p7 hij h1 h1'
end
section
variable {σ' : Sig} {φ' φn : Pl} {rs ns : Sto} {r : Nat→Nat}
theorem reC(hR : ∀ j o,look rs j = some o→look ns (r j) = some (co r o)∧φn (r j) = φ' j){x : AC}{v : Value}(hin : bx rs x = true)(h : RepC σ' φ' rs x v) : RepC σ' φn ns (gJ r x) v:=by
 cases h with
 | d h=>exact .d h
 | ownNil h hp=>obtain ⟨h1,h2⟩:=hR _ _ h; exact .ownNil h1 (h2.trans hp)
 | own h hn hp=>obtain ⟨h1,h2⟩:=hR _ _ h; exact .own h1 hn (h2.trans hp)
 | sub h hn hc hA=>obtain ⟨h1,h2⟩:=hR _ _ h; exact .sub h1 hn hc (fun h0=>by rw [h2]; exact hA h0)
 | ref h hp=>obtain ⟨h1,h2⟩:=hR _ _ h; exact .ref h1 (h2.trans hp)
 | rref h hp=>obtain ⟨h1,h2⟩:=hR _ _ h; exact .rref h1 (h2.trans hp)
 | yl h hp=>obtain ⟨h1,h2⟩:=hR _ _ h; exact .yl h1 (h2.trans hp)
 | mapr h hp=>obtain ⟨h1,h2⟩:=hR _ _ h; exact .mapr h1 (h2.trans hp)
 | bsl h hp=>obtain ⟨h1,h2⟩:=hR _ _ h; exact .bsl h1 (h2.trans hp)
 | junk h=>exact .junk h
 | dead hx h1=>rw [hin] at hx; cases hx
theorem yQ(hR : ∀ j o,look rs j = some o→look ns (r j) = some (co r o)∧φn (r j) = φ' j) : ∀ {xs : List AC} {vs : List Value},dY rs xs = true→All2 (RepC σ' φ' rs) xs vs→All2 (RepC σ' φn ns) (jw r xs) vs
 | [],[],_,_=>trivial
 | _::_,_::_,hi,h=>by
   simp only [dY,Bool.and_eq_true] at hi
   exact ⟨reC hR hi.1 h.1,yQ hR hi.2 h.2⟩
 | [],_::_,_,h=>h.elim
 | _::_,[],_,h=>h.elim
theorem reV(hR : ∀ j o,look rs j = some o→look ns (r j) = some (co r o)∧φn (r j) = φ' j){x : AV}{v : Value}(hi : cX rs x = true)(h : RepV σ' φ' rs x v) : RepV σ' φn ns (dr r x) v:=by
 cases x with
 | one c=>exact reC hR hi h
 | agg cs=>obtain ⟨us,rfl,h⟩:=h; exact ⟨us,rfl,yQ hR hi h⟩
 | tup ts =>
   obtain ⟨us,rfl,h⟩:=h
   refine ⟨us,rfl,?_⟩
   simp only [cX] at hi
   induction ts generalizing us with
   | nil=>cases us <;> simp_all [All2,n7]
   | cons t ts ih =>
     cases us with
     | nil=>exact h.elim
     | cons u us =>
       simp only [uO,Bool.and_eq_true] at hi
       refine ⟨?_,ih hi.2 us h.2⟩
       obtain ⟨g,cs⟩:=t
       cases g with
       | true=>obtain ⟨vs,rfl,h1⟩:=h.1; exact ⟨vs,rfl,yQ hR hi.1 h1⟩
       | false=>exact yQ hR hi.1 h.1
 | any=>trivial
theorem wS(hR : ∀ j o,look rs j = some o→look ns (r j) = some (co r o)∧φn (r j) = φ' j){j : Nat}{o : AObj}(hj : look rs j = some o)(hi : B2 rs o = true){w' : World}(h : ObjRep σ' φ' rs w' j o) :
  ObjRep σ' φn ns w' (r j) (co r o):=by
 have hph:=(hR j o hj).2
 cases o with
 | box xs =>
   obtain ⟨B,c',vs,t,a1,a2,a3,a4⟩:=h
   exact ⟨B,c',vs,t,hph.trans a1,a2,yQ hR hi a3,a4⟩
 | row a b xs =>
   rcases h with ⟨a1,a2⟩ | ⟨B,cap,arr,t,vs,a1,a2⟩
   ·exact .inl ⟨a1,hph.trans a2⟩
   ·exact .inr ⟨B,cap,arr,t,vs,hph.trans a1,a2⟩
 | map kg vg es =>
   obtain ⟨B,c',ents,a1,a2⟩:=h
   exact ⟨B,c',ents,hph.trans a1,a2⟩
 | loop li fr s p =>
   obtain ⟨B,c',lp,a1,a2,a3,a4,a5⟩:=h
   refine ⟨B,c',lp,hph.trans a1,a2,a3,fun s v hv=>?_,a5⟩
   rw [jF] at hv
   cases hl : look fr s with
   | none=>rw [hl] at hv; cases hv
   | some v0 =>
     rw [hl] at hv; cases hv
     obtain ⟨u,hu,hru⟩:=a4 s v0 hl
     exact ⟨u,hu,reV hR (kN hi hl) hru⟩
end
theorem zY{r : Nat→Nat}{e o : AObj}(h : compat e o) : compat e (co r o):=by
 cases e <;> cases o <;> simp_all [compat,co]
def fU(cs : Sto) : List (Nat×Nat)→Bool
 | []=>true
 | (j,_)::r=>bf cs j && fU cs r
theorem tL{cs : Sto}{ρ : List (Nat×Nat)} : fU cs ρ = true→∀ {j i : Nat},look ρ j = some i→bf cs j = true:=by
 induction ρ with
 | nil=>intro _ j i h; simp [look] at h
 | cons p r ih =>
   obtain ⟨j',i'⟩:=p
   intro hb j i h
   simp only [fU,Bool.and_eq_true] at hb
   rcases ah h with ⟨rfl,rfl⟩ | ⟨_,h⟩
   ·exact hb.1
   ·exact ih hb.2 h
theorem uT{st : St}{a : Act}{o : Oper}{cargs : List AV}{cs rs : Sto}{rav : AV}(k : Nat)(ρ : List (Nat×Nat))(hr : Rel c st a w σ φ)(hd : aP c.n o.dst = true)
  (hpass : Pass st (rn k ρ) ρ cs) (hcomp : CompatL st (rn k ρ) ρ rs)
  (hk : (fb ρ && iC ρ && fU cs ρ && fB ρ && cw ρ rs && da cs cargs && bd cs cs && cX rs rav && bd rs rs && Nat.ble (k + 16) 1000000) = true) (hfresh : jL k st)
  {v : Value} {w' : World} {σ' : Sig} {φ' : Pl} (hret : RetP rav rs w σ (phC φ ρ) (MOf (phC φ ρ) cs) v w' σ' φ') :
  ∃ σ2 φ2,Rel c ⟨bj o.dst (dr (rn k ρ) rav) st.fr,dC (rn k ρ) (fA ρ st.sto) rs⟩ (a.put o.dst v) w' σ2 φ2∧∀ j o,look rs j = some o→φ2 (rn k ρ j) = φ' j:=by
 simp only [Bool.and_eq_true,Nat.ble_eq] at hk
 obtain ⟨⟨⟨⟨⟨⟨⟨⟨⟨hbig,hinj⟩,hall⟩,hnd⟩,hko⟩,hai⟩,hci⟩,hri⟩,hrs⟩,hkl⟩:=hk
 let φn : Pl:=fun i=>if k≤i∧i < k + 16 then φ' (i - k) else φ i
 have hφin : ∀ {j : Nat},j < 16→φn (k + j) = φ' j:=by
  intro j hj
  show (if _ then _ else _) = _
  rw [if_pos ⟨Nat.le_add_right _ _,by omega⟩,Nat.add_sub_cancel_left]
 have hφout : ∀ {i : Nat},(i < k∨k + 16≤i)→φn i = φ i:=by
  intro i hi
  show (if _ then _ else _) = _
  rw [if_neg (by omega)]
 have hout : ∀ {i : Nat} {o : AObj},look st.sto i = some o→i < k∨k + 16≤i:=by
  intro i o hi
  rcases Nat.lt_or_ge i k with h1 | h1
  ·exact .inl h1
  ·rcases Nat.lt_or_ge i (k + 16) with h2 | h2
   ·rw [(hfresh i h1 h2).1] at hi; cases hi
   ·exact .inr h2
 -- what was handed over
 have hgave : ∀ {j i : Nat},look ρ j = some i→∃ o,look cs j = some o∧look st.sto i = some (co (rn k ρ) o):=by
  intro j i hj
  obtain ⟨o,ho⟩:=gM (tL hall hj)
  obtain ⟨i',h1,h2⟩:=hpass.look ho
  rw [hj] at h1; cases h1
  exact ⟨o,ho,h2⟩
 have hMof : ∀ {b : Nat},MOf (phC φ ρ) cs b→∃ j i o p,look ρ j = some i∧look st.sto i = some o∧φ i = some p∧p.1 = b:=by
  rintro b ⟨j,o,p,h1,h2,h3⟩
  obtain ⟨i,h4,h5⟩:=hpass.look h1
  rw [eD h4] at h2
  exact ⟨j,i,_,p,h4,h5,h2,h3⟩
 have hR : ∀ j o,look rs j = some o→look (dC (rn k ρ) (fA ρ st.sto) rs) (rn k ρ j) = some (co (rn k ρ) o)∧φn (rn k ρ j) = φ' j:=by
  intro j o hj
  refine ⟨wi (fun j j' o o' hj hj' e=>?_) hj,?_⟩
  ·rcases gn hko hj with h1 | ⟨i,h1⟩ <;> rcases gn hko hj' with h2 | ⟨i',h2⟩
   ·rw [iU h1,iU h2] at e; omega
   ·rw [iU h1,gg hbig h2] at e
    obtain ⟨_,_,h3⟩:=hgave h2
    have:=hout h3; omega
   ·rw [gg hbig h1,iU h2] at e
    obtain ⟨_,_,h3⟩:=hgave h1
    have:=hout h3; omega
   ·rw [gg hbig h1,gg hbig h2] at e
    subst e
    exact p7 hinj h1 h2
  ·rcases gn hko hj with h1 | ⟨i,h1⟩
   ·rw [iU h1]; exact hφin h1
   ·rw [gg hbig h1]
    obtain ⟨_,_,h3⟩:=hgave h1
    rw [hφout (hout h3),hret.pin j (mR hbig h1),eD h1]
 have hns : ∀ {i : Nat} {e : AObj},look (dC (rn k ρ) (fA ρ st.sto) rs) i = some e→(∃ j o,look rs j = some o∧e = co (rn k ρ) o∧((j < 16∧i = k + j)∨look ρ j = some i))∨(look st.sto i = some e∧∀ j,look ρ j≠some i):=by
  intro i e h
  rcases p8 h with ⟨j,o,rfl,h1,rfl⟩ | ⟨_,h1⟩
  ·refine .inl ⟨j,o,h1,rfl,?_⟩
   rcases gn hko h1 with h2 | ⟨i,h2⟩
   ·exact .inl ⟨h2,iU h2⟩
   ·exact .inr (by rw [gg hbig h2]; exact h2)
  ·exact .inr (EC h1)
 have hE : Ext (fun i=>k≤i∧i < k + 16) φ φn st.sto (dC (rn k ρ) (fA ρ st.sto) rs):=by
  intro i hX
  cases hl : look (dC (rn k ρ) (fA ρ st.sto) rs) i with
  | none=>exact .inl rfl
  | some e =>
    rcases hns hl with ⟨j,o,h1,rfl,h2⟩ | ⟨h1,_⟩
    ·rcases h2 with ⟨h2,rfl⟩ | h2
     ·exact absurd ⟨Nat.le_add_right _ _,by omega⟩ hX
     ·obtain ⟨o',_,h4⟩:=hgave h2
      exact .inr ⟨_,h4,hφout (hout h4),_,rfl,zY (hcomp.look h1 h2 h4)⟩
    ·exact .inr ⟨e,h1,hφout (hout h1),e,rfl,compat.refl _⟩
 -- an old object that was not handed over lies elsewhere
 have hap : ∀ {i : Nat} {e : AObj} {p : Nat×Nat},look st.sto i = some e→(∀ j,look ρ j≠some i)→φ i = some p→p.1 < w.heap.size∧¬ MOf (phC φ ρ) cs p.1:=by
  intro i e p hi hn hp
  refine ⟨(hr.inv.obj _ _ hi).lt hp,fun hM=>?_⟩
  obtain ⟨j,i',o,p',h1,h2,h3,h4⟩:=hMof hM
  exact hr.inv.inj _ _ _ _ _ _ h2 hi (fun e=>hn j (e ▸ h1)) h3 hp h4
 have hinv : HInv σ' φn (dC (rn k ρ) (fA ρ st.sto) rs) w':=by
  refine ⟨hret.inv.sig,fun i e hi=>?_,fun i i' e1 e2 p p' h1 h2 hne hp hp'=>?_⟩
  ·rcases hns hi with ⟨j,o,h1,rfl,h2⟩ | ⟨h1,hn⟩
   ·have:=wS hR h1 (eU hrs h1) (hret.inv.obj _ _ h1)
    rcases h2 with ⟨h2,rfl⟩ | h2
    ·rwa [iU h2] at this
    ·rwa [gg hbig h2] at this
   ·have ho:=hr.inv.obj _ _ h1
    refine ho.ext (X:=fun i=>k≤i∧i < k + 16) hret.le hE (fun j hj=>gh (hfresh j hj.1 hj.2).2.2 h1) (hφout (hout h1)) fun B cc hB=>?_
    obtain ⟨h3,h4⟩:=hap h1 hn hB
    refine ⟨hret.kept.block B h3 h4,?_⟩
    have hs:=ho.sig hB
    rw [hs]
    cases hb : σ' B with
    | none=>rfl
    | some cs' =>
      rcases hret.fresh B (by rw [hb]; simp) with h5 | h5 | h5
      ·exact absurd hs h5
      ·simp only at h3; omega
      ·exact absurd h5 h4
  ·have old : ∀ {i : Nat} {e : AObj} {p : Nat×Nat},look st.sto i = some e→φn i = some p→φ i = some p:=by
    intro i e p hi hp
    rwa [hφout (hout hi)] at hp
   have new : ∀ {j i : Nat} {o : AObj} {p : Nat×Nat},look rs j = some o→((j < 16∧i = k + j)∨look ρ j = some i)→φn i = some p→φ' j = some p∧(w.heap.size≤p.1∨MOf (phC φ ρ) cs p.1):=by
    intro j i o p hj hji hp
    have : φn (rn k ρ j) = φ' j:=(hR j o hj).2
    have hi : rn k ρ j = i:=by
     rcases hji with ⟨h,rfl⟩ | h
     ·exact iU h
     ·exact gg hbig h
    rw [hi,hp] at this
    exact ⟨this.symm,hret.mine _ _ _ hj this.symm⟩
   rcases hns h1 with ⟨j,o1,hj,_,hji⟩ | ⟨hi1,hn1⟩ <;> rcases hns h2 with ⟨j',o2,hj',_,hji'⟩ | ⟨hi2,hn2⟩
   ·refine hret.inv.inj _ _ _ _ _ _ hj hj' (fun e=>hne ?_) (new hj hji hp).1 (new hj' hji' hp').1
    subst e
    rcases hji with ⟨a1,rfl⟩ | a1 <;> rcases hji' with ⟨a2,rfl⟩ | a2
    ·rfl
    ·have:=mR hbig a2; omega
    ·have:=mR hbig a1; omega
    ·rw [a1] at a2; cases a2; rfl
   ·obtain ⟨_,h3⟩:=new hj hji hp
    obtain ⟨h4,h5⟩:=hap hi2 hn2 (old hi2 hp')
    intro e
    rcases h3 with h3 | h3
    ·omega
    ·rw [e] at h3; exact h5 h3
   ·obtain ⟨_,h3⟩:=new hj' hji' hp'
    obtain ⟨h4,h5⟩:=hap hi1 hn1 (old hi1 hp)
    intro e
    rcases h3 with h3 | h3
    ·omega
    ·rw [← e] at h3; exact h5 h3
   ·exact hr.inv.inj _ _ _ _ _ _ hi1 hi2 hne (old hi1 hp) (old hi2 hp')
 have hmineM : ∀ {b : Nat},MOf (phC φ ρ) cs b→c.w0.heap.size≤b∨c.M b:=by
  intro b hM
  obtain ⟨j,i',o,p',h1,h2,h3,h4⟩:=hMof hM
  have:=hr.mine _ _ _ h2 h3
  rwa [h4] at this
 refine ⟨σ',φn,hr.putTo (st':=⟨st.fr,dC (rn k ρ) (fA ρ st.sto) rs⟩) hd (Sig.le_trans hr.le hret.le) (fun b hb=>?_) hinv (fun i e p hi hp=>?_)
  ⟨hret.kept.os.trans hr.fra.os,hret.kept.tape.trans hr.fra.tape,hret.kept.output.trans hr.fra.output,Nat.le_trans hr.fra.size hret.kept.size,Nat.le_trans hr.fra.drawn hret.kept.drawn,fun b hb hM'=>?_⟩ (fun i hi=>?_)
  (fun _=>reV hR hri hret.rep) (fun s x _ hx=>⟨x,hx,fun z hz=>hz.ext hret.le hE fun j hj=>dy (hfresh j hj.1 hj.2).2.1 hx⟩),fun j o hj=>(hR j o hj).2⟩
 ·rcases hret.fresh b hb with h1 | h1 | h1
  ·exact hr.fresh b h1
  ·exact .inr (.inl (Nat.le_trans hr.fra.size h1))
  ·exact .inr (hmineM h1)
 ·rcases hns hi with ⟨j,o,hj,_,hji⟩ | ⟨hi1,hn1⟩
  ·have : φn (rn k ρ j) = φ' j:=(hR j o hj).2
   have hi : rn k ρ j = i:=by
    rcases hji with ⟨h,rfl⟩ | h
    ·exact iU h
    ·exact gg hbig h
   rw [hi,hp] at this
   rcases hret.mine _ _ _ hj this.symm with h1 | h1
   ·exact .inl (Nat.le_trans hr.fra.size h1)
   ·exact hmineM h1
  ·rw [hφout (hout hi1)] at hp
   exact hr.mine _ _ _ hi1 hp
 ·rw [hret.kept.block b (Nat.lt_of_lt_of_le hb hr.fra.size) fun hM=>?_]
  ·exact hr.fra.block b hb hM'
  ·rcases hmineM hM with h | h
   ·omega
   ·exact hM' h
 ·rw [hφout (.inr (by omega))]
  exact hr.pin i hi
theorem yh{st : St}{a : Act}{o : Oper}{f : FuncId}{cargs : List AV}{cs rs : Sto}{rav : AV}{vs : List Value}(k : Nat)(ρ : List (Nat×Nat))(hr : Rel c st a w σ φ)(hd : aP c.n o.dst = true)
  (hC : CallA P f cargs cs rav rs) (hargs : All2 (RepV σ φ st.sto) (cJ (rn k ρ) cargs) vs) (hpass : Pass st (rn k ρ) ρ cs) (hcomp : CompatL st (rn k ρ) ρ rs)
  (hk : (fb ρ && iC ρ && fU cs ρ && fB ρ && cw ρ rs && da cs cargs && bd cs cs && cX rs rav && bd rs rs && Nat.ble (k + 16) 1000000) = true) (hfresh : jL k st) :
  Calls P f vs.toArray w fun e w'=>∃ v σ' φ',e = .returned v∧Rel c ⟨bj o.dst (dr (rn k ρ) rav) st.fr,dC (rn k ρ) (fA ρ st.sto) rs⟩ (a.put o.dst v) w' σ' φ':=by
 have hk':=hk
 simp only [Bool.and_eq_true,Nat.ble_eq] at hk'
 obtain ⟨⟨⟨⟨⟨⟨⟨⟨⟨hbig,hinj⟩,hall⟩,hnd⟩,hko⟩,hai⟩,hci⟩,hri⟩,hrs⟩,hkl⟩:=hk'
 refine (hC.run w σ (phC φ ρ) vs (yO hbig hinj hpass hci hr.inv) (unL hbig hpass hai hargs)).mono ?_
 rintro e w' ⟨v,σ',φ',rfl,hret⟩
 obtain ⟨σ2,φ2,h2,_⟩:=uT k ρ hr hd hpass hcomp hk hfresh hret
 exact ⟨v,σ2,φ2,rfl,h2⟩
theorem oA{a : Act}{o : Oper}{fop : Operand}{args : Array Operand}{ats : Array TypeId}{f : FuncId}{cs : List Value}(ho : o.op = .call { callee:=.value fop,args:=args,argTypes:=ats })
  (hf : a.eval fop = .func (.func f) #[] cs.toArray) (hfn : ∃ fn, P.funcs[f]? = some fn ∧ (fn.name == "runtime.NumGoroutine") = false ∧ fn.body.isSome = true) :
  (execOp a.eval o).run P w = .ok (.enter f (args.toList.map a.eval ++ cs).toArray) w:=by
 obtain ⟨fn,h1,h2,h3⟩:=hfn
 have h3' : fn.body.isNone = false:=by cases hb : fn.body <;> simp_all
 have e : (#[] ++ args.map a.eval ++ cs.toArray) = (args.toList.map a.eval ++ cs).toArray:=by
  apply Array.ext'; simp
 simp only [execOp,ho,resolve,Deferred.ofValue,hf,invoke,callFunc,Sem.run_bind,Sem.run_pure,Result.andThen_ok]
 simp only [show (program).run P w = .ok P w from rfl,Result.andThen_ok,h1,h2,h3',Bool.false_eq_true,if_false,Sem.run_pure]
 rw [e]
theorem sh{r : Nat→Nat} : ∀ {a b : List AV},cJ r (a ++ b) = cJ r a ++ cJ r b
 | [],_=>rfl
 | _::a,b=>by simp only [List.cons_append,cJ,sh (a:=a)]
theorem mJ{r : Nat→Nat} : ∀ {ds : List D},cJ r (ds.map fun x=>.one (.d x)) = ds.map fun x=>.one (.d x)
 | []=>rfl
 | _::r=>by simp only [List.map_cons,cJ,dr,gJ,mJ (ds:=r)]
theorem kA{ops : Array Oper}{o : Oper}{rest : List Oper}{st : St}{K : St→Prop}{fop : Operand}{args : Array Operand}{ats : Array TypeId}{f : FuncId}{caps : List D}{cargs : List AV}{cs rs : Sto}{rav : AV}(k : Nat)(ρ : List (Nat×Nat))
  (ho : o.op = .call { callee:=.value fop,args:=args,argTypes:=ats }) (hg : o.guard = none) (hd : aP c.n o.dst = true) (hf : ev st fop = some (.one (.d (.fn f caps))))
  (ha : evL st args.toList = some (cJ (rn k ρ) cargs)) (hC : CallA P f (cargs ++ caps.map fun x=>.one (.d x)) cs rav rs) (hpass : Pass st (rn k ρ) ρ cs) (hcomp : CompatL st (rn k ρ) ρ rs)
  (hk : (fb ρ && iC ρ && fU cs ρ && fB ρ && cw ρ rs && da cs (cargs ++ caps.map fun x=>.one (.d x)) && bd cs cs && cX rs rav && bd rs rs && Nat.ble (k + 16) 1000000) = true) (hfresh : jL k st)
  (h : ac P c ops rest ⟨bj o.dst (dr (rn k ρ) rav) st.fr,dC (rn k ρ) (fA ρ st.sto) rs⟩ K) : ac P c ops (o::rest) st K:=by
 refine kF hg fun a w σ φ hr=>?_
 have hfr:=aC hr hf
 replace hfr:=RepC.d_inv hfr
 generalize hfe : a.eval fop = fv at hfr
 cases hfr with
 | fn cvs hl hcs =>
   have hcaps : All2 (RepV σ φ st.sto) (caps.map fun x=>.one (.d x)) cvs:=by
    refine All2.of_get (by simp [hl]) fun j x v hx hv=>?_
    simp only [List.getElem?_map,Option.map_eq_some_iff] at hx
    obtain ⟨d,hd,rfl⟩:=hx
    exact RepC.d (hcs j d v hd hv)
   refine ⟨f,_,_,oA ho hfe hC.fn,yh (o:=o) k ρ hr hd hC (by rw [sh,mJ]; exact (gm hr ha).append hcaps) hpass hcomp hk hfresh,?_⟩
   rintro e w' ⟨v,σ',φ',rfl,hr'⟩
   exact ⟨v,_,σ',φ',rfl,hr',h⟩
theorem D7{r : Nat→Nat} : ∀ {avs : List AV},cq avs = true→cJ r avs = avs:=by
 have h1 : ∀ {cs : List AC},gy cs = true→jw r cs = cs:=by
  intro cs
  induction cs with
  | nil=>intro _; rfl
  | cons x l ih =>
    intro h
    cases x with
    | d x=>simp only [gy] at h; simp only [jw,gJ,ih h]
    | _=>simp [gy] at h
 intro avs
 induction avs with
 | nil=>intro _; rfl
 | cons v l ih =>
   intro h
   simp only [cq,Bool.and_eq_true] at h
   simp only [cJ,ih h.2]
   congr 1
   cases v with
   | one x=>cases x <;> first | rfl | simp [avD] at h
   | agg cs=>simp only [dr]; rw [h1 h.1]
   | _=>simp [avD] at h
theorem Au{s : Sto} : ∀ {avs : List AV},cq avs = true→da s avs = true:=by
 have h1 : ∀ {cs : List AC},gy cs = true→dY s cs = true:=by
  intro cs
  induction cs with
  | nil=>intro _; rfl
  | cons x l ih =>
    intro h
    cases x with
    | d x=>simp only [gy] at h; simp only [dY,bx,ih h,Bool.and_self]
    | _=>simp [gy] at h
 intro avs
 induction avs with
 | nil=>intro _; rfl
 | cons v l ih =>
   intro h
   simp only [cq,Bool.and_eq_true] at h
   simp only [da,ih h.2,Bool.and_true]
   cases v with
   | one x=>cases x <;> first | rfl | simp [avD] at h
   | agg cs=>exact h1 h.1
   | _=>simp [avD] at h
theorem B9{ops : Array Oper}{o : Oper}{rest : List Oper}{st : St}{K : St→Prop}{fop : Operand}{args : Array Operand}{ats : Array TypeId}{f : FuncId}{caps : List D}{avs : List AV}{rav : AV}{rsto : Sto}(k : Nat)
  (ho : o.op = .call { callee:=.value fop,args:=args,argTypes:=ats }) (hg : o.guard = none) (hd : aP c.n o.dst = true) (hf : ev st fop = some (.one (.d (.fn f caps))))
  (ha : evL st args.toList = some avs) (hD : cq avs = true) (hC : CallA P f (avs ++ caps.map fun x=>.one (.d x)) [] rav rsto)
  (hk : (cw [] rsto && Nat.ble (k + 16) 1000000 && cX rsto rav && bd rsto rsto) = true) (hfresh : jL k st)
  (h : ac P c ops rest ⟨bj o.dst (dr (rn k []) rav) st.fr,dC (rn k []) st.sto rsto⟩ K) : ac P c ops (o::rest) st K:=by
 simp only [Bool.and_eq_true] at hk
 have hcd : ∀ {ds : List D},cq (ds.map fun x=>AV.one (.d x)) = true:=by
  intro ds
  induction ds with
  | nil=>rfl
  | cons x l ih=>simp only [List.map_cons,cq,avD,ih,Bool.and_self]
 have hap : ∀ {a b : List AV},cq a = true→cq b = true→cq (a ++ b) = true:=by
  intro a b
  induction a with
  | nil=>intro _ h; exact h
  | cons x l ih =>
    intro h h'
    simp only [cq,Bool.and_eq_true] at h
    simp only [List.cons_append,cq,h.1,ih h.2 h',Bool.and_self]
 refine kA k [] ho hg hd hf (cargs:=avs) (by rw [D7 hD]; exact ha) hC trivial ?_ ?_ hfresh h
 ·have : ∀ {l : Sto},CompatL st (rn k []) [] l:=by
   intro l
   induction l with
   | nil=>trivial
   | cons p l ih=>exact ⟨fun i e h=>by simp [look] at h,ih⟩
  exact this
 ·simp only [fb,iC,fU,fB,bd,Bool.true_and,Bool.and_true,hk.1.1.1,hk.1.1.2,hk.1.2,hk.2,Au (hap hD hcd)]
end Go.Abs
namespace Go.Abs
open Go
variable {P : Program} {c : Ctx} {T : Tab} {σ : Sig} {φ : Pl} {sto : Sto} {w : World}
def qZ : D→Bool
 | .int _ _ | .bool _ | .str _ | .nil | .raw _=>true
 | _=>false
def fR : List AC→Bool
 | []=>true
 | .d x::r=>qZ x && fR r
 | _::_=>false
def zH : List (Bool×List AC)→Bool
 | []=>true
 | t::r=>fR t.2 && zH r
def eH : AV→Bool
 | .one (.d x)=>qZ x
 | .agg cs=>fR cs
 | .tup ts=>zH ts
 | _=>false
theorem wD{σ' : Sig}{x : D}{v : Value}(hf : qZ x = true)(h : Rep σ x v) : Rep σ' x v:=by
 cases h with
 | int h=>exact .int h
 | bool=>exact .bool
 | str h=>exact .str h
 | nil=>exact .nil
 | raw h=>exact .raw h
 | sl=>simp [qZ] at hf
 | ptr=>simp [qZ] at hf
 | fn=>simp [qZ] at hf
theorem lG{σ' : Sig}{φ' : Pl}{sto' : Sto} : ∀ {cs : List AC} {vs : List Value},fR cs = true→All2 (RepC σ φ sto) cs vs→All2 (RepC σ' φ' sto') cs vs
 | [],[],_,_=>trivial
 | .d _::_,_::_,hd,h=>by
   simp only [fR,Bool.and_eq_true] at hd
   exact ⟨by have h1:=RepC.d_inv h.1; exact .d (wD hd.1 h1),lG hd.2 h.2⟩
 | [],_::_,_,h=>h.elim
 | _::_,[],_,h=>h.elim
 | .own _ _::_,_::_,hd,_=>by simp [fR] at hd
 | .sub _ _ _::_,_::_,hd,_=>by simp [fR] at hd
 | .ref _ _::_,_::_,hd,_=>by simp [fR] at hd
 | .rref _ _ _::_,_::_,hd,_=>by simp [fR] at hd
 | .junk::_,_::_,hd,_=>by simp [fR] at hd
 | .yl _::_,_::_,hd,_=>by simp [fR] at hd
 | .mapr _::_,_::_,hd,_=>by simp [fR] at hd
 | .bsl _ _ _::_,_::_,hd,_=>by simp [fR] at hd
theorem pQ{σ' : Sig}{φ' : Pl}{sto' : Sto}{v : AV}{u : Value}(hf : eH v = true)(h : RepV σ φ sto v u) : RepV σ' φ' sto' v u:=by
 cases v with
 | one c =>
   cases c with
   | d x=>replace h:=RepC.d_inv h; exact RepC.d (wD hf h)
   | _=>simp [eH] at hf
 | agg cs=>obtain ⟨us,rfl,h⟩:=h; exact ⟨us,rfl,lG hf h⟩
 | tup ts =>
   obtain ⟨us,rfl,h⟩:=h
   refine ⟨us,rfl,?_⟩
   simp only [eH] at hf
   induction ts generalizing us with
   | nil=>cases us <;> simp_all [All2]
   | cons t ts ih =>
     cases us with
     | nil=>exact h.elim
     | cons u us =>
       simp only [zH,Bool.and_eq_true] at hf
       refine ⟨?_,ih hf.2 us h.2⟩
       obtain ⟨g,cs⟩:=t
       cases g with
       | true=>obtain ⟨vs,rfl,h1⟩:=h.1; exact ⟨vs,rfl,lG hf.1 h1⟩
       | false=>exact lG hf.1 h.1
 | any=>simp [eH] at hf
theorem iK{ops : Array Oper}{o : Oper}{rest : List Oper}{st ss : St}{K : St→Prop}{fop : Operand}{args : Array Operand}{ats : Array TypeId}{f : FuncId}{caps : List D}{avs : List AV}{rav : AV}{rsto : Sto}
  (ho : o.op = .call { callee:=.value fop,args:=args,argTypes:=ats }) (hg : o.guard = none) (hd : aP c.n o.dst = true) (hi : Imp c st ss) (hf : ev ss fop = some (.one (.d (.fn f caps))))
  (ha : evL ss args.toList = some avs) (hD : cq avs = true) (hC : CallA P f (avs ++ caps.map fun x=>.one (.d x)) [] rav rsto) (hfl : eH rav = true)
  (h : ac P c ops rest ⟨bj o.dst rav st.fr,st.sto⟩ K) : ac P c ops (o::rest) st K:=by
 refine kF hg fun a w σ φ hr=>?_
 obtain ⟨σs,φs,hs⟩:=hi a w σ φ hr
 have hfr:=aC hs hf
 replace hfr:=RepC.d_inv hfr
 generalize hfe : a.eval fop = fv at hfr
 cases hfr with
 | fn cs hl hcs =>
   have hinv0 : HInv σs φs [] w:=⟨hs.inv.sig,fun _ _ h=>by simp [look] at h,fun _ _ _ _ _ _ h=>by simp [look] at h⟩
   have hargs:=sf (σ':=σs) (φ':=φs) (sto':=[]) (Sig.le_refl _) hD (gm hs ha)
   have hcaps : All2 (RepV σs φs []) (caps.map fun x=>.one (.d x)) cs:=by
    refine All2.of_get (by simp [hl]) fun j x v hx hv=>?_
    simp only [List.getElem?_map,Option.map_eq_some_iff] at hx
    obtain ⟨d,hd,rfl⟩:=hx
    exact RepC.d (hcs j d v hd hv)
   refine ⟨f,_,_,oA ho hfe hC.fn,hC.run w σs φs _ hinv0 (hargs.append hcaps),?_⟩
   rintro e w' ⟨v,σ',φ',rfl,hret⟩
   have hM : ∀ b,¬ MOf φs [] b:=by rintro b ⟨id,e,p,h,_⟩; simp [look] at h
   have hblk : ∀ b,b < w.heap.size→w'.heap[b]? = w.heap[b]?:=fun b hb=>hret.kept.block b hb (hM b)
   have hE:=Ext.refl φ st.sto
   have hinv : HInv σ φ st.sto w':=by
    refine ⟨fun b cs hb=>?_,fun i e hi=>?_,hr.inv.inj⟩
    ·obtain ⟨t,f,hh⟩:=hr.inv.sig b cs hb
     exact ⟨t,f,(hblk b (Array.getElem?_eq_some_iff.1 hh).1).trans hh⟩
    ·have ho:=hr.inv.obj _ _ hi
     exact ho.ext (X:=fun _=>False) (Sig.le_refl _) hE (fun j hj=>hj.elim) rfl fun B cc hB=>⟨hblk B (ho.lt hB),rfl⟩
   refine ⟨v,_,σ,φ,rfl,hr.putTo (st':=st) hd hr.le hr.fresh hinv hr.mine
    ⟨hret.kept.os.trans hr.fra.os,hret.kept.tape.trans hr.fra.tape,hret.kept.output.trans hr.fra.output,Nat.le_trans hr.fra.size hret.kept.size,Nat.le_trans hr.fra.drawn hret.kept.drawn,fun b hb hM'=>?_⟩ hr.pin
    (fun _=>pQ hfl hret.rep) (fun s x _ hx=>⟨x,hx,fun z hz=>hz⟩),h⟩
   rw [hblk b (Nat.lt_of_lt_of_le hb hr.fra.size)]
   exact hr.fra.block b hb hM'
def jP : List AV→Option (List D)
 | []=>some []
 | .one (.d x)::r=>match jP r with | some l=>some (x::l) | none=>none
 | _::_=>none
theorem mS : ∀ {vs : List AV} {ds : List D} {us : List Value},jP vs = some ds→All2 (RepV σ φ sto) vs us→All2 (Rep σ) ds us
 | [],ds,us,h,hr=>by
   simp [jP] at h; subst h
   cases us with
   | nil=>trivial
   | cons _ _=>exact hr.elim
 | v::r,ds,us,h,hr=>by
   cases us with
   | nil=>exact hr.elim
   | cons u us =>
     cases v with
     | one c =>
       cases c with
       | d x =>
         simp only [jP] at h
         split at h <;> simp at h
         rename_i l hl
         subst h
         have h1:=RepC.d_inv hr.1
         exact ⟨h1,mS hl hr.2⟩
       | _=>simp [jP] at h
     | _=>simp [jP] at h
theorem ur{ops : Array Oper}{o : Oper}{rest : List Oper}{st : St}{K : St→Prop}{f : FuncId}{caps : Array Operand}{avs : List AV}{ds : List D}
  (ho : o.op = .makeFunc (.func f) #[] caps) (hg : o.guard = none) (hd : aP c.n o.dst = true) (ha : evL st caps.toList = some avs) (hds : jP avs = some ds)
  (h : ac P c ops rest ⟨bj o.dst (.one (.d (.fn f ds))) st.fr,st.sto⟩ K) : ac P c ops (o::rest) st K :=
 ba hg fun a w σ φ hr=>by
  have h1:=mS hds (gm hr ha)
  refine ⟨.func (.func f) #[] (caps.toList.map a.eval).toArray,w,_,σ,φ,?_,hr.put (v:=.one (.d (.fn f ds))) hd (RepC.d (.fn _ h1.length.symm fun j d v hd hv=>?_)),h⟩
  ·have e : (caps.toList.map a.eval).toArray = caps.map a.eval:=by rw [← Array.toList_map,Array.toArray_toList]
   rw [e]
   simp [execOp,ho,Instr.makeFunc]
  ·obtain ⟨u,hu,hru⟩:=h1.get hd
   rw [hv] at hu; cases hu; exact hru
def bnd(st : St)(o : Option Operand)(d n : Nat) : Prop :=
 match o with
 | none=>n = d
 | some x=>∃ k z,ev st x = some (.one (.d (.int k z)))∧z = (n : Int)
theorem kz{a : Act}{st : St}(hr : Rel c st a w σ φ){o : Option Operand}{x : Operand}(ho : o = some x){d n y : Nat}(hb : bnd st o d n)(hn : n≤y)(code : BoundsCode) :
  (Instr.sliceBound (a.eval x) y code).run P w = .ok n w:=by
 subst ho
 obtain ⟨k,z,hx,rfl⟩:=hb
 have : (0 : Int)≤(n : Int)∧(n : Int)≤(y : Int):=⟨by omega,by omega⟩
 simp [Instr.sliceBound,nV hr hx,asIntOf,this]
theorem dZ{a : Act}{st : St}(hr : Rel c st a w σ φ){lo hi : Option Operand}{l h len cap : Nat}(is : Bool)(hl : bnd st lo 0 l)(hh : bnd st hi len h)(h1 : l≤h)(h2 : h≤cap) :
  (Instr.sliceBounds is len cap (lo.map a.eval) (hi.map a.eval) none).run P w = .ok (l,h,cap) w:=by
 unfold Instr.sliceBounds
 cases hi with
 | none =>
   simp only [bnd] at hh; subst hh
   cases lo with
   | none=>simp only [bnd] at hl; subst hl; simp
   | some x=>simp [kz hr rfl hl h1]
 | some y =>
   have hy:=fun code=>kz (P:=P) hr rfl hh h2 code
   cases lo with
   | none=>simp only [bnd] at hl; subst hl; simp [hy]
   | some x=>simp [hy,kz hr rfl hl h1]
theorem KQ{k b : Nat}{xs : List (List D)}{A : Option Addr}{cap l h : Nat}{u : Value}(hu : u = .slice A xs.length cap)(hr : Rep σ (.sl k b xs) u)(h1 : l≤h)(h2 : h≤xs.length) :
  Rep σ (.sl k b ((xs.take h).drop l)) (.slice (if cap = l then A else A.map (·.add (l * k))) (h - l) (cap - l)):=by
 subst hu
 generalize hm : xs.length = m at hr
 cases hr with
 | sl vs hc h48 hb hk hA hh =>
   have hlen : ((xs.take h).drop l).length = h - l:=by simp; omega
   have e : (Value.slice (if cap = l then A else A.map (·.add (l * k))) (h - l) (cap - l)) = .slice (if cap = l then A else A.map (·.add (l * k))) ((xs.take h).drop l).length (cap - l):=by rw [hlen]
   rw [e]
   refine .sl (fun i j=>vs (l + i) j) (by omega) (by omega) (by rw [hlen]; exact Nat.le_trans (Nat.mul_le_mul_right _ (by omega)) hb) (fun x hx=>hk x (List.mem_of_mem_take (List.mem_of_mem_drop hx))) (fun h0=>?_) (fun i j x d hx hd=>?_)
   ·obtain ⟨B,o,cells,rfl,hσ,hcell⟩:=hA (by omega)
    refine ⟨B,o + l * k,cells,?_,hσ,fun i j hi hj=>?_⟩
    ·rw [if_neg (by omega)]
     simp [ff]
    ·rw [← hcell (l + i) j (by omega) hj]
     congr 1
     rw [Nat.add_mul]; omega
   ·have hx' : xs[l + i]? = some x:=by
     rw [List.getElem?_drop,List.getElem?_take] at hx
     split at hx
     ·exact hx
     ·cases hx
    exact hh _ _ _ _ hx' hd
theorem Ac(hT : aU P T){ops : Array Oper}{o : Oper}{rest : List Oper}{st : St}{K : St→Prop}{k b k' b' l h : Nat}{t e : TypeId}{z : List D}{x : Operand}{lo hi : Option Operand}{xs : List (List D)}
  (ho : o.op = .slice t x lo hi none) (hg : o.guard = none) (hd : aP c.n o.dst = true) (ht : aR T t = some (e,k',b',z)) (hx : ev st x = some (.one (.d (.sl k b xs)))) (hk : Nat.beq k k' = true)
  (hl : bnd st lo 0 l) (hh : bnd st hi xs.length h) (h1 : l≤h) (h2 : h≤xs.length)
  (hok : ac P c ops rest ⟨bj o.dst (.one (.d (.sl k b ((xs.take h).drop l)))) st.fr,st.sto⟩ K) : ac P c ops (o::rest) st K :=
 ba hg fun a w σ φ hr=>by
  obtain ⟨i,zv,hu,hi',rfl,_⟩:=de hT ht
  obtain rfl:=Nat.eq_of_beq_eq_true hk
  have hrx:=aC hr hx
  replace hrx:=RepC.d_inv hrx
  have hshape : ∃ A cap,a.eval x = .slice A xs.length cap∧xs.length≤cap:=by
   generalize a.eval x = ux at hrx
   cases hrx with
   | sl vs hc _ _ _ _ _=>exact ⟨_,_,rfl,hc⟩
  obtain ⟨A,cap,hux,hcap⟩:=hshape
  refine ⟨_,w,_,σ,φ,?_,hr.put (v:=.one (.d (.sl i.size b ((xs.take h).drop l)))) hd (RepC.d (KQ hux hrx h1 h2)),hok⟩
  have hb:=dZ (P:=P) hr true hl hh h1 (Nat.le_trans h2 hcap)
  simp only [execOp,ho,hux,Instr.sliceAt,Sem.run_bind,run_underlying hu,Result.andThen_ok,Instr.slice,Option.map_none,hb,bI hi',Sem.run_pure]
theorem vi(hT : aU P T){ops : Array Oper}{o : Oper}{rest : List Oper}{st : St}{K : St→Prop}{k b k' b' id n h : Nat}{t e : TypeId}{z : List D}{x : Operand}{lo hi : Option Operand}{xs : List (List D)}
  (ho : o.op = .slice t x lo hi none) (hg : o.guard = none) (hd : aP c.n o.dst = true) (ht : aR T t = some (e,k',b',z)) (hx : ev st x = some (.one (.own id n))) (hrow : look st.sto id = some (.row k b xs)) (hk : Nat.beq k k' = true)
  (hl : bnd st lo 0 0) (hh : bnd st hi n h) (h2 : h≤xs.length) (h3 : xs.length≤n∨h≤n)
  (hok : ac P c ops rest ⟨bj o.dst (.one (.own id h)) st.fr,st.sto⟩ K) : ac P c ops (o::rest) st K :=
 ba hg fun a w σ φ hr=>by
  obtain ⟨i,zv,hu,hi',rfl,_⟩:=de hT ht
  obtain rfl:=Nat.eq_of_beq_eq_true hk
  have hrx : RepC σ φ st.sto (.own id n) (a.eval x):=aC hr hx
  generalize hux : a.eval x = ux at hrx
  have hobj:=hr.inv.obj _ _ hrow
  cases hrx with
  | dead hxx _=>simp [bx,bP hrow] at hxx
  | ownNil hl' hp =>
    rw [hrow] at hl'; cases hl'
    rcases hobj with ⟨rfl,_⟩ | ⟨B,cap,_,_,_,h5,_⟩
    ·have : h = 0:=by simpa using h2
     subst this
     refine ⟨_,w,_,σ,φ,?_,hr.put (v:=.one (.own id 0)) hd (RepC.ownNil hrow hp),hok⟩
     have hb:=dZ (P:=P) hr true hl hh (Nat.le_refl _) (Nat.le_refl 0)
     simp only [execOp,ho,hux,Instr.sliceAt,Sem.run_bind,run_underlying hu,Result.andThen_ok,Instr.slice,Option.map_none,hb,bI hi',Sem.run_pure]
     rfl
    ·rw [hp] at h5; cases h5
  | own hl' hn hp =>
    rename_i B cap xs'
    rw [hrow] at hl'; cases hl'
    obtain ⟨arr,ty,us,hh',hsz,hle,_⟩:=hobj.row_cells hp
    refine ⟨.slice (some ⟨B,0,none⟩) h cap,w,_,σ,φ,?_,hr.put (v:=.one (.own id h)) hd (RepC.own hrow h2 hp),hok⟩
    have hb:=dZ (P:=P) hr true hl hh (Nat.zero_le _) (Nat.le_trans h2 hle)
    simp only [execOp,ho,hux,Instr.sliceAt,Sem.run_bind,run_underlying hu,Result.andThen_ok,Instr.slice,Option.map_none,hb,bI hi',Sem.run_pure]
    simp [ff]
theorem vh(hT : aU P T){ops : Array Oper}{o : Oper}{rest : List Oper}{st : St}{K : St→Prop}{k b k' b' id n l h : Nat}{t e : TypeId}{z : List D}{x : Operand}{lo hi : Option Operand}{xs : List (List D)}
  (ho : o.op = .slice t x lo hi none) (hg : o.guard = none) (hd : aP c.n o.dst = true) (ht : aR T t = some (e,k',b',z)) (hx : ev st x = some (.one (.own id n))) (hrow : look st.sto id = some (.row k b xs)) (hk : Nat.beq k k' = true)
  (hl : bnd st lo 0 l) (hh : bnd st hi n h) (h1 : l≤h) (h2 : h≤xs.length)
  (hok : ac P c ops rest ⟨bj o.dst (.one (.sub id l (h - l))) st.fr,st.sto⟩ K) : ac P c ops (o::rest) st K :=
 ba hg fun a w σ φ hr=>by
  obtain ⟨i,zv,hu,hi',rfl,_⟩:=de hT ht
  obtain rfl:=Nat.eq_of_beq_eq_true hk
  have hrx : RepC σ φ st.sto (.own id n) (a.eval x):=aC hr hx
  generalize hux : a.eval x = ux at hrx
  have hobj:=hr.inv.obj _ _ hrow
  cases hrx with
  | dead hxx _=>simp [bx,bP hrow] at hxx
  | ownNil hl' hp =>
    rw [hrow] at hl'; cases hl'
    rcases hobj with ⟨rfl,_⟩ | ⟨B,cap,_,_,_,h5,_⟩
    ·have : h = 0:=by simpa using h2
     subst this
     have : l = 0:=by omega
     subst this
     refine ⟨_,w,_,σ,φ,?_,hr.put (v:=.one (.sub id 0 (0 - 0))) hd (RepC.sub (A:=none) (c:=0) hrow (by simp) (by simp) (by simp)),hok⟩
     have hb:=dZ (P:=P) hr true hl hh (Nat.le_refl _) (Nat.le_refl 0)
     simp only [execOp,ho,hux,Instr.sliceAt,Sem.run_bind,run_underlying hu,Result.andThen_ok,Instr.slice,Option.map_none,hb,bI hi',Sem.run_pure]
     rfl
    ·rw [hp] at h5; cases h5
  | own hl' hn hp =>
    rename_i B cap xs'
    rw [hrow] at hl'; cases hl'
    obtain ⟨arr,ty,us,hh',hsz,hle,_⟩:=hobj.row_cells hp
    refine ⟨_,w,_,σ,φ,?_,hr.put (v:=.one (.sub id l (h - l))) hd (RepC.sub (A:=if cap = l then some ⟨B,0,none⟩ else (some ⟨B,0,none⟩ : Option Addr).map (·.add (l * i.size))) (c:=cap - l) hrow (by omega) (by omega) (fun h0=>⟨B,cap,hp,?_⟩)),hok⟩
    ·have hb:=dZ (P:=P) hr true hl hh h1 (Nat.le_trans h2 hle)
     simp only [execOp,ho,hux,Instr.sliceAt,Sem.run_bind,run_underlying hu,Result.andThen_ok,Instr.slice,Option.map_none,hb,bI hi',Sem.run_pure]
    ·rw [if_neg (by omega)]
     simp [ff]
theorem ve(hT : aU P T){ops : Array Oper}{o : Oper}{rest : List Oper}{st : St}{K : St→Prop}{l h : Nat}{t : TypeId}{x : Operand}{lo hi : Option Operand}{s : List UInt8}
  (ho : o.op = .slice t x lo hi none) (hg : o.guard = none) (hd : aP c.n o.dst = true) (ht : fP T t = true) (hx : ev st x = some (.one (.d (.str s))))
  (hl : bnd st lo 0 l) (hh : bnd st hi s.length h) (h1 : l≤h) (h2 : h≤s.length)
  (hok : ac P c ops rest ⟨bj o.dst (.one (.d (.str ((s.drop l).take (h - l))))) st.fr,st.sto⟩ K) : ac P c ops (o::rest) st K :=
 ba hg fun a w σ φ hr=>by
  have hu:=qj hT ht
  obtain ⟨hux,h48⟩:=zc hr hx
  have e : (⟨((s.drop l).take (h - l)).toArray⟩ : ByteArray) = (⟨s.toArray⟩ : ByteArray).extract l h:=by
   have:=Lib.extract_data (⟨s.toArray⟩ : ByteArray) l h
   simp only at this
   rw [← this]
  refine ⟨.string ((⟨s.toArray⟩ : ByteArray).extract l h),w,_,σ,φ,?_,hr.put (v:=.one (.d (.str ((s.drop l).take (h - l))))) hd (RepC.d (by rw [← e]; exact .str (by simp; omega))),hok⟩
  have hsz : (⟨s.toArray⟩ : ByteArray).size = s.length:=by simp [ByteArray.size]
  have hb:=dZ (P:=P) (len:=s.length) (cap:=s.length) hr false hl hh h1 h2
  simp only [execOp,ho,hux,Instr.sliceAt,Sem.run_bind,run_underlying hu,Result.andThen_ok,Instr.slice,Option.map_none,Option.isSome_none,Bool.false_eq_true,if_false,hsz,hb,Sem.run_pure]
end Go.Abs
