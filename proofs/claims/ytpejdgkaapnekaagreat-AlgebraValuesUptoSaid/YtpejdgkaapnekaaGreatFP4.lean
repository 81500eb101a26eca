import Derived.Test.YtpejdgkaapnekaaGreatFP3
set_option linter.unusedVariables false
set_option linter.unusedSimpArgs false
set_option maxHeartbeats 1000000
namespace Go.Abs
open Go
variable {P : Program} {c : Ctx} {T : Tab} {σ : Sig} {φ : Pl} {sto : Sto} {w : World}
theorem j8{ops : Array Oper}{o : Oper}{rest : List Oper}{st : St}{K : St→Prop}(hg : o.guard = none)
  (H : ∀ (a : Act) (w : World) (σ : Sig) (φ : Pl),Rel c st a w σ φ→∃ f vs R,(execOp a.eval o).run P w = .ok (.enter f vs) w∧Calls P f vs w R ∧
   ∀ e w',R e w'→∃ v st' σ' φ',e = .returned v∧Rel c st' (a.put o.dst v) w' σ' φ'∧ao P c ops rest st' K) : ao P c ops (o::rest) st K:=by
 intro a w σ φ Q hr hQ
 obtain ⟨f,vs,R,hrun,hcalls,hR⟩:=H a w σ φ hr
 refine wpListIn_plain hg fun K' hK=>⟨fun f _=>gO c f,?_⟩
 rw [iQ (by simp) hrun,Oper.uponIn_enter]
 refine ⟨fun h=>by simp [fnc,Fence.wide] at h,(qz hcalls).mono fun e w' he=>?_⟩
 obtain ⟨v,st',σ',φ',rfl,hr',hok⟩:=hR e w' he
 exact hK _ _ (hok _ _ _ _ _ hr' hQ)
def evL(st : St) : List Operand→Option (List AV)
 | []=>some []
 | x::r=>match ev st x with
   | some v=>match evL st r with
     | some l=>some (v::l)
     | none=>none
   | none=>none
theorem gm{st : St}{a : Act}(hr : Rel c st a w σ φ) : ∀ {xs : List Operand} {vs : List AV},evL st xs = some vs→All2 (RepV σ φ st.sto) vs (xs.map a.eval)
 | [],vs,h=>by simp [evL] at h; subst h; trivial
 | x::r,vs,h=>by
   simp only [evL] at h
   split at h <;> (try (simp at h; done))
   rename_i v hv
   split at h <;> simp at h
   rename_i l hl
   subst h
   exact ⟨bh hr hv,gm hr hl⟩
def gy : List AC→Bool
 | []=>true
 | .d _::r=>gy r
 | _::_=>false
def avD : AV→Bool
 | .one (.d _)=>true
 | .agg cs=>gy cs
 | _=>false
def cT : List AV→Bool
 | []=>true
 | v::r=>avD v && cT r
theorem xM{σ' : Sig}{φ' : Pl}{sto' : Sto}(hle : σ.le σ') : ∀ {cs : List AC} {vs : List Value},gy cs = true→All2 (RepC σ φ sto) cs vs→All2 (RepC σ' φ' sto') cs vs
 | [],[],_,_=>trivial
 | .d _::_,_::_,hd,h=>⟨by have h1:=RepC.d_inv h.1; exact .d (h1.mono hle),xM hle (by simpa [gy] using hd) h.2⟩
 | [],_::_,_,h=>h.elim
 | _::_,[],_,h=>h.elim
 | .own _ _::_,_::_,hd,_=>by simp [gy] at hd
 | .sub _ _ _::_,_::_,hd,_=>by simp [gy] at hd
 | .ref _ _::_,_::_,hd,_=>by simp [gy] at hd
 | .rref _ _ _::_,_::_,hd,_=>by simp [gy] at hd
 | .junk::_,_::_,hd,_=>by simp [gy] at hd
 | .yl _::_,_::_,hd,_=>by simp [gy] at hd
 | .mapr _::_,_::_,hd,_=>by simp [gy] at hd
 | .bsl _ _ _::_,_::_,hd,_=>by simp [gy] at hd
theorem FZ{σ' : Sig}{φ' : Pl}{sto' : Sto}(hle : σ.le σ'){v : AV}{u : Value}(hd : avD v = true)(h : RepV σ φ sto v u) : RepV σ' φ' sto' v u:=by
 cases v with
 | one c =>
   cases c with
   | d x=>replace h:=RepC.d_inv h; exact RepC.d (h.mono hle)
   | _=>simp [avD] at hd
 | agg cs=>obtain ⟨us,rfl,h⟩:=h; exact ⟨us,rfl,xM hle hd h⟩
 | tup _=>simp [avD] at hd
 | any=>simp [avD] at hd
theorem qX{σ' : Sig}{φ' : Pl}{sto' : Sto}(hle : σ.le σ') : ∀ {vs : List AV} {us : List Value},cT vs = true→All2 (RepV σ φ sto) vs us→All2 (RepV σ' φ' sto') vs us
 | [],[],_,_=>trivial
 | _::_,_::_,hd,h=>by
   simp only [cT,Bool.and_eq_true] at hd
   exact ⟨FZ hle hd.1 h.1,qX hle hd.2 h.2⟩
 | [],_::_,_,h=>h.elim
 | _::_,[],_,h=>h.elim
def eu(sto : Sto) : List AC→Bool
 | []=>true
 | c::r=>ci sto c && eu sto r
def tx(sto : Sto) : List (Bool×List AC)→Bool
 | []=>true
 | t::r=>eu sto t.2 && tx sto r
def dr(sto : Sto) : AV→Bool
 | .one c=>ci sto c
 | .agg cs=>eu sto cs
 | .tup ts=>tx sto ts
 | .any=>true
def io(sto : Sto) : List (Nat×AV)→Bool
 | []=>true
 | (_,v)::r=>dr sto v && io sto r
def zZ(sto : Sto) : AObj→Bool
 | .box cs=>eu sto cs
 | .loop _ fr _ _=>io sto fr
 | _=>true
def bL(sto : Sto) : Sto→Bool
 | []=>true
 | (_,o)::r=>zZ sto o && bL sto r
theorem kh{sto : Sto} : ∀ {l : List (Nat×AV)},io sto l = true→∀ {s : Nat} {v : AV},look l s = some v→dr sto v = true
 | [],_,_,_,h=>by simp [look] at h
 | (t,x)::r,hi,s,v,h=>by
   simp only [io,Bool.and_eq_true] at hi
   rcases aB h with ⟨_,rfl⟩ | ⟨_,h⟩
   ·exact hi.1
   ·exact kh hi.2 h
theorem ff{sto : Sto} : ∀ {l : Sto},bL sto l = true→∀ {s : Nat} {o : AObj},look l s = some o→zZ sto o = true
 | [],_,_,_,h=>by simp [look] at h
 | (t,x)::r,hi,s,v,h=>by
   simp only [bL,Bool.and_eq_true] at hi
   rcases aB h with ⟨_,rfl⟩ | ⟨_,h⟩
   ·exact hi.1
   ·exact ff hi.2 h
def gG(r : Nat→Nat) : AC→AC
 | .own i n=>.own (r i) n
 | .sub i lo n=>.sub (r i) lo n
 | .ref i off=>.ref (r i) off
 | .rref i j off=>.rref (r i) j off
 | .yl i=>.yl (r i)
 | .mapr i=>.mapr (r i)
 | .bsl i off n=>.bsl (r i) off n
 | .d x=>.d x
 | .junk=>.junk
def ja(r : Nat→Nat) : List AC→List AC
 | []=>[]
 | c::l=>gG r c::ja r l
def nj(r : Nat→Nat) : List (Bool×List AC)→List (Bool×List AC)
 | []=>[]
 | (g,cs)::l=>(g,ja r cs)::nj r l
def dO(r : Nat→Nat) : AV→AV
 | .one c=>.one (gG r c)
 | .agg cs=>.agg (ja r cs)
 | .tup ts=>.tup (nj r ts)
 | .any=>.any
def dj(r : Nat→Nat) : List (Nat×AV)→List (Nat×AV)
 | []=>[]
 | (s,v)::l=>(s,dO r v)::dj r l
def cS(r : Nat→Nat) : AObj→AObj
 | .box cs=>.box (ja r cs)
 | .row a b xs=>.row a b xs
 | .map kg vg es=>.map kg vg es
 | .loop li fr s p=>.loop li (dj r fr) s p
def da(r : Nat→Nat) : List AV→List AV
 | []=>[]
 | v::l=>dO r v::da r l
def fe(n : Nat) : Sto→Bool
 | []=>true
 | (i,_)::r=>Nat.blt i n && fe n r
def pW(k : Nat) : Sto→Bool
 | []=>true
 | (i,_)::r=>(Nat.blt i k || Nat.ble (k + 16) i) && pW k r
def AU(k : Nat) : AC→Bool
 | .own i _ | .sub i _ _ | .ref i _ | .rref i _ _ | .yl i | .mapr i | .bsl i _ _=>Nat.blt i k || Nat.ble (k + 16) i
 | _=>true
def nb(k : Nat) : List AC→Bool
 | []=>true
 | c::r=>AU k c && nb k r
def vt(k : Nat) : List (Bool×List AC)→Bool
 | []=>true
 | t::r=>nb k t.2 && vt k r
def EH(k : Nat) : AV→Bool
 | .one c=>AU k c
 | .agg cs=>nb k cs
 | .tup ts=>vt k ts
 | .any=>true
def n7(k : Nat) : List (Nat×AV)→Bool
 | []=>true
 | p::r=>EH k p.2 && n7 k r
def EI(k : Nat) : AObj→Bool
 | .box cs=>nb k cs
 | .loop _ fr _ _=>n7 k fr
 | _=>true
def sC(k : Nat) : Sto→Bool
 | []=>true
 | (_,o)::r=>EI k o && sC k r
theorem uO{k i : Nat}(h1 : k≤i)(h2 : i < k + 16){c : AC}(h : AU k c = true) : c.men i = false:=by
 have key : ∀ {j : Nat},(Nat.blt j k || Nat.ble (k + 16) j) = true→Nat.beq j i = false:=by
  intro j hj
  simp only [Bool.or_eq_true,Nat.blt_eq,Nat.ble_eq] at hj
  cases hb : Nat.beq j i with
  | false=>rfl
  | true=>have:=Nat.eq_of_beq_eq_true hb; omega
 cases c <;> first | rfl | exact key h
theorem kP{k i : Nat}(h1 : k≤i)(h2 : i < k + 16) : ∀ {cs : List AC},nb k cs = true→cH i cs = false
 | [],_=>rfl
 | _::_,h=>by
   simp only [nb,Bool.and_eq_true] at h
   simp only [cH,uO h1 h2 h.1,kP h1 h2 h.2,Bool.or_self]
theorem uP{k i : Nat}(h1 : k≤i)(h2 : i < k + 16) : ∀ {ts : List (Bool×List AC)},vt k ts = true→fy i ts = false
 | [],_=>rfl
 | _::_,h=>by
   simp only [vt,Bool.and_eq_true] at h
   simp only [fy,kP h1 h2 h.1,uP h1 h2 h.2,Bool.or_self]
theorem Cz{k i : Nat}(h1 : k≤i)(h2 : i < k + 16){v : AV}(h : EH k v = true) : v.men i = false:=by
 cases v with
 | one c=>exact uO h1 h2 h
 | agg cs=>exact kP h1 h2 h
 | tup ts=>exact uP h1 h2 h
 | any=>rfl
theorem l6{k i : Nat}(h1 : k≤i)(h2 : i < k + 16) : ∀ {fr : List (Nat×AV)},n7 k fr = true→bY i fr = false
 | [],_=>rfl
 | _::_,h=>by
   simp only [n7,Bool.and_eq_true] at h
   simp only [bY,Cz h1 h2 h.1,l6 h1 h2 h.2,Bool.or_self]
theorem CA{k i : Nat}(h1 : k≤i)(h2 : i < k + 16){o : AObj}(h : EI k o = true) : o.men i = false:=by
 cases o with
 | box cs=>exact kP h1 h2 h
 | loop li fr s p=>exact l6 h1 h2 h
 | _=>rfl
theorem sD{k i : Nat}(h1 : k≤i)(h2 : i < k + 16) : ∀ {sto : Sto},sC k sto = true→br i sto = false
 | [],_=>rfl
 | (_,o)::_,h=>by
   simp only [sC,Bool.and_eq_true] at h
   simp only [br,CA h1 h2 h.1,sD h1 h2 h.2,Bool.or_self]
def jr(k : Nat)(st : St) : Prop:=∀ i,k≤i→i < k + 16→look st.sto i = none∧bY i st.fr = false∧br i st.sto = false
theorem j9{n : Nat} : ∀ {sto : Sto},fe n sto = true→∀ {i : Nat} {o : AObj},look sto i = some o→i < n
 | [],_,_,_,h=>by simp [look] at h
 | (j,x)::r,hk,i,o,h=>by
   simp only [fe,Bool.and_eq_true,Nat.blt_eq] at hk
   rcases aB h with ⟨rfl,_⟩ | ⟨_,h⟩
   ·exact hk.1
   ·exact j9 hk.2 h
theorem px{k : Nat} : ∀ {sto : Sto},pW k sto = true→∀ {i : Nat} {o : AObj},look sto i = some o→i < k∨k + 16≤i
 | [],_,_,_,h=>by simp [look] at h
 | (j,x)::r,hk,i,o,h=>by
   simp only [pW,Bool.and_eq_true,Bool.or_eq_true,Nat.blt_eq,Nat.ble_eq] at hk
   rcases aB h with ⟨rfl,_⟩ | ⟨_,h⟩
   ·exact hk.1
   ·exact px hk.2 h
def mI(k : Nat)(st : St) : Bool:=pW k st.sto && n7 k st.fr && sC k st.sto
theorem nt{k : Nat}{st : St}(h : mI k st = true) : jr k st:=by
 simp only [mI,Bool.and_eq_true] at h
 intro i h1 h2
 refine ⟨?_,l6 h1 h2 h.1.2,sD h1 h2 h.2⟩
 cases hl : look st.sto i with
 | none=>rfl
 | some e=>have:=px h.1.1 hl; omega
def rn(k : Nat)(ρ : List (Nat×Nat))(j : Nat) : Nat:=bif Nat.blt j 16 then k + j else match look ρ j with | some i=>i | none=>0
def inK(ρ : List (Nat×Nat))(j : Nat) : Bool:=match look ρ j with | some _=>true | none=>false
def cW(ρ : List (Nat×Nat)) : Sto→Bool
 | []=>true
 | (j,_)::r=>(Nat.blt j 16 || inK ρ j) && cW ρ r
def fm : List (Nat×Nat)→Bool
 | []=>true
 | (j,_)::r=>Nat.ble 1000000 j && Nat.blt j 2000000 && fm r
def vu(i : Nat) : List (Nat×Nat)→Bool
 | []=>true
 | (_,i')::r=>!(Nat.beq i' i) && vu i r
def ij : List (Nat×Nat)→Bool
 | []=>true
 | (_,i)::r=>vu i r && ij r
def Pass(st : St)(r : Nat→Nat)(ρ : List (Nat×Nat)) : Sto→Prop
 | []=>True
 | (j,o)::l=>(∃ i,look ρ j = some i∧look st.sto i = some (cS r o))∧Pass st r ρ l
def ed(r : Nat→Nat)(s : Sto) : Sto→Sto
 | []=>s
 | (j,o)::l=>cL (r j) (cS r o) (ed r s l)
def fF : List (Nat×Nat)→Sto→Sto
 | [],s=>s
 | (_,i)::l,s=>del i (fF l s)
def CompatL(st : St)(r : Nat→Nat)(ρ : List (Nat×Nat)) : Sto→Prop
 | []=>True
 | (j,o)::l=>(∀ i e,look ρ j = some i→look st.sto i = some e→compat e o)∧CompatL st r ρ l
theorem Pass.look{st : St}{r : Nat→Nat}{ρ : List (Nat×Nat)} : ∀ {l : Sto},Pass st r ρ l→∀ {j : Nat} {o : AObj},Go.Abs.look l j = some o→∃ i,Go.Abs.look ρ j = some i∧Go.Abs.look st.sto i = some (cS r o)
 | [],_,_,_,h=>by simp [Go.Abs.look] at h
 | (j',o')::l,hp,j,o,h=>by
   rcases aB h with ⟨rfl,rfl⟩ | ⟨_,h⟩
   ·exact hp.1
   ·exact Pass.look hp.2 h
theorem CompatL.look{st : St}{r : Nat→Nat}{ρ : List (Nat×Nat)} : ∀ {l : Sto},CompatL st r ρ l→∀ {j : Nat} {o : AObj},Go.Abs.look l j = some o→∀ {i : Nat} {e : AObj},Go.Abs.look ρ j = some i→Go.Abs.look st.sto i = some e→compat e o
 | [],_,_,_,h=>by simp [Go.Abs.look] at h
 | (j',o')::l,hp,j,o,h=>by
   rcases aB h with ⟨rfl,rfl⟩ | ⟨_,h⟩
   ·exact fun h1 h2=>hp.1 _ _ h1 h2
   ·exact CompatL.look hp.2 h
theorem lZ{ρ : List (Nat×Nat)} : fm ρ = true→∀ {j i : Nat},look ρ j = some i→Pin j:=by
 induction ρ with
 | nil=>intro _ j i h; simp [look] at h
 | cons p r ih =>
   obtain ⟨j',i'⟩:=p
   intro hb j i h
   simp only [fm,Bool.and_eq_true,Nat.ble_eq,Nat.blt_eq] at hb
   rcases aB h with ⟨rfl,rfl⟩ | ⟨_,h⟩
   ·exact hb.1
   ·exact ih hb.2 h
theorem sE{ρ : List (Nat×Nat)}{i : Nat} : vu i ρ = true→∀ {j i' : Nat},look ρ j = some i'→i'≠i:=by
 induction ρ with
 | nil=>intro _ j i h; simp [look] at h
 | cons p r ih =>
   obtain ⟨j',i''⟩:=p
   intro hb j i' h
   simp only [vu,Bool.and_eq_true,Bool.not_eq_true'] at hb
   rcases aB h with ⟨rfl,rfl⟩ | ⟨_,h⟩
   ·exact Gl hb.1
   ·exact ih hb.2 h
theorem pl{ρ : List (Nat×Nat)} : ij ρ = true→∀ {j j' i : Nat},look ρ j = some i→look ρ j' = some i→j = j':=by
 induction ρ with
 | nil=>intro _ j j' i h; simp [look] at h
 | cons p r ih =>
   obtain ⟨j0,i0⟩:=p
   intro hb j j' i h h'
   simp only [ij,Bool.and_eq_true] at hb
   rcases aB h with ⟨e1,e2⟩ | ⟨_,k1⟩
   ·rcases aB h' with ⟨e3,_⟩ | ⟨_,k2⟩
    ·rw [e1,e3]
    ·exact absurd e2 (sE hb.1 k2)
   ·rcases aB h' with ⟨_,e4⟩ | ⟨_,k2⟩
    ·exact absurd e4 (sE hb.1 k1)
    ·exact ih hb.2 k1 k2
theorem gn{ρ : List (Nat×Nat)} : ∀ {l : Sto},cW ρ l = true→∀ {j : Nat} {o : AObj},look l j = some o→j < 16∨∃ i,look ρ j = some i
 | [],_,_,_,h=>by simp [look] at h
 | (j',o')::l,hk,j,o,h=>by
   simp only [cW,Bool.and_eq_true,Bool.or_eq_true,Nat.blt_eq] at hk
   rcases aB h with ⟨rfl,rfl⟩ | ⟨_,h⟩
   ·rcases hk.1 with h1 | h1
    ·exact .inl h1
    ·unfold inK at h1
     split at h1
     ·exact .inr ⟨_,by assumption⟩
     ·cases h1
   ·exact gn hk.2 h
theorem iB{k j : Nat}{ρ : List (Nat×Nat)}(h : j < 16) : rn k ρ j = k + j:=by unfold rn; rw [show Nat.blt j 16 = true by simpa using h]; rfl
theorem gg{k j i : Nat}{ρ : List (Nat×Nat)}(hb : fm ρ = true)(h : look ρ j = some i) : rn k ρ j = i:=by
 have:=lZ hb h
 unfold rn
 have h16 : Nat.blt j 16 = false:=by
  cases hh : Nat.blt j 16 with
  | false=>rfl
  | true=>simp only [Nat.blt_eq] at hh; omega
 rw [h16,h]; rfl
theorem Cb{ρ : List (Nat×Nat)}{s : Sto}{i : Nat}{o : AObj} : look (fF ρ s) i = some o→look s i = some o∧∀ j,look ρ j≠some i:=by
 induction ρ with
 | nil=>intro h; exact ⟨h,by simp [look]⟩
 | cons p r ih =>
   obtain ⟨j0,i0⟩:=p
   intro h
   obtain ⟨h1,h2⟩:=dF h
   obtain ⟨h3,h4⟩:=ih h2
   refine ⟨h3,fun j hj=>?_⟩
   rcases aB hj with ⟨rfl,rfl⟩ | ⟨_,hj⟩
   ·exact h1 rfl
   ·exact h4 j hj
def fG : List (Nat×Nat)→Bool
 | []=>true
 | (j,_)::r=>!inK r j && fG r
section
variable {k : Nat} {ρ : List (Nat×Nat)} {rs s : Sto}
theorem pm{r : Nat→Nat} : ∀ {rs : Sto} {i : Nat} {o : AObj},look (ed r s rs) i = some o→(∃ j o',i = r j∧look rs j = some o'∧o = cS r o')∨((∀ j o',look rs j = some o'→r j≠i)∧look s i = some o)
 | [],_,_,h=>.inr ⟨fun _ _ h=>by simp [look] at h,h⟩
 | (j,x)::l,i,o,h=>by
   simp only [ed,dg] at h
   rcases aB h with ⟨rfl,rfl⟩ | ⟨hne,h⟩
   ·exact .inl ⟨j,x,rfl,bq,rfl⟩
   ·rcases pm h with ⟨j',o',rfl,h2,h4⟩ | ⟨h1,h2⟩
    ·refine .inl ⟨j',o',rfl,?_,h4⟩
     rw [bx ?_]; exact h2
     rintro rfl; exact hne rfl
    ·refine .inr ⟨fun j' o' hj=>?_,h2⟩
     rcases aB hj with ⟨rfl,_⟩ | ⟨_,hj⟩
     ·exact fun e=>hne e.symm
     ·exact h1 j' o' hj
theorem uF{r : Nat→Nat} : ∀ {rs : Sto},(∀ j j' o o',look rs j = some o→look rs j' = some o'→r j = r j'→j = j')→∀ {j : Nat} {o : AObj},look rs j = some o→look (ed r s rs) (r j) = some (cS r o)
 | [],_,_,_,h=>by simp [look] at h
 | (j0,x)::l,hinj,j,o,h=>by
   simp only [ed,dg]
   rcases aB h with ⟨rfl,rfl⟩ | ⟨hne,h'⟩
   ·exact bq
   ·rw [bx fun e=>hne (hinj j j0 o x h bq e)]
    refine uF (fun a b o1 o2 ha hb e=>?_) h'
    by_cases ha0 : a = j0
    ·by_cases hb0 : b = j0
     ·rw [ha0,hb0]
     ·subst ha0
      exact hinj a b x o2 bq (by rw [bx hb0]; exact hb) e
    ·by_cases hb0 : b = j0
     ·subst hb0
      exact hinj a b o1 x (by rw [bx ha0]; exact ha) bq e
     ·exact hinj a b o1 o2 (by rw [bx ha0]; exact ha) (by rw [bx hb0]; exact hb) e
end
end Go.Abs
namespace Go.Abs
open Go
variable {P : Program} {c : Ctx} {T : Tab} {σ : Sig} {φ : Pl} {sto : Sto} {w : World}
def phC(φ : Pl)(ρ : List (Nat×Nat)) : Pl:=fun j=>match look ρ j with | some i=>φ i | none=>none
theorem eS{φ : Pl}{ρ : List (Nat×Nat)}{j i : Nat}(h : look ρ j = some i) : phC φ ρ j = φ i:=by simp [phC,h]
theorem gJ{sto : Sto}{i : Nat}(h : bQ sto i = true) : ∃ o,look sto i = some o:=by
 unfold bQ at h
 split at h
 ·exact ⟨_,by assumption⟩
 ·cases h
section
variable {k : Nat} {ρ : List (Nat×Nat)} {st : St} {cs : Sto}
theorem unC(hb : fm ρ = true)(hp : Pass st (rn k ρ) ρ cs){x : AC}{v : Value}(hin : ci cs x = true)(h : RepC σ φ st.sto (gG (rn k ρ) x) v) : RepC σ (phC φ ρ) cs x v:=by
 have key : ∀ {j : Nat},bQ cs j = true→∃ o i,look cs j = some o∧look ρ j = some i∧rn k ρ j = i∧look st.sto i = some (cS (rn k ρ) o):=by
  intro j hj
  obtain ⟨o,ho⟩:=gJ hj
  obtain ⟨i,h1,h2⟩:=hp.look ho
  exact ⟨o,i,ho,h1,gg hb h1,h2⟩
 cases x with
 | d x=>exact .d h.d_inv
 | junk =>
   cases h with
   | junk h=>exact .junk h
   | dead hx h=>exact .junk h
 | own j n =>
   obtain ⟨o,i,h1,h2,h3,h4⟩:=key hin
   simp only [gG,h3] at h
   cases h with
   | ownNil hl hp'=>rw [h4] at hl; cases o <;> simp [cS] at hl; obtain ⟨rfl,rfl,rfl⟩:=hl; exact .ownNil h1 ((eS h2).trans hp')
   | own hl hn hp'=>rw [h4] at hl; cases o <;> simp [cS] at hl; obtain ⟨rfl,rfl,rfl⟩:=hl; exact .own h1 hn ((eS h2).trans hp')
   | dead hx _=>simp [ci,cv h4] at hx
 | sub j lo n =>
   obtain ⟨o,i,h1,h2,h3,h4⟩:=key hin
   simp only [gG,h3] at h
   cases h with
   | sub hl hn hc hA=>rw [h4] at hl; cases o <;> simp [cS] at hl; obtain ⟨rfl,rfl,rfl⟩:=hl; exact .sub h1 hn hc (fun h0=>by rw [eS h2]; exact hA h0)
   | dead hx _=>simp [ci,cv h4] at hx
 | ref j off =>
   obtain ⟨o,i,h1,h2,h3,h4⟩:=key hin
   simp only [gG,h3] at h
   cases h with
   | ref hl hp'=>rw [h4] at hl; cases o <;> simp [cS] at hl; exact .ref h1 ((eS h2).trans hp')
   | dead hx _=>simp [ci,cv h4] at hx
 | rref j m off =>
   obtain ⟨o,i,h1,h2,h3,h4⟩:=key hin
   simp only [gG,h3] at h
   cases h with
   | rref hl hp'=>rw [h4] at hl; cases o <;> simp [cS] at hl; obtain ⟨rfl,rfl,rfl⟩:=hl; exact .rref h1 ((eS h2).trans hp')
   | dead hx _=>simp [ci,cv h4] at hx
 | yl j =>
   obtain ⟨o,i,h1,h2,h3,h4⟩:=key hin
   simp only [gG,h3] at h
   cases h with
   | yl hl hp'=>rw [h4] at hl; cases o <;> simp [cS] at hl; exact .yl h1 ((eS h2).trans hp')
   | dead hx _=>simp [ci,cv h4] at hx
 | bsl j off n =>
   obtain ⟨o,i,h1,h2,h3,h4⟩:=key hin
   simp only [gG,h3] at h
   cases h with
   | bsl hl hp'=>rw [h4] at hl; cases o <;> simp [cS] at hl; exact .bsl h1 ((eS h2).trans hp')
   | dead hx _=>simp [ci,cv h4] at hx
 | mapr j =>
   obtain ⟨o,i,h1,h2,h3,h4⟩:=key hin
   simp only [gG,h3] at h
   cases h with
   | mapr hl hp'=>rw [h4] at hl; cases o <;> simp [cS] at hl; exact .mapr h1 ((eS h2).trans hp')
   | dead hx _=>simp [ci,cv h4] at hx
theorem w7(hb : fm ρ = true)(hp : Pass st (rn k ρ) ρ cs) : ∀ {xs : List AC} {vs : List Value},eu cs xs = true→All2 (RepC σ φ st.sto) (ja (rn k ρ) xs) vs→All2 (RepC σ (phC φ ρ) cs) xs vs
 | [],[],_,_=>trivial
 | _::_,_::_,hi,h=>by
   simp only [eu,Bool.and_eq_true] at hi
   exact ⟨unC hb hp hi.1 h.1,w7 hb hp hi.2 h.2⟩
 | [],_::_,_,h=>h.elim
 | _::_,[],_,h=>h.elim
theorem unV(hb : fm ρ = true)(hp : Pass st (rn k ρ) ρ cs){x : AV}{v : Value}(hi : dr cs x = true)(h : RepV σ φ st.sto (dO (rn k ρ) x) v) : RepV σ (phC φ ρ) cs x v:=by
 cases x with
 | one c=>exact unC hb hp hi h
 | agg cs=>obtain ⟨us,rfl,h⟩:=h; exact ⟨us,rfl,w7 hb hp hi h⟩
 | tup ts =>
   obtain ⟨us,rfl,h⟩:=h
   refine ⟨us,rfl,?_⟩
   simp only [dr] at hi
   induction ts generalizing us with
   | nil=>cases us <;> simp_all [All2,nj]
   | cons t ts ih =>
     cases us with
     | nil=>exact h.elim
     | cons u us =>
       simp only [tx,Bool.and_eq_true] at hi
       refine ⟨?_,ih hi.2 us h.2⟩
       obtain ⟨g,cs⟩:=t
       cases g with
       | true=>obtain ⟨vs,rfl,h1⟩:=h.1; exact ⟨vs,rfl,w7 hb hp hi.1 h1⟩
       | false=>exact w7 hb hp hi.1 h.1
 | any=>trivial
def dD(sto : Sto) : List AV→Bool
 | []=>true
 | v::r=>dr sto v && dD sto r
theorem unL(hb : fm ρ = true)(hp : Pass st (rn k ρ) ρ cs) : ∀ {xs : List AV} {vs : List Value},dD cs xs = true→All2 (RepV σ φ st.sto) (da (rn k ρ) xs) vs→All2 (RepV σ (phC φ ρ) cs) xs vs
 | [],[],_,_=>trivial
 | _::_,_::_,hi,h=>by
   simp only [dD,Bool.and_eq_true] at hi
   exact ⟨unV hb hp hi.1 h.1,unL hb hp hi.2 h.2⟩
 | [],_::_,_,h=>h.elim
 | _::_,[],_,h=>h.elim
theorem jk{r : Nat→Nat} : ∀ {fr : List (Nat×AV)} {s : Nat},look (dj r fr) s = (look fr s).map (dO r)
 | [],_=>rfl
 | (t,v)::l,s=>by
   simp only [dj,look]
   cases Nat.beq t s with
   | true=>rfl
   | false=>simp only [cond_false]; exact jk
theorem w6(hb : fm ρ = true)(hij : ij ρ = true)(hp : Pass st (rn k ρ) ρ cs)(hs : bL cs cs = true)(h : HInv σ φ st.sto w) : HInv σ (phC φ ρ) cs w:=by
 refine ⟨h.sig,fun j o hj=>?_,fun j j' o o' p p' hj hj' hne hpp hpp'=>?_⟩
 ·obtain ⟨i,h1,h2⟩:=hp.look hj
  have ho:=h.obj _ _ h2
  have hin:=ff hs hj
  have hph:=eS (φ:=φ) h1
  cases o with
  | box xs =>
    obtain ⟨B,c',vs,t,a1,a2,a3,a4⟩:=ho
    exact ⟨B,c',vs,t,hph.trans a1,a2,w7 hb hp hin a3,a4⟩
  | row a b xs =>
    rcases ho with ⟨a1,a2⟩ | ⟨B,cap,arr,t,vs,a1,a2⟩
    ·exact .inl ⟨a1,hph.trans a2⟩
    ·exact .inr ⟨B,cap,arr,t,vs,hph.trans a1,a2⟩
  | map kg vg es =>
    obtain ⟨B,c',ents,a1,a2⟩:=ho
    exact ⟨B,c',ents,hph.trans a1,a2⟩
  | loop li fr s p =>
    obtain ⟨B,c',r,a1,a2,a3,a4,a5⟩:=ho
    refine ⟨B,c',r,hph.trans a1,a2,a3,fun s v hv=>?_,a5⟩
    obtain ⟨u,hu,hru⟩:=a4 s (dO (rn k ρ) v) (by rw [jk,hv]; rfl)
    exact ⟨u,hu,unV hb hp (kh hin hv) hru⟩
 ·obtain ⟨i,h1,h2⟩:=hp.look hj
  obtain ⟨i',h1',h2'⟩:=hp.look hj'
  rw [eS h1] at hpp
  rw [eS h1'] at hpp'
  refine h.inj _ _ _ _ _ _ h2 h2' (fun e=>hne ?_) hpp hpp'
  subst e
  exact pl hij h1 h1'
end
section
variable {σ' : Sig} {φ' φn : Pl} {rs ns : Sto} {r : Nat→Nat}
theorem reC(hR : ∀ j o,look rs j = some o→look ns (r j) = some (cS r o)∧φn (r j) = φ' j){x : AC}{v : Value}(hin : ci rs x = true)(h : RepC σ' φ' rs x v) : RepC σ' φn ns (gG r x) v:=by
 cases h with
 | d h=>exact .d h
 | ownNil h hp=>obtain ⟨h1,h2⟩:=hR _ _ h; exact .ownNil h1 (h2.trans hp)
 | own h hn hp=>obtain ⟨h1,h2⟩:=hR _ _ h; exact .own h1 hn (h2.trans hp)
 | sub h hn hc hA=>obtain ⟨h1,h2⟩:=hR _ _ h; exact .sub h1 hn hc (fun h0=>by rw [h2]; exact hA h0)
 | ref h hp=>obtain ⟨h1,h2⟩:=hR _ _ h; exact .ref h1 (h2.trans hp)
 | rref h hp=>obtain ⟨h1,h2⟩:=hR _ _ h; exact .rref h1 (h2.trans hp)
 | yl h hp=>obtain ⟨h1,h2⟩:=hR _ _ h; exact .yl h1 (h2.trans hp)
 | mapr h hp=>obtain ⟨h1,h2⟩:=hR _ _ h; exact .mapr h1 (h2.trans hp)
 | bsl h hp=>obtain ⟨h1,h2⟩:=hR _ _ h; exact .bsl h1 (h2.trans hp)
 | junk h=>exact .junk h
 | dead hx h1=>rw [hin] at hx; cases hx
theorem w8(hR : ∀ j o,look rs j = some o→look ns (r j) = some (cS r o)∧φn (r j) = φ' j) : ∀ {xs : List AC} {vs : List Value},eu rs xs = true→All2 (RepC σ' φ' rs) xs vs→All2 (RepC σ' φn ns) (ja r xs) vs
 | [],[],_,_=>trivial
 | _::_,_::_,hi,h=>by
   simp only [eu,Bool.and_eq_true] at hi
   exact ⟨reC hR hi.1 h.1,w8 hR hi.2 h.2⟩
 | [],_::_,_,h=>h.elim
 | _::_,[],_,h=>h.elim
theorem reV(hR : ∀ j o,look rs j = some o→look ns (r j) = some (cS r o)∧φn (r j) = φ' j){x : AV}{v : Value}(hi : dr rs x = true)(h : RepV σ' φ' rs x v) : RepV σ' φn ns (dO r x) v:=by
 cases x with
 | one c=>exact reC hR hi h
 | agg cs=>obtain ⟨us,rfl,h⟩:=h; exact ⟨us,rfl,w8 hR hi h⟩
 | tup ts =>
   obtain ⟨us,rfl,h⟩:=h
   refine ⟨us,rfl,?_⟩
   simp only [dr] at hi
   induction ts generalizing us with
   | nil=>cases us <;> simp_all [All2,nj]
   | cons t ts ih =>
     cases us with
     | nil=>exact h.elim
     | cons u us =>
       simp only [tx,Bool.and_eq_true] at hi
       refine ⟨?_,ih hi.2 us h.2⟩
       obtain ⟨g,cs⟩:=t
       cases g with
       | true=>obtain ⟨vs,rfl,h1⟩:=h.1; exact ⟨vs,rfl,w8 hR hi.1 h1⟩
       | false=>exact w8 hR hi.1 h.1
 | any=>trivial
theorem ve(hR : ∀ j o,look rs j = some o→look ns (r j) = some (cS r o)∧φn (r j) = φ' j){j : Nat}{o : AObj}(hj : look rs j = some o)(hi : zZ rs o = true){w' : World}(h : ObjRep σ' φ' rs w' j o) :
  ObjRep σ' φn ns w' (r j) (cS r o):=by
 have hph:=(hR j o hj).2
 cases o with
 | box xs =>
   obtain ⟨B,c',vs,t,a1,a2,a3,a4⟩:=h
   exact ⟨B,c',vs,t,hph.trans a1,a2,w8 hR hi a3,a4⟩
 | row a b xs =>
   rcases h with ⟨a1,a2⟩ | ⟨B,cap,arr,t,vs,a1,a2⟩
   ·exact .inl ⟨a1,hph.trans a2⟩
   ·exact .inr ⟨B,cap,arr,t,vs,hph.trans a1,a2⟩
 | map kg vg es =>
   obtain ⟨B,c',ents,a1,a2⟩:=h
   exact ⟨B,c',ents,hph.trans a1,a2⟩
 | loop li fr s p =>
   obtain ⟨B,c',lp,a1,a2,a3,a4,a5⟩:=h
   refine ⟨B,c',lp,hph.trans a1,a2,a3,fun s v hv=>?_,a5⟩
   rw [jk] at hv
   cases hl : look fr s with
   | none=>rw [hl] at hv; cases hv
   | some v0 =>
     rw [hl] at hv; cases hv
     obtain ⟨u,hu,hru⟩:=a4 s v0 hl
     exact ⟨u,hu,reV hR (kh hi hl) hru⟩
end
theorem ym{r : Nat→Nat}{e o : AObj}(h : compat e o) : compat e (cS r o):=by
 cases e <;> cases o <;> simp_all [compat,cS]
def fX(cs : Sto) : List (Nat×Nat)→Bool
 | []=>true
 | (j,_)::r=>bQ cs j && fX cs r
theorem se{cs : Sto}{ρ : List (Nat×Nat)} : fX cs ρ = true→∀ {j i : Nat},look ρ j = some i→bQ cs j = true:=by
 induction ρ with
 | nil=>intro _ j i h; simp [look] at h
 | cons p r ih =>
   obtain ⟨j',i'⟩:=p
   intro hb j i h
   simp only [fX,Bool.and_eq_true] at hb
   rcases aB h with ⟨rfl,rfl⟩ | ⟨_,h⟩
   ·exact hb.1
   ·exact ih hb.2 h
theorem tE{st : St}{a : Act}{o : Oper}{cargs : List AV}{cs rs : Sto}{rav : AV}(k : Nat)(ρ : List (Nat×Nat))(hr : Rel c st a w σ φ)(hd : bu c.n o.dst = true)
  (hpass : Pass st (rn k ρ) ρ cs) (hcomp : CompatL st (rn k ρ) ρ rs)
  (hk : (fm ρ && ij ρ && fX cs ρ && fG ρ && cW ρ rs && dD cs cargs && bL cs cs && dr rs rav && bL rs rs && Nat.ble (k + 16) 1000000) = true) (hfresh : jr k st)
  {v : Value} {w' : World} {σ' : Sig} {φ' : Pl} (hret : RetP rav rs w σ (phC φ ρ) (MOf (phC φ ρ) cs) v w' σ' φ') :
  ∃ σ2 φ2,Rel c ⟨bX o.dst (dO (rn k ρ) rav) st.fr,ed (rn k ρ) (fF ρ st.sto) rs⟩ (a.put o.dst v) w' σ2 φ2∧∀ j o,look rs j = some o→φ2 (rn k ρ j) = φ' j:=by
 simp only [Bool.and_eq_true,Nat.ble_eq] at hk
 obtain ⟨⟨⟨⟨⟨⟨⟨⟨⟨hbig,hinj⟩,hall⟩,hnd⟩,hko⟩,hai⟩,hci⟩,hri⟩,hrs⟩,hkl⟩:=hk
 let φn : Pl:=fun i=>if k≤i∧i < k + 16 then φ' (i - k) else φ i
 have hφin : ∀ {j : Nat},j < 16→φn (k + j) = φ' j:=by
  intro j hj
  show (if _ then _ else _) = _
  rw [if_pos ⟨Nat.le_add_right _ _,by omega⟩,Nat.add_sub_cancel_left]
 have hφout : ∀ {i : Nat},(i < k∨k + 16≤i)→φn i = φ i:=by
  intro i hi
  show (if _ then _ else _) = _
  rw [if_neg (by omega)]
 have hout : ∀ {i : Nat} {o : AObj},look st.sto i = some o→i < k∨k + 16≤i:=by
  intro i o hi
  rcases Nat.lt_or_ge i k with h1 | h1
  ·exact .inl h1
  ·rcases Nat.lt_or_ge i (k + 16) with h2 | h2
   ·rw [(hfresh i h1 h2).1] at hi; cases hi
   ·exact .inr h2
 -- what was handed over
 have hgave : ∀ {j i : Nat},look ρ j = some i→∃ o,look cs j = some o∧look st.sto i = some (cS (rn k ρ) o):=by
  intro j i hj
  obtain ⟨o,ho⟩:=gJ (se hall hj)
  obtain ⟨i',h1,h2⟩:=hpass.look ho
  rw [hj] at h1; cases h1
  exact ⟨o,ho,h2⟩
 have hMof : ∀ {b : Nat},MOf (phC φ ρ) cs b→∃ j i o p,look ρ j = some i∧look st.sto i = some o∧φ i = some p∧p.1 = b:=by
  rintro b ⟨j,o,p,h1,h2,h3⟩
  obtain ⟨i,h4,h5⟩:=hpass.look h1
  rw [eS h4] at h2
  exact ⟨j,i,_,p,h4,h5,h2,h3⟩
 have hR : ∀ j o,look rs j = some o→look (ed (rn k ρ) (fF ρ st.sto) rs) (rn k ρ j) = some (cS (rn k ρ) o)∧φn (rn k ρ j) = φ' j:=by
  intro j o hj
  refine ⟨uF (fun j j' o o' hj hj' e=>?_) hj,?_⟩
  ·rcases gn hko hj with h1 | ⟨i,h1⟩ <;> rcases gn hko hj' with h2 | ⟨i',h2⟩
   ·rw [iB h1,iB h2] at e; omega
   ·rw [iB h1,gg hbig h2] at e
    obtain ⟨_,_,h3⟩:=hgave h2
    have:=hout h3; omega
   ·rw [gg hbig h1,iB h2] at e
    obtain ⟨_,_,h3⟩:=hgave h1
    have:=hout h3; omega
   ·rw [gg hbig h1,gg hbig h2] at e
    subst e
    exact pl hinj h1 h2
  ·rcases gn hko hj with h1 | ⟨i,h1⟩
   ·rw [iB h1]; exact hφin h1
   ·rw [gg hbig h1]
    obtain ⟨_,_,h3⟩:=hgave h1
    rw [hφout (hout h3),hret.pin j (lZ hbig h1),eS h1]
 have hns : ∀ {i : Nat} {e : AObj},look (ed (rn k ρ) (fF ρ st.sto) rs) i = some e→(∃ j o,look rs j = some o∧e = cS (rn k ρ) o∧((j < 16∧i = k + j)∨look ρ j = some i))∨(look st.sto i = some e∧∀ j,look ρ j≠some i):=by
  intro i e h
  rcases pm h with ⟨j,o,rfl,h1,rfl⟩ | ⟨_,h1⟩
  ·refine .inl ⟨j,o,h1,rfl,?_⟩
   rcases gn hko h1 with h2 | ⟨i,h2⟩
   ·exact .inl ⟨h2,iB h2⟩
   ·exact .inr (by rw [gg hbig h2]; exact h2)
  ·exact .inr (Cb h1)
 have hE : Ext (fun i=>k≤i∧i < k + 16) φ φn st.sto (ed (rn k ρ) (fF ρ st.sto) rs):=by
  intro i hX
  cases hl : look (ed (rn k ρ) (fF ρ st.sto) rs) i with
  | none=>exact .inl rfl
  | some e =>
    rcases hns hl with ⟨j,o,h1,rfl,h2⟩ | ⟨h1,_⟩
    ·rcases h2 with ⟨h2,rfl⟩ | h2
     ·exact absurd ⟨Nat.le_add_right _ _,by omega⟩ hX
     ·obtain ⟨o',_,h4⟩:=hgave h2
      exact .inr ⟨_,h4,hφout (hout h4),_,rfl,ym (hcomp.look h1 h2 h4)⟩
    ·exact .inr ⟨e,h1,hφout (hout h1),e,rfl,compat.refl _⟩
 -- an old object that was not handed over lies elsewhere
 have hap : ∀ {i : Nat} {e : AObj} {p : Nat×Nat},look st.sto i = some e→(∀ j,look ρ j≠some i)→φ i = some p→p.1 < w.heap.size∧¬ MOf (phC φ ρ) cs p.1:=by
  intro i e p hi hn hp
  refine ⟨(hr.inv.obj _ _ hi).lt hp,fun hM=>?_⟩
  obtain ⟨j,i',o,p',h1,h2,h3,h4⟩:=hMof hM
  exact hr.inv.inj _ _ _ _ _ _ h2 hi (fun e=>hn j (e ▸ h1)) h3 hp h4
 have hinv : HInv σ' φn (ed (rn k ρ) (fF ρ st.sto) rs) w':=by
  refine ⟨hret.inv.sig,fun i e hi=>?_,fun i i' e1 e2 p p' h1 h2 hne hp hp'=>?_⟩
  ·rcases hns hi with ⟨j,o,h1,rfl,h2⟩ | ⟨h1,hn⟩
   ·have:=ve hR h1 (ff hrs h1) (hret.inv.obj _ _ h1)
    rcases h2 with ⟨h2,rfl⟩ | h2
    ·rwa [iB h2] at this
    ·rwa [gg hbig h2] at this
   ·have ho:=hr.inv.obj _ _ h1
    refine ho.ext (X:=fun i=>k≤i∧i < k + 16) hret.le hE (fun j hj=>gh (hfresh j hj.1 hj.2).2.2 h1) (hφout (hout h1)) fun B cc hB=>?_
    obtain ⟨h3,h4⟩:=hap h1 hn hB
    refine ⟨hret.kept.block B h3 h4,?_⟩
    have hs:=ho.sig hB
    rw [hs]
    cases hb : σ' B with
    | none=>rfl
    | some cs' =>
      rcases hret.fresh B (by rw [hb]; simp) with h5 | h5 | h5
      ·exact absurd hs h5
      ·simp only at h3; omega
      ·exact absurd h5 h4
  ·have old : ∀ {i : Nat} {e : AObj} {p : Nat×Nat},look st.sto i = some e→φn i = some p→φ i = some p:=by
    intro i e p hi hp
    rwa [hφout (hout hi)] at hp
   have new : ∀ {j i : Nat} {o : AObj} {p : Nat×Nat},look rs j = some o→((j < 16∧i = k + j)∨look ρ j = some i)→φn i = some p→φ' j = some p∧(w.heap.size≤p.1∨MOf (phC φ ρ) cs p.1):=by
    intro j i o p hj hji hp
    have : φn (rn k ρ j) = φ' j:=(hR j o hj).2
    have hi : rn k ρ j = i:=by
     rcases hji with ⟨h,rfl⟩ | h
     ·exact iB h
     ·exact gg hbig h
    rw [hi,hp] at this
    exact ⟨this.symm,hret.mine _ _ _ hj this.symm⟩
   rcases hns h1 with ⟨j,o1,hj,_,hji⟩ | ⟨hi1,hn1⟩ <;> rcases hns h2 with ⟨j',o2,hj',_,hji'⟩ | ⟨hi2,hn2⟩
   ·refine hret.inv.inj _ _ _ _ _ _ hj hj' (fun e=>hne ?_) (new hj hji hp).1 (new hj' hji' hp').1
    subst e
    rcases hji with ⟨a1,rfl⟩ | a1 <;> rcases hji' with ⟨a2,rfl⟩ | a2
    ·rfl
    ·have:=lZ hbig a2; omega
    ·have:=lZ hbig a1; omega
    ·rw [a1] at a2; cases a2; rfl
   ·obtain ⟨_,h3⟩:=new hj hji hp
    obtain ⟨h4,h5⟩:=hap hi2 hn2 (old hi2 hp')
    intro e
    rcases h3 with h3 | h3
    ·omega
    ·rw [e] at h3; exact h5 h3
   ·obtain ⟨_,h3⟩:=new hj' hji' hp'
    obtain ⟨h4,h5⟩:=hap hi1 hn1 (old hi1 hp)
    intro e
    rcases h3 with h3 | h3
    ·omega
    ·rw [← e] at h3; exact h5 h3
   ·exact hr.inv.inj _ _ _ _ _ _ hi1 hi2 hne (old hi1 hp) (old hi2 hp')
 have hmineM : ∀ {b : Nat},MOf (phC φ ρ) cs b→c.w0.heap.size≤b∨c.M b:=by
  intro b hM
  obtain ⟨j,i',o,p',h1,h2,h3,h4⟩:=hMof hM
  have:=hr.mine _ _ _ h2 h3
  rwa [h4] at this
 refine ⟨σ',φn,hr.putTo (st':=⟨st.fr,ed (rn k ρ) (fF ρ st.sto) rs⟩) hd (Sig.le_trans hr.le hret.le) (fun b hb=>?_) hinv (fun i e p hi hp=>?_)
  ⟨hret.kept.os.trans hr.fra.os,hret.kept.tape.trans hr.fra.tape,hret.kept.output.trans hr.fra.output,Nat.le_trans hr.fra.size hret.kept.size,Nat.le_trans hr.fra.drawn hret.kept.drawn,fun b hb hM'=>?_⟩ (fun i hi=>?_)
  (fun _=>reV hR hri hret.rep) (fun s x _ hx=>⟨x,hx,fun z hz=>hz.ext hret.le hE fun j hj=>dT (hfresh j hj.1 hj.2).2.1 hx⟩),fun j o hj=>(hR j o hj).2⟩
 ·rcases hret.fresh b hb with h1 | h1 | h1
  ·exact hr.fresh b h1
  ·exact .inr (.inl (Nat.le_trans hr.fra.size h1))
  ·exact .inr (hmineM h1)
 ·rcases hns hi with ⟨j,o,hj,_,hji⟩ | ⟨hi1,hn1⟩
  ·have : φn (rn k ρ j) = φ' j:=(hR j o hj).2
   have hi : rn k ρ j = i:=by
    rcases hji with ⟨h,rfl⟩ | h
    ·exact iB h
    ·exact gg hbig h
   rw [hi,hp] at this
   rcases hret.mine _ _ _ hj this.symm with h1 | h1
   ·exact .inl (Nat.le_trans hr.fra.size h1)
   ·exact hmineM h1
  ·rw [hφout (hout hi1)] at hp
   exact hr.mine _ _ _ hi1 hp
 ·rw [hret.kept.block b (Nat.lt_of_lt_of_le hb hr.fra.size) fun hM=>?_]
  ·exact hr.fra.block b hb hM'
  ·rcases hmineM hM with h | h
   ·omega
   ·exact hM' h
 ·rw [hφout (.inr (by omega))]
  exact hr.pin i hi
theorem wz{st : St}{a : Act}{o : Oper}{f : FuncId}{cargs : List AV}{cs rs : Sto}{rav : AV}{vs : List Value}(k : Nat)(ρ : List (Nat×Nat))(hr : Rel c st a w σ φ)(hd : bu c.n o.dst = true)
  (hC : CallA P f cargs cs rav rs) (hargs : All2 (RepV σ φ st.sto) (da (rn k ρ) cargs) vs) (hpass : Pass st (rn k ρ) ρ cs) (hcomp : CompatL st (rn k ρ) ρ rs)
  (hk : (fm ρ && ij ρ && fX cs ρ && fG ρ && cW ρ rs && dD cs cargs && bL cs cs && dr rs rav && bL rs rs && Nat.ble (k + 16) 1000000) = true) (hfresh : jr k st) :
  Calls P f vs.toArray w fun e w'=>∃ v σ' φ',e = .returned v∧Rel c ⟨bX o.dst (dO (rn k ρ) rav) st.fr,ed (rn k ρ) (fF ρ st.sto) rs⟩ (a.put o.dst v) w' σ' φ':=by
 have hk':=hk
 simp only [Bool.and_eq_true,Nat.ble_eq] at hk'
 obtain ⟨⟨⟨⟨⟨⟨⟨⟨⟨hbig,hinj⟩,hall⟩,hnd⟩,hko⟩,hai⟩,hci⟩,hri⟩,hrs⟩,hkl⟩:=hk'
 refine (hC.run w σ (phC φ ρ) vs (w6 hbig hinj hpass hci hr.inv) (unL hbig hpass hai hargs)).mono ?_
 rintro e w' ⟨v,σ',φ',rfl,hret⟩
 obtain ⟨σ2,φ2,h2,_⟩:=tE k ρ hr hd hpass hcomp hk hfresh hret
 exact ⟨v,σ2,φ2,rfl,h2⟩
theorem nK{a : Act}{o : Oper}{fop : Operand}{args : Array Operand}{ats : Array TypeId}{f : FuncId}{cs : List Value}(ho : o.op = .call { callee:=.value fop,args:=args,argTypes:=ats })
  (hf : a.eval fop = .func (.func f) #[] cs.toArray) (hfn : ∃ fn, P.funcs[f]? = some fn ∧ (fn.name == "runtime.NumGoroutine") = false ∧ fn.body.isSome = true) :
  (execOp a.eval o).run P w = .ok (.enter f (args.toList.map a.eval ++ cs).toArray) w:=by
 obtain ⟨fn,h1,h2,h3⟩:=hfn
 have h3' : fn.body.isNone = false:=by cases hb : fn.body <;> simp_all
 have e : (#[] ++ args.map a.eval ++ cs.toArray) = (args.toList.map a.eval ++ cs).toArray:=by
  apply Array.ext'; simp
 simp only [execOp,ho,resolve,Deferred.ofValue,hf,invoke,callFunc,Sem.run_bind,Sem.run_pure,Result.andThen_ok]
 simp only [show (program).run P w = .ok P w from rfl,Result.andThen_ok,h1,h2,h3',Bool.false_eq_true,if_false,Sem.run_pure]
 rw [e]
theorem qY{r : Nat→Nat} : ∀ {a b : List AV},da r (a ++ b) = da r a ++ da r b
 | [],_=>rfl
 | _::a,b=>by simp only [List.cons_append,da,qY (a:=a)]
theorem lR{r : Nat→Nat} : ∀ {ds : List D},da r (ds.map fun x=>.one (.d x)) = ds.map fun x=>.one (.d x)
 | []=>rfl
 | _::r=>by simp only [List.map_cons,da,dO,gG,lR (ds:=r)]
theorem jZ{ops : Array Oper}{o : Oper}{rest : List Oper}{st : St}{K : St→Prop}{fop : Operand}{args : Array Operand}{ats : Array TypeId}{f : FuncId}{caps : List D}{cargs : List AV}{cs rs : Sto}{rav : AV}(k : Nat)(ρ : List (Nat×Nat))
  (ho : o.op = .call { callee:=.value fop,args:=args,argTypes:=ats }) (hg : o.guard = none) (hd : bu c.n o.dst = true) (hf : ev st fop = some (.one (.d (.fn f caps))))
  (ha : evL st args.toList = some (da (rn k ρ) cargs)) (hC : CallA P f (cargs ++ caps.map fun x=>.one (.d x)) cs rav rs) (hpass : Pass st (rn k ρ) ρ cs) (hcomp : CompatL st (rn k ρ) ρ rs)
  (hk : (fm ρ && ij ρ && fX cs ρ && fG ρ && cW ρ rs && dD cs (cargs ++ caps.map fun x=>.one (.d x)) && bL cs cs && dr rs rav && bL rs rs && Nat.ble (k + 16) 1000000) = true) (hfresh : jr k st)
  (h : ao P c ops rest ⟨bX o.dst (dO (rn k ρ) rav) st.fr,ed (rn k ρ) (fF ρ st.sto) rs⟩ K) : ao P c ops (o::rest) st K:=by
 refine j8 hg fun a w σ φ hr=>?_
 have hfr:=bh hr hf
 replace hfr:=RepC.d_inv hfr
 generalize hfe : a.eval fop = fv at hfr
 cases hfr with
 | fn cvs hl hcs =>
   have hcaps : All2 (RepV σ φ st.sto) (caps.map fun x=>.one (.d x)) cvs:=by
    refine All2.of_get (by simp [hl]) fun j x v hx hv=>?_
    simp only [List.getElem?_map,Option.map_eq_some_iff] at hx
    obtain ⟨d,hd,rfl⟩:=hx
    exact RepC.d (hcs j d v hd hv)
   refine ⟨f,_,_,nK ho hfe hC.fn,wz (o:=o) k ρ hr hd hC (by rw [qY,lR]; exact (gm hr ha).append hcaps) hpass hcomp hk hfresh,?_⟩
   rintro e w' ⟨v,σ',φ',rfl,hr'⟩
   exact ⟨v,_,σ',φ',rfl,hr',h⟩
theorem BP{r : Nat→Nat} : ∀ {avs : List AV},cT avs = true→da r avs = avs:=by
 have h1 : ∀ {cs : List AC},gy cs = true→ja r cs = cs:=by
  intro cs
  induction cs with
  | nil=>intro _; rfl
  | cons x l ih =>
    intro h
    cases x with
    | d x=>simp only [gy] at h; simp only [ja,gG,ih h]
    | _=>simp [gy] at h
 intro avs
 induction avs with
 | nil=>intro _; rfl
 | cons v l ih =>
   intro h
   simp only [cT,Bool.and_eq_true] at h
   simp only [da,ih h.2]
   congr 1
   cases v with
   | one x=>cases x <;> first | rfl | simp [avD] at h
   | agg cs=>simp only [dO]; rw [h1 h.1]
   | _=>simp [avD] at h
theorem yM{s : Sto} : ∀ {avs : List AV},cT avs = true→dD s avs = true:=by
 have h1 : ∀ {cs : List AC},gy cs = true→eu s cs = true:=by
  intro cs
  induction cs with
  | nil=>intro _; rfl
  | cons x l ih =>
    intro h
    cases x with
    | d x=>simp only [gy] at h; simp only [eu,ci,ih h,Bool.and_self]
    | _=>simp [gy] at h
 intro avs
 induction avs with
 | nil=>intro _; rfl
 | cons v l ih =>
   intro h
   simp only [cT,Bool.and_eq_true] at h
   simp only [dD,ih h.2,Bool.and_true]
   cases v with
   | one x=>cases x <;> first | rfl | simp [avD] at h
   | agg cs=>exact h1 h.1
   | _=>simp [avD] at h
theorem Ac{ops : Array Oper}{o : Oper}{rest : List Oper}{st : St}{K : St→Prop}{fop : Operand}{args : Array Operand}{ats : Array TypeId}{f : FuncId}{caps : List D}{avs : List AV}{rav : AV}{rsto : Sto}(k : Nat)
  (ho : o.op = .call { callee:=.value fop,args:=args,argTypes:=ats }) (hg : o.guard = none) (hd : bu c.n o.dst = true) (hf : ev st fop = some (.one (.d (.fn f caps))))
  (ha : evL st args.toList = some avs) (hD : cT avs = true) (hC : CallA P f (avs ++ caps.map fun x=>.one (.d x)) [] rav rsto)
  (hk : (cW [] rsto && Nat.ble (k + 16) 1000000 && dr rsto rav && bL rsto rsto) = true) (hfresh : jr k st)
  (h : ao P c ops rest ⟨bX o.dst (dO (rn k []) rav) st.fr,ed (rn k []) st.sto rsto⟩ K) : ao P c ops (o::rest) st K:=by
 simp only [Bool.and_eq_true] at hk
 have hcd : ∀ {ds : List D},cT (ds.map fun x=>AV.one (.d x)) = true:=by
  intro ds
  induction ds with
  | nil=>rfl
  | cons x l ih=>simp only [List.map_cons,cT,avD,ih,Bool.and_self]
 have hap : ∀ {a b : List AV},cT a = true→cT b = true→cT (a ++ b) = true:=by
  intro a b
  induction a with
  | nil=>intro _ h; exact h
  | cons x l ih =>
    intro h h'
    simp only [cT,Bool.and_eq_true] at h
    simp only [List.cons_append,cT,h.1,ih h.2 h',Bool.and_self]
 refine jZ k [] ho hg hd hf (cargs:=avs) (by rw [BP hD]; exact ha) hC trivial ?_ ?_ hfresh h
 ·have : ∀ {l : Sto},CompatL st (rn k []) [] l:=by
   intro l
   induction l with
   | nil=>trivial
   | cons p l ih=>exact ⟨fun i e h=>by simp [look] at h,ih⟩
  exact this
 ·simp only [fm,ij,fX,fG,bL,Bool.true_and,Bool.and_true,hk.1.1.1,hk.1.1.2,hk.1.2,hk.2,yM (hap hD hcd)]
end Go.Abs
namespace Go.Abs
open Go
variable {P : Program} {c : Ctx} {T : Tab} {σ : Sig} {φ : Pl} {sto : Sto} {w : World}
def pY : D→Bool
 | .int _ _ | .bool _ | .str _ | .nil | .raw _=>true
 | _=>false
def fS : List AC→Bool
 | []=>true
 | .d x::r=>pY x && fS r
 | _::_=>false
def xT : List (Bool×List AC)→Bool
 | []=>true
 | t::r=>fS t.2 && xT r
def eV : AV→Bool
 | .one (.d x)=>pY x
 | .agg cs=>fS cs
 | .tup ts=>xT ts
 | _=>false
theorem uU{σ' : Sig}{x : D}{v : Value}(hf : pY x = true)(h : Rep σ x v) : Rep σ' x v:=by
 cases h with
 | int h=>exact .int h
 | bool=>exact .bool
 | str h=>exact .str h
 | nil=>exact .nil
 | raw h=>exact .raw h
 | sl=>simp [pY] at hf
 | ptr=>simp [pY] at hf
 | fn=>simp [pY] at hf
theorem kS{σ' : Sig}{φ' : Pl}{sto' : Sto} : ∀ {cs : List AC} {vs : List Value},fS cs = true→All2 (RepC σ φ sto) cs vs→All2 (RepC σ' φ' sto') cs vs
 | [],[],_,_=>trivial
 | .d _::_,_::_,hd,h=>by
   simp only [fS,Bool.and_eq_true] at hd
   exact ⟨by have h1:=RepC.d_inv h.1; exact .d (uU hd.1 h1),kS hd.2 h.2⟩
 | [],_::_,_,h=>h.elim
 | _::_,[],_,h=>h.elim
 | .own _ _::_,_::_,hd,_=>by simp [fS] at hd
 | .sub _ _ _::_,_::_,hd,_=>by simp [fS] at hd
 | .ref _ _::_,_::_,hd,_=>by simp [fS] at hd
 | .rref _ _ _::_,_::_,hd,_=>by simp [fS] at hd
 | .junk::_,_::_,hd,_=>by simp [fS] at hd
 | .yl _::_,_::_,hd,_=>by simp [fS] at hd
 | .mapr _::_,_::_,hd,_=>by simp [fS] at hd
 | .bsl _ _ _::_,_::_,hd,_=>by simp [fS] at hd
theorem oZ{σ' : Sig}{φ' : Pl}{sto' : Sto}{v : AV}{u : Value}(hf : eV v = true)(h : RepV σ φ sto v u) : RepV σ' φ' sto' v u:=by
 cases v with
 | one c =>
   cases c with
   | d x=>replace h:=RepC.d_inv h; exact RepC.d (uU hf h)
   | _=>simp [eV] at hf
 | agg cs=>obtain ⟨us,rfl,h⟩:=h; exact ⟨us,rfl,kS hf h⟩
 | tup ts =>
   obtain ⟨us,rfl,h⟩:=h
   refine ⟨us,rfl,?_⟩
   simp only [eV] at hf
   induction ts generalizing us with
   | nil=>cases us <;> simp_all [All2]
   | cons t ts ih =>
     cases us with
     | nil=>exact h.elim
     | cons u us =>
       simp only [xT,Bool.and_eq_true] at hf
       refine ⟨?_,ih hf.2 us h.2⟩
       obtain ⟨g,cs⟩:=t
       cases g with
       | true=>obtain ⟨vs,rfl,h1⟩:=h.1; exact ⟨vs,rfl,kS hf.1 h1⟩
       | false=>exact kS hf.1 h.1
 | any=>simp [eV] at hf
theorem iu{ops : Array Oper}{o : Oper}{rest : List Oper}{st ss : St}{K : St→Prop}{fop : Operand}{args : Array Operand}{ats : Array TypeId}{f : FuncId}{caps : List D}{avs : List AV}{rav : AV}{rsto : Sto}
  (ho : o.op = .call { callee:=.value fop,args:=args,argTypes:=ats }) (hg : o.guard = none) (hd : bu c.n o.dst = true) (hi : Imp c st ss) (hf : ev ss fop = some (.one (.d (.fn f caps))))
  (ha : evL ss args.toList = some avs) (hD : cT avs = true) (hC : CallA P f (avs ++ caps.map fun x=>.one (.d x)) [] rav rsto) (hfl : eV rav = true)
  (h : ao P c ops rest ⟨bX o.dst rav st.fr,st.sto⟩ K) : ao P c ops (o::rest) st K:=by
 refine j8 hg fun a w σ φ hr=>?_
 obtain ⟨σs,φs,hs⟩:=hi a w σ φ hr
 have hfr:=bh hs hf
 replace hfr:=RepC.d_inv hfr
 generalize hfe : a.eval fop = fv at hfr
 cases hfr with
 | fn cs hl hcs =>
   have hinv0 : HInv σs φs [] w:=⟨hs.inv.sig,fun _ _ h=>by simp [look] at h,fun _ _ _ _ _ _ h=>by simp [look] at h⟩
   have hargs:=qX (σ':=σs) (φ':=φs) (sto':=[]) (Sig.le_refl _) hD (gm hs ha)
   have hcaps : All2 (RepV σs φs []) (caps.map fun x=>.one (.d x)) cs:=by
    refine All2.of_get (by simp [hl]) fun j x v hx hv=>?_
    simp only [List.getElem?_map,Option.map_eq_some_iff] at hx
    obtain ⟨d,hd,rfl⟩:=hx
    exact RepC.d (hcs j d v hd hv)
   refine ⟨f,_,_,nK ho hfe hC.fn,hC.run w σs φs _ hinv0 (hargs.append hcaps),?_⟩
   rintro e w' ⟨v,σ',φ',rfl,hret⟩
   have hM : ∀ b,¬ MOf φs [] b:=by rintro b ⟨id,e,p,h,_⟩; simp [look] at h
   have hblk : ∀ b,b < w.heap.size→w'.heap[b]? = w.heap[b]?:=fun b hb=>hret.kept.block b hb (hM b)
   have hE:=Ext.refl φ st.sto
   have hinv : HInv σ φ st.sto w':=by
    refine ⟨fun b cs hb=>?_,fun i e hi=>?_,hr.inv.inj⟩
    ·obtain ⟨t,f,hh⟩:=hr.inv.sig b cs hb
     exact ⟨t,f,(hblk b (Array.getElem?_eq_some_iff.1 hh).1).trans hh⟩
    ·have ho:=hr.inv.obj _ _ hi
     exact ho.ext (X:=fun _=>False) (Sig.le_refl _) hE (fun j hj=>hj.elim) rfl fun B cc hB=>⟨hblk B (ho.lt hB),rfl⟩
   refine ⟨v,_,σ,φ,rfl,hr.putTo (st':=st) hd hr.le hr.fresh hinv hr.mine
    ⟨hret.kept.os.trans hr.fra.os,hret.kept.tape.trans hr.fra.tape,hret.kept.output.trans hr.fra.output,Nat.le_trans hr.fra.size hret.kept.size,Nat.le_trans hr.fra.drawn hret.kept.drawn,fun b hb hM'=>?_⟩ hr.pin
    (fun _=>oZ hfl hret.rep) (fun s x _ hx=>⟨x,hx,fun z hz=>hz⟩),h⟩
   rw [hblk b (Nat.lt_of_lt_of_le hb hr.fra.size)]
   exact hr.fra.block b hb hM'
def jw : List AV→Option (List D)
 | []=>some []
 | .one (.d x)::r=>match jw r with | some l=>some (x::l) | none=>none
 | _::_=>none
theorem l0 : ∀ {vs : List AV} {ds : List D} {us : List Value},jw vs = some ds→All2 (RepV σ φ sto) vs us→All2 (Rep σ) ds us
 | [],ds,us,h,hr=>by
   simp [jw] at h; subst h
   cases us with
   | nil=>trivial
   | cons _ _=>exact hr.elim
 | v::r,ds,us,h,hr=>by
   cases us with
   | nil=>exact hr.elim
   | cons u us =>
     cases v with
     | one c =>
       cases c with
       | d x =>
         simp only [jw] at h
         split at h <;> simp at h
         rename_i l hl
         subst h
         have h1:=RepC.d_inv hr.1
         exact ⟨h1,l0 hl hr.2⟩
       | _=>simp [jw] at h
     | _=>simp [jw] at h
theorem sY{ops : Array Oper}{o : Oper}{rest : List Oper}{st : St}{K : St→Prop}{f : FuncId}{caps : Array Operand}{avs : List AV}{ds : List D}
  (ho : o.op = .makeFunc (.func f) #[] caps) (hg : o.guard = none) (hd : bu c.n o.dst = true) (ha : evL st caps.toList = some avs) (hds : jw avs = some ds)
  (h : ao P c ops rest ⟨bX o.dst (.one (.d (.fn f ds))) st.fr,st.sto⟩ K) : ao P c ops (o::rest) st K :=
 bM hg fun a w σ φ hr=>by
  have h1:=l0 hds (gm hr ha)
  refine ⟨.func (.func f) #[] (caps.toList.map a.eval).toArray,w,_,σ,φ,?_,hr.put (v:=.one (.d (.fn f ds))) hd (RepC.d (.fn _ h1.length.symm fun j d v hd hv=>?_)),h⟩
  ·have e : (caps.toList.map a.eval).toArray = caps.map a.eval:=by rw [← Array.toList_map,Array.toArray_toList]
   rw [e]
   simp [execOp,ho,Instr.makeFunc]
  ·obtain ⟨u,hu,hru⟩:=h1.get hd
   rw [hv] at hu; cases hu; exact hru
def bnd(st : St)(o : Option Operand)(d n : Nat) : Prop :=
 match o with
 | none=>n = d
 | some x=>∃ k z,ev st x = some (.one (.d (.int k z)))∧z = (n : Int)
theorem jY{a : Act}{st : St}(hr : Rel c st a w σ φ){o : Option Operand}{x : Operand}(ho : o = some x){d n y : Nat}(hb : bnd st o d n)(hn : n≤y)(code : BoundsCode) :
  (Instr.sliceBound (a.eval x) y code).run P w = .ok n w:=by
 subst ho
 obtain ⟨k,z,hx,rfl⟩:=hb
 have : (0 : Int)≤(n : Int)∧(n : Int)≤(y : Int):=⟨by omega,by omega⟩
 simp [Instr.sliceBound,nc hr hx,asIntOf,this]
theorem ey{a : Act}{st : St}(hr : Rel c st a w σ φ){lo hi : Option Operand}{l h len cap : Nat}(is : Bool)(hl : bnd st lo 0 l)(hh : bnd st hi len h)(h1 : l≤h)(h2 : h≤cap) :
  (Instr.sliceBounds is len cap (lo.map a.eval) (hi.map a.eval) none).run P w = .ok (l,h,cap) w:=by
 unfold Instr.sliceBounds
 cases hi with
 | none =>
   simp only [bnd] at hh; subst hh
   cases lo with
   | none=>simp only [bnd] at hl; subst hl; simp
   | some x=>simp [jY hr rfl hl h1]
 | some y =>
   have hy:=fun code=>jY (P:=P) hr rfl hh h2 code
   cases lo with
   | none=>simp only [bnd] at hl; subst hl; simp [hy]
   | some x=>simp [hy,jY hr rfl hl h1]
theorem HT{k b : Nat}{xs : List (List D)}{A : Option Addr}{cap l h : Nat}{u : Value}(hu : u = .slice A xs.length cap)(hr : Rep σ (.sl k b xs) u)(h1 : l≤h)(h2 : h≤xs.length) :
  Rep σ (.sl k b ((xs.take h).drop l)) (.slice (if cap = l then A else A.map (·.add (l * k))) (h - l) (cap - l)):=by
 subst hu
 generalize hm : xs.length = m at hr
 cases hr with
 | sl vs hc h48 hb hk hA hh =>
   have hlen : ((xs.take h).drop l).length = h - l:=by simp; omega
   have e : (Value.slice (if cap = l then A else A.map (·.add (l * k))) (h - l) (cap - l)) = .slice (if cap = l then A else A.map (·.add (l * k))) ((xs.take h).drop l).length (cap - l):=by rw [hlen]
   rw [e]
   refine .sl (fun i j=>vs (l + i) j) (by omega) (by omega) (by rw [hlen]; exact Nat.le_trans (Nat.mul_le_mul_right _ (by omega)) hb) (fun x hx=>hk x (List.mem_of_mem_take (List.mem_of_mem_drop hx))) (fun h0=>?_) (fun i j x d hx hd=>?_)
   ·obtain ⟨B,o,cells,rfl,hσ,hcell⟩:=hA (by omega)
    refine ⟨B,o + l * k,cells,?_,hσ,fun i j hi hj=>?_⟩
    ·rw [if_neg (by omega)]
     simp [fq]
    ·rw [← hcell (l + i) j (by omega) hj]
     congr 1
     rw [Nat.add_mul]; omega
   ·have hx' : xs[l + i]? = some x:=by
     rw [List.getElem?_drop,List.getElem?_take] at hx
     split at hx
     ·exact hx
     ·cases hx
    exact hh _ _ _ _ hx' hd
theorem yu(hT : bE P T){ops : Array Oper}{o : Oper}{rest : List Oper}{st : St}{K : St→Prop}{k b k' b' l h : Nat}{t e : TypeId}{z : List D}{x : Operand}{lo hi : Option Operand}{xs : List (List D)}
  (ho : o.op = .slice t x lo hi none) (hg : o.guard = none) (hd : bu c.n o.dst = true) (ht : bz T t = some (e,k',b',z)) (hx : ev st x = some (.one (.d (.sl k b xs)))) (hk : Nat.beq k k' = true)
  (hl : bnd st lo 0 l) (hh : bnd st hi xs.length h) (h1 : l≤h) (h2 : h≤xs.length)
  (hok : ao P c ops rest ⟨bX o.dst (.one (.d (.sl k b ((xs.take h).drop l)))) st.fr,st.sto⟩ K) : ao P c ops (o::rest) st K :=
 bM hg fun a w σ φ hr=>by
  obtain ⟨i,zv,hu,hi',rfl,_⟩:=dE hT ht
  obtain rfl:=Nat.eq_of_beq_eq_true hk
  have hrx:=bh hr hx
  replace hrx:=RepC.d_inv hrx
  have hshape : ∃ A cap,a.eval x = .slice A xs.length cap∧xs.length≤cap:=by
   generalize a.eval x = ux at hrx
   cases hrx with
   | sl vs hc _ _ _ _ _=>exact ⟨_,_,rfl,hc⟩
  obtain ⟨A,cap,hux,hcap⟩:=hshape
  refine ⟨_,w,_,σ,φ,?_,hr.put (v:=.one (.d (.sl i.size b ((xs.take h).drop l)))) hd (RepC.d (HT hux hrx h1 h2)),hok⟩
  have hb:=ey (P:=P) hr true hl hh h1 (Nat.le_trans h2 hcap)
  simp only [execOp,ho,hux,Instr.sliceAt,Sem.run_bind,run_underlying hu,Result.andThen_ok,Instr.slice,Option.map_none,hb,cn hi',Sem.run_pure]
theorem tQ(hT : bE P T){ops : Array Oper}{o : Oper}{rest : List Oper}{st : St}{K : St→Prop}{k b k' b' id n h : Nat}{t e : TypeId}{z : List D}{x : Operand}{lo hi : Option Operand}{xs : List (List D)}
  (ho : o.op = .slice t x lo hi none) (hg : o.guard = none) (hd : bu c.n o.dst = true) (ht : bz T t = some (e,k',b',z)) (hx : ev st x = some (.one (.own id n))) (hrow : look st.sto id = some (.row k b xs)) (hk : Nat.beq k k' = true)
  (hl : bnd st lo 0 0) (hh : bnd st hi n h) (h2 : h≤xs.length) (h3 : xs.length≤n∨h≤n)
  (hok : ao P c ops rest ⟨bX o.dst (.one (.own id h)) st.fr,st.sto⟩ K) : ao P c ops (o::rest) st K :=
 bM hg fun a w σ φ hr=>by
  obtain ⟨i,zv,hu,hi',rfl,_⟩:=dE hT ht
  obtain rfl:=Nat.eq_of_beq_eq_true hk
  have hrx : RepC σ φ st.sto (.own id n) (a.eval x):=bh hr hx
  generalize hux : a.eval x = ux at hrx
  have hobj:=hr.inv.obj _ _ hrow
  cases hrx with
  | dead hxx _=>simp [ci,cv hrow] at hxx
  | ownNil hl' hp =>
    rw [hrow] at hl'; cases hl'
    rcases hobj with ⟨rfl,_⟩ | ⟨B,cap,_,_,_,h5,_⟩
    ·have : h = 0:=by simpa using h2
     subst this
     refine ⟨_,w,_,σ,φ,?_,hr.put (v:=.one (.own id 0)) hd (RepC.ownNil hrow hp),hok⟩
     have hb:=ey (P:=P) hr true hl hh (Nat.le_refl _) (Nat.le_refl 0)
     simp only [execOp,ho,hux,Instr.sliceAt,Sem.run_bind,run_underlying hu,Result.andThen_ok,Instr.slice,Option.map_none,hb,cn hi',Sem.run_pure]
     rfl
    ·rw [hp] at h5; cases h5
  | own hl' hn hp =>
    rename_i B cap xs'
    rw [hrow] at hl'; cases hl'
    obtain ⟨arr,ty,us,hh',hsz,hle,_⟩:=hobj.row_cells hp
    refine ⟨.slice (some ⟨B,0,none⟩) h cap,w,_,σ,φ,?_,hr.put (v:=.one (.own id h)) hd (RepC.own hrow h2 hp),hok⟩
    have hb:=ey (P:=P) hr true hl hh (Nat.zero_le _) (Nat.le_trans h2 hle)
    simp only [execOp,ho,hux,Instr.sliceAt,Sem.run_bind,run_underlying hu,Result.andThen_ok,Instr.slice,Option.map_none,hb,cn hi',Sem.run_pure]
    simp [fq]
theorem tP(hT : bE P T){ops : Array Oper}{o : Oper}{rest : List Oper}{st : St}{K : St→Prop}{k b k' b' id n l h : Nat}{t e : TypeId}{z : List D}{x : Operand}{lo hi : Option Operand}{xs : List (List D)}
  (ho : o.op = .slice t x lo hi none) (hg : o.guard = none) (hd : bu c.n o.dst = true) (ht : bz T t = some (e,k',b',z)) (hx : ev st x = some (.one (.own id n))) (hrow : look st.sto id = some (.row k b xs)) (hk : Nat.beq k k' = true)
  (hl : bnd st lo 0 l) (hh : bnd st hi n h) (h1 : l≤h) (h2 : h≤xs.length)
  (hok : ao P c ops rest ⟨bX o.dst (.one (.sub id l (h - l))) st.fr,st.sto⟩ K) : ao P c ops (o::rest) st K :=
 bM hg fun a w σ φ hr=>by
  obtain ⟨i,zv,hu,hi',rfl,_⟩:=dE hT ht
  obtain rfl:=Nat.eq_of_beq_eq_true hk
  have hrx : RepC σ φ st.sto (.own id n) (a.eval x):=bh hr hx
  generalize hux : a.eval x = ux at hrx
  have hobj:=hr.inv.obj _ _ hrow
  cases hrx with
  | dead hxx _=>simp [ci,cv hrow] at hxx
  | ownNil hl' hp =>
    rw [hrow] at hl'; cases hl'
    rcases hobj with ⟨rfl,_⟩ | ⟨B,cap,_,_,_,h5,_⟩
    ·have : h = 0:=by simpa using h2
     subst this
     have : l = 0:=by omega
     subst this
     refine ⟨_,w,_,σ,φ,?_,hr.put (v:=.one (.sub id 0 (0 - 0))) hd (RepC.sub (A:=none) (c:=0) hrow (by simp) (by simp) (by simp)),hok⟩
     have hb:=ey (P:=P) hr true hl hh (Nat.le_refl _) (Nat.le_refl 0)
     simp only [execOp,ho,hux,Instr.sliceAt,Sem.run_bind,run_underlying hu,Result.andThen_ok,Instr.slice,Option.map_none,hb,cn hi',Sem.run_pure]
     rfl
    ·rw [hp] at h5; cases h5
  | own hl' hn hp =>
    rename_i B cap xs'
    rw [hrow] at hl'; cases hl'
    obtain ⟨arr,ty,us,hh',hsz,hle,_⟩:=hobj.row_cells hp
    refine ⟨_,w,_,σ,φ,?_,hr.put (v:=.one (.sub id l (h - l))) hd (RepC.sub (A:=if cap = l then some ⟨B,0,none⟩ else (some ⟨B,0,none⟩ : Option Addr).map (·.add (l * i.size))) (c:=cap - l) hrow (by omega) (by omega) (fun h0=>⟨B,cap,hp,?_⟩)),hok⟩
    ·have hb:=ey (P:=P) hr true hl hh h1 (Nat.le_trans h2 hle)
     simp only [execOp,ho,hux,Instr.sliceAt,Sem.run_bind,run_underlying hu,Result.andThen_ok,Instr.slice,Option.map_none,hb,cn hi',Sem.run_pure]
    ·rw [if_neg (by omega)]
     simp [fq]
theorem tO(hT : bE P T){ops : Array Oper}{o : Oper}{rest : List Oper}{st : St}{K : St→Prop}{l h : Nat}{t : TypeId}{x : Operand}{lo hi : Option Operand}{s : List UInt8}
  (ho : o.op = .slice t x lo hi none) (hg : o.guard = none) (hd : bu c.n o.dst = true) (ht : fR T t = true) (hx : ev st x = some (.one (.d (.str s))))
  (hl : bnd st lo 0 l) (hh : bnd st hi s.length h) (h1 : l≤h) (h2 : h≤s.length)
  (hok : ao P c ops rest ⟨bX o.dst (.one (.d (.str ((s.drop l).take (h - l))))) st.fr,st.sto⟩ K) : ao P c ops (o::rest) st K :=
 bM hg fun a w σ φ hr=>by
  have hu:=pp hT ht
  obtain ⟨hux,h48⟩:=xp hr hx
  have e : (⟨((s.drop l).take (h - l)).toArray⟩ : ByteArray) = (⟨s.toArray⟩ : ByteArray).extract l h:=by
   have:=Lib.extract_data (⟨s.toArray⟩ : ByteArray) l h
   simp only at this
   rw [← this]
  refine ⟨.string ((⟨s.toArray⟩ : ByteArray).extract l h),w,_,σ,φ,?_,hr.put (v:=.one (.d (.str ((s.drop l).take (h - l))))) hd (RepC.d (by rw [← e]; exact .str (by simp; omega))),hok⟩
  have hsz : (⟨s.toArray⟩ : ByteArray).size = s.length:=by simp [ByteArray.size]
  have hb:=ey (P:=P) (len:=s.length) (cap:=s.length) hr false hl hh h1 h2
  simp only [execOp,ho,hux,Instr.sliceAt,Sem.run_bind,run_underlying hu,Result.andThen_ok,Instr.slice,Option.map_none,Option.isSome_none,Bool.false_eq_true,if_false,hsz,hb,Sem.run_pure]
end Go.Abs
