import Derived.Test.YtpejdgkaapnekaaGreatGP4
set_option linter.unusedVariables false
set_option linter.unusedSimpArgs false
set_option linter.unnecessarySimpa false
set_option maxHeartbeats 1000000
namespace Go.Abs
open Go
def Dl : D→Value→Bool
 | .int k n,.int k' n'=>kEq k k' && decide (n = n')
 | .bool b,.bool b'=>b == b'
 | .str [],.string s=>s.data.toList.isEmpty
 | .nil,.slice none 0 0=>true
 | .raw .nilFunc,.nilFunc=>true
 | .raw .nilIface,.nilIface=>true
 | .raw (.map none),.map none=>true
 | .raw (.pointer none),.pointer none=>true
 | _,_=>false
theorem GT{d : D}{v : Value}(h : Dl d v = true) : v = iD d:=by
 unfold Dl at h
 split at h
 ·simp only [Bool.and_eq_true,decide_eq_true_eq] at h
  obtain ⟨h1,rfl⟩:=h
  obtain rfl:=fp h1
  rfl
 ·simp at h; subst h; rfl
 ·rename_i s
  have : s.data.toList = []:=by simpa using h
  simp only [iD]
  congr 1
  obtain ⟨l⟩:=s
  obtain ⟨l⟩:=l
  simp at this
  subst this; rfl
 ·rfl
 ·rfl
 ·rfl
 ·rfl
 ·rfl
 ·simp at h
def mg : List D→List Value→Bool
 | [],[]=>true
 | d::ds,v::vs=>Dl d v && mg ds vs
 | _,_=>false
theorem pZ : ∀ {ds : List D} {vs : List Value},mg ds vs = true→vs = ds.map iD
 | [],[],_=>rfl
 | d::ds,v::vs,h=>by
   simp only [mg,Bool.and_eq_true] at h
   rw [GT h.1,pZ h.2]; rfl
 | [],_::_,h=>by simp [mg] at h
 | _::_,[],h=>by simp [mg] at h
def tH : Value→Bool
 | .agg _=>true
 | _=>false
def Ho(d : TD)(z : Value) : Bool :=
 mg d.zero z.cells.toList && d.zero.all gr && Nat.beq d.zero.length d.size && (if d.kind.isAgg then tH z else z.oneCell)
def vr(P : Program) : List (Nat×Nat×Bool)→List Field→Bool
 | [],[]=>true
 | (o,s,g)::r,f::fs=>Nat.beq f.offset o && (match P.info? f.type,P.underlying f.type with
     | some i,some u=>Nat.beq i.size s && Nat.blt 0 s && (cK u == g)
     | _,_=>false) && vr P r fs
 | _,_=>false
def Dm(P : Program) : TK→TypeDesc→Bool
 | .int k,.int k'=>kEq k k'
 | .bool,.bool=>true
 | .str,.string=>true
 | .slice e,.slice e'=>Nat.beq e e'
 | .struct fs,.struct fields=>vr P fs fields.toList
 | .array n e,.array n' e'=>Nat.beq n n' && Nat.beq e e'
 | .ptr,.pointer _=>true
 | .map k e,.map k' e'=>Nat.beq k k' && Nat.beq e e'
 | .func,.func _ _ _=>true
 | .other,u=>!cK u
 | _,_=>false
def tdB(P : Program)(t : TypeId)(d : TD) : Bool :=
 match P.info? t,P.underlying t with
 | some i,some u=>Nat.beq i.size d.size && Nat.beq i.bytes d.bytes && Dm P d.kind u && (match i.zero with | some z=>Ho d z | none=>false)
 | _,_=>false
def GU(P : Program) : Tab→Bool
 | []=>true
 | (t,d)::r=>tdB P t d && GU P r
theorem Bl{P : Program} : ∀ {fs : List (Nat×Nat×Bool)} {l : List Field},vr P fs l = true→l.length = fs.length ∧
  ∀ (j : Nat) (o s : Nat) (g : Bool),fs[j]? = some (o,s,g)→∃ f,l[j]? = some f∧f.offset = o∧P.cellsOf f.type = s∧0 < s∧(∃ i,P.info? f.type = some i)∧(∃ d',P.underlying f.type = some d'∧cK d' = g)
 | [],[],_=>⟨rfl,by simp⟩
 | (o,s,g)::r,f::fs,h=>by
   simp only [vr,Bool.and_eq_true] at h
   obtain ⟨⟨h1,h2⟩,h3⟩:=h
   obtain ⟨h4,h5⟩:=Bl h3
   refine ⟨by simp [h4],fun j o' s' g' hj=>?_⟩
   cases j with
   | zero =>
     simp at hj
     obtain ⟨rfl,rfl,rfl⟩:=hj
     split at h2
     ·rename_i i u hi hu
      simp only [Bool.and_eq_true,beq_iff_eq] at h2
      refine ⟨f,rfl,Nat.eq_of_beq_eq_true h1,?_,by have:=h2.1.2; simpa [Nat.blt_eq] using this,⟨i,hi⟩,u,hu,h2.2⟩
      simp only [Program.cellsOf,hi]
      exact Nat.eq_of_beq_eq_true h2.1.1
     ·simp at h2
   | succ j =>
     obtain ⟨f',h6,h7⟩:=h5 j o' s' g' (by simpa using hj)
     exact ⟨f',by simpa using h6,h7⟩
 | [],_::_,h=>by simp [vr] at h
 | _::_,[],h=>by simp [vr] at h
theorem GV{P : Program}{k : TK}{u : TypeDesc}(h : Dm P k u = true) : dR P k u:=by
 unfold Dm at h
 split at h
 ·obtain rfl:=fp h; rfl
 ·rfl
 ·rfl
 ·obtain rfl:=Nat.eq_of_beq_eq_true h; rfl
 ·rename_i fs fields
  obtain ⟨h1,h2⟩:=Bl h
  refine ⟨fields,rfl,by simpa using h1,fun j o s g hj=>?_⟩
  obtain ⟨f,h3,h4⟩:=h2 j o s g hj
  exact ⟨f,by simpa using h3,h4⟩
 ·simp only [Bool.and_eq_true] at h
  obtain rfl:=Nat.eq_of_beq_eq_true h.1
  obtain rfl:=Nat.eq_of_beq_eq_true h.2; rfl
 ·exact ⟨_,rfl⟩
 ·simp only [Bool.and_eq_true] at h
  obtain rfl:=Nat.eq_of_beq_eq_true h.1
  obtain rfl:=Nat.eq_of_beq_eq_true h.2; rfl
 ·exact ⟨_,_,_,rfl⟩
 ·simpa [dR] using h
 ·simp at h
theorem AF{P : Program} : ∀ {T : Tab},GU P T = true→aU P T
 | [],_,_,_,h=>by simp [look] at h
 | (t,d)::r,hb,t',d',h=>by
   simp only [GU,Bool.and_eq_true] at hb
   rcases ah h with ⟨rfl,rfl⟩ | ⟨_,h⟩
   ·have h1:=hb.1
    unfold tdB at h1
    split at h1
    ·rename_i i u hi hu
     simp only [Bool.and_eq_true] at h1
     obtain ⟨⟨⟨h2,h3⟩,h4⟩,h5⟩:=h1
     split at h5
     ·rename_i z hz
      unfold Ho at h5
      simp only [Bool.and_eq_true,List.all_eq_true] at h5
      obtain ⟨⟨⟨h6,h7⟩,h8⟩,h9⟩:=h5
      have hz':=pZ h6
      refine ⟨i,u,z,hi,hu,Nat.eq_of_beq_eq_true h2,Nat.eq_of_beq_eq_true h3,hz,GV h4,by rw [← hz',Array.toArray_toList],h7,Nat.eq_of_beq_eq_true h8,fun ha=>?_,fun ha=>?_⟩
      ·rw [if_pos ha] at h9
       cases z <;> simp [tH] at h9
       simp only [Value.cells] at hz'
       rw [← hz',Array.toArray_toList]
      ·rw [ha] at h9; simpa using h9
     ·simp at h5
    ·simp at h1
   ·exact AF hb.2 t' d' h
end Go.Abs
namespace Go.Abs
open Go
structure Tr where
 v : AV
 wr : List (Nat×Option AObj)
 ri : List Nat
 new : List Nat
def cC : List (Nat×Option AObj)→Sto→Sto
 | [],s=>s
 | (i,some o)::r,s=>bH i o (cC r s)
 | (i,none)::r,s=>del i (cC r s)
def gB : List (Nat×Option AObj)→Nat→Option (Option AObj)
 | [],_=>none
 | (i,o)::r,t=>if i = t then some o else gB r t
theorem ef : ∀ {wr : List (Nat×Option AObj)} {s : Sto} {t : Nat},look (cC wr s) t = match gB wr t with | some o=>o | none=>look s t
 | [],_,_=>rfl
 | (i,some o)::r,s,t=>by
   simp only [cC,gB,ci]
   by_cases h : i = t
   ·subst h; rw [aI,if_pos rfl]
   ·rw [aN (fun e=>h e.symm),if_neg h]; exact ef
 | (i,none)::r,s,t=>by
   simp only [cC,gB]
   by_cases h : i = t
   ·subst h
    rw [if_pos rfl]
    cases hl : look (del i (cC r s)) i with
    | none=>rfl
    | some e=>exact absurd rfl (df hl).1
   ·rw [if_neg h,dO (fun e=>h e.symm)]; exact ef
def nI : List Operand→List Nat
 | []=>[]
 | .tmp t::r=>t::nI r
 | _::r=>nI r
def gk(o : Op) : List Nat:=nI o.operands.toList
def tn(ops : List Oper)(o : Oper) : List Nat :=
 match o.guard with
 | none=>[]
 | some (j,_)=>match nth ops j with
   | some g=>match g.dst with
     | some d=>[d]
     | none=>[]
   | none=>[]
def Loc(P : Program)(c : Ctx)(o : Oper)(st : St)(tr : Tr) : Prop :=
 ∀ (st2 : St),(∀ t,t∈gk o.op→look st2.fr t = look st.fr t)→(∀ i,i∈tr.ri→look st2.sto i = look st.sto i) →
   (∀ i,i∈tr.new→look st2.sto i = none∧bn i st2.fr = false∧aM i st2.sto = false) →
   ∀ (ops : Array Oper) (rest : List Oper) (K : St→Prop),ac P c ops rest ⟨bj o.dst tr.v st2.fr,cC tr.wr st2.sto⟩ K→ac P c ops ({ o with guard:=none }::rest) st2 K
def fK(ops : Array Oper)(st : St)(o : Oper)(run : Bool) : Prop :=
 match o.guard with
 | none=>run = true
 | some (j,want)=>∃ y,fW st ops j = some y∧run = (y == some want)
def Tr.none : Tr:=⟨.tup [],[],[],[]⟩
def oB(acc : List Nat) : List Edge→Nat
 | []=>0
 | e::r=>if Region.binds .any e then 2 ^ e.on ||| acc.getD e.on 0 ||| oB acc r else oB acc r
def uD : List Oper→List Nat→List Nat
 | [],acc=>acc
 | o::r,acc=>uD r (acc ++ [oB acc o.after.toList])
def ki : Nat→List Oper→Bool
 | _,[]=>true
 | i,o::r=>o.after.toList.all (fun e=>!Region.binds .any e || Nat.blt e.on i) && ki (i + 1) r
def l9 : List (Nat×Option AObj)→List Nat
 | []=>[]
 | (i,_)::r=>i::l9 r
def qF(id : Nat) : List (Nat×Option AObj)→Bool
 | []=>false
 | (_,some o)::r=>o.men id || qF id r
 | (_,none)::r=>qF id r
def si(x : Nat) : List Nat→Bool
 | []=>false
 | y::r=>Nat.beq y x || si x r
def tp(l : List Nat) : List Nat→Bool
 | []=>false
 | y::r=>si y l || tp l r
def qG(d : Option Nat)(l : List Nat) : Bool:=match d with | some t=>si t l | none=>false
def G8(d e : Option Nat) : Bool:=match d,e with | some a,some b=>Nat.beq a b | _,_=>false
def Jx(anc : List Nat)(i j : Nat) : Bool:=if i < j then (anc.getD j 0).testBit i else (anc.getD i 0).testBit j
def mL(ops : List Oper)(oi oj : Oper)(ti tj : Tr) : Bool :=
 qG oi.dst (gk oj.op) || qG oi.dst (tn ops oj) || G8 oi.dst oj.dst || tp (l9 ti.wr) tj.ri || tp (l9 ti.wr) (l9 tj.wr)
def yi(ti : Tr)(id : Nat) : Bool:=si id (l9 ti.wr) || ti.v.men id || qF id ti.wr
def wY(ops : List Oper)(anc : List Nat)(i j : Nat)(oi oj : Oper)(ti tj : Tr) : Bool :=
 (!mL ops oi oj ti tj || Jx anc i j) && tj.new.all (fun id=>!yi ti id || (Nat.blt j i && (anc.getD i 0).testBit j))
def uE(ops : List Oper)(anc : List Nat)(j : Nat)(oj : Oper)(tj : Tr) : Nat→List Oper→List Tr→Bool
 | i,oi::r,ti::ts=>(Nat.beq i j || wY ops anc i j oi oj ti tj) && uE ops anc j oj tj (i + 1) r ts
 | _,_,_=>true
def yj(ops : List Oper)(trs : List Tr)(anc : List Nat)(st : St) : Nat→List Oper→List Tr→Bool
 | j,oj::r,tj::ts=>uE ops anc j oj tj 0 ops trs && tj.new.all (fun id=>!bf st.sto id && !bn id st.fr && !aM id st.sto) && yj ops trs anc st (j + 1) r ts
 | _,_,_=>true
def j8(ops : List Oper)(st : St)(trs : List Tr) : Bool:=ki 0 ops && yj ops trs (uD ops []) st 0 ops trs
def ao(P : Program)(c : Ctx)(ops : Array Oper)(st0 : St) : List Oper→St→List Tr→(St→Prop)→Prop
 | [],st,acc,K=>j8 ops.toList st0 acc.reverse = true∧K st
 | o::r,st,acc,K=>∃ (run : Bool) (tr : Tr),fK ops st o run∧(run = true→Loc P c o st tr)∧(run = false→tr = Tr.none) ∧
     (run = false→aP c.n o.dst = true)∧ao P c ops st0 r ⟨bj o.dst tr.v st.fr,cC tr.wr st.sto⟩ (tr::acc) K
def Cs(ops : List Oper)(trs : List Tr)(st0 : St)(L : Nat→Bool) : Nat→St
 | 0=>st0
 | i + 1=>match ops[i]?,trs[i]? with
   | some o,some t=>if L i then ⟨bj o.dst t.v (Cs ops trs st0 L i).fr,cC t.wr (Cs ops trs st0 L i).sto⟩ else Cs ops trs st0 L i
   | _,_=>Cs ops trs st0 L i
section
variable {ops : List Oper} {trs : List Tr} {st0 : St}
theorem gW{dst : Option Nat}{v : AV}{fr : List (Nat×AV)}{t : Nat} : look (bj dst v fr) t = if dst = some t then some v else look fr t:=by
 cases dst with
 | none=>simp [bj]
 | some d =>
   simp only [bj,Option.some.injEq]
   by_cases h : d = t
   ·subst h; rw [aI,if_pos rfl]
   ·rw [aN (fun e=>h e.symm),if_neg h]
theorem iN{L L' : Nat→Bool}{t : Nat} : ∀ {m : Nat},(∀ i o,i < m→ops[i]? = some o→o.dst = some t→L i = L' i)→look (Cs ops trs st0 L m).fr t = look (Cs ops trs st0 L' m).fr t
 | 0,_=>rfl
 | m + 1,h=>by
   have ih:=iN (m:=m) fun i o hi=>h i o (by omega)
   simp only [Cs]
   cases ho : ops[m]? with
   | none=>exact ih
   | some o =>
     cases ht : trs[m]? with
     | none=>exact ih
     | some tr =>
       simp only
       by_cases hd : o.dst = some t
       ·have:=h m o (by omega) ho hd
        cases hL : L m <;> rw [hL] at this <;> simp only [← this,Bool.false_eq_true,if_false,if_true]
        ·exact ih
        ·rw [gW,gW,if_pos hd,if_pos hd]
       ·cases hL : L m <;> cases hL' : L' m <;> simp only [Bool.false_eq_true,if_false,if_true] <;> (try rw [gW,if_neg hd]) <;> (try rw [gW,if_neg hd]) <;> exact ih
theorem gP{L L' : Nat→Bool}{id : Nat} : ∀ {m : Nat},(∀ i t,i < m→trs[i]? = some t→gB t.wr id≠none→L i = L' i)→look (Cs ops trs st0 L m).sto id = look (Cs ops trs st0 L' m).sto id
 | 0,_=>rfl
 | m + 1,h=>by
   have ih:=gP (m:=m) fun i t hi=>h i t (by omega)
   simp only [Cs]
   cases ho : ops[m]? with
   | none=>exact ih
   | some o =>
     cases ht : trs[m]? with
     | none=>exact ih
     | some tr =>
       simp only
       cases hw : gB tr.wr id with
       | some x =>
         have:=h m tr (by omega) ht (by rw [hw]; simp)
         cases hL : L m <;> rw [hL] at this <;> simp only [← this,Bool.false_eq_true,if_false,if_true]
         ·exact ih
         ·rw [ef,ef,hw]
       | none =>
         cases hL : L m <;> cases hL' : L' m <;> simp only [Bool.false_eq_true,if_false,if_true] <;> (try rw [ef,hw]) <;> (try rw [ef,hw]) <;> exact ih
theorem tq{L : Nat→Bool}{j t : Nat}{oj : Oper}{tj : Tr}(hj : ops[j]? = some oj)(htj : trs[j]? = some tj)(hL : L j = true)(hd : oj.dst = some t) :
  ∀ {m : Nat},j < m→(∀ i o,j < i→i < m→ops[i]? = some o→o.dst = some t→L i = false)→look (Cs ops trs st0 L m).fr t = some tj.v
 | 0,h,_=>by omega
 | m + 1,hjm,h=>by
   simp only [Cs]
   by_cases e : j = m
   ·subst e
    simp only [hj,htj,hL,if_true]
    rw [gW,if_pos hd]
   ·have ih:=tq hj htj hL hd (m:=m) (by omega) fun i o h1 h2=>h i o h1 (by omega)
    cases ho : ops[m]? with
    | none=>exact ih
    | some o =>
      cases ht : trs[m]? with
      | none=>exact ih
      | some tr =>
        simp only
        by_cases hdm : o.dst = some t
        ·have:=h m o (by omega) (by omega) ho hdm
         simp only [this,Bool.false_eq_true,if_false]; exact ih
        ·split
         ·rw [gW,if_neg hdm]; exact ih
         ·exact ih
theorem ro{L : Nat→Bool}{j id : Nat}{oj : Oper}{tj : Tr}{x : Option AObj}(hj : ops[j]? = some oj)(htj : trs[j]? = some tj)(hL : L j = true)(hd : gB tj.wr id = some x) :
  ∀ {m : Nat},j < m→(∀ i t,j < i→i < m→trs[i]? = some t→gB t.wr id≠none→L i = false)→look (Cs ops trs st0 L m).sto id = x
 | 0,h,_=>by omega
 | m + 1,hjm,h=>by
   simp only [Cs]
   by_cases e : j = m
   ·subst e
    simp only [hj,htj,hL,if_true]
    rw [ef,hd]
   ·have ih:=ro hj htj hL hd (m:=m) (by omega) fun i t h1 h2=>h i t h1 (by omega)
    cases ho : ops[m]? with
    | none=>exact ih
    | some o =>
      cases ht : trs[m]? with
      | none=>exact ih
      | some tr =>
        simp only
        cases hw : gB tr.wr id with
        | some y =>
          have:=h m tr (by omega) (by omega) ht (by rw [hw]; simp)
          simp only [this,Bool.false_eq_true,if_false]; exact ih
        | none =>
          split
          ·rw [ef,hw]; exact ih
          ·exact ih
end
theorem h2H{x1 x2 x3 x4 x5 x6 x7 x8 x9 x10 x11 x12 x13 x14}(h : ao x1 x2 x3 x4 (Oper.mk x5 (Op.call x6) x7 x8 x9 (x10)::x11) x12 x13 x14) : ao x1 x2 x3 x4 (Oper.mk x5 (Op.call x6) x7 x8 x9 (x10)::x11) x12 x13 x14:=h
theorem h3H{x1 x2 x3 x4 x5 x6 x7 x8}(h : ao x1 x2 x3 x4 x5 x6 x7 x8) : ao x1 x2 x3 x4 x5 x6 x7 x8:=h
theorem Fz{x1 x2 x3 x4 x5 x6 x7 x8 x9 x10 x11 x12 x13 x14 x15 x16}(h : ao x1 x2 x3 x4 (Oper.mk x5 (Op.indexAddr x6 x7 x8) x9 x10 x11 (x12)::x13) x14 x15 x16) : ao x1 x2 x3 x4 (Oper.mk x5 (Op.indexAddr x6 x7 x8) x9 x10 x11 (x12)::x13) x14 x15 x16:=h
theorem r7{x1 x2 x3 x4 x5 x6 x7 x8 x9 x10 x11 x12 x13 x14}(h : ao x1 x2 x3 x4 (Oper.mk x5 (x6) x7 x8 x9 (some x10)::x11) x12 x13 x14) : ao x1 x2 x3 x4 (Oper.mk x5 (x6) x7 x8 x9 (some x10)::x11) x12 x13 x14:=h
theorem NC{x1 x2 x3 x4 x5 x6 x7 x8 x9 x10 x11 x12 x13 x14 x15 x16 x17}(h : ao x1 x2 x3 x4 (Oper.mk x5 (Op.binOp .shl x6 x7 x8 x9) x10 x11 x12 (x13)::x14) x15 x16 x17) : ao x1 x2 x3 x4 (Oper.mk x5 (Op.binOp .shl x6 x7 x8 x9) x10 x11 x12 (x13)::x14) x15 x16 x17:=h
theorem ND{x1 x2 x3 x4 x5 x6 x7 x8 x9 x10 x11 x12 x13 x14 x15}(h : ao x1 x2 x3 x4 (Oper.mk x5 (Op.load x6 x7) x8 x9 x10 (x11)::x12) x13 x14 x15) : ao x1 x2 x3 x4 (Oper.mk x5 (Op.load x6 x7) x8 x9 x10 (x11)::x12) x13 x14 x15:=h
theorem Jy{x1 x2 x3 x4 x5 x6 x7 x8 x9 x10 x11 x12 x13 x14 x15 x16}(h : ao x1 x2 x3 x4 (Oper.mk x5 (Op.buildSlice x6 x7 x8) x9 x10 x11 (x12)::x13) x14 x15 x16) : ao x1 x2 x3 x4 (Oper.mk x5 (Op.buildSlice x6 x7 x8) x9 x10 x11 (x12)::x13) x14 x15 x16:=h
theorem NT{x1 x2 x3 x4 x5 x6 x7 x8 x9 x10 x11 x12 x13 x14 x15 x16}(h : ao x1 x2 x3 x4 (Oper.mk x5 (Op.index x6 x7 x8) x9 x10 x11 (x12)::x13) x14 x15 x16) : ao x1 x2 x3 x4 (Oper.mk x5 (Op.index x6 x7 x8) x9 x10 x11 (x12)::x13) x14 x15 x16:=h
theorem Jz{x1 x2 x3 x4 x5 x6 x7 x8 x9 x10 x11 x12 x13 x14 x15 x16 x17}(h : ao x1 x2 x3 x4 (Oper.mk x5 (Op.binOp .rem x6 x7 x8 x9) x10 x11 x12 (x13)::x14) x15 x16 x17) : ao x1 x2 x3 x4 (Oper.mk x5 (Op.binOp .rem x6 x7 x8 x9) x10 x11 x12 (x13)::x14) x15 x16 x17:=h
theorem NU{x1 x2 x3 x4 x5 x6 x7 x8 x9 x10 x11 x12 x13 x14 x15 x16 x17}(h : ao x1 x2 x3 x4 (Oper.mk x5 (Op.slice x6 x7 none x8 x9) x10 x11 x12 (x13)::x14) x15 x16 x17) : ao x1 x2 x3 x4 (Oper.mk x5 (Op.slice x6 x7 none x8 x9) x10 x11 x12 (x13)::x14) x15 x16 x17:=h
theorem NV{x1 x2 x3 x4 x5 x6 x7 x8 x9 x10 x11 x12 x13 x14 x15 x16 x17}(h : ao x1 x2 x3 x4 (Oper.mk x5 (Op.slice x6 x7 x8 none x9) x10 x11 x12 (x13)::x14) x15 x16 x17) : ao x1 x2 x3 x4 (Oper.mk x5 (Op.slice x6 x7 x8 none x9) x10 x11 x12 (x13)::x14) x15 x16 x17:=h
theorem NW{x1 x2 x3 x4 x5 x6 x7 x8 x9 x10 x11 x12 x13 x14 x15 x16 x17}(h : ao x1 x2 x3 x4 (Oper.mk x5 (Op.binOp .quo x6 x7 x8 x9) x10 x11 x12 (x13)::x14) x15 x16 x17) : ao x1 x2 x3 x4 (Oper.mk x5 (Op.binOp .quo x6 x7 x8 x9) x10 x11 x12 (x13)::x14) x15 x16 x17:=h
end Go.Abs
namespace Go.Abs
open Go
variable {P : Program} {c : Ctx} {T : Tab} {σ : Sig} {φ : Pl} {w : World} {a : Act}
theorem RepC.cong{sto sto' : Sto}(he : ∀ i,look sto' i = look sto i){x : AC}{v : Value}(h : RepC σ φ sto x v) : RepC σ φ sto' x v:=by
 cases h with
 | d h=>exact .d h
 | ownNil h hp=>exact .ownNil ((he _).trans h) hp
 | own h hn hp=>exact .own ((he _).trans h) hn hp
 | sub h hn hc hA=>exact .sub ((he _).trans h) hn hc hA
 | ref h hp=>exact .ref ((he _).trans h) hp
 | rref h hp=>exact .rref ((he _).trans h) hp
 | yl h hp=>exact .yl ((he _).trans h) hp
 | mapr h hp=>exact .mapr ((he _).trans h) hp
 | bsl h hp=>exact .bsl ((he _).trans h) hp
 | junk h=>exact .junk h
 | dead hx h =>
   refine .dead ?_ h
   cases x <;> simp [bx,bf,he] at hx ⊢ <;> exact hx
theorem Ext.cong{sto sto' : Sto}(he : ∀ i,look sto' i = look sto i) : Ext (fun _=>False) φ φ sto sto':=by
 intro id _
 cases h : look sto id with
 | none=>exact .inl ((he id).trans h)
 | some e=>exact .inr ⟨e,rfl,rfl,e,(he id).trans h,compat.refl _⟩
theorem RepV.cong{sto sto' : Sto}(he : ∀ i,look sto' i = look sto i){x : AV}{v : Value}(h : RepV σ φ sto x v) : RepV σ φ sto' x v :=
 h.ext (X:=fun _=>False) (Sig.le_refl _) (Ext.cong he) (fun _ h=>h.elim)
theorem Rel.cong{st st' : St}(h : Rel c st a w σ φ)(hf : ∀ t,look st'.fr t = look st.fr t)(hs : ∀ i,look st'.sto i = look st.sto i) : Rel c st' a w σ φ:=by
 refine ⟨h.le,h.fresh,⟨h.inv.sig,fun id e hi=>?_,fun i i' e e' p p' hi hi'=>h.inv.inj _ _ _ _ _ _ ((hs _).symm.trans hi) ((hs _).symm.trans hi')⟩,fun id e p hi=>h.mine _ _ _ ((hs _).symm.trans hi),fun s v hv=>?_,h.defers,h.size,h.fra,h.pin⟩
 ·exact (h.inv.obj _ _ ((hs _).symm.trans hi)).ext (X:=fun _=>False) (Sig.le_refl _) (Ext.cong hs) (fun _ h=>h.elim) rfl fun _ _ _=>⟨rfl,rfl⟩
 ·obtain ⟨u,h1,h2⟩:=h.slot s v ((hf s).symm.trans hv)
  exact ⟨u,h1,h2.cong hs⟩
theorem Rel.drew{st : St}(h : Rel c st a w σ φ)(d : Nat)(hd : w.drawn≤d) : Rel c st a { w with drawn:=d } σ φ :=
 ⟨h.le,h.fresh,⟨h.inv.sig,fun id e hi=>by have:=h.inv.obj id e hi; cases e <;> exact this,h.inv.inj⟩,h.mine,h.slot,h.defers,h.size,⟨h.fra.os,h.fra.tape,h.fra.output,h.fra.size,Nat.le_trans h.fra.drawn hd,h.fra.block⟩,h.pin⟩
theorem pH{acc : List Nat}{k : Nat} : ∀ {l : List Edge},(oB acc l).testBit k = true→∃ e∈l,Region.binds .any e = true∧(e.on = k∨(acc.getD e.on 0).testBit k = true)
 | [],h=>by simp [oB] at h
 | e::r,h=>by
   simp only [oB] at h
   cases hb : Region.binds .any e with
   | false =>
     rw [hb] at h
     obtain ⟨e',h1,h2⟩:=pH (l:=r) (by simpa using h)
     exact ⟨e',List.mem_cons_of_mem _ h1,h2⟩
   | true =>
     rw [hb,if_pos rfl] at h
     simp only [Nat.testBit_or,Bool.or_eq_true] at h
     rcases h with (h | h) | h
     ·rw [Nat.testBit_two_pow] at h
      exact ⟨e,List.mem_cons_self,hb,.inl (by simpa using h)⟩
     ·exact ⟨e,List.mem_cons_self,hb,.inr h⟩
     ·obtain ⟨e',h1,h2⟩:=pH h
      exact ⟨e',List.mem_cons_of_mem _ h1,h2⟩
theorem na : ∀ {ops : List Oper} {i j : Nat} {o : Oper},ki i ops = true→ops[j]? = some o→∀ e∈o.after.toList,Region.binds .any e = true→e.on < i + j
 | [],_,_,_,_,h=>by simp at h
 | x::r,i,0,o,hk,h=>fun e he hb=>by
   simp at h; subst h
   simp only [ki,Bool.and_eq_true,List.all_eq_true] at hk
   have:=hk.1 e he
   simpa [hb] using this
 | x::r,i,j + 1,o,hk,h=>fun e he hb=>by
   simp only [ki,Bool.and_eq_true] at hk
   have:=na (j:=j) hk.2 (by simpa using h) e he hb
   omega
def kO(ops : List Oper)(L : Nat→Bool) : Prop :=
 ∀ i o,ops[i]? = some o→L i = true→∀ e∈o.after.toList,Region.binds .any e = true→L e.on = true
theorem rq{ops0 : List Oper}{L : Nat→Bool}(hL : kO ops0 L)(hE : ki 0 ops0 = true) : ∀ {ops : List Oper} {acc : List Nat},(∀ j,ops[j]? = ops0[acc.length + j]?) →
  (∀ i k,i < acc.length→(acc.getD i 0).testBit k = true→L i = true→L k = true)→∀ i k,i < acc.length + ops.length→((uD ops acc).getD i 0).testBit k = true→L i = true→L k = true
 | [],acc,_,h=>by simpa [uD] using h
 | o::r,acc,hops,h=>by
   intro i k hi hb hLi
   simp only [uD] at hb
   refine rq hL hE (ops:=r) (acc:=acc ++ [oB acc o.after.toList]) (fun j=>?_) (fun i k hi hb hLi=>?_) i k (by simp at hi ⊢; omega) hb hLi
   ·have:=hops (j + 1)
    simp only [List.length_append,List.length_singleton]
    rw [show acc.length + 1 + j = acc.length + (j + 1) by omega,← this]; simp
   ·simp only [List.length_append,List.length_singleton] at hi
    rcases Nat.lt_or_ge i acc.length with hlt | hge
    ·rw [List.getD_eq_getElem?_getD,List.getElem?_append_left hlt,← List.getD_eq_getElem?_getD] at hb
     exact h i k hlt hb hLi
    ·obtain rfl : i = acc.length:=by omega
     rw [List.getD_eq_getElem?_getD,List.getElem?_append_right (Nat.le_refl _)] at hb
     simp only [Nat.sub_self,List.getElem?_cons_zero,Option.getD_some] at hb
     obtain ⟨e,he,hbd,hor⟩:=pH hb
     have ho : ops0[acc.length]? = some o:=by have:=hops 0; simpa using this.symm
     have hLe:=hL _ _ ho hLi e he hbd
     rcases hor with rfl | hor
     ·exact hLe
     ·have hlt:=na hE ho e he hbd
      exact h _ _ (by omega) hor hLe
theorem memB_iff{x : Nat} : ∀ {l : List Nat},si x l = true↔x∈l
 | []=>by simp [si]
 | y::r=>by
   simp only [si,Bool.or_eq_true,List.mem_cons,memB_iff (l:=r)]
   constructor
   ·rintro (h | h)
    ·exact .inl (Nat.eq_of_beq_eq_true h).symm
    ·exact .inr h
   ·rintro (h | h)
    ·exact .inl (by subst h; exact Nat.beq_refl _)
    ·exact .inr h
theorem sj{x : Nat} : ∀ {k l : List Nat},x∈k→x∈l→tp l k = true
 | [],_,h,_=>by simp at h
 | y::r,l,h,hl=>by
   simp only [tp,Bool.or_eq_true]
   rcases List.mem_cons.1 h with rfl | h
   ·exact .inl (memB_iff.2 hl)
   ·exact .inr (sj h hl)
theorem kS{t : Nat} : ∀ {wr : List (Nat×Option AObj)},gB wr t≠none→t∈l9 wr
 | [],h=>by simp [gB] at h
 | (i,o)::r,h=>by
   simp only [gB] at h
   simp only [l9,List.mem_cons]
   by_cases e : i = t
   ·exact .inl e.symm
   ·rw [if_neg e] at h; exact .inr (kS h)
theorem sk{ops : List Oper}{anc : List Nat}{j : Nat}{oj : Oper}{tj : Tr} : ∀ {l : List Oper} {ts : List Tr} {i n : Nat} {oi : Oper} {ti : Tr},uE ops anc j oj tj i l ts = true→l[n]? = some oi→ts[n]? = some ti→i + n≠j→wY ops anc (i + n) j oi oj ti tj = true
 | [],_,_,_,_,_,_,h,_,_=>by simp at h
 | _::_,[],_,_,_,_,_,_,h,_=>by simp at h
 | o::r,t::ts,i,0,oi,ti,hk,h1,h2,hne=>by
   simp at h1 h2; subst h1; subst h2
   simp only [uE,Bool.and_eq_true,Bool.or_eq_true] at hk
   rcases hk.1 with h | h
   ·exact absurd (Nat.eq_of_beq_eq_true h) hne
   ·exact h
 | o::r,t::ts,i,n + 1,oi,ti,hk,h1,h2,hne=>by
   simp only [uE,Bool.and_eq_true] at hk
   have:=sk (n:=n) hk.2 (by simpa using h1) (by simpa using h2) (by omega)
   rwa [show i + 1 + n = i + (n + 1) by omega] at this
theorem oD{ops : List Oper}{trs : List Tr}{anc : List Nat}{st : St} : ∀ {l : List Oper} {ts : List Tr} {j n : Nat} {oj : Oper} {tj : Tr},yj ops trs anc st j l ts = true→l[n]? = some oj→ts[n]? = some tj →
  uE ops anc (j + n) oj tj 0 ops trs = true∧∀ id∈tj.new,look st.sto id = none∧bn id st.fr = false∧aM id st.sto = false
 | [],_,_,_,_,_,_,h,_=>by simp at h
 | _::_,[],_,_,_,_,_,_,h=>by simp at h
 | o::r,t::ts,j,0,oj,tj,hk,h1,h2=>by
   simp at h1 h2; subst h1; subst h2
   simp only [yj,Bool.and_eq_true,List.all_eq_true,Bool.not_eq_true'] at hk
   refine ⟨hk.1.1,fun id hid=>?_⟩
   obtain ⟨⟨h1,h2⟩,h3⟩:=hk.1.2 id hid
   refine ⟨?_,h2,h3⟩
   cases hl : look st.sto id with
   | none=>rfl
   | some e=>simp [bf,hl] at h1
 | o::r,t::ts,j,n + 1,oj,tj,hk,h1,h2=>by
   simp only [yj,Bool.and_eq_true] at hk
   have:=oD (n:=n) hk.2 (by simpa using h1) (by simpa using h2)
   rwa [show j + 1 + n = j + (n + 1) by omega] at this
structure DrawGood (ops : List Oper) (trs : List Tr) (st0 : St) : Prop where
 len : trs.length = ops.length
 edges : ki 0 ops = true
 /-- in conflict: one of the two waits for the other -/
 ord : ∀ (L : Nat→Bool) (i j : Nat) (oi oj : Oper) (ti tj : Tr),kO ops L→ops[i]? = some oi→ops[j]? = some oj→trs[i]? = some ti→trs[j]? = some tj→i≠j→mL ops oi oj ti tj = true→(i < j→L j = true→L i = true)∧(j < i→L i = true→L j = true)
 new : ∀ (L : Nat→Bool) (i j : Nat) (oi oj : Oper) (ti tj : Tr) (id : Nat),kO ops L→ops[i]? = some oi→ops[j]? = some oj→trs[i]? = some ti→trs[j]? = some tj→i≠j→id∈tj.new→yi ti id = true→j < i∧(L i = true→L j = true)
 fresh : ∀ (j : Nat) (tj : Tr),trs[j]? = some tj→∀ id∈tj.new,look st0.sto id = none∧bn id st0.fr = false∧aM id st0.sto = false
theorem xF{ops : List Oper}{trs : List Tr}{st0 : St}(hlen : trs.length = ops.length)(h : j8 ops st0 trs = true) : DrawGood ops trs st0:=by
 simp only [j8,Bool.and_eq_true] at h
 obtain ⟨hE,hA⟩:=h
 have hcl : ∀ {L : Nat→Bool},kO ops L→∀ i k,i < ops.length→((uD ops []).getD i 0).testBit k = true→L i = true→L k = true:=fun {L} hL i k hi =>
  rq hL hE (ops:=ops) (acc:=[]) (by simp) (by simp) i k (by simpa using hi)
 have hlt : ∀ {i : Nat} {o : Oper},ops[i]? = some o→i < ops.length:=fun h=>(List.getElem?_eq_some_iff.1 h).1
 refine ⟨hlen,hE,fun L i j oi oj ti tj hL hi hj hti htj hne hc=>?_,fun L i j oi oj ti tj id hL hi hj hti htj hne hid hn=>?_,fun j tj htj id hid=>?_⟩
 ·have hr:=sk (n:=i) (oD (n:=j) hA hj htj).1 hi hti (by omega)
  simp only [Nat.zero_add,wY,Bool.and_eq_true,hc,Bool.not_true,Bool.false_or,Jx] at hr
  refine ⟨fun hlt' hLj=>?_,fun hlt' hLi=>?_⟩
  ·rw [if_pos hlt'] at hr; exact hcl hL _ _ (hlt hj) hr.1 hLj
  ·rw [if_neg (by omega)] at hr; exact hcl hL _ _ (hlt hi) hr.1 hLi
 ·have hr:=sk (n:=i) (oD (n:=j) hA hj htj).1 hi hti (by omega)
  simp only [Nat.zero_add,wY,Bool.and_eq_true,List.all_eq_true] at hr
  have:=hr.2 id hid
  simp only [hn,Bool.not_true,Bool.false_or,Bool.and_eq_true,Nat.blt_eq] at this
  exact ⟨this.1,fun hLi=>hcl hL _ _ (hlt hi) this.2 hLi⟩
 ·have hj : j < ops.length:=hlen ▸ (List.getElem?_eq_some_iff.1 htj).1
  exact (oD (n:=j) hA (List.getElem?_eq_getElem hj) htj).2 id hid
end Go.Abs
namespace Go.Abs
open Go
variable {P : Program} {c : Ctx} {T : Tab} {ops : List Oper} {trs : List Tr} {st0 : St}
theorem rN{id i : Nat}{o : AObj}(ho : o.men id = false) : ∀ {s : Sto},aM id s = false→aM id (bH i o s) = false
 | [],_=>by simp [bH,aM,ho]
 | p::r,h=>by
   simp only [aM,Bool.or_eq_false_iff] at h
   simp only [bH]
   cases Nat.beq p.1 i <;> simp only [cond_true,cond_false,aM,Bool.or_eq_false_iff]
   ·exact ⟨h.1,rN ho h.2⟩
   ·exact ⟨ho,h.2⟩
theorem ly{id i : Nat} : ∀ {s : Sto},aM id s = false→aM id (del i s) = false
 | [],_=>rfl
 | p::r,h=>by
   simp only [aM,Bool.or_eq_false_iff] at h
   simp only [del]
   cases Nat.beq p.1 i <;> simp only [cond_true,cond_false,aM,Bool.or_eq_false_iff]
   ·exact ⟨h.1,ly h.2⟩
   ·exact ly h.2
theorem nr{id : Nat} : ∀ {wr : List (Nat×Option AObj)} {s : Sto},qF id wr = false→aM id s = false→aM id (cC wr s) = false
 | [],_,_,h=>h
 | (i,some o)::r,s,hw,h=>by
   simp only [qF,Bool.or_eq_false_iff] at hw
   exact rN hw.1 (nr hw.2 h)
 | (i,none)::r,s,hw,h=>ly (nr (by simpa [qF] using hw) h)
theorem Dk{id : Nat}{d : Option Nat}{v : AV}{fr : List (Nat×AV)}(hv : v.men id = false)(h : bn id fr = false) : bn id (bj d v fr) = false:=by
 cases d with
 | none=>exact h
 | some d=>simp [bj,bn,hv,h]
theorem zI{L : Nat→Bool}{id : Nat}(h0 : look st0.sto id = none∧bn id st0.fr = false∧aM id st0.sto = false) : ∀ {m : Nat},(∀ i t,i < m→trs[i]? = some t→L i = true→yi t id = false) →
  look (Cs ops trs st0 L m).sto id = none∧bn id (Cs ops trs st0 L m).fr = false∧aM id (Cs ops trs st0 L m).sto = false
 | 0,_=>h0
 | m + 1,h=>by
   have ih:=zI h0 (m:=m) fun i t hi=>h i t (by omega)
   simp only [Cs]
   cases ho : ops[m]? with
   | none=>exact ih
   | some o =>
     cases ht : trs[m]? with
     | none=>exact ih
     | some tr =>
       simp only
       cases hL : L m with
       | false=>exact ih
       | true =>
         have:=h m tr (by omega) ht hL
         simp only [yi,Bool.or_eq_false_iff] at this
         simp only [if_true]
         refine ⟨?_,Dk this.1.2 ih.2.1,nr this.2 ih.2.2⟩
         rw [ef]
         cases hw : gB tr.wr id with
         | none=>exact ih.1
         | some x =>
           have h1:=memB_iff.2 (kS (t:=id) (wr:=tr.wr) (by rw [hw]; simp))
           rw [h1] at this; exact absurd this.1.1 (by simp)
theorem ol{L : Nat→Bool}{j : Nat} : ∀ {m : Nat},j≤m→(∀ i,j≤i→i < m→L i = false)→Cs ops trs st0 L m = Cs ops trs st0 L j
 | 0,h,_=>by obtain rfl : j = 0:=by omega
             rfl
 | m + 1,h,hL=>by
   rcases Nat.lt_or_ge j (m + 1) with hlt | hge
   ·have ih:=ol (L:=L) (m:=m) (j:=j) (by omega) fun i h1 h2=>hL i h1 (by omega)
    have:=hL m (by omega) (by omega)
    simp only [Cs,this,Bool.false_eq_true,if_false]
    rw [← ih]
    split <;> rfl
   ·obtain rfl : j = m + 1:=by omega
    rfl
def Sj(ops : List Oper)(trs : List Tr)(st0 : St)(j : Nat) : St:=Cs ops trs st0 (fun _=>true) j
theorem Me{j m t : Nat}(h : j≤m) : look (Sj ops trs st0 j).fr t = look (Cs ops trs st0 (fun i=>decide (i < j)) m).fr t:=by
 rw [ol (j:=j) h (fun i h1 _=>by simp; omega)]
 exact iN fun i o hi _ _=>by simp [hi]
theorem KR{j m t : Nat}(h : j≤m) : look (Sj ops trs st0 j).sto t = look (Cs ops trs st0 (fun i=>decide (i < j)) m).sto t:=by
 rw [ol (j:=j) h (fun i h1 _=>by simp; omega)]
 exact gP fun i o hi _ _=>by simp [hi]
def Fact(P : Program)(c : Ctx)(opsA : Array Oper)(o : Oper)(tr : Tr)(st : St) : Prop :=
 ∃ run : Bool,fK opsA st o run∧(run = true→Loc P c o st tr)∧(run = false→tr = Tr.none∧aP c.n o.dst = true)
def jG(L : Nat→Bool)(j : Nat) : Nat→Bool:=fun i=>if i = j then true else L i
section
variable {opsA : Array Oper} {L : Nat→Bool} {j : Nat} {oj : Oper} {tj : Tr}
theorem rk(hL : kO ops L)(hj : ops[j]? = some oj)(hanc : ∀ e∈oj.after.toList,Region.binds .any e = true→L e.on = true) : kO ops (jG L j):=by
 intro i o hi hLi e he hb
 unfold jG at hLi ⊢
 split
 ·rfl
 ·by_cases hij : i = j
  ·subst hij; rw [hj] at hi; cases hi; exact hanc e he hb
  ·rw [if_neg hij] at hLi; exact hL i o hi hLi e he hb
theorem zJ{st st' : St}{o : Oper}{run : Bool}(h : ∀ t,t∈tn opsA.toList o→look st'.fr t = look st.fr t)(hg : fK opsA st o run) : fK opsA st' o run:=by
 unfold fK at hg ⊢
 unfold tn at h
 cases hgd : o.guard with
 | none=>simpa [hgd] using hg
 | some gw =>
   obtain ⟨g,want⟩:=gw
   simp only [hgd] at hg h ⊢
   obtain ⟨b,hb,hr⟩:=hg
   refine ⟨b,?_,hr⟩
   unfold fW at hb ⊢
   cases hn : nth opsA.toList g with
   | none=>simp [hn] at hb
   | some og =>
     simp only [hn] at hb h ⊢
     cases hd : og.dst with
     | none=>simp [hd] at hb
     | some d =>
       simp only [hd] at hb h ⊢
       rw [h d (by simp)]
       exact hb
theorem Fy(G : DrawGood opsA.toList trs st0)(hL : kO opsA.toList L)(hj : opsA.toList[j]? = some oj)(htj : trs[j]? = some tj)(hnL : L j = false)
  (hanc : ∀ e∈oj.after.toList,Region.binds .any e = true→L e.on = true) (hF : Fact P c opsA oj tj (Sj opsA.toList trs st0 j)) {m : Nat} (hm : opsA.toList.length = m) {a : Act} {w : World} {σ : Sig} {φ : Pl}
  (hr : Rel c (Cs opsA.toList trs st0 L m) a w σ φ) {Q : Exit→Act→World→Prop} {K : Act→World→Prop}
  (hK : ∀ a' w' σ' φ',Rel c (Cs opsA.toList trs st0 (jG L j) m) a' w' σ' φ'→K a' w') : wpOpIn (fnc c) 0 P opsA Q j K a w:=by
 have hjm : j < m:=by have:=(List.getElem?_eq_some_iff.1 hj).1; omega
 have hL':=rk hL hj hanc
 have hlk : ∀ i,i≠j→jG L j i = L i:=fun i hi=>by simp [jG,hi]
 have htr : ∀ i,i < m→∃ t,trs[i]? = some t:=fun i hi=>⟨_,List.getElem?_eq_getElem (by rw [G.len]; omega)⟩
 have hop : ∀ {i : Nat} {t : Tr},trs[i]? = some t→∃ o,opsA.toList[i]? = some o:=fun {i t} h=>⟨_,List.getElem?_eq_getElem (by have:=(List.getElem?_eq_some_iff.1 h).1; rw [G.len] at this; omega)⟩
 have hconf : ∀ {i : Nat} {oi : Oper} {ti : Tr},opsA.toList[i]? = some oi→trs[i]? = some ti→i≠j→mL opsA.toList oi oj ti tj = true→L i = decide (i < j):=by
  intro i oi ti hi hti hij hc
  rcases Nat.lt_or_ge i j with h | h
  ·have:=(G.ord _ i j oi oj ti tj hL' hi hj hti htj hij hc).1 h (by simp [jG])
   rw [hlk i hij] at this
   simp [this,h]
  ·have:=(G.ord _ i j oi oj ti tj hL hi hj hti htj hij hc).2 (by omega)
   have hn : ¬ i < j:=by omega
   cases hb : L i with
   | false=>simp [hn]
   | true=>rw [this hb] at hnL; cases hnL
 have hconfS : ∀ {i : Nat} {oi : Oper} {ti : Tr},j < i→opsA.toList[i]? = some oi→trs[i]? = some ti→mL opsA.toList oi oj ti tj = true→jG L j i = false:=by
  intro i oi ti hji hi hti hc
  rw [hlk i (by omega),hconf hi hti (by omega) hc]
  simp; omega
 -- what it looks at
 have hsl : ∀ t,(qG (some t) (gk oj.op) = true∨qG (some t) (tn opsA.toList oj) = true)→look (Cs opsA.toList trs st0 L m).fr t = look (Sj opsA.toList trs st0 j).fr t:=by
  intro t ht
  rw [Me (Nat.le_of_lt hjm)]
  refine iN fun i o hi ho hd=>?_
  by_cases hij : i = j
  ·subst hij; simp [hnL]
  ·obtain ⟨ti,hti⟩:=htr i hi
   refine hconf ho hti hij ?_
   simp only [mL,hd,Bool.or_eq_true]
   rcases ht with h | h
   ·exact .inl (.inl (.inl (.inl h)))
   ·exact .inl (.inl (.inl (.inr h)))
 have hri : ∀ i,i∈tj.ri→look (Cs opsA.toList trs st0 L m).sto i = look (Sj opsA.toList trs st0 j).sto i:=by
  intro id hid
  rw [KR (Nat.le_of_lt hjm)]
  refine gP fun i t hi ht hw=>?_
  by_cases hij : i = j
  ·subst hij; simp [hnL]
  ·obtain ⟨o,ho⟩:=hop ht
   refine hconf ho ht hij ?_
   simp only [mL,Bool.or_eq_true]
   exact .inl (.inr (sj hid (kS hw)))
 have hnew : ∀ id,id∈tj.new→look (Cs opsA.toList trs st0 L m).sto id = none∧bn id (Cs opsA.toList trs st0 L m).fr = false∧aM id (Cs opsA.toList trs st0 L m).sto = false:=by
  intro id hid
  refine zI (G.fresh j tj htj id hid) fun i t hi ht hLi=>?_
  cases hb : yi t id with
  | false=>rfl
  | true =>
    obtain ⟨o,ho⟩:=hop ht
    have hij : i≠j:=by rintro rfl; rw [hnL] at hLi; cases hLi
    have:=(G.new L i j o oj t tj id hL ho hj ht htj hij hid hb).2 hLi
    rw [this] at hnL; cases hnL
 have hg:=fun t (ht : t∈tn opsA.toList oj)=>hsl t (.inr (by simpa [qG] using memB_iff.2 ht))
 -- what it leaves
 have hafter : ∀ a' w' σ' φ',Rel c ⟨bj oj.dst tj.v (Cs opsA.toList trs st0 L m).fr,cC tj.wr (Cs opsA.toList trs st0 L m).sto⟩ a' w' σ' φ'→K a' w':=by
  intro a' w' σ' φ' h
  refine hK a' w' σ' φ' (h.cong (fun t=>?_) (fun id=>?_))
  ·rw [gW]
   by_cases hd : oj.dst = some t
   ·rw [if_pos hd]
    refine tq hj htj (by simp [jG]) hd hjm fun i o hji hi ho hdo=>?_
    obtain ⟨ti,hti⟩:=htr i hi
    refine hconfS hji ho hti ?_
    simp [mL,hdo,hd,G8]
   ·rw [if_neg hd]
    refine iN fun i o hi ho hdo=>?_
    by_cases hij : i = j
    ·subst hij; rw [hj] at ho; cases ho; exact absurd hdo hd
    ·exact hlk i hij
  ·rw [ef]
   cases hw : gB tj.wr id with
   | some x =>
     refine ro hj htj (by simp [jG]) hw hjm fun i t hji hi ht hwi=>?_
     obtain ⟨o,ho⟩:=hop ht
     refine hconfS hji ho ht ?_
     simp only [mL,Bool.or_eq_true]
     exact .inr (sj (kS (t:=id) (wr:=tj.wr) (by rw [hw]; simp)) (kS hwi))
   | none =>
     refine gP fun i t hi ht hwi=>?_
     by_cases hij : i = j
     ·subst hij; rw [htj] at ht; cases ht; exact absurd hw hwi
     ·exact hlk i hij
 obtain ⟨run,hgd,h1,h2⟩:=hF
 have hgd':=zJ hg hgd
 have hjA : opsA[j]? = some oj:=by rw [← Array.getElem?_toList]; exact hj
 unfold wpOpIn
 simp only [hjA]
 have hwant : Region.wanted oj (yielded opsA a.tmps) = run:=by
  unfold fK at hgd'
  unfold Region.wanted
  cases hgo : oj.guard with
  | none=>simp only [hgo] at hgd' ⊢; exact hgd'.symm
  | some gw =>
    obtain ⟨g,want⟩:=gw
    simp only [hgo] at hgd' ⊢
    obtain ⟨b,hb,hrb⟩:=hgd'
    rw [sN hr hb,hrb]
 rw [hwant]
 cases run with
 | false =>
   obtain ⟨rfl,hd⟩:=h2 rfl
   simp only [Bool.false_eq_true,if_false]
   exact ⟨fun f _=>gR c f,hafter _ _ _ _ (hr.put hd ⟨[],rfl,trivial⟩)⟩
 | true =>
   simp only [if_true]
   have hloc:=h1 rfl (Cs opsA.toList trs st0 L m) (fun t ht=>hsl t (.inl (by simpa [qG] using memB_iff.2 ht))) hri hnew opsA [] (fun st=>st = ⟨bj oj.dst tj.v (Cs opsA.toList trs st0 L m).fr,cC tj.wr (Cs opsA.toList trs st0 L m).sto⟩) (qf rfl)
   have hwp:=hloc a w σ φ (fun e a w=>match e with | .normal=>K a w | _=>False) hr (fun a' w' σ' φ' st' hst hr'=>by subst hst; exact hafter _ _ _ _ hr')
   unfold wpListIn at hwp
   have hw1 : Region.wanted { oj with guard:=none } (yielded opsA a.tmps) = true:=rfl
   rw [if_pos hw1] at hwp
   have hout : ¬ LetsOut (fun (e : Exit) (a : Act) (w : World)=>match e with | .normal=>K a w | _=>False):=by rintro ⟨_,_,hf⟩; exact hf
   have e1 : ({ oj with guard:=none } : Oper).semAt (fnc c).round a.eval = oj.semAt (fnc c).round a.eval:=by
    obtain ⟨dst,op,type,pos,after,guard⟩:=oj
    cases op <;> rfl
   obtain ⟨_,hwp⟩:=hwp
   refine ⟨fun f _=>gR c f,?_⟩
   rw [e1] at hwp
   generalize (oj.semAt (fnc c).round a.eval).run P w = r at *
   cases r with
   | ok n w' =>
     cases n <;> simp only [Oper.uponIn,wpListIn] at hwp ⊢
     ·exact hwp
     ·exact hwp
     ·exact ⟨hwp.1,hwp.2.mono fun e w'' he=>by
       cases e with
       | returned v=>exact he
       | panicked _=>exact he.elim
       | outgrown=>exact absurd he hout⟩
     all_goals first
      | exact hwp
      | exact ⟨hwp.1,hwp.2.mono fun e w'' he=>by
        cases e with
        | returned v=>exact he
        | panicked _=>exact he.elim
        | outgrown=>exact absurd he hout⟩
   | halt x w'=>cases x <;> simp only [Oper.uponIn] at hwp ⊢
end
end Go.Abs
namespace Go.Abs
open Go
variable {P : Program} {c : Ctx} {st0 : St}
def mZ : List Oper→List Tr→St→St
 | o::r,t::ts,st=>mZ r ts ⟨bj o.dst t.v st.fr,cC t.wr st.sto⟩
 | _,_,st=>st
theorem sW{opsA : Array Oper}{K : St→Prop} : ∀ {l : List Oper} {st : St} {acc : List Tr},ao P c opsA st0 l st acc K →
  ∃ ts : List Tr,ts.length = l.length∧j8 opsA.toList st0 (acc.reverse ++ ts) = true∧K (mZ l ts st)∧∀ (j : Nat) (o : Oper) (t : Tr),l[j]? = some o→ts[j]? = some t→Fact P c opsA o t (mZ (l.take j) (ts.take j) st)
 | [],st,acc,h=>⟨[],rfl,by simpa [ao] using h.1,h.2,fun j o t h=>by simp at h⟩
 | o::r,st,acc,⟨run,tr,hg,h1,h2,h3,h⟩=>by
   obtain ⟨ts,hl,hc,hk,hf⟩:=sW h
   refine ⟨tr::ts,by simp [hl],by simpa using hc,hk,fun j o' t ho ht=>?_⟩
   cases j with
   | zero =>
     simp at ho ht; subst ho; subst ht
     exact ⟨run,hg,h1,fun hr=>⟨h2 hr,h3 hr⟩⟩
   | succ j=>exact hf j o' t (by simpa using ho) (by simpa using ht)
theorem vG : ∀ {l : List Oper} {ts : List Tr} {st : St} {o : Oper} {t : Tr},l.length = ts.length→mZ (l ++ [o]) (ts ++ [t]) st = ⟨bj o.dst t.v (mZ l ts st).fr,cC t.wr (mZ l ts st).sto⟩
 | [],[],_,_,_,_=>rfl
 | _::l,_::ts,_,_,_,h=>by
   simp only [List.cons_append,mZ]
   exact vG (by simpa using h)
 | [],_::_,_,_,_,h=>by simp at h
 | _::_,[],_,_,_,h=>by simp at h
theorem uo{ops : List Oper}{trs : List Tr}(hl : trs.length = ops.length) : ∀ {j : Nat},j≤ops.length→Sj ops trs st0 j = mZ (ops.take j) (trs.take j) st0
 | 0,_=>by simp [Sj,Cs,mZ]
 | j + 1,h=>by
   have ih:=uo hl (j:=j) (by omega)
   unfold Sj at ih ⊢
   have h1 : ops[j]? = some ops[j]:=List.getElem?_eq_getElem (by omega)
   have h2 : trs[j]? = some trs[j]:=List.getElem?_eq_getElem (by omega)
   simp only [Cs,h1,h2,if_true]
   rw [ih,List.take_add_one,List.take_add_one,h1,h2]
   simp only [Option.toList_some]
   rw [vG (by simp; omega)]
def Lof(listed : Array Bool) : Nat→Bool:=fun i=>listed.getD i false
def unl(listed : Array Bool) : Nat:=listed.toList.countP (fun b=>!b)
theorem sX{ops : Array Oper}{listed : Array Bool}{i : Nat}(h : i∈Region.ready .any ops listed) :
  ∃ o,ops[i]? = some o∧listed.getD i true = false∧∀ e∈o.after.toList,Region.binds .any e = true→Lof listed e.on = true:=by
 unfold Region.ready at h
 simp only [List.mem_filter,List.mem_range,Bool.and_eq_true,Bool.not_eq_true'] at h
 obtain ⟨h1,h2,h3⟩:=h
 have ho : ops[i]? = some ops[i]:=Array.getElem?_eq_getElem h1
 refine ⟨_,ho,h2,fun e he hb=>?_⟩
 rw [ho] at h3
 simp only [Option.map_some,Option.getD_some,Array.all_eq_true'] at h3
 have:=h3 e (by simpa using he)
 simpa [hb,Lof] using this
theorem Fx{ops : Array Oper}{listed : Array Bool}{i : Nat}{o : Oper}(ho : ops[i]? = some o)(hn : listed.getD i true = false)(he : ∀ e∈o.after.toList,Region.binds .any e = true→Lof listed e.on = true) : i∈Region.ready .any ops listed:=by
 unfold Region.ready
 simp only [List.mem_filter,List.mem_range,Bool.and_eq_true,Bool.not_eq_true']
 refine ⟨(Array.getElem?_eq_some_iff.1 ho).1,hn,?_⟩
 rw [ho]
 simp only [Option.map_some,Option.getD_some,Array.all_eq_true']
 intro e hm
 cases hb : Region.binds .any e with
 | false=>rfl
 | true=>simpa [Lof] using he e (by simpa using hm) hb
theorem sY : ∀ {l : List Bool} {i : Nat},l[i]? = some false→(l.set i true).countP (fun b=>!b) + 1 = l.countP (fun b=>!b)
 | [],_,h=>by simp at h
 | b::r,0,h=>by simp at h; subst h; simp
 | b::r,i + 1,h=>by
   have:=sY (l:=r) (i:=i) (by simpa using h)
   simp only [List.set_cons_succ,List.countP_cons]
   omega
theorem DH{opsA : Array Oper}{trs : List Tr}(G : DrawGood opsA.toList trs st0)(hF : ∀ (j : Nat) (o : Oper) (t : Tr),opsA.toList[j]? = some o→trs[j]? = some t→Fact P c opsA o t (Sj opsA.toList trs st0 j))
  {Q : Exit→Act→World→Prop} (hQ : ∀ a w σ φ,Rel c (Sj opsA.toList trs st0 opsA.toList.length) a w σ φ→Q .normal a w) :
  ∀ (fuel : Nat) (listed : Array Bool) (a : Act) (w : World) (σ : Sig) (φ : Pl),listed.size = opsA.size→kO opsA.toList (Lof listed)→unl listed≤fuel→Rel c (Cs opsA.toList trs st0 (Lof listed) opsA.toList.length) a w σ φ →
    wpAnyIn (fnc c) 0 P .any opsA Q fuel listed a w:=by
 -- where nothing is left
 have hend : ∀ (listed : Array Bool) (a : Act) (w : World) (σ : Sig) (φ : Pl),(∀ i,i < opsA.size→Lof listed i = true)→Rel c (Cs opsA.toList trs st0 (Lof listed) opsA.toList.length) a w σ φ→Q .normal a w:=by
  intro listed a w σ φ hall hr
  refine hQ a w σ φ (hr.cong (fun t=>?_) (fun id=>?_))
  ·exact iN fun i o hi _ _=>(hall i (by simpa using hi)).symm
  ·exact gP fun i t hi _ _=>(hall i (by simpa using hi)).symm
 have hnone : ∀ (listed : Array Bool),listed.size = opsA.size→Region.ready .any opsA listed = []→∀ i,i < opsA.size→Lof listed i = true:=by
  intro listed hsz hrd i
  induction i using Nat.strongRecOn with
  | ind i ih =>
    intro hi
    cases hb : Lof listed i with
    | true=>rfl
    | false =>
      have ho : opsA[i]? = some opsA[i]:=Array.getElem?_eq_getElem hi
      have hn : listed.getD i true = false:=by
       unfold Lof at hb
       rw [Array.getD_eq_getD_getElem?,Array.getElem?_eq_getElem (by omega)] at hb ⊢
       exact hb
      have:=Fx (ops:=opsA) (listed:=listed) ho hn fun e he hbd=>by
       have hlt:=na G.edges (j:=i) (by rw [Array.getElem?_toList]; exact ho) e he hbd
       exact ih e.on (by omega) (by omega)
      rw [hrd] at this; simp at this
 intro fuel
 induction fuel with
 | zero =>
   intro listed a w σ φ hsz hcl hu hr
   have hall : ∀ i,i < opsA.size→Lof listed i = true:=by
    intro i hi
    have h0 : unl listed = 0:=by omega
    unfold unl at h0
    rw [List.countP_eq_zero] at h0
    have:=h0 listed[i] (by simp)
    unfold Lof
    rw [Array.getD_eq_getD_getElem?,Array.getElem?_eq_getElem (by omega)]
    simpa using this
   refine ⟨?_,hend listed a w σ φ hall hr⟩
   cases hrd : Region.ready .any opsA listed with
   | nil=>rfl
   | cons i r =>
     obtain ⟨o,ho,hn,_⟩:=sX (ops:=opsA) (listed:=listed) (i:=i) (by rw [hrd]; simp)
     have hi:=(Array.getElem?_eq_some_iff.1 ho).1
     have:=hall i hi
     unfold Lof at this
     rw [Array.getD_eq_getD_getElem?,Array.getElem?_eq_getElem (by omega)] at this hn
     simp at this hn; rw [this] at hn; cases hn
 | succ fuel ih =>
   intro listed a w σ φ hsz hcl hu hr
   refine ⟨fun hrd=>hend listed a w σ φ (hnone listed hsz hrd) hr,fun j hj=>?_⟩
   obtain ⟨oj,ho,hn,hanc⟩:=sX hj
   have hjs:=(Array.getElem?_eq_some_iff.1 ho).1
   have ho' : opsA.toList[j]? = some oj:=by rw [Array.getElem?_toList]; exact ho
   have hjt : j < trs.length:=by rw [G.len]; simpa using hjs
   have htj : trs[j]? = some trs[j]:=List.getElem?_eq_getElem hjt
   have hnf : listed[j]? = some false:=by
    rw [Array.getD_eq_getD_getElem?,Array.getElem?_eq_getElem (by omega)] at hn
    rw [Array.getElem?_eq_getElem (by omega)]
    simpa using hn
   have hnL : Lof listed j = false:=by unfold Lof; rw [Array.getD_eq_getD_getElem?,hnf]; rfl
   have hset : Lof (listed.setIfInBounds j true) = jG (Lof listed) j:=by
    funext i
    unfold Lof jG
    rw [Array.getD_eq_getD_getElem?,Array.getElem?_setIfInBounds]
    by_cases hij : j = i
    ·subst hij; simp [show j < listed.size by omega]
    ·rw [if_neg hij,if_neg (fun e=>hij e.symm)]; simp only [Array.getD_eq_getD_getElem?]
   refine Fy G hcl ho' htj hnL hanc (hF j oj _ ho' htj) rfl hr fun a' w' σ' φ' hr'=>?_
   refine ih _ a' w' σ' φ' (by simpa using hsz) (by rw [hset]; exact rk hcl ho' hanc) ?_ (by rw [hset]; exact hr')
   have:=sY (l:=listed.toList) (i:=j) (by rw [Array.getElem?_toList]; exact hnf)
   unfold unl at hu ⊢
   rw [Array.toList_setIfInBounds]
   omega
theorem sZ{id : Nat}{ops : Array Oper}{st : St}{Q : Exit→St→Prop}(hm : P.follows .mixedOrders = true)(h : ao P c ops st ops.toList st [] (Q .normal)) : OkC P c (.region id ops true) st Q:=by
 intro a w σ φ hr
 obtain ⟨trs,hl,hc,hk,hf⟩:=sW h
 have G:=xF hl (by simpa using hc)
 refine wpIn_region_any hm ?_
 refine DH (c:=c) G ?f1 (fun a' w' σ' φ' hr'=>⟨mZ ops.toList trs st,σ',φ',hk,.inl ?f2⟩) ops.size _ a _ σ φ (by simp) ?f3 ?f4 ?f5
 case f1 =>
  intro j o t ho ht
  rw [uo hl (Nat.le_of_lt (List.getElem?_eq_some_iff.1 ho).1)]
  exact hf j o t ho ht
 case f2 =>
  rw [uo hl (Nat.le_refl _)] at hr'
  rwa [List.take_length,← hl,List.take_length] at hr'
 case f3 =>
  intro i o _ hLi
  unfold Lof at hLi
  rw [Array.getD_eq_getD_getElem?,Array.getElem?_replicate] at hLi
  split at hLi <;> simp at hLi
 case f4=>unfold unl; exact Nat.le_trans List.countP_le_length (by simp)
 case f5 =>
  rw [ol (j:=0) (Nat.zero_le _) (fun i _ _=>by unfold Lof; rw [Array.getD_eq_getD_getElem?,Array.getElem?_replicate]; split <;> rfl)]
  exact hr.drew _ (by simp)
end Go.Abs
namespace Go.Abs
open Go
variable {P : Program} {c : Ctx} {T : Tab} {σ : Sig} {φ : Pl} {w : World}
def eb : AC→List Nat
 | .own i _ | .sub i _ _ | .ref i _ | .rref i _ _ | .yl i | .mapr i | .bsl i _ _=>[i]
 | _=>[]
def n4 : List AC→List Nat
 | []=>[]
 | c::r=>eb c ++ n4 r
def qt : List (Bool×List AC)→List Nat
 | []=>[]
 | t::r=>n4 t.2 ++ qt r
def bK : AV→List Nat
 | .one c=>eb c
 | .agg cs=>n4 cs
 | .tup ts=>qt ts
 | .any=>[]
def qV(st : St)(x : Operand) : List Nat:=match ev st x with | some v=>bK v | none=>[]
def bZ(st : St) : List Operand→List Nat
 | []=>[]
 | x::r=>qV st x ++ bZ st r
theorem jf{st : St}{x : Operand}{v : AV}(hv : ev st x = some v){i : Nat}(hi : i∈bK v) : ∀ {l : List Operand},x∈l→i∈bZ st l
 | [],h=>by simp at h
 | y::r,h=>by
   simp only [bZ,List.mem_append]
   rcases List.mem_cons.1 h with rfl | h
   ·exact .inl (by simp [qV,hv,hi])
   ·exact .inr (jf hv hi h)
theorem ud{t : Nat} : ∀ {l : List Operand},Operand.tmp t∈l→t∈nI l
 | [],h=>by simp at h
 | x::r,h=>by
   rcases List.mem_cons.1 h with rfl | h
   ·simp [nI]
   ·have:=ud h
    cases x <;> simp [nI,this]
theorem eh{st st2 : St}{op : Op}(hs : ∀ t,t∈gk op→look st2.fr t = look st.fr t){x : Operand}(hx : x∈op.operands.toList) : ev st2 x = ev st x:=by
 cases x with
 | tmp t=>exact hs t (ud hx)
 | _=>rfl
section
variable {s s2 : Sto}
theorem kZ{i : Nat}(h : look s2 i = look s i) : bf s2 i = bf s i:=by simp [bf,h]
theorem vM{off : Nat}{v : AV}(h : ∀ i,i∈bK v→look s2 i = look s i) : mW s2 off v = mW s off v:=by
 unfold mW
 split <;> first | rfl | (rw [kZ (h _ (by simp [bK,eb]))])
theorem C8{g : Bool}{n : Nat}{v : AV}(h : ∀ i,i∈bK v→look s2 i = look s i) : kH s2 g n v = kH s g n v:=by
 unfold kH
 split <;> first | rfl | (rw [h _ (by simp [bK,eb])])
theorem Fe{k : TK}{v : AV}(h : ∀ i,i∈bK v→look s2 i = look s i) : ug s2 k v = ug s k v:=by
 unfold ug
 split <;> first | rfl | (rw [kZ (h _ (by simp [bK,eb]))])
end
theorem rM{st st2 : St}{t : TypeId} : ∀ {parts : List (Nat×Operand)} {acc : List AC},(∀ p∈parts,ev st2 p.2 = ev st p.2)→fN T st2 t acc parts = fN T st t acc parts
 | [],_,_=>rfl
 | (i,x)::r,acc,h=>by
   have h1:=h (i,x) List.mem_cons_self
   have ih : ∀ {acc},fN T st2 t acc r = fN T st t acc r:=fun {acc}=>rM fun p hp=>h p (List.mem_cons_of_mem _ hp)
   simp only at h1
   simp only [fN,h1,ih]
theorem DQ{st st2 : St}{op : Op}(hs : ∀ t,t∈gk op→look st2.fr t = look st.fr t)(hi : ∀ i,i∈bZ st op.operands.toList→look st2.sto i = look st.sto i) : bQ T st2 op = bQ T st op:=by
 have he : ∀ {x : Operand},x∈op.operands.toList→ev st2 x = ev st x:=fun hx=>eh hs hx
 have hid : ∀ {x : Operand} {v : AV},x∈op.operands.toList→ev st x = some v→∀ i,i∈bK v→look st2.sto i = look st.sto i:=fun hx hv i h=>hi i (jf hv h hx)
 cases op with
 | move x=>exact he (by simp [Op.operands])
 | assign x=>exact he (by simp [Op.operands])
 | binOp op t x y ty=>simp only [bQ]; rw [he (x:=x) (by simp [Op.operands]),he (x:=y) (by simp [Op.operands])]
 | unOp op t x=>simp only [bQ]; rw [he (x:=x) (by simp [Op.operands])]
 | fieldAddr s x f =>
   simp only [bQ]; rw [he (x:=x) (by simp [Op.operands])]
   cases hv : ev st x with
   | none=>cases jO T s f <;> rfl
   | some v =>
     cases jO T s f with
     | none=>rfl
     | some p=>simp only; exact vM (hid (x:=x) (by simp [Op.operands]) hv)
 | field s x f=>simp only [bQ]; rw [he (x:=x) (by simp [Op.operands])]
 | load t x =>
   simp only [bQ]; rw [he (x:=x) (by simp [Op.operands])]
   cases hv : ev st x with
   | none=>cases iI T t <;> rfl
   | some v =>
     cases iI T t with
     | none=>rfl
     | some p=>simp only; exact C8 (hid (x:=x) (by simp [Op.operands]) hv)
 | extract x i=>simp only [bQ]; rw [he (x:=x) (by simp [Op.operands])]
 | convert a b x=>simp only [bQ]; rw [he (x:=x) (by simp [Op.operands])]
 | build t parts =>
   simp only [bQ]
   have : ∀ {acc},fN T st2 t acc parts.toList = fN T st t acc parts.toList:=fun {acc}=>rM fun p hp=>he (by
    simp only [Op.operands,Array.toList_map,List.mem_map]
    exact ⟨p,by simpa using hp,rfl⟩)
   simp only [this]
 | nilCheck x =>
   simp only [bQ]; rw [he (x:=x) (by simp [Op.operands])]
   cases hv : ev st x with
   | none=>rfl
   | some v =>
     have h:=hid (x:=x) (by simp [Op.operands]) hv
     split <;> first | rfl | (rename_i heq; cases heq; rw [kZ (h _ (by simp [bK,eb]))])
 | call cl =>
   obtain ⟨callee,args,ats⟩:=cl
   cases callee with
   | builtin b =>
     simp only [bQ]
     have hargs : ∀ x∈args.toList,x∈(Op.call { callee:=.builtin b,args:=args,argTypes:=ats }).operands.toList:=by
      intro x hx
      simp [Op.operands,Call.operands]
      simpa using hx
     have hmap : args.toList.map (ev st2) = args.toList.map (ev st):=List.map_congr_left fun x hx=>he (hargs x hx)
     rw [hmap]
     unfold lN
     split
     ·rename_i t v _ heq
      have hlen : ∃ x,args.toList = [x]∧ev st x = some v:=by
       cases hl : args.toList with
       | nil=>rw [hl] at heq; simp at heq
       | cons x r =>
         rw [hl] at heq
         simp only [List.map_cons,List.cons.injEq,List.map_eq_nil_iff] at heq
         exact ⟨x,by rw [heq.2],heq.1⟩
      obtain ⟨x,hx,hv⟩:=hlen
      have h:=hid (x:=x) (hargs x (by rw [hx]; simp)) hv
      cases look T t with
      | none=>rfl
      | some td=>simp only; rw [Fe h]
     ·rfl
     ·rfl
     ·rfl
   | _=>rfl
 | _=>rfl
end Go.Abs
