import Derived.ProofKit
import Derived.Orders
import Derived.Wp
import Derived.OrdersIn
import Derived.RangeFuncIn
set_option linter.unusedVariables false
set_option linter.unusedSimpArgs false
set_option linter.unnecessarySimpa false
set_option maxHeartbeats 1000000
namespace Go.Abs
open Go
theorem J.{u} {α : Sort u} {a : α} : a = a := rfl
inductive D where
 | int (k : IntKind) (n : Int)
 | bool (b : Bool)
 | str (s : List UInt8)
 | nil
 | sl (k b : Nat) (xs : List (List D))
 | ptr (cs : List D)
 | fn (f : FuncId) (caps : List D)
 | raw (v : Value)
 deriving Inhabited
abbrev Sig:=Nat→Option (Array Value)
def inR(k : IntKind)(n : Int) : Prop:=k.min≤n∧n≤k.max
inductive Rep (σ : Sig) : D→Value→Prop
 | int {k : IntKind} {n : Int} (h : inR k n) : Rep σ (.int k n) (.int k n)
 | bool {b : Bool} : Rep σ (.bool b) (.bool b)
 | str {s : List UInt8} (h : s.length < 2 ^ 48) : Rep σ (.str s) (.string ⟨s.toArray⟩)
 | nil : Rep σ .nil (.slice none 0 0)
 | sl {k b : Nat} {xs : List (List D)} {A : Option Addr} {cap : Nat} (vs : Nat→Nat→Value)
   (hc : xs.length≤cap) (h48 : xs.length < 2 ^ 48) (hb : xs.length * b≤2 ^ 47) (hk : ∀ x∈xs,x.length = k)
   (hA : 0 < xs.length→∃ (B o : Nat) (cells : Array Value),A = some ⟨B,o,none⟩∧σ B = some cells ∧
    ∀ i j,i < xs.length→j < k→cells[o + i * k + j]? = some (vs i j))
   (h : ∀ (i j : Nat) (x : List D) (d : D),xs[i]? = some x→x[j]? = some d→Rep σ d (vs i j)) : Rep σ (.sl k b xs) (.slice A xs.length cap)
 | ptr {cs : List D} {B o : Nat} {cells : Array Value} (vs : Nat→Value) (hb : σ B = some cells)
   (hc : ∀ j,j < cs.length→cells[o + j]? = some (vs j))
   (h : ∀ (j : Nat) (d : D),cs[j]? = some d→Rep σ d (vs j)) : Rep σ (.ptr cs) (.pointer (some ⟨B,o,none⟩))
 | fn {f : FuncId} {caps : List D} (vs : List Value) (hl : vs.length = caps.length)
   (h : ∀ (j : Nat) (d : D) (v : Value),caps[j]? = some d→vs[j]? = some v→Rep σ d v) : Rep σ (.fn f caps) (.func (.func f) #[] vs.toArray)
 | raw {v : Value} (h : v.oneCell = true) : Rep σ (.raw v) v
def Sig.le(σ τ : Sig) : Prop:=∀ b cs,σ b = some cs→τ b = some cs
theorem Sig.le_refl(σ : Sig) : σ.le σ:=fun _ _ h=>h
theorem Sig.le_trans{σ τ υ : Sig}(h : σ.le τ)(h' : τ.le υ) : σ.le υ:=fun b cs hb=>h' b cs (h b cs hb)
theorem Rep.mono{σ τ : Sig}(hl : σ.le τ){d : D}{v : Value}(h : Rep σ d v) : Rep τ d v:=by
 induction h with
 | int h=>exact .int h
 | bool=>exact .bool
 | str h=>exact .str h
 | nil=>exact .nil
 | sl vs hc h48 hb hk hA _ ih =>
   refine .sl vs hc h48 hb hk (fun h0=>?_) ih
   obtain ⟨B,o,cells,e,hb,hc⟩:=hA h0
   exact ⟨B,o,cells,e,hl _ _ hb,hc⟩
 | ptr vs hb hc _ ih=>exact .ptr vs (hl _ _ hb) hc ih
 | fn vs hl _ ih=>exact .fn vs hl ih
 | raw h=>exact .raw h
theorem Rep.oneCell{σ : Sig}{d : D}{v : Value}(h : Rep σ d v) : v.oneCell = true:=by
 cases h <;> first | rfl | assumption
inductive AC where
 | d (x : D)
 | own (id n : Nat)
 | sub (id lo n : Nat)
 | ref (id off : Nat)
 | rref (id i off : Nat)
 | yl (id : Nat)
 | mapr (id : Nat)
 | bsl (id off n : Nat)
 | junk
 deriving Inhabited
inductive AV where
 | one (c : AC)
 | agg (cs : List AC)
 | tup (vs : List (Bool×List AC))
 | any
 deriving Inhabited
structure LI where
 n : Nat
 params : Array Nat
 assign : Code
 body : Code
inductive AObj where
 | box (cs : List AC)
 | row (k b : Nat) (xs : List (List D))
 | map (kg vg : Bool) (es : List (List D×List D))
 | loop (li : LI) (fr : List (Nat×AV)) (s : LoopState) (p : Option Code)
 deriving Inhabited
abbrev Sto:=List (Nat×AObj)
structure St where
 fr : List (Nat×AV)
 sto : Sto
def look{α : Type} : List (Nat×α)→Nat→Option α
 | [],_=>none
 | (s,v)::r,t=>bif Nat.beq s t then some v else look r t
def All2{α β : Type}(R : α→β→Prop) : List α→List β→Prop
 | [],[]=>True
 | a::as,b::bs=>R a b∧All2 R as bs
 | _,_=>False
theorem All2.mono{α β : Type}{R S : α→β→Prop}(h : ∀ a b,R a b→S a b) : ∀ {as : List α} {bs : List β},All2 R as bs→All2 S as bs
 | [],[],_=>trivial
 | _::_,_::_,hh=>⟨h _ _ hh.1,All2.mono h hh.2⟩
 | [],_::_,hh=>hh.elim
 | _::_,[],hh=>hh.elim
theorem All2.length{α β : Type}{R : α→β→Prop} : ∀ {as : List α} {bs : List β},All2 R as bs→as.length = bs.length
 | [],[],_=>rfl
 | _::_,_::_,hh=>by simp [All2.length hh.2]
 | [],_::_,hh=>hh.elim
 | _::_,[],hh=>hh.elim
theorem All2.get{α β : Type}{R : α→β→Prop} : ∀ {as : List α} {bs : List β},All2 R as bs→∀ {j : Nat} {a : α},as[j]? = some a→∃ b,bs[j]? = some b∧R a b
 | [],[],_,_,_,h=>by simp at h
 | x::_,y::_,hh,0,a,h=>⟨y,rfl,by simp at h; subst h; exact hh.1⟩
 | _::_,_::_,hh,j + 1,a,h=>by
   obtain ⟨b,hb,hr⟩:=All2.get hh.2 (j:=j) (a:=a) (by simpa using h)
   exact ⟨b,by simpa using hb,hr⟩
 | [],_::_,hh,_,_,_=>hh.elim
 | _::_,[],hh,_,_,_=>hh.elim
theorem All2.append{α β : Type}{R : α→β→Prop} : ∀ {as : List α} {bs : List β} {as' : List α} {bs' : List β},All2 R as bs→All2 R as' bs'→All2 R (as ++ as') (bs ++ bs')
 | [],[],_,_,_,h=>h
 | _::_,_::_,_,_,hh,h=>⟨hh.1,All2.append hh.2 h⟩
 | [],_::_,_,_,hh,_=>hh.elim
 | _::_,[],_,_,hh,_=>hh.elim
theorem All2.drop{α β : Type}{R : α→β→Prop} : ∀ (n : Nat) {as : List α} {bs : List β},All2 R as bs→All2 R (as.drop n) (bs.drop n)
 | 0,_,_,h=>h
 | _ + 1,[],[],_=>trivial
 | n + 1,_::_,_::_,hh=>All2.drop n hh.2
 | _ + 1,[],_::_,hh=>hh.elim
 | _ + 1,_::_,[],hh=>hh.elim
theorem All2.take{α β : Type}{R : α→β→Prop} : ∀ (n : Nat) {as : List α} {bs : List β},All2 R as bs→All2 R (as.take n) (bs.take n)
 | 0,_,_,_=>trivial
 | _ + 1,[],[],_=>trivial
 | n + 1,_::_,_::_,hh=>⟨hh.1,All2.take n hh.2⟩
 | _ + 1,[],_::_,hh=>hh.elim
 | _ + 1,_::_,[],hh=>hh.elim
theorem All2.of_get{α β : Type}{R : α→β→Prop} : ∀ {as : List α} {bs : List β},as.length = bs.length→(∀ (j : Nat) (a : α) (b : β),as[j]? = some a→bs[j]? = some b→R a b)→All2 R as bs
 | [],[],_,_=>trivial
 | a::as,b::bs,hl,h=>⟨h 0 a b rfl rfl,All2.of_get (by simpa using hl) fun j a b ha hb=>h (j + 1) a b (by simpa using ha) (by simpa using hb)⟩
 | [],_::_,hl,_=>by simp at hl
 | _::_,[],hl,_=>by simp at hl
theorem All2.set{α β : Type}{R : α→β→Prop} : ∀ (j : Nat) {as : List α} {bs : List β} {a : α} {b : β},All2 R as bs→R a b→All2 R (as.set j a) (bs.set j b)
 | _,[],[],_,_,_,_=>trivial
 | 0,_::_,_::_,_,_,hh,h=>⟨h,hh.2⟩
 | n + 1,_::_,_::_,_,_,hh,h=>⟨hh.1,All2.set n hh.2 h⟩
 | _,[],_::_,_,_,hh,_=>hh.elim
 | _,_::_,[],_,_,hh,_=>hh.elim
def bf(sto : Sto)(id : Nat) : Bool:=match look sto id with | some _=>true | none=>false
def bx(sto : Sto) : AC→Bool
 | .own i _ | .sub i _ _ | .ref i _ | .rref i _ _ | .yl i | .mapr i | .bsl i _ _=>bf sto i
 | _=>true
abbrev Pl:=Nat→Option (Nat×Nat)
inductive RepC (σ : Sig) (φ : Pl) (sto : Sto) : AC→Value→Prop
 | d {x : D} {v : Value} (h : Rep σ x v) : RepC σ φ sto (.d x) v
 | ownNil {id k b : Nat} {xs : List (List D)} (h : look sto id = some (.row k b xs)) (hp : φ id = none) : RepC σ φ sto (.own id 0) (.slice none 0 0)
 | own {id n k b B cap : Nat} {xs : List (List D)} (h : look sto id = some (.row k b xs)) (hn : n≤xs.length) (hp : φ id = some (B,cap)) :
   RepC σ φ sto (.own id n) (.slice (some ⟨B,0,none⟩) n cap)
 | sub {id lo n k b c : Nat} {xs : List (List D)} {A : Option Addr} (h : look sto id = some (.row k b xs)) (hn : lo + n≤xs.length) (hc : n≤c)
   (hA : 0 < n→∃ B cap,φ id = some (B,cap)∧A = some ⟨B,lo * k,none⟩) : RepC σ φ sto (.sub id lo n) (.slice A n c)
 | ref {id off B cap : Nat} {cs : List AC} (h : look sto id = some (.box cs)) (hp : φ id = some (B,cap)) :
   RepC σ φ sto (.ref id off) (.pointer (some ⟨B,off,none⟩))
 | rref {id i off k b B cap : Nat} {xs : List (List D)} (h : look sto id = some (.row k b xs)) (hp : φ id = some (B,cap)) :
   RepC σ φ sto (.rref id i off) (.pointer (some ⟨B,i * k + off,none⟩))
 | yl {id B cap : Nat} {li : LI} {fr : List (Nat×AV)} {s : LoopState} {p : Option Code} (h : look sto id = some (.loop li fr s p)) (hp : φ id = some (B,cap)) :
   RepC σ φ sto (.yl id) (.func (.yield B) #[] #[])
 | mapr {id B cap : Nat} {kg vg : Bool} {es : List (List D×List D)} (h : look sto id = some (.map kg vg es)) (hp : φ id = some (B,cap)) :
   RepC σ φ sto (.mapr id) (.map (some B))
 | bsl {id off n B cap : Nat} {cs : List AC} (h : look sto id = some (.box cs)) (hp : φ id = some (B,cap)) :
   RepC σ φ sto (.bsl id off n) (.slice (some ⟨B,off,none⟩) n n)
 | junk {v : Value} (h : v.oneCell = true) : RepC σ φ sto .junk v
 | dead {x : AC} {v : Value} (hx : bx sto x = false) (h : v.oneCell = true) : RepC σ φ sto x v
theorem RepC.d_inv{σ : Sig}{φ : Pl}{sto : Sto}{x : D}{v : Value}(h : RepC σ φ sto (.d x) v) : Rep σ x v:=by
 cases h with
 | d h=>exact h
 | dead hx _=>simp [bx] at hx
theorem RepC.oneCell{σ : Sig}{φ : Pl}{sto : Sto}{c : AC}{v : Value}(h : RepC σ φ sto c v) : v.oneCell = true:=by
 cases h <;> first | rfl | assumption | (rename_i h; exact h.oneCell)
def RepT(σ : Sig)(φ : Pl)(sto : Sto)(t : Bool×List AC)(v : Value) : Prop :=
 match t with
 | (true,cs)=>∃ vs : List Value,v = .agg vs.toArray∧All2 (RepC σ φ sto) cs vs
 | (false,cs)=>All2 (RepC σ φ sto) cs [v]
def RepV(σ : Sig)(φ : Pl)(sto : Sto) : AV→Value→Prop
 | .one c,v=>RepC σ φ sto c v
 | .agg cs,v=>∃ vs : List Value,v = .agg vs.toArray∧All2 (RepC σ φ sto) cs vs
 | .tup ts,v=>∃ vs : List Value,v = .tuple vs.toArray∧All2 (RepT σ φ sto) ts vs
 | .any,_=>True
def RepD(σ : Sig)(g : Bool)(ds : List D)(v : Value) : Prop :=
 match g with
 | true=>∃ vs : List Value,v = .agg vs.toArray∧All2 (Rep σ) ds vs
 | false=>All2 (Rep σ) ds [v]
def RepE(σ : Sig)(kg vg : Bool) : Nat→List (List D×List D)→List MapEntry→Prop
 | _,[],[]=>True
 | i,p::ps,e::es=>RepD σ kg p.1 e.key∧RepD σ vg p.2 e.val∧e.born = i∧RepE σ kg vg (i + 1) ps es
 | _,_,_=>False
def ObjRep(σ : Sig)(φ : Pl)(sto : Sto)(w : World)(id : Nat)(e : AObj) : Prop :=
 match e with
 | .box cs=>∃ (B c : Nat) (vs : List Value) (t : TypeId),φ id = some (B,c)∧w.heap[B]? = some (.cells vs.toArray t (0,0))∧All2 (RepC σ φ sto) cs vs ∧
   σ B = none
 | .row k b xs=>(xs = []∧φ id = none)∨∃ (B cap : Nat) (arr : Array Value) (t : TypeId) (vs : Nat→Nat→Value),
   φ id = some (B,cap)∧w.heap[B]? = some (.cells arr t (0,0))∧arr.size = cap * k∧xs.length≤cap∧xs.length < 2 ^ 48∧xs.length * b≤2 ^ 47∧(∀ x∈xs,x.length = k) ∧
   (∀ i j,i < xs.length→j < k→arr[i * k + j]? = some (vs i j))∧(∀ (i j : Nat) (x : List D) (d : D),xs[i]? = some x→x[j]? = some d→Rep σ d (vs i j)) ∧
   σ B = none
 | .map kg vg es=>∃ (B c : Nat) (ents : List MapEntry),φ id = some (B,c)∧w.heap[B]? = some (.map ents.toArray es.length)∧RepE σ kg vg 0 es ents∧σ B = none
 | .loop li fr s p=>∃ (B c : Nat) (r : Loop),φ id = some (B,c)∧w.heap[B]? = some (.loop r)∧(r.state = s∧r.pending = p∧r.params = li.params∧r.assign = li.assign∧r.body = li.body∧r.tmps.size = li.n) ∧
   (∀ s v,look fr s = some v→∃ u,r.tmps[s]? = some u∧RepV σ φ sto v u)∧σ B = none
structure HInv (σ : Sig) (φ : Pl) (sto : Sto) (w : World) : Prop where
 sig : ∀ b cs,σ b = some cs→∃ t f,w.heap[b]? = some (.cells cs t f)
 obj : ∀ id e,look sto id = some e→ObjRep σ φ sto w id e
 inj : ∀ id id' e e' p p',look sto id = some e→look sto id' = some e'→id≠id'→φ id = some p→φ id' = some p'→p.1≠p'.1
structure Ctx where
 w0 : World
 σ0 : Sig
 φ0 : Pl
 M : Nat→Prop
 n : Nat
 rd : Option Nat
 mks : List Deferred
structure Fra (c : Ctx) (w : World) : Prop where
 os : w.os = c.w0.os
 tape : w.tape = c.w0.tape
 output : w.output = c.w0.output
 size : c.w0.heap.size≤w.heap.size
 drawn : c.w0.drawn≤w.drawn
 block : ∀ b,b < c.w0.heap.size→¬ c.M b→w.heap[b]? = c.w0.heap[b]?
def JR(c : Ctx)(φ : Pl)(sto : Sto) : Prop :=
 ∀ id e p,look sto id = some e→φ id = some p→c.w0.heap.size≤p.1∨c.M p.1
abbrev Pin(id : Nat) : Prop:=1000000≤id∧id < 2000000
structure Rel (c : Ctx) (st : St) (a : Act) (w : World) (σ : Sig) (φ : Pl) : Prop where
 le : c.σ0.le σ
 fresh : ∀ b,σ b≠none→c.σ0 b≠none∨c.w0.heap.size≤b∨c.M b
 inv : HInv σ φ st.sto w
 mine : JR c φ st.sto
 slot : ∀ s v,look st.fr s = some v→∃ u,a.tmps[s]? = some u∧RepV σ φ st.sto v u
 defers : a.defers = c.mks
 size : a.tmps.size = c.n
 fra : Fra c w
 pin : ∀ id,Pin id→φ id = c.φ0 id
inductive TK where
 | int (k : IntKind) | bool | str | slice (e : Nat) | struct (fs : List (Nat×Nat×Bool)) | array (n e : Nat) | ptr | map (k e : Nat) | func | other
structure TD where
 kind : TK
 size : Nat
 bytes : Nat
 zero : List D
abbrev Tab:=List (Nat×TD)
def TK.isAgg : TK→Bool
 | .struct _ | .array _ _=>true
 | _=>false
def iD : D→Value
 | .int k n=>.int k n
 | .bool b=>.bool b
 | .str s=>.string ⟨s.toArray⟩
 | .nil=>.slice none 0 0
 | .raw v=>v
 | _=>.nilFunc
def gr : D→Bool
 | .int k n=>decide (k.min≤n) && decide (n≤k.max)
 | .bool _ | .nil=>true
 | .str s=>decide (s.length < 2 ^ 48)
 | .raw v=>v.oneCell
 | _=>false
theorem l6{σ : Sig}{d : D}(h : gr d = true) : Rep σ d (iD d):=by
 cases d with
 | int k n=>simp only [gr,Bool.and_eq_true,decide_eq_true_eq] at h; exact .int ⟨h.1,h.2⟩
 | bool b=>exact .bool
 | str s=>simp only [gr,decide_eq_true_eq] at h; exact .str h
 | nil=>exact .nil
 | raw v=>exact .raw h
 | sl=>simp [gr] at h
 | ptr=>simp [gr] at h
 | fn=>simp [gr] at h
def cK : TypeDesc→Bool
 | .struct _ | .array _ _=>true
 | _=>false
def dR(P : Program) : TK→TypeDesc→Prop
 | .int k,d=>d = .int k
 | .bool,d=>d = .bool
 | .str,d=>d = .string
 | .slice e,d=>d = .slice e
 | .struct fs,d=>∃ fields : Array Field,d = .struct fields∧fields.size = fs.length ∧
   ∀ (j : Nat) (o s : Nat) (g : Bool),fs[j]? = some (o,s,g)→∃ f,fields[j]? = some f∧f.offset = o∧P.cellsOf f.type = s∧0 < s∧(∃ i,P.info? f.type = some i) ∧
     (∃ d',P.underlying f.type = some d'∧cK d' = g)
 | .array n e,d=>d = .array n e
 | .ptr,d=>∃ e,d = .pointer e
 | .map k e,d=>d = .map k e
 | .func,d=>∃ a b c,d = .func a b c
 | .other,d=>cK d = false
structure TDOk (P : Program) (t : TypeId) (d : TD) : Prop where
 ex : ∃ (i : TypeInfo) (u : TypeDesc) (z : Value),P.info? t = some i∧P.underlying t = some u∧i.size = d.size∧i.bytes = d.bytes∧i.zero = some z ∧
  dR P d.kind u∧z.cells = (d.zero.map iD).toArray∧(∀ x∈d.zero,gr x = true)∧d.zero.length = d.size ∧
  (d.kind.isAgg = true→z = .agg (d.zero.map iD).toArray)∧(d.kind.isAgg = false→z.oneCell = true)
def aU(P : Program)(T : Tab) : Prop:=∀ t d,look T t = some d→TDOk P t d
theorem pB{P : Program}{k : TK}{u : TypeDesc}(h : dR P k u) : cK u = k.isAgg:=by
 cases k <;> simp only [dR] at h <;> first | (subst h; rfl) | (obtain ⟨_,rfl⟩:=h; rfl) | (obtain ⟨_,rfl,_⟩:=h; rfl) | (obtain ⟨_,_,_,rfl⟩:=h; rfl) | exact h
def cst : Value→Option D
 | .int k n=>bif gr (.int k n) then some (.int k n) else none
 | .bool b=>some (.bool b)
 | .string s=>bif gr (.str s.data.toList) then some (.str s.data.toList) else none
 | .slice none 0 0=>some .nil
 | .nilFunc=>some (.raw .nilFunc)
 | .nilIface=>some (.raw .nilIface)
 | .map none=>some (.raw (.map none))
 | .pointer none=>some (.raw (.pointer none))
 | _=>none
theorem HJ{σ : Sig}{v : Value}{d : D}(h : cst v = some d) : Rep σ d v:=by
 unfold cst at h
 split at h
 ·rename_i k n
  cases hb : gr (.int k n) <;> simp [hb] at h; subst h; exact l6 (d:=.int k n) hb
 ·simp at h; subst h; exact .bool
 ·rename_i s
  cases hb : gr (.str s.data.toList) <;> simp [hb] at h; subst h; exact l6 (d:=.str s.data.toList) hb
 ·simp at h; subst h; exact .nil
 ·simp at h; subst h; exact .raw rfl
 ·simp at h; subst h; exact .raw rfl
 ·simp at h; subst h; exact .raw rfl
 ·simp at h; subst h; exact .raw rfl
 ·simp at h
def ev(st : St) : Operand→Option AV
 | .tmp t=>look st.fr t
 | .const v=>match cst v with | some d=>some (.one (.d d)) | none=>none
 | .func f=>some (.one (.d (.fn f [])))
 | .global _=>none
theorem aC{c : Ctx}{st : St}{a : Act}{w : World}{σ : Sig}{φ : Pl}(h : Rel c st a w σ φ){x : Operand}{v : AV}(hx : ev st x = some v) :
  RepV σ φ st.sto v (a.eval x):=by
 cases x with
 | tmp t =>
   obtain ⟨u,hu,hr⟩:=h.slot t v hx
   simp only [Act.eval,Array.getD_eq_getD_getElem?,hu,Option.getD_some]
   exact hr
 | const v =>
   simp only [ev] at hx
   split at hx <;> simp at hx
   rename_i d hd
   subst hx
   exact .d (HJ hd)
 | func f =>
   simp only [ev,Option.some.injEq] at hx; subst hx
   exact .d (.fn [] rfl (by intro j d v h; simp at h))
 | global g=>simp [ev] at hx
def sc(op : BinOp)(k : IntKind)(x y : Int) : Option D :=
 match op with
 | .add=>some (.int k (k.wrap (x + y)))
 | .sub=>some (.int k (k.wrap (x - y)))
 | .mul=>some (.int k (k.wrap (x * y)))
 | .eql=>some (.bool (x == y))
 | .neq=>some (.bool (x != y))
 | .lss=>some (.bool (decide (x < y)))
 | .leq=>some (.bool (decide (x≤y)))
 | .gtr=>some (.bool (decide (y < x)))
 | .geq=>some (.bool (decide (y≤x)))
 | .and=>some (.int k (k.wrap (BitVec.ofInt k.bits x &&& BitVec.ofInt k.bits y).toNat))
 | .or=>some (.int k (k.wrap (BitVec.ofInt k.bits x ||| BitVec.ofInt k.bits y).toNat))
 | .xor=>some (.int k (k.wrap (BitVec.ofInt k.bits x ^^^ BitVec.ofInt k.bits y).toNat))
 | _=>none
def FF(op : BinOp)(x y : List UInt8) : Option D :=
 match op with
 | .eql=>some (.bool (x == y))
 | .neq=>some (.bool (!(x == y)))
 | .lss=>some (.bool (Op.bytesLess x y))
 | .leq=>some (.bool (Op.bytesLess x y || x == y))
 | .gtr=>some (.bool (!(Op.bytesLess x y || x == y)))
 | .geq=>some (.bool (!(Op.bytesLess x y)))
 | _=>none
def kEq : IntKind→IntKind→Bool
 | .i8,.i8 | .i16,.i16 | .i32,.i32 | .i64,.i64 | .u8,.u8 | .u16,.u16 | .u32,.u32 | .u64,.u64=>true
 | _,_=>false
theorem fp{a b : IntKind}(h : kEq a b = true) : a = b:=by cases a <;> cases b <;> first | rfl | simp [kEq] at h
def jh : BinOp→Bool
 | .shl | .shr=>true
 | _=>false
def qC(T : Tab)(t : TypeId) : Bool:=match look T t with | some ⟨.bool,_,_,_⟩=>true | _=>false
def nX(T : Tab)(t : TypeId)(op : BinOp) : Option AV→Option AV→Option D
 | some (.one (.d (.int k x))),some (.one (.d (.int k' y)))=>bif jh op then none else bif kEq k k' then sc op k x y else none
 | some (.one (.d (.bool x))),some (.one (.d (.bool y)))=>bif qC T t then (match op with | .eql=>some (.bool (x == y)) | .neq=>some (.bool (!(x == y))) | _=>none) else none
 | some (.one (.d (.str x))),some (.one (.d (.str y)))=>FF op x y
 | _,_=>none
theorem jS(k : IntKind)(n : Int) : inR k (k.wrap n):=by
 unfold inR IntKind.wrap IntKind.min IntKind.max
 cases k <;> simp [IntKind.signed,IntKind.bits] <;> (try split) <;> omega
end Go.Abs
namespace Go.Abs
open Go
variable {P : Program} {σ : Sig} {φ : Pl} {sto : Sto} {w : World}
theorem GW{op : BinOp}{k : IntKind}{x y : Int}{d : D}(h : sc op k x y = some d)(t : TypeId)(hs : jh op = false) :
  ∃ u,(binOp op t (.int k x) (.int k y)).run P w = .ok u w∧Rep σ d u:=by
 cases op <;> simp only [sc,Option.some.injEq,reduceCtorEq] at h <;> (try (simp [jh] at hs; done)) <;> subst h
 all_goals simp only [binOp,ne_eq,not_true_eq_false,↓reduceIte,Op.intArith,Op.intBits,Op.intCmp]
 all_goals first
  | exact ⟨_,rfl,.int (jS _ _)⟩
  | exact ⟨_,rfl,.bool⟩
theorem GX{op : BinOp}{x y : List UInt8}{d : D}(h : FF op x y = some d)(t : TypeId) :
  ∃ u,(binOp op t (.string ⟨x.toArray⟩) (.string ⟨y.toArray⟩)).run P w = .ok u w∧Rep σ d u:=by
 have e : ∀ l : List UInt8,(⟨l.toArray⟩ : ByteArray).toList = l:=fun l=>by
  rw [ByteArray.toList_eq]
 cases op <;> simp only [FF,Option.some.injEq,reduceCtorEq] at h <;> subst h
 all_goals simp only [binOp,Op.stringOp,e]
 all_goals exact ⟨_,rfl,.bool⟩
theorem bF{op : BinOp}{t : TypeId}{x y : Operand}{a b : Value}(h : (a matches .nilIface | .agg _) = false) : (eqGuard op t x y a b).run P w = .ok () w:=by
 cases a <;> first | (simp at h; done) | (cases op <;> rfl)
theorem sO(d : Nat){t : TypeId}(h : P.underlying t = some .bool)(x y : Bool) : (Op.equalIn (d + 1) t (.bool x) (.bool y)).run P w = .ok (x == y) w:=by
 simp [Op.equalIn,run_underlying h]
theorem nW{t : TypeId}(h : P.underlying t = some .bool)(x y : Bool) : (Op.equal t (.bool x) (.bool y)).run P w = .ok (x == y) w:=sO 9999 h x y
theorem Dn{T : Tab}(hT : aU P T){t : TypeId}(h : qC T t = true) : P.underlying t = some .bool:=by
 unfold qC at h
 split at h
 ·rename_i s b z hl
  obtain ⟨i,u,zv,_,hu,_,_,_,hk,_⟩:=(hT t _ hl).ex
  simp only [dR] at hk
  rw [hu,hk]
 ·simp at h
theorem Fi{T : Tab}(hT : aU P T){op : BinOp}{v1 v2 : AV}{d : D}{t : TypeId}(h : nX T t op (some v1) (some v2) = some d){u1 u2 : Value}(h1 : RepV σ φ sto v1 u1)(h2 : RepV σ φ sto v2 u2)(x y : Operand) :
  ∃ u,(do eqGuard op t x y u1 u2; binOp op t u1 u2 : Sem Value).run P w = .ok u w∧Rep σ d u:=by
 unfold nX at h
 split at h
 ·rename_i k x' k' y' e1 e2
  simp only [Option.some.injEq] at e1 e2; subst e1 e2
  cases hs : jh op <;> simp only [hs,cond_true,cond_false,reduceCtorEq] at h
  cases hk : kEq k k' <;> simp only [hk,cond_true,cond_false,reduceCtorEq] at h
  obtain rfl:=fp hk
  replace h1:=RepC.d_inv h1; cases h1; replace h2:=RepC.d_inv h2; cases h2
  obtain ⟨u,hu,hr⟩:=GW (P:=P) (σ:=σ) (w:=w) h t hs
  exact ⟨u,by simp [bF,hu],hr⟩
 ·rename_i x' y' e1 e2
  simp only [Option.some.injEq] at e1 e2; subst e1 e2
  replace h1:=RepC.d_inv h1; cases h1; replace h2:=RepC.d_inv h2; cases h2
  cases hb : qC T t <;> simp only [hb,cond_true,cond_false,reduceCtorEq] at h
  have hu:=Dn hT hb
  split at h <;> simp only [Option.some.injEq,reduceCtorEq] at h <;> subst h
  ·exact ⟨.bool (x' == y'),by simp [bF,binOp,nW hu],.bool⟩
  ·exact ⟨.bool (!(x' == y')),by simp [bF,binOp,nW hu],.bool⟩
 ·rename_i x' y' e1 e2
  simp only [Option.some.injEq] at e1 e2; subst e1 e2
  replace h1:=RepC.d_inv h1; cases h1; replace h2:=RepC.d_inv h2; cases h2
  obtain ⟨u,hu,hr⟩:=GX (P:=P) (σ:=σ) (w:=w) h t
  exact ⟨u,by simp [bF,hu],hr⟩
 ·simp at h
end Go.Abs
namespace Go.Abs
open Go
def qS{α : Type} : Nat→List α→Option (List α)
 | 0,_=>some []
 | n + 1,c::r=>match qS n r with | some l=>some (c::l) | none=>none
 | _ + 1,[]=>none
theorem zb{α : Type} : ∀ {n : Nat} {l r : List α},qS n l = some r→r = l.take n∧n≤l.length
 | 0,_,_,h=>by simp [qS] at h; subst h; simp
 | n + 1,c::l,r,h=>by
   simp only [qS] at h
   split at h <;> simp at h
   rename_i l' hl
   subst h
   obtain ⟨rfl,hn⟩:=zb hl
   simp; omega
 | n + 1,[],_,h=>by simp [qS] at h
def nth{α : Type} : List α→Nat→Option α
 | [],_=>none
 | x::_,0=>some x
 | _::r,n + 1=>nth r n
theorem fO{α : Type} : ∀ (l : List α) (n : Nat),nth l n = l[n]?
 | [],_=>by simp [nth]
 | x::_,0=>by simp [nth]
 | _::r,n + 1=>by simp [nth,fO r n]
def eX(g : Bool)(s : Nat)(cs : List AC) : Option AV :=
 bif g then (match qS s cs with | some l=>some (.agg l) | none=>none)
 else match cs with | c::_=>some (.one c) | []=>none
def iI(T : Tab)(t : TypeId) : Option (Bool×Nat):=match look T t with | some td=>some (td.kind.isAgg,td.size) | none=>none
def jO(T : Tab)(t : TypeId)(f : Nat) : Option (Nat×Nat×Bool):=match look T t with | some ⟨.struct fs,_,_,_⟩=>nth fs f | _=>none
def mW(sto : Sto)(off : Nat) : AV→Option AV
 | .one (.d (.ptr cs))=>some (.one (.d (.ptr (cs.drop off))))
 | .one (.ref id o)=>bif bf sto id then some (.one (.ref id (o + off))) else none
 | .one (.rref id i o)=>bif bf sto id then some (.one (.rref id i (o + off))) else none
 | _=>none
def kH(sto : Sto)(g : Bool)(s : Nat) : AV→Option AV
 | .one (.d (.ptr cs))=>eX g s (cs.map .d)
 | .one (.ref id o)=>match look sto id with | some (.box cells)=>eX g s (cells.drop o) | _=>none
 | _=>none
def Gv(ts : List (Bool×List AC))(i : Nat) : Option AV :=
 match nth ts i with
 | some (true,cs)=>some (.agg cs)
 | some (false,[c])=>some (.one c)
 | _=>none
def ug(sto : Sto) : TK→AV→Option Int
 | .slice _,.one (.d (.sl _ _ xs))=>some (xs.length : Int)
 | .slice _,.one (.d .nil)=>some 0
 | .str,.one (.d (.str s))=>some (s.length : Int)
 | .slice _,.one (.own id n)=>bif bf sto id then some (n : Int) else none
 | .slice _,.one (.sub id _ n)=>bif bf sto id then some (n : Int) else none
 | _,_=>none
def unF(op : UnOp) : AV→Option D
 | .one (.d (.bool b))=>match op with | .not=>some (.bool (!b)) | _=>none
 | .one (.d (.int k n))=>match op with | .neg=>some (.int k (k.wrap (0 - n))) | .xor=>some (.int k (k.wrap (BitVec.ofInt k.bits (if k.signed then -1 else k.max) ^^^ BitVec.ofInt k.bits n).toNat)) | _=>none
 | _=>none
def lN(T : Tab)(sto : Sto)(b : Builtin)(ts : List TypeId)(vs : List (Option AV)) : Option AV :=
 match b,ts,vs with
 | .len,[t],[some v]=>match look T t with
   | some td=>(match ug sto td.kind v with | some n=>some (.one (.d (.int .i64 n))) | none=>none)
   | none=>none
 | .min,_,[some (.one (.d (.int k x))),some (.one (.d (.int k' y)))]=>bif kEq k k' then some (.one (.d (.int k (min x y)))) else none
 | .max,_,[some (.one (.d (.int k x))),some (.one (.d (.int k' y)))]=>bif kEq k k' then some (.one (.d (.int k (max x y)))) else none
 | _,_,_=>none
def wR(T : Tab)(src dst : TypeId) : AV→Option AV
 | .one (.d (.int _ n))=>match look T src,look T dst with
   | some _,some ⟨.int k,_,_,_⟩=>some (.one (.d (.int k (k.wrap n))))
   | _,_=>none
 | .one (.d (.str s))=>match look T src,look T dst with
   | some _,some ⟨.str,_,_,_⟩=>some (.one (.d (.str s)))
   | _,_=>none
 | _=>none
def cellsOf : AV→Option (List AC)
 | .one c=>some [c]
 | .agg cs=>some cs
 | _=>none
def cM{α : Type} : Nat→List α→List α→Option (List α)
 | 0,[],l=>some l
 | 0,c::n,_::l=>match cM 0 n l with | some r=>some (c::r) | none=>none
 | k + 1,n,x::l=>match cM k n l with | some r=>some (x::r) | none=>none
 | _,_,_=>none
def fN(T : Tab)(st : St)(t : TypeId)(acc : List AC) : List (Nat×Operand)→Option (List AC)
 | []=>some acc
 | (i,x)::r=>match jO T t i,ev st x with
   | some (o,s,_),some v=>match cellsOf v with
     | some cs=>bif Nat.beq cs.length s then (match cM o cs acc with | some acc'=>fN T st t acc' r | none=>none) else none
     | none=>none
   | _,_=>none
def bQ(T : Tab)(st : St) : Op→Option AV
 | .move x | .assign x=>ev st x
 | .binOp op t x y _=>match nX T t op (ev st x) (ev st y) with | some d=>some (.one (.d d)) | none=>none
 | .unOp op _ x=>match ev st x with | some v=>(match unF op v with | some d=>some (.one (.d d)) | none=>none) | none=>none
 | .fieldAddr s x f=>match jO T s f,ev st x with | some (o,_,_),some v=>mW st.sto o v | _,_=>none
 | .field s x f=>match jO T s f,ev st x with | some (o,s',g),some (.agg cs)=>eX g s' (cs.drop o) | _,_=>none
 | .load t x=>match iI T t,ev st x with | some (g,s),some v=>kH st.sto g s v | _,_=>none
 | .extract x i=>match ev st x with | some (.tup ts)=>Gv ts i | _=>none
 | .call { callee:=.builtin b,args,argTypes }=>lN T st.sto b argTypes.toList (args.toList.map (ev st))
 | .convert src dst x=>match ev st x with | some v=>wR T src dst v | none=>none
 | .build t parts=>match look T t with
   | some ⟨.struct _,_,_,z⟩=>(match fN T st t (z.map .d) parts.toList with | some cs=>some (.agg cs) | none=>none)
   | _=>none
 | .nilCheck x=>match ev st x with
   | some (.one (.d (.ptr cs)))=>some (.one (.d (.ptr cs)))
   | some (.one (.d (.fn f cs)))=>some (.one (.d (.fn f cs)))
   | some (.one (.ref i o))=>bif bf st.sto i then some (.one (.ref i o)) else none
   | some (.one (.rref i j o))=>bif bf st.sto i then some (.one (.rref i j o)) else none
   | _=>none
 | _=>none
end Go.Abs
namespace Go.Abs
open Go
variable {P : Program} {σ : Sig} {φ : Pl} {sto : Sto} {w : World}
def i6(w : World)(B o : Nat)(vs : List Value) : Prop:=∀ (j : Nat) (v : Value),vs[j]? = some v→w.cell? ⟨B,o + j,none⟩ = some v
theorem fF{B j : Nat}{cs : Array Value}{t : TypeId}{f : Nat×Nat}(h : w.heap[B]? = some (.cells cs t f)) : w.cell? ⟨B,j,none⟩ = cs[j]?:=by
 simp [World.cell?,h]
theorem Ag{cs : List D}{u : Value}(h : Rep σ (.ptr cs) u)(hi : HInv σ φ sto w) :
  ∃ (B o : Nat) (vs : List Value),u = .pointer (some ⟨B,o,none⟩)∧All2 (Rep σ) cs vs∧i6 w B o vs:=by
 cases h with
 | ptr vs hb hc hr =>
   rename_i B o cells
   obtain ⟨t,f,hh⟩:=hi.sig _ _ hb
   refine ⟨B,o,(List.range cs.length).map vs,rfl,?_,?_⟩
   ·refine All2.of_get (by simp) fun j d v hd hv=>?_
    have hj : j < cs.length:=by
     rcases Nat.lt_or_ge j cs.length with h | h
     ·exact h
     ·rw [List.getElem?_eq_none h] at hd; cases hd
    simp [hj] at hv
    subst hv
    exact hr j d hd
   ·intro j v hv
    have hj : j < cs.length:=by
     rcases Nat.lt_or_ge j cs.length with h | h
     ·exact h
     ·rw [List.getElem?_eq_none (by simpa using h)] at hv; cases hv
    simp [hj] at hv
    subst hv
    rw [fF hh]
    exact hc j hj
theorem All2.map_d{cs : List D}{vs : List Value}(h : All2 (Rep σ) cs vs) : All2 (RepC σ φ sto) (cs.map .d) vs:=by
 induction cs generalizing vs with
 | nil=>cases vs <;> simp_all [All2]
 | cons c cs ih=>cases vs with
   | nil=>simp [All2] at h
   | cons v vs=>exact ⟨.d h.1,ih h.2⟩
theorem ub{t : TypeId}{i : TypeInfo}{u : TypeDesc}{B o : Nat}{vs : List Value}(hi : P.info? t = some i)(hu : P.underlying t = some u)(hg : cK u = true)
  (hm : i6 w B o vs) (hl : i.size≤vs.length) : (loadVar t ⟨B,o,none⟩).run P w = .ok (.agg (vs.take i.size).toArray) w:=by
 have h1 : (isAgg t).run P w = .ok true w:=by
  unfold isAgg
  cases u <;> simp [cK] at hg <;> simp [run_underlying hu]
 have h2 : (loadCells ⟨B,o,none⟩ i.size).run P w = .ok (vs.take i.size).toArray w:=by
  have:=run_loadCells_list (P:=P) (w:=w) ⟨B,o,none⟩ (vs.take i.size) (fun j v hv=>by
   have hv' : vs[j]? = some v:=by
    rw [List.getElem?_take] at hv
    split at hv
    ·exact hv
    ·cases hv
   have:=hm j v hv'
   unfold Addr.add
   by_cases hj : j = 0
   ·subst hj; simpa using this
   ·simpa [hj] using this)
  rw [List.length_take,Nat.min_eq_left hl] at this
  exact this
 unfold loadVar
 simp [h1,sizeOf,typeInfo,hi,h2]
theorem uc{t : TypeId}{u : TypeDesc}{B o : Nat}{v : Value}(hu : P.underlying t = some u)(hg : cK u = false)
  (hc : w.cell? ⟨B,o,none⟩ = some v) : (loadVar t ⟨B,o,none⟩).run P w = .ok v w:=by
 have h1 : (isAgg t).run P w = .ok false w:=by
  unfold isAgg
  cases u <;> simp [cK] at hg <;> simp [run_underlying hu]
 unfold loadVar
 simp [h1,hc]
theorem pc{s : Nat}{cs : List AC}{v : AV}(h : eX true s cs = some v){vs : List Value}(hr : All2 (RepC σ φ sto) cs vs) :
  s≤vs.length∧RepV σ φ sto v (.agg (vs.take s).toArray):=by
 simp only [eX,cond_true] at h
 split at h <;> simp at h
 rename_i l hl
 subst h
 obtain ⟨rfl,hn⟩:=zb hl
 exact ⟨by rw [← hr.length]; exact hn,_,rfl,hr.take s⟩
theorem pd{s : Nat}{cs : List AC}{v : AV}(h : eX false s cs = some v){vs : List Value}(hr : All2 (RepC σ φ sto) cs vs) :
  ∃ u,vs[0]? = some u∧RepV σ φ sto v u:=by
 simp only [eX,cond_false] at h
 split at h <;> simp at h
 subst h
 cases vs with
 | nil=>simp [All2] at hr
 | cons u us=>exact ⟨u,rfl,hr.1⟩
theorem xX{T : Tab}(hT : aU P T){t : TypeId}{g : Bool}{s : Nat}(h : iI T t = some (g,s)) :
  ∃ i u,P.info? t = some i∧P.underlying t = some u∧i.size = s∧cK u = g:=by
 unfold iI at h
 split at h <;> simp at h
 rename_i td hl
 obtain ⟨i,u,z,hi,hu,hs,_,_,hk,_⟩:=(hT t td hl).ex
 exact ⟨i,u,hi,hu,hs.trans h.2,(pB hk).trans h.1⟩
theorem jR{T : Tab}(hT : aU P T){t : TypeId}{g : Bool}{s : Nat}(h : iI T t = some (g,s)){cs : List AC}{v : AV}(hv : eX g s cs = some v)
  {B o : Nat} {vs : List Value} (hr : All2 (RepC σ φ sto) cs vs) (hm : i6 w B o vs) :
  ∃ u,(Instr.loadAt t (.pointer (some ⟨B,o,none⟩))).run P w = .ok u w∧RepV σ φ sto v u:=by
 obtain ⟨i,u,hi,hu,rfl,hg⟩:=xX hT h
 cases g with
 | true =>
   obtain ⟨hl,hrv⟩:=pc hv hr
   exact ⟨_,by simp [Instr.loadAt,Instr.sureAddr,ub hi hu hg hm hl],hrv⟩
 | false =>
   obtain ⟨x,hx,hrv⟩:=pd hv hr
   have:=hm 0 x hx
   rw [Nat.add_zero] at this
   exact ⟨_,by simp [Instr.loadAt,Instr.sureAddr,uc hu hg this],hrv⟩
theorem bP{id : Nat}{e : AObj}(h : look sto id = some e) : bf sto id = true:=by simp [bf,h]
theorem Ao{id B cap : Nat}{cs : List AC}(hi : HInv σ φ sto w)(h : look sto id = some (.box cs))(hp : φ id = some (B,cap)) :
  ∃ (vs : List Value) (t : TypeId),w.heap[B]? = some (.cells vs.toArray t (0,0))∧All2 (RepC σ φ sto) cs vs:=by
 obtain ⟨B',c',vs,t,hp',hh,hr,_⟩:=hi.obj _ _ h
 rw [hp] at hp'; cases hp'
 exact ⟨vs,t,hh,hr⟩
theorem wQ{B o : Nat}{vs : List Value}{t : TypeId}{f : Nat×Nat}(h : w.heap[B]? = some (.cells vs.toArray t f)) : i6 w B o (vs.drop o):=by
 intro j v hv
 rw [fF h]
 simpa [List.getElem?_drop] using hv
theorem vu{T : Tab}(hT : aU P T){t : TypeId}{g : Bool}{s : Nat}(h : iI T t = some (g,s)){x v : AV}(hv : kH sto g s x = some v)
  {u : Value} (hr : RepV σ φ sto x u) (hi : HInv σ φ sto w) : ∃ u',(Instr.loadAt t u).run P w = .ok u' w∧RepV σ φ sto v u':=by
 unfold kH at hv
 split at hv
 ·replace hr:=RepC.d_inv hr
  obtain ⟨B,o,vs,rfl,ha,hm⟩:=Ag hr hi
  exact jR hT h hv ha.map_d hm
 ·split at hv <;> first | (simp at hv; done) | skip
  rename_i hl
  cases hr with
  | ref h' hp =>
    rw [hl] at h'; cases h'
    obtain ⟨vs,t',hh,ha⟩:=Ao hi hl hp
    exact jR hT h hv (ha.drop _) (wQ hh)
  | dead hx _=>simp [bx,bP hl] at hx
 ·simp at hv
theorem nY{off : Nat}{x v : AV}(h : mW sto off x = some v){u : Value}(hr : RepV σ φ sto x u) :
  ∃ B o,u = .pointer (some ⟨B,o,none⟩)∧RepV σ φ sto v (.pointer (some ⟨B,o + off,none⟩)):=by
 unfold mW at h
 split at h
 ·simp only [Option.some.injEq] at h; subst h
  cases hr with
  | dead hx _=>simp [bx] at hx
  | d hr =>
    cases hr with
    | ptr vs hb hc hh =>
      rename_i cs B o cells
      refine ⟨B,o,rfl,.d (.ptr (fun j=>vs (off + j)) hb (fun j hj=>?_) (fun j d hd=>?_))⟩
      ·have:=hc (off + j) (by simp at hj; omega)
       rw [← this]; congr 1; omega
      ·exact hh (off + j) d (by simpa [List.getElem?_drop] using hd)
 ·rename_i id o
  cases hk : bf sto id <;> simp only [hk,cond_true,cond_false,reduceCtorEq,Option.some.injEq] at h
  subst h
  cases hr with
  | ref h' hp=>exact ⟨_,_,rfl,.ref h' hp⟩
  | dead hx _=>simp [bx,hk] at hx
 ·rename_i id i o
  cases hk : bf sto id <;> simp only [hk,cond_true,cond_false,reduceCtorEq,Option.some.injEq] at h
  subst h
  cases hr with
  | rref h' hp=>exact ⟨_,_,rfl,by rw [Nat.add_assoc]; exact .rref h' hp⟩
  | dead hx _=>simp [bx,hk] at hx
 ·simp at h
theorem ff{B o n : Nat} : (⟨B,o,none⟩ : Addr).add n = ⟨B,o + n,none⟩:=by
 unfold Addr.add
 by_cases h : n = 0
 ·subst h; rfl
 ·simp [h]
theorem Fd{T : Tab}(hT : aU P T){t : TypeId}{f o s : Nat}{g : Bool}(h : jO T t f = some (o,s,g)) :
  ∃ (fields : Array Field) (fd : Field) (i : TypeInfo) (u : TypeDesc),P.underlying t = some (.struct fields)∧fields[f]? = some fd∧fd.offset = o∧P.info? fd.type = some i∧i.size = s∧0 < s ∧
    P.underlying fd.type = some u∧cK u = g:=by
 unfold jO at h
 split at h
 ·rename_i fs sz b z hl
  obtain ⟨i,u,zv,hi,hu,_,_,_,hk,_⟩:=(hT t _ hl).ex
  obtain ⟨fields,rfl,_,hf⟩:=hk
  rw [fO] at h
  obtain ⟨fd,h1,h2,h3,h4,⟨i',h5⟩,d',h6,h7⟩:=hf f o s g h
  refine ⟨fields,fd,i',d',hu,h1,h2,h5,?_,h4,h6,h7⟩
  rw [← h3]; simp [Program.cellsOf,h5]
 ·simp at h
theorem zL{T : Tab}(hT : aU P T){t : TypeId}{f o s : Nat}{g : Bool}(h : jO T t f = some (o,s,g)){B off : Nat} :
  (Instr.fieldAt t (.pointer (some ⟨B,off,none⟩)) f).run P w = .ok (.pointer (some ⟨B,off + o,none⟩)) w:=by
 obtain ⟨fields,fd,i,u,hu,hf,rfl,hi,rfl,h0,_⟩:=Fd hT h
 have hne : i.size≠0:=by omega
 simp [Instr.fieldAt,run_underlying hu,hf,Instr.sureAddr,fieldPlace,sizeOf,typeInfo,hi,hne,ff]
theorem Dp{T : Tab}(hT : aU P T){t : TypeId}{f o s : Nat}{g : Bool}(h : jO T t f = some (o,s,g)){cs : List AC}{v : AV}(hv : eX g s (cs.drop o) = some v)
  {vs : List Value} (hr : All2 (RepC σ φ sto) cs vs) : ∃ u,(Instr.field t (.agg vs.toArray) f).run P w = .ok u w∧RepV σ φ sto v u:=by
 obtain ⟨fields,fd,i,u,hu,hf,rfl,hi,rfl,h0,hu',rfl⟩:=Fd hT h
 cases hg : cK u with
 | true =>
   rw [hg] at hv
   have h1 : (isAgg fd.type).run P w = .ok true w:=by
    unfold isAgg
    cases u <;> simp [cK] at hg <;> simp [run_underlying hu']
   obtain ⟨hl,hrv⟩:=pc hv (hr.drop fd.offset)
   refine ⟨_,by simp [Instr.field,run_underlying hu,hf,asAgg,part,h1,sizeOf,typeInfo,hi]; rfl,?_⟩
   have e : List.extract vs fd.offset (fd.offset + i.size) = (vs.drop fd.offset).take i.size:=by
    simp [List.extract_eq_take_drop]
   simpa [e] using hrv
 | false =>
   rw [hg] at hv
   have h1 : (isAgg fd.type).run P w = .ok false w:=by
    unfold isAgg
    cases u <;> simp [cK] at hg <;> simp [run_underlying hu']
   obtain ⟨x,hx,hrv⟩:=pd hv (hr.drop fd.offset)
   have hx' : vs[fd.offset]? = some x:=by simpa [List.getElem?_drop] using hx
   exact ⟨x,by simp [Instr.field,run_underlying hu,hf,asAgg,part,h1,hx'],hrv⟩
theorem Fj{ts : List (Bool×List AC)}{i : Nat}{v : AV}(h : Gv ts i = some v){u : Value}(hr : RepV σ φ sto (.tup ts) u) :
  ∃ u',(Instr.extract u i).run P w = .ok u' w∧RepV σ φ sto v u':=by
 obtain ⟨vs,rfl,ha⟩:=hr
 unfold Gv at h
 rw [fO] at h
 split at h <;> simp at h <;> subst h
 ·rename_i cs e
  obtain ⟨b,hb,hr⟩:=ha.get e
  exact ⟨b,by simp [Instr.extract,hb],hr⟩
 ·rename_i c e
  obtain ⟨b,hb,hr⟩:=ha.get e
  exact ⟨b,by simp [Instr.extract,hb],hr.1⟩
end Go.Abs
namespace Go.Abs
open Go
variable {P : Program} {σ : Sig} {φ : Pl} {sto : Sto} {w : World}
theorem yU(off : Nat) : ∀ (us : List Value) (k : Nat) (cells : Array Value),off + k + us.length≤cells.size →
  ((us.zipIdx k).foldl (fun (cs : Array Value) (p : Value×Nat)=>cs.setIfInBounds (off + p.2) p.1) cells).toList =
    cells.toList.take (off + k) ++ us ++ cells.toList.drop (off + k + us.length)
 | [],k,cells,h=>by simp
 | c::r,k,cells,h=>by
   simp only [List.length_cons] at h
   simp only [List.zipIdx_cons,List.foldl_cons]
   rw [yU off r (k + 1) _ (by simp; omega)]
   simp only [Array.toList_setIfInBounds,List.length_cons]
   have e1 : (cells.toList.set (off + k) c).take (off + (k + 1)) = cells.toList.take (off + k) ++ [c]:=by
    have hlt : off + k < cells.toList.length:=by simp; omega
    rw [← Nat.add_assoc,List.take_add_one,List.getElem?_set_self hlt,List.take_set_of_le (Nat.le_refl _)]
    simp
   have e2 : (cells.toList.set (off + k) c).drop (off + (k + 1) + r.length) = cells.toList.drop (off + k + (r.length + 1)):=by
    rw [List.drop_set_of_lt (by omega)]
    congr 1; omega
   rw [e1,e2]
   simp
theorem jk{α : Type} : ∀ {o : Nat} {n l r : List α},cM o n l = some r→r = l.take o ++ n ++ l.drop (o + n.length)∧o + n.length≤l.length
 | 0,[],l,r,h=>by simp [cM] at h; subst h; simp
 | 0,c::n,x::l,r,h=>by
   simp only [cM] at h
   split at h <;> simp at h
   rename_i r' hr
   subst h
   obtain ⟨e,hl⟩:=jk hr
   subst e
   simp [Nat.add_comm] at *
   omega
 | o + 1,n,x::l,r,h=>by
   simp only [cM] at h
   split at h <;> simp at h
   rename_i r' hr
   subst h
   obtain ⟨e,hl⟩:=jk hr
   subst e
   refine ⟨?_,by simp; omega⟩
   have : o + 1 + n.length = (o + n.length) + 1:=by omega
   simp [this]
 | 0,_::_,[],_,h=>by simp [cM] at h
 | _ + 1,_,[],_,h=>by simp [cM] at h
theorem gi{v : AV}{cs : List AC}(h : cellsOf v = some cs){u : Value}(hr : RepV σ φ sto v u) : All2 (RepC σ φ sto) cs u.cells.toList:=by
 cases v with
 | one c =>
   simp [cellsOf] at h; subst h
   have:=RepC.oneCell hr
   cases u <;> first | (simp [Value.oneCell] at this; done) | exact ⟨hr,trivial⟩
 | agg cs' =>
   simp [cellsOf] at h; subst h
   obtain ⟨vs,rfl,ha⟩:=hr
   exact ha
 | tup _=>simp [cellsOf] at h
 | any=>simp [cellsOf] at h
theorem wl(o : Nat) : ∀ (l : List (Value×Nat)) (cells : Array Value),(l.foldl (fun (cs : Array Value) (p : Value×Nat)=>cs.setIfInBounds (o + p.2) p.1) cells).size = cells.size
 | [],_=>rfl
 | p::l,cells=>by rw [List.foldl_cons,wl o l]; simp
theorem pY(place : Nat→Option (Nat×Nat)){acc cs acc' : List AC}{o : Nat}{cells : Array Value}{i : Nat}{u : Value}{rest : List (Nat×Value)}
  (hp : place i = some (o,cs.length)) (hs : cM o cs acc = some acc') (hc : All2 (RepC σ φ sto) cs u.cells.toList) (ha : All2 (RepC σ φ sto) acc cells.toList) :
  ∃ cells' : Array Value,All2 (RepC σ φ sto) acc' cells'.toList∧cells'.size = cells.size∧Instr.fill place cells ((i,u)::rest) = Instr.fill place cells' rest:=by
 obtain ⟨rfl,hl⟩:=jk hs
 have h1:=hc.length
 have h2:=ha.length
 simp only [Array.length_toList] at h1 h2
 refine ⟨u.cells.zipIdx.foldl (fun cs (c,j)=>cs.setIfInBounds (o + j) c) cells,?_,?_,?_⟩
 ·have:=yU o u.cells.toList 0 cells (by simp; omega)
  rw [← Array.foldl_toList,Array.toList_zipIdx]
  simp only [Nat.add_zero] at this
  rw [this]
  have h3:=hc.length
  rw [← h3]
  exact ((ha.take o).append hc).append (ha.drop _)
 ·rw [← Array.foldl_toList]; exact wl o _ _
 ·rw [Instr.fill,hp]
  have : (u.cells.size≠cs.length || decide (o + u.cells.size > cells.size)) = false:=by simp; omega
  simp only [this,Bool.false_eq_true,↓reduceIte]
theorem yV{α β : Type}{g : α→Sem β}{r : α→β} : ∀ (l : List α),(∀ f∈l,(g f).run P w = .ok (r f) w)→(l.mapM g).run P w = .ok (l.map r) w
 | [],_=>by simp
 | f::l,h=>by
   simp only [List.mapM_cons,Sem.run_bind,h f (by simp),Result.andThen_ok,yV l (fun g hg=>h g (by simp [hg])),Sem.run_pure,List.map_cons]
theorem d6{t : TypeId}{i : TypeInfo}{z : Value}(hi : P.info? t = some i)(hz : i.zero = some z) : (zeroValue t).run P w = .ok z w:=by
 simp [zeroValue,typeInfo,hi,hz]
theorem bI{t : TypeId}{i : TypeInfo}(hi : P.info? t = some i) : (sizeOf t).run P w = .ok i.size w:=by
 simp [sizeOf,typeInfo,hi]
theorem tM{T : Tab}(hT : aU P T){c : Ctx}{st : St}{a : Act}(hrel : Rel c st a w σ φ){t : TypeId}(place : Nat→Option (Nat×Nat))
  (hplace : ∀ i o s g,jO T t i = some (o,s,g)→place i = some (o,s)) :
  ∀ (parts : List (Nat×Operand)) (acc cs : List AC) (cells : Array Value),fN T st t acc parts = some cs→All2 (RepC σ φ st.sto) acc cells.toList →
    ∃ cells' : Array Value,Instr.fill place cells (parts.map fun p=>(p.1,a.eval p.2)) = some cells'∧All2 (RepC σ φ st.sto) cs cells'.toList
 | [],acc,cs,cells,h,ha=>by
   simp [fN] at h; subst h
   exact ⟨cells,rfl,ha⟩
 | (i,x)::parts,acc,cs,cells,h,ha=>by
   simp only [fN] at h
   split at h
   ·rename_i o s g v ht hx
    split at h
    ·rename_i cs' hcs
     cases hb : Nat.beq cs'.length s <;> simp only [hb,cond_true,cond_false,reduceCtorEq] at h
     split at h
     ·rename_i acc' hs
      have hl : cs'.length = s:=Nat.eq_of_beq_eq_true hb
      have hr:=aC hrel hx
      obtain ⟨cells',h1,h2,h3⟩:=pY (σ:=σ) (φ:=φ) (sto:=st.sto) place (i:=i) (u:=a.eval x) (rest:=parts.map fun p=>(p.1,a.eval p.2)) (cells:=cells)
       (by rw [hl]; exact hplace _ _ _ _ ht) hs (gi hcs hr) ha
      obtain ⟨cells'',h4,h5⟩:=tM hT hrel place hplace parts acc' cs cells' h h1
      exact ⟨cells'',by simp only [List.map_cons]; rw [h3]; exact h4,h5⟩
     ·simp at h
    ·simp at h
   ·simp at h
theorem rU{σ : Sig}{φ : Pl}{sto : Sto}{z : List D}(h : ∀ x∈z,gr x = true) : All2 (RepC σ φ sto) (z.map .d) (z.map iD):=by
 induction z with
 | nil=>trivial
 | cons d z ih=>exact ⟨.d (l6 (h d (by simp))),ih fun x hx=>h x (by simp [hx])⟩
theorem Dq{T : Tab}(hT : aU P T){c : Ctx}{st : St}{a : Act}(hrel : Rel c st a w σ φ){t : TypeId}{parts : List (Nat×Operand)}{fs : List (Nat×Nat×Bool)}{sz b : Nat}{z : List D}
  {cs : List AC} (ht : look T t = some ⟨.struct fs,sz,b,z⟩) (h : fN T st t (z.map .d) parts = some cs) :
  ∃ u,(Instr.build t (parts.map fun p=>(p.1,a.eval p.2)).toArray).run P w = .ok u w∧RepV σ φ st.sto (.agg cs) u:=by
 obtain ⟨i,u,zv,hi,hu,hs,_,hz,hk,hzc,hzb,_,hza,_⟩:=(hT t _ ht).ex
 obtain ⟨fields,rfl,hsz,hf⟩:=hk
 have hzv:=hza rfl
 simp only at hzv hzc hzb
 obtain ⟨cells',h1,h2⟩:=tM hT hrel (t:=t) (fun i=>(fields.toList.map fun f=>(f.offset,P.cellsOf f.type))[i]?) (by
  intro i o s g hi
  unfold jO at hi
  rw [ht] at hi
  simp only at hi
  rw [fO] at hi
  obtain ⟨fd,h1,h2,h3,_⟩:=hf i o s g hi
  simp [h1,h2,h3]) parts (z.map .d) cs (z.map iD).toArray h (rU hzb)
 refine ⟨.agg cells',?_,cells'.toList,by simp,h2⟩
 unfold Instr.build
 rw [Sem.run_bind,d6 hi hz,Result.andThen_ok,Sem.run_bind,run_underlying hu,Result.andThen_ok]
 show ((fields.mapM (fun f=>do pure (f.offset,← sizeOf f.type) : Field→Sem (Nat×Nat))) >>= _ : Sem Value).run P w = _
 rw [Sem.run_bind,Array.mapM_eq_mapM_toList,Sem.run_map,yV (r:=fun f=>(f.offset,P.cellsOf f.type))]
 ·simp only [Result.andThen_ok,hzc]
  have e : (fun (i : Nat)=>(fields.toList.map fun f=>(f.offset,P.cellsOf f.type)).toArray[i]?) = (fun (i : Nat)=>(fields.toList.map fun f=>(f.offset,P.cellsOf f.type))[i]?):=by
   funext i; simp
  rw [e,h1]
  rfl
 ·intro f hf'
  obtain ⟨j,hj,e⟩:=List.getElem_of_mem hf'
  have hjs : j < fs.length:=by rw [← hsz]; simpa using hj
  obtain ⟨fd,h1,_,_,_,⟨i',h5⟩,_⟩:=hf j (fs[j]).1 (fs[j]).2.1 (fs[j]).2.2 (List.getElem?_eq_getElem hjs)
  have : fields[j]? = some f:=by rw [← e]; simp
  rw [this] at h1; cases h1
  rw [Sem.run_bind,bI h5]
  simp [Program.cellsOf,h5]
end Go.Abs
namespace Go.Abs
open Go
variable {P : Program} {σ : Sig} {φ : Pl} {sto : Sto} {w : World}
theorem Hp{op : UnOp}{v : AV}{d : D}(h : unF op v = some d){u : Value}(hr : RepV σ φ sto v u) :
  ∃ u',(Op.unary op u).run P w = .ok u' w∧Rep σ d u':=by
 unfold unF at h
 split at h
 ·replace hr:=RepC.d_inv hr; cases hr
  split at h <;> simp only [Option.some.injEq,reduceCtorEq] at h; subst h
  exact ⟨_,rfl,.bool⟩
 ·replace hr:=RepC.d_inv hr; cases hr
  split at h <;> simp only [Option.some.injEq,reduceCtorEq] at h <;> subst h
  ·exact ⟨_,rfl,.int (jS _ _)⟩
  ·exact ⟨_,rfl,.int (jS _ _)⟩
 ·simp at h
theorem pi{n : Nat}(h : n < 2 ^ 48) : inR .i64 (n : Int):=by
 unfold inR IntKind.min IntKind.max
 simp [IntKind.signed,IntKind.bits]; omega
theorem Af{id k b : Nat}{xs : List (List D)}(hi : HInv σ φ sto w)(h : look sto id = some (.row k b xs)) : xs.length < 2 ^ 48:=by
 rcases hi.obj _ _ h with ⟨rfl,_⟩ | ⟨_,_,_,_,_,_,_,_,_,h48,_⟩
 ·simp
 ·exact h48
theorem xf : inR .i64 0:=by unfold inR IntKind.min IntKind.max; simp [IntKind.signed,IntKind.bits]
theorem xg{k : TK}{v : AV}{n : Int}(h : ug sto k v = some n){u : Value}(hr : RepV σ φ sto v u)(hi : HInv σ φ sto w){t : TypeId}{d : TypeDesc}(hu : P.underlying t = some d)(hk : dR P k d)(ty : TypeId) :
  inR .i64 n∧(Builtin.len_ #[t] ty #[u]).run P w = .ok (.int .i64 n) w:=by
 unfold ug at h
 split at h
 ·simp only [Option.some.injEq] at h; subst h; subst hk
  replace hr:=RepC.d_inv hr; cases hr with
  | sl vs hc h48=>exact ⟨pi h48,by simp [Builtin.len_,run_underlying hu,goInt]⟩
 ·simp only [Option.some.injEq] at h; subst h; subst hk
  replace hr:=RepC.d_inv hr; cases hr; exact ⟨xf,by simp [Builtin.len_,run_underlying hu,goInt]⟩
 ·simp only [Option.some.injEq] at h; subst h; subst hk
  replace hr:=RepC.d_inv hr; cases hr with
  | str h48=>exact ⟨pi h48,by simp [Builtin.len_,run_underlying hu,goInt]; rfl⟩
 ·rename_i id n'
  cases hkk : bf sto id <;> simp only [hkk,cond_true,cond_false,reduceCtorEq,Option.some.injEq] at h
  subst h; subst hk
  cases hr with
  | ownNil h hp=>exact ⟨xf,by simp [Builtin.len_,run_underlying hu,goInt]⟩
  | own h hn hp=>exact ⟨pi (by have:=Af hi h; omega),by simp [Builtin.len_,run_underlying hu,goInt]⟩
  | dead hx _=>simp [bx,hkk] at hx
 ·rename_i id lo n'
  cases hkk : bf sto id <;> simp only [hkk,cond_true,cond_false,reduceCtorEq,Option.some.injEq] at h
  subst h; subst hk
  cases hr with
  | sub h hn hc hA=>exact ⟨pi (by have:=Af hi h; omega),by simp [Builtin.len_,run_underlying hu,goInt]⟩
  | dead hx _=>simp [bx,hkk] at hx
 ·simp at h
theorem xh{T : Tab}(hT : aU P T){b : Builtin}{ts : List TypeId}{vs : List (Option AV)}{v : AV}(h : lN T sto b ts vs = some v){us : List Value}
  (hr : ∀ (j : Nat) (x : AV),vs[j]? = some (some x)→∃ u,us[j]? = some u∧RepV σ φ sto x u) (hl : us.length = vs.length) (hi : HInv σ φ sto w) :
  ∃ u,(∀ (ty : TypeId) (cs : Array Bool),(builtin b ts.toArray ty cs us.toArray).run P w = .ok (.value u) w)∧RepV σ φ sto v u:=by
 unfold lN at h
 split at h
 ·rename_i t x
  split at h
  ·rename_i td ht
   split at h
   ·rename_i n hn
    simp only [Option.some.injEq] at h; subst h
    obtain ⟨u,hu,hru⟩:=hr 0 x rfl
    obtain ⟨_,d,_,_,hud,_,_,_,hk,_⟩:=(hT t td ht).ex
    match us,hl,hu with
    | [u'],_,hu =>
      simp at hu; subst hu
      have h1:=(xg (P:=P) (w:=w) hn hru hi hud hk 0).1
      have h2:=fun ty=>(xg (P:=P) (w:=w) hn hru hi hud hk ty).2
      exact ⟨_,fun ty cs=>by simp [builtin,h2],.d (.int h1)⟩
   ·simp at h
  ·simp at h
 ·rename_i k x k' y
  cases hk : kEq k k' <;> simp only [hk,cond_true,cond_false,reduceCtorEq,Option.some.injEq] at h
  obtain rfl:=fp hk; subst h
  obtain ⟨u,hu,hru⟩:=hr 0 _ rfl
  obtain ⟨u',hu',hru'⟩:=hr 1 _ rfl
  match us,hl,hu,hu' with
  | [a,b],_,hu,hu' =>
    simp at hu hu'; subst hu hu'
    replace hru:=RepC.d_inv hru; cases hru with | int h1=>replace hru':=RepC.d_inv hru'; cases hru' with | int h2 =>
     refine ⟨.int k (min x y),?_,.d (.int ?_)⟩
     ·intro ty cs; simp [builtin,Builtin.min_,Builtin.min2]
      omega
     ·rcases Int.le_total x y with h | h
      ·rw [Int.min_eq_left h]; exact h1
      ·rw [Int.min_eq_right h]; exact h2
 ·rename_i k x k' y
  cases hk : kEq k k' <;> simp only [hk,cond_true,cond_false,reduceCtorEq,Option.some.injEq] at h
  obtain rfl:=fp hk; subst h
  obtain ⟨u,hu,hru⟩:=hr 0 _ rfl
  obtain ⟨u',hu',hru'⟩:=hr 1 _ rfl
  match us,hl,hu,hu' with
  | [a,b],_,hu,hu' =>
    simp at hu hu'; subst hu hu'
    replace hru:=RepC.d_inv hru; cases hru with | int h1=>replace hru':=RepC.d_inv hru'; cases hru' with | int h2 =>
     refine ⟨.int k (max x y),?_,.d (.int ?_)⟩
     ·intro ty cs; simp [builtin,Builtin.max_,Builtin.max2]
      omega
     ·rcases Int.le_total x y with h | h
      ·rw [Int.max_eq_right h]; exact h2
      ·rw [Int.max_eq_left h]; exact h1
 ·simp at h
theorem Do{T : Tab}(hT : aU P T){src dst : TypeId}{v v' : AV}(h : wR T src dst v = some v'){u : Value}(hr : RepV σ φ sto v u) :
  ∃ u',(convert src dst u).run P w = .ok u' w∧RepV σ φ sto v' u':=by
 unfold wR at h
 split at h
 ·split at h <;> simp only [Option.some.injEq,reduceCtorEq] at h
  rename_i td k b z zz h1 h2
  subst h
  obtain ⟨_,d1,_,_,hu1,_⟩:=(hT src td h1).ex
  obtain ⟨_,d2,_,_,hu2,_,_,_,hk,_⟩:=(hT dst _ h2).ex
  simp only [dR] at hk; subst hk
  replace hr:=RepC.d_inv hr; cases hr
  refine ⟨_,?_,.d (.int (jS _ _))⟩
  cases d1 <;> simp [convert,run_underlying hu1,run_underlying hu2,Conv.intToInt]
 ·split at h <;> simp only [Option.some.injEq,reduceCtorEq] at h
  rename_i td b z zz h1 h2
  subst h
  obtain ⟨_,d1,_,_,hu1,_⟩:=(hT src td h1).ex
  obtain ⟨_,d2,_,_,hu2,_,_,_,hk,_⟩:=(hT dst _ h2).ex
  simp only [dR] at hk; subst hk
  replace hr:=RepC.d_inv hr; cases hr with
  | str h48 =>
    refine ⟨_,?_,.d (.str h48)⟩
    cases d1 <;> simp [convert,run_underlying hu1,run_underlying hu2]
 ·simp at h
theorem Fh{T : Tab}(hT : aU P T){c : Ctx}{st : St}{a : Act}(hrel : Rel c st a w σ φ){o : Oper}{v : AV}(h : bQ T st o.op = some v) :
  ∃ u,(execOp a.eval o).run P w = .ok (.value u) w∧RepV σ φ st.sto v u:=by
 unfold bQ at h
 unfold execOp
 split at h <;> first | (simp at h; done) | (rename_i ho; rw [ho])
 ·exact ⟨_,rfl,aC hrel h⟩
 ·exact ⟨_,rfl,aC hrel h⟩
 ·rename_i op t x y ty
  split at h <;> simp only [Option.some.injEq,reduceCtorEq] at h
  rename_i d hd
  subst h
  cases hx : ev st x with
  | none=>rw [hx] at hd; simp [nX] at hd
  | some vx=>cases hy : ev st y with
    | none=>rw [hx,hy] at hd; cases vx <;> simp [nX] at hd
    | some vy =>
      rw [hx,hy] at hd
      obtain ⟨u,hu,hr⟩:=Fi (w:=w) hT hd (aC hrel hx) (aC hrel hy) x y
      refine ⟨u,?_,.d hr⟩
      simp only [Sem.run_bind] at hu ⊢
      rw [hu]; rfl
 ·rename_i op t x
  split at h <;> (try (simp at h; done))
  rename_i vx hx
  split at h <;> simp only [Option.some.injEq,reduceCtorEq] at h
  rename_i d hd
  subst h
  obtain ⟨u,hu,hr⟩:=Hp (P:=P) (w:=w) hd (aC hrel hx)
  exact ⟨u,by simp [hu],.d hr⟩
 ·rename_i s x f
  split at h <;> (try (simp at h; done))
  rename_i o' s' g vx ht hx
  obtain ⟨B,off,hu,hr⟩:=nY h (aC hrel hx)
  exact ⟨_,by simp [hu,zL hT ht],hr⟩
 ·rename_i s x f
  split at h <;> (try (simp at h; done))
  rename_i o' s' g cs ht hx
  obtain ⟨vs,hu,hr⟩:=aC hrel hx
  obtain ⟨u,hu',hr'⟩:=Dp (P:=P) (w:=w) hT ht h hr
  exact ⟨u,by simp [hu,hu'],hr'⟩
 ·rename_i t x
  split at h <;> (try (simp at h; done))
  rename_i g s vx ht hx
  obtain ⟨u,hu,hr⟩:=vu hT ht h (aC hrel hx) hrel.inv
  exact ⟨u,by simp [hu],hr⟩
 ·rename_i x i
  split at h <;> (try (simp at h; done))
  rename_i ts hx
  obtain ⟨u,hu,hr⟩:=Fj (P:=P) (w:=w) h (aC hrel hx)
  exact ⟨u,by simp [hu],hr⟩
 ·rename_i b args ats
  obtain ⟨u,hu,hr⟩:=xh (P:=P) (w:=w) hT h (us:=args.toList.map a.eval) (fun j x hj=>by
   simp only [List.getElem?_map,Option.map_eq_some_iff] at hj
   obtain ⟨y,hy,he⟩:=hj
   exact ⟨a.eval y,by simp [hy],aC hrel he⟩) (by simp) hrel.inv
  refine ⟨u,?_,hr⟩
  simp only [resolve,invoke,Sem.run_bind,Sem.run_pure,Result.andThen_ok]
  have e : (args.toList.map a.eval).toArray = args.map a.eval:=by rw [← Array.toList_map,Array.toArray_toList]
  rw [e] at hu
  simp [hu]
 ·rename_i src dst x
  split at h <;> (try (simp at h; done))
  rename_i vx hx
  obtain ⟨u,hu,hr⟩:=Do (P:=P) (w:=w) hT h (aC hrel hx)
  exact ⟨u,by simp [hu],hr⟩
 ·rename_i t parts
  split at h <;> (try (simp at h; done))
  rename_i fs sz b z ht
  split at h <;> simp only [Option.some.injEq,reduceCtorEq] at h
  rename_i cs hcs
  subst h
  obtain ⟨u,hu,hr⟩:=Dq (P:=P) hT hrel ht hcs
  refine ⟨u,?_,hr⟩
  have e : (parts.map fun (x : Nat×Operand)=>(x.1,a.eval x.2)) = (parts.toList.map fun p=>(p.1,a.eval p.2)).toArray:=by
   rw [← Array.toList_map]
  simp only [Sem.run_bind,Sem.run_pure]
  rw [e,hu]; rfl
 ·rename_i x
  split at h
  ·rename_i cs hx
   simp only [Option.some.injEq] at h; subst h
   have hr:=aC hrel hx
   obtain ⟨B,o',vs,hu,_⟩:=Ag (RepC.d_inv hr) hrel.inv
   exact ⟨_,by simp [hu],hu ▸ hr⟩
  ·rename_i f cs hx
   simp only [Option.some.injEq] at h; subst h
   have hr:=aC hrel hx
   have hr':=RepC.d_inv hr
   generalize hu : a.eval x = u at hr'
   cases hr' with
   | fn vs hl hh=>exact ⟨_,by simp [hu],.d (.fn vs hl hh)⟩
  ·rename_i i off hx
   cases hk : bf st.sto i <;> simp only [hk,cond_true,cond_false,reduceCtorEq,Option.some.injEq] at h
   subst h
   have hr:=aC hrel hx
   obtain ⟨B,o',hu,_⟩:=nY (sto:=st.sto) (off:=0) (v:=.one (.ref i (off + 0))) (by simp [mW,hk]) hr
   exact ⟨_,by simp [hu],hu ▸ hr⟩
  ·rename_i i j off hx
   cases hk : bf st.sto i <;> simp only [hk,cond_true,cond_false,reduceCtorEq,Option.some.injEq] at h
   subst h
   have hr:=aC hrel hx
   obtain ⟨B,o',hu,_⟩:=nY (sto:=st.sto) (off:=0) (v:=.one (.rref i j (off + 0))) (by simp [mW,hk]) hr
   exact ⟨_,by simp [hu],hu ▸ hr⟩
  ·simp at h
end Go.Abs
