import Derived.ProofKit
import Derived.Orders
import Derived.Wp
import Derived.OrdersIn
import Derived.RangeFuncIn
import Derived.Tactics2
import Derived.TacticsIn
import Derived.Lib.Strings
import Derived.RangeFuncLeaves
set_option linter.unusedVariables false
set_option linter.unusedSimpArgs false
namespace Go.Abs
open Go
inductive D where
  | int (k : IntKind) (n : Int)
  | bool (b : Bool)
  | str (s : List UInt8)
  | nil
  | sl (k b : Nat) (xs : List (List D))
  | ptr (cs : List D)
  | fn (f : FuncId) (caps : List D)
  | raw (v : Value)
  deriving Inhabited
abbrev Sig := Nat → Option (Array Value)
def inR (k : IntKind) (n : Int) : Prop := k.min ≤ n ∧ n ≤ k.max
inductive Rep (σ : Sig) : D → Value → Prop
  | int {k : IntKind} {n : Int} (h : inR k n) : Rep σ (.int k n) (.int k n)
  | bool {b : Bool} : Rep σ (.bool b) (.bool b)
  | str {s : List UInt8} (h : s.length < 2 ^ 48) : Rep σ (.str s) (.string ⟨s.toArray⟩)
  | nil : Rep σ .nil (.slice none 0 0)
  | sl {k b : Nat} {xs : List (List D)} {A : Option Addr} {cap : Nat} (vs : Nat → Nat → Value)
      (hc : xs.length ≤ cap) (h48 : xs.length < 2 ^ 48) (hb : xs.length * b ≤ 2 ^ 47) (hk : ∀ x ∈ xs, x.length = k)
      (hA : 0 < xs.length → ∃ (B o : Nat) (cells : Array Value), A = some ⟨B, o, none⟩ ∧ σ B = some cells ∧
        ∀ i j, i < xs.length → j < k → cells[o + i * k + j]? = some (vs i j))
      (h : ∀ (i j : Nat) (x : List D) (d : D), xs[i]? = some x → x[j]? = some d → Rep σ d (vs i j)) : Rep σ (.sl k b xs) (.slice A xs.length cap)
  | ptr {cs : List D} {B o : Nat} {cells : Array Value} (vs : Nat → Value) (hb : σ B = some cells)
      (hc : ∀ j, j < cs.length → cells[o + j]? = some (vs j))
      (h : ∀ (j : Nat) (d : D), cs[j]? = some d → Rep σ d (vs j)) : Rep σ (.ptr cs) (.pointer (some ⟨B, o, none⟩))
  | fn {f : FuncId} {caps : List D} (vs : List Value) (hl : vs.length = caps.length)
      (h : ∀ (j : Nat) (d : D) (v : Value), caps[j]? = some d → vs[j]? = some v → Rep σ d v) : Rep σ (.fn f caps) (.func (.func f) #[] vs.toArray)
  | raw {v : Value} (h : v.oneCell = true) : Rep σ (.raw v) v
def Sig.le (σ τ : Sig) : Prop := ∀ b cs, σ b = some cs → τ b = some cs
theorem Sig.le_refl (σ : Sig) : σ.le σ := fun _ _ h => h
theorem Sig.le_trans {σ τ υ : Sig} (h : σ.le τ) (h' : τ.le υ) : σ.le υ := fun b cs hb => h' b cs (h b cs hb)
theorem Rep.mono {σ τ : Sig} (hl : σ.le τ) {d : D} {v : Value} (h : Rep σ d v) : Rep τ d v := by
  induction h with
  | int h => exact .int h
  | bool => exact .bool
  | str h => exact .str h
  | nil => exact .nil
  | sl vs hc h48 hb hk hA _ ih =>
    refine .sl vs hc h48 hb hk (fun h0 => ?_) ih
    obtain ⟨B, o, cells, e, hb, hc⟩ := hA h0
    exact ⟨B, o, cells, e, hl _ _ hb, hc⟩
  | ptr vs hb hc _ ih => exact .ptr vs (hl _ _ hb) hc ih
  | fn vs hl _ ih => exact .fn vs hl ih
  | raw h => exact .raw h
theorem Rep.oneCell {σ : Sig} {d : D} {v : Value} (h : Rep σ d v) : v.oneCell = true := by
  cases h <;> first | rfl | assumption
inductive AC where
  | d (x : D)
  | own (id n : Nat)
  | sub (id lo n : Nat)
  | ref (id off : Nat)
  | rref (id i off : Nat)
  | yl (id : Nat)
  | mapr (id : Nat)
  | bsl (id off n : Nat)
  | junk
  deriving Inhabited
inductive AV where
  | one (c : AC)
  | agg (cs : List AC)
  | tup (vs : List (Bool × List AC))
  | any
  deriving Inhabited
structure LI where
  n : Nat
  params : Array Nat
  assign : Code
  body : Code
inductive AObj where
  | box (cs : List AC)
  | row (k b : Nat) (xs : List (List D))
  | map (kg vg : Bool) (es : List (List D × List D))
  | loop (li : LI) (fr : List (Nat × AV)) (s : LoopState) (p : Option Code)
  deriving Inhabited
abbrev Sto := List (Nat × AObj)
structure St where
  fr : List (Nat × AV)
  sto : Sto
def look {α : Type} : List (Nat × α) → Nat → Option α
  | [], _ => none
  | (s, v) :: r, t => bif Nat.beq s t then some v else look r t
def All2 {α β : Type} (R : α → β → Prop) : List α → List β → Prop
  | [], [] => True
  | a :: as, b :: bs => R a b ∧ All2 R as bs
  | _, _ => False
theorem All2.mono {α β : Type} {R S : α → β → Prop} (h : ∀ a b, R a b → S a b) : ∀ {as : List α} {bs : List β}, All2 R as bs → All2 S as bs
  | [], [], _ => trivial
  | _ :: _, _ :: _, hh => ⟨h _ _ hh.1, All2.mono h hh.2⟩
  | [], _ :: _, hh => hh.elim
  | _ :: _, [], hh => hh.elim
theorem All2.length {α β : Type} {R : α → β → Prop} : ∀ {as : List α} {bs : List β}, All2 R as bs → as.length = bs.length
  | [], [], _ => rfl
  | _ :: _, _ :: _, hh => by simp [All2.length hh.2]
  | [], _ :: _, hh => hh.elim
  | _ :: _, [], hh => hh.elim
theorem All2.get {α β : Type} {R : α → β → Prop} : ∀ {as : List α} {bs : List β}, All2 R as bs → ∀ {j : Nat} {a : α}, as[j]? = some a → ∃ b, bs[j]? = some b ∧ R a b
  | [], [], _, _, _, h => by simp at h
  | x :: _, y :: _, hh, 0, a, h => ⟨y, rfl, by simp at h; subst h; exact hh.1⟩
  | _ :: _, _ :: _, hh, j + 1, a, h => by
    obtain ⟨b, hb, hr⟩ := All2.get hh.2 (j := j) (a := a) (by simpa using h)
    exact ⟨b, by simpa using hb, hr⟩
  | [], _ :: _, hh, _, _, _ => hh.elim
  | _ :: _, [], hh, _, _, _ => hh.elim
theorem All2.append {α β : Type} {R : α → β → Prop} : ∀ {as : List α} {bs : List β} {as' : List α} {bs' : List β}, All2 R as bs → All2 R as' bs' → All2 R (as ++ as') (bs ++ bs')
  | [], [], _, _, _, h => h
  | _ :: _, _ :: _, _, _, hh, h => ⟨hh.1, All2.append hh.2 h⟩
  | [], _ :: _, _, _, hh, _ => hh.elim
  | _ :: _, [], _, _, hh, _ => hh.elim
theorem All2.drop {α β : Type} {R : α → β → Prop} : ∀ (n : Nat) {as : List α} {bs : List β}, All2 R as bs → All2 R (as.drop n) (bs.drop n)
  | 0, _, _, h => h
  | _ + 1, [], [], _ => trivial
  | n + 1, _ :: _, _ :: _, hh => All2.drop n hh.2
  | _ + 1, [], _ :: _, hh => hh.elim
  | _ + 1, _ :: _, [], hh => hh.elim
theorem All2.take {α β : Type} {R : α → β → Prop} : ∀ (n : Nat) {as : List α} {bs : List β}, All2 R as bs → All2 R (as.take n) (bs.take n)
  | 0, _, _, _ => trivial
  | _ + 1, [], [], _ => trivial
  | n + 1, _ :: _, _ :: _, hh => ⟨hh.1, All2.take n hh.2⟩
  | _ + 1, [], _ :: _, hh => hh.elim
  | _ + 1, _ :: _, [], hh => hh.elim
theorem All2.of_get {α β : Type} {R : α → β → Prop} : ∀ {as : List α} {bs : List β}, as.length = bs.length → (∀ (j : Nat) (a : α) (b : β), as[j]? = some a → bs[j]? = some b → R a b) → All2 R as bs
  | [], [], _, _ => trivial
  | a :: as, b :: bs, hl, h => ⟨h 0 a b rfl rfl, All2.of_get (by simpa using hl) fun j a b ha hb => h (j + 1) a b (by simpa using ha) (by simpa using hb)⟩
  | [], _ :: _, hl, _ => by simp at hl
  | _ :: _, [], hl, _ => by simp at hl
theorem All2.set {α β : Type} {R : α → β → Prop} : ∀ (j : Nat) {as : List α} {bs : List β} {a : α} {b : β}, All2 R as bs → R a b → All2 R (as.set j a) (bs.set j b)
  | _, [], [], _, _, _, _ => trivial
  | 0, _ :: _, _ :: _, _, _, hh, h => ⟨h, hh.2⟩
  | n + 1, _ :: _, _ :: _, _, _, hh, h => ⟨hh.1, All2.set n hh.2 h⟩
  | _, [], _ :: _, _, _, hh, _ => hh.elim
  | _, _ :: _, [], _, _, hh, _ => hh.elim
def hasK (sto : Sto) (id : Nat) : Bool := match look sto id with | some _ => true | none => false
def acIn (sto : Sto) : AC → Bool
  | .own i _ | .sub i _ _ | .ref i _ | .rref i _ _ | .yl i | .mapr i | .bsl i _ _ => hasK sto i
  | _ => true
abbrev Pl := Nat → Option (Nat × Nat)
inductive RepC (σ : Sig) (φ : Pl) (sto : Sto) : AC → Value → Prop
  | d {x : D} {v : Value} (h : Rep σ x v) : RepC σ φ sto (.d x) v
  | ownNil {id k b : Nat} {xs : List (List D)} (h : look sto id = some (.row k b xs)) (hp : φ id = none) : RepC σ φ sto (.own id 0) (.slice none 0 0)
  | own {id n k b B cap : Nat} {xs : List (List D)} (h : look sto id = some (.row k b xs)) (hn : n ≤ xs.length) (hp : φ id = some (B, cap)) :
      RepC σ φ sto (.own id n) (.slice (some ⟨B, 0, none⟩) n cap)
  | sub {id lo n k b c : Nat} {xs : List (List D)} {A : Option Addr} (h : look sto id = some (.row k b xs)) (hn : lo + n ≤ xs.length) (hc : n ≤ c)
      (hA : 0 < n → ∃ B cap, φ id = some (B, cap) ∧ A = some ⟨B, lo * k, none⟩) : RepC σ φ sto (.sub id lo n) (.slice A n c)
  | ref {id off B cap : Nat} {cs : List AC} (h : look sto id = some (.box cs)) (hp : φ id = some (B, cap)) :
      RepC σ φ sto (.ref id off) (.pointer (some ⟨B, off, none⟩))
  | rref {id i off k b B cap : Nat} {xs : List (List D)} (h : look sto id = some (.row k b xs)) (hp : φ id = some (B, cap)) :
      RepC σ φ sto (.rref id i off) (.pointer (some ⟨B, i * k + off, none⟩))
  | yl {id B cap : Nat} {li : LI} {fr : List (Nat × AV)} {s : LoopState} {p : Option Code} (h : look sto id = some (.loop li fr s p)) (hp : φ id = some (B, cap)) :
      RepC σ φ sto (.yl id) (.func (.yield B) #[] #[])
  | mapr {id B cap : Nat} {kg vg : Bool} {es : List (List D × List D)} (h : look sto id = some (.map kg vg es)) (hp : φ id = some (B, cap)) :
      RepC σ φ sto (.mapr id) (.map (some B))
  | bsl {id off n B cap : Nat} {cs : List AC} (h : look sto id = some (.box cs)) (hp : φ id = some (B, cap)) :
      RepC σ φ sto (.bsl id off n) (.slice (some ⟨B, off, none⟩) n n)
  | junk {v : Value} (h : v.oneCell = true) : RepC σ φ sto .junk v
  | dead {x : AC} {v : Value} (hx : acIn sto x = false) (h : v.oneCell = true) : RepC σ φ sto x v
theorem RepC.d_inv {σ : Sig} {φ : Pl} {sto : Sto} {x : D} {v : Value} (h : RepC σ φ sto (.d x) v) : Rep σ x v := by
  cases h with
  | d h => exact h
  | dead hx _ => simp [acIn] at hx
theorem RepC.oneCell {σ : Sig} {φ : Pl} {sto : Sto} {c : AC} {v : Value} (h : RepC σ φ sto c v) : v.oneCell = true := by
  cases h <;> first | rfl | assumption | (rename_i h; exact h.oneCell)
def RepT (σ : Sig) (φ : Pl) (sto : Sto) (t : Bool × List AC) (v : Value) : Prop :=
  match t with
  | (true, cs) => ∃ vs : List Value, v = .agg vs.toArray ∧ All2 (RepC σ φ sto) cs vs
  | (false, cs) => All2 (RepC σ φ sto) cs [v]
def RepV (σ : Sig) (φ : Pl) (sto : Sto) : AV → Value → Prop
  | .one c, v => RepC σ φ sto c v
  | .agg cs, v => ∃ vs : List Value, v = .agg vs.toArray ∧ All2 (RepC σ φ sto) cs vs
  | .tup ts, v => ∃ vs : List Value, v = .tuple vs.toArray ∧ All2 (RepT σ φ sto) ts vs
  | .any, _ => True
def RepD (σ : Sig) (g : Bool) (ds : List D) (v : Value) : Prop :=
  match g with
  | true => ∃ vs : List Value, v = .agg vs.toArray ∧ All2 (Rep σ) ds vs
  | false => All2 (Rep σ) ds [v]
def RepE (σ : Sig) (kg vg : Bool) : Nat → List (List D × List D) → List MapEntry → Prop
  | _, [], [] => True
  | i, p :: ps, e :: es => RepD σ kg p.1 e.key ∧ RepD σ vg p.2 e.val ∧ e.born = i ∧ RepE σ kg vg (i + 1) ps es
  | _, _, _ => False
def ObjRep (σ : Sig) (φ : Pl) (sto : Sto) (w : World) (id : Nat) (e : AObj) : Prop :=
  match e with
  | .box cs => ∃ (B c : Nat) (vs : List Value) (t : TypeId), φ id = some (B, c) ∧ w.heap[B]? = some (.cells vs.toArray t (0, 0)) ∧ All2 (RepC σ φ sto) cs vs ∧
      σ B = none
  | .row k b xs => (xs = [] ∧ φ id = none) ∨ ∃ (B cap : Nat) (arr : Array Value) (t : TypeId) (vs : Nat → Nat → Value),
      φ id = some (B, cap) ∧ w.heap[B]? = some (.cells arr t (0, 0)) ∧ arr.size = cap * k ∧ xs.length ≤ cap ∧ xs.length < 2 ^ 48 ∧ xs.length * b ≤ 2 ^ 47 ∧ (∀ x ∈ xs, x.length = k) ∧
      (∀ i j, i < xs.length → j < k → arr[i * k + j]? = some (vs i j)) ∧ (∀ (i j : Nat) (x : List D) (d : D), xs[i]? = some x → x[j]? = some d → Rep σ d (vs i j)) ∧
      σ B = none
  | .map kg vg es => ∃ (B c : Nat) (ents : List MapEntry), φ id = some (B, c) ∧ w.heap[B]? = some (.map ents.toArray es.length) ∧ RepE σ kg vg 0 es ents ∧ σ B = none
  | .loop li fr s p => ∃ (B c : Nat) (r : Loop), φ id = some (B, c) ∧ w.heap[B]? = some (.loop r) ∧ (r.state = s ∧ r.pending = p ∧ r.params = li.params ∧ r.assign = li.assign ∧ r.body = li.body ∧ r.tmps.size = li.n) ∧
      (∀ s v, look fr s = some v → ∃ u, r.tmps[s]? = some u ∧ RepV σ φ sto v u) ∧ σ B = none
structure HInv (σ : Sig) (φ : Pl) (sto : Sto) (w : World) : Prop where
  sig : ∀ b cs, σ b = some cs → ∃ t f, w.heap[b]? = some (.cells cs t f)
  obj : ∀ id e, look sto id = some e → ObjRep σ φ sto w id e
  inj : ∀ id id' e e' p p', look sto id = some e → look sto id' = some e' → id ≠ id' → φ id = some p → φ id' = some p' → p.1 ≠ p'.1
structure Ctx where
  w0 : World
  σ0 : Sig
  φ0 : Pl
  M : Nat → Prop
  n : Nat
  rd : Option Nat
  mks : List Deferred
structure Fra (c : Ctx) (w : World) : Prop where
  os : w.os = c.w0.os
  tape : w.tape = c.w0.tape
  output : w.output = c.w0.output
  size : c.w0.heap.size ≤ w.heap.size
  drawn : c.w0.drawn ≤ w.drawn
  block : ∀ b, b < c.w0.heap.size → ¬ c.M b → w.heap[b]? = c.w0.heap[b]?
def Mine (c : Ctx) (φ : Pl) (sto : Sto) : Prop :=
  ∀ id e p, look sto id = some e → φ id = some p → c.w0.heap.size ≤ p.1 ∨ c.M p.1
abbrev Pin (id : Nat) : Prop := 1000000 ≤ id ∧ id < 2000000
structure Rel (c : Ctx) (st : St) (a : Act) (w : World) (σ : Sig) (φ : Pl) : Prop where
  le : c.σ0.le σ
  fresh : ∀ b, σ b ≠ none → c.σ0 b ≠ none ∨ c.w0.heap.size ≤ b ∨ c.M b
  inv : HInv σ φ st.sto w
  mine : Mine c φ st.sto
  slot : ∀ s v, look st.fr s = some v → ∃ u, a.tmps[s]? = some u ∧ RepV σ φ st.sto v u
  defers : a.defers = c.mks
  size : a.tmps.size = c.n
  fra : Fra c w
  pin : ∀ id, Pin id → φ id = c.φ0 id
end Go.Abs
namespace Go.Abs
open Go
inductive TK where
  | int (k : IntKind) | bool | str | slice (e : Nat) | struct (fs : List (Nat × Nat × Bool)) | array (n e : Nat) | ptr | map (k e : Nat) | func | other
structure TD where
  kind : TK
  size : Nat
  bytes : Nat
  zero : List D
abbrev Tab := List (Nat × TD)
def TK.isAgg : TK → Bool
  | .struct _ | .array _ _ => true
  | _ => false
def litV : D → Value
  | .int k n => .int k n
  | .bool b => .bool b
  | .str s => .string ⟨s.toArray⟩
  | .nil => .slice none 0 0
  | .raw v => v
  | _ => .nilFunc
def litB : D → Bool
  | .int k n => decide (k.min ≤ n) && decide (n ≤ k.max)
  | .bool _ | .nil => true
  | .str s => decide (s.length < 2 ^ 48)
  | .raw v => v.oneCell
  | _ => false
theorem litB_rep {σ : Sig} {d : D} (h : litB d = true) : Rep σ d (litV d) := by
  cases d with
  | int k n => simp only [litB, Bool.and_eq_true, decide_eq_true_eq] at h; exact .int ⟨h.1, h.2⟩
  | bool b => exact .bool
  | str s => simp only [litB, decide_eq_true_eq] at h; exact .str h
  | nil => exact .nil
  | raw v => exact .raw h
  | sl => simp [litB] at h
  | ptr => simp [litB] at h
  | fn => simp [litB] at h
def descAgg : TypeDesc → Bool
  | .struct _ | .array _ _ => true
  | _ => false
def kindOk (P : Program) : TK → TypeDesc → Prop
  | .int k, d => d = .int k
  | .bool, d => d = .bool
  | .str, d => d = .string
  | .slice e, d => d = .slice e
  | .struct fs, d => ∃ fields : Array Field, d = .struct fields ∧ fields.size = fs.length ∧
      ∀ (j : Nat) (o s : Nat) (g : Bool), fs[j]? = some (o, s, g) → ∃ f, fields[j]? = some f ∧ f.offset = o ∧ P.cellsOf f.type = s ∧ 0 < s ∧ (∃ i, P.info? f.type = some i) ∧
        (∃ d', P.underlying f.type = some d' ∧ descAgg d' = g)
  | .array n e, d => d = .array n e
  | .ptr, d => ∃ e, d = .pointer e
  | .map k e, d => d = .map k e
  | .func, d => ∃ a b c, d = .func a b c
  | .other, d => descAgg d = false
structure TDOk (P : Program) (t : TypeId) (d : TD) : Prop where
  ex : ∃ (i : TypeInfo) (u : TypeDesc) (z : Value), P.info? t = some i ∧ P.underlying t = some u ∧ i.size = d.size ∧ i.bytes = d.bytes ∧ i.zero = some z ∧
    kindOk P d.kind u ∧ z.cells = (d.zero.map litV).toArray ∧ (∀ x ∈ d.zero, litB x = true) ∧ d.zero.length = d.size ∧
    (d.kind.isAgg = true → z = .agg (d.zero.map litV).toArray) ∧ (d.kind.isAgg = false → z.oneCell = true)
def TabOk (P : Program) (T : Tab) : Prop := ∀ t d, look T t = some d → TDOk P t d
theorem kindOk_isAgg {P : Program} {k : TK} {u : TypeDesc} (h : kindOk P k u) : descAgg u = k.isAgg := by
  cases k <;> simp only [kindOk] at h <;> first | (subst h; rfl) | (obtain ⟨_, rfl⟩ := h; rfl) | (obtain ⟨_, rfl, _⟩ := h; rfl) | (obtain ⟨_, _, _, rfl⟩ := h; rfl) | exact h
def cst : Value → Option D
  | .int k n => bif litB (.int k n) then some (.int k n) else none
  | .bool b => some (.bool b)
  | .string s => bif litB (.str s.data.toList) then some (.str s.data.toList) else none
  | .slice none 0 0 => some .nil
  | .nilFunc => some (.raw .nilFunc)
  | .nilIface => some (.raw .nilIface)
  | .map none => some (.raw (.map none))
  | .pointer none => some (.raw (.pointer none))
  | _ => none
theorem cst_rep {σ : Sig} {v : Value} {d : D} (h : cst v = some d) : Rep σ d v := by
  unfold cst at h
  split at h
  · rename_i k n
    cases hb : litB (.int k n) <;> simp [hb] at h; subst h; exact litB_rep (d := .int k n) hb
  · simp at h; subst h; exact .bool
  · rename_i s
    cases hb : litB (.str s.data.toList) <;> simp [hb] at h; subst h; exact litB_rep (d := .str s.data.toList) hb
  · simp at h; subst h; exact .nil
  · simp at h; subst h; exact .raw rfl
  · simp at h; subst h; exact .raw rfl
  · simp at h; subst h; exact .raw rfl
  · simp at h; subst h; exact .raw rfl
  · simp at h
def ev (st : St) : Operand → Option AV
  | .tmp t => look st.fr t
  | .const v => match cst v with | some d => some (.one (.d d)) | none => none
  | .func f => some (.one (.d (.fn f [])))
  | .global _ => none
theorem ev_rep {c : Ctx} {st : St} {a : Act} {w : World} {σ : Sig} {φ : Pl} (h : Rel c st a w σ φ) {x : Operand} {v : AV} (hx : ev st x = some v) :
    RepV σ φ st.sto v (a.eval x) := by
  cases x with
  | tmp t =>
    obtain ⟨u, hu, hr⟩ := h.slot t v hx
    simp only [Act.eval, Array.getD_eq_getD_getElem?, hu, Option.getD_some]
    exact hr
  | const v =>
    simp only [ev] at hx
    split at hx <;> simp at hx
    rename_i d hd
    subst hx
    exact .d (cst_rep hd)
  | func f =>
    simp only [ev, Option.some.injEq] at hx; subst hx
    exact .d (.fn [] rfl (by intro j d v h; simp at h))
  | global g => simp [ev] at hx
def intF (op : BinOp) (k : IntKind) (x y : Int) : Option D :=
  match op with
  | .add => some (.int k (k.wrap (x + y)))
  | .sub => some (.int k (k.wrap (x - y)))
  | .mul => some (.int k (k.wrap (x * y)))
  | .eql => some (.bool (x == y))
  | .neq => some (.bool (x != y))
  | .lss => some (.bool (decide (x < y)))
  | .leq => some (.bool (decide (x ≤ y)))
  | .gtr => some (.bool (decide (y < x)))
  | .geq => some (.bool (decide (y ≤ x)))
  | .and => some (.int k (k.wrap (BitVec.ofInt k.bits x &&& BitVec.ofInt k.bits y).toNat))
  | .or => some (.int k (k.wrap (BitVec.ofInt k.bits x ||| BitVec.ofInt k.bits y).toNat))
  | .xor => some (.int k (k.wrap (BitVec.ofInt k.bits x ^^^ BitVec.ofInt k.bits y).toNat))
  | _ => none
def strF (op : BinOp) (x y : List UInt8) : Option D :=
  match op with
  | .eql => some (.bool (x == y))
  | .neq => some (.bool (!(x == y)))
  | .lss => some (.bool (Op.bytesLess x y))
  | .leq => some (.bool (Op.bytesLess x y || x == y))
  | .gtr => some (.bool (!(Op.bytesLess x y || x == y)))
  | .geq => some (.bool (!(Op.bytesLess x y)))
  | _ => none
def kEq : IntKind → IntKind → Bool
  | .i8, .i8 | .i16, .i16 | .i32, .i32 | .i64, .i64 | .u8, .u8 | .u16, .u16 | .u32, .u32 | .u64, .u64 => true
  | _, _ => false
theorem kEq_eq {a b : IntKind} (h : kEq a b = true) : a = b := by cases a <;> cases b <;> first | rfl | simp [kEq] at h
def isShift : BinOp → Bool
  | .shl | .shr => true
  | _ => false
def isBoolT (T : Tab) (t : TypeId) : Bool := match look T t with | some ⟨.bool, _, _, _⟩ => true | _ => false
def binF (T : Tab) (t : TypeId) (op : BinOp) : Option AV → Option AV → Option D
  | some (.one (.d (.int k x))), some (.one (.d (.int k' y))) => bif isShift op then none else bif kEq k k' then intF op k x y else none
  | some (.one (.d (.bool x))), some (.one (.d (.bool y))) => bif isBoolT T t then (match op with | .eql => some (.bool (x == y)) | .neq => some (.bool (!(x == y))) | _ => none) else none
  | some (.one (.d (.str x))), some (.one (.d (.str y))) => strF op x y
  | _, _ => none
theorem inR_wrap (k : IntKind) (n : Int) : inR k (k.wrap n) := by
  unfold inR IntKind.wrap IntKind.min IntKind.max
  cases k <;> simp [IntKind.signed, IntKind.bits] <;> (try split) <;> omega
end Go.Abs
namespace Go.Abs
open Go
variable {P : Program} {σ : Sig} {φ : Pl} {sto : Sto} {w : World}
theorem intF_run {op : BinOp} {k : IntKind} {x y : Int} {d : D} (h : intF op k x y = some d) (t : TypeId) (hs : isShift op = false) :
    ∃ u, (binOp op t (.int k x) (.int k y)).run P w = .ok u w ∧ Rep σ d u := by
  cases op <;> simp only [intF, Option.some.injEq, reduceCtorEq] at h <;> (try (simp [isShift] at hs; done)) <;> subst h
  all_goals simp only [binOp, ne_eq, not_true_eq_false, ↓reduceIte, Op.intArith, Op.intBits, Op.intCmp]
  all_goals first
    | exact ⟨_, rfl, .int (inR_wrap _ _)⟩
    | exact ⟨_, rfl, .bool⟩
theorem strF_run {op : BinOp} {x y : List UInt8} {d : D} (h : strF op x y = some d) (t : TypeId) :
    ∃ u, (binOp op t (.string ⟨x.toArray⟩) (.string ⟨y.toArray⟩)).run P w = .ok u w ∧ Rep σ d u := by
  have e : ∀ l : List UInt8, (⟨l.toArray⟩ : ByteArray).toList = l := fun l => by
    rw [ByteArray.toList_eq]
  cases op <;> simp only [strF, Option.some.injEq, reduceCtorEq] at h <;> subst h
  all_goals simp only [binOp, Op.stringOp, e]
  all_goals exact ⟨_, rfl, .bool⟩
theorem eqGuard_quiet {op : BinOp} {t : TypeId} {x y : Operand} {a b : Value} (h : (a matches .nilIface | .agg _) = false) : (eqGuard op t x y a b).run P w = .ok () w := by
  cases a <;> first | (simp at h; done) | (cases op <;> rfl)
theorem run_equalIn_bool (d : Nat) {t : TypeId} (h : P.underlying t = some .bool) (x y : Bool) : (Op.equalIn (d + 1) t (.bool x) (.bool y)).run P w = .ok (x == y) w := by
  simp [Op.equalIn, run_underlying h]
theorem run_equal_bool {t : TypeId} (h : P.underlying t = some .bool) (x y : Bool) : (Op.equal t (.bool x) (.bool y)).run P w = .ok (x == y) w := run_equalIn_bool 9999 h x y
theorem isBoolT_ok {T : Tab} (hT : TabOk P T) {t : TypeId} (h : isBoolT T t = true) : P.underlying t = some .bool := by
  unfold isBoolT at h
  split at h
  · rename_i s b z hl
    obtain ⟨i, u, zv, _, hu, _, _, _, hk, _⟩ := (hT t _ hl).ex
    simp only [kindOk] at hk
    rw [hu, hk]
  · simp at h
theorem binF_run {T : Tab} (hT : TabOk P T) {op : BinOp} {v1 v2 : AV} {d : D} {t : TypeId} (h : binF T t op (some v1) (some v2) = some d) {u1 u2 : Value} (h1 : RepV σ φ sto v1 u1) (h2 : RepV σ φ sto v2 u2) (x y : Operand) :
    ∃ u, (do eqGuard op t x y u1 u2; binOp op t u1 u2 : Sem Value).run P w = .ok u w ∧ Rep σ d u := by
  unfold binF at h
  split at h
  · rename_i k x' k' y' e1 e2
    simp only [Option.some.injEq] at e1 e2; subst e1 e2
    cases hs : isShift op <;> simp only [hs, cond_true, cond_false, reduceCtorEq] at h
    cases hk : kEq k k' <;> simp only [hk, cond_true, cond_false, reduceCtorEq] at h
    obtain rfl := kEq_eq hk
    replace h1 := RepC.d_inv h1; cases h1; replace h2 := RepC.d_inv h2; cases h2
    obtain ⟨u, hu, hr⟩ := intF_run (P := P) (σ := σ) (w := w) h t hs
    exact ⟨u, by simp [eqGuard_quiet, hu], hr⟩
  · rename_i x' y' e1 e2
    simp only [Option.some.injEq] at e1 e2; subst e1 e2
    replace h1 := RepC.d_inv h1; cases h1; replace h2 := RepC.d_inv h2; cases h2
    cases hb : isBoolT T t <;> simp only [hb, cond_true, cond_false, reduceCtorEq] at h
    have hu := isBoolT_ok hT hb
    split at h <;> simp only [Option.some.injEq, reduceCtorEq] at h <;> subst h
    · exact ⟨.bool (x' == y'), by simp [eqGuard_quiet, binOp, run_equal_bool hu], .bool⟩
    · exact ⟨.bool (!(x' == y')), by simp [eqGuard_quiet, binOp, run_equal_bool hu], .bool⟩
  · rename_i x' y' e1 e2
    simp only [Option.some.injEq] at e1 e2; subst e1 e2
    replace h1 := RepC.d_inv h1; cases h1; replace h2 := RepC.d_inv h2; cases h2
    obtain ⟨u, hu, hr⟩ := strF_run (P := P) (σ := σ) (w := w) h t
    exact ⟨u, by simp [eqGuard_quiet, hu], hr⟩
  · simp at h
end Go.Abs
namespace Go.Abs
open Go
def takeN {α : Type} : Nat → List α → Option (List α)
  | 0, _ => some []
  | n + 1, c :: r => match takeN n r with | some l => some (c :: l) | none => none
  | _ + 1, [] => none
theorem takeN_eq {α : Type} : ∀ {n : Nat} {l r : List α}, takeN n l = some r → r = l.take n ∧ n ≤ l.length
  | 0, _, _, h => by simp [takeN] at h; subst h; simp
  | n + 1, c :: l, r, h => by
    simp only [takeN] at h
    split at h <;> simp at h
    rename_i l' hl
    subst h
    obtain ⟨rfl, hn⟩ := takeN_eq hl
    simp; omega
  | n + 1, [], _, h => by simp [takeN] at h
def nth {α : Type} : List α → Nat → Option α
  | [], _ => none
  | x :: _, 0 => some x
  | _ :: r, n + 1 => nth r n
theorem nth_eq {α : Type} : ∀ (l : List α) (n : Nat), nth l n = l[n]?
  | [], _ => by simp [nth]
  | x :: _, 0 => by simp [nth]
  | _ :: r, n + 1 => by simp [nth, nth_eq r n]
def takeAs (g : Bool) (s : Nat) (cs : List AC) : Option AV :=
  bif g then (match takeN s cs with | some l => some (.agg l) | none => none)
  else match cs with | c :: _ => some (.one c) | [] => none
def tySz (T : Tab) (t : TypeId) : Option (Bool × Nat) := match look T t with | some td => some (td.kind.isAgg, td.size) | none => none
def tyFld (T : Tab) (t : TypeId) (f : Nat) : Option (Nat × Nat × Bool) := match look T t with | some ⟨.struct fs, _, _, _⟩ => nth fs f | _ => none
def addF (sto : Sto) (off : Nat) : AV → Option AV
  | .one (.d (.ptr cs)) => some (.one (.d (.ptr (cs.drop off))))
  | .one (.ref id o) => bif hasK sto id then some (.one (.ref id (o + off))) else none
  | .one (.rref id i o) => bif hasK sto id then some (.one (.rref id i (o + off))) else none
  | _ => none
def loadF (sto : Sto) (g : Bool) (s : Nat) : AV → Option AV
  | .one (.d (.ptr cs)) => takeAs g s (cs.map .d)
  | .one (.ref id o) => match look sto id with | some (.box cells) => takeAs g s (cells.drop o) | _ => none
  | _ => none
def tupF (ts : List (Bool × List AC)) (i : Nat) : Option AV :=
  match nth ts i with
  | some (true, cs) => some (.agg cs)
  | some (false, [c]) => some (.one c)
  | _ => none
def lenF (sto : Sto) : TK → AV → Option Int
  | .slice _, .one (.d (.sl _ _ xs)) => some (xs.length : Int)
  | .slice _, .one (.d .nil) => some 0
  | .str, .one (.d (.str s)) => some (s.length : Int)
  | .slice _, .one (.own id n) => bif hasK sto id then some (n : Int) else none
  | .slice _, .one (.sub id _ n) => bif hasK sto id then some (n : Int) else none
  | _, _ => none
def unF (op : UnOp) : AV → Option D
  | .one (.d (.bool b)) => match op with | .not => some (.bool (!b)) | _ => none
  | .one (.d (.int k n)) => match op with | .neg => some (.int k (k.wrap (0 - n))) | .xor => some (.int k (k.wrap (BitVec.ofInt k.bits (if k.signed then -1 else k.max) ^^^ BitVec.ofInt k.bits n).toNat)) | _ => none
  | _ => none
def builtinF (T : Tab) (sto : Sto) (b : Builtin) (ts : List TypeId) (vs : List (Option AV)) : Option AV :=
  match b, ts, vs with
  | .len, [t], [some v] => match look T t with
    | some td => (match lenF sto td.kind v with | some n => some (.one (.d (.int .i64 n))) | none => none)
    | none => none
  | .min, _, [some (.one (.d (.int k x))), some (.one (.d (.int k' y)))] => bif kEq k k' then some (.one (.d (.int k (min x y)))) else none
  | .max, _, [some (.one (.d (.int k x))), some (.one (.d (.int k' y)))] => bif kEq k k' then some (.one (.d (.int k (max x y)))) else none
  | _, _, _ => none
def convF (T : Tab) (src dst : TypeId) : AV → Option AV
  | .one (.d (.int _ n)) => match look T src, look T dst with
    | some _, some ⟨.int k, _, _, _⟩ => some (.one (.d (.int k (k.wrap n))))
    | _, _ => none
  | .one (.d (.str s)) => match look T src, look T dst with
    | some _, some ⟨.str, _, _, _⟩ => some (.one (.d (.str s)))
    | _, _ => none
  | _ => none
def cellsOf : AV → Option (List AC)
  | .one c => some [c]
  | .agg cs => some cs
  | _ => none
def splice {α : Type} : Nat → List α → List α → Option (List α)
  | 0, [], l => some l
  | 0, c :: n, _ :: l => match splice 0 n l with | some r => some (c :: r) | none => none
  | k + 1, n, x :: l => match splice k n l with | some r => some (x :: r) | none => none
  | _, _, _ => none
def buildF (T : Tab) (st : St) (t : TypeId) (acc : List AC) : List (Nat × Operand) → Option (List AC)
  | [] => some acc
  | (i, x) :: r => match tyFld T t i, ev st x with
    | some (o, s, _), some v => match cellsOf v with
      | some cs => bif Nat.beq cs.length s then (match splice o cs acc with | some acc' => buildF T st t acc' r | none => none) else none
      | none => none
    | _, _ => none
def valF (T : Tab) (st : St) : Op → Option AV
  | .move x | .assign x => ev st x
  | .binOp op t x y _ => match binF T t op (ev st x) (ev st y) with | some d => some (.one (.d d)) | none => none
  | .unOp op _ x => match ev st x with | some v => (match unF op v with | some d => some (.one (.d d)) | none => none) | none => none
  | .fieldAddr s x f => match tyFld T s f, ev st x with | some (o, _, _), some v => addF st.sto o v | _, _ => none
  | .field s x f => match tyFld T s f, ev st x with | some (o, s', g), some (.agg cs) => takeAs g s' (cs.drop o) | _, _ => none
  | .load t x => match tySz T t, ev st x with | some (g, s), some v => loadF st.sto g s v | _, _ => none
  | .extract x i => match ev st x with | some (.tup ts) => tupF ts i | _ => none
  | .call { callee := .builtin b, args, argTypes } => builtinF T st.sto b argTypes.toList (args.toList.map (ev st))
  | .convert src dst x => match ev st x with | some v => convF T src dst v | none => none
  | .build t parts => match look T t with
    | some ⟨.struct _, _, _, z⟩ => (match buildF T st t (z.map .d) parts.toList with | some cs => some (.agg cs) | none => none)
    | _ => none
  | .nilCheck x => match ev st x with
    | some (.one (.d (.ptr cs))) => some (.one (.d (.ptr cs)))
    | some (.one (.d (.fn f cs))) => some (.one (.d (.fn f cs)))
    | some (.one (.ref i o)) => bif hasK st.sto i then some (.one (.ref i o)) else none
    | some (.one (.rref i j o)) => bif hasK st.sto i then some (.one (.rref i j o)) else none
    | _ => none
  | _ => none
end Go.Abs
namespace Go.Abs
open Go
variable {P : Program} {σ : Sig} {φ : Pl} {sto : Sto} {w : World}
def MemCells (w : World) (B o : Nat) (vs : List Value) : Prop := ∀ (j : Nat) (v : Value), vs[j]? = some v → w.cell? ⟨B, o + j, none⟩ = some v
theorem cell_of_heap {B j : Nat} {cs : Array Value} {t : TypeId} {f : Nat × Nat} (h : w.heap[B]? = some (.cells cs t f)) : w.cell? ⟨B, j, none⟩ = cs[j]? := by
  simp [World.cell?, h]
theorem rep_ptr {cs : List D} {u : Value} (h : Rep σ (.ptr cs) u) (hi : HInv σ φ sto w) :
    ∃ (B o : Nat) (vs : List Value), u = .pointer (some ⟨B, o, none⟩) ∧ All2 (Rep σ) cs vs ∧ MemCells w B o vs := by
  cases h with
  | ptr vs hb hc hr =>
    rename_i B o cells
    obtain ⟨t, f, hh⟩ := hi.sig _ _ hb
    refine ⟨B, o, (List.range cs.length).map vs, rfl, ?_, ?_⟩
    · refine All2.of_get (by simp) fun j d v hd hv => ?_
      have hj : j < cs.length := by
        rcases Nat.lt_or_ge j cs.length with h | h
        · exact h
        · rw [List.getElem?_eq_none h] at hd; cases hd
      simp [hj] at hv
      subst hv
      exact hr j d hd
    · intro j v hv
      have hj : j < cs.length := by
        rcases Nat.lt_or_ge j cs.length with h | h
        · exact h
        · rw [List.getElem?_eq_none (by simpa using h)] at hv; cases hv
      simp [hj] at hv
      subst hv
      rw [cell_of_heap hh]
      exact hc j hj
theorem All2.map_d {cs : List D} {vs : List Value} (h : All2 (Rep σ) cs vs) : All2 (RepC σ φ sto) (cs.map .d) vs := by
  induction cs generalizing vs with
  | nil => cases vs <;> simp_all [All2]
  | cons c cs ih => cases vs with
    | nil => simp [All2] at h
    | cons v vs => exact ⟨.d h.1, ih h.2⟩
theorem run_loadVar_agg {t : TypeId} {i : TypeInfo} {u : TypeDesc} {B o : Nat} {vs : List Value} (hi : P.info? t = some i) (hu : P.underlying t = some u) (hg : descAgg u = true)
    (hm : MemCells w B o vs) (hl : i.size ≤ vs.length) : (loadVar t ⟨B, o, none⟩).run P w = .ok (.agg (vs.take i.size).toArray) w := by
  have h1 : (isAgg t).run P w = .ok true w := by
    unfold isAgg
    cases u <;> simp [descAgg] at hg <;> simp [run_underlying hu]
  have h2 : (loadCells ⟨B, o, none⟩ i.size).run P w = .ok (vs.take i.size).toArray w := by
    have := run_loadCells_list (P := P) (w := w) ⟨B, o, none⟩ (vs.take i.size) (fun j v hv => by
      have hv' : vs[j]? = some v := by
        rw [List.getElem?_take] at hv
        split at hv
        · exact hv
        · cases hv
      have := hm j v hv'
      unfold Addr.add
      by_cases hj : j = 0
      · subst hj; simpa using this
      · simpa [hj] using this)
    rw [List.length_take, Nat.min_eq_left hl] at this
    exact this
  unfold loadVar
  simp [h1, sizeOf, typeInfo, hi, h2]
theorem run_loadVar_one {t : TypeId} {u : TypeDesc} {B o : Nat} {v : Value} (hu : P.underlying t = some u) (hg : descAgg u = false)
    (hc : w.cell? ⟨B, o, none⟩ = some v) : (loadVar t ⟨B, o, none⟩).run P w = .ok v w := by
  have h1 : (isAgg t).run P w = .ok false w := by
    unfold isAgg
    cases u <;> simp [descAgg] at hg <;> simp [run_underlying hu]
  unfold loadVar
  simp [h1, hc]
theorem takeAs_agg {s : Nat} {cs : List AC} {v : AV} (h : takeAs true s cs = some v) {vs : List Value} (hr : All2 (RepC σ φ sto) cs vs) :
    s ≤ vs.length ∧ RepV σ φ sto v (.agg (vs.take s).toArray) := by
  simp only [takeAs, cond_true] at h
  split at h <;> simp at h
  rename_i l hl
  subst h
  obtain ⟨rfl, hn⟩ := takeN_eq hl
  exact ⟨by rw [← hr.length]; exact hn, _, rfl, hr.take s⟩
theorem takeAs_one {s : Nat} {cs : List AC} {v : AV} (h : takeAs false s cs = some v) {vs : List Value} (hr : All2 (RepC σ φ sto) cs vs) :
    ∃ u, vs[0]? = some u ∧ RepV σ φ sto v u := by
  simp only [takeAs, cond_false] at h
  split at h <;> simp at h
  subst h
  cases vs with
  | nil => simp [All2] at hr
  | cons u us => exact ⟨u, rfl, hr.1⟩
theorem tab_ex {T : Tab} (hT : TabOk P T) {t : TypeId} {g : Bool} {s : Nat} (h : tySz T t = some (g, s)) :
    ∃ i u, P.info? t = some i ∧ P.underlying t = some u ∧ i.size = s ∧ descAgg u = g := by
  unfold tySz at h
  split at h <;> simp at h
  rename_i td hl
  obtain ⟨i, u, z, hi, hu, hs, _, _, hk, _⟩ := (hT t td hl).ex
  exact ⟨i, u, hi, hu, hs.trans h.2, (kindOk_isAgg hk).trans h.1⟩
theorem run_load_takeAs {T : Tab} (hT : TabOk P T) {t : TypeId} {g : Bool} {s : Nat} (h : tySz T t = some (g, s)) {cs : List AC} {v : AV} (hv : takeAs g s cs = some v)
    {B o : Nat} {vs : List Value} (hr : All2 (RepC σ φ sto) cs vs) (hm : MemCells w B o vs) :
    ∃ u, (Instr.loadAt t (.pointer (some ⟨B, o, none⟩))).run P w = .ok u w ∧ RepV σ φ sto v u := by
  obtain ⟨i, u, hi, hu, rfl, hg⟩ := tab_ex hT h
  cases g with
  | true =>
    obtain ⟨hl, hrv⟩ := takeAs_agg hv hr
    exact ⟨_, by simp [Instr.loadAt, Instr.sureAddr, run_loadVar_agg hi hu hg hm hl], hrv⟩
  | false =>
    obtain ⟨x, hx, hrv⟩ := takeAs_one hv hr
    have := hm 0 x hx
    rw [Nat.add_zero] at this
    exact ⟨_, by simp [Instr.loadAt, Instr.sureAddr, run_loadVar_one hu hg this], hrv⟩
theorem hasK_of {id : Nat} {e : AObj} (h : look sto id = some e) : hasK sto id = true := by simp [hasK, h]
theorem box_mem {id B cap : Nat} {cs : List AC} (hi : HInv σ φ sto w) (h : look sto id = some (.box cs)) (hp : φ id = some (B, cap)) :
    ∃ (vs : List Value) (t : TypeId), w.heap[B]? = some (.cells vs.toArray t (0, 0)) ∧ All2 (RepC σ φ sto) cs vs := by
  obtain ⟨B', c', vs, t, hp', hh, hr, _⟩ := hi.obj _ _ h
  rw [hp] at hp'; cases hp'
  exact ⟨vs, t, hh, hr⟩
theorem memCells_heap {B o : Nat} {vs : List Value} {t : TypeId} {f : Nat × Nat} (h : w.heap[B]? = some (.cells vs.toArray t f)) : MemCells w B o (vs.drop o) := by
  intro j v hv
  rw [cell_of_heap h]
  simpa [List.getElem?_drop] using hv
theorem loadF_run {T : Tab} (hT : TabOk P T) {t : TypeId} {g : Bool} {s : Nat} (h : tySz T t = some (g, s)) {x v : AV} (hv : loadF sto g s x = some v)
    {u : Value} (hr : RepV σ φ sto x u) (hi : HInv σ φ sto w) : ∃ u', (Instr.loadAt t u).run P w = .ok u' w ∧ RepV σ φ sto v u' := by
  unfold loadF at hv
  split at hv
  · replace hr := RepC.d_inv hr
    obtain ⟨B, o, vs, rfl, ha, hm⟩ := rep_ptr hr hi
    exact run_load_takeAs hT h hv ha.map_d hm
  · split at hv <;> first | (simp at hv; done) | skip
    rename_i hl
    cases hr with
    | ref h' hp =>
      rw [hl] at h'; cases h'
      obtain ⟨vs, t', hh, ha⟩ := box_mem hi hl hp
      exact run_load_takeAs hT h hv (ha.drop _) (memCells_heap hh)
    | dead hx _ => simp [acIn, hasK_of hl] at hx
  · simp at hv
theorem addF_rep {off : Nat} {x v : AV} (h : addF sto off x = some v) {u : Value} (hr : RepV σ φ sto x u) :
    ∃ B o, u = .pointer (some ⟨B, o, none⟩) ∧ RepV σ φ sto v (.pointer (some ⟨B, o + off, none⟩)) := by
  unfold addF at h
  split at h
  · simp only [Option.some.injEq] at h; subst h
    cases hr with
    | dead hx _ => simp [acIn] at hx
    | d hr =>
      cases hr with
      | ptr vs hb hc hh =>
        rename_i cs B o cells
        refine ⟨B, o, rfl, .d (.ptr (fun j => vs (off + j)) hb (fun j hj => ?_) (fun j d hd => ?_))⟩
        · have := hc (off + j) (by simp at hj; omega)
          rw [← this]; congr 1; omega
        · exact hh (off + j) d (by simpa [List.getElem?_drop] using hd)
  · rename_i id o
    cases hk : hasK sto id <;> simp only [hk, cond_true, cond_false, reduceCtorEq, Option.some.injEq] at h
    subst h
    cases hr with
    | ref h' hp => exact ⟨_, _, rfl, .ref h' hp⟩
    | dead hx _ => simp [acIn, hk] at hx
  · rename_i id i o
    cases hk : hasK sto id <;> simp only [hk, cond_true, cond_false, reduceCtorEq, Option.some.injEq] at h
    subst h
    cases hr with
    | rref h' hp => exact ⟨_, _, rfl, by rw [Nat.add_assoc]; exact .rref h' hp⟩
    | dead hx _ => simp [acIn, hk] at hx
  · simp at h
theorem addr_add {B o n : Nat} : (⟨B, o, none⟩ : Addr).add n = ⟨B, o + n, none⟩ := by
  unfold Addr.add
  by_cases h : n = 0
  · subst h; rfl
  · simp [h]
theorem fld_ex {T : Tab} (hT : TabOk P T) {t : TypeId} {f o s : Nat} {g : Bool} (h : tyFld T t f = some (o, s, g)) :
    ∃ (fields : Array Field) (fd : Field) (i : TypeInfo) (u : TypeDesc), P.underlying t = some (.struct fields) ∧ fields[f]? = some fd ∧ fd.offset = o ∧ P.info? fd.type = some i ∧ i.size = s ∧ 0 < s ∧
      P.underlying fd.type = some u ∧ descAgg u = g := by
  unfold tyFld at h
  split at h
  · rename_i fs sz b z hl
    obtain ⟨i, u, zv, hi, hu, _, _, _, hk, _⟩ := (hT t _ hl).ex
    obtain ⟨fields, rfl, _, hf⟩ := hk
    rw [nth_eq] at h
    obtain ⟨fd, h1, h2, h3, h4, ⟨i', h5⟩, d', h6, h7⟩ := hf f o s g h
    refine ⟨fields, fd, i', d', hu, h1, h2, h5, ?_, h4, h6, h7⟩
    rw [← h3]; simp [Program.cellsOf, h5]
  · simp at h
theorem fieldAt_run {T : Tab} (hT : TabOk P T) {t : TypeId} {f o s : Nat} {g : Bool} (h : tyFld T t f = some (o, s, g)) {B off : Nat} :
    (Instr.fieldAt t (.pointer (some ⟨B, off, none⟩)) f).run P w = .ok (.pointer (some ⟨B, off + o, none⟩)) w := by
  obtain ⟨fields, fd, i, u, hu, hf, rfl, hi, rfl, h0, _⟩ := fld_ex hT h
  have hne : i.size ≠ 0 := by omega
  simp [Instr.fieldAt, run_underlying hu, hf, Instr.sureAddr, fieldPlace, sizeOf, typeInfo, hi, hne, addr_add]
theorem field_run {T : Tab} (hT : TabOk P T) {t : TypeId} {f o s : Nat} {g : Bool} (h : tyFld T t f = some (o, s, g)) {cs : List AC} {v : AV} (hv : takeAs g s (cs.drop o) = some v)
    {vs : List Value} (hr : All2 (RepC σ φ sto) cs vs) : ∃ u, (Instr.field t (.agg vs.toArray) f).run P w = .ok u w ∧ RepV σ φ sto v u := by
  obtain ⟨fields, fd, i, u, hu, hf, rfl, hi, rfl, h0, hu', rfl⟩ := fld_ex hT h
  cases hg : descAgg u with
  | true =>
    rw [hg] at hv
    have h1 : (isAgg fd.type).run P w = .ok true w := by
      unfold isAgg
      cases u <;> simp [descAgg] at hg <;> simp [run_underlying hu']
    obtain ⟨hl, hrv⟩ := takeAs_agg hv (hr.drop fd.offset)
    refine ⟨_, by simp [Instr.field, run_underlying hu, hf, asAgg, part, h1, sizeOf, typeInfo, hi]; rfl, ?_⟩
    have e : List.extract vs fd.offset (fd.offset + i.size) = (vs.drop fd.offset).take i.size := by
      simp [List.extract_eq_take_drop]
    simpa [e] using hrv
  | false =>
    rw [hg] at hv
    have h1 : (isAgg fd.type).run P w = .ok false w := by
      unfold isAgg
      cases u <;> simp [descAgg] at hg <;> simp [run_underlying hu']
    obtain ⟨x, hx, hrv⟩ := takeAs_one hv (hr.drop fd.offset)
    have hx' : vs[fd.offset]? = some x := by simpa [List.getElem?_drop] using hx
    exact ⟨x, by simp [Instr.field, run_underlying hu, hf, asAgg, part, h1, hx'], hrv⟩
theorem tupF_run {ts : List (Bool × List AC)} {i : Nat} {v : AV} (h : tupF ts i = some v) {u : Value} (hr : RepV σ φ sto (.tup ts) u) :
    ∃ u', (Instr.extract u i).run P w = .ok u' w ∧ RepV σ φ sto v u' := by
  obtain ⟨vs, rfl, ha⟩ := hr
  unfold tupF at h
  rw [nth_eq] at h
  split at h <;> simp at h <;> subst h
  · rename_i cs e
    obtain ⟨b, hb, hr⟩ := ha.get e
    exact ⟨b, by simp [Instr.extract, hb], hr⟩
  · rename_i c e
    obtain ⟨b, hb, hr⟩ := ha.get e
    exact ⟨b, by simp [Instr.extract, hb], hr.1⟩
end Go.Abs
namespace Go.Abs
open Go
variable {P : Program} {σ : Sig} {φ : Pl} {sto : Sto} {w : World}
theorem fold_set (off : Nat) : ∀ (us : List Value) (k : Nat) (cells : Array Value), off + k + us.length ≤ cells.size →
    ((us.zipIdx k).foldl (fun (cs : Array Value) (p : Value × Nat) => cs.setIfInBounds (off + p.2) p.1) cells).toList =
      cells.toList.take (off + k) ++ us ++ cells.toList.drop (off + k + us.length)
  | [], k, cells, h => by simp
  | c :: r, k, cells, h => by
    simp only [List.length_cons] at h
    simp only [List.zipIdx_cons, List.foldl_cons]
    rw [fold_set off r (k + 1) _ (by simp; omega)]
    simp only [Array.toList_setIfInBounds, List.length_cons]
    have e1 : (cells.toList.set (off + k) c).take (off + (k + 1)) = cells.toList.take (off + k) ++ [c] := by
      have hlt : off + k < cells.toList.length := by simp; omega
      rw [← Nat.add_assoc, List.take_add_one, List.getElem?_set_self hlt, List.take_set_of_le (Nat.le_refl _)]
      simp
    have e2 : (cells.toList.set (off + k) c).drop (off + (k + 1) + r.length) = cells.toList.drop (off + k + (r.length + 1)) := by
      rw [List.drop_set_of_lt (by omega)]
      congr 1; omega
    rw [e1, e2]
    simp
theorem splice_eq {α : Type} : ∀ {o : Nat} {n l r : List α}, splice o n l = some r → r = l.take o ++ n ++ l.drop (o + n.length) ∧ o + n.length ≤ l.length
  | 0, [], l, r, h => by simp [splice] at h; subst h; simp
  | 0, c :: n, x :: l, r, h => by
    simp only [splice] at h
    split at h <;> simp at h
    rename_i r' hr
    subst h
    obtain ⟨e, hl⟩ := splice_eq hr
    subst e
    simp [Nat.add_comm] at *
    omega
  | o + 1, n, x :: l, r, h => by
    simp only [splice] at h
    split at h <;> simp at h
    rename_i r' hr
    subst h
    obtain ⟨e, hl⟩ := splice_eq hr
    subst e
    refine ⟨?_, by simp; omega⟩
    have : o + 1 + n.length = (o + n.length) + 1 := by omega
    simp [this]
  | 0, _ :: _, [], _, h => by simp [splice] at h
  | _ + 1, _, [], _, h => by simp [splice] at h
theorem cellsOf_rep {v : AV} {cs : List AC} (h : cellsOf v = some cs) {u : Value} (hr : RepV σ φ sto v u) : All2 (RepC σ φ sto) cs u.cells.toList := by
  cases v with
  | one c =>
    simp [cellsOf] at h; subst h
    have := RepC.oneCell hr
    cases u <;> first | (simp [Value.oneCell] at this; done) | exact ⟨hr, trivial⟩
  | agg cs' =>
    simp [cellsOf] at h; subst h
    obtain ⟨vs, rfl, ha⟩ := hr
    exact ha
  | tup _ => simp [cellsOf] at h
  | any => simp [cellsOf] at h
theorem fold_size (o : Nat) : ∀ (l : List (Value × Nat)) (cells : Array Value), (l.foldl (fun (cs : Array Value) (p : Value × Nat) => cs.setIfInBounds (o + p.2) p.1) cells).size = cells.size
  | [], _ => rfl
  | p :: l, cells => by rw [List.foldl_cons, fold_size o l]; simp
theorem fill_step (place : Nat → Option (Nat × Nat)) {acc cs acc' : List AC} {o : Nat} {cells : Array Value} {i : Nat} {u : Value} {rest : List (Nat × Value)}
    (hp : place i = some (o, cs.length)) (hs : splice o cs acc = some acc') (hc : All2 (RepC σ φ sto) cs u.cells.toList) (ha : All2 (RepC σ φ sto) acc cells.toList) :
    ∃ cells' : Array Value, All2 (RepC σ φ sto) acc' cells'.toList ∧ cells'.size = cells.size ∧ Instr.fill place cells ((i, u) :: rest) = Instr.fill place cells' rest := by
  obtain ⟨rfl, hl⟩ := splice_eq hs
  have h1 := hc.length
  have h2 := ha.length
  simp only [Array.length_toList] at h1 h2
  refine ⟨u.cells.zipIdx.foldl (fun cs (c, j) => cs.setIfInBounds (o + j) c) cells, ?_, ?_, ?_⟩
  · have := fold_set o u.cells.toList 0 cells (by simp; omega)
    rw [← Array.foldl_toList, Array.toList_zipIdx]
    simp only [Nat.add_zero] at this
    rw [this]
    have h3 := hc.length
    rw [← h3]
    exact ((ha.take o).append hc).append (ha.drop _)
  · rw [← Array.foldl_toList]; exact fold_size o _ _
  · rw [Instr.fill, hp]
    have : (u.cells.size ≠ cs.length || decide (o + u.cells.size > cells.size)) = false := by simp; omega
    simp only [this, Bool.false_eq_true, ↓reduceIte]
theorem run_mapM {α β : Type} {g : α → Sem β} {r : α → β} : ∀ (l : List α), (∀ f ∈ l, (g f).run P w = .ok (r f) w) → (l.mapM g).run P w = .ok (l.map r) w
  | [], _ => by simp
  | f :: l, h => by
    simp only [List.mapM_cons, Sem.run_bind, h f (by simp), Result.andThen_ok, run_mapM l (fun g hg => h g (by simp [hg])), Sem.run_pure, List.map_cons]
theorem run_zeroValue {t : TypeId} {i : TypeInfo} {z : Value} (hi : P.info? t = some i) (hz : i.zero = some z) : (zeroValue t).run P w = .ok z w := by
  simp [zeroValue, typeInfo, hi, hz]
theorem run_sizeOf {t : TypeId} {i : TypeInfo} (hi : P.info? t = some i) : (sizeOf t).run P w = .ok i.size w := by
  simp [sizeOf, typeInfo, hi]
theorem buildF_run {T : Tab} (hT : TabOk P T) {c : Ctx} {st : St} {a : Act} (hrel : Rel c st a w σ φ) {t : TypeId} (place : Nat → Option (Nat × Nat))
    (hplace : ∀ i o s g, tyFld T t i = some (o, s, g) → place i = some (o, s)) :
    ∀ (parts : List (Nat × Operand)) (acc cs : List AC) (cells : Array Value), buildF T st t acc parts = some cs → All2 (RepC σ φ st.sto) acc cells.toList →
      ∃ cells' : Array Value, Instr.fill place cells (parts.map fun p => (p.1, a.eval p.2)) = some cells' ∧ All2 (RepC σ φ st.sto) cs cells'.toList
  | [], acc, cs, cells, h, ha => by
    simp [buildF] at h; subst h
    exact ⟨cells, rfl, ha⟩
  | (i, x) :: parts, acc, cs, cells, h, ha => by
    simp only [buildF] at h
    split at h
    · rename_i o s g v ht hx
      split at h
      · rename_i cs' hcs
        cases hb : Nat.beq cs'.length s <;> simp only [hb, cond_true, cond_false, reduceCtorEq] at h
        split at h
        · rename_i acc' hs
          have hl : cs'.length = s := Nat.eq_of_beq_eq_true hb
          have hr := ev_rep hrel hx
          obtain ⟨cells', h1, h2, h3⟩ := fill_step (σ := σ) (φ := φ) (sto := st.sto) place (i := i) (u := a.eval x) (rest := parts.map fun p => (p.1, a.eval p.2)) (cells := cells)
            (by rw [hl]; exact hplace _ _ _ _ ht) hs (cellsOf_rep hcs hr) ha
          obtain ⟨cells'', h4, h5⟩ := buildF_run hT hrel place hplace parts acc' cs cells' h h1
          exact ⟨cells'', by simp only [List.map_cons]; rw [h3]; exact h4, h5⟩
        · simp at h
      · simp at h
    · simp at h
theorem zero_rep {σ : Sig} {φ : Pl} {sto : Sto} {z : List D} (h : ∀ x ∈ z, litB x = true) : All2 (RepC σ φ sto) (z.map .d) (z.map litV) := by
  induction z with
  | nil => trivial
  | cons d z ih => exact ⟨.d (litB_rep (h d (by simp))), ih fun x hx => h x (by simp [hx])⟩
theorem build_run {T : Tab} (hT : TabOk P T) {c : Ctx} {st : St} {a : Act} (hrel : Rel c st a w σ φ) {t : TypeId} {parts : List (Nat × Operand)} {fs : List (Nat × Nat × Bool)} {sz b : Nat} {z : List D}
    {cs : List AC} (ht : look T t = some ⟨.struct fs, sz, b, z⟩) (h : buildF T st t (z.map .d) parts = some cs) :
    ∃ u, (Instr.build t (parts.map fun p => (p.1, a.eval p.2)).toArray).run P w = .ok u w ∧ RepV σ φ st.sto (.agg cs) u := by
  obtain ⟨i, u, zv, hi, hu, hs, _, hz, hk, hzc, hzb, _, hza, _⟩ := (hT t _ ht).ex
  obtain ⟨fields, rfl, hsz, hf⟩ := hk
  have hzv := hza rfl
  simp only at hzv hzc hzb
  obtain ⟨cells', h1, h2⟩ := buildF_run hT hrel (t := t) (fun i => (fields.toList.map fun f => (f.offset, P.cellsOf f.type))[i]?) (by
    intro i o s g hi
    unfold tyFld at hi
    rw [ht] at hi
    simp only at hi
    rw [nth_eq] at hi
    obtain ⟨fd, h1, h2, h3, _⟩ := hf i o s g hi
    simp [h1, h2, h3]) parts (z.map .d) cs (z.map litV).toArray h (zero_rep hzb)
  refine ⟨.agg cells', ?_, cells'.toList, by simp, h2⟩
  unfold Instr.build
  rw [Sem.run_bind, run_zeroValue hi hz, Result.andThen_ok, Sem.run_bind, run_underlying hu, Result.andThen_ok]
  show ((fields.mapM (fun f => do pure (f.offset, ← sizeOf f.type) : Field → Sem (Nat × Nat))) >>= _ : Sem Value).run P w = _
  rw [Sem.run_bind, Array.mapM_eq_mapM_toList, Sem.run_map, run_mapM (r := fun f => (f.offset, P.cellsOf f.type))]
  · simp only [Result.andThen_ok, hzc]
    have e : (fun (i : Nat) => (fields.toList.map fun f => (f.offset, P.cellsOf f.type)).toArray[i]?) = (fun (i : Nat) => (fields.toList.map fun f => (f.offset, P.cellsOf f.type))[i]?) := by
      funext i; simp
    rw [e, h1]
    rfl
  · intro f hf'
    obtain ⟨j, hj, e⟩ := List.getElem_of_mem hf'
    have hjs : j < fs.length := by rw [← hsz]; simpa using hj
    obtain ⟨fd, h1, _, _, _, ⟨i', h5⟩, _⟩ := hf j (fs[j]).1 (fs[j]).2.1 (fs[j]).2.2 (List.getElem?_eq_getElem hjs)
    have : fields[j]? = some f := by rw [← e]; simp
    rw [this] at h1; cases h1
    rw [Sem.run_bind, run_sizeOf h5]
    simp [Program.cellsOf, h5]
end Go.Abs
namespace Go.Abs
open Go
variable {P : Program} {σ : Sig} {φ : Pl} {sto : Sto} {w : World}
theorem unF_run {op : UnOp} {v : AV} {d : D} (h : unF op v = some d) {u : Value} (hr : RepV σ φ sto v u) :
    ∃ u', (Op.unary op u).run P w = .ok u' w ∧ Rep σ d u' := by
  unfold unF at h
  split at h
  · replace hr := RepC.d_inv hr; cases hr
    split at h <;> simp only [Option.some.injEq, reduceCtorEq] at h; subst h
    exact ⟨_, rfl, .bool⟩
  · replace hr := RepC.d_inv hr; cases hr
    split at h <;> simp only [Option.some.injEq, reduceCtorEq] at h <;> subst h
    · exact ⟨_, rfl, .int (inR_wrap _ _)⟩
    · exact ⟨_, rfl, .int (inR_wrap _ _)⟩
  · simp at h
theorem len_ok {n : Nat} (h : n < 2 ^ 48) : inR .i64 (n : Int) := by
  unfold inR IntKind.min IntKind.max
  simp [IntKind.signed, IntKind.bits]; omega
theorem row_len {id k b : Nat} {xs : List (List D)} (hi : HInv σ φ sto w) (h : look sto id = some (.row k b xs)) : xs.length < 2 ^ 48 := by
  rcases hi.obj _ _ h with ⟨rfl, _⟩ | ⟨_, _, _, _, _, _, _, _, _, h48, _⟩
  · simp
  · exact h48
theorem inR_zero : inR .i64 0 := by unfold inR IntKind.min IntKind.max; simp [IntKind.signed, IntKind.bits]
theorem lenF_run {k : TK} {v : AV} {n : Int} (h : lenF sto k v = some n) {u : Value} (hr : RepV σ φ sto v u) (hi : HInv σ φ sto w) {t : TypeId} {d : TypeDesc} (hu : P.underlying t = some d) (hk : kindOk P k d) (ty : TypeId) :
    inR .i64 n ∧ (Builtin.len_ #[t] ty #[u]).run P w = .ok (.int .i64 n) w := by
  unfold lenF at h
  split at h
  · simp only [Option.some.injEq] at h; subst h; subst hk
    replace hr := RepC.d_inv hr; cases hr with
    | sl vs hc h48 => exact ⟨len_ok h48, by simp [Builtin.len_, run_underlying hu, goInt]⟩
  · simp only [Option.some.injEq] at h; subst h; subst hk
    replace hr := RepC.d_inv hr; cases hr; exact ⟨inR_zero, by simp [Builtin.len_, run_underlying hu, goInt]⟩
  · simp only [Option.some.injEq] at h; subst h; subst hk
    replace hr := RepC.d_inv hr; cases hr with
    | str h48 => exact ⟨len_ok h48, by simp [Builtin.len_, run_underlying hu, goInt]; rfl⟩
  · rename_i id n'
    cases hkk : hasK sto id <;> simp only [hkk, cond_true, cond_false, reduceCtorEq, Option.some.injEq] at h
    subst h; subst hk
    cases hr with
    | ownNil h hp => exact ⟨inR_zero, by simp [Builtin.len_, run_underlying hu, goInt]⟩
    | own h hn hp => exact ⟨len_ok (by have := row_len hi h; omega), by simp [Builtin.len_, run_underlying hu, goInt]⟩
    | dead hx _ => simp [acIn, hkk] at hx
  · rename_i id lo n'
    cases hkk : hasK sto id <;> simp only [hkk, cond_true, cond_false, reduceCtorEq, Option.some.injEq] at h
    subst h; subst hk
    cases hr with
    | sub h hn hc hA => exact ⟨len_ok (by have := row_len hi h; omega), by simp [Builtin.len_, run_underlying hu, goInt]⟩
    | dead hx _ => simp [acIn, hkk] at hx
  · simp at h
theorem builtinF_run {T : Tab} (hT : TabOk P T) {b : Builtin} {ts : List TypeId} {vs : List (Option AV)} {v : AV} (h : builtinF T sto b ts vs = some v) {us : List Value}
    (hr : ∀ (j : Nat) (x : AV), vs[j]? = some (some x) → ∃ u, us[j]? = some u ∧ RepV σ φ sto x u) (hl : us.length = vs.length) (hi : HInv σ φ sto w) :
    ∃ u, (∀ (ty : TypeId) (cs : Array Bool), (builtin b ts.toArray ty cs us.toArray).run P w = .ok (.value u) w) ∧ RepV σ φ sto v u := by
  unfold builtinF at h
  split at h
  · rename_i t x
    split at h
    · rename_i td ht
      split at h
      · rename_i n hn
        simp only [Option.some.injEq] at h; subst h
        obtain ⟨u, hu, hru⟩ := hr 0 x rfl
        obtain ⟨_, d, _, _, hud, _, _, _, hk, _⟩ := (hT t td ht).ex
        match us, hl, hu with
        | [u'], _, hu =>
          simp at hu; subst hu
          have h1 := (lenF_run (P := P) (w := w) hn hru hi hud hk 0).1
          have h2 := fun ty => (lenF_run (P := P) (w := w) hn hru hi hud hk ty).2
          exact ⟨_, fun ty cs => by simp [builtin, h2], .d (.int h1)⟩
      · simp at h
    · simp at h
  · rename_i k x k' y
    cases hk : kEq k k' <;> simp only [hk, cond_true, cond_false, reduceCtorEq, Option.some.injEq] at h
    obtain rfl := kEq_eq hk; subst h
    obtain ⟨u, hu, hru⟩ := hr 0 _ rfl
    obtain ⟨u', hu', hru'⟩ := hr 1 _ rfl
    match us, hl, hu, hu' with
    | [a, b], _, hu, hu' =>
      simp at hu hu'; subst hu hu'
      replace hru := RepC.d_inv hru; cases hru with | int h1 => replace hru' := RepC.d_inv hru'; cases hru' with | int h2 =>
        refine ⟨.int k (min x y), ?_, .d (.int ?_)⟩
        · intro ty cs; simp [builtin, Builtin.min_, Builtin.min2]
          omega
        · rcases Int.le_total x y with h | h
          · rw [Int.min_eq_left h]; exact h1
          · rw [Int.min_eq_right h]; exact h2
  · rename_i k x k' y
    cases hk : kEq k k' <;> simp only [hk, cond_true, cond_false, reduceCtorEq, Option.some.injEq] at h
    obtain rfl := kEq_eq hk; subst h
    obtain ⟨u, hu, hru⟩ := hr 0 _ rfl
    obtain ⟨u', hu', hru'⟩ := hr 1 _ rfl
    match us, hl, hu, hu' with
    | [a, b], _, hu, hu' =>
      simp at hu hu'; subst hu hu'
      replace hru := RepC.d_inv hru; cases hru with | int h1 => replace hru' := RepC.d_inv hru'; cases hru' with | int h2 =>
        refine ⟨.int k (max x y), ?_, .d (.int ?_)⟩
        · intro ty cs; simp [builtin, Builtin.max_, Builtin.max2]
          omega
        · rcases Int.le_total x y with h | h
          · rw [Int.max_eq_right h]; exact h2
          · rw [Int.max_eq_left h]; exact h1
  · simp at h
theorem convF_run {T : Tab} (hT : TabOk P T) {src dst : TypeId} {v v' : AV} (h : convF T src dst v = some v') {u : Value} (hr : RepV σ φ sto v u) :
    ∃ u', (convert src dst u).run P w = .ok u' w ∧ RepV σ φ sto v' u' := by
  unfold convF at h
  split at h
  · split at h <;> simp only [Option.some.injEq, reduceCtorEq] at h
    rename_i td k b z zz h1 h2
    subst h
    obtain ⟨_, d1, _, _, hu1, _⟩ := (hT src td h1).ex
    obtain ⟨_, d2, _, _, hu2, _, _, _, hk, _⟩ := (hT dst _ h2).ex
    simp only [kindOk] at hk; subst hk
    replace hr := RepC.d_inv hr; cases hr
    refine ⟨_, ?_, .d (.int (inR_wrap _ _))⟩
    cases d1 <;> simp [convert, run_underlying hu1, run_underlying hu2, Conv.intToInt]
  · split at h <;> simp only [Option.some.injEq, reduceCtorEq] at h
    rename_i td b z zz h1 h2
    subst h
    obtain ⟨_, d1, _, _, hu1, _⟩ := (hT src td h1).ex
    obtain ⟨_, d2, _, _, hu2, _, _, _, hk, _⟩ := (hT dst _ h2).ex
    simp only [kindOk] at hk; subst hk
    replace hr := RepC.d_inv hr; cases hr with
    | str h48 =>
      refine ⟨_, ?_, .d (.str h48)⟩
      cases d1 <;> simp [convert, run_underlying hu1, run_underlying hu2]
  · simp at h
theorem valF_run {T : Tab} (hT : TabOk P T) {c : Ctx} {st : St} {a : Act} (hrel : Rel c st a w σ φ) {o : Oper} {v : AV} (h : valF T st o.op = some v) :
    ∃ u, (execOp a.eval o).run P w = .ok (.value u) w ∧ RepV σ φ st.sto v u := by
  unfold valF at h
  unfold execOp
  split at h <;> first | (simp at h; done) | (rename_i ho; rw [ho])
  · exact ⟨_, rfl, ev_rep hrel h⟩
  · exact ⟨_, rfl, ev_rep hrel h⟩
  · rename_i op t x y ty
    split at h <;> simp only [Option.some.injEq, reduceCtorEq] at h
    rename_i d hd
    subst h
    cases hx : ev st x with
    | none => rw [hx] at hd; simp [binF] at hd
    | some vx => cases hy : ev st y with
      | none => rw [hx, hy] at hd; cases vx <;> simp [binF] at hd
      | some vy =>
        rw [hx, hy] at hd
        obtain ⟨u, hu, hr⟩ := binF_run (w := w) hT hd (ev_rep hrel hx) (ev_rep hrel hy) x y
        refine ⟨u, ?_, .d hr⟩
        simp only [Sem.run_bind] at hu ⊢
        rw [hu]; rfl
  · rename_i op t x
    split at h <;> (try (simp at h; done))
    rename_i vx hx
    split at h <;> simp only [Option.some.injEq, reduceCtorEq] at h
    rename_i d hd
    subst h
    obtain ⟨u, hu, hr⟩ := unF_run (P := P) (w := w) hd (ev_rep hrel hx)
    exact ⟨u, by simp [hu], .d hr⟩
  · rename_i s x f
    split at h <;> (try (simp at h; done))
    rename_i o' s' g vx ht hx
    obtain ⟨B, off, hu, hr⟩ := addF_rep h (ev_rep hrel hx)
    exact ⟨_, by simp [hu, fieldAt_run hT ht], hr⟩
  · rename_i s x f
    split at h <;> (try (simp at h; done))
    rename_i o' s' g cs ht hx
    obtain ⟨vs, hu, hr⟩ := ev_rep hrel hx
    obtain ⟨u, hu', hr'⟩ := field_run (P := P) (w := w) hT ht h hr
    exact ⟨u, by simp [hu, hu'], hr'⟩
  · rename_i t x
    split at h <;> (try (simp at h; done))
    rename_i g s vx ht hx
    obtain ⟨u, hu, hr⟩ := loadF_run hT ht h (ev_rep hrel hx) hrel.inv
    exact ⟨u, by simp [hu], hr⟩
  · rename_i x i
    split at h <;> (try (simp at h; done))
    rename_i ts hx
    obtain ⟨u, hu, hr⟩ := tupF_run (P := P) (w := w) h (ev_rep hrel hx)
    exact ⟨u, by simp [hu], hr⟩
  · rename_i b args ats
    obtain ⟨u, hu, hr⟩ := builtinF_run (P := P) (w := w) hT h (us := args.toList.map a.eval) (fun j x hj => by
      simp only [List.getElem?_map, Option.map_eq_some_iff] at hj
      obtain ⟨y, hy, he⟩ := hj
      exact ⟨a.eval y, by simp [hy], ev_rep hrel he⟩) (by simp) hrel.inv
    refine ⟨u, ?_, hr⟩
    simp only [resolve, invoke, Sem.run_bind, Sem.run_pure, Result.andThen_ok]
    have e : (args.toList.map a.eval).toArray = args.map a.eval := by rw [← Array.toList_map, Array.toArray_toList]
    rw [e] at hu
    simp [hu]
  · rename_i src dst x
    split at h <;> (try (simp at h; done))
    rename_i vx hx
    obtain ⟨u, hu, hr⟩ := convF_run (P := P) (w := w) hT h (ev_rep hrel hx)
    exact ⟨u, by simp [hu], hr⟩
  · rename_i t parts
    split at h <;> (try (simp at h; done))
    rename_i fs sz b z ht
    split at h <;> simp only [Option.some.injEq, reduceCtorEq] at h
    rename_i cs hcs
    subst h
    obtain ⟨u, hu, hr⟩ := build_run (P := P) hT hrel ht hcs
    refine ⟨u, ?_, hr⟩
    have e : (parts.map fun (x : Nat × Operand) => (x.1, a.eval x.2)) = (parts.toList.map fun p => (p.1, a.eval p.2)).toArray := by
      rw [← Array.toList_map]
    simp only [Sem.run_bind, Sem.run_pure]
    rw [e, hu]; rfl
  · rename_i x
    split at h
    · rename_i cs hx
      simp only [Option.some.injEq] at h; subst h
      have hr := ev_rep hrel hx
      obtain ⟨B, o', vs, hu, _⟩ := rep_ptr (RepC.d_inv hr) hrel.inv
      exact ⟨_, by simp [hu], hu ▸ hr⟩
    · rename_i f cs hx
      simp only [Option.some.injEq] at h; subst h
      have hr := ev_rep hrel hx
      have hr' := RepC.d_inv hr
      generalize hu : a.eval x = u at hr'
      cases hr' with
      | fn vs hl hh => exact ⟨_, by simp [hu], .d (.fn vs hl hh)⟩
    · rename_i i off hx
      cases hk : hasK st.sto i <;> simp only [hk, cond_true, cond_false, reduceCtorEq, Option.some.injEq] at h
      subst h
      have hr := ev_rep hrel hx
      obtain ⟨B, o', hu, _⟩ := addF_rep (sto := st.sto) (off := 0) (v := .one (.ref i (off + 0))) (by simp [addF, hk]) hr
      exact ⟨_, by simp [hu], hu ▸ hr⟩
    · rename_i i j off hx
      cases hk : hasK st.sto i <;> simp only [hk, cond_true, cond_false, reduceCtorEq, Option.some.injEq] at h
      subst h
      have hr := ev_rep hrel hx
      obtain ⟨B, o', hu, _⟩ := addF_rep (sto := st.sto) (off := 0) (v := .one (.rref i j (off + 0))) (by simp [addF, hk]) hr
      exact ⟨_, by simp [hu], hu ▸ hr⟩
    · simp at h
end Go.Abs
namespace Go.Abs
open Go
variable {P : Program} {σ σ' : Sig} {φ φ' : Pl} {sto sto' : Sto} {w w' : World}
def AC.men (id : Nat) : AC → Bool
  | .own i _ | .sub i _ _ | .ref i _ | .rref i _ _ | .yl i | .mapr i | .bsl i _ _ => Nat.beq i id
  | _ => false
def acsMen (id : Nat) : List AC → Bool
  | [] => false
  | c :: r => c.men id || acsMen id r
def tsMen (id : Nat) : List (Bool × List AC) → Bool
  | [] => false
  | t :: r => acsMen id t.2 || tsMen id r
def AV.men (id : Nat) : AV → Bool
  | .one c => c.men id
  | .agg cs => acsMen id cs
  | .tup ts => tsMen id ts
  | .any => false
def frMen (id : Nat) : List (Nat × AV) → Bool
  | [] => false
  | p :: r => p.2.men id || frMen id r
def AObj.men (id : Nat) (e : AObj) : Bool := match e with | .box cs => acsMen id cs | .loop _ fr _ _ => frMen id fr | _ => false
def stoMen (id : Nat) : Sto → Bool
  | [] => false
  | p :: r => p.2.men id || stoMen id r
def St.men (id : Nat) (st : St) : Bool := frMen id st.fr || stoMen id st.sto
theorem look_cons {α : Type} {l : List (Nat × α)} {s t : Nat} {v u : α} (h : look ((t, u) :: l) s = some v) : (s = t ∧ v = u) ∨ (s ≠ t ∧ look l s = some v) := by
  simp only [look] at h
  cases hb : Nat.beq t s with
  | true => simp [hb] at h; exact .inl ⟨(Nat.eq_of_beq_eq_true hb).symm, h.symm⟩
  | false =>
    simp [hb] at h
    refine .inr ⟨?_, h⟩
    rintro rfl
    rw [Nat.beq_refl] at hb; cases hb
theorem look_self {α : Type} {l : List (Nat × α)} {t : Nat} {u : α} : look ((t, u) :: l) t = some u := by simp [look, Nat.beq_refl]
theorem look_ne {α : Type} {l : List (Nat × α)} {s t : Nat} {u : α} (h : s ≠ t) : look ((t, u) :: l) s = look l s := by
  simp only [look]
  cases hb : Nat.beq t s with
  | true => exact absurd (Nat.eq_of_beq_eq_true hb).symm h
  | false => rfl
theorem stoMen_look {id : Nat} : ∀ {sto : Sto}, stoMen id sto = false → ∀ {i : Nat} {e : AObj}, look sto i = some e → e.men id = false
  | [], _, _, _, h => by simp [look] at h
  | (j, e') :: r, hm, i, e, h => by
    simp only [stoMen, Bool.or_eq_false_iff] at hm
    rcases look_cons h with ⟨_, rfl⟩ | ⟨_, h⟩
    · exact hm.1
    · exact stoMen_look hm.2 h
theorem frMen_look {id : Nat} : ∀ {fr : List (Nat × AV)}, frMen id fr = false → ∀ {i : Nat} {v : AV}, look fr i = some v → v.men id = false
  | [], _, _, _, h => by simp [look] at h
  | (j, e') :: r, hm, i, e, h => by
    simp only [frMen, Bool.or_eq_false_iff] at hm
    rcases look_cons h with ⟨_, rfl⟩ | ⟨_, h⟩
    · exact hm.1
    · exact frMen_look hm.2 h
def compat : AObj → AObj → Prop
  | .box _, .box _ => True
  | .row k b xs, .row k' b' xs' => k = k' ∧ b = b' ∧ xs.length ≤ xs'.length
  | .map kg vg _, .map kg' vg' _ => kg = kg' ∧ vg = vg'
  | .loop _ _ _ _, .loop _ _ _ _ => True
  | _, _ => False
def Ext (X : Nat → Prop) (φ φ' : Pl) (sto sto' : Sto) : Prop :=
  ∀ id, ¬ X id → look sto' id = none ∨ ∃ e, look sto id = some e ∧ φ' id = φ id ∧ ∃ e', look sto' id = some e' ∧ compat e e'
theorem hasK_no {id : Nat} (h : look sto id = none) : hasK sto id = false := by simp [hasK, h]
theorem RepC.ext {X : Nat → Prop} (hs : σ.le σ') (he : Ext X φ φ' sto sto') {c : AC} {v : Value} (hm : ∀ i, X i → c.men i = false) (h : RepC σ φ sto c v) : RepC σ' φ' sto' c v := by
  have hone := h.oneCell
  have key : ∀ {id : Nat}, (∀ i, X i → Nat.beq id i = false) → ¬ X id := by
    intro id hb e
    have := hb id e
    rw [Nat.beq_refl] at this; cases this
  have two : ∀ {id : Nat} {o : AObj}, (∀ i, X i → Nat.beq id i = false) → look sto id = some o → look sto' id = none ∨ (φ' id = φ id ∧ ∃ e', look sto' id = some e' ∧ compat o e') := by
    intro id o hb hl
    rcases he id (key hb) with h | ⟨e, h1, h2⟩
    · exact .inl h
    · rw [hl] at h1; cases h1; exact .inr h2
  cases h with
  | d h => exact .d (h.mono hs)
  | ownNil h hp =>
    rename_i id k b xs
    rcases two hm h with h0 | ⟨h1, o, h2, h3⟩
    · exact .dead (hasK_no h0) hone
    · cases o with
      | row k' b' xs' => exact .ownNil h2 (h1.trans hp)
      | _ => exact h3.elim
  | own h hn hp =>
    rename_i id n k b B cap xs
    rcases two hm h with h0 | ⟨h1, o, h2, h3⟩
    · exact .dead (hasK_no h0) hone
    · cases o with
      | row k' b' xs' => exact .own h2 (Nat.le_trans hn h3.2.2) (h1.trans hp)
      | _ => exact h3.elim
  | sub h hn hc hA =>
    rename_i id lo n k b c' xs A
    rcases two hm h with h0 | ⟨h1, o, h2, h3⟩
    · exact .dead (hasK_no h0) hone
    · cases o with
      | row k' b' xs' =>
        obtain ⟨rfl, rfl, h3⟩ := h3
        exact .sub h2 (Nat.le_trans hn h3) hc (fun h0 => by rw [h1]; exact hA h0)
      | _ => exact h3.elim
  | ref h hp =>
    rename_i id off B cap cs
    rcases two hm h with h0 | ⟨h1, o, h2, h3⟩
    · exact .dead (hasK_no h0) hone
    · cases o with
      | box cs' => exact .ref h2 (h1.trans hp)
      | _ => exact h3.elim
  | rref h hp =>
    rename_i id i off k b B cap xs
    rcases two hm h with h0 | ⟨h1, o, h2, h3⟩
    · exact .dead (hasK_no h0) hone
    · cases o with
      | row k' b' xs' =>
        obtain ⟨rfl, rfl, h3⟩ := h3
        exact .rref h2 (h1.trans hp)
      | _ => exact h3.elim
  | yl h hp =>
    rcases two hm h with h0 | ⟨h1, o, h2, h3⟩
    · exact .dead (hasK_no h0) hone
    · cases o with
      | loop => exact .yl h2 (h1.trans hp)
      | _ => exact h3.elim
  | mapr h hp =>
    rcases two hm h with h0 | ⟨h1, o, h2, h3⟩
    · exact .dead (hasK_no h0) hone
    · cases o with
      | map => exact .mapr h2 (h1.trans hp)
      | _ => exact h3.elim
  | bsl h hp =>
    rcases two hm h with h0 | ⟨h1, o, h2, h3⟩
    · exact .dead (hasK_no h0) hone
    · cases o with
      | box cs' => exact .bsl h2 (h1.trans hp)
      | _ => exact h3.elim
  | junk h => exact .junk h
  | dead hx _ =>
    refine .dead ?_ hone
    have gen : ∀ {id : Nat}, (∀ i, X i → Nat.beq id i = false) → hasK sto id = false → hasK sto' id = false := by
      intro id hb hk
      rcases he id (key hb) with h | ⟨e, h1, h2⟩
      · exact hasK_no h
      · simp [hasK, h1] at hk
    cases c with
    | own i n => exact gen hm hx
    | sub i lo n => exact gen hm hx
    | ref i off => exact gen hm hx
    | rref i j off => exact gen hm hx
    | yl i => exact gen hm hx
    | mapr i => exact gen hm hx
    | bsl i off n => exact gen hm hx
    | d x => simp [acIn] at hx
    | junk => simp [acIn] at hx
theorem acs_ext {X : Nat → Prop} (hs : σ.le σ') (he : Ext X φ φ' sto sto') : ∀ {cs : List AC} {vs : List Value}, (∀ i, X i → acsMen i cs = false) → All2 (RepC σ φ sto) cs vs → All2 (RepC σ' φ' sto') cs vs
  | [], [], _, _ => trivial
  | c :: cs, v :: vs, hm, h => by
    have h1 : ∀ i, X i → c.men i = false := fun i hi => by have := hm i hi; simp only [acsMen, Bool.or_eq_false_iff] at this; exact this.1
    have h2 : ∀ i, X i → acsMen i cs = false := fun i hi => by have := hm i hi; simp only [acsMen, Bool.or_eq_false_iff] at this; exact this.2
    exact ⟨h.1.ext hs he h1, acs_ext hs he h2 h.2⟩
  | [], _ :: _, _, h => h.elim
  | _ :: _, [], _, h => h.elim
theorem RepT.ext {X : Nat → Prop} (hs : σ.le σ') (he : Ext X φ φ' sto sto') {t : Bool × List AC} {v : Value} (hm : ∀ i, X i → acsMen i t.2 = false) (h : RepT σ φ sto t v) : RepT σ' φ' sto' t v := by
  obtain ⟨g, cs⟩ := t
  cases g with
  | true => obtain ⟨vs, rfl, h⟩ := h; exact ⟨vs, rfl, acs_ext hs he hm h⟩
  | false => exact acs_ext hs he hm h
theorem RepV.ext {X : Nat → Prop} (hs : σ.le σ') (he : Ext X φ φ' sto sto') {t : AV} {v : Value} (hm : ∀ i, X i → t.men i = false) (h : RepV σ φ sto t v) : RepV σ' φ' sto' t v := by
  cases t with
  | one c => exact RepC.ext hs he hm h
  | agg cs => obtain ⟨vs, rfl, h⟩ := h; exact ⟨vs, rfl, acs_ext hs he hm h⟩
  | tup ts =>
    obtain ⟨vs, rfl, h⟩ := h
    refine ⟨vs, rfl, ?_⟩
    have : ∀ {ts : List (Bool × List AC)} {vs : List Value}, (∀ i, X i → tsMen i ts = false) → All2 (RepT σ φ sto) ts vs → All2 (RepT σ' φ' sto') ts vs := by
      intro ts
      induction ts with
      | nil => intro vs _ h; cases vs <;> simp_all [All2]
      | cons t ts ih =>
        intro vs hm h
        cases vs with
        | nil => exact h.elim
        | cons v vs =>
          have h1 : ∀ i, X i → acsMen i t.2 = false := fun i hi => by have := hm i hi; simp only [tsMen, Bool.or_eq_false_iff] at this; exact this.1
          have h2 : ∀ i, X i → tsMen i ts = false := fun i hi => by have := hm i hi; simp only [tsMen, Bool.or_eq_false_iff] at this; exact this.2
          exact ⟨h.1.ext hs he h1, ih h2 h.2⟩
    exact this hm h
  | any => trivial
theorem RepD.mono {g : Bool} {ds : List D} {v : Value} (hs : σ.le σ') (h : RepD σ g ds v) : RepD σ' g ds v := by
  cases g with
  | true => obtain ⟨vs, e, h⟩ := h; exact ⟨vs, e, h.mono fun _ _ h => h.mono hs⟩
  | false => exact All2.mono (fun _ _ h => Rep.mono hs h) h
theorem RepE.mono {kg vg : Bool} (hs : σ.le σ') : ∀ {i : Nat} {ps : List (List D × List D)} {es : List MapEntry}, RepE σ kg vg i ps es → RepE σ' kg vg i ps es
  | _, [], [], _ => trivial
  | _, _ :: _, _ :: _, h => ⟨h.1.mono hs, h.2.1.mono hs, h.2.2.1, RepE.mono hs h.2.2.2⟩
  | _, [], _ :: _, h => h.elim
  | _, _ :: _, [], h => h.elim
theorem compat.refl (o : AObj) : compat o o := by cases o <;> simp [compat]
theorem Ext.of_some {X : Nat → Prop} (h : ∀ id e, ¬ X id → look sto id = some e → φ' id = φ id ∧ ∃ e', look sto' id = some e' ∧ compat e e') (h0 : ∀ id, ¬ X id → look sto id = none → look sto' id = none) : Ext X φ φ' sto sto' := by
  intro id hX
  cases hl : look sto id with
  | none => exact .inl (h0 id hX hl)
  | some e => exact .inr ⟨e, rfl, h id e hX hl⟩
theorem Ext.refl (φ : Pl) (sto : Sto) : Ext (fun _ => False) φ φ sto sto := Ext.of_some (fun _ e _ h => ⟨rfl, e, h, compat.refl e⟩) (fun _ _ h => h)
theorem ObjRep.ext {X : Nat → Prop} (hs : σ.le σ') (he : Ext X φ φ' sto sto') {id : Nat} {e : AObj} (hm : ∀ i, X i → e.men i = false)
    (hφ : φ' id = φ id) (hw : ∀ B c, φ id = some (B, c) → w'.heap[B]? = w.heap[B]? ∧ σ' B = σ B) (h : ObjRep σ φ sto w id e) : ObjRep σ' φ' sto' w' id e := by
  cases e with
  | box cs =>
    obtain ⟨B, c, vs, t, h1, h2, h3, h4⟩ := h
    obtain ⟨h5, h6⟩ := hw B c h1
    exact ⟨B, c, vs, t, hφ.trans h1, h5.trans h2, acs_ext hs he hm h3, h6.trans h4⟩
  | row k b xs =>
    rcases h with ⟨h1, h2⟩ | ⟨B, cap, arr, t, vs, h1, h2, h3, h4, h5, h6, h7, h8, h9, h10⟩
    · exact .inl ⟨h1, hφ.trans h2⟩
    · obtain ⟨ha, hb⟩ := hw B cap h1
      exact .inr ⟨B, cap, arr, t, vs, hφ.trans h1, ha.trans h2, h3, h4, h5, h6, h7, h8, fun i j x d hx hd => (h9 i j x d hx hd).mono hs, hb.trans h10⟩
  | map kg vg es =>
    obtain ⟨B, c, ents, h1, h2, h3, h4⟩ := h
    obtain ⟨h5, h6⟩ := hw B c h1
    exact ⟨B, c, ents, hφ.trans h1, h5.trans h2, h3.mono hs, h6.trans h4⟩
  | loop li fr s p =>
    obtain ⟨B, c, r, h1, h2, h3, h3', h4⟩ := h
    obtain ⟨h5, h6⟩ := hw B c h1
    exact ⟨B, c, r, hφ.trans h1, h5.trans h2, h3, fun s v hv => by
      obtain ⟨u, hu, hru⟩ := h3' s v hv
      exact ⟨u, hu, hru.ext hs he fun i hi => frMen_look (hm i hi) hv⟩, h6.trans h4⟩
theorem ObjRep.lt {id : Nat} {e : AObj} (h : ObjRep σ φ sto w id e) {p : Nat × Nat} (hp : φ id = some p) : p.1 < w.heap.size := by
  have key : ∀ {B : Nat} {o : Obj}, w.heap[B]? = some o → B < w.heap.size := fun h => (Array.getElem?_eq_some_iff.1 h).1
  cases e with
  | box cs =>
    obtain ⟨B, c, vs, t, h1, h2, _⟩ := h
    rw [hp] at h1; cases h1; exact key h2
  | row k b xs =>
    rcases h with ⟨_, h2⟩ | ⟨B, cap, arr, t, vs, h1, h2, _⟩
    · rw [hp] at h2; cases h2
    · rw [hp] at h1; cases h1; exact key h2
  | map kg vg es =>
    obtain ⟨B, c, ents, h1, h2, _⟩ := h
    rw [hp] at h1; cases h1; exact key h2
  | loop li fr s p =>
    obtain ⟨B, c, r, h1, h2, _⟩ := h
    rw [hp] at h1; cases h1; exact key h2
theorem ObjRep.sig {id : Nat} {e : AObj} (h : ObjRep σ φ sto w id e) {B c : Nat} (hp : φ id = some (B, c))   : σ B = none := by
  cases e with
  | box cs =>
    obtain ⟨B', c', vs, t, h1, _, _, h4⟩ := h
    rw [hp] at h1; cases h1; simpa using h4
  | row k b xs =>
    rcases h with ⟨_, h2⟩ | ⟨B', cap, arr, t, vs, h1, _, _, _, _, _, _, _, _, h10⟩
    · rw [hp] at h2; cases h2
    · rw [hp] at h1; cases h1; simpa using h10
  | map kg vg es =>
    obtain ⟨B', c', ents, h1, _, _, h4⟩ := h
    rw [hp] at h1; cases h1; exact h4
  | loop li fr s p =>
    obtain ⟨B', c', r, h1, _, _, _, h4⟩ := h
    rw [hp] at h1; cases h1; exact h4
def updP (φ : Pl) (id : Nat) (p : Option (Nat × Nat)) : Pl := fun i => if i = id then p else φ i
theorem updP_self {id : Nat} {p : Option (Nat × Nat)} : updP φ id p id = p := by simp [updP]
theorem updP_ne {id i : Nat} {p : Option (Nat × Nat)} (h : i ≠ id) : updP φ id p i = φ i := by simp [updP, h]
theorem Ext.add {id : Nat} {e : AObj} {p : Option (Nat × Nat)} : Ext (· = id) φ (updP φ id p) sto ((id, e) :: sto) :=
  Ext.of_some (fun _ e' hi h => ⟨updP_ne hi, e', (look_ne hi).trans h, compat.refl _⟩) (fun _ hi h => (look_ne hi).trans h)
theorem HInv.add (h : HInv σ φ sto w) {id : Nat} {e : AObj} {cap : Nat} {o : Obj} (hm : stoMen id sto = false)
    (hobj : ObjRep σ (updP φ id (some (w.heap.size, cap))) ((id, e) :: sto) (w.alloc o) id e) :
    HInv σ (updP φ id (some (w.heap.size, cap))) ((id, e) :: sto) (w.alloc o) := by
  have hheap : ∀ B, B < w.heap.size → (w.alloc o).heap[B]? = w.heap[B]? := fun B hB => RowKit.Below.heap_alloc w o B hB
  have hltσ : ∀ b cs, σ b = some cs → b < w.heap.size := fun b cs hb => by
    obtain ⟨t, f, hh⟩ := h.sig b cs hb
    exact (Array.getElem?_eq_some_iff.1 hh).1
  refine ⟨fun b cs hb => ?_, fun i e' hl => ?_, fun i i' e1 e2 p p' h1 h2 hne hp hp' => ?_⟩
  · obtain ⟨t, f, hh⟩ := h.sig b cs hb
    exact ⟨t, f, (hheap b (hltσ b cs hb)).trans hh⟩
  · rcases look_cons hl with ⟨rfl, rfl⟩ | ⟨hne, hl⟩
    · exact hobj
    · have ho := h.obj i e' hl
      refine ho.ext (X := (· = id)) (Sig.le_refl _) Ext.add (fun j hj => by cases hj; exact stoMen_look hm hl) (updP_ne hne) fun B c hB => ⟨hheap B (ho.lt hB), rfl⟩
  · rcases look_cons h1 with ⟨rfl, rfl⟩ | ⟨hn1, k1⟩
    · rcases look_cons h2 with ⟨rfl, rfl⟩ | ⟨hn2, h2⟩
      · exact absurd rfl hne
      · rw [updP_self] at hp; cases hp
        rw [updP_ne hn2] at hp'
        have := (h.obj _ _ h2).lt hp'
        intro e; simp only at e; omega
    · rcases look_cons h2 with ⟨h3, h4⟩ | ⟨hn2, h2⟩
      · subst h3; subst h4
        rw [updP_self] at hp'; cases hp'
        rw [updP_ne hn1] at hp
        have := (h.obj _ _ k1).lt hp
        intro e; simp only at e; omega
      · rw [updP_ne hn1] at hp; rw [updP_ne hn2] at hp'
        exact h.inj _ _ _ _ _ _ k1 h2 hne hp hp'
theorem Ext.upd {id : Nat} {e e' : AObj} (hl : look sto id = some e) (hc : compat e e') : Ext (fun _ => False) φ φ sto ((id, e') :: sto) := by
  refine Ext.of_some (fun i e1 _ h => ?_) (fun i _ h => ?_)
  · by_cases hi : i = id
    · subst hi
      rw [hl] at h; cases h
      exact ⟨rfl, e', look_self, hc⟩
    · exact ⟨rfl, e1, (look_ne hi).trans h, compat.refl _⟩
  · by_cases hi : i = id
    · subst hi; rw [hl] at h; cases h
    · exact (look_ne hi).trans h
theorem HInv.set (h : HInv σ φ sto w) {id B c : Nat} {e e' : AObj} (hl : look sto id = some e) (hp : φ id = some (B, c)) (hσ : σ B = none)
    (hw : ∀ b, b ≠ B → w'.heap[b]? = w.heap[b]?) (hc : compat e e') (hobj : ObjRep σ φ ((id, e') :: sto) w' id e') : HInv σ φ ((id, e') :: sto) w' := by
  refine ⟨fun b cs hb => ?_, fun i e1 hl' => ?_, fun i i' e1 e2 p p' h1 h2 hne hp hp' => ?_⟩
  · obtain ⟨t, f, hh⟩ := h.sig b cs hb
    refine ⟨t, f, (hw b ?_).trans hh⟩
    rintro rfl
    rw [hσ] at hb; cases hb
  · rcases look_cons hl' with ⟨rfl, rfl⟩ | ⟨hne, hl'⟩
    · exact hobj
    · have ho := h.obj i e1 hl'
      refine ho.ext (X := fun _ => False) (Sig.le_refl _) (Ext.upd hl hc) (fun j hj => by cases hj) rfl fun B' c' hB' => ⟨hw B' ?_, rfl⟩
      exact h.inj _ _ _ _ _ _ hl' hl hne hB' hp
  · have hx : ∀ {i : Nat} {e1 : AObj}, look ((id, e') :: sto) i = some e1 → ∃ e2, look sto i = some e2 := by
      intro i e1 h
      rcases look_cons h with ⟨rfl, rfl⟩ | ⟨_, h⟩
      · exact ⟨e, hl⟩
      · exact ⟨e1, h⟩
    obtain ⟨e3, h3⟩ := hx h1
    obtain ⟨e4, h4⟩ := hx h2
    exact h.inj _ _ _ _ _ _ h3 h4 hne hp hp'
def updS (σ : Sig) (B : Nat) (arr : Array Value) : Sig := fun b => if b = B then some arr else σ b
theorem updS_le {B : Nat} {arr : Array Value} (h : σ B = none ∨ σ B = some arr) : σ.le (updS σ B arr) := by
  intro b cs hb
  unfold updS
  by_cases e : b = B
  · subst e
    rcases h with h | h
    · rw [h] at hb; cases hb
    · rw [h] at hb; simpa using hb
  · simp [e, hb]
def del (id : Nat) : Sto → Sto
  | [] => []
  | p :: r => bif Nat.beq p.1 id then del id r else p :: del id r
theorem look_del {id i : Nat} : ∀ {sto : Sto} {e : AObj}, look (del id sto) i = some e → i ≠ id ∧ look sto i = some e
  | [], _, h => by simp [del, look] at h
  | (j, o) :: r, e, h => by
    simp only [del] at h
    cases hb : Nat.beq j id with
    | true =>
      simp only [hb, cond_true] at h
      obtain ⟨h1, h2⟩ := look_del h
      have hj := Nat.eq_of_beq_eq_true hb
      exact ⟨h1, by rw [look_ne (by rw [hj]; exact h1)]; exact h2⟩
    | false =>
      simp only [hb, cond_false] at h
      rcases look_cons h with ⟨rfl, rfl⟩ | ⟨hne, h⟩
      · refine ⟨?_, look_self⟩
        rintro rfl
        rw [Nat.beq_refl] at hb; cases hb
      · obtain ⟨h1, h2⟩ := look_del h
        exact ⟨h1, by rw [look_ne hne]; exact h2⟩
theorem look_del_ne {id i : Nat} (hne : i ≠ id) : ∀ {sto : Sto}, look (del id sto) i = look sto i
  | [] => rfl
  | (j, o) :: r => by
    simp only [del]
    cases hb : Nat.beq j id with
    | true =>
      have hj := Nat.eq_of_beq_eq_true hb
      simp only [cond_true, look_del_ne hne (sto := r)]
      rw [look_ne (by rw [hj]; exact hne)]
    | false =>
      simp only [cond_false, look, look_del_ne hne (sto := r)]
end Go.Abs
namespace Go.Abs
open Go
variable {P : Program} {c : Ctx} {T : Tab}
def putO (dst : Option Nat) (v : AV) (fr : List (Nat × AV)) : List (Nat × AV) :=
  match dst with
  | none => fr
  | some d => (d, v) :: fr
def dstOk (n : Nat) : Option Nat → Bool
  | none => true
  | some d => Nat.blt d n
theorem Rel.putTo {st : St} {a : Act} {w w' : World} {σ σ' : Sig} {φ φ' : Pl} {st' : St} {dst : Option Nat} {v : AV} {u : Value}
    (h : Rel c st a w σ φ) (hd : dstOk c.n dst = true) (hle : c.σ0.le σ') (hfresh : ∀ b, σ' b ≠ none → c.σ0 b ≠ none ∨ c.w0.heap.size ≤ b ∨ c.M b)
    (hinv : HInv σ' φ' st'.sto w') (hmine : Mine c φ' st'.sto) (hfra : Fra c w') (hpin : ∀ id, Pin id → φ' id = c.φ0 id)
    (hv : dst ≠ none → RepV σ' φ' st'.sto v u)
    (hold : ∀ s x, some s ≠ dst → look st'.fr s = some x → ∃ y, look st.fr s = some y ∧ ∀ z, RepV σ φ st.sto y z → RepV σ' φ' st'.sto x z) :
    Rel c ⟨putO dst v st'.fr, st'.sto⟩ (a.put dst u) w' σ' φ' := by
  cases dst with
  | none =>
    refine ⟨hle, hfresh, hinv, hmine, fun s x hx => ?_, h.defers, h.size, hfra, hpin⟩
    obtain ⟨y, hy, hz⟩ := hold s x (by simp) hx
    obtain ⟨z, h1, h2⟩ := h.slot s y hy
    exact ⟨z, h1, hz z h2⟩
  | some d =>
    simp only [dstOk, Nat.blt_eq] at hd
    refine ⟨hle, hfresh, hinv, hmine, fun s x hx => ?_, h.defers, by simp [Act.put, h.size], hfra, hpin⟩
    simp only [putO] at hx
    rcases look_cons hx with ⟨rfl, rfl⟩ | ⟨hne, hx⟩
    · exact ⟨u, by simp [Act.put, h.size, hd], hv (by simp)⟩
    · obtain ⟨y, hy, hz⟩ := hold s x (fun e => hne (by cases e; rfl)) hx
      obtain ⟨z, h1, h2⟩ := h.slot s y hy
      refine ⟨z, ?_, hz z h2⟩
      simp only [Act.put]
      rw [Array.getElem?_setIfInBounds_ne (fun e => hne e.symm)]
      exact h1
theorem Rel.put {st : St} {a : Act} {w : World} {σ : Sig} {φ : Pl} {dst : Option Nat} {v : AV} {u : Value} (h : Rel c st a w σ φ) (hd : dstOk c.n dst = true) (hv : RepV σ φ st.sto v u) :
    Rel c ⟨putO dst v st.fr, st.sto⟩ (a.put dst u) w σ φ :=
  h.putTo (st' := st) hd h.le h.fresh h.inv h.mine h.fra h.pin (fun _ => hv) fun _ x _ hx => ⟨x, hx, fun _ hz => hz⟩
def fnc (c : Ctx) : Fence := { Fence.wide with round := c.rd }
theorem fnc_fn (c : Ctx) (f : FuncId) : (fnc c).fn f := trivial
theorem fnc_callsIn {c : Ctx} {n : Nat} {f : FuncId} {args : Array Value} {w : World} {R : Ending → World → Prop} (h : Calls P f args w R) : CallsIn (fnc c) n P f args w R :=
  (callsIn_wide (n := n)).2 h
theorem semAt_run {r : Option Nat} {ρ : Operand → Value} {o : Oper} {w w' : World} {nx : Next} (hd : ∀ d, nx ≠ .defer d) (h : (execOp ρ o).run P w = .ok nx w') : (o.semAt r ρ).run P w = .ok nx w' := by
  by_cases hdf : ∃ c, o.op = .defer c
  · obtain ⟨c, hc⟩ := hdf
    exfalso
    obtain ⟨dst, op, type, pos, after, guard⟩ := o
    simp only at hc; subst hc
    simp only [execOp, Sem.run_bind] at h
    cases hres : (resolve ρ c type).run P w with
    | ok d w1 =>
      rw [hres] at h
      simp only [Result.andThen_ok] at h
      simp only [Sem.run_pure, Result.ok.injEq] at h
      exact hd _ h.1.symm
    | halt x w1 => rw [hres] at h; simp [Result.andThen] at h
  · rw [Oper.semAt_eq r ρ o fun c hc => hdf ⟨c, hc⟩]; exact h
def markOf (r : Nat) : Deferred := { target := .collected r, args := #[] }
def RelE (c : Ctx) (e : Exit) (st : St) (a : Act) (w : World) (σ : Sig) (φ : Pl) : Prop :=
  Rel c st a w σ φ ∨ (e = .ret ∧ ∃ r, a.defers = [markOf r] ∧ w.heap[r]? = some (.deferred (some [])) ∧ c.w0.heap.size ≤ r ∧ Rel c st { a with defers := [] } w σ φ)
theorem RelE.rel {st : St} {a : Act} {w : World} {σ : Sig} {φ : Pl} {e : Exit} (h : RelE c e st a w σ φ) (he : e ≠ .ret) : Rel c st a w σ φ := by
  rcases h with h | ⟨h, _⟩
  · exact h
  · exact absurd h he
def OkOps (P : Program) (c : Ctx) (ops : Array Oper) (l : List Oper) (st : St) (K : St → Prop) : Prop :=
  ∀ (a : Act) (w : World) (σ : Sig) (φ : Pl) (Q : Exit → Act → World → Prop), Rel c st a w σ φ →
    (∀ a' w' σ' φ' st', K st' → Rel c st' a' w' σ' φ' → Q .normal a' w') → wpListIn (fnc c) 0 P ops Q l a w
def OkC (P : Program) (c : Ctx) (code : Code) (st : St) (Q : Exit → St → Prop) : Prop :=
  ∀ (a : Act) (w : World) (σ : Sig) (φ : Pl), Rel c st a w σ φ → code.wpIn (fnc c) 0 P (fun e a' w' => ∃ st' σ' φ', Q e st' ∧ RelE c e st' a' w' σ' φ') a w
theorem okops_nil {ops : Array Oper} {st : St} {K : St → Prop} (h : K st) : OkOps P c ops [] st K := fun _ _ _ _ _ hr hQ => hQ _ _ _ _ _ h hr
theorem okops_mono {ops : Array Oper} {l : List Oper} {st : St} {K K' : St → Prop} (h : OkOps P c ops l st K) (hk : ∀ st, K st → K' st) : OkOps P c ops l st K' :=
  fun a w σ φ Q hr hQ => h a w σ φ Q hr fun a' w' σ' φ' st' h' => hQ a' w' σ' φ' st' (hk _ h')
theorem okops_run {ops : Array Oper} {o : Oper} {rest : List Oper} {st : St} {K : St → Prop} (hg : o.guard = none)
    (H : ∀ (a : Act) (w : World) (σ : Sig) (φ : Pl), Rel c st a w σ φ → ∃ u w' st' σ' φ', (execOp a.eval o).run P w = .ok (.value u) w' ∧ Rel c st' (a.put o.dst u) w' σ' φ' ∧ OkOps P c ops rest st' K) :
    OkOps P c ops (o :: rest) st K := by
  intro a w σ φ Q hr hQ
  obtain ⟨u, w', st', σ', φ', hrun, hr', hok⟩ := H a w σ φ hr
  refine wpListIn_plain hg fun K' hK => ⟨fun f _ => fnc_fn c f, ?_⟩
  rw [semAt_run (by simp) hrun]
  exact hK _ _ (hok _ _ _ _ _ hr' hQ)
theorem okops_skip {ops : Array Oper} {o : Oper} {rest : List Oper} {st : St} {K : St → Prop} (hg : o.guard = none)
    (H : ∀ (a : Act) (w : World) (σ : Sig) (φ : Pl), Rel c st a w σ φ → ∃ w' st' σ' φ', (execOp a.eval o).run P w = .ok .skip w' ∧ Rel c st' (a.put o.dst undef) w' σ' φ' ∧ OkOps P c ops rest st' K) :
    OkOps P c ops (o :: rest) st K := by
  intro a w σ φ Q hr hQ
  obtain ⟨w', st', σ', φ', hrun, hr', hok⟩ := H a w σ φ hr
  refine wpListIn_plain hg fun K' hK => ⟨fun f _ => fnc_fn c f, ?_⟩
  rw [semAt_run (by simp) hrun]
  exact hK _ _ (hok _ _ _ _ _ hr' hQ)
def slotB (st : St) (ops : Array Oper) (j : Nat) : Option (Option Bool) :=
  match nth ops.toList j with
  | some o => match o.dst with
    | some d => match look st.fr d with
      | some (.one (.d (.bool b))) => some (some b)
      | some (.tup []) => some none
      | _ => none
    | none => none
  | none => none
theorem slotB_ok {st : St} {a : Act} {w : World} {σ : Sig} {φ : Pl} (h : Rel c st a w σ φ) {ops : Array Oper} {j : Nat} {y : Option Bool} (hb : slotB st ops j = some y) : yielded ops a.tmps j = y := by
  unfold slotB at hb
  split at hb <;> (try (simp at hb; done))
  rename_i o ho
  split at hb <;> (try (simp at hb; done))
  rename_i d hd
  rw [nth_eq, Array.getElem?_toList] at ho
  split at hb <;> simp at hb
  · rename_i b' hl
    subst hb
    obtain ⟨u, hu, hr⟩ := h.slot d _ hl
    replace hr := RepC.d_inv hr
    cases hr
    simp [yielded, ho, hd, hu]
  · rename_i hl
    subst hb
    obtain ⟨u, hu, vs, rfl, hr⟩ := h.slot d _ hl
    match vs, hr with
    | [], _ => simp [yielded, ho, hd, hu]
theorem okops_guard {ops : Array Oper} {o : Oper} {rest : List Oper} {st : St} {K : St → Prop} {j : Nat} {want b : Bool} (hg : o.guard = some (j, want)) (hb : slotB st ops j = some (some b)) (hw : b = want)
    (h : OkOps P c ops ({ o with guard := none } :: rest) st K) : OkOps P c ops (o :: rest) st K := by
  intro a w σ φ Q hr hQ
  have := h a w σ φ Q hr hQ
  unfold wpListIn at this ⊢
  have hy := slotB_ok hr hb
  have h1 : Region.wanted o (yielded ops a.tmps) = true := by simp [Region.wanted, hg, hy, hw]
  have h2 : Region.wanted { o with guard := none } (yielded ops a.tmps) = true := rfl
  rw [if_pos h2] at this
  rw [if_pos h1]
  exact ⟨fun f _ => fnc_fn c f, by
    have h3 := this.2
    have e1 : ({ o with guard := none } : Oper).semAt (fnc c).round a.eval = o.semAt (fnc c).round a.eval := by
      obtain ⟨dst, op, type, pos, after, guard⟩ := o
      cases op <;> rfl
    rw [e1] at h3
    exact h3⟩
theorem okops_out {ops : Array Oper} {o : Oper} {rest : List Oper} {st : St} {K : St → Prop} {j : Nat} {want : Bool} {y : Option Bool} (hg : o.guard = some (j, want)) (hb : slotB st ops j = some y) (hw : (y == some want) = false)
    (hd : dstOk c.n o.dst = true) (h : OkOps P c ops rest ⟨putO o.dst (.tup []) st.fr, st.sto⟩ K) : OkOps P c ops (o :: rest) st K := by
  intro a w σ φ Q hr hQ
  have hy := slotB_ok hr hb
  have h1 : Region.wanted o (yielded ops a.tmps) = false := by simp [Region.wanted, hg, hy, hw]
  unfold wpListIn
  rw [if_neg (by rw [h1]; simp)]
  exact ⟨fun f _ => fnc_fn c f, h _ _ _ _ _ (hr.put hd ⟨[], rfl, trivial⟩) hQ⟩
theorem okops_val (hT : TabOk P T) {ops : Array Oper} {o : Oper} {rest : List Oper} {st : St} {K : St → Prop} {v : AV} (hg : o.guard = none) (hd : dstOk c.n o.dst = true) (hv : valF T st o.op = some v)
    (h : OkOps P c ops rest ⟨putO o.dst v st.fr, st.sto⟩ K) : OkOps P c ops (o :: rest) st K :=
  okops_run hg fun a w σ φ hr => by
    obtain ⟨u, hu, hru⟩ := valF_run hT hr hv
    exact ⟨u, w, _, σ, φ, hu, hr.put hd hru, h⟩
theorem okops_pick {ops : Array Oper} {o : Oper} {rest : List Oper} {st : St} {K : St → Prop} {x y z : Operand} {b : Bool} {v : AV} (ho : o.op = .pick x y z) (hg : o.guard = none) (hd : dstOk c.n o.dst = true)
    (hx : ev st x = some (.one (.d (.bool b)))) (hv : ev st (if b then y else z) = some v)
    (h : OkOps P c ops rest ⟨putO o.dst v st.fr, st.sto⟩ K) : OkOps P c ops (o :: rest) st K :=
  okops_run hg fun a w σ φ hr => by
    have h1 := ev_rep hr hx
    replace h1 := RepC.d_inv h1
    generalize hu : a.eval x = u at h1
    cases h1
    refine ⟨a.eval (if b then y else z), w, _, σ, φ, ?_, hr.put hd (ev_rep hr hv), h⟩
    simp only [execOp, ho, hu, asBool, Sem.run_bind, Sem.run_pure, Result.andThen_ok]
    cases b <;> rfl
theorem ok_mono {code : Code} {st : St} {Q Q' : Exit → St → Prop} (h : OkC P c code st Q) (hq : ∀ e st, Q e st → Q' e st) : OkC P c code st Q' :=
  fun a w σ φ hr => wpIn_mono (h a w σ φ hr) fun _ _ _ ⟨st', σ', φ', h1, h2⟩ => ⟨st', σ', φ', hq _ _ h1, h2⟩
theorem ok_region {id : Nat} {ops : Array Oper} {st : St} {Q : Exit → St → Prop} (h : OkOps P c ops ops.toList st (Q .normal)) : OkC P c (.region id ops false) st Q :=
  fun a w σ φ hr => wpIn_region_list (h a w σ φ _ hr fun _ _ _ _ _ hk hr' => ⟨_, _, _, hk, .inl hr'⟩)
def thenQ (next : St → Prop) (Q : Exit → St → Prop) : Exit → St → Prop
  | .normal => next
  | e => Q e
theorem ok_seq {x y : Code} {st : St} {Q : Exit → St → Prop} (h : OkC P c x st (thenQ (fun st' => OkC P c y st' Q) Q)) : OkC P c (.seq x y) st Q :=
  fun a w σ φ hr => wpIn_seq (wpIn_mono (h a w σ φ hr) fun e a' w' ⟨st', σ', φ', h1, h2⟩ => by
    cases e with
    | normal => exact h1 a' w' σ' φ' (h2.rel (by simp))
    | _ => exact ⟨st', σ', φ', h1, h2⟩)
theorem ok_skip {st : St} {Q : Exit → St → Prop} (h : Q .normal st) : OkC P c .skip st Q := fun _ _ _ _ hr => wpIn_skip ⟨_, _, _, h, .inl hr⟩
theorem ok_ret {st : St} {Q : Exit → St → Prop} (h : Q .ret st) : OkC P c .ret st Q := fun _ _ _ _ hr => wpIn_ret ⟨_, _, _, h, .inl hr⟩
theorem ok_exit {id : Nat} {st : St} {Q : Exit → St → Prop} (h : Q (.exit id) st) : OkC P c (.exit id) st Q := fun _ _ _ _ hr => wpIn_exit ⟨_, _, _, h, .inl hr⟩
theorem ok_cond {x : Operand} {p q : Code} {st : St} {Q : Exit → St → Prop} {b : Bool} (hx : ev st x = some (.one (.d (.bool b)))) (ht : b = true → OkC P c p st Q) (hf : b = false → OkC P c q st Q) :
    OkC P c (.cond x p q) st Q := fun a w σ φ hr => by
  have h1 := ev_rep hr hx
  replace h1 := RepC.d_inv h1
  generalize hu : a.eval x = u at h1
  cases h1
  cases b
  · exact wpIn_cond_false hu (hf rfl a w σ φ hr)
  · exact wpIn_cond_true hu (ht rfl a w σ φ hr)
def blockQ (id : Nat) (Q : Exit → St → Prop) : Exit → St → Prop
  | .exit id' => bif Nat.beq id' id then Q .normal else Q (.exit id')
  | e => Q e
theorem ok_block {id : Nat} {x : Code} {st : St} {Q : Exit → St → Prop} (h : OkC P c x st (blockQ id Q)) : OkC P c (.block id x) st Q :=
  fun a w σ φ hr => wpIn_block (wpIn_mono (h a w σ φ hr) fun e a' w' ⟨st', σ', φ', h1, h2⟩ => by
    cases e with
    | exit id' =>
      simp only [blockQ, Exit.inBlock] at h1 ⊢
      cases hb : Nat.beq id' id with
      | true =>
        have := Nat.eq_of_beq_eq_true hb
        simp only [hb, cond_true] at h1
        rw [if_pos this]; exact ⟨st', σ', φ', h1, .inl (h2.rel (by simp))⟩
      | false =>
        simp only [hb, cond_false] at h1
        have : id' ≠ id := by rintro rfl; rw [Nat.beq_refl] at hb; cases hb
        rw [if_neg this]; exact ⟨st', σ', φ', h1, .inl (h2.rel (by simp))⟩
    | _ => exact ⟨st', σ', φ', h1, h2⟩)
end Go.Abs
namespace Go.Abs
open Go
variable {P : Program} {c : Ctx} {T : Tab} {σ : Sig} {φ : Pl} {sto : Sto} {w : World}
def Imp (c : Ctx) (st st' : St) : Prop := ∀ (a : Act) (w : World) (σ : Sig) (φ : Pl), Rel c st a w σ φ → ∃ σ' φ', Rel c st' a w σ' φ'
theorem Imp.refl (st : St) : Imp c st st := fun _ _ σ φ h => ⟨σ, φ, h⟩
theorem Imp.trans {a b d : St} (h : Imp c a b) (h' : Imp c b d) : Imp c a d := fun x w σ φ hr =>
  let ⟨σ', φ', h1⟩ := h x w σ φ hr
  h' x w σ' φ' h1
theorem okops_imp {ops : Array Oper} {l : List Oper} {st st' : St} {K : St → Prop} (hi : Imp c st st') (h : OkOps P c ops l st' K) : OkOps P c ops l st K :=
  fun a w σ φ Q hr hQ => let ⟨σ', φ', h1⟩ := hi a w σ φ hr; h a w σ' φ' Q h1 hQ
theorem okc_imp {code : Code} {st st' : St} {Q : Exit → St → Prop} (hi : Imp c st st') (h : OkC P c code st' Q) : OkC P c code st Q :=
  fun a w σ φ hr => let ⟨σ', φ', h1⟩ := hi a w σ φ hr; h a w σ' φ' h1
def allD : List AC → Option (List D)
  | [] => some []
  | .d x :: r => match allD r with | some l => some (x :: l) | none => none
  | _ :: _ => none
def sealC (id : Nat) (o : AObj) : AC → AC
  | .own i n => bif Nat.beq i id then (match o with | .row k b xs => .d (.sl k b (xs.take n)) | _ => .junk) else .own i n
  | .sub i lo n => bif Nat.beq i id then (match o with | .row k b xs => .d (.sl k b ((xs.drop lo).take n)) | _ => .junk) else .sub i lo n
  | .ref i off => bif Nat.beq i id then (match o with | .box cs => (match allD cs with | some ds => .d (.ptr (ds.drop off)) | none => .junk) | _ => .junk) else .ref i off
  | .rref i j off => bif Nat.beq i id then .junk else .rref i j off
  | .yl i => bif Nat.beq i id then .junk else .yl i
  | .mapr i => bif Nat.beq i id then .junk else .mapr i
  | .bsl i off n => bif Nat.beq i id then .junk else .bsl i off n
  | .d x => .d x
  | .junk => .junk
def sealCs (id : Nat) (o : AObj) : List AC → List AC
  | [] => []
  | c :: r => sealC id o c :: sealCs id o r
def sealTs (id : Nat) (o : AObj) : List (Bool × List AC) → List (Bool × List AC)
  | [] => []
  | (g, cs) :: r => (g, sealCs id o cs) :: sealTs id o r
def sealV (id : Nat) (o : AObj) : AV → AV
  | .one c => .one (sealC id o c)
  | .agg cs => .agg (sealCs id o cs)
  | .tup ts => .tup (sealTs id o ts)
  | .any => .any
def sealFr (id : Nat) (o : AObj) : List (Nat × AV) → List (Nat × AV)
  | [] => []
  | (s, v) :: r => (s, sealV id o v) :: sealFr id o r
def sealSto (id : Nat) (o : AObj) : Sto → Sto
  | [] => []
  | (i, .box cs) :: r => bif Nat.beq i id then sealSto id o r else (i, .box (sealCs id o cs)) :: sealSto id o r
  | (i, .row k b xs) :: r => bif Nat.beq i id then sealSto id o r else (i, .row k b xs) :: sealSto id o r
  | (i, .map kg vg es) :: r => bif Nat.beq i id then sealSto id o r else (i, .map kg vg es) :: sealSto id o r
  | (i, .loop li fr s p) :: r => bif Nat.beq i id then sealSto id o r else (i, .loop li (sealFr id o fr) s p) :: sealSto id o r
theorem allD_eq : ∀ {cs : List AC} {ds : List D}, allD cs = some ds → cs = ds.map .d
  | [], _, h => by simp [allD] at h; subst h; rfl
  | .d x :: r, ds, h => by
    simp only [allD] at h
    split at h <;> simp at h
    rename_i l hl
    subst h
    rw [allD_eq hl]; rfl
  | .own _ _ :: _, _, h => by simp [allD] at h
  | .sub _ _ _ :: _, _, h => by simp [allD] at h
  | .ref _ _ :: _, _, h => by simp [allD] at h
  | .rref _ _ _ :: _, _, h => by simp [allD] at h
  | .yl _ :: _, _, h => by simp [allD] at h
  | .mapr _ :: _, _, h => by simp [allD] at h
  | .bsl _ _ _ :: _, _, h => by simp [allD] at h
  | .junk :: _, _, h => by simp [allD] at h
def sealO (id : Nat) (o : AObj) : AObj → AObj
  | .box cs => .box (sealCs id o cs)
  | .row k b xs => .row k b xs
  | .map kg vg es => .map kg vg es
  | .loop li fr s p => .loop li (sealFr id o fr) s p
theorem look_sealSto {id : Nat} {o : AObj} : ∀ {sto : Sto} {i : Nat} {e : AObj}, look (sealSto id o sto) i = some e → i ≠ id ∧ ∃ e0, look sto i = some e0 ∧ e = sealO id o e0
  | [], _, _, h => by simp [sealSto, look] at h
  | (j, x) :: r, i, e, h => by
    have hcase : sealSto id o ((j, x) :: r) = bif Nat.beq j id then sealSto id o r else (j, sealO id o x) :: sealSto id o r := by cases x <;> rfl
    rw [hcase] at h
    cases hb : Nat.beq j id with
    | true =>
      simp only [hb, cond_true] at h
      obtain ⟨h1, e0, h2, h3⟩ := look_sealSto h
      have hj := Nat.eq_of_beq_eq_true hb
      exact ⟨h1, e0, by rw [look_ne (by rw [hj]; exact h1)]; exact h2, h3⟩
    | false =>
      simp only [hb, cond_false] at h
      rcases look_cons h with ⟨rfl, rfl⟩ | ⟨hne, h⟩
      · refine ⟨?_, x, look_self, rfl⟩
        rintro rfl
        rw [Nat.beq_refl] at hb; cases hb
      · obtain ⟨h1, e0, h2, h3⟩ := look_sealSto h
        exact ⟨h1, e0, by rw [look_ne hne]; exact h2, h3⟩
theorem look_sealSto_of {id : Nat} {o : AObj} {i : Nat} (hne : i ≠ id) : ∀ {sto : Sto} {e : AObj}, look sto i = some e → look (sealSto id o sto) i = some (sealO id o e)
  | [], _, h => by simp [look] at h
  | (j, x) :: r, e, h => by
    have hcase : sealSto id o ((j, x) :: r) = bif Nat.beq j id then sealSto id o r else (j, sealO id o x) :: sealSto id o r := by cases x <;> rfl
    rw [hcase]
    rcases look_cons h with ⟨rfl, rfl⟩ | ⟨hn, h⟩
    · have : Nat.beq i id = false := by
        cases hb : Nat.beq i id with
        | true => exact absurd (Nat.eq_of_beq_eq_true hb) hne
        | false => rfl
      simp only [this, cond_false]
      exact look_self
    · cases hb : Nat.beq j id with
      | true => simp only [cond_true]; exact look_sealSto_of hne h
      | false => simp only [cond_false]; rw [look_ne hn]; exact look_sealSto_of hne h
theorem beq_ne {i id : Nat} (h : Nat.beq i id = false) : i ≠ id := by rintro rfl; rw [Nat.beq_refl] at h; cases h
theorem sealO_compat {id : Nat} {o e : AObj} : compat e (sealO id o e) := by cases e <;> simp [sealO, compat]
theorem look_sealSto_none {id : Nat} {o : AObj} {i : Nat} {sto : Sto} (h : look sto i = none) : look (sealSto id o sto) i = none := by
  cases hl : look (sealSto id o sto) i with
  | none => rfl
  | some e =>
    obtain ⟨_, e0, h1, _⟩ := look_sealSto hl
    rw [h] at h1; cases h1
theorem Ext.sealing {id : Nat} {o : AObj} : Ext (· = id) φ φ sto (sealSto id o sto) :=
  Ext.of_some (fun _ _ hi h => ⟨rfl, _, look_sealSto_of hi h, sealO_compat⟩) (fun _ _ h => look_sealSto_none h)
def SealSig (σ σ' : Sig) (φ : Pl) (w : World) (id : Nat) : Prop :=
  (φ id = none ∧ σ' = σ) ∨ ∃ B cap arr t, φ id = some (B, cap) ∧ w.heap[B]? = some (.cells arr t (0, 0)) ∧ σ B = none ∧ σ' = updS σ B arr
theorem SealSig.le {σ σ' : Sig} {id : Nat} (h : SealSig σ σ' φ w id) : σ.le σ' := by
  rcases h with ⟨_, rfl⟩ | ⟨B, cap, arr, t, _, _, hs, rfl⟩
  · exact Sig.le_refl _
  · exact updS_le (.inl hs)
def isCells : AObj → Bool
  | .box _ | .row _ _ _ => true
  | _ => false
theorem HInv.sealSig (h : HInv σ φ sto w) {id : Nat} {o : AObj} (hl : look sto id = some o) (hc : isCells o = true) : ∃ σ', SealSig σ σ' φ w id := by
  have ho := h.obj _ _ hl
  cases o with
  | box cs =>
    obtain ⟨B, c', vs, t, h1, h2, _, h4⟩ := ho
    exact ⟨_, .inr ⟨B, c', _, t, h1, h2, h4, rfl⟩⟩
  | row k b xs =>
    rcases ho with ⟨_, h2⟩ | ⟨B, cap, arr, t, vs, h1, h2, _, _, _, _, _, _, _, h10⟩
    · exact ⟨_, .inl ⟨h2, rfl⟩⟩
    · exact ⟨_, .inr ⟨B, cap, arr, t, h1, h2, h10, rfl⟩⟩
  | map => simp [isCells] at hc
  | loop => simp [isCells] at hc
theorem row_sealed {σ σ' : Sig} {id k b B cap : Nat} {xs : List (List D)} {arr : Array Value} {t : TypeId} (hσ : σ' = updS σ B arr) (hs : σ B = none) (hp : φ id = some (B, cap))
    (hh : w.heap[B]? = some (.cells arr t (0, 0))) (ho : ObjRep σ φ sto w id (.row k b xs)) {lo n c' : Nat} {A : Option Addr} (hn : lo + n ≤ xs.length) (hc : n ≤ c')
    (hA : 0 < n → A = some ⟨B, lo * k, none⟩) : Rep σ' (.sl k b ((xs.drop lo).take n)) (.slice A n c') := by
  rcases ho with ⟨_, h2⟩ | ⟨B', cap', arr', t', vs, h1, h2, h3, h4, h5, h6, h7, h8, h9, h10⟩
  · rw [hp] at h2; cases h2
  · rw [hp] at h1; cases h1
    rw [hh] at h2; cases h2
    have hlen : ((xs.drop lo).take n).length = n := by simp; omega
    have hle : σ.le σ' := hσ ▸ updS_le (.inl hs)
    have e : (.slice A n c' : Value) = .slice A ((xs.drop lo).take n).length c' := by rw [hlen]
    rw [e]
    refine .sl (fun i j => vs (lo + i) j) (by omega) (by omega) ?_ (fun x hx => h7 x (List.mem_of_mem_drop (List.mem_of_mem_take hx))) (fun h0 => ?_) (fun i j x d hx hd => ?_)
    · rw [hlen]; exact Nat.le_trans (Nat.mul_le_mul_right _ (by omega)) h6
    · refine ⟨B, lo * k, arr, hA (by omega), by simp [hσ, updS], fun i j hi hj => ?_⟩
      have := h8 (lo + i) j (by omega) hj
      rw [Nat.add_mul] at this
      exact this
    · have hx' : xs[lo + i]? = some x := by
        rw [List.getElem?_take] at hx
        split at hx
        · simpa [List.getElem?_drop] using hx
        · cases hx
      exact (h9 (lo + i) j x d hx' hd).mono hle
theorem sealC_rep {σ σ' : Sig} (h : HInv σ φ sto w) {id : Nat} {o : AObj} (hl : look sto id = some o) (hS : SealSig σ σ' φ w id) {x : AC} {v : Value} (hx : RepC σ φ sto x v) :
    RepC σ' φ (sealSto id o sto) (sealC id o x) v := by
  have hle := hS.le
  have hone := hx.oneCell
  have other : (∀ i, i = id → x.men i = false) → RepC σ' φ (sealSto id o sto) x v := fun hm => hx.ext hle Ext.sealing hm
  cases hx with
  | d hx => exact .d (hx.mono hle)
  | ownNil hl' hp =>
    rename_i i k b xs
    simp only [sealC]
    cases hb : Nat.beq i id with
    | false => exact other fun j hj => by cases hj; exact hb
    | true =>
      have := Nat.eq_of_beq_eq_true hb; subst this
      rw [hl] at hl'; cases hl'
      simp only [cond_true, List.take_zero]
      exact .d (.sl (fun _ _ => undef) (by simp) (by simp) (by simp) (by simp) (by simp) (by simp))
  | own hl' hn hp =>
    rename_i i n k b B cap xs
    simp only [sealC]
    cases hb : Nat.beq i id with
    | false => exact other fun j hj => by cases hj; exact hb
    | true =>
      have := Nat.eq_of_beq_eq_true hb; subst this
      rw [hl] at hl'; cases hl'
      simp only [cond_true]
      rcases hS with ⟨h1, _⟩ | ⟨B', cap', arr, t, h1, h2, h3, rfl⟩
      · rw [hp] at h1; cases h1
      · rw [hp] at h1; cases h1
        have ho := h.obj _ _ hl
        have hcap : n ≤ cap := by
          rcases ho with ⟨_, h2'⟩ | ⟨B', cap', arr', t', vs, h1, h2, _, h4, _⟩
          · rw [hp] at h2'; cases h2'
          · rw [hp] at h1; cases h1; omega
        have := row_sealed (lo := 0) (n := n) (c' := cap) (A := some ⟨B, 0, none⟩) rfl h3 hp h2 ho (by omega) hcap (fun _ => by simp)
        simp only [List.drop_zero] at this
        exact .d this
  | sub hl' hn hc hA =>
    rename_i i lo n k b c' xs A
    simp only [sealC]
    cases hb : Nat.beq i id with
    | false => exact other fun j hj => by cases hj; exact hb
    | true =>
      have := Nat.eq_of_beq_eq_true hb; subst this
      rw [hl] at hl'; cases hl'
      simp only [cond_true]
      by_cases h0 : 0 < n
      · obtain ⟨B, cap, hp, hA'⟩ := hA h0
        rcases hS with ⟨h1, _⟩ | ⟨B', cap', arr, t, h1, h2, h3, rfl⟩
        · rw [hp] at h1; cases h1
        · rw [hp] at h1; cases h1
          exact .d (row_sealed rfl h3 hp h2 (h.obj _ _ hl) hn hc (fun _ => hA'))
      · have h0 : n = 0 := by omega
        subst h0
        simp only [List.take_zero]
        exact .d (.sl (fun _ _ => undef) (by simp) (by simp) (by simp) (by simp) (by simp) (by simp))
  | ref hl' hp =>
    rename_i i off B cap cs
    simp only [sealC]
    cases hb : Nat.beq i id with
    | false => exact other fun j hj => by cases hj; exact hb
    | true =>
      have := Nat.eq_of_beq_eq_true hb; subst this
      rw [hl] at hl'; cases hl'
      simp only [cond_true]
      cases hd : allD cs with
      | none => exact .junk rfl
      | some ds =>
        simp only
        obtain rfl := allD_eq hd
        rcases hS with ⟨h1, _⟩ | ⟨B', cap', arr, t, h1, h2, h3, rfl⟩
        · rw [hp] at h1; cases h1
        · rw [hp] at h1; cases h1
          obtain ⟨vs, t', hh, ha⟩ := box_mem h hl hp
          rw [h2] at hh; cases hh
          refine .d (.ptr (cells := vs.toArray) (fun j => vs.getD (off + j) undef) (by simp [updS]) (fun j hj => ?_) (fun j d hj => ?_))
          · have hj' : off + j < vs.length := by have := ha.length; simp at this hj; omega
            simp [List.getD, List.getElem?_eq_getElem hj']
          · have hj' : (ds.map AC.d)[off + j]? = some (.d d) := by simpa [List.getElem?_drop] using hj
            obtain ⟨u, hu, hru⟩ := ha.get hj'
            replace hru := RepC.d_inv hru
            simp only [List.getD, hu, Option.getD_some]
            exact hru.mono (updS_le (.inl h3))
  | rref hl' hp =>
    rename_i i j off k b B cap xs
    simp only [sealC]
    cases hb : Nat.beq i id with
    | false => exact other fun j hj => by cases hj; exact hb
    | true => exact .junk rfl
  | yl hl' hp =>
    rename_i i _ _ _ _ _ _
    simp only [sealC]
    cases hb : Nat.beq i id with
    | false => exact other fun j hj => by cases hj; exact hb
    | true => exact .junk rfl
  | mapr hl' hp =>
    rename_i i _ _ _ _ _
    simp only [sealC]
    cases hb : Nat.beq i id with
    | false => exact other fun j hj => by cases hj; exact hb
    | true => exact .junk rfl
  | bsl hl' hp =>
    rename_i i off n B cap cs
    simp only [sealC]
    cases hb : Nat.beq i id with
    | false => exact other fun j hj => by cases hj; exact hb
    | true => exact .junk rfl
  | junk hx => exact .junk hx
  | dead hx _ =>
    have hm : x.men id = false ∧ sealC id o x = x := by
      have hk := hasK_of hl
      have gen : ∀ {i : Nat}, hasK sto i = false → Nat.beq i id = false := by
        intro i hi
        cases hb : Nat.beq i id with
        | false => rfl
        | true => rw [Nat.eq_of_beq_eq_true hb, hk] at hi; cases hi
      cases x with
      | own i n => have := gen hx; exact ⟨this, by simp [sealC, this]⟩
      | sub i lo n => have := gen hx; exact ⟨this, by simp [sealC, this]⟩
      | ref i off => have := gen hx; exact ⟨this, by simp [sealC, this]⟩
      | rref i j off => have := gen hx; exact ⟨this, by simp [sealC, this]⟩
      | yl i => have := gen hx; exact ⟨this, by simp [sealC, this]⟩
      | mapr i => have := gen hx; exact ⟨this, by simp [sealC, this]⟩
      | bsl i off n => have := gen hx; exact ⟨this, by simp [sealC, this]⟩
      | d x => simp [acIn] at hx
      | junk => simp [acIn] at hx
    rw [hm.2]
    exact other fun j hj => by cases hj; exact hm.1
theorem sealCs_rep {σ σ' : Sig} (h : HInv σ φ sto w) {id : Nat} {o : AObj} (hl : look sto id = some o) (hS : SealSig σ σ' φ w id) : ∀ {cs : List AC} {vs : List Value}, All2 (RepC σ φ sto) cs vs →
    All2 (RepC σ' φ (sealSto id o sto)) (sealCs id o cs) vs
  | [], [], _ => trivial
  | _ :: _, _ :: _, hh => ⟨sealC_rep h hl hS hh.1, sealCs_rep h hl hS hh.2⟩
  | [], _ :: _, hh => hh.elim
  | _ :: _, [], hh => hh.elim
theorem sealV_rep {σ σ' : Sig} (h : HInv σ φ sto w) {id : Nat} {o : AObj} (hl : look sto id = some o) (hS : SealSig σ σ' φ w id) {x : AV} {v : Value} (hx : RepV σ φ sto x v) :
    RepV σ' φ (sealSto id o sto) (sealV id o x) v := by
  cases x with
  | one c => exact sealC_rep h hl hS hx
  | agg cs => obtain ⟨vs, rfl, hh⟩ := hx; exact ⟨vs, rfl, sealCs_rep h hl hS hh⟩
  | tup ts =>
    obtain ⟨vs, rfl, hh⟩ := hx
    refine ⟨vs, rfl, ?_⟩
    induction ts generalizing vs with
    | nil => cases vs <;> simp_all [All2, sealTs]
    | cons t ts ih =>
      cases vs with
      | nil => exact hh.elim
      | cons v vs =>
        refine ⟨?_, ih vs hh.2⟩
        obtain ⟨g, cs⟩ := t
        cases g with
        | true => obtain ⟨us, rfl, hu⟩ := hh.1; exact ⟨us, rfl, sealCs_rep h hl hS hu⟩
        | false => exact sealCs_rep h hl hS hh.1
  | any => trivial
theorem look_sealFr {id : Nat} {o : AObj} : ∀ {fr : List (Nat × AV)} {s : Nat} {v : AV}, look (sealFr id o fr) s = some v → ∃ v0, look fr s = some v0 ∧ v = sealV id o v0
  | [], _, _, h => by simp [sealFr, look] at h
  | (j, x) :: r, s, v, h => by
    simp only [sealFr] at h
    rcases look_cons h with ⟨rfl, rfl⟩ | ⟨hne, h⟩
    · exact ⟨x, look_self, rfl⟩
    · obtain ⟨v0, h1, h2⟩ := look_sealFr h
      exact ⟨v0, by rw [look_ne hne]; exact h1, h2⟩
theorem HInv.sealing {σ σ' : Sig} (h : HInv σ φ sto w) {id : Nat} {o : AObj} (hl : look sto id = some o) (hS : SealSig σ σ' φ w id) : HInv σ' φ (sealSto id o sto) w := by
  refine ⟨fun b cs hb => ?_, fun i e hi => ?_, fun i i' e1 e2 p p' h1 h2 hne hp hp' => ?_⟩
  · rcases hS with ⟨_, rfl⟩ | ⟨B, cap, arr, t, _, hh, hs, rfl⟩
    · exact h.sig b cs hb
    · unfold updS at hb
      by_cases e : b = B
      · subst e; simp at hb; subst hb; exact ⟨t, _, hh⟩
      · simp [e] at hb; exact h.sig b cs hb
  · obtain ⟨hne, e0, h0, rfl⟩ := look_sealSto hi
    have ho := h.obj _ _ h0
    have hσ : ∀ B c, φ i = some (B, c) → σ' B = σ B := by
      intro B c' hB
      rcases hS with ⟨_, rfl⟩ | ⟨B', cap, arr, t, hp, hh, hs, rfl⟩
      · rfl
      · have : B ≠ B' := h.inj _ _ _ _ _ _ h0 hl hne hB hp
        simp [updS, this]
    cases e0 with
    | box cs =>
      obtain ⟨B, c', vs, t, h1, h2, h3, h4⟩ := ho
      exact ⟨B, c', vs, t, h1, h2, sealCs_rep h hl hS h3, (hσ B c' h1).trans h4⟩
    | row k b xs =>
      rcases ho with h1 | ⟨B, cap, arr, t, vs, h1, h2, h3, h4, h5, h6, h7, h8, h9, h10⟩
      · exact .inl h1
      · exact .inr ⟨B, cap, arr, t, vs, h1, h2, h3, h4, h5, h6, h7, h8, fun i j x d hx hd => (h9 i j x d hx hd).mono hS.le, (hσ B cap h1).trans h10⟩
    | map kg vg es =>
      obtain ⟨B, c', ents, h1, h2, h3, h4⟩ := ho
      exact ⟨B, c', ents, h1, h2, h3.mono hS.le, (hσ B c' h1).trans h4⟩
    | loop li fr s p =>
      obtain ⟨B, c', r, h1, h2, h3, h3', h4⟩ := ho
      exact ⟨B, c', r, h1, h2, h3, fun s v hv => by
        obtain ⟨v0, hv0, rfl⟩ := look_sealFr hv
        obtain ⟨u, hu, hru⟩ := h3' s v0 hv0
        exact ⟨u, hu, sealV_rep h hl hS hru⟩, (hσ B c' h1).trans h4⟩
  · obtain ⟨_, e3, h3, _⟩ := look_sealSto h1
    obtain ⟨_, e4, h4, _⟩ := look_sealSto h2
    exact h.inj _ _ _ _ _ _ h3 h4 hne hp hp'
end Go.Abs
namespace Go.Abs
open Go
variable {P : Program} {c : Ctx} {T : Tab} {σ : Sig} {φ : Pl} {sto : Sto} {w : World}
def SubL {α : Type} (l : List (Nat × α)) : List (Nat × α) → Prop
  | [] => True
  | (s, v) :: r => look l s = some v ∧ SubL l r
theorem SubL.look {α : Type} {l : List (Nat × α)} : ∀ {l' : List (Nat × α)}, SubL l l' → ∀ {s : Nat} {v : α}, look l' s = some v → Go.Abs.look l s = some v
  | [], _, _, _, h => by simp [Go.Abs.look] at h
  | (t, u) :: r, hs, s, v, h => by
    rcases look_cons h with ⟨rfl, rfl⟩ | ⟨_, h⟩
    · exact hs.1
    · exact SubL.look hs.2 h
theorem Ext.sub {sto' : Sto} (hs : SubL sto sto') : Ext (fun _ => False) φ φ sto sto' := by
  intro id _
  cases hl : Go.Abs.look sto' id with
  | none => exact .inl rfl
  | some e => exact .inr ⟨e, hs.look hl, rfl, e, rfl, compat.refl e⟩
theorem ok_loop {body : Code} {st : St} {Q : Exit → St → Prop} (I : Nat → St → Prop) (n0 : Nat) (h0 : I n0 st)
    (hround : ∀ n st, I n st → OkC P c body st (thenQ (fun st' => ∃ m st'', m < n ∧ I m st'' ∧ Imp c st' st'') Q)) : OkC P c (.loop body) st Q := by
  intro a w σ φ hr
  have hμ : ∀ (a : Act) (w : World), ∃ m : Nat, ∀ n, (∃ st σ φ, I n st ∧ Rel c st a w σ φ) → m ≤ n ∧ ∃ st σ φ, I m st ∧ Rel c st a w σ φ := by
    intro a w
    by_cases hex : ∃ n, ∃ st σ φ, I n st ∧ Rel c st a w σ φ
    · obtain ⟨n, hn⟩ := hex
      induction n using Nat.strongRecOn with
      | _ n ih =>
        by_cases hs : ∃ m, m < n ∧ ∃ st σ φ, I m st ∧ Rel c st a w σ φ
        · obtain ⟨m, hm, h⟩ := hs
          exact ih m hm h
        · refine ⟨n, fun k hk => ⟨?_, hn⟩⟩
          rcases Nat.lt_or_ge k n with h | h
          · exact absurd ⟨k, h, hk⟩ hs
          · exact h
    · exact ⟨0, fun n hn => absurd ⟨n, hn⟩ hex⟩
  have hμ' := fun a => Classical.axiomOfChoice (hμ a)
  obtain ⟨μ, hμ''⟩ := Classical.axiomOfChoice hμ'
  refine wpIn_loop (fun a w => ∃ n st σ φ, I n st ∧ Rel c st a w σ φ) μ ⟨n0, st, σ, φ, h0, hr⟩ ?_
  rintro a w ⟨n, hn⟩
  obtain ⟨hle, st, σ, φ, hI, hr⟩ := hμ'' a w n hn
  refine wpIn_mono (hround _ st hI a w σ φ hr) fun e a' w' ⟨st', σ', φ', h1, h2⟩ => ?_
  cases e with
  | normal =>
    obtain ⟨m, st'', hm, hI', himp⟩ := h1
    obtain ⟨σ'', φ'', h3⟩ := himp a' w' σ' φ' (h2.rel (by simp))
    have := hμ'' a' w' m ⟨st'', σ'', φ'', hI', h3⟩
    exact ⟨⟨m, st'', σ'', φ'', hI', h3⟩, by omega⟩
  | _ => exact ⟨st', σ', φ', h1, h2⟩
theorem imp_nil {fr : List (Nat × AV)} {sto : Sto} {s k b : Nat} (hl : look fr s = some (.one (.d .nil))) : Imp c ⟨fr, sto⟩ ⟨(s, .one (.d (.sl k b []))) :: fr, sto⟩ := by
  intro a w σ φ hr
  refine ⟨σ, φ, ⟨hr.le, hr.fresh, hr.inv, hr.mine, fun t v hv => ?_, hr.defers, hr.size, hr.fra, hr.pin⟩⟩
  rcases look_cons hv with ⟨rfl, rfl⟩ | ⟨_, hv⟩
  · obtain ⟨u, hu, hru⟩ := hr.slot _ _ hl
    refine ⟨u, hu, ?_⟩
    replace hru := RepC.d_inv hru
    cases hru
    exact .d (.sl (fun _ _ => undef) (by simp) (by simp) (by simp) (by simp) (by simp) (by simp))
  · exact hr.slot t v hv
theorem Fra.alloc (h : Fra c w) (o : Obj) : Fra c (w.alloc o) :=
  ⟨h.os, h.tape, h.output, by rw [World.size_alloc]; exact Nat.le_succ_of_le h.size, h.drawn, fun b hb hm => by
    rw [RowKit.Below.heap_alloc w o b (Nat.lt_of_lt_of_le hb h.size)]
    exact h.block b hb hm⟩
theorem sig_new (h : HInv σ φ sto w) : σ w.heap.size = none := by
  cases hb : σ w.heap.size with
  | none => rfl
  | some cs =>
    obtain ⟨t, f, hh⟩ := h.sig _ _ hb
    have := (Array.getElem?_eq_some_iff.1 hh).1
    omega
theorem okops_new {ops : Array Oper} {o : Oper} {rest : List Oper} {st : St} {K : St → Prop} {d id : Nat} {obj : AObj} {v : AV} (hg : o.guard = none) (hdst : o.dst = some d) (hd : (Nat.blt d c.n && Nat.blt id 1000000) = true)
    (hm1 : frMen id st.fr = false) (hm2 : stoMen id st.sto = false)
    (H : ∀ (a : Act) (w : World) (σ : Sig) (φ : Pl), Rel c st a w σ φ → ∃ (u : Value) (arr : Array Value) (t : TypeId) (cap : Nat), (execOp a.eval o).run P w = .ok (.value u) (w.alloc (.cells arr t)) ∧
      ObjRep σ (updP φ id (some (w.heap.size, cap))) ((id, obj) :: st.sto) (w.alloc (.cells arr t)) id obj ∧ RepV σ (updP φ id (some (w.heap.size, cap))) ((id, obj) :: st.sto) v u)
    (h : OkOps P c ops rest ⟨(d, v) :: st.fr, (id, obj) :: st.sto⟩ K) : OkOps P c ops (o :: rest) st K :=
  okops_run hg fun a w σ φ hr => by
    obtain ⟨u, arr, t, cap, hrun, hobj, hv⟩ := H a w σ φ hr
    refine ⟨u, _, _, σ, updP φ id (some (w.heap.size, cap)), hrun, ?_, h⟩
    rw [hdst]
    simp only [Bool.and_eq_true] at hd
    have hd' : dstOk c.n (some d) = true := hd.1
    refine hr.putTo (dst := some d) (st' := ⟨st.fr, (id, obj) :: st.sto⟩) hd' hr.le hr.fresh (hr.inv.add hm2 hobj) ?_ (hr.fra.alloc _) (fun i hi => by
      have : i ≠ id := by have := Nat.le_of_ble_eq_true hd.2; omega
      rw [updP_ne this]; exact hr.pin i hi) (fun _ => hv) ?_
    · intro i e p hi hp
      rcases look_cons hi with ⟨rfl, rfl⟩ | ⟨hne, hi⟩
      · rw [updP_self] at hp; cases hp; exact .inl hr.fra.size
      · rw [updP_ne hne] at hp; exact hr.mine _ _ _ hi hp
    · intro s x _ hx
      exact ⟨x, hx, fun z hz => hz.ext (Sig.le_refl _) Ext.add fun j hj => by cases hj; exact frMen_look hm1 hx⟩
theorem alloc_heap_new (w : World) (o : Obj) : (w.alloc o).heap[w.heap.size]? = some o := heap_alloc_new w o
theorem okops_alloc (hT : TabOk P T) {ops : Array Oper} {o : Oper} {rest : List Oper} {st : St} {K : St → Prop} {d id : Nat} {t : TypeId} {td : TD} (ho : o.op = .alloc t) (hg : o.guard = none) (hdst : o.dst = some d)
    (hd : (Nat.blt d c.n && Nat.blt id 1000000) = true) (ht : look T t = some td) (hm1 : frMen id st.fr = false) (hm2 : stoMen id st.sto = false)
    (h : OkOps P c ops rest ⟨(d, .one (.ref id 0)) :: st.fr, (id, .box (td.zero.map .d)) :: st.sto⟩ K) : OkOps P c ops (o :: rest) st K := by
  refine okops_new hg hdst hd hm1 hm2 (fun a w σ φ hr => ?_) h
  obtain ⟨i, u, z, hi, hu, hs, _, hz, hk, hzc, hzb, hzl, _⟩ := (hT t td ht).ex
  refine ⟨_, (td.zero.map litV).toArray, t, 0, ?_, ⟨w.heap.size, 0, td.zero.map litV, t, updP_self, alloc_heap_new w _, zero_rep hzb, sig_new hr.inv⟩, .ref (cap := 0) look_self updP_self⟩
  simp [execOp, ho, Instr.alloc, run_zeroValue hi hz, newVar, newRow, hzc]
theorem okops_box {ops : Array Oper} {o : Oper} {rest : List Oper} {st : St} {K : St → Prop} {d id : Nat} {t : TypeId} {x : Operand} {v : AV} {cs : List AC} (ho : o.op = .box t x) (hg : o.guard = none) (hdst : o.dst = some d)
    (hd : (Nat.blt d c.n && Nat.blt id 1000000) = true) (hx : ev st x = some v) (hc : cellsOf v = some cs) (hm1 : frMen id st.fr = false) (hm2 : stoMen id st.sto = false) (hm3 : acsMen id cs = false)
    (h : OkOps P c ops rest ⟨(d, .one (.ref id 0)) :: st.fr, (id, .box cs) :: st.sto⟩ K) : OkOps P c ops (o :: rest) st K := by
  refine okops_new hg hdst hd hm1 hm2 (fun a w σ φ hr => ?_) h
  have hrep := cellsOf_rep hc (ev_rep hr hx)
  refine ⟨_, (a.eval x).cells, t, 0, ?_, ⟨w.heap.size, 0, (a.eval x).cells.toList, t, updP_self, ?_, acs_ext (Sig.le_refl _) Ext.add (fun j hj => by cases hj; exact hm3) hrep, sig_new hr.inv⟩,
    .ref (cap := 0) look_self updP_self⟩
  · simp [execOp, ho, Instr.box, newVar, newRow]
  · rw [Array.toArray_toList]; exact alloc_heap_new w _
end Go.Abs
namespace Go.Abs
open Go
variable {P : Program} {c : Ctx} {T : Tab} {σ : Sig} {φ : Pl} {sto : Sto} {w : World}
theorem splice_some {α : Type} : ∀ {o : Nat} {n l : List α}, o + n.length ≤ l.length → splice o n l = some (l.take o ++ n ++ l.drop (o + n.length))
  | 0, [], l, _ => by simp [splice]
  | 0, c :: n, x :: l, h => by
    simp only [List.length_cons] at h
    simp only [splice]
    rw [splice_some (o := 0) (by omega)]
    simp
  | o + 1, n, x :: l, h => by
    simp only [List.length_cons] at h
    simp only [splice]
    rw [splice_some (o := o) (by omega)]
    have : o + 1 + n.length = (o + n.length) + 1 := by omega
    simp [this]
  | 0, _ :: _, [], h => by simp at h
  | o + 1, n, [], h => by simp at h
theorem flatten_get {α : Type} {k : Nat} : ∀ {xs : List (List α)} {i j : Nat} {x : List α}, (∀ x ∈ xs, x.length = k) → xs[i]? = some x → j < k → xs.flatten[i * k + j]? = x[j]?
  | [], _, _, _, _, h, _ => by simp at h
  | y :: ys, 0, j, x, hk, h, hj => by
    simp at h; subst h
    have := hk y (by simp)
    simp only [List.flatten_cons, Nat.zero_mul, Nat.zero_add]
    rw [List.getElem?_append_left (by omega)]
  | y :: ys, i + 1, j, x, hk, h, hj => by
    have hy := hk y (by simp)
    have e : (i + 1) * k + j = y.length + (i * k + j) := by rw [hy, Nat.succ_mul]; omega
    simp only [List.flatten_cons]
    rw [e, List.getElem?_append_right (by omega), Nat.add_sub_cancel_left]
    exact flatten_get (fun x hx => hk x (by simp [hx])) (by simpa using h) hj
theorem flatten_len {α : Type} {k : Nat} : ∀ {xs : List (List α)}, (∀ x ∈ xs, x.length = k) → xs.flatten.length = xs.length * k
  | [], _ => by simp
  | y :: ys, hk => by
    have hy := hk y (by simp)
    simp only [List.flatten_cons, List.length_append, List.length_cons]
    rw [flatten_len (fun x hx => hk x (by simp [hx])), hy, Nat.succ_mul]; omega
theorem ObjRep.mk_row {id k b B cap : Nat} {xs : List (List D)} {arr : Array Value} {t : TypeId} (h1 : φ id = some (B, cap)) (h2 : w.heap[B]? = some (.cells arr t (0, 0))) (h3 : arr.size = cap * k)
    (h4 : xs.length ≤ cap) (h5 : xs.length < 2 ^ 48) (h6 : xs.length * b ≤ 2 ^ 47) (h7 : ∀ x ∈ xs, x.length = k) {us : List Value} (h8 : All2 (Rep σ) xs.flatten us)
    (h9 : ∀ (j : Nat) (u : Value), us[j]? = some u → arr[j]? = some u) (h10 : σ B = none) : ObjRep σ φ sto w id (.row k b xs) := by
  have key : ∀ i j x d, xs[i]? = some x → x[j]? = some d → ∃ u, arr[i * k + j]? = some u ∧ Rep σ d u := by
    intro i j x d hx hd
    have hj : j < k := by
      rw [← h7 x (List.mem_of_getElem? hx)]
      exact (List.getElem?_eq_some_iff.1 hd).1
    obtain ⟨u, hu, hr⟩ := h8.get ((flatten_get h7 hx hj).trans hd)
    exact ⟨u, h9 _ _ hu, hr⟩
  refine .inr ⟨B, cap, arr, t, fun i j => arr.getD (i * k + j) undef, h1, h2, h3, h4, h5, h6, h7, fun i j hi hj => ?_, fun i j x d hx hd => ?_, h10⟩
  · have hx : xs[i]? = some xs[i] := List.getElem?_eq_getElem hi
    have hl := h7 xs[i] (List.getElem_mem hi)
    obtain ⟨u, hu, _⟩ := key i j xs[i] (xs[i][j]'(by omega)) hx (List.getElem?_eq_getElem (by omega))
    simp [Array.getD_eq_getD_getElem?, hu]
  · obtain ⟨u, hu, hr⟩ := key i j x d hx hd
    simpa [Array.getD_eq_getD_getElem?, hu] using hr
theorem ObjRep.row_cells {id k b B cap : Nat} {xs : List (List D)} (h : ObjRep σ φ sto w id (.row k b xs)) (hp : φ id = some (B, cap)) :
    ∃ (arr : Array Value) (t : TypeId) (us : List Value), w.heap[B]? = some (.cells arr t (0, 0)) ∧ arr.size = cap * k ∧ xs.length ≤ cap ∧ xs.length < 2 ^ 48 ∧ xs.length * b ≤ 2 ^ 47 ∧ (∀ x ∈ xs, x.length = k) ∧
      All2 (Rep σ) xs.flatten us ∧ (∀ (j : Nat) (u : Value), us[j]? = some u → arr[j]? = some u) ∧ σ B = none ∧ us.length = xs.length * k := by
  rcases h with ⟨_, h2⟩ | ⟨B', cap', arr, t, vs, h1, h2, h3, h4, h5, h6, h7, h8, h9, h10⟩
  · rw [hp] at h2; cases h2
  · rw [hp] at h1; cases h1
    have hfl := flatten_len h7
    have hsz : xs.length * k ≤ arr.size := by rw [h3]; exact Nat.mul_le_mul_right _ h4
    refine ⟨arr, t, arr.toList.take (xs.length * k), h2, h3, h4, h5, h6, h7, ?_, ?_, h10, ?_⟩
    · refine All2.of_get (by simp [hfl]; omega) fun j d u hd hu => ?_
      have hj : j < xs.length * k := by rw [← hfl]; exact (List.getElem?_eq_some_iff.1 hd).1
      have hk : 0 < k := by
        rcases Nat.eq_zero_or_pos k with h0 | h0
        · subst h0; simp at hj
        · exact h0
      have hi : j / k < xs.length := Nat.div_lt_of_lt_mul (by rw [Nat.mul_comm]; exact hj)
      have hm : j % k < k := Nat.mod_lt _ hk
      have hx : xs[j / k]? = some xs[j / k] := List.getElem?_eq_getElem hi
      have e : j / k * k + j % k = j := by rw [Nat.mul_comm]; exact Nat.div_add_mod j k
      have h11 := flatten_get h7 hx hm
      rw [e, hd] at h11
      have h12 := h8 (j / k) (j % k) hi hm
      rw [e] at h12
      have h13 := h9 (j / k) (j % k) _ d hx h11.symm
      have : u = vs (j / k) (j % k) := by
        rw [List.getElem?_take, if_pos hj] at hu
        rw [Array.getElem?_toList, h12] at hu
        cases hu; rfl
      rw [this]; exact h13
    · intro j u hu
      rw [List.getElem?_take] at hu
      split at hu
      · simpa using hu
      · cases hu
    · simp; omega
theorem imp_sto {fr : List (Nat × AV)} {sto sto' : Sto} (h : ∀ i, look sto' i = look sto i) : Imp c ⟨fr, sto⟩ ⟨fr, sto'⟩ := by
  intro a w σ φ hr
  have hE : Ext (fun _ => False) φ φ sto sto' := Ext.of_some (fun i e _ hi => ⟨rfl, e, (h i).trans hi, compat.refl _⟩) (fun i _ hi => (h i).trans hi)
  refine ⟨σ, φ, ⟨hr.le, hr.fresh, ⟨hr.inv.sig, fun i e hi => ?_, fun i i' e e' p p' hi hi' => hr.inv.inj _ _ _ _ _ _ ((h i).symm.trans hi) ((h i').symm.trans hi')⟩,
    fun i e p hi hp => hr.mine _ _ _ ((h i).symm.trans hi) hp, fun s v hv => ?_, hr.defers, hr.size, hr.fra, hr.pin⟩⟩
  · exact (hr.inv.obj _ _ ((h i).symm.trans hi)).ext (Sig.le_refl _) hE (fun j hj => by cases hj) rfl fun _ _ _ => ⟨rfl, rfl⟩
  · obtain ⟨u, hu, hru⟩ := hr.slot s v hv
    exact ⟨u, hu, hru.ext (Sig.le_refl _) hE fun j hj => by cases hj⟩
def setS (id : Nat) (o : AObj) : Sto → Sto
  | [] => [(id, o)]
  | p :: r => bif Nat.beq p.1 id then (id, o) :: r else p :: setS id o r
theorem look_setS {id : Nat} {o : AObj} : ∀ {sto : Sto} {i : Nat}, look (setS id o sto) i = look ((id, o) :: sto) i
  | [], _ => rfl
  | (j, x) :: r, i => by
    simp only [setS]
    cases hb : Nat.beq j id with
    | true =>
      have := Nat.eq_of_beq_eq_true hb; subst this
      simp only [cond_true, look]
      cases Nat.beq j i <;> rfl
    | false =>
      simp only [cond_false, look, look_setS (sto := r)]
      cases h1 : Nat.beq j i <;> cases h2 : Nat.beq id i <;> simp
      have e1 := Nat.eq_of_beq_eq_true h1
      have e2 := Nat.eq_of_beq_eq_true h2
      subst e1; subst e2
      rw [Nat.beq_refl] at hb; cases hb
end Go.Abs
namespace Go.Abs
open Go
variable {P : Program} {c : Ctx} {T : Tab} {σ : Sig} {φ : Pl} {sto : Sto} {w : World}
def sliceTy (T : Tab) (t : TypeId) : Option (TypeId × Nat × Nat × List D) :=
  match look T t with
  | some ⟨.slice e, _, _, _⟩ => match look T e with
    | some td => some (e, td.size, td.bytes, td.zero)
    | none => none
  | _ => none
theorem sliceTy_ok (hT : TabOk P T) {t e k b : Nat} {z : List D} (h : sliceTy T t = some (e, k, b, z)) :
    ∃ (i : TypeInfo) (zv : Value), P.underlying t = some (.slice e) ∧ P.info? e = some i ∧ i.size = k ∧ i.bytes = b ∧ i.zero = some zv ∧ zv.cells = (z.map litV).toArray ∧ (∀ x ∈ z, litB x = true) ∧ z.length = k := by
  unfold sliceTy at h
  split at h
  · rename_i e' _ _ _ h1
    split at h <;> simp at h
    rename_i td h2
    obtain ⟨rfl, rfl, rfl, rfl⟩ := h
    obtain ⟨_, u, _, _, hu, _, _, _, hk, _⟩ := (hT t _ h1).ex
    simp only [kindOk] at hk; subst hk
    obtain ⟨i, _, zv, hi, _, hs, hb, hz, _, hzc, hzb, hzl, _⟩ := (hT e' td h2).ex
    exact ⟨i, zv, hu, hi, hs, hb, hz, hzc, hzb, hzl⟩
  · simp at h
def partsD (st : St) (k : Nat) : Nat → List (Nat × Operand) → Option (List (List D))
  | _, [] => some []
  | i, (j, x) :: r => bif Nat.beq i j then (match ev st x with
      | some v => (match cellsOf v with
        | some cs => (match allD cs with
          | some ds => bif Nat.beq ds.length k then (match partsD st k (i + 1) r with | some l => some (ds :: l) | none => none) else none
          | none => none)
        | none => none)
      | none => none) else none
theorem partsD_len {st : St} {k : Nat} : ∀ {parts : List (Nat × Operand)} {i : Nat} {xs : List (List D)}, partsD st k i parts = some xs → xs.length = parts.length ∧ ∀ x ∈ xs, x.length = k
  | [], _, xs, h => by simp [partsD] at h; subst h; simp
  | (j, x) :: r, i, xs, h => by
    simp only [partsD] at h
    cases hb : Nat.beq i j <;> simp only [hb, cond_true, cond_false, reduceCtorEq] at h
    split at h <;> (try (simp at h; done))
    split at h <;> (try (simp at h; done))
    split at h <;> (try (simp at h; done))
    rename_i ds hd
    cases hk : Nat.beq ds.length k <;> simp only [hk, cond_true, cond_false, reduceCtorEq] at h
    split at h <;> simp at h
    rename_i l hl
    subst h
    obtain ⟨h1, h2⟩ := partsD_len hl
    exact ⟨by simp [h1], fun x hx => by
      rcases List.mem_cons.1 hx with rfl | hx
      · exact Nat.eq_of_beq_eq_true hk
      · exact h2 x hx⟩
theorem acs_d : ∀ {ds : List D} {vs : List Value}, All2 (RepC σ φ sto) (ds.map .d) vs → All2 (Rep σ) ds vs
  | [], [], _ => trivial
  | _ :: _, _ :: _, h => ⟨by have h := RepC.d_inv h.1; exact h, acs_d h.2⟩
  | [], _ :: _, h => h.elim
  | _ :: _, [], h => h.elim
theorem partsD_run {c : Ctx} {st : St} {a : Act} (hrel : Rel c st a w σ φ) {k : Nat} :
    ∀ (parts : List (Nat × Operand)) (i : Nat) (xs done : List (List D)) (rest : List AC) (cells : Array Value), partsD st k i parts = some xs → done.length = i → (∀ x ∈ done, x.length = k) →
      parts.length * k ≤ rest.length → All2 (RepC σ φ st.sto) (done.flatten.map .d ++ rest) cells.toList →
      ∃ cells' : Array Value, Instr.fill (fun i => some (i * k, k)) cells (parts.map fun p => (p.1, a.eval p.2)) = some cells' ∧ All2 (RepC σ φ st.sto) ((done ++ xs).flatten.map .d ++ rest.drop (parts.length * k)) cells'.toList
  | [], i, xs, done, rest, cells, h, _, _, _, ha => by
    simp [partsD] at h; subst h
    exact ⟨cells, rfl, by simpa using ha⟩
  | (j, x) :: r, i, xs, done, rest, cells, h, hi, hdk, hrl, ha => by
    simp only [partsD] at h
    cases hb : Nat.beq i j <;> simp only [hb, cond_true, cond_false, reduceCtorEq] at h
    split at h <;> (try (simp at h; done))
    rename_i v hv
    split at h <;> (try (simp at h; done))
    rename_i cs hcs
    split at h <;> (try (simp at h; done))
    rename_i ds hd
    cases hk : Nat.beq ds.length k <;> simp only [hk, cond_true, cond_false, reduceCtorEq] at h
    split at h <;> simp at h
    rename_i l hl
    subst h
    have hij := Nat.eq_of_beq_eq_true hb
    subst hij
    have hdl := Nat.eq_of_beq_eq_true hk
    obtain rfl := allD_eq hd
    have hr := cellsOf_rep hcs (ev_rep hrel hv)
    have hfl := flatten_len hdk
    have hfm : (done.flatten.map AC.d).length = i * k := by rw [List.length_map, hfl, hi]
    have hcat : (done ++ [ds]).flatten.map AC.d = done.flatten.map AC.d ++ ds.map AC.d := by
      rw [List.flatten_append, List.map_append]; simp
    have hsp : splice (i * k) (ds.map AC.d) (done.flatten.map .d ++ rest) = some ((done ++ [ds]).flatten.map .d ++ rest.drop k) := by
      rw [hcat]
      generalize done.flatten.map AC.d = f at hfm
      rw [splice_some (by simp only [List.length_map, List.length_append, hfm, hdl]; simp only [List.length_cons, Nat.succ_mul] at hrl; omega)]
      congr 1
      have e1 : (f ++ rest).take (i * k) = f := by
        rw [List.take_append_of_le_length (by omega)]
        exact List.take_of_length_le (by omega)
      have e2 : (f ++ rest).drop (i * k + (ds.map AC.d).length) = rest.drop k := by
        rw [List.drop_append, List.drop_of_length_le (by omega)]
        simp only [List.nil_append, hfm, List.length_map, hdl, Nat.add_sub_cancel_left]
      rw [e1, e2]
    obtain ⟨cells', h1, _, h3⟩ := fill_step (σ := σ) (φ := φ) (sto := st.sto) (fun i => some (i * k, k)) (i := i) (u := a.eval x) (rest := r.map fun p => (p.1, a.eval p.2)) (cells := cells) (o := i * k) (by simp [hdl]) hsp hr ha
    obtain ⟨cells'', h4, h5⟩ := partsD_run hrel r (i + 1) l (done ++ [ds]) (rest.drop k) cells' hl (by simp [hi]) (fun x hx => by
      rcases List.mem_append.1 hx with hx | hx
      · exact hdk x hx
      · simp at hx; subst hx; exact hdl) (by simp only [List.length_cons, Nat.succ_mul] at hrl; simp; omega) h1
    refine ⟨cells'', by simp only [List.map_cons]; rw [h3]; exact h4, ?_⟩
    have e : (rest.drop k).drop (r.length * k) = rest.drop (((i, x) :: r).length * k) := by
      rw [List.drop_drop, List.length_cons, Nat.succ_mul, Nat.add_comm]
    rw [e] at h5
    simpa using h5
theorem zeros_cells {k : Nat} {z : List D} {zv : Value} (hz : zv.cells = (z.map litV).toArray) (hzb : ∀ x ∈ z, litB x = true) (hl : z.length = k) (n : Nat) :
    All2 (RepC σ φ sto) ((List.replicate n z).flatten.map .d) (((Array.range (n * k)).map (fun i => zv.cells[i % zv.cells.size]!)).toList) := by
  refine All2.of_get ?_ fun j a b ha hb => ?_
  · rw [List.length_map, flatten_len (k := k) (by intro x hx; rw [List.eq_of_mem_replicate hx]; exact hl)]
    simp
  · have hj : j < n * k := by
      have := (List.getElem?_eq_some_iff.1 hb).1
      simpa using this
    have hk : 0 < k := by
      rcases Nat.eq_zero_or_pos k with h0 | h0
      · subst h0; simp at hj
      · exact h0
    have hi : j / k < n := Nat.div_lt_of_lt_mul (by rw [Nat.mul_comm]; exact hj)
    have hm : j % k < k := Nat.mod_lt _ hk
    have e : j / k * k + j % k = j := by rw [Nat.mul_comm]; exact Nat.div_add_mod j k
    have h1 : (List.replicate n z).flatten[j]? = z[j % k]? := by
      have := flatten_get (k := k) (xs := List.replicate n z) (i := j / k) (j := j % k) (x := z) (by intro x hx; rw [List.eq_of_mem_replicate hx]; exact hl) (by simp [hi]) hm
      rwa [e] at this
    have hmz : j % k < z.length := by omega
    have hsz : zv.cells.size = k := by rw [hz]; simp [hl]
    simp only [List.getElem?_map, h1, List.getElem?_eq_getElem hmz, Option.map_some, Option.some.injEq] at ha
    subst ha
    have hb' : b = litV z[j % k] := by
      simp only [Array.toList_map, List.getElem?_map, Array.getElem?_toList, Array.getElem?_range, hj, if_true, Option.map_some, Option.some.injEq] at hb
      rw [← hb, hsz]
      simp [hz, hmz]
    rw [hb']
    exact .d (litB_rep (hzb _ (List.getElem_mem hmz)))
theorem okops_buildSlice (hT : TabOk P T) {ops : Array Oper} {o : Oper} {rest : List Oper} {st : St} {K : St → Prop} {d id n k b : Nat} {t e : TypeId} {z : List D} {parts : Array (Nat × Operand)} {xs : List (List D)}
    (ho : o.op = .buildSlice t n parts) (hg : o.guard = none) (hdst : o.dst = some d) (hd : (Nat.blt d c.n && Nat.blt id 1000000) = true) (ht : sliceTy T t = some (e, k, b, z))
    (hp : partsD st k 0 parts.toList = some xs) (hn : Nat.beq parts.toList.length n = true) (hbig : (Nat.ble (n * k) 1000000 && Nat.ble (n * b) 1000000 && Nat.ble n 1000000) = true)
    (hm1 : frMen id st.fr = false) (hm2 : stoMen id st.sto = false)
    (h : OkOps P c ops rest ⟨(d, .one (.own id n)) :: st.fr, (id, .row k b xs) :: st.sto⟩ K) : OkOps P c ops (o :: rest) st K := by
  refine okops_new hg hdst hd hm1 hm2 (fun a w σ φ hr => ?_) h
  obtain ⟨i, zv, hu, hi, rfl, rfl, hz, hzc, hzb, hzl⟩ := sliceTy_ok hT ht
  have hnl := Nat.eq_of_beq_eq_true hn
  simp only [Bool.and_eq_true, Nat.ble_eq] at hbig
  obtain ⟨⟨hb1, hb2⟩, hb3⟩ := hbig
  obtain ⟨hl, hlk⟩ := partsD_len hp
  have hxn : xs.length = n := by omega
  have hz0 := zeros_cells (σ := σ) (φ := φ) (sto := st.sto) hzc hzb hzl n
  obtain ⟨cells', h1, h2⟩ := partsD_run hr (k := i.size) parts.toList 0 xs [] ((List.replicate n z).flatten.map .d) ((Array.range (n * i.size)).map (fun j => zv.cells[j % zv.cells.size]!)) hp rfl (by simp)
    (by rw [List.length_map, flatten_len (k := i.size) (by intro x hx; rw [List.eq_of_mem_replicate hx]; exact hzl)]; simp [hnl]) (by simpa using hz0)
  have hdrop : ((List.replicate n z).flatten.map AC.d).drop (parts.toList.length * i.size) = [] := by
    apply List.drop_of_length_le
    rw [List.length_map, flatten_len (k := i.size) (by intro x hx; rw [List.eq_of_mem_replicate hx]; exact hzl)]
    simp only [List.length_replicate, hnl]; exact Nat.le_refl _
  rw [hdrop, List.append_nil, List.nil_append] at h2
  have h2' := acs_d h2
  have hsz : cells'.size = n * i.size := by
    have := h2'.length
    rw [flatten_len hlk, hxn] at this
    simpa using this.symm
  refine ⟨.slice (some ⟨w.heap.size, 0, none⟩) n n, cells', e, n, ?_, ObjRep.mk_row (B := w.heap.size) (cap := n) updP_self (alloc_heap_new w _) hsz (by omega) (by omega) ?_ hlk h2' (fun j u hu => by simpa using hu) (sig_new hr.inv), ?_⟩
  · have hbig' : ¬ (n * i.size > 2 ^ 24) := by omega
    have hpm : (parts.map fun (x : Nat × Operand) => (x.1, a.eval x.2)).toList = parts.toList.map fun p => (p.1, a.eval p.2) := by simp
    simp only [execOp, ho, Instr.buildSlice, Sem.run_bind, run_underlying hu, Result.andThen_ok, run_sizeOf hi, if_neg hbig']
    by_cases h0 : n * i.size = 0
    · have e0 : ∀ f : Nat → Value, (Array.range (n * i.size)).map f = #[] := by rw [h0]; intro f; simp
      rw [e0] at h1
      simp only [if_pos h0, Sem.run_bind, Sem.run_pure, Result.andThen_ok, e0, hpm, h1]
      simp [newRow]
    · simp only [if_neg h0, Sem.run_bind, run_zeroValue hi hz, Sem.run_pure, Result.andThen_ok, hpm, h1]
      simp [newRow]
  · rw [hxn]; omega
  · have := RepC.own (σ := σ) (φ := updP φ id (some (w.heap.size, n))) (sto := (id, .row i.size i.bytes xs) :: st.sto) (id := id) (n := n) (B := w.heap.size) (cap := n) look_self (by omega) updP_self
    exact this
end Go.Abs
namespace Go.Abs
open Go
variable {P : Program} {c : Ctx} {T : Tab} {σ : Sig} {φ : Pl} {sto : Sto} {w : World}
theorem okops_makeSlice (hT : TabOk P T) {ops : Array Oper} {o : Oper} {rest : List Oper} {st : St} {K : St → Prop} {d id k b : Nat} {t e : TypeId} {z : List D} {x y : Operand} {n : Nat}
    (ho : o.op = .makeSlice t x y) (hg : o.guard = none) (hdst : o.dst = some d) (hd : (Nat.blt d c.n && Nat.blt id 1000000) = true) (ht : sliceTy T t = some (e, k, b, z))
    (hx : ev st x = some (.one (.d (.int .i64 (n : Int))))) (hy : ev st y = some (.one (.d (.int .i64 (n : Int))))) (hn : n < 2 ^ 47) (hb : n * b ≤ 2 ^ 47)
    (hm1 : frMen id st.fr = false) (hm2 : stoMen id st.sto = false)
    (h : OkOps P c ops rest ⟨(d, .one (.own id n)) :: st.fr, (id, .row k b (List.replicate n z)) :: st.sto⟩ K) : OkOps P c ops (o :: rest) st K := by
  refine okops_new hg hdst hd hm1 hm2 (fun a w σ φ hr => ?_) h
  obtain ⟨i, zv, hu, hi, rfl, rfl, hz, hzc, hzb, hzl⟩ := sliceTy_ok hT ht
  have hz0 := zeros_cells (σ := σ) (φ := φ) (sto := st.sto) hzc hzb hzl n
  have h1 := ev_rep hr hx
  have h2 := ev_rep hr hy
  replace h1 := RepC.d_inv h1
  replace h2 := RepC.d_inv h2
  generalize hux : a.eval x = ux at h1
  generalize huy : a.eval y = uy at h2
  cases h1
  cases h2
  have hlk : ∀ x ∈ List.replicate n z, x.length = i.size := by intro x hx; rw [List.eq_of_mem_replicate hx]; exact hzl
  refine ⟨.slice (some ⟨w.heap.size, 0, none⟩) n n, (Array.range (n * i.size)).map (fun j => zv.cells[j % zv.cells.size]!), e, n, ?_,
    ObjRep.mk_row (B := w.heap.size) (cap := n) updP_self (alloc_heap_new w _) (by simp) (by simp) (by simp; omega) (by simpa using hb) hlk (acs_d hz0) (fun j u hu => by rw [← Array.getElem?_toList]; exact hu) (sig_new hr.inv), ?_⟩
  · have hwrap : IntKind.i64.wrap (n : Int) = n := by
      unfold IntKind.wrap
      simp [IntKind.signed, IntKind.bits]
      have : (n : Int) % 18446744073709551616 = n := Int.emod_eq_of_lt (by omega) (by omega)
      rw [this]; split <;> omega
    have hnb : (i.bytes : Int) * (n : Int) ≤ 2 ^ 47 := by rw [Int.mul_comm]; exact_mod_cast hb
    have hbig : (decide ((n : Int) < 0) || decide ((i.bytes : Int) * (n : Int) > 2 ^ 48)) = false := by
      simp only [Bool.or_eq_false_iff, decide_eq_false_iff_not]
      omega
    have hroom : (askRoom (n * i.bytes)).run P w = .ok () w := by
      unfold askRoom roomBytes
      rw [if_neg (by omega)]; rfl
    simp only [execOp, ho, hux, huy, Instr.makeSlice, Sem.run_bind, run_underlying hu, Result.andThen_ok, asInt, asIntOf, Sem.run_pure, hwrap]
    simp only [typeInfo, Sem.run_bind, show (program).run P w = .ok P w from rfl, Result.andThen_ok, hi, Sem.run_pure]
    have hcond : ((decide ((n : Int) < 0) || decide ((i.bytes : Int) * (n : Int) > 2 ^ 48)) || decide ((n : Int) < 0) || decide ((n : Int) > (n : Int))) = false := by
      rw [hbig]; simp
    simp only [hcond, Bool.false_eq_true, if_false, Int.toNat_natCast, Sem.run_bind, hroom, Result.andThen_ok, run_sizeOf hi]
    by_cases h0 : n * i.size = 0
    · have e0 : ∀ f : Nat → Value, (Array.range (n * i.size)).map f = #[] := by rw [h0]; intro f; simp
      simp only [if_pos h0, Sem.run_bind, Sem.run_pure, Result.andThen_ok, e0]
      simp [newRow]
    · simp only [if_neg h0, Sem.run_bind, run_zeroValue hi hz, Sem.run_pure, Result.andThen_ok]
      simp [newRow]
  · exact RepC.own (cap := n) look_self (by simp) updP_self
theorem ev_int {a : Act} {st : St} (hr : Rel c st a w σ φ) {x : Operand} {k : IntKind} {n : Int} (hx : ev st x = some (.one (.d (.int k n)))) : a.eval x = .int k n := by
  have h1 := ev_rep hr hx
  replace h1 := RepC.d_inv h1
  generalize a.eval x = u at h1
  cases h1; rfl
theorem okops_idx (hT : TabOk P T) {ops : Array Oper} {o : Oper} {rest : List Oper} {st : St} {K : St → Prop} {k b k' b' : Nat} {t e : TypeId} {z : List D} {x y : Operand} {xs : List (List D)} {ik : IntKind} {n : Int} {el : List D}
    (ho : o.op = .indexAddr t x y) (hg : o.guard = none) (hd : dstOk c.n o.dst = true) (ht : sliceTy T t = some (e, k', b', z)) (hx : ev st x = some (.one (.d (.sl k b xs)))) (hk : Nat.beq k k' = true)
    (hy : ev st y = some (.one (.d (.int ik n)))) (hn : 0 ≤ n) (hel : xs[n.toNat]? = some el)
    (h : OkOps P c ops rest ⟨putO o.dst (.one (.d (.ptr el))) st.fr, st.sto⟩ K) : OkOps P c ops (o :: rest) st K :=
  okops_run hg fun a w σ φ hr => by
    obtain ⟨i, zv, hu, hi, rfl, _⟩ := sliceTy_ok hT ht
    obtain rfl := Nat.eq_of_beq_eq_true hk
    have h1 := ev_rep hr hx
    replace h1 := RepC.d_inv h1
    generalize hux : a.eval x = ux at h1
    have hlt : n.toNat < xs.length := (List.getElem?_eq_some_iff.1 hel).1
    cases h1 with
    | sl vs hc h48 hb hk hA hh =>
      rename_i A cap
      obtain ⟨B, off, cells, rfl, hσ, hcell⟩ := hA (by omega)
      refine ⟨.pointer (some ⟨B, off + n.toNat * i.size, none⟩), w, _, σ, φ, ?_, hr.put (v := .one (.d (.ptr el))) hd (.d (.ptr (fun j => vs n.toNat j) hσ (fun j hj => ?_) (fun j d hd => ?_))), h⟩
      · have hc1 : 0 ≤ n ∧ n < (xs.length : Int) := ⟨hn, by omega⟩
        simp [execOp, ho, hux, ev_int hr hy, Instr.indexAt, asIntOf, run_underlying hu, hc1, run_sizeOf hi, addr_add]
      · have := hk el (List.mem_of_getElem? hel)
        exact hcell _ _ hlt (by omega)
      · exact hh _ _ _ _ hel hd
theorem okops_idxOwn (hT : TabOk P T) {ops : Array Oper} {o : Oper} {rest : List Oper} {st : St} {K : St → Prop} {k b k' b' id m : Nat} {t e : TypeId} {z : List D} {x y : Operand} {xs : List (List D)} {ik : IntKind} {n : Int}
    (ho : o.op = .indexAddr t x y) (hg : o.guard = none) (hd : dstOk c.n o.dst = true) (ht : sliceTy T t = some (e, k', b', z)) (hx : ev st x = some (.one (.own id m))) (hl : look st.sto id = some (.row k b xs)) (hk : Nat.beq k k' = true)
    (hy : ev st y = some (.one (.d (.int ik n)))) (hn : 0 ≤ n) (hm : n < m)
    (h : OkOps P c ops rest ⟨putO o.dst (.one (.rref id n.toNat 0)) st.fr, st.sto⟩ K) : OkOps P c ops (o :: rest) st K :=
  okops_run hg fun a w σ φ hr => by
    obtain ⟨i, zv, hu, hi, rfl, _⟩ := sliceTy_ok hT ht
    obtain rfl := Nat.eq_of_beq_eq_true hk
    have h1 : RepC σ φ st.sto (.own id m) (a.eval x) := ev_rep hr hx
    generalize hux : a.eval x = ux at h1
    cases h1 with
    | dead hxx _ => simp [acIn, hasK_of hl] at hxx
    | ownNil h hp => omega
    | own hl' hn' hp =>
      rename_i B cap xs'
      rw [hl] at hl'; cases hl'
      refine ⟨.pointer (some ⟨B, n.toNat * i.size + 0, none⟩), w, _, σ, φ, ?_, hr.put (v := .one (.rref id n.toNat 0)) hd (.rref hl hp), h⟩
      have hc1 : 0 ≤ n ∧ n < (m : Int) := ⟨hn, hm⟩
      simp [execOp, ho, hux, ev_int hr hy, Instr.indexAt, asIntOf, run_underlying hu, hc1, run_sizeOf hi, addr_add]
theorem okops_idxSub (hT : TabOk P T) {ops : Array Oper} {o : Oper} {rest : List Oper} {st : St} {K : St → Prop} {k b k' b' id lo m : Nat} {t e : TypeId} {z : List D} {x y : Operand} {xs : List (List D)} {ik : IntKind} {n : Int}
    (ho : o.op = .indexAddr t x y) (hg : o.guard = none) (hd : dstOk c.n o.dst = true) (ht : sliceTy T t = some (e, k', b', z)) (hx : ev st x = some (.one (.sub id lo m))) (hl : look st.sto id = some (.row k b xs)) (hk : Nat.beq k k' = true)
    (hy : ev st y = some (.one (.d (.int ik n)))) (hn : 0 ≤ n) (hm : n < m)
    (h : OkOps P c ops rest ⟨putO o.dst (.one (.rref id (lo + n.toNat) 0)) st.fr, st.sto⟩ K) : OkOps P c ops (o :: rest) st K :=
  okops_run hg fun a w σ φ hr => by
    obtain ⟨i, zv, hu, hi, rfl, _⟩ := sliceTy_ok hT ht
    obtain rfl := Nat.eq_of_beq_eq_true hk
    have h1 : RepC σ φ st.sto (.sub id lo m) (a.eval x) := ev_rep hr hx
    generalize hux : a.eval x = ux at h1
    cases h1 with
    | dead hxx _ => simp [acIn, hasK_of hl] at hxx
    | sub hl' hn' hc hA =>
      rename_i A c' xs'
      rw [hl] at hl'; cases hl'
      obtain ⟨B, cap, hp, rfl⟩ := hA (by omega)
      refine ⟨.pointer (some ⟨B, (lo + n.toNat) * i.size + 0, none⟩), w, _, σ, φ, ?_, hr.put (v := .one (.rref id (lo + n.toNat) 0)) hd (.rref hl hp), h⟩
      have hc1 : 0 ≤ n ∧ n < (m : Int) := ⟨hn, hm⟩
      simp [execOp, ho, hux, ev_int hr hy, Instr.indexAt, asIntOf, run_underlying hu, hc1, run_sizeOf hi, addr_add, Nat.add_mul]
def arrTy (T : Tab) (t : TypeId) : Option (Nat × Nat) :=
  match look T t with
  | some ⟨.array n e, _, _, _⟩ => match look T e with
    | some td => some (n, td.size)
    | none => none
  | _ => none
theorem arrTy_ok (hT : TabOk P T) {t n s : Nat} (h : arrTy T t = some (n, s)) : ∃ (e : TypeId) (i : TypeInfo), P.underlying t = some (.array n e) ∧ P.info? e = some i ∧ i.size = s := by
  unfold arrTy at h
  split at h
  · rename_i e' _ _ _ h1
    split at h <;> simp at h
    rename_i td h2
    obtain ⟨rfl, rfl⟩ := h
    obtain ⟨_, u, _, _, hu, _, _, _, hk, _⟩ := (hT t _ h1).ex
    simp only [kindOk] at hk; subst hk
    obtain ⟨i, _, _, hi, _, hs, _⟩ := (hT _ td h2).ex
    exact ⟨_, i, hu, hi, hs⟩
  · simp at h
theorem okops_idxArr (hT : TabOk P T) {ops : Array Oper} {o : Oper} {rest : List Oper} {st : St} {K : St → Prop} {m s : Nat} {t : TypeId} {x y : Operand} {ik : IntKind} {n : Int} {v v' : AV}
    (ho : o.op = .indexAddr t x y) (hg : o.guard = none) (hd : dstOk c.n o.dst = true) (ht : arrTy T t = some (m, s)) (hx : ev st x = some v)
    (hy : ev st y = some (.one (.d (.int ik n)))) (hn : 0 ≤ n) (hm : n < m) (hv : addF st.sto (n.toNat * s) v = some v')
    (h : OkOps P c ops rest ⟨putO o.dst v' st.fr, st.sto⟩ K) : OkOps P c ops (o :: rest) st K :=
  okops_run hg fun a w σ φ hr => by
    obtain ⟨e, i, hu, hi, rfl⟩ := arrTy_ok hT ht
    obtain ⟨B, off, hux, hv'⟩ := addF_rep hv (ev_rep hr hx)
    refine ⟨.pointer (some ⟨B, off + n.toNat * i.size, none⟩), w, _, σ, φ, ?_, hr.put hd hv', h⟩
    have hc1 : 0 ≤ n ∧ n < (m : Int) := ⟨hn, hm⟩
    simp [execOp, ho, hux, ev_int hr hy, Instr.indexAt, Instr.sureAddr, asIntOf, run_underlying hu, hc1, run_sizeOf hi, addr_add]
theorem ev_str {a : Act} {st : St} (hr : Rel c st a w σ φ) {x : Operand} {s : List UInt8} (hx : ev st x = some (.one (.d (.str s)))) : a.eval x = .string ⟨s.toArray⟩ ∧ s.length < 2 ^ 48 := by
  have h1 := ev_rep hr hx
  replace h1 := RepC.d_inv h1
  generalize a.eval x = u at h1
  cases h1 with
  | str h => exact ⟨rfl, h⟩
def isStrT (T : Tab) (t : TypeId) : Bool := match look T t with | some ⟨.str, _, _, _⟩ => true | _ => false
theorem isStrT_ok (hT : TabOk P T) {t : TypeId} (h : isStrT T t = true) : P.underlying t = some .string := by
  unfold isStrT at h
  split at h
  · rename_i h1
    obtain ⟨_, u, _, _, hu, _, _, _, hk, _⟩ := (hT t _ h1).ex
    simp only [kindOk] at hk; subst hk; exact hu
  · simp at h
theorem okops_idxStr (hT : TabOk P T) {ops : Array Oper} {o : Oper} {rest : List Oper} {st : St} {K : St → Prop} {t : TypeId} {x y : Operand} {ik : IntKind} {n : Int} {s : List UInt8} {b : UInt8}
    (ho : o.op = .index t x y) (hg : o.guard = none) (hd : dstOk c.n o.dst = true) (ht : isStrT T t = true) (hx : ev st x = some (.one (.d (.str s))))
    (hy : ev st y = some (.one (.d (.int ik n)))) (hn : 0 ≤ n) (hb : s[n.toNat]? = some b)
    (h : OkOps P c ops rest ⟨putO o.dst (.one (.d (.int .u8 (b.toNat : Int)))) st.fr, st.sto⟩ K) : OkOps P c ops (o :: rest) st K :=
  okops_run hg fun a w σ φ hr => by
    have hu := isStrT_ok hT ht
    obtain ⟨hux, _⟩ := ev_str hr hx
    refine ⟨.int .u8 b.toNat, w, _, σ, φ, ?_, hr.put (v := .one (.d (.int .u8 (b.toNat : Int)))) hd (RepC.d (.int ?_)), h⟩
    · have hg' : (⟨s.toArray⟩ : ByteArray)[n.toNat]? = some b := by
        have hlt : n.toNat < s.length := (List.getElem?_eq_some_iff.1 hb).1
        have hlt' : n.toNat < (⟨s.toArray⟩ : ByteArray).size := by simpa [ByteArray.size] using hlt
        rw [getElem?_pos (⟨s.toArray⟩ : ByteArray) n.toNat hlt']
        have : s[n.toNat] = b := (List.getElem?_eq_some_iff.1 hb).2
        rw [← this]; rfl
      simp [execOp, ho, hux, ev_int hr hy, Instr.index, asIntOf, run_underlying hu, hn, hg']
    · have := b.toNat_lt
      unfold inR IntKind.min IntKind.max
      simp [IntKind.signed, IntKind.bits]; omega
theorem okops_loadR (hT : TabOk P T) {ops : Array Oper} {o : Oper} {rest : List Oper} {st : St} {K : St → Prop} {t : TypeId} {x : Operand} {id i off k b s : Nat} {g : Bool} {xs : List (List D)} {el : List D} {v : AV}
    (ho : o.op = .load t x) (hg : o.guard = none) (hd : dstOk c.n o.dst = true) (ht : tySz T t = some (g, s)) (hx : ev st x = some (.one (.rref id i off))) (hl : look st.sto id = some (.row k b xs))
    (hel : xs[i]? = some el) (hv : takeAs g s ((el.drop off).map .d) = some v)
    (h : OkOps P c ops rest ⟨putO o.dst v st.fr, st.sto⟩ K) : OkOps P c ops (o :: rest) st K :=
  okops_run hg fun a w σ φ hr => by
    have h1 : RepC σ φ st.sto (.rref id i off) (a.eval x) := ev_rep hr hx
    generalize hux : a.eval x = ux at h1
    cases h1 with
    | dead hxx _ => simp [acIn, hasK_of hl] at hxx
    | rref hl' hp =>
      rename_i k' b' B cap xs'
      rw [hl] at hl'; cases hl'
      obtain ⟨arr, ty, us, hh, hsz, hle, _, _, hlk, ha, hcell, _, hul⟩ := (hr.inv.obj _ _ hl).row_cells hp
      have hi : i < xs.length := (List.getElem?_eq_some_iff.1 hel).1
      have hek := hlk el (List.mem_of_getElem? hel)
      have hall : All2 (Rep σ) el ((us.drop (i * k)).take k) := by
        refine All2.of_get ?_ fun j d u hd hu => ?_
        · have : (i + 1) * k ≤ xs.length * k := Nat.mul_le_mul_right _ hi
          rw [Nat.succ_mul] at this
          simp [hul, hek]; omega
        · have hj : j < k := by rw [← hek]; exact (List.getElem?_eq_some_iff.1 hd).1
          rw [List.getElem?_take, if_pos hj, List.getElem?_drop] at hu
          obtain ⟨u', hu', hru⟩ := ha.get ((flatten_get hlk hel hj).trans hd)
          rw [hu] at hu'; cases hu'; exact hru
      have hmem : MemCells w B (i * k + off) (((us.drop (i * k)).take k).drop off) := by
        intro j u hu
        rw [List.getElem?_drop, List.getElem?_take] at hu
        split at hu
        · rw [List.getElem?_drop] at hu
          rw [cell_of_heap hh, Nat.add_assoc]
          exact hcell _ _ hu
        · cases hu
      obtain ⟨u, hu, hru⟩ := run_load_takeAs (φ := φ) (sto := st.sto) hT ht hv ((hall.drop off).map_d) hmem
      exact ⟨u, w, _, σ, φ, by simp [execOp, ho, hux, hu], hr.put hd hru, h⟩
end Go.Abs
namespace Go.Abs
open Go
variable {P : Program} {c : Ctx} {T : Tab} {σ : Sig} {φ : Pl} {sto : Sto} {w : World}
theorem oneCell_of {v : Value} (h : v.oneCell = true) : v.oneCell' = true := by cases v <;> first | rfl | simp [Value.oneCell] at h
theorem all_one {cs : List AC} {vs : List Value} (h : All2 (RepC σ φ sto) cs vs) : ∀ v ∈ vs, v.oneCell' = true := by
  induction cs generalizing vs with
  | nil => cases vs with
    | nil => simp
    | cons _ _ => exact h.elim
  | cons c cs ih => cases vs with
    | nil => exact h.elim
    | cons v vs =>
      intro u hu
      rcases List.mem_cons.1 hu with rfl | hu
      · exact oneCell_of h.1.oneCell
      · exact ih h.2 u hu
theorem Rel.write {st : St} {a : Act} (h : Rel c st a w σ φ) {id B cap : Nat} {o o' : AObj} {arr arr' : Array Value} {t : TypeId} (hl : look st.sto id = some o) (hp : φ id = some (B, cap))
    (hh : w.heap[B]? = some (.cells arr t (0, 0))) (hc : compat o o') (hobj : ObjRep σ φ ((id, o') :: st.sto) (w.setRow B arr') id o') :
    ∃ σ' φ', Rel c ⟨st.fr, setS id o' st.sto⟩ a (w.setRow B arr') σ' φ' := by
  have hE : Ext (fun _ => False) φ φ st.sto ((id, o') :: st.sto) := Ext.upd hl hc
  have hm := h.mine _ _ _ hl hp
  have h1 : Rel c ⟨st.fr, (id, o') :: st.sto⟩ a (w.setRow B arr') σ φ := by
    refine ⟨h.le, h.fresh, h.inv.set hl hp ((h.inv.obj _ _ hl).sig hp) (fun b hb => setRow_other w B b arr' hb) hc hobj, fun i e p hi hpi => ?_, fun s v hv => ?_, h.defers, h.size, ?_, h.pin⟩
    · rcases look_cons hi with ⟨rfl, rfl⟩ | ⟨_, hi⟩
      · rw [hp] at hpi; cases hpi; exact hm
      · exact h.mine _ _ _ hi hpi
    · obtain ⟨u, hu, hru⟩ := h.slot s v hv
      exact ⟨u, hu, hru.ext (Sig.le_refl _) hE fun j hj => by cases hj⟩
    · refine ⟨h.fra.os, h.fra.tape, h.fra.output, by rw [setRow_size]; exact h.fra.size, h.fra.drawn, fun b hb hM => ?_⟩
      have : b ≠ B := by
        rintro rfl
        rcases hm with hm | hm
        · simp only at hm; omega
        · exact hM hm
      rw [setRow_other w B b arr' this]
      exact h.fra.block b hb hM
  exact imp_sto (fun i => look_setS) a _ σ φ h1
theorem run_storeVar_at {t ty : TypeId} {i : TypeInfo} {B o : Nat} {arr : Array Value} {v : Value} (hi : P.info? t = some i) (hh : w.heap[B]? = some (.cells arr ty (0, 0))) (hs : v.cells.size = i.size)
    (hf : o + v.cells.size ≤ arr.size) (h1 : ∀ u ∈ v.cells.toList, u.oneCell' = true) :
    (storeVar t ⟨B, o, none⟩ v).run P w = .ok () (w.setRow B (arr.toList.take o ++ v.cells.toList ++ arr.toList.drop (o + v.cells.toList.length)).toArray) := by
  have hst := run_storeCells_at P B o ty v.cells.toList 0 arr w hh (by simpa using hf) h1
  simp only [Nat.add_zero] at hst
  unfold storeVar
  simp only [Sem.run_bind, run_sizeOf hi, Result.andThen_ok, hs, ne_eq, not_true_eq_false, if_false]
  exact hst
theorem okops_store (hT : TabOk P T) {ops : Array Oper} {o : Oper} {rest : List Oper} {st : St} {K : St → Prop} {t : TypeId} {x y : Operand} {id off s : Nat} {g : Bool} {cells cs cells' : List AC} {v : AV}
    (ho : o.op = .store t x y) (hg : o.guard = none) (hdst : o.dst = none) (ht : tySz T t = some (g, s)) (hx : ev st x = some (.one (.ref id off))) (hl : look st.sto id = some (.box cells))
    (hy : ev st y = some v) (hc : cellsOf v = some cs) (hn : Nat.beq cs.length s = true) (hsp : splice off cs cells = some cells')
    (h : OkOps P c ops rest ⟨st.fr, setS id (.box cells') st.sto⟩ K) : OkOps P c ops (o :: rest) st K := by
  refine okops_skip hg fun a w σ φ hr => ?_
  obtain ⟨i, u, hi, _, hs, _⟩ := tab_ex hT ht
  have h1 : RepC σ φ st.sto (.ref id off) (a.eval x) := ev_rep hr hx
  generalize hux : a.eval x = ux at h1
  have hrep := cellsOf_rep hc (ev_rep hr hy)
  have hns := Nat.eq_of_beq_eq_true hn
  obtain ⟨he, hle⟩ := splice_eq hsp
  cases h1 with
  | dead hxx _ => simp [acIn, hasK_of hl] at hxx
  | ref hl' hp =>
    rename_i B cap cs'
    rw [hl] at hl'; cases hl'
    obtain ⟨B', c', vs, ty, hp', hh, ha, hσ⟩ := hr.inv.obj _ _ hl
    rw [hp] at hp'; cases hp'
    have hlen := hrep.length
    have hlen2 := ha.length
    have hE : Ext (fun _ => False) φ φ st.sto ((id, .box cells') :: st.sto) := Ext.upd hl trivial
    have hrun := run_storeVar_at (P := P) (w := w) (t := t) (v := a.eval y) (o := off) hi hh (by rw [hs, ← hns, hlen, Array.length_toList]) (by rw [← Array.length_toList, ← hlen]; simp; omega) (all_one hrep)
    obtain ⟨σ', φ', hr'⟩ := hr.write (o' := .box cells') (arr' := (vs.take off ++ (a.eval y).cells.toList ++ vs.drop (off + (a.eval y).cells.toList.length)).toArray) hl hp hh trivial
      ⟨B, cap, _, ty, hp, setRow_heap w B _ _ ty _ hh, acs_ext (Sig.le_refl _) hE (fun j hj => by cases hj) (by
        rw [he, hlen]
        exact ((ha.take off).append hrep).append (ha.drop _)), hσ⟩
    refine ⟨_, _, σ', φ', ?_, by rw [hdst]; exact hr', h⟩
    simp only [execOp, ho, hux, Instr.storeAt, Instr.sureAddr, Sem.run_bind, Sem.run_pure, Result.andThen_ok, hrun]
theorem setL_flatten {α : Type} {k : Nat} : ∀ {xs : List (List α)} {i : Nat} {x y : List α}, (∀ x ∈ xs, x.length = k) → xs[i]? = some x → y.length = k →
    (xs.set i y).flatten = xs.flatten.take (i * k) ++ y ++ xs.flatten.drop (i * k + k)
  | [], _, _, _, _, h, _ => by simp at h
  | z :: zs, 0, x, y, hk, h, hy => by
    have hz := hk z (by simp)
    simp [hz]
  | z :: zs, i + 1, x, y, hk, h, hy => by
    have hz := hk z (by simp)
    simp only [List.set_cons_succ, List.flatten_cons]
    rw [setL_flatten (fun x hx => hk x (by simp [hx])) (by simpa using h) hy]
    have e1 : (i + 1) * k = z.length + i * k := by rw [hz, Nat.succ_mul]; omega
    have e2 : (i + 1) * k + k = z.length + (i * k + k) := by omega
    rw [e1, Nat.add_assoc, List.take_append, List.drop_append, List.take_of_length_le (Nat.le_add_right _ _), List.drop_of_length_le (Nat.le_add_right _ _), Nat.add_sub_cancel_left, Nat.add_sub_cancel_left]
    simp
theorem okops_storeR (hT : TabOk P T) {ops : Array Oper} {o : Oper} {rest : List Oper} {st : St} {K : St → Prop} {t : TypeId} {x y : Operand} {id j off k b s : Nat} {g : Bool} {xs : List (List D)} {el el' ds : List D} {cs : List AC} {v : AV}
    (ho : o.op = .store t x y) (hg : o.guard = none) (hdst : o.dst = none) (ht : tySz T t = some (g, s)) (hx : ev st x = some (.one (.rref id j off))) (hl : look st.sto id = some (.row k b xs)) (hel : xs[j]? = some el)
    (hy : ev st y = some v) (hc : cellsOf v = some cs) (hn : Nat.beq cs.length s = true) (hds : allD cs = some ds) (hsp : splice off ds el = some el')
    (h : OkOps P c ops rest ⟨st.fr, setS id (.row k b (xs.set j el')) st.sto⟩ K) : OkOps P c ops (o :: rest) st K := by
  refine okops_skip hg fun a w σ φ hr => ?_
  obtain ⟨i, u, hi, _, hs, _⟩ := tab_ex hT ht
  have h1 : RepC σ φ st.sto (.rref id j off) (a.eval x) := ev_rep hr hx
  generalize hux : a.eval x = ux at h1
  obtain rfl := allD_eq hds
  have hrep := cellsOf_rep hc (ev_rep hr hy)
  have hns := Nat.eq_of_beq_eq_true hn
  obtain ⟨he, hle⟩ := splice_eq hsp
  cases h1 with
  | dead hxx _ => simp [acIn, hasK_of hl] at hxx
  | rref hl' hp =>
    rename_i k' b' B cap xs'
    rw [hl] at hl'; cases hl'
    obtain ⟨arr, ty, us, hh, hsz, hle2, h48, hb47, hlk, ha, hcell, hσ, hul⟩ := (hr.inv.obj _ _ hl).row_cells hp
    have hlen := hrep.length
    rw [List.length_map] at hlen hns
    have hj : j < xs.length := (List.getElem?_eq_some_iff.1 hel).1
    have hek := hlk el (List.mem_of_getElem? hel)
    have hel'k : el'.length = k := by rw [he]; simp; omega
    have hjk : j * k + k ≤ xs.length * k := by have := Nat.mul_le_mul_right k hj; rw [Nat.succ_mul] at this; exact this
    have hasz : xs.length * k ≤ arr.size := by rw [hsz]; exact Nat.mul_le_mul_right _ hle2
    have hrun := run_storeVar_at (P := P) (w := w) (t := t) (v := a.eval y) (o := j * k + off) hi hh (by rw [hs, ← hns, hlen, Array.length_toList]) (by rw [← Array.length_toList, ← hlen]; omega) (all_one hrep)
    have hus : ∀ (q : Nat) (u : Value), (us.take (j * k + off) ++ (a.eval y).cells.toList ++ us.drop (j * k + off + (a.eval y).cells.toList.length))[q]? = some u →
        ((arr.toList.take (j * k + off) ++ (a.eval y).cells.toList ++ arr.toList.drop (j * k + off + (a.eval y).cells.toList.length)).toArray)[q]? = some u := by
      intro q u hq
      have hl1 : (us.take (j * k + off)).length = j * k + off := by simp; omega
      have hl2 : (arr.toList.take (j * k + off)).length = j * k + off := by simp; omega
      rw [List.append_assoc] at hq
      simp only [List.getElem?_toArray, List.append_assoc]
      rcases Nat.lt_or_ge q (j * k + off) with h0 | h0
      · rw [List.getElem?_append_left (by omega), List.getElem?_take, if_pos h0] at hq
        rw [List.getElem?_append_left (by omega), List.getElem?_take, if_pos h0, Array.getElem?_toList]
        exact hcell _ _ hq
      · rw [List.getElem?_append_right (by omega), hl1] at hq
        rw [List.getElem?_append_right (by omega), hl2]
        rcases Nat.lt_or_ge (q - (j * k + off)) (a.eval y).cells.toList.length with h2 | h2
        · rw [List.getElem?_append_left h2] at hq ⊢
          exact hq
        · rw [List.getElem?_append_right h2, List.getElem?_drop] at hq
          rw [List.getElem?_append_right h2, List.getElem?_drop, Array.getElem?_toList]
          exact hcell _ _ hq
    have hrow : (xs.set j el').flatten = xs.flatten.take (j * k + off) ++ ds ++ xs.flatten.drop (j * k + off + ds.length) := by
      rw [setL_flatten hlk hel hel'k, he]
      have hfl := flatten_len hlk
      have e1 : xs.flatten.take (j * k + off) = xs.flatten.take (j * k) ++ el.take off := by
        apply List.ext_getElem?
        intro q
        rw [List.getElem?_take]
        have hl1 : (xs.flatten.take (j * k)).length = j * k := by simp only [List.length_take, hfl]; omega
        split
        · rcases Nat.lt_or_ge q (j * k) with h0 | h0
          · rw [List.getElem?_append_left (by omega), List.getElem?_take, if_pos h0]
          · rw [List.getElem?_append_right (by omega), hl1, List.getElem?_take, if_pos (by omega)]
            have := flatten_get (j := q - j * k) hlk hel (by omega)
            rw [← this]; congr 1; omega
        · rw [List.getElem?_append_right (by omega), hl1, List.getElem?_take, if_neg (by omega)]
      have e2 : xs.flatten.drop (j * k + off + ds.length) = el.drop (off + ds.length) ++ xs.flatten.drop (j * k + k) := by
        apply List.ext_getElem?
        intro q
        rw [List.getElem?_drop]
        have hl1 : (el.drop (off + ds.length)).length = k - (off + ds.length) := by simp [hek]
        rcases Nat.lt_or_ge q (k - (off + ds.length)) with h0 | h0
        · rw [List.getElem?_append_left (by omega), List.getElem?_drop]
          have := flatten_get (j := off + ds.length + q) hlk hel (by omega)
          rw [← this]; congr 1; omega
        · rw [List.getElem?_append_right (by omega), hl1, List.getElem?_drop]
          congr 1; omega
      rw [e1, e2]
      simp
    have hmap : All2 (Rep σ) ds (a.eval y).cells.toList := acs_d hrep
    obtain ⟨σ', φ', hr'⟩ := hr.write (o' := .row k b (xs.set j el')) (arr' := (arr.toList.take (j * k + off) ++ (a.eval y).cells.toList ++ arr.toList.drop (j * k + off + (a.eval y).cells.toList.length)).toArray) hl hp hh
      ⟨rfl, rfl, by simp⟩
      (ObjRep.mk_row hp (setRow_heap w B _ _ ty _ hh) (by rw [← hsz, List.size_toArray]; simp only [List.length_append, List.length_take, List.length_drop, Array.length_toList] at hlen ⊢; omega) (by simpa using hle2) (by simpa using h48) (by simpa using hb47) (fun x hx => by
        rcases List.mem_or_eq_of_mem_set hx with hx | rfl
        · exact hlk x hx
        · exact hel'k) (by
        rw [hrow]
        have := hmap.length
        rw [this]
        exact ((ha.take _).append hmap).append (ha.drop _)) hus hσ)
    refine ⟨_, _, σ', φ', ?_, by rw [hdst]; exact hr', h⟩
    simp only [execOp, ho, hux, Instr.storeAt, Instr.sureAddr, Sem.run_bind, Sem.run_pure, Result.andThen_ok, hrun]
end Go.Abs
namespace Go.Abs
open Go
variable {P : Program} {c : Ctx} {T : Tab} {σ : Sig} {φ : Pl} {sto : Sto} {w : World}
def purC (id : Nat) (x : AC) : AC := bif x.men id then .junk else x
def purCs (id : Nat) : List AC → List AC
  | [] => []
  | c :: r => purC id c :: purCs id r
def purV (id : Nat) (v : AV) : AV := bif v.men id then .any else v
def purFr (id : Nat) : List (Nat × AV) → List (Nat × AV)
  | [] => []
  | (s, v) :: r => (s, purV id v) :: purFr id r
def purO (id : Nat) : AObj → AObj
  | .box cs => .box (purCs id cs)
  | .loop li fr s p => .loop li (purFr id fr) s p
  | o => o
def purSto (id : Nat) : Sto → Sto
  | [] => []
  | (i, o) :: r => (i, purO id o) :: purSto id r
theorem look_purSto {id : Nat} : ∀ {sto : Sto} {i : Nat} {e : AObj}, look (purSto id sto) i = some e → ∃ e0, look sto i = some e0 ∧ e = purO id e0
  | [], _, _, h => by simp [purSto, look] at h
  | (j, x) :: r, i, e, h => by
    simp only [purSto] at h
    rcases look_cons h with ⟨rfl, rfl⟩ | ⟨hne, h⟩
    · exact ⟨x, look_self, rfl⟩
    · obtain ⟨e0, h2, h3⟩ := look_purSto h
      exact ⟨e0, by rw [look_ne hne]; exact h2, h3⟩
theorem look_purSto_of {id : Nat} : ∀ {sto : Sto} {i : Nat} {e : AObj}, look sto i = some e → look (purSto id sto) i = some (purO id e)
  | [], _, _, h => by simp [look] at h
  | (j, x) :: r, i, e, h => by
    simp only [purSto]
    rcases look_cons h with ⟨rfl, rfl⟩ | ⟨hn, h⟩
    · exact look_self
    · rw [look_ne hn]; exact look_purSto_of h
theorem look_purFr {id : Nat} : ∀ {fr : List (Nat × AV)} {s : Nat} {v : AV}, look (purFr id fr) s = some v → ∃ v0, look fr s = some v0 ∧ v = purV id v0
  | [], _, _, h => by simp [purFr, look] at h
  | (j, x) :: r, s, v, h => by
    simp only [purFr] at h
    rcases look_cons h with ⟨rfl, rfl⟩ | ⟨hne, h⟩
    · exact ⟨x, look_self, rfl⟩
    · obtain ⟨v0, h1, h2⟩ := look_purFr h
      exact ⟨v0, by rw [look_ne hne]; exact h1, h2⟩
theorem purO_compat {id : Nat} {e : AObj} : compat e (purO id e) := by cases e <;> simp [purO, compat]
theorem look_purSto_none {id i : Nat} {sto : Sto} (h : look sto i = none) : look (purSto id sto) i = none := by
  cases hl : look (purSto id sto) i with
  | none => rfl
  | some e =>
    obtain ⟨e0, h1, _⟩ := look_purSto hl
    rw [h] at h1; cases h1
theorem Ext.pur {id : Nat} {e : AObj} {p : Option (Nat × Nat)} : Ext (· = id) φ (updP φ id p) sto ((id, e) :: purSto id sto) :=
  Ext.of_some (fun _ _ hi h => ⟨updP_ne hi, _, (look_ne hi).trans (look_purSto_of h), purO_compat⟩) (fun _ hi h => (look_ne hi).trans (look_purSto_none h))
theorem purC_rep {id : Nat} {e : AObj} {p : Option (Nat × Nat)} {x : AC} {v : Value} (h : RepC σ φ sto x v) : RepC σ (updP φ id p) ((id, e) :: purSto id sto) (purC id x) v := by
  unfold purC
  cases hm : x.men id with
  | true => exact .junk h.oneCell
  | false => exact h.ext (Sig.le_refl _) Ext.pur fun j hj => by cases hj; exact hm
theorem purCs_rep {id : Nat} {e : AObj} {p : Option (Nat × Nat)} : ∀ {cs : List AC} {vs : List Value}, All2 (RepC σ φ sto) cs vs → All2 (RepC σ (updP φ id p) ((id, e) :: purSto id sto)) (purCs id cs) vs
  | [], [], _ => trivial
  | _ :: _, _ :: _, h => ⟨purC_rep h.1, purCs_rep h.2⟩
  | [], _ :: _, h => h.elim
  | _ :: _, [], h => h.elim
theorem purV_rep {id : Nat} {e : AObj} {p : Option (Nat × Nat)} {x : AV} {v : Value} (h : RepV σ φ sto x v) : RepV σ (updP φ id p) ((id, e) :: purSto id sto) (purV id x) v := by
  unfold purV
  cases hm : x.men id with
  | true => trivial
  | false => exact h.ext (Sig.le_refl _) Ext.pur fun j hj => by cases hj; exact hm
def ReplOk (P : Program) (o : Oper) (a : Act) (w : World) (σ : Sig) (φ : Pl) (id : Nat) (o' : AObj) (m : Nat) : Prop :=
  ∃ (u : Value) (w' : World) (p : Option (Nat × Nat)), (execOp a.eval o).run P w = .ok (.value u) w' ∧ w'.os = w.os ∧ w'.tape = w.tape ∧ w'.output = w.output ∧ (w.heap.size ≤ w'.heap.size ∧ w.drawn ≤ w'.drawn) ∧
    (∀ b, b < w.heap.size → (∀ c, φ id ≠ some (b, c)) → w'.heap[b]? = w.heap[b]?) ∧
    (∀ q, p = some q → (∃ c, φ id = some (q.1, c)) ∨ (w.heap.size ≤ q.1 ∧ q.1 < w'.heap.size)) ∧
    ∀ (id' : Nat) (sto' : Sto), ObjRep σ (updP φ id' p) ((id', o') :: sto') w' id' o' ∧ RepV σ (updP φ id' p) ((id', o') :: sto') (.one (.own id' m)) u
theorem Ext.renew {id id' : Nat} {e : AObj} {p : Option (Nat × Nat)} : Ext (· = id') φ (updP φ id' p) sto ((id', e) :: del id sto) := by
  intro i hi
  by_cases h : i = id
  · subst h
    refine .inl ?_
    rw [look_ne hi]
    cases hl : look (del i sto) i with
    | none => rfl
    | some e => exact absurd rfl (look_del hl).1
  · cases hl : look sto i with
    | none => exact .inl (by rw [look_ne hi, look_del_ne h]; exact hl)
    | some e' => exact .inr ⟨e', rfl, updP_ne hi, e', by rw [look_ne hi, look_del_ne h]; exact hl, compat.refl _⟩
theorem Rel.renew {st : St} {a : Act} (h : Rel c st a w σ φ) {id id' : Nat} {o o' : AObj} {m : Nat} (hlt : Nat.blt id' 1000000 = true) (hl : look st.sto id = some o) (hm1 : frMen id' st.fr = false) (hm2 : stoMen id' st.sto = false) (hm3 : look st.sto id' = none)
    {op : Oper} (H : ReplOk P op a w σ φ id o' m) (hd : dstOk c.n op.dst = true) :
    ∃ u w' σ' φ', (execOp a.eval op).run P w = .ok (.value u) w' ∧ Rel c ⟨putO op.dst (.one (.own id' m)) st.fr, (id', o') :: del id st.sto⟩ (a.put op.dst u) w' σ' φ' := by
  obtain ⟨u, w', p, hrun, hos, htape, hout, hsize, hw, hp, hboth⟩ := H
  obtain ⟨hobj, hv⟩ := hboth id' (del id st.sto)
  simp only [Nat.blt_eq] at hlt
  refine ⟨u, w', σ, updP φ id' p, hrun, ?_⟩
  have hne' : ∀ {i : Nat} {e : AObj}, look st.sto i = some e → i ≠ id' := by rintro i e hi rfl; rw [hm3] at hi; cases hi
  have hother : ∀ {i : Nat} {e : AObj} {q : Nat × Nat}, look st.sto i = some e → i ≠ id → φ i = some q → q.1 < w.heap.size ∧ (∀ c, φ id ≠ some (q.1, c)) := by
    intro i e q hi hne hq
    refine ⟨(h.inv.obj _ _ hi).lt hq, fun c' hc' => ?_⟩
    exact h.inv.inj _ _ _ _ _ _ hi hl hne hq hc' rfl
  have hsigb : ∀ b cs, σ b = some cs → b < w.heap.size ∧ (∀ c, φ id ≠ some (b, c)) := by
    intro b cs hb
    obtain ⟨t, f, hh⟩ := h.inv.sig b cs hb
    refine ⟨(Array.getElem?_eq_some_iff.1 hh).1, fun c' hc' => ?_⟩
    have := (h.inv.obj _ _ hl).sig hc'
    rw [hb] at this; cases this
  have hinv : HInv σ (updP φ id' p) ((id', o') :: del id st.sto) w' := by
    refine ⟨fun b cs hb => ?_, fun i e hi => ?_, fun i i' e e' q q' hi hi' hne hq hq' => ?_⟩
    · obtain ⟨t, f, hh⟩ := h.inv.sig b cs hb
      obtain ⟨h1, h2⟩ := hsigb b cs hb
      exact ⟨t, f, (hw b h1 h2).trans hh⟩
    · rcases look_cons hi with ⟨rfl, rfl⟩ | ⟨hne, hi⟩
      · exact hobj
      · obtain ⟨hni, h0⟩ := look_del hi
        have ho := h.inv.obj _ _ h0
        refine ho.ext (X := (· = id')) (Sig.le_refl _) Ext.renew (fun j hj => by cases hj; exact stoMen_look hm2 h0) (updP_ne hne) fun B c' hB => ?_
        obtain ⟨h5, h6⟩ := hother h0 hni hB
        exact ⟨hw B h5 h6, rfl⟩
    · rcases look_cons hi with ⟨h1, h2⟩ | ⟨hn, hi⟩
      · subst h1; subst h2
        rcases look_cons hi' with ⟨h3, _⟩ | ⟨hn', hi'⟩
        · exact absurd h3.symm hne
        · obtain ⟨hni, h0⟩ := look_del hi'
          rw [updP_self] at hq; rw [updP_ne hn'] at hq'
          obtain ⟨h5, h6⟩ := hother h0 hni hq'
          rcases hp q hq with ⟨c', hc'⟩ | ⟨h7, _⟩
          · intro e; rw [e] at hc'; exact h6 c' hc'
          · omega
      · obtain ⟨hni, h1⟩ := look_del hi
        rw [updP_ne hn] at hq
        obtain ⟨h5, h6⟩ := hother h1 hni hq
        rcases look_cons hi' with ⟨h3, h4⟩ | ⟨hn', hi'⟩
        · subst h3; subst h4
          rw [updP_self] at hq'
          rcases hp q' hq' with ⟨c', hc'⟩ | ⟨h7, _⟩
          · intro e; rw [← e] at hc'; exact h6 c' hc'
          · omega
        · obtain ⟨_, h2⟩ := look_del hi'
          rw [updP_ne hn'] at hq'
          exact h.inv.inj _ _ _ _ _ _ h1 h2 hne hq hq'
  refine h.putTo (st' := ⟨st.fr, (id', o') :: del id st.sto⟩) (w' := w') (σ' := σ) (φ' := updP φ id' p) hd h.le h.fresh hinv (fun i e q hi hq => ?_)
    ⟨hos.trans h.fra.os, htape.trans h.fra.tape, hout.trans h.fra.output, Nat.le_trans h.fra.size hsize.1, Nat.le_trans h.fra.drawn hsize.2, fun b hb hM => ?_⟩ (fun i hi => by
      rw [updP_ne (by omega)]; exact h.pin i hi) (fun _ => hv) (fun s x _ hx => ⟨x, hx, fun z hz => hz.ext (Sig.le_refl _) Ext.renew fun j hj => by cases hj; exact frMen_look hm1 hx⟩)
  · rcases look_cons hi with ⟨h1, _⟩ | ⟨hn, hi⟩
    · subst h1
      rw [updP_self] at hq
      rcases hp q hq with ⟨c', hc'⟩ | ⟨h7, _⟩
      · exact h.mine _ _ (q.1, c') hl hc'
      · exact .inl (Nat.le_trans h.fra.size h7)
    · obtain ⟨_, h0⟩ := look_del hi
      rw [updP_ne hn] at hq
      exact h.mine _ _ _ h0 hq
  · rw [hw b (Nat.lt_of_lt_of_le hb h.fra.size) fun c' hc' => ?_]
    · exact h.fra.block b hb hM
    · rcases h.mine _ _ _ hl hc' with h1 | h1
      · simp only at h1; omega
      · exact hM h1
theorem Rel.replace {st : St} {a : Act} {w' : World} (h : Rel c st a w σ φ) {id : Nat} {o o' : AObj} {p : Option (Nat × Nat)} (hlt : ∀ i, Pin i → i ≠ id) (hl : look st.sto id = some o)
    (hos : w'.os = w.os) (htape : w'.tape = w.tape) (hout : w'.output = w.output) (hsize : w.heap.size ≤ w'.heap.size ∧ w.drawn ≤ w'.drawn)
    (hw : ∀ b, b < w.heap.size → (∀ c, φ id ≠ some (b, c)) → w'.heap[b]? = w.heap[b]?)
    (hp : ∀ q, p = some q → (∃ c, φ id = some (q.1, c)) ∨ (w.heap.size ≤ q.1 ∧ q.1 < w'.heap.size))
    (hobj : ObjRep σ (updP φ id p) ((id, o') :: purSto id st.sto) w' id o') {dst : Option Nat} (hd : dstOk c.n dst = true) {v : AV} {u : Value}
    (hv : RepV σ (updP φ id p) ((id, o') :: purSto id st.sto) v u) :
    ∃ σ' φ', Rel c ⟨putO dst v (purFr id st.fr), setS id o' (purSto id st.sto)⟩ (a.put dst u) w' σ' φ' := by
  have hother : ∀ {i : Nat} {e : AObj} {q : Nat × Nat}, look st.sto i = some e → i ≠ id → φ i = some q → q.1 < w.heap.size ∧ (∀ c, φ id ≠ some (q.1, c)) := by
    intro i e q hi hne hq
    refine ⟨(h.inv.obj _ _ hi).lt hq, fun c' hc' => ?_⟩
    exact h.inv.inj _ _ _ _ _ _ hi hl hne hq hc' rfl
  have hsigb : ∀ b cs, σ b = some cs → b < w.heap.size ∧ (∀ c, φ id ≠ some (b, c)) := by
    intro b cs hb
    obtain ⟨t, f, hh⟩ := h.inv.sig b cs hb
    refine ⟨(Array.getElem?_eq_some_iff.1 hh).1, fun c' hc' => ?_⟩
    have := (h.inv.obj _ _ hl).sig hc'
    rw [hb] at this; cases this
  have hinv : HInv σ (updP φ id p) ((id, o') :: purSto id st.sto) w' := by
    refine ⟨fun b cs hb => ?_, fun i e hi => ?_, fun i i' e e' q q' hi hi' hne hq hq' => ?_⟩
    · obtain ⟨t, f, hh⟩ := h.inv.sig b cs hb
      obtain ⟨h1, h2⟩ := hsigb b cs hb
      exact ⟨t, f, (hw b h1 h2).trans hh⟩
    · rcases look_cons hi with ⟨rfl, rfl⟩ | ⟨hne, hi⟩
      · exact hobj
      · obtain ⟨e0, h0, rfl⟩ := look_purSto hi
        have ho := h.inv.obj _ _ h0
        cases e0 with
        | box cs =>
          obtain ⟨B, c', vs, t, h1, h2, h3, h4⟩ := ho
          obtain ⟨h5, h6⟩ := hother h0 hne h1
          exact ⟨B, c', vs, t, (updP_ne hne).trans h1, (hw B h5 h6).trans h2, purCs_rep h3, h4⟩
        | row k b xs =>
          rcases ho with ⟨h1, h2⟩ | ⟨B, cap, arr, t, vs, h1, h2, h3⟩
          · exact .inl ⟨h1, (updP_ne hne).trans h2⟩
          · obtain ⟨h5, h6⟩ := hother h0 hne h1
            exact .inr ⟨B, cap, arr, t, vs, (updP_ne hne).trans h1, (hw B h5 h6).trans h2, h3⟩
        | map kg vg es =>
          obtain ⟨B, c', ents, h1, h2, h3⟩ := ho
          obtain ⟨h5, h6⟩ := hother h0 hne h1
          exact ⟨B, c', ents, (updP_ne hne).trans h1, (hw B h5 h6).trans h2, h3⟩
        | loop li fr s p =>
          obtain ⟨B, c', r, h1, h2, h3, h3', h4⟩ := ho
          obtain ⟨h5, h6⟩ := hother h0 hne h1
          exact ⟨B, c', r, (updP_ne hne).trans h1, (hw B h5 h6).trans h2, h3, fun s v hv => by
            obtain ⟨v0, hv0, rfl⟩ := look_purFr hv
            obtain ⟨u, hu, hru⟩ := h3' s v0 hv0
            exact ⟨u, hu, purV_rep hru⟩, h4⟩
    · rcases look_cons hi with ⟨h1, h2⟩ | ⟨hn, hi⟩
      · subst h1; subst h2
        rcases look_cons hi' with ⟨h3, _⟩ | ⟨hn', hi'⟩
        · exact absurd h3.symm hne
        · obtain ⟨e0, h0, _⟩ := look_purSto hi'
          rw [updP_self] at hq; rw [updP_ne hn'] at hq'
          obtain ⟨h5, h6⟩ := hother h0 hn' hq'
          rcases hp q hq with ⟨c', hc'⟩ | ⟨h7, _⟩
          · intro e; rw [e] at hc'; exact h6 c' hc'
          · omega
      · obtain ⟨e1, h1, _⟩ := look_purSto hi
        rw [updP_ne hn] at hq
        obtain ⟨h5, h6⟩ := hother h1 hn hq
        rcases look_cons hi' with ⟨h3, h4⟩ | ⟨hn', hi'⟩
        · subst h3; subst h4
          rw [updP_self] at hq'
          rcases hp q' hq' with ⟨c', hc'⟩ | ⟨h7, _⟩
          · intro e; rw [← e] at hc'; exact h6 c' hc'
          · omega
        · obtain ⟨e2, h2, _⟩ := look_purSto hi'
          rw [updP_ne hn'] at hq'
          exact h.inv.inj _ _ _ _ _ _ h1 h2 hne hq hq'
  have hr := h.putTo (st' := ⟨purFr id st.fr, (id, o') :: purSto id st.sto⟩) (v := v) (u := u) (w' := w') (σ' := σ) (φ' := updP φ id p) hd h.le h.fresh hinv (fun i e q hi hq => ?_)
    ⟨hos.trans h.fra.os, htape.trans h.fra.tape, hout.trans h.fra.output, Nat.le_trans h.fra.size hsize.1, Nat.le_trans h.fra.drawn hsize.2, fun b hb hM => ?_⟩ (fun i hi => by
      have : i ≠ id := hlt i hi
      rw [updP_ne this]; exact h.pin i hi) (fun _ => hv) (fun s x _ hx => ?_)
  · exact imp_sto (fun i => look_setS) _ _ _ _ hr
  · rcases look_cons hi with ⟨h1, _⟩ | ⟨hn, hi⟩
    · subst h1
      rw [updP_self] at hq
      rcases hp q hq with ⟨c', hc'⟩ | ⟨h7, _⟩
      · exact h.mine _ _ (q.1, c') hl hc'
      · exact .inl (Nat.le_trans h.fra.size h7)
    · obtain ⟨e0, h0, _⟩ := look_purSto hi
      rw [updP_ne hn] at hq
      exact h.mine _ _ _ h0 hq
  · rw [hw b (Nat.lt_of_lt_of_le hb h.fra.size) fun c' hc' => ?_]
    · exact h.fra.block b hb hM
    · rcases h.mine _ _ _ hl hc' with h1 | h1
      · simp only at h1; omega
      · exact hM h1
  · obtain ⟨v0, h1, rfl⟩ := look_purFr hx
    exact ⟨v0, h1, fun z hz => purV_rep hz⟩
def srcOf (st : St) (k : Nat) : AV → Option (List (List D))
  | .one (.d (.sl k' _ ys)) => bif Nat.beq k k' then some ys else none
  | .one (.d .nil) => some []
  | .one (.own i m) => match look st.sto i with
    | some (.row k' _ ys) => bif Nat.beq k k' then some (ys.take m) else none
    | _ => none
  | .one (.sub i lo m) => match look st.sto i with
    | some (.row k' _ ys) => bif Nat.beq k k' then some ((ys.drop lo).take m) else none
    | _ => none
  | _ => none
theorem take_flatten {α : Type} {k : Nat} : ∀ {xs : List (List α)} (n : Nat), (∀ x ∈ xs, x.length = k) → (xs.take n).flatten = xs.flatten.take (n * k)
  | [], n, _ => by simp
  | x :: xs, 0, _ => by simp
  | x :: xs, n + 1, hk => by
    have hx := hk x (by simp)
    have e : (n + 1) * k = x.length + n * k := by rw [hx, Nat.succ_mul]; omega
    simp only [List.take_succ_cons, List.flatten_cons]
    rw [take_flatten n (fun y hy => hk y (by simp [hy])), e, List.take_append, List.take_of_length_le (Nat.le_add_right _ _), Nat.add_sub_cancel_left]
theorem drop_flatten {α : Type} {k : Nat} : ∀ {xs : List (List α)} (n : Nat), (∀ x ∈ xs, x.length = k) → (xs.drop n).flatten = xs.flatten.drop (n * k)
  | [], n, _ => by simp
  | x :: xs, 0, _ => by simp
  | x :: xs, n + 1, hk => by
    have hx := hk x (by simp)
    have e : (n + 1) * k = x.length + n * k := by rw [hx, Nat.succ_mul]; omega
    simp only [List.drop_succ_cons, List.flatten_cons]
    rw [drop_flatten n (fun y hy => hk y (by simp [hy])), e, List.drop_append, List.drop_of_length_le (Nat.le_add_right _ _), Nat.add_sub_cancel_left, List.nil_append]
structure Src (σ : Sig) (w : World) (k : Nat) (ys : List (List D)) (v : Value) (us : List Value) : Prop where
  shape : ∃ A cap, v = .slice A ys.length cap
  first : ∀ (P : Program) (w' : World), w'.heap = w.heap → (Builtin.firstCells k ys.length v).run P w' = .ok us.toArray w'
  rep : All2 (Rep σ) ys.flatten us
  len : ∀ y ∈ ys, y.length = k
  one : ∀ u ∈ us, u.oneCell' = true
theorem first_of {w' : World} {k n B o cap : Nat} {us : List Value} (hl : us.length = n * k) (hm : MemCells w B o us) (hw : w'.heap = w.heap) : (Builtin.firstCells k n (.slice (some ⟨B, o, none⟩) n cap)).run P w' = .ok us.toArray w' := by
  refine run_firstCells_some (P := P) w' k n ⟨B, o, none⟩ n cap us hl fun j v hv => ?_
  have := hm j v hv
  rw [addr_add]
  unfold World.cell? at this ⊢
  rw [hw]; exact this
theorem all_one_d {ds : List D} {us : List Value} (h : All2 (Rep σ) ds us) : ∀ u ∈ us, u.oneCell' = true := by
  induction ds generalizing us with
  | nil => cases us with
    | nil => simp
    | cons _ _ => exact h.elim
  | cons d ds ih => cases us with
    | nil => exact h.elim
    | cons u us =>
      intro x hx
      rcases List.mem_cons.1 hx with rfl | hx
      · exact oneCell_of h.1.oneCell
      · exact ih h.2 x hx
theorem run_first_zero {w' : World} {k cap : Nat} {A : Option Addr} : (Builtin.firstCells k 0 (.slice A 0 cap)).run P w' = .ok #[] w' := by
  cases A with
  | none => simp [Builtin.firstCells]
  | some a => exact run_firstCells_some (P := P) w' k 0 a 0 cap [] (by simp) (by simp)
theorem src_rep {st : St} {k : Nat} {v : AV} {ys : List (List D)} (hs : srcOf st k v = some ys) (hi : HInv σ φ st.sto w) {u : Value} (h : RepV σ φ st.sto v u) : ∃ us, Src σ w k ys u us := by
  have hrow : ∀ {i k' b' B cap lo m : Nat} {zs : List (List D)}, look st.sto i = some (.row k' b' zs) → φ i = some (B, cap) → lo + m ≤ zs.length → ∃ us : List Value, All2 (Rep σ) ((zs.drop lo).take m).flatten us ∧
      MemCells w B (lo * k') us ∧ us.length = m * k' ∧ ∀ y ∈ (zs.drop lo).take m, y.length = k' := by
    intro i k' b' B cap lo m zs hl hp hlm
    obtain ⟨arr, ty, us, hh, hsz, hle, _, _, hlk, ha, hcell, _, hul⟩ := (hi.obj _ _ hl).row_cells hp
    have hlk' : ∀ y ∈ (zs.drop lo).take m, y.length = k' := fun y hy => hlk y (List.mem_of_mem_drop (List.mem_of_mem_take hy))
    refine ⟨(us.drop (lo * k')).take (m * k'), ?_, ?_, ?_, hlk'⟩
    · rw [take_flatten m (fun y hy => hlk y (List.mem_of_mem_drop hy)), drop_flatten lo hlk]
      exact (ha.drop _).take _
    · intro j u hu
      rw [List.getElem?_take] at hu
      split at hu
      · rw [List.getElem?_drop] at hu
        rw [cell_of_heap hh]
        exact hcell _ _ hu
      · cases hu
    · have : (lo + m) * k' ≤ zs.length * k' := Nat.mul_le_mul_right _ hlm
      rw [Nat.add_mul] at this
      simp [hul]; omega
  unfold srcOf at hs
  split at hs
  · rename_i k' b' ys'
    cases hb : Nat.beq k k' <;> simp only [hb, cond_true, cond_false, reduceCtorEq, Option.some.injEq] at hs
    subst hs
    obtain rfl := Nat.eq_of_beq_eq_true hb
    replace h := RepC.d_inv h
    cases h with
    | sl vs hc h48 hb47 hk hA hh =>
      rename_i A cap
      rcases Nat.eq_zero_or_pos ys'.length with h0 | h0
      · have := List.eq_nil_of_length_eq_zero h0
        subst this
        exact ⟨[], ⟨⟨A, cap, rfl⟩, fun P w' _ => run_first_zero, trivial, by simp, by simp⟩⟩
      · obtain ⟨B, off, cells, rfl, hσ, hcell⟩ := hA h0
        obtain ⟨t, f, hhp⟩ := hi.sig _ _ hσ
        have hfl := flatten_len hk
        let us : List Value := (List.range (ys'.length * k)).map fun j => vs (j / k) (j % k)
        have hus : ∀ j, j < ys'.length * k → us[j]? = some (vs (j / k) (j % k)) := fun j hj => by simp [us, hj]
        have hdiv : ∀ j, j < ys'.length * k → 0 < k ∧ j / k < ys'.length ∧ j % k < k ∧ j / k * k + j % k = j := by
          intro j hj
          have hk0 : 0 < k := by
            rcases Nat.eq_zero_or_pos k with h0 | h0
            · subst h0; simp at hj
            · exact h0
          exact ⟨hk0, Nat.div_lt_of_lt_mul (by rw [Nat.mul_comm]; exact hj), Nat.mod_lt _ hk0, by rw [Nat.mul_comm]; exact Nat.div_add_mod j k⟩
        have hrep : All2 (Rep σ) ys'.flatten us := by
          refine All2.of_get (by simp [us, hfl]) fun j d u hd hu => ?_
          have hj : j < ys'.length * k := by rw [← hfl]; exact (List.getElem?_eq_some_iff.1 hd).1
          obtain ⟨hk0, h1, h2, h3⟩ := hdiv j hj
          rw [hus j hj] at hu; cases hu
          have hx : ys'[j / k]? = some ys'[j / k] := List.getElem?_eq_getElem h1
          have := flatten_get hk hx h2
          rw [h3, hd] at this
          exact hh _ _ _ _ hx this.symm
        refine ⟨us, ⟨⟨_, cap, rfl⟩, fun P w' hw => first_of (by simp [us]) ?_ hw, hrep, hk, all_one_d hrep⟩⟩
        intro j u hu
        have hj : j < ys'.length * k := by
          have := (List.getElem?_eq_some_iff.1 hu).1
          simpa [us] using this
        obtain ⟨hk0, h1, h2, h3⟩ := hdiv j hj
        rw [hus j hj] at hu; cases hu
        rw [cell_of_heap hhp, ← hcell _ _ h1 h2]
        congr 1; omega
  · simp only [Option.some.injEq] at hs; subst hs
    replace h := RepC.d_inv h; cases h
    exact ⟨[], ⟨⟨none, 0, rfl⟩, fun P w' _ => run_first_zero, trivial, by simp, by simp⟩⟩
  · rename_i i m
    split at hs <;> (try (simp at hs; done))
    rename_i k' b' ys' hl
    cases hb : Nat.beq k k' <;> simp only [hb, cond_true, cond_false, reduceCtorEq, Option.some.injEq] at hs
    subst hs
    obtain rfl := Nat.eq_of_beq_eq_true hb
    cases h with
    | dead hxx _ => simp [acIn, hasK_of hl] at hxx
    | ownNil h hp => exact ⟨[], ⟨⟨none, 0, by simp⟩, fun P w' _ => by simpa using run_first_zero, by simp [All2], by simp, by simp⟩⟩
    | own hl' hn hp =>
      rw [hl] at hl'; cases hl'
      obtain ⟨us, h1, h2, h3, h4⟩ := hrow (lo := 0) (m := m) hl hp (by omega)
      simp only [List.drop_zero, Nat.zero_mul] at h1 h2 h4
      have hm : (ys'.take m).length = m := by simp; omega
      refine ⟨us, ⟨⟨_, _, by rw [hm]⟩, fun P w' hw => ?_, h1, h4, all_one_d h1⟩⟩
      rw [hm]
      exact first_of h3 h2 hw
  · rename_i i lo m
    split at hs <;> (try (simp at hs; done))
    rename_i k' b' ys' hl
    cases hb : Nat.beq k k' <;> simp only [hb, cond_true, cond_false, reduceCtorEq, Option.some.injEq] at hs
    subst hs
    obtain rfl := Nat.eq_of_beq_eq_true hb
    cases h with
    | dead hxx _ => simp [acIn, hasK_of hl] at hxx
    | sub hl' hn hc hA =>
      rw [hl] at hl'; cases hl'
      rename_i cap' A
      have hm : ((ys'.drop lo).take m).length = m := by simp; omega
      rcases Nat.eq_zero_or_pos m with h0 | h0
      · subst h0
        exact ⟨[], ⟨⟨A, cap', by simp⟩, fun P w' _ => by simpa using run_first_zero, by simp [All2], by simp, by simp⟩⟩
      · obtain ⟨B, cap, hp, rfl⟩ := hA h0
        obtain ⟨us, h1, h2, h3, h4⟩ := hrow (lo := lo) (m := m) hl hp hn
        refine ⟨us, ⟨⟨_, _, by rw [hm]⟩, fun P w' hw => ?_, h1, h4, all_one_d h1⟩⟩
        rw [hm]
        exact first_of h3 h2 hw
  · simp at hs
end Go.Abs
namespace Go.Abs
open Go
variable {P : Program} {c : Ctx} {T : Tab} {σ : Sig} {φ : Pl} {sto : Sto} {w : World}
theorem run_append_grow' {t t2 ty e e2 : TypeId} {i : TypeInfo} {z : Value} (ht : P.underlying t = some (.slice e)) (ht2 : P.underlying t2 = some (.slice e2)) (hi : P.info? e = some i) (hz : i.zero = some z)
    {base A : Option Addr} {n cap m c' : Nat} {olds news : List Value}
    (hfo : ∀ w', w'.heap = w.heap → (Builtin.firstCells i.size n (.slice base n cap)).run P w' = .ok olds.toArray w')
    (hfx : ∀ w', w'.heap = w.heap → (Builtin.firstCells i.size m (.slice A m c')).run P w' = .ok news.toArray w')
    (hg : cap < n + m) (hb : (n + m) * i.bytes ≤ 140737488355328) (h48 : n + m < 2 ^ 48) :
    (Builtin.append_ #[t, t2] ty #[.slice base n cap, .slice A m c']).run P w =
      .ok (.slice (some ⟨w.heap.size, 0, none⟩) (n + m) (grownCap w (n + m) cap e))
        (w.drew.alloc (.cells (olds ++ news ++ (Builtin.zeroCells z.cells (grownCap w (n + m) cap e - (n + m))).toList).toArray e)) := by
  have hn : ¬ (n + m ≤ cap) := by omega
  have h63' : ¬ (9223372036854775807 < ((n : Int) + (m : Int))) := by omega
  have hfit := growslice_fits hg hb
  have h48' : ¬ (281474976710656 < Builtin.nextslicecap (n + m) cap * i.bytes) := by omega
  have hf := hfx w.drew rfl
  have hf2 := hfo w.drew rfl
  simp [Builtin.append_, run_underlying ht, run_underlying ht2, sizeOf, typeInfo, zeroValue, hi, hz, Builtin.lenOf, hn, h63', h48', Question.forced, hf, hf2, newRow, grownCap]
  congr 2
  apply Array.ext'
  simp
theorem run_append_room' {t t2 ty e e2 ty0 : TypeId} {i : TypeInfo} (ht : P.underlying t = some (.slice e)) (ht2 : P.underlying t2 = some (.slice e2)) (hi : P.info? e = some i)
    {A : Option Addr} {B n cap m c' : Nat} {arr : Array Value} {news : List Value} (hh : w.heap[B]? = some (.cells arr ty0 (0, 0)))
    (hfx : (Builtin.firstCells i.size m (.slice A m c')).run P w = .ok news.toArray w) (h1 : ∀ u ∈ news, u.oneCell' = true)
    (hg : n + m ≤ cap) (hfit : n * i.size + news.length ≤ arr.size) :
    (Builtin.append_ #[t, t2] ty #[.slice (some ⟨B, 0, none⟩) n cap, .slice A m c']).run P w =
      .ok (.slice (some ⟨B, 0, none⟩) (n + m) cap) (w.setRow B (arr.toList.take (n * i.size) ++ news ++ arr.toList.drop (n * i.size + news.length)).toArray) := by
  have hst := run_storeCells_at P B (n * i.size) ty0 news 0 arr w hh (by simpa using hfit) h1
  simp only [Nat.add_zero] at hst
  simp [Builtin.append_, run_underlying ht, run_underlying ht2, sizeOf, typeInfo, hi, Builtin.lenOf, hg, hfx, Addr.add_lit, hst]
theorem run_append_none {t t2 ty e e2 : TypeId} {i : TypeInfo} (ht : P.underlying t = some (.slice e)) (ht2 : P.underlying t2 = some (.slice e2)) (hi : P.info? e = some i)
    {A : Option Addr} {c' : Nat} : (Builtin.append_ #[t, t2] ty #[.slice none 0 0, .slice A 0 c']).run P w = .ok (.slice none 0 0) w := by
  have := run_first_zero (P := P) (w' := w) (k := i.size) (cap := c') (A := A)
  simp [Builtin.append_, run_underlying ht, run_underlying ht2, sizeOf, typeInfo, hi, Builtin.lenOf, this]
theorem append_repl (hT : TabOk P T) {o : Oper} {st : St} {a : Act} (hr : Rel c st a w σ φ) {t t2 e e2 k b k2 b2 k' b' id n : Nat} {z z2 : List D} {x y : Operand} {v : AV} {xs ys zs : List (List D)}
    (ho : o.op = .call { callee := .builtin .append, args := #[x, y], argTypes := #[t, t2] }) (ht : sliceTy T t = some (e, k, b, z)) (ht2 : sliceTy T t2 = some (e2, k2, b2, z2))
    (h1 : RepC σ φ st.sto (.own id n) (a.eval x)) (hl : look st.sto id = some (.row k' b' xs)) (hkb : (Nat.beq k k' && Nat.beq b b') = true) (hy : ev st y = some v) (hs : srcOf st k v = some ys) (hzs : zs = xs.take n ++ ys)
    (h48 : n + ys.length < 2 ^ 48) (hb47 : (n + ys.length) * b ≤ 2 ^ 47) : ReplOk P o a w σ φ id (.row k b zs) (n + ys.length) := by
  obtain ⟨i, zv, hu, hi, rfl, rfl, hz, hzc, hzb, hzl⟩ := sliceTy_ok hT ht
  obtain ⟨_, _, hu2, _⟩ := sliceTy_ok hT ht2
  simp only [Bool.and_eq_true] at hkb
  obtain rfl := Nat.eq_of_beq_eq_true hkb.1
  obtain rfl := Nat.eq_of_beq_eq_true hkb.2
  obtain ⟨us, hsrc⟩ := src_rep hs hr.inv (ev_rep hr hy)
  obtain ⟨⟨A, c', hux⟩, hfirst, hrep, hlen, hone⟩ := hsrc
  have hexec : ∀ {u : Value} {w' : World}, (Builtin.append_ #[t, t2] o.type #[a.eval x, a.eval y]).run P w = .ok u w' → (execOp a.eval o).run P w = .ok (.value u) w' := by
    intro u w' hrun
    simp [execOp, ho, resolve, invoke, builtin, hrun]
  have hul : us.length = ys.length * i.size := by rw [← hrep.length]; exact flatten_len hlen
  generalize hue : a.eval x = ux at h1
  have hobj0 := hr.inv.obj _ _ hl
  have hzc' : zv.cells.size = i.size := by rw [hzc]; simp [hzl]
  -- growing, out of whatever was there
  have grow : ∀ (base : Option Addr) (cap : Nat) (olds : List Value), ux = .slice base n cap → cap < n + ys.length → (∀ x ∈ xs.take n, x.length = i.size) → (xs.take n).length = n →
      All2 (Rep σ) (xs.take n).flatten olds → (∀ w', w'.heap = w.heap → (Builtin.firstCells i.size n (.slice base n cap)).run P w' = .ok olds.toArray w') →
      ReplOk P o a w σ φ id (.row i.size i.bytes zs) (n + ys.length) := by
    intro base cap olds he hcap hk1 hn1 hro hfo
    have hrun := run_append_grow' (P := P) (w := w) (ty := o.type) hu hu2 hi hz (A := A) (m := ys.length) (c' := c') hfo (fun w' hw => by rw [← hux]; exact hfirst P w' hw) hcap hb47 h48
    rw [← hux, ← he, ← hue] at hrun
    have hgc := grownCap_ge w (n + ys.length) cap e
    have hol : olds.length = n * i.size := by rw [← hro.length]; rw [flatten_len hk1, hn1]
    refine ⟨_, _, some (w.heap.size, grownCap w (n + ys.length) cap e), hexec hrun, rfl, rfl, rfl, by simp, fun bb hbb _ => RowKit.Below.heap_alloc w.drew _ bb hbb, fun q hq => by cases hq; exact .inr ⟨Nat.le_refl _, by simp⟩, fun id' sto' => ⟨?_, ?_⟩⟩
    · exact (ObjRep.mk_row (B := w.heap.size) (cap := grownCap w (n + ys.length) cap e) (us := olds ++ us) updP_self (alloc_heap_new w.drew _) (by
        simp only [List.size_toArray, List.length_append, Array.length_toList, size_zeroCells, hzc', hol, hul, ← Nat.add_mul]
        congr 1; omega) (by rw [hzs]; simp only [List.length_append, hn1]; exact hgc) (by rw [hzs]; simp only [List.length_append, hn1]; exact h48) (by rw [hzs]; simp only [List.length_append, hn1]; exact hb47)
        (fun x hx => by
          rw [hzs] at hx
          rcases List.mem_append.1 hx with hx | hx
          · exact hk1 x hx
          · exact hlen x hx)
        (by rw [hzs, List.flatten_append]; exact hro.append hrep)
        (fun j u hj => by
          have hlt := (List.getElem?_eq_some_iff.1 hj).1
          simp only [List.getElem?_toArray]
          rw [List.getElem?_append_left hlt]; exact hj)
        (sig_new hr.inv))
    · exact RepC.own (cap := grownCap w (n + ys.length) cap e) look_self (by rw [hzs]; simp only [List.length_append, hn1]; exact Nat.le_refl _) updP_self
  cases h1 with
  | dead hxx _ => simp [acIn, hasK_of hl] at hxx
  | ownNil hl' hp =>
    rw [hl] at hl'; cases hl'
    rcases Nat.eq_zero_or_pos ys.length with h0 | h0
    · have hys := List.eq_nil_of_length_eq_zero h0
      subst hys
      have hrun := run_append_none (P := P) (w := w) (ty := o.type) hu hu2 hi (A := A) (c' := c')
      have e0 : (0 : Nat) + ([] : List (List D)).length = 0 := rfl
      rw [show a.eval x = .slice none 0 0 from hue, show a.eval y = .slice A 0 c' from hux] at hexec
      exact ⟨_, w, none, hexec hrun, rfl, rfl, rfl, ⟨Nat.le_refl _, Nat.le_refl _⟩, fun _ _ _ => rfl, fun q hq => (by cases hq), fun id' sto' => ⟨.inl ⟨by rw [hzs]; simp, updP_self⟩, RepC.ownNil look_self updP_self⟩⟩
    · exact grow none 0 [] rfl (by omega) (by simp) (by simp) (by simp [All2]) (fun w' _ => run_first_zero)
  | own hl' hn hp =>
    rename_i B cap xs'
    rw [hl] at hl'; cases hl'
    obtain ⟨arr, ty, vs, hh, hsz, hle, hx48, hxb, hlk, ha, hcell, hσ, hvl⟩ := hobj0.row_cells hp
    have hk1 : ∀ x ∈ xs.take n, x.length = i.size := fun x hx => hlk x (List.mem_of_mem_take hx)
    have hn1 : (xs.take n).length = n := by simp; omega
    have hro : All2 (Rep σ) (xs.take n).flatten (vs.take (n * i.size)) := by rw [take_flatten n hlk]; exact ha.take _
    have hnk : n * i.size ≤ xs.length * i.size := Nat.mul_le_mul_right _ hn
    have hasz : xs.length * i.size ≤ arr.size := by rw [hsz]; exact Nat.mul_le_mul_right _ hle
    by_cases hcap : n + ys.length ≤ cap
    · have hfit : n * i.size + us.length ≤ arr.size := by rw [hul, hsz, ← Nat.add_mul]; exact Nat.mul_le_mul_right _ hcap
      have hrun := run_append_room' (P := P) (w := w) (ty := o.type) hu hu2 hi (A := A) (m := ys.length) (c' := c') (n := n) (cap := cap) hh (by rw [← hux]; exact hfirst P w rfl) hone hcap hfit
      rw [← hux, ← hue] at hrun
      refine ⟨_, _, some (B, cap), hexec hrun, rfl, rfl, rfl, by simp, fun bb _ hne => setRow_other w B bb _ (fun e => hne cap (by rw [e]; exact hp)), fun q hq => by cases hq; exact .inl ⟨cap, hp⟩, fun id' sto' => ⟨?_, ?_⟩⟩
      · exact (ObjRep.mk_row (B := B) (cap := cap) (us := vs.take (n * i.size) ++ us) updP_self (setRow_heap w B _ _ ty _ hh) (by
            rw [← hsz, List.size_toArray]; simp only [List.length_append, List.length_take, List.length_drop, Array.length_toList]; omega)
          (by rw [hzs]; simp only [List.length_append, hn1]; exact hcap) (by rw [hzs]; simp only [List.length_append, hn1]; exact h48) (by rw [hzs]; simp only [List.length_append, hn1]; exact hb47)
          (fun x hx => by
            rw [hzs] at hx
            rcases List.mem_append.1 hx with hx | hx
            · exact hk1 x hx
            · exact hlen x hx)
          (by rw [hzs, List.flatten_append]; exact hro.append hrep)
          (fun j u hj => by
            have hl1 : (vs.take (n * i.size)).length = n * i.size := by simp; omega
            have hl2 : (arr.toList.take (n * i.size)).length = n * i.size := by simp; omega
            simp only [List.getElem?_toArray, List.append_assoc]
            rcases Nat.lt_or_ge j (n * i.size) with h0 | h0
            · rw [List.getElem?_append_left (by omega), List.getElem?_take, if_pos h0] at hj
              rw [List.getElem?_append_left (by omega), List.getElem?_take, if_pos h0, Array.getElem?_toList]
              exact hcell _ _ hj
            · rw [List.getElem?_append_right (by omega), hl1] at hj
              rw [List.getElem?_append_right (by omega), hl2]
              have hlt := (List.getElem?_eq_some_iff.1 hj).1
              rw [List.getElem?_append_left hlt]; exact hj)
          hσ)
      · exact RepC.own (cap := cap) look_self (by rw [hzs]; simp only [List.length_append, hn1]; exact Nat.le_refl _) updP_self
    · refine grow (some ⟨B, 0, none⟩) cap (vs.take (n * i.size)) rfl (by omega) hk1 hn1 hro (fun w' hw => ?_)
      refine first_of (w := w) (by simp; omega) (fun j u hj => ?_) hw
      rw [Nat.zero_add, cell_of_heap hh]
      rw [List.getElem?_take] at hj
      split at hj
      · exact hcell _ _ hj
      · cases hj
theorem okops_append (hT : TabOk P T) {ops : Array Oper} {o : Oper} {rest : List Oper} {st : St} {K : St → Prop} {t t2 e e2 k b k2 b2 k' b' id n : Nat} {z z2 : List D} {x y : Operand} {v : AV} {xs ys zs : List (List D)}
    (ho : o.op = .call { callee := .builtin .append, args := #[x, y], argTypes := #[t, t2] }) (hg : o.guard = none) (hd : dstOk c.n o.dst = true) (ht : sliceTy T t = some (e, k, b, z)) (ht2 : sliceTy T t2 = some (e2, k2, b2, z2))
    (hlt : (Nat.blt id 1000000 || Nat.ble 2000000 id) = true) (hx : ev st x = some (.one (.own id n))) (hl : look st.sto id = some (.row k' b' xs)) (hkb : (Nat.beq k k' && Nat.beq b b') = true) (hy : ev st y = some v) (hs : srcOf st k v = some ys) (hzs : zs = xs.take n ++ ys)
    (h48 : n + ys.length < 2 ^ 48) (hb47 : (n + ys.length) * b ≤ 2 ^ 47)
    (h : OkOps P c ops rest ⟨putO o.dst (.one (.own id (n + ys.length))) (purFr id st.fr), setS id (.row k b zs) (purSto id st.sto)⟩ K) : OkOps P c ops (o :: rest) st K := by
  refine okops_run hg fun a w σ φ hr => ?_
  obtain ⟨u, w', p, hrun, h1, h2, h3, h4, h5, h6, h7⟩ := append_repl hT hr ho ht ht2 (ev_rep hr hx) hl hkb hy hs hzs h48 hb47
  obtain ⟨h8, h9⟩ := h7 id (purSto id st.sto)
  obtain ⟨σ', φ', hr'⟩ := hr.replace (dst := o.dst) (fun i hi => by simp only [Bool.or_eq_true, Nat.blt_eq, Nat.ble_eq] at hlt; omega) hl h1 h2 h3 h4 h5 h6 h8 hd h9
  exact ⟨u, w', _, σ', φ', hrun, hr', h⟩
theorem okops_appendN (hT : TabOk P T) {ops : Array Oper} {o : Oper} {rest : List Oper} {st : St} {K : St → Prop} {t t2 e e2 k b k2 b2 k' b' id id' n : Nat} {z z2 : List D} {x y : Operand} {v : AV} {xs ys zs : List (List D)}
    (ho : o.op = .call { callee := .builtin .append, args := #[x, y], argTypes := #[t, t2] }) (hg : o.guard = none) (hd : dstOk c.n o.dst = true) (ht : sliceTy T t = some (e, k, b, z)) (ht2 : sliceTy T t2 = some (e2, k2, b2, z2))
    (hlt : Nat.blt id' 1000000 = true) (hx : ev st x = some (.one (.own id n))) (hl : look st.sto id = some (.row k' b' xs)) (hkb : (Nat.beq k k' && Nat.beq b b') = true) (hy : ev st y = some v) (hs : srcOf st k v = some ys) (hzs : zs = xs.take n ++ ys)
    (h48 : n + ys.length < 2 ^ 48) (hb47 : (n + ys.length) * b ≤ 2 ^ 47) (hm1 : frMen id' st.fr = false) (hm2 : stoMen id' st.sto = false) (hm3 : look st.sto id' = none)
    (h : OkOps P c ops rest ⟨putO o.dst (.one (.own id' (n + ys.length))) st.fr, (id', .row k b zs) :: del id st.sto⟩ K) : OkOps P c ops (o :: rest) st K := by
  refine okops_run hg fun a w σ φ hr => ?_
  obtain ⟨u, w', σ', φ', hrun, hr'⟩ := hr.renew hlt hl hm1 hm2 hm3 (append_repl hT hr ho ht ht2 (ev_rep hr hx) hl hkb hy hs hzs h48 hb47) hd
  exact ⟨u, w', _, σ', φ', hrun, hr', h⟩
theorem Rel.nilRow {st : St} {a : Act} {id k b : Nat} (hr : Rel c st a w σ φ) (hlt : Nat.blt id 1000000 = true) (hm1 : frMen id st.fr = false) (hm2 : stoMen id st.sto = false) :
    Rel c ⟨st.fr, (id, .row k b []) :: st.sto⟩ a w σ (updP φ id none) := by
  have hE : Ext (· = id) φ (updP φ id none) st.sto ((id, .row k b []) :: st.sto) := Ext.add
  refine ⟨hr.le, hr.fresh, ⟨hr.inv.sig, fun i e hi => ?_, fun i i' e e' p p' hi hi' hne hp hp' => ?_⟩, fun i e p hi hp => ?_, fun t v hv => ?_, hr.defers, hr.size, hr.fra, fun i hi => by
    have : i ≠ id := by have := Nat.le_of_ble_eq_true hlt; omega
    rw [updP_ne this]; exact hr.pin i hi⟩
  · rcases look_cons hi with ⟨rfl, rfl⟩ | ⟨hne, hi⟩
    · exact .inl ⟨rfl, updP_self⟩
    · exact (hr.inv.obj _ _ hi).ext (Sig.le_refl _) hE (fun j hj => by cases hj; exact stoMen_look hm2 hi) (updP_ne hne) fun _ _ _ => ⟨rfl, rfl⟩
  · rcases look_cons hi with ⟨rfl, rfl⟩ | ⟨hn, hi⟩
    · rw [updP_self] at hp; cases hp
    · rcases look_cons hi' with ⟨rfl, rfl⟩ | ⟨hn', hi'⟩
      · rw [updP_self] at hp'; cases hp'
      · rw [updP_ne hn] at hp; rw [updP_ne hn'] at hp'
        exact hr.inv.inj _ _ _ _ _ _ hi hi' hne hp hp'
  · rcases look_cons hi with ⟨rfl, rfl⟩ | ⟨hn, hi⟩
    · rw [updP_self] at hp; cases hp
    · rw [updP_ne hn] at hp
      exact hr.mine _ _ _ hi hp
  · obtain ⟨u, hu, hru⟩ := hr.slot t v hv
    exact ⟨u, hu, hru.ext (Sig.le_refl _) hE fun j hj => by cases hj; exact frMen_look hm1 hv⟩
theorem stoMen_cons {i id : Nat} {o : AObj} {s : Sto} (ho : o.men i = false) (h : stoMen i s = false) : stoMen i ((id, o) :: s) = false := by
  simp [stoMen, ho, h]
theorem okops_appendNil (hT : TabOk P T) {ops : Array Oper} {o : Oper} {rest : List Oper} {st : St} {K : St → Prop} {t t2 e e2 k b k2 b2 id : Nat} {z z2 : List D} {x y : Operand} {v : AV} {ys : List (List D)}
    (ho : o.op = .call { callee := .builtin .append, args := #[x, y], argTypes := #[t, t2] }) (hg : o.guard = none) (hd : dstOk c.n o.dst = true) (ht : sliceTy T t = some (e, k, b, z)) (ht2 : sliceTy T t2 = some (e2, k2, b2, z2))
    (hlt : Nat.blt (id + 1) 1000000 = true) (hx : ev st x = some (.one (.d .nil))) (hy : ev st y = some v) (hs : srcOf st k v = some ys)
    (h48 : ys.length < 2 ^ 48) (hb47 : ys.length * b ≤ 2 ^ 47) (hf : ∀ i, i = id ∨ i = id + 1 → look st.sto i = none ∧ frMen i st.fr = false ∧ stoMen i st.sto = false)
    (h : OkOps P c ops rest ⟨putO o.dst (.one (.own id ys.length)) st.fr, (id, .row k b ys) :: st.sto⟩ K) : OkOps P c ops (o :: rest) st K := by
  refine okops_run hg fun a w σ φ hr => ?_
  obtain ⟨f1, f2, f3⟩ := hf id (.inl rfl)
  obtain ⟨g1, g2, g3⟩ := hf (id + 1) (.inr rfl)
  simp only [Nat.blt_eq] at hlt
  have hr1 := hr.nilRow (id := id + 1) (k := k) (b := b) (by simpa using hlt) g2 g3
  have hxr := ev_rep hr hx
  replace hxr := RepC.d_inv hxr
  have h1 : RepC σ (updP φ (id + 1) none) ((id + 1, .row k b []) :: st.sto) (.own (id + 1) 0) (a.eval x) := by
    generalize a.eval x = ux at hxr
    cases hxr
    exact .ownNil look_self updP_self
  have hs' : srcOf ⟨st.fr, (id + 1, .row k b []) :: st.sto⟩ k v = some ys := by
    have hne : ∀ {i : Nat} {o : AObj}, look st.sto i = some o → look ((id + 1, .row k b []) :: st.sto) i = some o := by
      intro i o hi
      rw [look_ne ?_]; exact hi
      rintro rfl; rw [g1] at hi; cases hi
    unfold srcOf at hs ⊢
    split at hs
    · exact hs
    · exact hs
    · split at hs
      · rename_i hl; simp only [hne hl]; exact hs
      · cases hs
    · split at hs
      · rename_i hl; simp only [hne hl]; exact hs
      · cases hs
    · cases hs
  have hrep := append_repl hT hr1 ho ht ht2 h1 look_self (by simp) hy hs' (zs := ys) (by simp) (by simpa using h48) (by simpa using hb47)
  obtain ⟨u, w', σ', φ', hrun, hr'⟩ := hr1.renew (id' := id) (by simp; omega) look_self f2 (stoMen_cons rfl f3) (by rw [look_ne (by omega)]; exact f1) hrep hd
  have hr2 : Rel c ⟨putO o.dst (.one (.own id (0 + ys.length))) st.fr, (id, .row k b ys) :: del (id + 1) ((id + 1, .row k b []) :: st.sto)⟩ (a.put o.dst u) w' σ' φ' := hr'
  obtain ⟨σ2, φ2, hr3⟩ := imp_sto (sto' := (id, .row k b ys) :: st.sto) (fun i => by
    by_cases hi : i = id
    · subst hi; rw [look_self, look_self]
    · rw [look_ne hi, look_ne hi]
      by_cases hi2 : i = id + 1
      · subst hi2
        rw [g1]
        cases hl : look (del (id + 1) ((id + 1, AObj.row k b []) :: st.sto)) (id + 1) with
        | none => rfl
        | some e => exact absurd rfl (look_del hl).1
      · rw [look_del_ne hi2, look_ne hi2]) _ _ _ _ hr2
  rw [Nat.zero_add] at hr3
  exact ⟨u, w', _, σ2, φ2, hrun, hr3, h⟩
end Go.Abs
namespace Go.Abs
open Go
variable {P : Program} {c : Ctx} {T : Tab} {σ : Sig} {φ : Pl} {sto : Sto} {w : World}
def MOf (φ : Pl) (sto : Sto) (b : Nat) : Prop := ∃ id e p, look sto id = some e ∧ φ id = some p ∧ p.1 = b
structure Kept (M : Nat → Prop) (w w' : World) : Prop where
  os : w'.os = w.os
  tape : w'.tape = w.tape
  output : w'.output = w.output
  size : w.heap.size ≤ w'.heap.size
  drawn : w.drawn ≤ w'.drawn
  block : ∀ b, b < w.heap.size → ¬ M b → w'.heap[b]? = w.heap[b]?
structure RetP (rav : AV) (rsto : Sto) (w : World) (σ : Sig) (φ : Pl) (M : Nat → Prop) (v : Value) (w' : World) (σ' : Sig) (φ' : Pl) : Prop where
  le : σ.le σ'
  fresh : ∀ b, σ' b ≠ none → σ b ≠ none ∨ w.heap.size ≤ b ∨ M b
  inv : HInv σ' φ' rsto w'
  rep : RepV σ' φ' rsto rav v
  mine : ∀ id e p, look rsto id = some e → φ' id = some p → w.heap.size ≤ p.1 ∨ M p.1
  pin : ∀ id, Pin id → φ' id = φ id
  kept : Kept M w w'
structure CallA (P : Program) (f : FuncId) (args : List AV) (sto : Sto) (rav : AV) (rsto : Sto) : Prop where
  fn : ∃ fn, P.funcs[f]? = some fn ∧ (fn.name == "runtime.NumGoroutine") = false ∧ fn.body.isSome = true
  run : ∀ (w : World) (σ : Sig) (φ : Pl) (vs : List Value), HInv σ φ sto w → All2 (RepV σ φ sto) args vs →
    Calls P f vs.toArray w fun e w' => ∃ v σ' φ', e = .returned v ∧ RetP rav rsto w σ φ (MOf φ sto) v w' σ' φ'
def res1 (T : Tab) (st : St) : ResultVar → Option (Bool × List AC)
  | .tmp t => match look st.fr t with
    | some (.one x) => some (false, [x])
    | some (.agg cs) => some (true, cs)
    | _ => none
  | .cell a t => match tySz T t, look st.fr a with
    | some (g, s), some v => match loadF st.sto g s v with
      | some (.one x) => some (false, [x])
      | some (.agg cs) => some (true, cs)
      | _ => none
    | _, _ => none
def resL (T : Tab) (st : St) : List ResultVar → Option (List (Bool × List AC))
  | [] => some []
  | r :: rs => match res1 T st r with
    | some x => match resL T st rs with
      | some l => some (x :: l)
      | none => none
    | none => none
def resAV : List (Bool × List AC) → Option AV
  | [(false, [x])] => some (.one x)
  | [(true, cs)] => some (.agg cs)
  | [_] => none
  | l => some (.tup l)
theorem res1_run (hT : TabOk P T) {st : St} {a : Act} (hr : Rel c st a w σ φ) {r : ResultVar} {x : Bool × List AC} (h : res1 T st r = some x) :
    ∃ u, ((match r with
      | .tmp t => pure (a.tmps.getD t undef)
      | .cell b t => do loadVar t (← asAddr (a.tmps.getD b undef))) : Sem Value).run P w = .ok u w ∧ RepT σ φ st.sto x u := by
  cases r with
  | tmp t =>
    simp only [res1] at h
    split at h <;> simp at h <;> subst h <;> rename_i hl <;> obtain ⟨u, hu, hru⟩ := hr.slot _ _ hl
    · refine ⟨u, by simp [Array.getD_eq_getD_getElem?, hu], hru, trivial⟩
    · exact ⟨u, by simp [Array.getD_eq_getD_getElem?, hu], hru⟩
  | cell b t =>
    simp only [res1] at h
    split at h
    · rename_i g s v ht hl
      obtain ⟨u, hu, hru⟩ := hr.slot _ _ hl
      have key : ∀ {v' : AV}, loadF st.sto g s v = some v' → ∃ u', (do loadVar t (← asAddr (a.tmps.getD b undef)) : Sem Value).run P w = .ok u' w ∧ RepV σ φ st.sto v' u' := by
        intro v' hv'
        obtain ⟨u', hu', hru'⟩ := loadF_run (P := P) (w := w) hT ht hv' hru hr.inv
        have hp : ∃ ad, u = .pointer (some ad) := by
          unfold loadF at hv'
          split at hv'
          · replace hru := RepC.d_inv hru; cases hru; exact ⟨_, rfl⟩
          · rename_i id o'
            split at hv'
            · rename_i cells hlk
              cases hru with
              | ref _ _ => exact ⟨_, rfl⟩
              | dead hxx _ => simp [acIn, hasK_of hlk] at hxx
            · simp at hv'
          · simp at hv'
        obtain ⟨ad, rfl⟩ := hp
        refine ⟨u', ?_, hru'⟩
        simpa [Array.getD_eq_getD_getElem?, hu, asAddr, Instr.loadAt, Instr.sureAddr] using hu'
      split at h
      · rename_i x' hx
        simp at h; subst h
        obtain ⟨u', h1, h2⟩ := key hx
        exact ⟨u', h1, h2, trivial⟩
      · rename_i cs hx
        simp at h; subst h
        obtain ⟨u', h1, h2⟩ := key hx
        exact ⟨u', h1, h2⟩
      · simp at h
    · simp at h
theorem resL_run (hT : TabOk P T) {st : St} {a : Act} (hr : Rel c st a w σ φ) : ∀ {rs : List ResultVar} {l : List (Bool × List AC)}, resL T st rs = some l →
    ∃ us, (rs.mapM (fun r => (match r with
      | .tmp t => pure (a.tmps.getD t undef)
      | .cell b t => do loadVar t (← asAddr (a.tmps.getD b undef)) : Sem Value)) : Sem (List Value)).run P w = .ok us w ∧ All2 (RepT σ φ st.sto) l us
  | [], l, h => by simp [resL] at h; subst h; exact ⟨[], by simp, trivial⟩
  | r :: rs, l, h => by
    simp only [resL] at h
    split at h <;> (try (simp at h; done))
    rename_i x hx
    split at h <;> simp at h
    rename_i l' hl'
    subst h
    obtain ⟨u, hu, hru⟩ := res1_run (P := P) hT hr hx
    obtain ⟨us, hus, hrus⟩ := resL_run hT hr hl'
    refine ⟨u :: us, ?_, hru, hrus⟩
    simp only [List.mapM_cons, Sem.run_bind, hu, Result.andThen_ok, hus, Sem.run_pure]
theorem resAV_run (hT : TabOk P T) {st : St} {a : Act} (hr : Rel c st a w σ φ) {fn : Func} {l : List (Bool × List AC)} {rav : AV} (h : resL T st fn.results.toList = some l) (h2 : resAV l = some rav) :
    ∃ u, (results fn a.tmps).run P w = .ok u w ∧ RepV σ φ st.sto rav u := by
  obtain ⟨us, hus, hrus⟩ := resL_run (P := P) hT hr h
  have hrun : (results fn a.tmps).run P w = .ok (if h : us.toArray.size = 1 then us.toArray[0] else .tuple us.toArray) w := by
    unfold results
    rw [Array.mapM_eq_mapM_toList, Sem.run_bind, Sem.run_map]
    erw [hus]
    rfl
  refine ⟨_, hrun, ?_⟩
  unfold resAV at h2
  split at h2
  · simp at h2; subst h2
    match us, hrus with
    | [u], hrus => exact hrus.1.1
  · simp at h2; subst h2
    match us, hrus with
    | [u], hrus => exact hrus.1
  · simp at h2
  · rename_i l' h3 h4 h5
    simp at h2; subst h2
    have hl1 := hrus.length
    have : us.toArray.size ≠ 1 := by
      intro hs
      have hl2 : l.length = 1 := by rw [hl1]; simpa using hs
      match l, hl2 with
      | [x], _ => exact h5 x rfl
    rw [dif_neg this]
    exact ⟨us, rfl, hrus⟩
def RetQ (T : Tab) (rs : List ResultVar) (rav : AV) (rsto : Sto) (e : Exit) (st : St) : Prop :=
  (e = .ret ∨ e = .normal) ∧ ∃ l, resL T st rs = some l ∧ resAV l = some rav ∧ SubL st.sto rsto
def initFr : Nat → List AV → List (Nat × AV)
  | _, [] => []
  | i, v :: r => (i, v) :: initFr (i + 1) r
theorem look_initFr : ∀ {args : List AV} {i s : Nat} {v : AV}, look (initFr i args) s = some v → i ≤ s ∧ args[s - i]? = some v
  | [], _, _, _, h => by simp [initFr, look] at h
  | a :: r, i, s, v, h => by
    simp only [initFr] at h
    rcases look_cons h with ⟨rfl, rfl⟩ | ⟨hne, h⟩
    · exact ⟨Nat.le_refl _, by simp⟩
    · obtain ⟨h1, h2⟩ := look_initFr h
      have : s - i = (s - (i + 1)) + 1 := by omega
      exact ⟨by omega, by rw [this]; simpa using h2⟩
theorem ObjRep.off {id r : Nat} {e : AObj} {w' : World} {ds : Option (List Deferred)} (hr : w.heap[r]? = some (.deferred ds)) (hw : ∀ b, b ≠ r → w'.heap[b]? = w.heap[b]?) (h : ObjRep σ φ sto w id e) : ObjRep σ φ sto w' id e := by
  have key : ∀ {B : Nat} {o : Obj}, w.heap[B]? = some o → (∀ ds, o ≠ .deferred ds) → w'.heap[B]? = some o := by
    intro B o hB ho
    rw [hw B ?_]; exact hB
    rintro rfl
    rw [hr] at hB; cases hB
    exact ho _ rfl
  cases e with
  | box cs =>
    obtain ⟨B, c, vs, t, h1, h2, h3⟩ := h
    exact ⟨B, c, vs, t, h1, key h2 (by simp), h3⟩
  | row k b xs =>
    rcases h with h | ⟨B, cap, arr, t, vs, h1, h2, h3⟩
    · exact .inl h
    · exact .inr ⟨B, cap, arr, t, vs, h1, key h2 (by simp), h3⟩
  | map kg vg es =>
    obtain ⟨B, c, ents, h1, h2, h3⟩ := h
    exact ⟨B, c, ents, h1, key h2 (by simp), h3⟩
  | loop li fr s p =>
    obtain ⟨B, c, r', h1, h2, h3⟩ := h
    exact ⟨B, c, r', h1, key h2 (by simp), h3⟩
theorem Rel.off {st : St} {a : Act} {w' : World} {r : Nat} {ds : Option (List Deferred)} (h : Rel c st a w σ φ) (hr : w.heap[r]? = some (.deferred ds)) (hge : c.w0.heap.size ≤ r) (hw : ∀ b, b ≠ r → w'.heap[b]? = w.heap[b]?)
    (hos : w'.os = w.os) (htape : w'.tape = w.tape) (hout : w'.output = w.output) (hsize : w.heap.size ≤ w'.heap.size ∧ w.drawn ≤ w'.drawn) : Rel c st a w' σ φ := by
  refine ⟨h.le, h.fresh, ⟨fun b cs hb => ?_, fun id e hi => (h.inv.obj id e hi).off hr hw, h.inv.inj⟩, h.mine, h.slot, h.defers, h.size, ⟨hos.trans h.fra.os, htape.trans h.fra.tape, hout.trans h.fra.output, Nat.le_trans h.fra.size hsize.1, Nat.le_trans h.fra.drawn hsize.2, fun b hb hM => ?_⟩, h.pin⟩
  · obtain ⟨t, f, hh⟩ := h.inv.sig b cs hb
    refine ⟨t, f, (hw b ?_).trans hh⟩
    rintro rfl
    rw [hr] at hh; cases hh
  · rw [hw b (by omega)]
    exact h.fra.block b hb hM
theorem take_run {r : Nat} (hr : w.heap[r]? = some (.deferred (some []))) : ∃ w', (Instr.takeDeferred r).run P w = .ok [] w' ∧ (∀ b, b ≠ r → w'.heap[b]? = w.heap[b]?) ∧ w'.os = w.os ∧ w'.tape = w.tape ∧ w'.output = w.output ∧ (w.heap.size ≤ w'.heap.size ∧ w.drawn ≤ w'.drawn) := by
  refine ⟨{ w with heap := w.heap.setIfInBounds r (.deferred none) }, by simp [Instr.takeDeferred, getObj, setObj, Sem.run, hr], fun b hb => ?_, rfl, rfl, rfl, ?_⟩
  · simp [Array.getElem?_setIfInBounds_ne (fun e => hb e.symm)]
  · simp
theorem callA_of_ok (hT : TabOk P T) {f : FuncId} {fn : Func} {code : Code} {args : List AV} {sto : Sto} {rav : AV} {rsto : Sto} (hf : P.funcs[f]? = some fn) (hb : fn.body = some code)
    (hname : (fn.name == "runtime.NumGoroutine") = false) (hn : Nat.ble args.length fn.ntmps = true)
    (h : ∀ (w0 : World) (σ0 : Sig) (φ0 : Pl) (M : Nat → Prop), OkC P ⟨w0, σ0, φ0, M, fn.ntmps, none, []⟩ code ⟨initFr 0 args, sto⟩ (RetQ T fn.results.toList rav rsto)) : CallA P f args sto rav rsto := by
  refine ⟨⟨fn, hf, hname, by rw [hb]; rfl⟩, fun w σ φ vs hinv hargs => ?_⟩
  refine (callsIn_wide (n := 0)).1 (callsIn_of_wp_marks hf hb trivial ?_)
  have hlen := hargs.length
  have hle := Nat.le_of_ble_eq_true hn
  have hrel : Rel ⟨w, σ, φ, MOf φ sto, fn.ntmps, none, []⟩ ⟨initFr 0 args, sto⟩ { tmps := vs.toArray ++ Array.replicate (fn.ntmps - vs.toArray.size) undef, defers := [] } w σ φ := by
    refine ⟨Sig.le_refl _, fun b hb => .inl hb, hinv, fun id e p hi hp => .inr ⟨id, e, p, hi, hp, rfl⟩, fun s v hv => ?_, rfl, by simp; omega, ⟨rfl, rfl, rfl, Nat.le_refl _, Nat.le_refl _, fun _ _ _ => rfl⟩, fun _ _ => rfl⟩
    obtain ⟨_, h2⟩ := look_initFr hv
    simp only [Nat.sub_zero] at h2
    obtain ⟨u, hu, hru⟩ := hargs.get h2
    have hlt := (List.getElem?_eq_some_iff.1 hu).1
    refine ⟨u, ?_, hru⟩
    simp only
    rw [Array.getElem?_append_left (by simpa using hlt)]
    simpa using hu
  refine wpIn_mono (h w σ φ (MOf φ sto) _ _ _ _ hrel) ?_
  rintro e a' w' ⟨st', σ', φ', ⟨he, l, hl, hav, hsub⟩, hrE⟩
  have fin : ∀ {a' : Act} {w' : World}, Rel ⟨w, σ, φ, MOf φ sto, fn.ntmps, none, []⟩ st' a' w' σ' φ' → ∃ u, (results fn a'.tmps).run P w' = .ok u w' ∧ ∃ v σ' φ', Ending.returned u = .returned v ∧ RetP rav rsto w σ φ (MOf φ sto) v w' σ' φ' := by
    intro a' w' hr
    obtain ⟨u, hu, hru⟩ := resAV_run (P := P) hT hr hl hav
    refine ⟨u, hu, u, σ', φ', rfl, hr.le, hr.fresh, ⟨hr.inv.sig, fun i e hi => ?_, fun i i' e e' p p' hi hi' => hr.inv.inj _ _ _ _ _ _ (hsub.look hi) (hsub.look hi')⟩, hru.ext (Sig.le_refl _) (Ext.sub hsub) (fun j hj => hj.elim),
      fun i e p hi hp => hr.mine _ _ _ (hsub.look hi) hp, hr.pin, ⟨hr.fra.os, hr.fra.tape, hr.fra.output, hr.fra.size, hr.fra.drawn, hr.fra.block⟩⟩
    exact (hr.inv.obj _ _ (hsub.look hi)).ext (X := fun _ => False) (Sig.le_refl _) (Ext.sub hsub) (fun j hj => hj.elim) rfl fun _ _ _ => ⟨rfl, rfl⟩
  have plain : ∀ {a' : Act} {w' : World}, Rel ⟨w, σ, φ, MOf φ sto, fn.ntmps, none, []⟩ st' a' w' σ' φ' → LeavesInM Fence.wide 0 P fn a'.tmps (fun e w' => ∃ v σ' φ', e = .returned v ∧ RetP rav rsto w σ φ (MOf φ sto) v w' σ' φ') a'.defers .returning w' := by
    intro a' w' hr
    rw [hr.defers]
    obtain ⟨u, hu, hf⟩ := fin hr
    exact ⟨u, hu, hf⟩
  have hpost : LeavesInM Fence.wide 0 P fn a'.tmps (fun e w' => ∃ v σ' φ', e = .returned v ∧ RetP rav rsto w σ φ (MOf φ sto) v w' σ' φ') a'.defers .returning w' := by
    rcases hrE with hr | ⟨_, r, hd, hh, hge, hr⟩
    · exact plain hr
    · obtain ⟨w2, h1, h2, h3, h4, h5, h6⟩ := take_run (P := P) hh
      have hr2 := hr.off hh hge h2 h3 h4 h5 h6
      obtain ⟨u, hu, hf⟩ := fin hr2
      rw [hd]
      exact ⟨by simp, .inl ⟨r, w2, rfl, h1, u, hu, hf⟩⟩
  rcases he with rfl | rfl
  · exact hpost
  · exact hpost
end Go.Abs
