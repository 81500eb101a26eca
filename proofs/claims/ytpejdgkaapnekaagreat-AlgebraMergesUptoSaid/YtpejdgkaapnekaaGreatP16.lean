import Derived.Test.YtpejdgkaapnekaaGreatP7
import Derived.Test.YtpejdgkaapnekaaGreatP6
import Derived.Test.YtpejdgkaapnekaaGreatKZ
set_option linter.unusedVariables false
set_option linter.unusedSimpArgs false
namespace Go.Proofs.YtpejdgkaapnekaaGreat
open Go Go.Abs
attribute [local irreducible] OkOps OkC DRun thenQ blockQ RetQ
set_option maxRecDepth 10000
theorem c19 : CallA Tryz.prog 19 [] [] (.one (.d (.bool true))) [] := k445
theorem c32t (a : Arr) (h : chkA a = 0) : CallA Tryz.prog 32 [aggA a, aggA a] [] (.one (.d (.bool true))) [] := by
  have h1 := c32 a a
  have e : spSame a a = true := by
    unfold spSame
    rw [(sameF_eq eqDim_iff).2 rfl, (sameF_eq eqAttr_iff).2 rfl, (sameF_eq eqCell_iff).2 rfl, h]
    rfl
  rw [e] at h1
  exact h1
end Go.Proofs.YtpejdgkaapnekaaGreat
namespace Go.Proofs.YtpejdgkaapnekaaGreat
open Go Go.Abs
attribute [local irreducible] OkOps OkC DRun thenQ blockQ RetQ
set_option maxRecDepth 10000
end Go.Proofs.YtpejdgkaapnekaaGreat
namespace Go.Proofs.YtpejdgkaapnekaaGreat
open Go Go.Abs
def extF (d : Dim) : Int := d.hi - d.lo + 1
def volGo : Int → List Dim → Int × Int
  | n, [] => (n, 0)
  | n, d :: r => if (4611686018427387904 : Int) / extF d < n then (0, 14) else volGo (n * extF d) r
def volF (ds : List Dim) : Int × Int := if dimsF ds ≠ 0 then (0, dimsF ds) else if ds.any (fun d => d.hi == 1073741825) then (0, 3) else volGo 1 ds
def prodF : List Dim → Int
  | [] => 1
  | d :: r => extF d * prodF r
theorem ext_pos {d : Dim} (h : boundsF d.lo d.hi = true) : 0 < extF d := by
  have := boundsF_ok.1 h
  unfold extF; omega
structure Resh (a : Arr) (es : List Dim) : Prop where
  oka : OkA a.dims a.attrs a.cells
  sch : schemaF es a.attrs = 0
  fin : ∀ i, i < a.dims.length → (at_ a.dims i).hi ≤ 1073741824
  fin' : ∀ i, i < es.length → (at_ es i).hi ≤ 1073741824
  same : prodF a.dims = prodF es
section
variable {a : Arr} {es : List Dim}
theorem Resh.ext (h : Resh a es) : (∀ d ∈ a.dims, 0 < extF d) ∧ ∀ d ∈ es, 0 < extF d :=
  ⟨fun d hd => ext_pos ((dimsF_ok (schemaF_ok h.oka.sch).1).2.2.1 d hd).1, fun d hd => ext_pos ((dimsF_ok (schemaF_ok h.sch).1).2.2.1 d hd).1⟩
theorem Resh.cell (h : Resh a es) {c : Cell} (hc : c ∈ a.cells) : c.at'.length = a.dims.length ∧ ∀ i, i < a.dims.length → (at_ a.dims i).lo ≤ at_ c.at' i ∧ at_ c.at' i ≤ (at_ a.dims i).hi := by
  obtain ⟨h1, h2, h3, h4⟩ := cellF_ok.1 (h.oka.cel c hc)
  rw [withinL_iff h1] at h3
  refine ⟨h1, fun i hi => ?_⟩
  have := h3 i hi
  unfold lastF at this
  omega
end
end Go.Proofs.YtpejdgkaapnekaaGreat
namespace Go.Proofs.YtpejdgkaapnekaaGreat
open Go Go.Abs
def pickF {α : Type} [Inhabited α] (l : List α) (ks : List Int) : List α := ks.map fun k => at_ l k.toNat
def permC (ks : List Int) (c : Cell) : Cell := ⟨pickF c.at' ks, c.vals⟩
theorem len_le : ∀ {m : Nat} {l : List Nat}, l.Nodup → (∀ x ∈ l, x < m) → l.length ≤ m
  | 0, l, _, h => by
    cases l with
    | nil => simp
    | cons x r => exact absurd (h x List.mem_cons_self) (Nat.not_lt_zero _)
  | m + 1, l, hn, h => by
    by_cases hm : m ∈ l
    · have h1 := len_le (m := m) (l := l.erase m) (hn.erase m) fun x hx => by
        have h2 := (hn.mem_erase_iff).1 hx
        have := h x h2.2
        omega
      rw [List.length_erase_of_mem hm] at h1
      omega
    · have h1 := len_le (m := m) (l := l) hn fun x hx => by
        have := h x hx
        have : x ≠ m := fun e => hm (e ▸ hx)
        omega
      omega
theorem pigeon {l : List Nat} {n : Nat} (hn : l.Nodup) (hl : l.length = n) (h : ∀ x ∈ l, x < n) {i : Nat} (hi : i < n) : i ∈ l := by
  by_cases hm : i ∈ l
  · exact hm
  · have h1 := len_le (m := n) (l := i :: l) (List.nodup_cons.2 ⟨hm, hn⟩) fun x hx => by
      rcases List.mem_cons.1 hx with rfl | hx
      · exact hi
      · exact h x hx
    simp only [List.length_cons] at h1
    omega
structure Tran (a : Arr) (names : List (List UInt8)) : Prop where
  oka : OkA a.dims a.attrs a.cells
  len : names.length = a.dims.length
  all : ∀ n ∈ names, ¬ dimX a.dims n < 0
  nd : (names.map (dimX a.dims)).Nodup
def ixs (ds : List Dim) (names : List (List UInt8)) : List Int := names.map (dimX ds)
def tranA (a : Arr) (names : List (List UInt8)) : Arr := ⟨pickF a.dims (ixs a.dims names), a.attrs, sortF (a.cells.map (permC (ixs a.dims names)))⟩
theorem pick_at {α : Type} [Inhabited α] {l : List α} {ks : List Int} {i : Nat} (h : i < ks.length) : at_ (pickF l ks) i = at_ l (at_ ks i).toNat := by
  unfold pickF; rw [at_mapN h]
theorem pick_len {α : Type} [Inhabited α] {l : List α} {ks : List Int} : (pickF l ks).length = ks.length := by simp [pickF]
theorem dimX_one {ds : List Dim} (hn : (ds.map Dim.name).Nodup) {j : Nat} (hj : j < ds.length) {n : List UInt8} (h : (at_ ds j).name = n) : dimX ds n = (j : Int) := by
  have h0 : ¬ dimX ds n < 0 := fun hx => by
    have := idxGo_none hx _ (at_mem hj)
    simp [h] at this
  obtain ⟨k, h1, h2, h3, _⟩ := dimX_at h0
  have := names_nd hn h2 hj (h3.trans h.symm)
  rw [h1, this]
section
variable {a : Arr} {names : List (List UInt8)}
theorem Tran.ix (h : Tran a names) {i : Nat} (hi : i < names.length) : ∃ k : Nat, at_ (ixs a.dims names) i = (k : Int) ∧ k < a.dims.length ∧ (at_ a.dims k).name = at_ names i := by
  obtain ⟨k, h1, h2, h3, _⟩ := dimX_at (h.all _ (at_mem hi))
  exact ⟨k, by unfold ixs; rw [at_mapN hi, h1], h2, h3⟩
theorem ix_len : (ixs a.dims names).length = names.length := by simp [ixs]
theorem Tran.nms (h : Tran a names) : (tranA a names).dims.map Dim.name = names := by
  refine at_ext (by simp [tranA, pickF, ixs]) fun i hi => ?_
  have hi' : i < names.length := by simpa [tranA, pickF, ixs] using hi
  obtain ⟨k, h1, h2, h3⟩ := h.ix hi'
  rw [at_mapN (by show i < (pickF _ _).length; rw [pick_len, ix_len]; exact hi')]
  show (at_ (pickF a.dims (ixs a.dims names)) i).name = _
  rw [pick_at (by rw [ix_len]; exact hi'), h1]
  exact h3
theorem Tran.namesNd (h : Tran a names) : names.Nodup := by
  have := h.nd
  rw [List.Nodup, List.pairwise_map] at this
  exact this.imp fun hne e => hne (by rw [e])
theorem Tran.onto (h : Tran a names) {i : Nat} (hi : i < a.dims.length) : ∃ j, j < names.length ∧ at_ (ixs a.dims names) j = (i : Int) := by
  have hlt : ∀ x ∈ (ixs a.dims names).map Int.toNat, x < a.dims.length := fun x hx => by
    obtain ⟨y, hy, rfl⟩ := List.mem_map.1 hx
    obtain ⟨j, hj, rfl⟩ := at_ofmem hy
    rw [ix_len] at hj
    obtain ⟨k, h1, h2, _⟩ := h.ix hj
    rw [h1]; simpa using h2
  have hnd : ((ixs a.dims names).map Int.toNat).Nodup := by
    rw [List.Nodup, List.pairwise_map]
    refine List.Pairwise.imp_of_mem ?_ h.nd
    intro x y hx hy hne e
    apply hne
    obtain ⟨j, hj, rfl⟩ := at_ofmem (l := ixs a.dims names) hx
    obtain ⟨j', hj', rfl⟩ := at_ofmem (l := ixs a.dims names) hy
    rw [ix_len] at hj hj'
    obtain ⟨k, h1, _⟩ := h.ix hj
    obtain ⟨k', h1', _⟩ := h.ix hj'
    rw [h1, h1'] at e ⊢
    have e' : k = k' := by simpa using e
    rw [e']
  have := pigeon hnd (by rw [List.length_map, ix_len]; exact h.len) hlt hi
  obtain ⟨y, hy, e⟩ := List.mem_map.1 this
  obtain ⟨j, hj, rfl⟩ := at_ofmem hy
  rw [ix_len] at hj
  obtain ⟨k, h1, _⟩ := h.ix hj
  exact ⟨j, hj, by rw [h1] at e ⊢; simp at e; rw [e]⟩
theorem Tran.cell (h : Tran a names) {c : Cell} (hc : c ∈ a.cells) : c.at'.length = a.dims.length := (cellF_ok.1 (h.oka.cel c hc)).1
theorem Tran.old (h : Tran a names) {i : Nat} (hi : i < a.dims.length) : ∃ j : Nat, j < names.length ∧ dimX (tranA a names).dims (at_ a.dims i).name = (j : Int) ∧ at_ (ixs a.dims names) j = (i : Int) := by
  obtain ⟨j, hj, he⟩ := h.onto hi
  refine ⟨j, hj, dimX_one (by rw [h.nms]; exact h.namesNd) (by show j < (pickF _ _).length; rw [pick_len, ix_len]; exact hj) ?_, he⟩
  show (at_ (pickF a.dims (ixs a.dims names)) j).name = _
  rw [pick_at (by rw [ix_len]; exact hj), he]
  rfl
end
end Go.Proofs.YtpejdgkaapnekaaGreat
namespace Go.Proofs.YtpejdgkaapnekaaGreat
open Go Go.Abs
def renA (a : Arr) (n m : List UInt8) : Arr :=
  if 0 ≤ dimX a.dims n then ⟨a.dims.set (dimX a.dims n).toNat ⟨m, (at_ a.dims (dimX a.dims n).toNat).lo, (at_ a.dims (dimX a.dims n).toNat).hi⟩, a.attrs, a.cells⟩
  else ⟨a.dims, a.attrs.set (atX a.attrs n).toNat ⟨m, (at_ a.attrs (atX a.attrs n).toNat).type⟩, a.cells⟩
theorem attrsGo_iff : ∀ {ats : List Attr} {met : List (List UInt8)}, attrsGo met ats = 0 ↔ (∀ x ∈ ats, nameF x.name = true ∧ x.name ∉ met ∧ 1 ≤ x.type ∧ x.type ≤ 4) ∧ (ats.map Attr.name).Nodup
  | [], met => by simp [attrsGo]
  | x :: r, met => by
    have ih := attrsGo_iff (ats := r) (met := met ++ [x.name])
    simp only [attrsGo]
    constructor
    · intro h
      split at h
      · omega
      split at h
      · omega
      rename_i h1 h2
      obtain ⟨i1, i2⟩ := ih.1 h
      simp only [Bool.or_eq_true, Bool.not_eq_true', not_or, Bool.not_eq_false, Bool.not_eq_true, List.contains_eq_mem, decide_eq_true_eq, decide_eq_false_iff_not] at h1
      refine ⟨fun y hy => ?_, ?_⟩
      · rcases List.mem_cons.1 hy with rfl | hy
        · exact ⟨h1.1, h1.2, by omega, by omega⟩
        · obtain ⟨j1, j2, j3, j4⟩ := i1 y hy
          exact ⟨j1, fun hm => j2 (List.mem_append.2 (.inl hm)), j3, j4⟩
      · rw [List.map_cons, List.nodup_cons]
        refine ⟨fun hm => ?_, i2⟩
        obtain ⟨y, hy, he⟩ := List.mem_map.1 hm
        exact (i1 y hy).2.1 (by rw [he]; simp)
    · rintro ⟨h1, h2⟩
      rw [List.map_cons, List.nodup_cons] at h2
      obtain ⟨j1, j2, j3, j4⟩ := h1 x List.mem_cons_self
      rw [if_neg (by simp [j1, j2]), if_neg (by omega)]
      refine ih.2 ⟨fun y hy => ?_, h2.2⟩
      obtain ⟨k1, k2, k3, k4⟩ := h1 y (List.mem_cons_of_mem _ hy)
      refine ⟨k1, fun hm => ?_, k3, k4⟩
      rcases List.mem_append.1 hm with hm | hm
      · exact k2 hm
      · exact h2.1 (List.mem_map.2 ⟨y, hy, List.mem_singleton.1 hm⟩)
theorem atX_at {ats : List Attr} {n : List UInt8} (h : ¬ atX ats n < 0) : ∃ k : Nat, atX ats n = (k : Int) ∧ k < ats.length ∧ (at_ ats k).name = n := by
  obtain ⟨k, h1, h2, h3, _⟩ := idxGo_at h
  exact ⟨k, by unfold atX; rw [h1]; simp, h2, by simpa using h3⟩
theorem dimX_mem {ds : List Dim} {n : List UInt8} : 0 ≤ dimX ds n ↔ n ∈ ds.map Dim.name := by
  constructor
  · intro h
    obtain ⟨k, _, h2, h3, _⟩ := dimX_at (ds := ds) (name := n) (by omega)
    exact List.mem_map.2 ⟨_, at_mem h2, h3⟩
  · intro h
    obtain ⟨d, hd, rfl⟩ := List.mem_map.1 h
    by_cases h0 : dimX ds d.name < 0
    · have := idxGo_none h0 d hd
      simp at this
    · omega
theorem atX_mem {ats : List Attr} {n : List UInt8} : 0 ≤ atX ats n ↔ n ∈ ats.map Attr.name := by
  constructor
  · intro h
    obtain ⟨k, _, h2, h3⟩ := atX_at (ats := ats) (n := n) (by omega)
    exact List.mem_map.2 ⟨_, at_mem h2, h3⟩
  · intro h
    obtain ⟨d, hd, rfl⟩ := List.mem_map.1 h
    by_cases h0 : atX ats d.name < 0
    · have := idxGo_none h0 d hd
      simp at this
    · omega
structure Ren (a : Arr) (n m : List UInt8) : Prop where
  oka : OkA a.dims a.attrs a.cells
  has : n ∈ a.dims.map Dim.name ∨ n ∈ a.attrs.map Attr.name
  nm : nameF m = true
  new : m = n ∨ (m ∉ a.dims.map Dim.name ∧ m ∉ a.attrs.map Attr.name)
section
variable {a : Arr} {n m : List UInt8}
theorem Ren.nd (h : Ren a n m) : (a.dims.map Dim.name).Nodup ∧ (a.attrs.map Attr.name).Nodup ∧ ∀ x, x ∈ a.attrs.map Attr.name → x ∉ a.dims.map Dim.name := by
  have hs := attrsGo_iff.1 (schemaF_ok h.oka.sch).2.2.2
  refine ⟨h.oka.dims.2.2.2, hs.2, fun x hx hd => ?_⟩
  obtain ⟨t, ht, rfl⟩ := List.mem_map.1 hx
  exact (hs.1 t ht).2.1 hd
theorem Ren.which (h : Ren a n m) : (∃ k : Nat, dimX a.dims n = (k : Int) ∧ k < a.dims.length ∧ (at_ a.dims k).name = n ∧ renA a n m = ⟨a.dims.set k ⟨m, (at_ a.dims k).lo, (at_ a.dims k).hi⟩, a.attrs, a.cells⟩) ∨
    (n ∉ a.dims.map Dim.name ∧ ∃ k : Nat, atX a.attrs n = (k : Int) ∧ k < a.attrs.length ∧ (at_ a.attrs k).name = n ∧ renA a n m = ⟨a.dims, a.attrs.set k ⟨m, (at_ a.attrs k).type⟩, a.cells⟩) := by
  by_cases h0 : 0 ≤ dimX a.dims n
  · obtain ⟨k, h1, h2, h3, _⟩ := dimX_at (ds := a.dims) (name := n) (by omega)
    refine .inl ⟨k, h1, h2, h3, ?_⟩
    unfold renA
    rw [if_pos h0, h1]
    rfl
  · have hd : n ∉ a.dims.map Dim.name := fun hh => h0 (dimX_mem.2 hh)
    have ha := h.has.resolve_left hd
    have h4 := atX_mem.2 ha
    obtain ⟨k, h1, h2, h3⟩ := atX_at (ats := a.attrs) (n := n) (by omega)
    refine .inr ⟨hd, k, h1, h2, h3, ?_⟩
    unfold renA
    rw [if_neg h0, h1]
    rfl
end
end Go.Proofs.YtpejdgkaapnekaaGreat
namespace Go.Proofs.YtpejdgkaapnekaaGreat
open Go Go.Abs
attribute [local irreducible] OkOps OkC DRun thenQ blockQ RetQ
set_option maxRecDepth 10000
structure Dok (ds : List Dim) : Prop where
  len : 1 ≤ ds.length ∧ ds.length ≤ 4
  bnd : ∀ i, i < ds.length → -1073741824 ≤ (at_ ds i).lo ∧ (at_ ds i).lo ≤ 1073741824 ∧ (at_ ds i).lo ≤ (at_ ds i).hi ∧ (at_ ds i).hi ≤ 1073741825
  ext : ∀ i, i < ds.length → 1 ≤ (at_ ds i).hi - (at_ ds i).lo + 1
structure Vok (ds : List Dim) : Prop where
  dok : Dok ds
  fin : ∀ i, i < ds.length → (at_ ds i).hi ≤ 1073741824
  vol : (volF ds).1 = prodF ds
  part : ∀ i, i < ds.length → prodF (ds.take i) * ((at_ ds i).hi - (at_ ds i).lo + 1) ≤ 4611686018427387904
  all : prodF ds ≤ 4611686018427387904
end Go.Proofs.YtpejdgkaapnekaaGreat
namespace Go.Proofs.YtpejdgkaapnekaaGreat
open Go Go.Abs
attribute [local irreducible] OkOps OkC DRun thenQ blockQ RetQ
set_option maxRecDepth 10000
end Go.Proofs.YtpejdgkaapnekaaGreat
namespace Go.Proofs.YtpejdgkaapnekaaGreat
open Go Go.Abs
attribute [local irreducible] OkOps OkC DRun thenQ blockQ RetQ
set_option maxRecDepth 10000
mutual
def countF : Scalar → Int → Int
  | .mk _ _ _ a, most => countLs a 1 most
def countLs : List Scalar → Int → Int → Int
  | [], n, _ => n
  | x :: r, n, most => if n ≤ most then countLs r (n + countF x (most - n)) most else n
end
end Go.Proofs.YtpejdgkaapnekaaGreat
namespace Go.Proofs.YtpejdgkaapnekaaGreat
open Go Go.Abs
attribute [local irreducible] OkOps OkC DRun thenQ blockQ RetQ
set_option maxRecDepth 10000
end Go.Proofs.YtpejdgkaapnekaaGreat
namespace Go.Proofs.YtpejdgkaapnekaaGreat
open Go Go.Abs
attribute [local irreducible] OkOps OkC DRun thenQ blockQ RetQ
set_option maxRecDepth 10000
def arity (op : Int) : Int := if 4 ≤ op ∧ op ≤ 8 then 1 else if 9 ≤ op ∧ op ≤ 21 then 2 else if op = 22 then 3 else 0
def zeroV (v : Val) : Bool := v.kind == 0 && (v.num == 0 && (v.den == 0 && v.str == []))
def partF (s : Scalar) : Bool :=
  if s.op = 1 then rightF s.val.kind s.val.num s.val.den s.val.str && (!(s.val.kind == 0) && (s.name == [] && (s.args.length : Int) == 0))
  else if s.op = 2 ∨ s.op = 3 then zeroV s.val && (s.args.length : Int) == 0
  else decide (0 < arity s.op) && (zeroV s.val && (s.name == [] && (s.args.length : Int) == arity s.op))
end Go.Proofs.YtpejdgkaapnekaaGreat
namespace Go.Proofs.YtpejdgkaapnekaaGreat
open Go Go.Abs
attribute [local irreducible] OkOps OkC DRun thenQ blockQ RetQ
set_option maxRecDepth 10000
mutual
def partsF : Scalar → Bool
  | .mk o n v a => partF (.mk o n v a) && partsL a
def partsL : List Scalar → Bool
  | [] => true
  | x :: r => partsF x && partsL r
end
end Go.Proofs.YtpejdgkaapnekaaGreat
namespace Go.Proofs.YtpejdgkaapnekaaGreat
open Go Go.Abs
mutual
def postL : Scalar → List Scalar
  | .mk o n v a => postLs a ++ [.mk o n v a]
def postLs : List Scalar → List Scalar
  | [] => []
  | x :: r => postL x ++ postLs r
end
end Go.Proofs.YtpejdgkaapnekaaGreat
namespace Go.Proofs.YtpejdgkaapnekaaGreat
open Go Go.Abs
attribute [local irreducible] OkOps OkC DRun thenQ blockQ RetQ
set_option maxRecDepth 10000
end Go.Proofs.YtpejdgkaapnekaaGreat
namespace Go.Proofs.YtpejdgkaapnekaaGreat
open Go Go.Abs
attribute [local irreducible] OkOps OkC DRun thenQ blockQ RetQ OkR normQ RoundQ AssignQ retQ
set_option maxRecDepth 10000
end Go.Proofs.YtpejdgkaapnekaaGreat
namespace Go.Proofs.YtpejdgkaapnekaaGreat
open Go Go.Abs
attribute [local irreducible] OkOps OkC DRun thenQ blockQ RetQ
set_option maxRecDepth 10000
end Go.Proofs.YtpejdgkaapnekaaGreat
namespace Go.Proofs.YtpejdgkaapnekaaGreat
open Go Go.Abs
attribute [local irreducible] OkOps OkC DRun thenQ blockQ RetQ
set_option maxRecDepth 10000
section
variable {a : Arr} {names : List (List UInt8)}
theorem Tran.rng (h : Tran a names) : ∀ i, i < (ixs a.dims names).length → 0 ≤ at_ (ixs a.dims names) i ∧ (at_ (ixs a.dims names) i).toNat < a.dims.length := fun i hi => by
  rw [ix_len] at hi
  obtain ⟨k, h1, h2, _⟩ := h.ix hi
  rw [h1]; exact ⟨by omega, by simpa using h2⟩
end
end Go.Proofs.YtpejdgkaapnekaaGreat
namespace Go.Proofs.YtpejdgkaapnekaaGreat
open Go Go.Abs
attribute [local irreducible] OkOps OkC DRun thenQ blockQ RetQ
set_option maxRecDepth 10000
theorem arr_some {P : Program} {f : FuncId} {args : List AV} {r : Option Arr × Int} {y : Arr} (h : CallA P f args [] (arrE r) []) (e : r = (some y, 0)) : CallA P f args [] (.tup [(true, [.d (encDims y.dims), .d (encAttrs y.attrs), .d (encCells y.cells)]), (false, [.d (.int .i64 0)])]) [] := by
  rw [e] at h; exact h
theorem arr_none {P : Program} {f : FuncId} {args : List AV} {r : Option Arr × Int} {e : Int} (h : CallA P f args [] (arrE r) []) (he : r = (none, e)) : CallA P f args [] (.tup [(true, [.d .nil, .d .nil, .d .nil]), (false, [.d (.int .i64 e)])]) [] := by
  rw [he] at h; exact h
end Go.Proofs.YtpejdgkaapnekaaGreat
namespace Go.Proofs.YtpejdgkaapnekaaGreat
open Go Go.Abs
attribute [local irreducible] OkOps OkC DRun thenQ blockQ RetQ
set_option maxRecDepth 10000
theorem mrg_two (a b : Arr) (hA : OkA a.dims a.attrs a.cells) (hB : OkA b.dims b.attrs b.cells) (hl : a.cells.length + b.cells.length ≤ 4096) : (∃ e, (e != 0) = true ∧ mrgF a b = (none, e)) ∨ (Mrg a b ∧ mrgF a b = (some (mrgA a b), 0)) := by
  by_cases h : Mrg a b
  · exact .inr ⟨h, mrgF_ok h hl⟩
  · obtain ⟨e, h1, h2⟩ := mrgF_no (okA_check hA) (okA_check hB) h
    exact .inl ⟨e, by simpa using h2, h1⟩
def lgF (a : Arr) : Bool := decide ((60 : Int) < (a.cells.length : Int)) || chkA a != 0
theorem lg_three (a b c : Arr) : (lgF a = true ∨ (lgF a = false ∧ lgF b = true) ∨ (lgF a = false ∧ lgF b = false ∧ lgF c = true)) ∨ (lgF a = false ∧ lgF b = false ∧ lgF c = false) := by
  cases lgF a <;> cases lgF b <;> cases lgF c <;> simp
theorem lg_no {a : Arr} (h : lgF a = false) : chkA a = 0 ∧ a.cells.length ≤ 60 := by
  unfold lgF at h
  simp only [Bool.or_eq_false_iff, decide_eq_false_iff_not, bne_eq_false_iff_eq] at h
  exact ⟨h.2, by omega⟩
theorem c31g (a : Arr) : CallA Tryz.prog 31 [aggA a, .one (.d (.int .i64 60))] [] (.one (.d (.bool (lgF a)))) [] := c31 a 60
theorem mrg_self_ {a : Arr} (hA : OkA a.dims a.attrs a.cells) (hl : a.cells.length ≤ 60) : mrgF a a = (some a, 0) := by
  rw [mrgF_ok ⟨hA, hA, rfl, rfl⟩ (by omega), mrg_self hA]
theorem apart_comm {a b : Arr} (hM : Mrg a b) (hl : a.cells.length + b.cells.length ≤ 4096) (h : (b.cells.all fun z => !foundF a.cells z.at') = true) : spSame (mrgA a b) (mrgA b a) = true := by
  have hc : mrgA a b = mrgA b a := mrg_comm hM fun x hx hh => by
    have h1 := List.all_eq_true.1 h x hx
    have h2 : foundF a.cells x.at' = true := (found_iff hM.oka.srt).2 hh
    rw [h2] at h1; cases h1
  rw [← hc]
  unfold spSame
  rw [(sameF_eq eqDim_iff).2 rfl, (sameF_eq eqAttr_iff).2 rfl, (sameF_eq eqCell_iff).2 rfl]
  have h3 : chkA (mrgA a b) = 0 := okA_check (mrg_ok hM (Nat.le_trans mrg_len hl))
  rw [h3]; rfl
theorem all_next {α : Type} [Inhabited α] {q : α → Bool} {l : List α} {k : Nat} (h : k < l.length) : (l.take (k + 1)).all q = ((l.take k).all q && q (at_ l k)) := by
  rw [at_take h, List.all_append]; simp
set_option maxHeartbeats 8000000 in
theorem c12 (a b c : Arr) : CallA Tryz.prog 12 [aggA a, aggA b, aggA c] [] (.one (.d (.bool true))) [] := by
  unfold aggA
  refine enter tabOk Tryz.func12 rfl (by decide +kernel) rfl fun hok w0 σ0 φ0 M => ?_
  clear hok
  rcases lg_three a b c with hl | ⟨hl1, hl2, hl3⟩
  · rcases hl with hl | ⟨hl1, hl2⟩ | ⟨hl1, hl2, hl3⟩
    repeat' (first | (show OkOps _ _ _ _ _ _; first | refine okops_nil ?_ | refine s_plain tabOk rfl rfl rfl rfl rfl ?_ | (show OkOps _ _ _ (Oper.mk _ (_) _ _ _ (some _) :: _) _ _; first | refine s_guard rfl rfl (by first | assumption | rfl) ?_ | refine s_out rfl rfl (by first | assumption | rfl) rfl rfl ?_ | fail) | (show OkOps _ _ _ (Oper.mk _ (Op.pick _ _ _) _ _ _ (_) :: _) _ _; first | refine s_e envOk rfl rfl rfl (step3_pickT rfl rfl (by first | rfl | assumption) rfl) ?_ | refine s_e envOk rfl rfl rfl (step3_pickF rfl rfl (by first | rfl | assumption) rfl) ?_ | fail) | (show OkOps _ _ _ (Oper.mk _ (Op.call _) _ _ _ (_) :: _) _ _; first | refine s_callF rfl rfl rfl rfl rfl rfl rfl rfl (c31g a) rfl ?_ | refine s_callF rfl rfl rfl rfl rfl rfl rfl rfl (c31g b) rfl ?_ | refine s_callF rfl rfl rfl rfl rfl rfl rfl rfl (c31g c) rfl ?_ | refine s_callF rfl rfl rfl rfl rfl rfl rfl rfl (c19) rfl ?_ | fail) | (show OkOps _ _ _ (Oper.mk _ (Op.box _ _) _ _ _ (_) :: _) _ _; first | refine s_box 0 rfl rfl rfl rfl rfl rfl ?_ | refine s_box 1 rfl rfl rfl rfl rfl rfl ?_ | refine s_box 2 rfl rfl rfl rfl rfl rfl ?_ | fail) | fail) | (show OkC _ _ _ _ _; first | refine ok_seq ?_ | refine ok_region ?_ | refine ok_ret ?_ | refine ok_condT rfl ?_ | refine ok_condKT rfl (by assumption) ?_ | fail) | (show thenQ _ _ _ _; first | refine then_n ?_ | refine then_r ?_ | fail) | (show RetQ _ _ _ _ _ _; first | refine ret_leaf (.inl rfl) rfl rfl ?_ | fail) | fail)
    all_goals rfl
  obtain ⟨hca, hna⟩ := lg_no hl1
  obtain ⟨hcb, hnb⟩ := lg_no hl2
  obtain ⟨hcc, hnc⟩ := lg_no hl3
  have hA := okA hca
  have hB := okA hcb
  have hC := okA hcc
  have hlaa : a.cells.length + a.cells.length ≤ 4096 := by omega
  have hlab : a.cells.length + b.cells.length ≤ 4096 := by omega
  have hlba : b.cells.length + a.cells.length ≤ 4096 := by omega
  have hlbc : b.cells.length + c.cells.length ≤ 4096 := by omega
  have hself := mrg_self_ hA hna
  rcases mrg_two a b hA hB hlab with ⟨e1, he1, h1⟩ | ⟨hM1, h1⟩ <;> rcases mrg_two b c hB hC hlbc with ⟨e2, he2, h2⟩ | ⟨hM2, h2⟩
  rotate_right
  have hab := mrg_len (a := a) (b := b)
  have hbc := mrg_len (a := b) (b := c)
  have hlx : (mrgA a b).cells.length + c.cells.length ≤ 4096 := by omega
  have hly : a.cells.length + (mrgA b c).cells.length ≤ 4096 := by omega
  have hx := mrgF_ok (hM1.left hM2 hlab) hlx
  have hy : mrgF a (mrgA b c) = (some (mrgA (mrgA a b) c), 0) := by rw [mrgF_ok (hM1.right hM2 hlbc) hly, mrg_assoc hM1 hM2 hlab hlbc]
  have hcx : chkA (mrgA (mrgA a b) c) = 0 := okA_check (mrg_ok (hM1.left hM2 hlab) (Nat.le_trans mrg_len hlx))
  have hba := mrgF_ok hM1.symm hlba
  repeat' (first | (show OkOps _ _ _ _ _ _; first | (show OkOps _ _ _ (Oper.mk _ (Op.call { callee := .value (.func 45), args := _, argTypes := _ }) _ _ _ (_) :: _) _ _; first | (fail_if_success (have := hf)); (rcases Bool.eq_false_or_eq_true (foundF a.cells (at_ b.cells (p.1 : Int).toNat).at') with hf | hf) | fail) | refine okops_nil ?_ | refine s_plain tabOk rfl rfl rfl rfl rfl ?_ | (show OkOps _ _ _ (Oper.mk _ (_) _ _ _ (some _) :: _) _ _; first | refine s_guard rfl rfl (by first | assumption | rfl) ?_ | refine s_out rfl rfl (by first | assumption | rfl) rfl rfl ?_ | refine s_split rfl rfl rfl rfl (fun h => ?_) (fun h => ?_) | fail) | (show OkOps _ _ _ (Oper.mk _ (Op.binOp .add _ _ _ _) _ _ _ (_) :: _) _ _; first | refine s_e envOk rfl rfl rfl (step3_add rfl rfl rfl rfl (wrap64 (by omega) (by omega))) ?_ | fail) | (show OkOps _ _ _ (Oper.mk _ (Op.pick _ _ _) _ _ _ (_) :: _) _ _; first | refine s_e envOk rfl rfl rfl (step3_pickT rfl rfl (by first | rfl | assumption) rfl) ?_ | refine s_e envOk rfl rfl rfl (step3_pickF rfl rfl (by first | rfl | assumption) rfl) ?_ | fail) | (show OkOps _ _ _ (Oper.mk _ (Op.indexAddr _ _ _) _ _ _ (_) :: _) _ _; first | refine s_e envOk rfl rfl rfl (step3_idx rfl rfl rfl rfl rfl (by first | omega | ((try simp only [decide_eq_true_eq, decide_eq_false_iff_not, Bool.not_eq_true', Bool.not_true, Bool.not_false, List.length_map, List.length_set, bne_iff_ne, ne_eq, beq_iff_eq, bne_eq_false_iff_eq, beq_eq_false_iff_ne] at *); omega)) (at_map (by first | omega | ((try simp only [decide_eq_true_eq, decide_eq_false_iff_not, Bool.not_eq_true', Bool.not_true, Bool.not_false, List.length_map, List.length_set, bne_iff_ne, ne_eq, beq_iff_eq, bne_eq_false_iff_eq, beq_eq_false_iff_ne] at *); omega)))) ?_ | fail) | (show OkOps _ _ _ (Oper.mk _ (Op.call _) _ _ _ (_) :: _) _ _; first | refine s_callF rfl rfl rfl rfl rfl rfl rfl rfl (c31g a) rfl ?_ | refine s_callF rfl rfl rfl rfl rfl rfl rfl rfl (c31g b) rfl ?_ | refine s_callF rfl rfl rfl rfl rfl rfl rfl rfl (c31g c) rfl ?_ | refine s_callF rfl rfl rfl rfl rfl rfl rfl rfl (c19) rfl ?_ | refine s_callF rfl rfl rfl rfl rfl rfl rfl rfl (arr_none (c47 a b hlab) h1) rfl ?_ | refine s_callF rfl rfl rfl rfl rfl rfl rfl rfl (arr_none (c47 b c hlbc) h2) rfl ?_ | refine s_callF rfl rfl rfl rfl rfl rfl rfl rfl (c32t a hca) rfl ?_ | refine s_callF rfl rfl rfl rfl rfl rfl rfl rfl (c32t (mrgA (mrgA a b) c) hcx) rfl ?_ | refine s_callF rfl rfl rfl rfl rfl rfl rfl rfl (c32 (mrgA a b) (mrgA b a)) rfl ?_ | refine s_callF rfl rfl rfl rfl rfl rfl rfl rfl (c45n a _ hA hf) rfl ?_ | refine s_callD 16 rfl rfl rfl rfl rfl rfl rfl rfl (arr_some (c47 a a hlaa) hself) rfl rfl rfl ?_ | refine s_callD 16 rfl rfl rfl rfl rfl rfl rfl rfl (arr_some (c47 a b hlab) h1) rfl rfl rfl ?_ | refine s_callD 16 rfl rfl rfl rfl rfl rfl rfl rfl (arr_some (c47 b c hlbc) h2) rfl rfl rfl ?_ | refine s_callD 16 rfl rfl rfl rfl rfl rfl rfl rfl (arr_some (c47 (mrgA a b) c hlx) hx) rfl rfl rfl ?_ | refine s_callD 16 rfl rfl rfl rfl rfl rfl rfl rfl (arr_some (c47 a (mrgA b c) hly) hy) rfl rfl rfl ?_ | refine s_callD 16 rfl rfl rfl rfl rfl rfl rfl rfl (arr_some (c47 b a hlba) hba) rfl rfl rfl ?_ | refine s_callD 16 rfl rfl rfl rfl rfl rfl rfl rfl (c45y a _ hA hf) rfl rfl rfl ?_ | fail) | (show OkOps _ _ _ (Oper.mk _ (Op.box _ _) _ _ _ (_) :: _) _ _; first | refine s_box 0 rfl rfl rfl rfl rfl rfl ?_ | refine s_box 1 rfl rfl rfl rfl rfl rfl ?_ | refine s_box 2 rfl rfl rfl rfl rfl rfl ?_ | fail) | (show OkOps _ _ _ (Oper.mk _ (Op.alloc _) _ _ _ (_) :: _) _ _; first | refine s_alloc tabOk 2 rfl rfl rfl rfl rfl ?_ | refine s_alloc tabOk 3 rfl rfl rfl rfl rfl ?_ | refine s_alloc tabOk 4 rfl rfl rfl rfl rfl ?_ | refine s_alloc tabOk 5 rfl rfl rfl rfl rfl ?_ | refine s_alloc tabOk 6 rfl rfl rfl rfl rfl ?_ | refine s_alloc tabOk 7 rfl rfl rfl rfl rfl ?_ | fail) | refine s_store envOk rfl rfl rfl ?_ | fail) | (show OkC _ _ _ _ _; first | refine ok_seq ?_ | refine ok_region ?_ | refine ok_block ?_ | refine ok_skip ?_ | refine ok_ret ?_ | refine ok_exit ?_ | refine ok_condT rfl ?_ | refine ok_condF rfl ?_ | refine ok_condKT rfl (by assumption) ?_ | refine ok_condKF rfl (by assumption) ?_ | refine ok_cond rfl (fun h => ?_) (fun h => ?_) | refine s_loopM 16 rfl [(3, _), (4, _), (9, _), (93, _), (94, _)] (subL_cons rfl (subL_cons rfl (subL_cons rfl (subL_cons rfl (subL_cons rfl subL_nil))))) (fun (p : Nat × Bool) => [(17, .one (.d (.bool p.2))), (95, .one (.d (.int .i64 (p.1 : Int))))]) (fun (p : Nat × Bool) => [(0, .box [.d (encDims a.dims), .d (encAttrs a.attrs), .d (encCells a.cells)]), (1, .box [.d (encDims b.dims), .d (encAttrs b.attrs), .d (encCells b.cells)]), (4, .box [.d (encDims (mrgA a b).dims), .d (encAttrs (mrgA a b).attrs), .d (encCells (mrgA a b).cells)])]) (fun (p : Nat × Bool) => p.1 ≤ b.cells.length ∧ p.2 = (b.cells.take p.1).all (fun z => !foundF a.cells z.at')) (fun (p : Nat × Bool) => b.cells.length - p.1) (0, true) (subL_cons rfl (subL_cons rfl subL_nil)) (by first | exact subL_nil | exact (subL_cons rfl subL_nil) | exact (subL_cons rfl (subL_cons rfl subL_nil)) | exact (subL_cons rfl (subL_cons rfl (subL_cons rfl subL_nil))) | exact (subL_cons rfl (subL_cons rfl (subL_cons rfl (subL_cons rfl subL_nil)))) | exact (subL_cons rfl (subL_cons rfl (subL_cons rfl (subL_cons rfl (subL_cons rfl subL_nil))))) | exact (subL_cons rfl (subL_cons rfl (subL_cons rfl (subL_cons rfl (subL_cons rfl (subL_cons rfl subL_nil)))))) | exact (subL_cons rfl (subL_cons rfl (subL_cons rfl (subL_cons rfl (subL_cons rfl (subL_cons rfl (subL_cons rfl subL_nil))))))) | exact (subL_cons rfl (subL_cons rfl (subL_cons rfl (subL_cons rfl (subL_cons rfl (subL_cons rfl (subL_cons rfl (subL_cons rfl subL_nil))))))))) ?_ (fun p ⟨hk, hr⟩ => ?_) | fail) | (show thenQ _ _ _ _; first | refine then_n ?_ | refine then_r ?_ | refine then_x ?_ | fail) | (show blockQ _ _ _ _; first | refine block_n ?_ | refine block_x rfl ?_ | fail) | (show RetQ _ _ _ _ _ _; first | refine ret_leaf (.inl rfl) rfl rfl ?_ | fail) | (show Exists _; first | refine Exists.intro ((p.1 + 1, true)) ⟨?_, ?_, (by first | exact subL_nil | exact (subL_cons rfl subL_nil) | exact (subL_cons rfl (subL_cons rfl subL_nil)) | exact (subL_cons rfl (subL_cons rfl (subL_cons rfl subL_nil))) | exact (subL_cons rfl (subL_cons rfl (subL_cons rfl (subL_cons rfl subL_nil)))) | exact (subL_cons rfl (subL_cons rfl (subL_cons rfl (subL_cons rfl (subL_cons rfl subL_nil))))) | exact (subL_cons rfl (subL_cons rfl (subL_cons rfl (subL_cons rfl (subL_cons rfl (subL_cons rfl subL_nil)))))) | exact (subL_cons rfl (subL_cons rfl (subL_cons rfl (subL_cons rfl (subL_cons rfl (subL_cons rfl (subL_cons rfl subL_nil))))))) | exact (subL_cons rfl (subL_cons rfl (subL_cons rfl (subL_cons rfl (subL_cons rfl (subL_cons rfl (subL_cons rfl (subL_cons rfl subL_nil))))))))), (subL_cons rfl (subL_cons rfl subL_nil)), (subL_cons rfl (subL_cons rfl (subL_cons rfl (subL_cons rfl (subL_cons rfl subL_nil)))))⟩ | refine Exists.intro ((p.1 + 1, false)) ⟨?_, ?_, (by first | exact subL_nil | exact (subL_cons rfl subL_nil) | exact (subL_cons rfl (subL_cons rfl subL_nil)) | exact (subL_cons rfl (subL_cons rfl (subL_cons rfl subL_nil))) | exact (subL_cons rfl (subL_cons rfl (subL_cons rfl (subL_cons rfl subL_nil)))) | exact (subL_cons rfl (subL_cons rfl (subL_cons rfl (subL_cons rfl (subL_cons rfl subL_nil))))) | exact (subL_cons rfl (subL_cons rfl (subL_cons rfl (subL_cons rfl (subL_cons rfl (subL_cons rfl subL_nil)))))) | exact (subL_cons rfl (subL_cons rfl (subL_cons rfl (subL_cons rfl (subL_cons rfl (subL_cons rfl (subL_cons rfl subL_nil))))))) | exact (subL_cons rfl (subL_cons rfl (subL_cons rfl (subL_cons rfl (subL_cons rfl (subL_cons rfl (subL_cons rfl (subL_cons rfl subL_nil))))))))), (subL_cons rfl (subL_cons rfl subL_nil)), (subL_cons rfl (subL_cons rfl (subL_cons rfl (subL_cons rfl (subL_cons rfl subL_nil)))))⟩ | fail) | fail)
  all_goals first
    | rfl
    | exact ⟨Nat.zero_le _, rfl⟩
    | (have hlt : p.1 < b.cells.length := by simpa using ‹decide ((p.1 : Int) < ((b.cells.map encCell).length : Int)) = true›
       show b.cells.length - (p.1 + 1) < b.cells.length - p.1
       omega)
    | (have hlt : p.1 < b.cells.length := by simpa using ‹decide ((p.1 : Int) < ((b.cells.map encCell).length : Int)) = true›
       have hf' : ∀ v, foundF a.cells (at_ b.cells (p.1 : Int).toNat).at' = v → foundF a.cells (at_ b.cells p.1).at' = v := fun v hv => hv
       have hf2 := hf' _ hf
       refine ⟨hlt, ?_⟩
       show _ = (b.cells.take (p.1 + 1)).all _
       rw [all_next hlt, ← hr, hf2, h]
       rfl)
    | skip
  exfalso
  have hge : b.cells.length ≤ p.1 := by simpa using ‹decide ((p.1 : Int) < ((b.cells.map encCell).length : Int)) = false›
  rw [‹p.2 = true›, List.take_of_length_le hge] at hr
  rw [apart_comm hM1 hlab hr.symm] at h
  cases h
end Go.Proofs.YtpejdgkaapnekaaGreat

namespace Go.Proofs.YtpejdgkaapnekaaGreat
open Go Go.Abs
open Go.ChangeShapes Go.WideShapes Go.ChangeAt Go.RowKit
set_option maxRecDepth 100000 in
theorem merges_contract (H : Type) (en : TypeId × Value → H) (W : World) (base : Nat) (args : Array Value) (ds gs : List (DataW H)) (before : List MemPlace)
    (hval : ∀ (j : Nat) t v, Tryz.f12.params[j]? = some t → args[j]? = some v → Value.okWide Tryz.prog W .any base t v)
    (hW : DataW.Whole en Tryz.prog Tryz.f12.params.toList Rows.algebraMergesSpec.vars false W args.toList ds gs before) (hk : Rows.uptoSmall H (ds ++ gs) = true) :
    Calls Tryz.prog 12 args W fun e W' => ∃ v, e = .returned v ∧ Rows.algebraMergesSpec.post en Tryz.prog Tryz.f12 false true false false W args v W' := by
  have hW' := hW
  obtain ⟨p, q, hA0, hV, rfl, hfz, hnd⟩ := hW
  have hA : DataW.TrodAll en Tryz.prog W 0 (fun _ => true) true Tryz.f12.params.toList args.toList ds p := hA0
  rw [Tryz.params12] at hA hval
  obtain ⟨v0, vs0, d0, ds0, p0, q0, hargs, rfl, rfl, h0, r0⟩ := trodAll_cons hA
  obtain ⟨v1, vs1, d1, ds1, p1, q1, rfl, rfl, rfl, h1, r1⟩ := trodAll_cons r0
  obtain ⟨v2, vs2, d2, ds2, p2, q2, rfl, rfl, rfl, h2, r2⟩ := trodAll_cons r1
  obtain ⟨rfl, rfl, rfl⟩ := trodAll_nil r2
  obtain rfl : args = #[v0, v1, v2] := by cases args; simp_all
  obtain ⟨rfl, rfl⟩ := trodVars_none hV
  obtain ⟨cs0, rfl⟩ := okWide_agg Tryz.underlying26 (hval 0 26 v0 rfl rfl)
  obtain ⟨cs1, rfl⟩ := okWide_agg Tryz.underlying26 (hval 1 26 v1 rfl rfl)
  obtain ⟨cs2, rfl⟩ := okWide_agg Tryz.underlying26 (hval 2 26 v2 rfl rfl)
  have hbk : (Rows.uptoBulk d0 + (Rows.uptoBulk d1 + (Rows.uptoBulk d2))) ≤ 1048576 := by
    simpa [Rows.uptoSmall, Rows.uptoBulkAll] using hk
  obtain ⟨f0, h0⟩ := h0
  obtain ⟨f1, h1⟩ := h1
  obtain ⟨f2, h2⟩ := h2
  obtain ⟨a0, hl0, ha0⟩ := rd_arr (N := 1048571) (by omega) f0 _ _ h0 (by show Rows.uptoBulk d0 ≤ _; omega)
  obtain ⟨a1, hl1, ha1⟩ := rd_arr (N := 1048571) (by omega) f1 _ _ h1 (by show Rows.uptoBulk d1 ≤ _; omega)
  obtain ⟨a2, hl2, ha2⟩ := rd_arr (N := 1048571) (by omega) f2 _ _ h2 (by show Rows.uptoBulk d2 ≤ _; omega)
  refine ((c12 a0 a1 a2 ).run W (sg W) (fun _ => none) [.agg cs0.toArray, .agg cs1.toArray, .agg cs2.toArray] (sg_inv _) ⟨⟨cs0, rfl, all2_d ha0⟩, ⟨cs1, rfl, all2_d ha1⟩, ⟨cs2, rfl, all2_d ha2⟩, trivial⟩).mono fun e W' ⟨v, σ', φ', he, hret⟩ => ?_
  subst he
  have hv : v = .bool true := by
    have h2 := RepC.d_inv hret.rep
    cases h2; rfl
  subst hv
  have hsame : ∀ p ∈ p0 ++ (p1 ++ (p2 ++ [])), W.sameAt W' p := fun p hp => keptSame hret.kept (hW'.lt p (by simpa using hp))
  have hAk := carryAll hA0 hsame
  exact ⟨_, rfl, _, _, _, [], _, [], hW', trodAll_mk1 (shutBool true), DataW.TrodAll.respare kids full (by
      rw [Tryz.params12]
      intro t ht
      have ht' : t = 26 ∨ t = 26 ∨ t = 26 := by simpa using ht
      rcases ht' with rfl | rfl | rfl <;> exact few (by omega)) hAk (fun p hp => by
        have := hW'.lt p (by simpa using hp)
        simpa using this), rfl, keptAll hret.kept _, fun h => by cases h⟩
end Go.Proofs.YtpejdgkaapnekaaGreat
