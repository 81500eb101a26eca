import Derived.Test.YtpejdgkaapnekaaGreatRows
import Derived.Deep.Slices
import Derived.Deep.DeepHandedRow
import Derived.ReadAgain
import Derived.MapPlaces
import Derived.WalkKit
import Derived.ProofKit
import Derived.OpenShut
import Derived.JoinedCond
import Derived.Shelf.SlSortCmp.WholeK
import Derived.Shelf.SlSortCmp.NoneTotal
import Derived.Test.YtpejdgkaapnekaaGreatP6
import Derived.Test.YtpejdgkaapnekaaGreatTab
set_option linter.unusedVariables false
set_option linter.unusedSimpArgs false
namespace Go.Proofs.YtpejdgkaapnekaaGreat
open Go Go.Abs
theorem at_ext {α : Type} [Inhabited α] : ∀ {l m : List α}, l.length = m.length → (∀ i, i < l.length → at_ l i = at_ m i) → l = m
  | [], [], _, _ => rfl
  | x :: l, y :: m, h, he => by
    have h0 : x = y := he 0 (by simp)
    rw [h0, at_ext (l := l) (m := m) (by simpa using h) fun i hi => he (i + 1) (by simpa using hi)]
  | [], _ :: _, h, _ => by simp at h
  | _ :: _, [], h, _ => by simp at h
theorem at_set {α : Type} [Inhabited α] {l : List α} {k i : Nat} {x : α} (h : i < l.length) : at_ (l.set k x) i = if i = k then x else at_ l i := by
  simp only [at_, List.getD_eq_getElem?_getD, List.getElem?_set]
  by_cases e : k = i
  · subst e; simp [h]
  · rw [if_neg e, if_neg (fun h => e h.symm)]
theorem at_ofmem {α : Type} [Inhabited α] {l : List α} {x : α} (h : x ∈ l) : ∃ i, i < l.length ∧ at_ l i = x := by
  obtain ⟨i, hi⟩ := List.getElem?_of_mem h
  have hl := (List.getElem?_eq_some_iff.1 hi).1
  exact ⟨i, hl, by rw [at_get hl] at hi; exact Option.some.inj hi⟩
theorem at_zip {α β γ : Type} [Inhabited α] [Inhabited β] [Inhabited γ] {f : α → β → γ} {l : List α} {m : List β} {i : Nat} (h : i < l.length) (h' : i < m.length) : at_ (l.zipWith f m) i = f (at_ l i) (at_ m i) := by
  simp [at_, List.getD_eq_getElem?_getD, List.getElem?_zipWith, h, h']
theorem Dim.ext {a b : Dim} (h1 : a.name = b.name) (h2 : a.lo = b.lo) (h3 : a.hi = b.hi) : a = b := by cases a; cases b; simp_all
structure Arr where
  dims : List Dim
  attrs : List Attr
  cells : List Cell
  deriving Inhabited
def encArr (a : Arr) : List D := [encDims a.dims, encAttrs a.attrs, encCells a.cells]
def encArrs (l : List Arr) : D := .sl 3 72 (l.map encArr)
def aggA (a : Arr) : AV := .agg [.d (encDims a.dims), .d (encAttrs a.attrs), .d (encCells a.cells)]
theorem sameGo_all {α : Type} [Inhabited α] {p : α → α → Bool} : ∀ {a b : List α}, a.length = b.length → (sameGo p a b = true ↔ ∀ i, i < a.length → p (at_ a i) (at_ b i) = true)
  | [], [], _ => by simp [sameGo]
  | x :: a, y :: b, h => by
    have ih := sameGo_all (p := p) (a := a) (b := b) (by simpa using h)
    simp only [sameGo]
    constructor
    · intro h1 i hi
      split at h1
      · rename_i h2
        cases i with
        | zero => exact h2
        | succ i => exact ih.1 h1 i (by simpa using hi)
      · cases h1
    · intro h1
      have h0 : p x y = true := h1 0 (by simp)
      rw [if_pos h0]
      exact ih.2 fun i hi => h1 (i + 1) (by simpa using hi)
  | [], _ :: _, h => by simp at h
  | _ :: _, [], h => by simp at h
theorem sameF_all {α : Type} [Inhabited α] {p : α → α → Bool} {a b : List α} : sameF p a b = true ↔ a.length = b.length ∧ ∀ i, i < a.length → p (at_ a i) (at_ b i) = true := by
  unfold sameF
  by_cases h : a.length = b.length
  · rw [if_neg (by omega), sameGo_all h]
    exact Iff.intro (fun h1 => And.intro h h1) (fun h1 => h1.2)
  · rw [if_pos (by omega)]
    exact Iff.intro (fun h1 => by cases h1) (fun h1 => absurd h1.1 h)
theorem sameF_eq {α : Type} [Inhabited α] {p : α → α → Bool} (hp : ∀ x y, p x y = true ↔ x = y) {a b : List α} : sameF p a b = true ↔ a = b := by
  rw [sameF_all]
  constructor
  · rintro ⟨h1, h2⟩
    exact at_ext h1 fun i hi => (hp _ _).1 (h2 i hi)
  · rintro rfl
    exact ⟨rfl, fun i hi => (hp _ _).2 rfl⟩
theorem eqInt_iff (x y : Int) : (x == y) = true ↔ x = y := by simp
theorem eqDim_iff (x y : Dim) : eqDim x y = true ↔ x = y := by
  cases x; cases y
  simp [eqDim, encDim, eqDs, eqD]
theorem eqAttr_iff (x y : Attr) : eqAttr x y = true ↔ x = y := by
  cases x; cases y
  simp [eqAttr, encAttr, eqDs, eqD]
theorem eqVal_iff (x y : Val) : eqVal x y = true ↔ x = y := by
  cases x; cases y
  simp [eqVal, encVal, eqDs, eqD]
theorem eqCell_iff (x y : Cell) : eqCell x y = true ↔ x = y := by
  cases x; cases y
  simp [eqCell, sameF_eq eqInt_iff, sameF_eq eqVal_iff]
def movI (k : Nat) (d : Int) (x : List Int) : List Int := x.set k (at_ x k + d)
def shiftC (k : Nat) (d : Int) (c : Cell) : Cell := ⟨movI k d c.at', c.vals⟩
theorem cmpF_mov : ∀ {k : Nat} {d : Int} {x y : List Int}, k < x.length → x.length = y.length → cmpF (movI k d x) (movI k d y) = cmpF x y
  | _, d, [], _, h, _ => by simp at h
  | _, d, _ :: _, [], _, h => by simp at h
  | 0, d, a :: x, b :: y, _, _ => by
    show cmpF ((a + d) :: x) ((b + d) :: y) = _
    simp only [cmpF]
    by_cases h1 : a < b
    · rw [if_pos h1, if_pos (by omega)]
    · rw [if_neg h1, if_neg (by omega)]
      by_cases h2 : b < a
      · rw [if_pos h2, if_pos (by omega)]
      · rw [if_neg h2, if_neg (by omega)]
  | k + 1, d, a :: x, b :: y, h, h' => by
    have ih := cmpF_mov (k := k) (d := d) (x := x) (y := y) (by simpa using h) (by simpa using h')
    show cmpF (a :: movI k d x) (b :: movI k d y) = _
    simp only [cmpF, ih]
theorem mov_len {k : Nat} {d : Int} {x : List Int} : (movI k d x).length = x.length := by simp [movI]
theorem at_mov {k : Nat} {d : Int} {x : List Int} {i : Nat} (h : i < x.length) : at_ (movI k d x) i = if i = k then at_ x k + d else at_ x i := at_set h
theorem mov_back {k : Nat} {d : Int} {x : List Int} (h : k < x.length) : movI k (-d) (movI k d x) = x := by
  refine at_ext (by simp [mov_len]) fun i hi => ?_
  simp only [mov_len] at hi
  rw [at_mov (by rw [mov_len]; exact hi), at_mov h, at_mov hi]
  by_cases e : i = k
  · rw [if_pos e, if_pos rfl, e]; omega
  · rw [if_neg e, if_neg e]
def resF (ds : List Dim) (ats : List Attr) (cs : List Cell) : Option Arr × Int := if 4096 < (cs.length : Int) then (none, 9) else (some ⟨ds, ats, sortF cs⟩, 0)
def cutD (d : Dim) (b : Int × Int) : Dim := ⟨d.name, max d.lo b.1, min d.hi b.2⟩
def cutDs (ds : List Dim) (lo hi : List Int) : List Dim := ds.zipWith cutD (lo.zip hi)
def okD (d : Dim) : Bool := !decide (lastF d.hi < d.lo)
def subF (a : Arr) (lo hi : List Int) : Option Arr × Int :=
  if checkF a.dims a.attrs a.cells ≠ 0 then (none, 2)
  else if (lo.length : Int) ≠ a.dims.length ∨ (hi.length : Int) ≠ a.dims.length then (none, 13)
  else if !(cutDs a.dims lo hi).all okD then (none, 3)
  else resF (cutDs a.dims lo hi) a.attrs (a.cells.filter fun c => withinL (cutDs a.dims lo hi) c.at')
def dimX (ds : List Dim) (name : List UInt8) : Int := idxGo (fun a : Dim => a.name == name) ds 0
def alikeF (a b : List Dim) : Bool := sameF (fun x y => x.name == y.name) a b
def byF (a b : Arr) (k : Nat) : Int := (at_ a.dims k).hi - (at_ b.dims k).lo + 1
def catDim (a b : Arr) (k : Nat) : Dim := ⟨(at_ b.dims k).name, (at_ a.dims k).lo, (at_ b.dims k).hi + byF a b k⟩
def catF (a b : Arr) (name : List UInt8) : Option Arr × Int :=
  if checkF a.dims a.attrs a.cells ≠ 0 ∨ checkF b.dims b.attrs b.cells ≠ 0 then (none, 2)
  else if dimX a.dims name < 0 then (none, 11)
  else if !alikeF a.dims b.dims then (none, 13)
  else if !sameF eqDim (a.dims.set (dimX a.dims name).toNat (at_ b.dims (dimX a.dims name).toNat)) b.dims ∨ (at_ a.dims (dimX a.dims name).toNat).hi = 1073741825 ∨ (at_ b.dims (dimX a.dims name).toNat).hi = 1073741825 then (none, 13)
  else if !sameF eqAttr a.attrs b.attrs then (none, 12)
  else if 1073741824 < (catDim a b (dimX a.dims name).toNat).hi then (none, 3)
  else resF (a.dims.set (dimX a.dims name).toNat (catDim a b (dimX a.dims name).toNat)) a.attrs (a.cells ++ b.cells.map (shiftC (dimX a.dims name).toNat (byF a b (dimX a.dims name).toNat)))
theorem idxGo_at {α : Type} [Inhabited α] {p : α → Bool} : ∀ {l : List α} {j : Nat}, ¬ idxGo p l j < 0 → ∃ k : Nat, idxGo p l j = ((j + k : Nat) : Int) ∧ k < l.length ∧ p (at_ l k) = true ∧ ∀ i, i < k → p (at_ l i) = false
  | [], j, h => by simp [idxGo] at h
  | x :: l, j, h => by
    simp only [idxGo] at h ⊢
    by_cases hp : p x = true
    · rw [if_pos hp] at h ⊢
      exact ⟨0, by simp, by simp, hp, fun i hi => by omega⟩
    · rw [if_neg hp] at h ⊢
      obtain ⟨k, h1, h2, h3, h4⟩ := idxGo_at h
      refine ⟨k + 1, by rw [h1]; omega, by simpa using h2, h3, fun i hi => ?_⟩
      cases i with
      | zero => exact Bool.eq_false_iff.2 hp
      | succ i => exact h4 i (by omega)
theorem dimX_at {ds : List Dim} {name : List UInt8} (h : ¬ dimX ds name < 0) : ∃ k : Nat, dimX ds name = (k : Int) ∧ k < ds.length ∧ (at_ ds k).name = name ∧ ∀ i, i < k → (at_ ds i).name ≠ name := by
  obtain ⟨k, h1, h2, h3, h4⟩ := idxGo_at h
  refine ⟨k, by unfold dimX; rw [h1]; simp, h2, by simpa using h3, fun i hi => by simpa using h4 i hi⟩
theorem names_nd {ds : List Dim} (h : (ds.map Dim.name).Nodup) {i j : Nat} (hi : i < ds.length) (hj : j < ds.length) (he : (at_ ds i).name = (at_ ds j).name) : i = j := by
  have h1 : at_ (ds.map Dim.name) i = at_ (ds.map Dim.name) j := by rw [at_mapN hi, at_mapN hj, he]
  have e1 := at_get (l := ds.map Dim.name) (i := i) (by simpa using hi)
  have e2 := at_get (l := ds.map Dim.name) (i := j) (by simpa using hj)
  rw [h1, ← e2] at e1
  exact (List.getElem?_inj (by simpa using hi) h).1 e1
structure Cat (a b : Arr) (name : List UInt8) (k : Nat) : Prop where
  oka : OkA a.dims a.attrs a.cells
  okb : OkA b.dims b.attrs b.cells
  hk : k < a.dims.length
  nm : (at_ a.dims k).name = name
  bef : ∀ i, i < k → (at_ a.dims i).name ≠ name
  len : a.dims.length = b.dims.length
  nms : ∀ i, i < a.dims.length → (at_ a.dims i).name = (at_ b.dims i).name
  oth : ∀ i, i < a.dims.length → i ≠ k → at_ a.dims i = at_ b.dims i
  ha : (at_ a.dims k).hi ≤ 1073741824
  hb : (at_ b.dims k).hi ≤ 1073741824
  att : a.attrs = b.attrs
  hc : (catDim a b k).hi ≤ 1073741824
section
variable {a b : Arr} {name : List UInt8} {k : Nat}
theorem OkA.dims (h : OkA a.dims a.attrs a.cells) : 1 ≤ a.dims.length ∧ a.dims.length ≤ 4 ∧ (∀ i, i < a.dims.length → (-1073741824 ≤ (at_ a.dims i).lo ∧ (at_ a.dims i).lo ≤ 1073741824 ∧ (at_ a.dims i).lo ≤ (at_ a.dims i).hi ∧ (at_ a.dims i).hi ≤ 1073741825) ∧ nameF (at_ a.dims i).name = true) ∧ (a.dims.map Dim.name).Nodup := by
  obtain ⟨h1, h2, h3, h4⟩ := dimsF_ok (schemaF_ok h.sch).1
  exact ⟨h1, h2, fun i hi => ⟨boundsF_ok.1 (h3 _ (at_mem hi)).1, (h3 _ (at_mem hi)).2⟩, h4⟩
def catA (a b : Arr) (k : Nat) : Arr := ⟨a.dims.set k (catDim a b k), a.attrs, sortF (a.cells ++ b.cells.map (shiftC k (byF a b k)))⟩
theorem lastF_le {h : Int} (hh : h ≤ 1073741824) : lastF h = h := by unfold lastF; omega
theorem Cat.bounds (h : Cat a b name k) : (at_ a.dims k).lo ≤ (at_ a.dims k).hi ∧ (at_ b.dims k).lo ≤ (at_ b.dims k).hi ∧ -1073741824 ≤ (at_ a.dims k).lo ∧ -1073741824 ≤ (at_ b.dims k).lo := by
  have h1 := (h.oka.dims.2.2.1 k h.hk).1
  have h2 := (h.okb.dims.2.2.1 k (by rw [← h.len]; exact h.hk)).1
  omega
theorem Cat.acell (h : Cat a b name k) {c : Cell} (hc : c ∈ a.cells) : c.at'.length = a.dims.length ∧ c.vals.length = a.attrs.length ∧ valsGo a.attrs c.vals = 0 ∧ ∀ i, i < a.dims.length → (at_ a.dims i).lo ≤ at_ c.at' i ∧ at_ c.at' i ≤ lastF (at_ a.dims i).hi := by
  obtain ⟨h1, h2, h3, h4⟩ := cellF_ok.1 (h.oka.cel c hc)
  exact ⟨h1, h2, h4, (withinL_iff h1).1 h3⟩
theorem Cat.bcell (h : Cat a b name k) {c : Cell} (hc : c ∈ b.cells) : c.at'.length = a.dims.length ∧ c.vals.length = a.attrs.length ∧ valsGo a.attrs c.vals = 0 ∧ ∀ i, i < a.dims.length → (at_ b.dims i).lo ≤ at_ c.at' i ∧ at_ c.at' i ≤ lastF (at_ b.dims i).hi := by
  obtain ⟨h1, h2, h3, h4⟩ := cellF_ok.1 (h.okb.cel c hc)
  rw [h.att, h.len]
  exact ⟨h1, h2, h4, (withinL_iff h1).1 h3⟩
theorem Cat.moved (h : Cat a b name k) {c : Cell} (hc : c ∈ b.cells) {i : Nat} (hi : i < a.dims.length) : at_ (shiftC k (byF a b k) c).at' i = if i = k then at_ c.at' k + byF a b k else at_ c.at' i :=
  at_mov (by rw [(h.bcell hc).1]; exact hi)
theorem Cat.far (h : Cat a b name k) {c : Cell} (hc : c ∈ b.cells) : (at_ a.dims k).hi + 1 ≤ at_ (shiftC k (byF a b k) c).at' k ∧ at_ (shiftC k (byF a b k) c).at' k ≤ (catDim a b k).hi := by
  rw [h.moved hc h.hk, if_pos rfl]
  have h1 := (h.bcell hc).2.2.2 k h.hk
  rw [lastF_le h.hb] at h1
  unfold byF catDim byF at *
  dsimp only
  omega
theorem Cat.near (h : Cat a b name k) {c : Cell} (hc : c ∈ a.cells) : at_ c.at' k ≤ (at_ a.dims k).hi := by
  have h1 := (h.acell hc).2.2.2 k h.hk
  rw [lastF_le h.ha] at h1
  exact h1.2
theorem Cat.bsrt (h : Cat a b name k) : (b.cells.map (shiftC k (byF a b k))).Pairwise ltC := by
  rw [List.pairwise_map]
  refine List.Pairwise.imp_of_mem (fun {x y} hx hy hxy => ?_) h.okb.srt
  have h1 := (h.bcell hx).1
  have h2 := (h.bcell hy).1
  unfold ltC at hxy ⊢
  show cmpF (movI k _ x.at') (movI k _ y.at') < 0
  rw [cmpF_mov (by rw [h1]; exact h.hk) (by rw [h1, h2])]
  exact hxy
theorem Cat.diff (h : Cat a b name k) : (a.cells ++ b.cells.map (shiftC k (byF a b k))).Pairwise diffC := by
  refine List.pairwise_append.2 ⟨diff_of_sorted h.oka.srt, diff_of_sorted h.bsrt, fun x hx y hy e => ?_⟩
  obtain ⟨c, hc, rfl⟩ := List.mem_map.1 hy
  have h1 := h.near hx
  have h2 := (h.far hc).1
  rw [e] at h1
  omega
theorem Cat.cdim (h : Cat a b name k) {i : Nat} (hi : i < a.dims.length) : at_ (catA a b k).dims i = if i = k then catDim a b k else at_ a.dims i := at_set hi
theorem dimsGo_mk : ∀ {ds : List Dim} {met : List (List UInt8)}, (∀ d ∈ ds, boundsF d.lo d.hi = true ∧ nameF d.name = true ∧ d.name ∉ met) → (ds.map Dim.name).Nodup → dimsGo met ds = 0
  | [], met, _, _ => rfl
  | d :: r, met, h, hn => by
    obtain ⟨h1, h2, h3⟩ := h d List.mem_cons_self
    rw [List.map_cons, List.nodup_cons] at hn
    simp only [dimsGo, h1, h2]
    rw [if_neg (by simp [h3]), if_neg (by simp)]
    refine dimsGo_mk (fun x hx => ?_) hn.2
    obtain ⟨j1, j2, j3⟩ := h x (List.mem_cons_of_mem _ hx)
    refine ⟨j1, j2, fun hm => ?_⟩
    rcases List.mem_append.1 hm with hm | hm
    · exact j3 hm
    · have e : x.name = d.name := by simpa using hm
      exact hn.1 (List.mem_map.2 ⟨x, hx, e⟩)
theorem schemaF_mk {ds : List Dim} {ats : List Attr} (h1 : 1 ≤ ds.length) (h2 : ds.length ≤ 4) (h3 : ∀ d ∈ ds, boundsF d.lo d.hi = true ∧ nameF d.name = true) (h4 : (ds.map Dim.name).Nodup) (h5 : 1 ≤ ats.length) (h6 : ats.length ≤ 6) (h7 : attrsGo (ds.map Dim.name) ats = 0) : schemaF ds ats = 0 := by
  have hd : dimsF ds = 0 := by
    unfold dimsF
    rw [if_neg (by omega)]
    exact dimsGo_mk (fun d hd => ⟨(h3 d hd).1, (h3 d hd).2, by simp⟩) h4
  unfold schemaF
  rw [if_neg (by simp [hd]), if_neg (by omega)]
  exact h7
theorem Cat.cnames (h : Cat a b name k) : (catA a b k).dims.map Dim.name = a.dims.map Dim.name := by
  refine at_ext (by simp [catA]) fun i hi => ?_
  have hi' : i < a.dims.length := by simpa [catA] using hi
  rw [at_mapN (by simpa [catA] using hi), at_mapN hi', h.cdim hi']
  split
  · rename_i e; subst e; exact (h.nms i hi').symm
  · rfl
theorem Cat.okc (h : Cat a b name k) (hl : a.cells.length + b.cells.length ≤ 4096) : OkA (catA a b k).dims (catA a b k).attrs (catA a b k).cells := by
  obtain ⟨d1, d2, d3, d4⟩ := h.oka.dims
  obtain ⟨s1, s2, s3, s4⟩ := schemaF_ok h.oka.sch
  have hcl : (catA a b k).dims.length = a.dims.length := by simp [catA]
  have hbn := h.bounds
  refine ⟨schemaF_mk (by omega) (by omega) (fun d hd => ?_) (by rw [h.cnames]; exact d4) s2 s3 (by rw [h.cnames]; exact s4), ?_, sortF_sorted h.diff, fun c hc => ?_⟩
  · obtain ⟨i, hi, rfl⟩ := at_ofmem hd
    rw [hcl] at hi
    have hh := h.hc
    obtain ⟨e1, e2⟩ := d3 i hi
    rw [h.cdim hi]
    split
    · rename_i e; subst e
      refine ⟨boundsF_ok.2 ?_, ?_⟩
      · unfold catDim byF at *; dsimp only at *; omega
      · show nameF (at_ b.dims i).name = true
        rw [← h.nms i hi]; exact e2
    · exact ⟨boundsF_ok.2 e1, e2⟩
  · show (sortF _).length ≤ 4096
    rw [sortF_length, List.length_append, List.length_map]; exact hl
  · have hc' := (sortF_perm _).mem_iff.1 hc
    rcases List.mem_append.1 hc' with hc' | hc'
    · obtain ⟨e1, e2, e3, e4⟩ := h.acell hc'
      refine cellF_ok.2 ⟨by rw [hcl]; exact e1, e2, (withinL_iff (by rw [hcl]; exact e1)).2 fun i hi => ?_, e3⟩
      rw [hcl] at hi
      rw [h.cdim hi]
      have e5 := e4 i hi
      split
      · rename_i e; subst e
        rw [lastF_le h.ha] at e5
        rw [lastF_le h.hc]
        unfold catDim byF; dsimp only; omega
      · exact e5
    · obtain ⟨c0, hc0, rfl⟩ := List.mem_map.1 hc'
      obtain ⟨e1, e2, e3, e4⟩ := h.bcell hc0
      have hlen : (shiftC k (byF a b k) c0).at'.length = a.dims.length := by rw [← e1]; exact mov_len
      refine cellF_ok.2 ⟨by rw [hcl]; exact hlen, e2, (withinL_iff (by rw [hcl]; exact hlen)).2 fun i hi => ?_, e3⟩
      rw [hcl] at hi
      rw [h.cdim hi]
      split
      · rename_i e; subst e
        have hf := h.far hc0
        rw [lastF_le h.hc]
        refine ⟨?_, hf.2⟩
        show (at_ a.dims i).lo ≤ _
        omega
      · rename_i e
        rw [h.moved hc0 hi, if_neg e, h.oth i hi e]
        exact e4 i hi
theorem Cat.first (h : Cat a b name k) (hl : a.cells.length + b.cells.length ≤ 4096) (h2 : a.cells.length ≤ 4096) :
    subF (catA a b k) ((catA a b k).dims.map Dim.lo) (((catA a b k).dims.map Dim.hi).set k (at_ a.dims k).hi) = (some a, 0) := by
  have hcl : (catA a b k).dims.length = a.dims.length := by simp [catA]
  obtain ⟨d1, d2, d3, d4⟩ := h.oka.dims
  have hbn := h.bounds
  have hcut : cutDs (catA a b k).dims ((catA a b k).dims.map Dim.lo) (((catA a b k).dims.map Dim.hi).set k (at_ a.dims k).hi) = a.dims := by
    refine at_ext (by simp [cutDs, hcl]) fun i hi => ?_
    have hi' : i < a.dims.length := by simp [cutDs, hcl] at hi; exact hi
    have hi2 : i < (catA a b k).dims.length := by rw [hcl]; exact hi'
    unfold cutDs
    rw [at_zip hi2 (by simp [hcl, hi']), List.zip, at_zip (by simp [hcl, hi']) (by simp [hcl, hi']), at_mapN hi2, at_set (by simp [hcl, hi']), at_mapN hi2, h.cdim hi']
    unfold cutD
    by_cases e : i = k
    · subst e
      rw [if_pos rfl, if_pos rfl]
      refine Dim.ext ?_ ?_ ?_
      · exact (h.nms i hi').symm
      · show max (at_ a.dims i).lo (at_ a.dims i).lo = _; omega
      · show min ((at_ b.dims i).hi + byF a b i) (at_ a.dims i).hi = _; unfold byF; omega
    · rw [if_neg e, if_neg e]
      refine Dim.ext rfl ?_ ?_
      · show max _ _ = _; omega
      · show min _ _ = _; omega
  unfold subF
  rw [if_neg (by rw [okA_check (h.okc hl)]; simp), if_neg (by simp), hcut, if_neg ?_]
  · have hf : (catA a b k).cells.filter (fun c => withinL a.dims c.at') = a.cells := by
      refine sortF_filter _ h.diff h.oka.srt ?_
      rw [List.filter_append, List.filter_eq_self.2 fun c hc => (withinL_iff (h.acell hc).1).2 (h.acell hc).2.2.2, List.filter_eq_nil_iff.2, List.append_nil]
      · intro c hc hw
        obtain ⟨c0, hc0, rfl⟩ := List.mem_map.1 hc
        have hlen : (shiftC k (byF a b k) c0).at'.length = a.dims.length := by rw [← (h.bcell hc0).1]; exact mov_len
        have h3 := (withinL_iff hlen).1 hw k h.hk
        have h4 := (h.far hc0).1
        rw [lastF_le h.ha] at h3
        omega
    rw [hf]
    unfold resF
    rw [if_neg (by omega), sortF_id h.oka.srt]
    rfl
  · simp only [Bool.not_eq_true', Bool.not_eq_false, List.all_eq_true, okD, decide_eq_false_iff_not]
    intro d hd
    obtain ⟨i, hi, rfl⟩ := at_ofmem hd
    have := (d3 i hi).1
    unfold lastF; omega
def secD (a b : Arr) (k : Nat) : Dim := ⟨(at_ b.dims k).name, (at_ a.dims k).hi + 1, (catDim a b k).hi⟩
theorem Cat.second (h : Cat a b name k) (hl : a.cells.length + b.cells.length ≤ 4096) :
    subF (catA a b k) (((catA a b k).dims.map Dim.lo).set k ((at_ a.dims k).hi + 1)) ((((catA a b k).dims.map Dim.hi).set k (at_ a.dims k).hi).set k (catDim a b k).hi) = (some ⟨a.dims.set k (secD a b k), a.attrs, b.cells.map (shiftC k (byF a b k))⟩, 0) := by
  have hcl : (catA a b k).dims.length = a.dims.length := by simp [catA]
  obtain ⟨d1, d2, d3, d4⟩ := h.oka.dims
  have hbn := h.bounds
  have hh := h.hc
  have hcut : cutDs (catA a b k).dims (((catA a b k).dims.map Dim.lo).set k ((at_ a.dims k).hi + 1)) ((((catA a b k).dims.map Dim.hi).set k (at_ a.dims k).hi).set k (catDim a b k).hi) = a.dims.set k (secD a b k) := by
    refine at_ext (by simp [cutDs, hcl]) fun i hi => ?_
    have hi' : i < a.dims.length := by simp [cutDs, hcl] at hi; exact hi
    have hi2 : i < (catA a b k).dims.length := by rw [hcl]; exact hi'
    unfold cutDs
    rw [at_zip hi2 (by simp [hcl, hi']), List.zip, at_zip (by simp [hcl, hi']) (by simp [hcl, hi']), at_set (by simp [hcl, hi']), at_mapN hi2, at_set (by simp [hcl, hi']), at_set (by simp [hcl, hi']), at_mapN hi2, h.cdim hi', at_set hi']
    unfold cutD
    by_cases e : i = k
    · subst e
      simp only [if_true]
      refine Dim.ext rfl ?_ ?_
      · show max (at_ a.dims i).lo ((at_ a.dims i).hi + 1) = (at_ a.dims i).hi + 1; omega
      · show min (catDim a b i).hi (catDim a b i).hi = (catDim a b i).hi; omega
    · simp only [if_neg e]
      refine Dim.ext rfl ?_ ?_
      · show max _ _ = _; omega
      · show min _ _ = _; omega
  unfold subF
  rw [if_neg (by rw [okA_check (h.okc hl)]; simp), if_neg (by simp), hcut, if_neg ?_]
  · have hsec : (a.dims.set k (secD a b k)).length = a.dims.length := by simp
    have hf : (catA a b k).cells.filter (fun c => withinL (a.dims.set k (secD a b k)) c.at') = b.cells.map (shiftC k (byF a b k)) := by
      refine sortF_filter _ h.diff h.bsrt ?_
      rw [List.filter_append, List.filter_eq_nil_iff.2, List.nil_append, List.filter_eq_self.2]
      · intro c hc
        obtain ⟨c0, hc0, rfl⟩ := List.mem_map.1 hc
        have hlen : (shiftC k (byF a b k) c0).at'.length = a.dims.length := by rw [← (h.bcell hc0).1]; exact mov_len
        refine (withinL_iff (by rw [hsec]; exact hlen)).2 fun i hi => ?_
        rw [hsec] at hi
        rw [at_set hi]
        split
        · rename_i e; subst e
          have hf := h.far hc0
          show (at_ a.dims i).hi + 1 ≤ _ ∧ _ ≤ lastF (catDim a b i).hi
          rw [lastF_le h.hc]
          exact hf
        · rename_i e
          rw [h.moved hc0 hi, if_neg e, h.oth i hi e]
          exact (h.bcell hc0).2.2.2 i hi
      · intro c hc hw
        have h3 := (withinL_iff (by rw [hsec]; exact (h.acell hc).1)).1 hw k (by rw [hsec]; exact h.hk)
        rw [at_set h.hk, if_pos rfl] at h3
        have h4 := h.near hc
        have h5 : (secD a b k).lo = (at_ a.dims k).hi + 1 := rfl
        omega
    rw [hf]
    unfold resF
    rw [if_neg (by rw [List.length_map]; omega), sortF_id h.bsrt]
    rfl
  · simp only [Bool.not_eq_true', Bool.not_eq_false, List.all_eq_true, okD, decide_eq_false_iff_not]
    intro d hd
    obtain ⟨i, hi, rfl⟩ := at_ofmem hd
    have hi' : i < a.dims.length := by simpa using hi
    rw [at_set hi']
    split
    · rename_i e; subst e
      show ¬ lastF (catDim a b i).hi < (at_ a.dims i).hi + 1
      rw [lastF_le h.hc]
      unfold catDim byF; dsimp only; omega
    · have := (d3 i hi').1
      unfold lastF; omega
end
theorem cat_ok {a b c : Arr} {name : List UInt8} (h : catF a b name = (some c, 0)) : ∃ k : Nat, dimX a.dims name = (k : Int) ∧ Cat a b name k ∧ c = catA a b k := by
  unfold catF at h
  split at h
  · cases h
  rename_i h1
  split at h
  · cases h
  rename_i h2
  split at h
  · cases h
  rename_i h3
  split at h
  · cases h
  rename_i h4
  split at h
  · cases h
  rename_i h5
  split at h
  · cases h
  rename_i h6
  obtain ⟨k, hk1, hk2, hk3, hk4⟩ := dimX_at h2
  rw [hk1, Int.toNat_natCast] at h4 h6 h
  have h1a : checkF a.dims a.attrs a.cells = 0 := by omega
  have h1b : checkF b.dims b.attrs b.cells = 0 := by omega
  have oka := okA h1a
  have okb := okA h1b
  obtain ⟨hl, hn⟩ := sameF_all.1 (show alikeF a.dims b.dims = true by simpa using h3)
  simp only [not_or, Bool.not_eq_true', Bool.not_eq_false] at h4
  have hset := (sameF_eq eqDim_iff).1 h4.1
  have da := (oka.dims.2.2.1 k hk2).1
  have db := (okb.dims.2.2.1 k (by rw [← hl]; exact hk2)).1
  refine ⟨k, hk1, ⟨oka, okb, hk2, hk3, hk4, hl, fun i hi => by simpa using hn i hi, fun i hi hne => ?_, by omega, by omega, (sameF_eq eqAttr_iff).1 (by simpa using h5), by omega⟩, ?_⟩
  · have := congrArg (fun l => at_ l i) hset
    rw [at_set hi, if_neg hne] at this
    exact this
  · unfold resF at h
    split at h
    · cases h
    · simp only [Prod.mk.injEq, Option.some.injEq, and_true] at h
      exact h.symm
end Go.Proofs.YtpejdgkaapnekaaGreat
namespace Go.Proofs.YtpejdgkaapnekaaGreat
open Go Go.Abs
open Go.ChangeShapes Go.WideShapes Go.ChangeAt Go.RowKit
section
variable {H : Type} {en : TypeId × Value → H} {W : World}
theorem bulk_one (d : DataW H) : 1 ≤ Rows.uptoBulk d := by
  cases d with
  | lit l => cases l <;> simp [Rows.uptoBulk]
  | _ => simp [Rows.uptoBulk]
theorem bulk_mem {d : DataW H} : ∀ {l : List (DataW H)}, d ∈ l → Rows.uptoBulk d ≤ Rows.uptoBulkAll l
  | [], h => by simp at h
  | x :: r, h => by
    simp only [Rows.uptoBulkAll]
    rcases List.mem_cons.1 h with rfl | h
    · omega
    · have := bulk_mem h; omega
theorem bulk_len : ∀ (l : List (DataW H)), l.length ≤ Rows.uptoBulkAll l
  | [] => by simp [Rows.uptoBulkAll]
  | x :: r => by have := bulk_one x; have := bulk_len r; simp only [Rows.uptoBulkAll, List.length_cons]; omega
def sg (W : World) : Sig := fun b => match W.heap[b]? with | some (.cells cs _ _) => some cs | _ => none
theorem sg_some {b : Nat} {cs : Array Value} (h : sg W b = some cs) : ∃ t f, W.heap[b]? = some (.cells cs t f) := by
  unfold sg at h
  split at h
  · rename_i c t f hh; cases h; exact ⟨t, f, hh⟩
  · cases h
theorem sg_inv (φ : Pl) : HInv (sg W) φ [] W := ⟨fun b cs h => sg_some h, fun i e h => by simp [Abs.look] at h, fun i i' e e' p p' h => by simp [Abs.look] at h⟩
def Rd (en : TypeId × Value → H) (W : World) (N : Nat) (t : TypeId) {α : Type} (f : α → List D) : Prop :=
  ∀ (fuel : Nat) (cs : List Value) (x : DataW H × List MemPlace), DataW.trod en Tryz.prog W 0 (fun _ => true) true fuel t cs = some x → Rows.uptoBulk x.1 ≤ N → ∃ a : α, All2 (Rep (sg W)) (f a) cs
theorem Rd.mono {N M : Nat} {t : TypeId} {α : Type} {f : α → List D} (h : Rd en W N t f) (hm : M ≤ N) : Rd en W M t f := fun fuel cs x hx hb => h fuel cs x hx (by omega)
theorem rd_int {N : Nat} {t : TypeId} (ht : Tryz.prog.underlying t = some (.int .i64)) : Rd en W N t (fun n : Int => [.int .i64 n]) := by
  intro fuel cs x h _
  obtain ⟨n, rfl, _, hw⟩ := DataW.trod_int ht h
  have hw' := bounds_i64 hw
  refine ⟨n, .int ?_, trivial⟩
  simp only [inR, IntKind.min, IntKind.max, IntKind.signed, IntKind.bits, if_true]
  omega
theorem rd_str {N : Nat} {t : TypeId} (hN : N ≤ 1048576) (ht : Tryz.prog.underlying t = some .string) : Rd en W N t (fun s : List UInt8 => [.str s]) := by
  intro fuel cs x h hb
  obtain ⟨s, rfl, rfl, _⟩ := DataW.trod_string ht h
  simp only [Rows.uptoBulk] at hb
  have := Rep.str (σ := sg W) (s := s.data.toList) (by omega)
  refine ⟨s.data.toList, ?_, trivial⟩
  simpa using this
theorem rd_slice {N k b : Nat} {t e : TypeId} {α : Type} [Inhabited α] {f : α → List D} (hN : N ≤ 1048575) (hb : b ≤ 1000) (hk : 0 < k) (ht : Tryz.prog.underlying t = some (.slice e)) (hc : Tryz.prog.cellsOf e = k) (he : Rd en W N e f) : Rd en W (N + 1) t (fun l : List α => [.sl k b (l.map f)]) := by
  intro fuel cs x h hbk
  rcases Deep.open_slice ht h with ⟨rfl, rfl⟩ | ⟨a, len, cap, m, n, Dd, Pl, rfl, _, hl, _, hm, rfl, hel⟩
  · refine ⟨[], ?_, trivial⟩
    exact .sl (fun _ _ => undef) (by simp) (by simp) (by simp) (by simp) (by simp) (by simp)
  · simp only [if_true] at hm
    subst hm
    rw [hc] at hel
    simp only [Rows.uptoBulk] at hbk
    have hlen : len ≤ N := by
      have := bulk_len ((List.range len).map Dd)
      simp only [List.length_map, List.length_range] at this
      omega
    have hpart : ∀ i, i < len → Rows.uptoBulk (Dd i) ≤ N := by
      intro i hi
      have := bulk_mem (d := Dd i) (l := (List.range len).map Dd) (List.mem_map.2 ⟨i, List.mem_range.2 hi, rfl⟩)
      omega
    obtain ⟨g, hg⟩ := Deep.choose_lt (n := len) (p := fun i (y : α) => ∃ cs', W.cells? 0 (a.add (i * k)) k = some cs' ∧ All2 (Rep (sg W)) (f y) cs') (fun i hi => by
      obtain ⟨cs', h1, h2⟩ := hel i (by omega)
      obtain ⟨y, hy⟩ := he _ _ _ h2 (hpart i hi)
      exact ⟨y, cs', h1, hy⟩)
    have hcell : ∀ i, i < len → ∀ j, j < k → ∃ v, W.cell? ((a.add (i * k)).add j) = some v ∧ ∀ d, (f (g i))[j]? = some d → Rep (sg W) d v := by
      intro i hi j hj
      obtain ⟨cs', h1, h2⟩ := hg i hi
      obtain ⟨_, h3, h4⟩ := World.cells?_some h1
      have h5 : cs'[j]? = some (cs'[j]'(by omega)) := List.getElem?_eq_getElem (by omega)
      refine ⟨_, (h4 j hj).trans h5, fun d hd => ?_⟩
      obtain ⟨v, hv, hr⟩ := h2.get hd
      rw [h5] at hv; cases hv; exact hr
    have hfl : ∀ i, i < len → (f (g i)).length = k := by
      intro i hi
      obtain ⟨cs', h1, h2⟩ := hg i hi
      rw [h2.length]; exact (World.cells?_some h1).2.1
    have hadd : ∀ i j, i < len → j < k → a.spot = none → ((a.add (i * k)).add j) = ⟨a.block, a.off + i * k + j, none⟩ := by
      intro i j _ _ hs
      obtain ⟨B, o, sp⟩ := a
      simp only at hs
      subst hs
      by_cases h1 : i * k = 0 <;> by_cases h2 : j = 0 <;> simp [Addr.add, h1, h2]
    have hA : 0 < len → ∃ cells : Array Value, a.spot = none ∧ sg W a.block = some cells := by
      intro h0
      obtain ⟨v, hv, _⟩ := hcell 0 h0 0 hk
      have e0 : ((a.add (0 * k)).add 0) = a := by simp [Addr.add]
      rw [e0] at hv
      unfold World.cell? at hv
      unfold sg
      split at hv
      · rename_i c t2 f2 hh
        rw [hh]
        split at hv
        · cases hv
        · rename_i hs
          exact ⟨c, by simpa using hs, rfl⟩
      · cases hv
    refine ⟨(List.range len).map g, ?_, trivial⟩
    have hll : (((List.range len).map g).map f).length = len := by simp
    have key : Rep (sg W) (.sl k b (((List.range len).map g).map f)) (.slice (some a) (((List.range len).map g).map f).length m) := by
      refine .sl (fun i j => (W.cell? ((a.add (i * k)).add j)).getD undef) (by rw [hll]; exact hl) (by rw [hll]; omega) (by
        rw [hll]
        have : len * b ≤ 1048576 * 1000 := Nat.mul_le_mul (by omega) hb
        omega) (fun x hx => ?_) (fun h0 => ?_) (fun i j x d hx hd => ?_)
      · simp only [List.mem_map, List.mem_range] at hx
        obtain ⟨y, ⟨i, hi, rfl⟩, rfl⟩ := hx
        exact hfl i hi
      · rw [hll] at h0
        obtain ⟨cells, hs, hsg⟩ := hA h0
        refine ⟨a.block, a.off, cells, ?_, hsg, fun i j hi hj => ?_⟩
        · obtain ⟨B, o, sp⟩ := a; simp only at hs; subst hs; rfl
        · rw [hll] at hi
          obtain ⟨v, hv, _⟩ := hcell i hi j hj
          rw [hv]
          rw [hadd i j hi hj hs] at hv
          obtain ⟨t2, f2, hh⟩ := sg_some hsg
          simp only [World.cell?, hh] at hv
          simpa using hv
      · simp only [List.getElem?_map, Option.map_eq_some_iff] at hx
        obtain ⟨y, ⟨i', hi', rfl⟩, rfl⟩ := hx
        have hi : i < len := by
          have := (List.getElem?_eq_some_iff.1 hi').1
          simpa using this
        have hii : i' = i := by simpa [List.getElem?_range hi] using hi'.symm
        subst hii
        have hj : j < k := by rw [← hfl i' hi]; exact (List.getElem?_eq_some_iff.1 hd).1
        obtain ⟨v, hv, hr⟩ := hcell i' hi j hj
        rw [hv]
        exact hr d hd
    rw [hll] at key
    exact key
theorem all2_app {R : D → Value → Prop} {a b : List D} {cs : List Value} {o n m : Nat} (h1 : All2 R a ((cs.drop o).take n)) (h2 : All2 R b ((cs.drop (o + n)).take m)) : All2 R (a ++ b) ((cs.drop o).take (n + m)) := by
  rw [List.take_add, List.drop_drop]
  exact h1.append h2
theorem rd_field {N : Nat} {t u : TypeId} {fs : Array Field} {fuel : Nat} {cs : List Value} {x : DataW H × List MemPlace} (ht : Tryz.prog.underlying t = some (.struct fs)) (h : DataW.trod en Tryz.prog W 0 (fun _ => true) true fuel t cs = some x) (hb : Rows.uptoBulk x.1 ≤ N + 1)
    (i : Nat) {fd : Field} (hf : fs[i]? = some fd) {α : Type} {f : α → List D} (hr : Rd en W N fd.type f) {c : Nat} (hc : Tryz.prog.cellsOf fd.type = c) : ∃ a, All2 (Rep (sg W)) (f a) ((cs.drop fd.offset).take c) := by
  subst hc
  obtain ⟨xs, n, _, rfl, _, hl, hx⟩ := DataW.trod_struct ht h
  have h2 := hx i fd hf
  have hi : i < xs.length := by rw [hl]; exact (Array.getElem?_eq_some_iff.1 hf).1
  rw [List.getElem?_eq_getElem hi] at h2
  refine hr _ _ _ h2 ?_
  have := bulk_mem (d := (xs[i]).1) (l := xs.map (·.1)) (List.mem_map.2 ⟨_, List.getElem_mem hi, rfl⟩)
  simp only [Rows.uptoBulk] at hb
  omega
theorem cellsL {t : TypeId} {fs : Array Field} {fuel : Nat} {cs : List Value} {x : DataW H × List MemPlace} (ht : Tryz.prog.underlying t = some (.struct fs)) (h : DataW.trod en Tryz.prog W 0 (fun _ => true) true fuel t cs = some x) : cs.length = Tryz.prog.cellsOf t := by
  obtain ⟨_, _, _, _, hl, _⟩ := DataW.trod_struct ht h
  exact hl
theorem cells3 : Tryz.prog.cellsOf 3 = 1 := by kernel_rfl
theorem cells2 : Tryz.prog.cellsOf 2 = 1 := by kernel_rfl
theorem cells9 : Tryz.prog.cellsOf 9 = 1 := by kernel_rfl
theorem cells28 : Tryz.prog.cellsOf 28 = 4 := by kernel_rfl
theorem cells29 : Tryz.prog.cellsOf 29 = 1 := by kernel_rfl
theorem cells31 : Tryz.prog.cellsOf 31 = 7 := by kernel_rfl
theorem cells82 : Tryz.prog.cellsOf 82 = 2 := by kernel_rfl
theorem cells53 : Tryz.prog.cellsOf 53 = 3 := by kernel_rfl
theorem cells22 : Tryz.prog.cellsOf 22 = 1 := by kernel_rfl
theorem cells23 : Tryz.prog.cellsOf 23 = 1 := by kernel_rfl
theorem cells24 : Tryz.prog.cellsOf 24 = 1 := by kernel_rfl
theorem cells26 : Tryz.prog.cellsOf 26 = 3 := by kernel_rfl
theorem whole {R : D → Value → Prop} {a : List D} {cs : List Value} {n : Nat} (h : All2 R a ((cs.drop 0).take n)) (hl : cs.length = n) : All2 R a cs := by
  rw [List.drop_zero, List.take_of_length_le (by omega)] at h; exact h
theorem rd_val {N : Nat} (hN : N ≤ 1048575) : Rd en W (N + 1) 28 (fun v : Val => [.int .i64 v.kind, .int .i64 v.num, .int .i64 v.den, .str v.str]) := by
  intro fuel cs x h hb
  obtain ⟨k, hk⟩ := rd_field (u := 0) Tryz.underlying28 h hb 0 rfl (rd_int Tryz.underlying3) cells3
  obtain ⟨n, hn⟩ := rd_field (u := 0) Tryz.underlying28 h hb 1 rfl (rd_int Tryz.underlying2) cells2
  obtain ⟨d, hd⟩ := rd_field (u := 0) Tryz.underlying28 h hb 2 rfl (rd_int Tryz.underlying2) cells2
  obtain ⟨s, hs⟩ := rd_field (u := 0) Tryz.underlying28 h hb 3 rfl (rd_str (by omega) Tryz.underlying9) cells9
  exact ⟨⟨k, n, d, s⟩, whole (all2_app (all2_app (all2_app hk hn) hd) hs) ((cellsL Tryz.underlying28 h).trans cells28)⟩
theorem rd_dim {N : Nat} (hN : N ≤ 1048575) : Rd en W (N + 1) 53 encDim := by
  intro fuel cs x h hb
  obtain ⟨s, hs⟩ := rd_field (u := 0) Tryz.underlying53 h hb 0 rfl (rd_str (by omega) Tryz.underlying9) cells9
  obtain ⟨k, hk⟩ := rd_field (u := 0) Tryz.underlying53 h hb 1 rfl (rd_int Tryz.underlying3) cells3
  obtain ⟨n, hn⟩ := rd_field (u := 0) Tryz.underlying53 h hb 2 rfl (rd_int Tryz.underlying3) cells3
  exact ⟨⟨s, k, n⟩, whole (all2_app (all2_app hs hk) hn) ((cellsL Tryz.underlying53 h).trans cells53)⟩
theorem rd_attr {N : Nat} (hN : N ≤ 1048575) : Rd en W (N + 1) 82 encAttr := by
  intro fuel cs x h hb
  obtain ⟨s, hs⟩ := rd_field (u := 0) Tryz.underlying82 h hb 0 rfl (rd_str (by omega) Tryz.underlying9) cells9
  obtain ⟨k, hk⟩ := rd_field (u := 0) Tryz.underlying82 h hb 1 rfl (rd_int Tryz.underlying3) cells3
  exact ⟨⟨s, k⟩, whole (all2_app hs hk) ((cellsL Tryz.underlying82 h).trans cells82)⟩
theorem cells37 : Tryz.prog.cellsOf 37 = 1 := by kernel_rfl
theorem cells54 : Tryz.prog.cellsOf 54 = 1 := by kernel_rfl
theorem cells56 : Tryz.prog.cellsOf 56 = 2 := by kernel_rfl
theorem rd_cell {N : Nat} (hN : N ≤ 1048573) : Rd en W (N + 3) 56 encCell := by
  intro fuel cs x h hb
  obtain ⟨a, ha⟩ := rd_field (u := 0) Tryz.underlying56 h hb 0 rfl (rd_slice (f := encInt) (N := N + 1) (k := 1) (b := 8) (by omega) (by omega) (by omega) Tryz.underlying37 cells3 (rd_int Tryz.underlying3)) cells37
  obtain ⟨v, hv⟩ := rd_field (u := 0) Tryz.underlying56 h hb 1 rfl (rd_slice (f := encVal) (N := N + 1) (k := 4) (b := 40) (by omega) (by omega) (by omega) Tryz.underlying54 cells28 (rd_val (by omega))) cells54
  exact ⟨⟨a, v⟩, whole (all2_app ha hv) ((cellsL Tryz.underlying56 h).trans cells56)⟩
theorem rd_arr {N : Nat} (hN : N ≤ 1048571) : Rd en W (N + 5) 26 encArr := by
  intro fuel cs x h hb
  obtain ⟨d, hd⟩ := rd_field (u := 0) Tryz.underlying26 h hb 0 rfl (rd_slice (f := encDim) (N := N + 3) (k := 3) (b := 32) (by omega) (by omega) (by omega) Tryz.underlying22 cells53 (rd_dim (by omega))) cells22
  obtain ⟨a, ha⟩ := rd_field (u := 0) Tryz.underlying26 h hb 1 rfl (rd_slice (f := encAttr) (N := N + 3) (k := 2) (b := 24) (by omega) (by omega) (by omega) Tryz.underlying23 cells82 (rd_attr (by omega))) cells23
  obtain ⟨c, hc⟩ := rd_field (u := 0) Tryz.underlying26 h hb 2 rfl (rd_slice (f := encCell) (N := N + 3) (k := 2) (b := 48) (by omega) (by omega) (by omega) Tryz.underlying24 cells56 (rd_cell (by omega))) cells24
  exact ⟨⟨d, a, c⟩, whole (all2_app (all2_app hd ha) hc) ((cellsL Tryz.underlying26 h).trans cells26)⟩
theorem okWide_agg {P : Program} {t : TypeId} {fs : Array Field} {r : Reach} {base : Nat} {v : Value} (ht : P.underlying t = some (.struct fs)) (h : Value.okWide P W r base t v) : ∃ cs : List Value, v = .agg cs.toArray := by
  unfold Value.okWide at h
  rw [ht] at h
  obtain ⟨cs, rfl, _⟩ := h
  exact ⟨cs.toList, by simp⟩
theorem carryAll {W' : World} : ∀ {ts : List TypeId} {vs : List Value} {ds : List (DataW H)} {ps : List MemPlace}, DataW.TrodAll en Tryz.prog W 0 (fun _ => true) true ts vs ds ps → (∀ p ∈ ps, W.sameAt W' p) → DataW.TrodAll en Tryz.prog W' 0 (fun _ => true) true ts vs ds ps
  | [], [], [], _, h, _ => h
  | _ :: _, _ :: _, _ :: _, _, ⟨p, q, ⟨n, h1⟩, h2, e⟩, hs => ⟨p, q, ⟨n, DataW.trod_carry n _ _ _ h1 fun x hx => hs x (by rw [e]; exact List.mem_append_left _ hx)⟩, carryAll h2 fun x hx => hs x (by rw [e]; exact List.mem_append_right _ hx), e⟩
theorem own : ownKnob Tryz.prog.godebug = none := by kernel_rfl
theorem kids : Kids Tryz.prog (· < Tryz.prog.types.size) := kids_rows (by kernel_rfl) (by kernel_rfl)
set_option maxRecDepth 100000 in
theorem full : ∀ t e, t < Tryz.prog.types.size → Tryz.prog.underlying t = some (.slice e) → 0 < Tryz.prog.cellsOf e := slices_full_of Tryz.prog (by kernel_rfl)
theorem keptBlock {W' : World} (h : Kept (MOf (fun _ => none) []) W W') : ∀ b, b < W.heap.size → W'.heap[b]? = W.heap[b]? := fun b hb => h.block b hb (by rintro ⟨id, e, p, h1, _⟩; simp [Abs.look] at h1)
theorem keptAll {W' : World} (h : Kept (MOf (fun _ => none) []) W W') (may : MemPlace → Prop) : W.keptBut W' may :=
  ⟨h.os, h.output, fun i hi => by rw [keptBlock h i hi]; exact (World.keptBut_refl W may).2.2 i hi⟩
theorem keptSame {W' : World} (h : Kept (MOf (fun _ => none) []) W W') {p : MemPlace} (hp : p.block < W.heap.size) : W.sameAt W' p := by
  have hb := keptBlock h p.block hp
  cases p with
  | cell b off => show W'.cell? ⟨b, off, none⟩ = W.cell? ⟨b, off, none⟩; unfold World.cell?; rw [show W'.heap[b]? = W.heap[b]? from hb]
  | map b => exact hb
theorem all2_d {σ : Sig} {φ : Pl} {sto : Sto} : ∀ {ds : List D} {vs : List Value}, All2 (Rep σ) ds vs → All2 (RepC σ φ sto) (ds.map .d) vs
  | [], [], _ => trivial
  | d :: r, v :: vs, h => ⟨.d h.1, all2_d h.2⟩
  | [], _ :: _, h => h.elim
  | _ :: _, [], h => h.elim
theorem tsz : Nat.blt 300 Tryz.prog.types.size = true := by kernel_rfl
theorem few {t : Nat} (h : t ≤ 300) : t < Tryz.prog.types.size := by have := Nat.blt_eq.mp tsz; omega
theorem shutBool {W' : World} {base : Nat} {sp : Nat → Bool} {held : Bool} (b : Bool) : DataW.Trod en Tryz.prog W' base sp held 4 (.bool b) (.lit (.bool b)) [] := ⟨1, by simp [DataW.trod, Value.cells, Tryz.underlying4]⟩
theorem okBool {W' : World} (c : Bool) : Value.okWide Tryz.prog W' .any 0 4 (.bool c) := by
  simp [Value.okWide, Tryz.underlying4, Cell.okWide, Cell.ok]
end
end Go.Proofs.YtpejdgkaapnekaaGreat
namespace Go.Abs
open Go
variable {P : Program} {c : Ctx} {σ σ' : Sig} {φ φ' : Pl} {w w' : World}
theorem HInv.ren {S : Sto} (r : Nat → Nat) (h : HInv σ φ S w) (hk : (nodupL (keysL S) && nodupL (mapN r (keysL S)) && fitG r (keysL S) && stoIn S S) = true) :
    ∃ φ', HInv σ φ' (renS r S) w ∧ (∀ j o, look S j = some o → look (renS r S) (r j) = some (renO r o) ∧ φ' (r j) = φ j) ∧ (∀ t e, look (renS r S) t = some e → ∃ j o, t = r j ∧ look S j = some o ∧ e = renO r o) ∧ ∀ t, Pin t → φ' t = φ t := by
  simp only [Bool.and_eq_true] at hk
  obtain ⟨⟨⟨h1, h2⟩, h3⟩, h4⟩ := hk
  classical
  let φ' : Pl := fun t => if h : ∃ i, i ∈ keysL S ∧ r i = t then φ h.choose else φ t
  have hφ : ∀ {i : Nat}, i ∈ keysL S → φ' (r i) = φ i := by
    intro i hi
    have hex : ∃ j, j ∈ keysL S ∧ r j = r i := ⟨i, hi, rfl⟩
    show (if h : ∃ j, j ∈ keysL S ∧ r j = r i then φ h.choose else φ (r i)) = φ i
    rw [dif_pos hex]
    have := hex.choose_spec
    rw [nodup_inj h2 this.1 hi this.2]
  have hR : ∀ j o, look S j = some o → look (renS r S) (r j) = some (renO r o) ∧ φ' (r j) = φ j := fun j o hj => ⟨renS_look h2 hj, hφ (look_key hj)⟩
  refine ⟨φ', ⟨h.sig, fun t e ht => ?_, fun t t' e e' p p' ht ht' hne hp hp' => ?_⟩, hR, fun t e ht => look_renS h1 ht, fun t ht => ?_⟩
  · obtain ⟨i, o, rfl, hi, rfl⟩ := look_renS h1 ht
    exact reObj hR hi (stoIn_look h4 hi) (h.obj _ _ hi)
  · obtain ⟨i, o, rfl, hi, rfl⟩ := look_renS h1 ht
    obtain ⟨i', o', rfl, hi', rfl⟩ := look_renS h1 ht'
    rw [(hR _ _ hi).2] at hp
    rw [(hR _ _ hi').2] at hp'
    exact h.inj _ _ _ _ _ _ hi hi' (fun e => hne (by rw [e])) hp hp'
  · show (if h : ∃ j, j ∈ keysL S ∧ r j = t then φ h.choose else φ t) = _
    split
    · rename_i hex
      have hs := hex.choose_spec
      have := fitG_ok h3 hs.1 (by rw [hs.2]; exact ht)
      rw [hs.2] at this
      rw [← this]
    · rfl
theorem repL_ren {S : Sto} {r : Nat → Nat} (hR : ∀ j o, look S j = some o → look (renS r S) (r j) = some (renO r o) ∧ φ' (r j) = φ j) : ∀ {avs : List AV} {vs : List Value}, avsIn S avs = true → All2 (RepV σ φ S) avs vs → All2 (RepV σ φ' (renS r S)) (renL r avs) vs
  | [], [], _, _ => trivial
  | x :: l, v :: vs, h, ha => by
    simp only [avsIn, Bool.and_eq_true] at h
    exact ⟨reV hR h.1 ha.1, repL_ren hR h.2 ha.2⟩
  | [], _ :: _, _, ha => ha.elim
  | _ :: _, [], _, ha => ha.elim
theorem callA_ren {f : FuncId} {avs avs0 : List AV} {s s0 s' s1 : Sto} {rav : AV} (q q' : Nat → Nat) (hC : CallA P f avs s rav s') (hs : renS q s0 = s) (ha : renL q avs0 = avs) (hs' : renS q' s' = s1) (hai : avsIn s0 avs0 = true) (hfl : flatV rav = true)
    (hk : (nodupL (keysL s0) && nodupL (mapN q (keysL s0)) && fitG q (keysL s0) && stoIn s0 s0) = true) (hk' : (nodupL (keysL s') && nodupL (mapN q' (keysL s')) && fitG q' (keysL s') && stoIn s' s') = true) : CallA P f avs0 s0 rav s1 := by
  subst hs; subst ha; subst hs'
  refine ⟨hC.fn, fun w σ φ vs hinv hargs => ?_⟩
  obtain ⟨φ1, h1, hR, hL, hp⟩ := hinv.ren q hk
  refine (hC.run w σ φ1 vs h1 (repL_ren hR hai hargs)).mono ?_
  rintro e w' ⟨v, σ', φ', rfl, hret⟩
  obtain ⟨φ2, h2, hR2, hL2, hp2⟩ := hret.inv.ren q' hk'
  have hM : ∀ b, MOf φ1 (renS q s0) b → MOf φ s0 b := by
    rintro b ⟨t, e, p, h3, h4, h5⟩
    obtain ⟨j, o, rfl, h6, rfl⟩ := hL t e h3
    rw [(hR _ _ h6).2] at h4
    exact ⟨j, o, p, h6, h4, h5⟩
  refine ⟨v, σ', φ2, rfl, hret.le, fun b hb => ?_, h2, flatV_rep hfl hret.rep, fun i e p hi hpi => ?_, fun t ht => (hp2 t ht).trans ((hret.pin t ht).trans (hp t ht)), ⟨hret.kept.os, hret.kept.tape, hret.kept.output, hret.kept.size, hret.kept.drawn, fun b hb hm => hret.kept.block b hb fun h => hm (hM b h)⟩⟩
  · rcases hret.fresh b hb with h | h | h
    · exact .inl h
    · exact .inr (.inl h)
    · exact .inr (.inr (hM b h))
  · obtain ⟨j, o, rfl, h6, rfl⟩ := hL2 i e hi
    rw [(hR2 _ _ h6).2] at hpi
    rcases hret.mine _ _ _ h6 hpi with h | h
    · exact .inl h
    · exact .inr (hM _ h)
variable {V : Env} {T : Tab} {w0 : World} {σ0 : Sig} {φ0 : Pl} {M : Nat → Prop} {n : Nat} {rd : Option Nat} {mk : List Deferred} {ops : Array Oper} {o : Oper} {rest : List Oper} {fr : List (Nat × AV)} {sto : Sto} {K : St → Prop} {st st0 : St} {acc : List Tr}
theorem imp_adoptB (i id : Nat) {k b : Nat} (hl : look sto i = some (.box [.d .nil])) (hlt : (Nat.blt id 1000000 && (!frMen id fr && !stoMen id sto && !hasK sto id)) = true) : Imp c ⟨fr, sto⟩ ⟨fr, (id, .row k b []) :: setS i (.box [.own id 0]) sto⟩ := by
  simp only [Bool.and_eq_true, Bool.not_eq_true', Nat.blt_eq] at hlt
  obtain ⟨h1, ⟨h2, h3⟩, h4⟩ := hlt
  intro a w σ φ hr
  have hn := hr.nilRow (id := id) (k := k) (b := b) (by simpa using h1) h2 h3
  have hne : id ≠ i := by rintro rfl; simp [hasK, hl] at h4
  have hE : Ext (fun _ => False) (updP φ id none) (updP φ id none) ((id, .row k b []) :: sto) ((id, .row k b []) :: setS i (.box [.own id 0]) sto) := by
    intro j _
    cases hj : look ((id, AObj.row k b []) :: setS i (.box [.own id 0]) sto) j with
    | none => exact .inl rfl
    | some e =>
      refine .inr ?_
      rcases look_cons hj with ⟨rfl, rfl⟩ | ⟨hne2, hj2⟩
      · exact ⟨_, look_self, rfl, _, rfl, compat.refl _⟩
      · rw [look_setS] at hj2
        rcases look_cons hj2 with ⟨rfl, rfl⟩ | ⟨_, hj3⟩
        · exact ⟨.box [.d .nil], by rw [look_ne hne2]; exact hl, rfl, .box [.own id 0], rfl, trivial⟩
        · exact ⟨_, by rw [look_ne hne2]; exact hj3, rfl, _, rfl, compat.refl _⟩
  have hold : ∀ {j e}, look ((id, AObj.row k b []) :: setS i (.box [.own id 0]) sto) j = some e → (j = i ∧ e = .box [.own id 0]) ∨ look ((id, AObj.row k b []) :: sto) j = some e := by
    intro j e hj
    rcases look_cons hj with ⟨rfl, rfl⟩ | ⟨hne2, hj2⟩
    · exact .inr look_self
    · rw [look_setS] at hj2
      rcases look_cons hj2 with ⟨rfl, rfl⟩ | ⟨_, hj3⟩
      · exact .inl ⟨rfl, rfl⟩
      · exact .inr (by rw [look_ne hne2]; exact hj3)
  have hi : look ((id, AObj.row k b []) :: sto) i = some (.box [.d .nil]) := by rw [look_ne (fun e => hne e.symm)]; exact hl
  refine ⟨σ, _, hn.le, hn.fresh, ⟨hn.inv.sig, fun j e hj => ?_, fun j j' e e' p p' hj hj' hne2 hp hp' => ?_⟩, fun j e p hj hp => ?_, fun s v hv => ?_, hn.defers, hn.size, hn.fra, hn.pin⟩
  · rcases hold hj with ⟨rfl, rfl⟩ | hj2
    · obtain ⟨B, cc, vs, t, h5, h6, h7, h8⟩ := hn.inv.obj _ _ hi
      refine ⟨B, cc, vs, t, h5, h6, ?_, h8⟩
      cases vs with
      | nil => exact h7.elim
      | cons v vs =>
        obtain ⟨h9, h10⟩ := h7
        cases vs with
        | cons _ _ => exact h10.elim
        | nil =>
          replace h9 := RepC.d_inv h9
          cases h9
          exact ⟨.ownNil look_self updP_self, trivial⟩
    · exact (hn.inv.obj _ _ hj2).ext (X := fun _ => False) (Sig.le_refl _) hE (fun j hj => hj.elim) rfl fun _ _ _ => ⟨rfl, rfl⟩
  · have h5 : ∀ {j e}, look ((id, AObj.row k b []) :: setS i (.box [.own id 0]) sto) j = some e → ∃ e0, look ((id, AObj.row k b []) :: sto) j = some e0 := by
      intro j e hj
      rcases hold hj with ⟨rfl, rfl⟩ | hj2
      · exact ⟨_, hi⟩
      · exact ⟨_, hj2⟩
    obtain ⟨_, h6⟩ := h5 hj
    obtain ⟨_, h7⟩ := h5 hj'
    exact hn.inv.inj _ _ _ _ _ _ h6 h7 hne2 hp hp'
  · rcases hold hj with ⟨rfl, rfl⟩ | hj2
    · exact hn.mine _ _ _ hi hp
    · exact hn.mine _ _ _ hj2 hp
  · obtain ⟨u, hu, hru⟩ := hn.slot s v hv
    exact ⟨u, hu, hru.ext (Sig.le_refl _) hE fun j hj => hj.elim⟩
theorem step3_sliceHi {t e : TypeId} {x y : Operand} {id m k k' b b' : Nat} {ik : IntKind} {h : Int} {xs : List (List D)} {z : List D} (ho : o.op = .slice t x none (some y) none) (ht : sliceTy V.T t = some (e, k', b', z)) (hx : ev st x = some (.one (.own id m))) (hy : ev st y = some (.one (.d (.int ik h))))
    (hl : look st.sto id = some (.row k b xs)) (hk : Nat.beq k k' = true) (h0 : 0 ≤ h) (hm : h.toNat ≤ m) (hxs : m ≤ xs.length) : step3 V st o 0 = some ⟨.one (.own id h.toNat), [], []⟩ := by
  have e1 : Nat.ble h.toNat xs.length = true := Nat.ble_eq.mpr (by omega)
  have e2 : Nat.ble h.toNat m = true := Nat.ble_eq.mpr hm
  have e0 : Nat.ble 0 h.toNat = true := Nat.ble_eq.mpr (Nat.zero_le _)
  simp only [step3, stepE, valF, ho, otherE, bndF, hx, hy, h0, decide_true, cond_true, sliceV, ht, hl, hk, e0, e1, e2, Bool.and_self, Bool.or_true, Nat.beq_refl]
theorem step3_sliceLo0 {t e : TypeId} {x y : Operand} {id m k k' b b' : Nat} {ik : IntKind} {xs : List (List D)} {z : List D} (ho : o.op = .slice t x (some y) none none) (ht : sliceTy V.T t = some (e, k', b', z)) (hx : ev st x = some (.one (.own id m))) (hy : ev st y = some (.one (.d (.int ik 0))))
    (hl : look st.sto id = some (.row k b xs)) (hk : Nat.beq k k' = true) (hxs : m ≤ xs.length) : step3 V st o 0 = some ⟨.one (.own id m), [], []⟩ := by
  have e1 : Nat.ble m xs.length = true := Nat.ble_eq.mpr hxs
  have e2 : Nat.ble m m = true := Nat.ble_eq.mpr (Nat.le_refl _)
  have e0 : Nat.ble 0 m = true := Nat.ble_eq.mpr (Nat.zero_le _)
  have e4 : (0 : Int) ≤ 0 := Int.le_refl _
  simp only [step3, stepE, valF, ho, otherE, bndF, hx, hy, e4, decide_true, cond_true, sliceV, ht, hl, hk, Int.toNat_zero, e0, e1, e2, Bool.and_self, Bool.or_true, Nat.beq_refl]
theorem step3_sliceLo {t e : TypeId} {x y : Operand} {id m k k' b b' : Nat} {ik : IntKind} {h : Int} {xs : List (List D)} {z : List D} (ho : o.op = .slice t x (some y) none none) (ht : sliceTy V.T t = some (e, k', b', z)) (hx : ev st x = some (.one (.own id m))) (hy : ev st y = some (.one (.d (.int ik h))))
    (hl : look st.sto id = some (.row k b xs)) (hk : Nat.beq k k' = true) (h0 : 0 < h) (hm : h.toNat ≤ m) (hxs : m ≤ xs.length) : step3 V st o 0 = some ⟨.one (.sub id h.toNat (m - h.toNat)), [], []⟩ := by
  have e1 : Nat.ble m xs.length = true := Nat.ble_eq.mpr hxs
  have e2 : Nat.ble h.toNat m = true := Nat.ble_eq.mpr hm
  have e3 : Nat.beq h.toNat 0 = false := by
    cases hb : Nat.beq h.toNat 0 with
    | false => rfl
    | true => have := Nat.eq_of_beq_eq_true hb; omega
  have e4 : (0 : Int) ≤ h := by omega
  simp only [step3, stepE, valF, ho, otherE, bndF, hx, hy, e4, decide_true, cond_true, sliceV, ht, hl, hk, e1, e2, e3, Bool.and_self, Bool.false_and, cond_false]
theorem s_append (hT : TabOk P T) {d : Nat} {t t2 e e2 k b k2 b2 k' b' id m : Nat} {z z2 : List D} {x y : Operand} {v : AV} {xs ys zs : List (List D)}
    (ho : o.op = .call { callee := .builtin .append, args := #[x, y], argTypes := #[t, t2] }) (hg : o.guard = none) (hdst : o.dst = some d) (hd : Nat.blt d n = true) (ht : sliceTy T t = some (e, k, b, z)) (ht2 : sliceTy T t2 = some (e2, k2, b2, z2))
    (hlt : (Nat.blt id 1000000 || Nat.ble 2000000 id) = true) (hx : ev ⟨fr, sto⟩ x = some (.one (.own id m))) (hl : look sto id = some (.row k' b' xs)) (hkb : (Nat.beq k k' && Nat.beq b b') = true) (hy : ev ⟨fr, sto⟩ y = some v) (hs : srcOf ⟨fr, sto⟩ k v = some ys) (hzs : zs = xs.take m ++ ys)
    (hm : m ≤ 100000000) (hys : ys.length ≤ 100000) (hb : b ≤ 100)
    (h : OkOps P ⟨w0, σ0, φ0, M, n, rd, mk⟩ ops rest ⟨(d, .one (.own id (m + ys.length))) :: purFr id fr, setS id (.row k b zs) (purSto id sto)⟩ K) : OkOps P ⟨w0, σ0, φ0, M, n, rd, mk⟩ ops (o :: rest) ⟨fr, sto⟩ K := by
  have h47 : (m + ys.length) * b ≤ 2 ^ 47 := Nat.le_trans (Nat.mul_le_mul (show m + ys.length ≤ 200000000 by omega) hb) (by omega)
  exact okops_append hT ho hg (by rw [hdst]; exact hd) ht ht2 hlt hx hl hkb hy hs hzs (by omega) h47 (by rw [hdst]; exact h)
theorem d_callF {d : Nat} {fop : Operand} {args : Array Operand} {ats : Array TypeId} {f : FuncId} {caps : List D} {avs avs' : List AV} {rav : AV} {rsto : Sto} {os : List (Nat × AObj)} (dl : List Nat)
    (ho : o.op = .call { callee := .value fop, args := args, argTypes := ats }) (hg : o.guard = none) (hdst : o.dst = some d) (hd : Nat.blt d c.n = true) (hos : objsL sto dl = some os) (hf : evS os ⟨fr, sto⟩ fop = some (.one (.d (.fn f caps))))
    (ha : evLS os ⟨fr, sto⟩ args.toList = some avs) (hD : avsD avs = true) (hap : (avs ++ caps.map fun x => .one (.d x)) = avs') (hC : CallA P f avs' [] rav rsto) (hfl : flatV rav = true)
    (k : DRun P c ops st0 rest ⟨(d, rav) :: fr, sto⟩ (⟨rav, [], dl, []⟩ :: acc) K) : DRun P c ops st0 (o :: rest) ⟨fr, sto⟩ acc K := by
  subst hap
  exact d_run hg (loc_callF dl ho (by rw [hdst]; exact hd) hos hf ha hD hC hfl) (by rw [hdst]; exact k)
theorem okR_imp {bl : Nat} {g : Operand} {ps : Array Nat} {assign body code : Code} {Q : Exit → St → Prop} {st' : St} (hi : Imp c st st') (h : OkR P c bl g ps assign body code st' Q) : OkR P c bl g ps assign body code st Q := fun a w σ φ hr => by
  obtain ⟨σ', φ', hr'⟩ := hi a w σ φ hr
  exact h a w σ' φ' hr'
theorem imp_subS {s' : Sto} (h : SubL sto s') : Imp c ⟨fr, sto⟩ ⟨fr, s'⟩ := fun a w σ φ hr => ⟨σ, φ, hr.dropTo fun i e hi => h.look hi⟩
theorem s_callFS (dl : List Nat) {d : Nat} {fop : Operand} {args : Array Operand} {ats : Array TypeId} {f : FuncId} {caps : List D} {avs avs' : List AV} {rav : AV} {rsto : Sto} {os : List (Nat × AObj)}
    (ho : o.op = .call { callee := .value fop, args := args, argTypes := ats }) (hg : o.guard = none) (hdst : o.dst = some d) (hd : Nat.blt d n = true) (hos : objsL sto dl = some os) (hf : evS os ⟨fr, sto⟩ fop = some (.one (.d (.fn f caps))))
    (ha : evLS os ⟨fr, sto⟩ args.toList = some avs) (hD : avsD avs = true) (hap : (avs ++ caps.map fun x => .one (.d x)) = avs') (hC : CallA P f avs' [] rav rsto) (hfl : flatV rav = true)
    (h : OkOps P ⟨w0, σ0, φ0, M, n, rd, mk⟩ ops rest ⟨(d, rav) :: fr, sto⟩ K) : OkOps P ⟨w0, σ0, φ0, M, n, rd, mk⟩ ops (o :: rest) ⟨fr, sto⟩ K := by
  subst hap
  obtain ⟨ss, h1, h2⟩ := sealL_objs (st := ⟨fr, sto⟩) hos
  exact okops_callF ho hg (by rw [hdst]; exact hd) (imp_sealL h1) (by rw [h2]; exact hf) (by rw [evL_evLS h2]; exact ha) hD hC hfl (by rw [hdst]; exact h)
end Go.Abs
namespace Go.Abs
open Go
variable {P : Program} {c : Ctx} {T : Tab}
theorem okops_isNilS (hT : TabOk P T) {ops : Array Oper} {o : Oper} {rest : List Oper} {st : St} {K : St → Prop} {op : BinOp} {t ty : TypeId} {x y : Operand} {e : Bool} {k b : Nat} {xs : List (List D)}
    (ho : o.op = .binOp op t x y ty) (hop : isEql op = some e) (hg : o.guard = none) (hd : dstOk c.n o.dst = true) (ht : (isSliceT T t && isNilA (ev st y)) = true) (hx : ev st x = some (.one (.d (.sl k b xs))))
    (h : ∀ r : Bool, (r = true → xs = []) → OkOps P c ops rest ⟨putO o.dst (.one (.d (.bool (r == e)))) st.fr, st.sto⟩ K) : OkOps P c ops (o :: rest) st K :=
  okops_run hg fun a w σ φ hr => by
    rw [Bool.and_eq_true] at ht
    obtain ⟨el, hu⟩ := isSliceT_ok hT ht.1
    have hr1 : ∃ A n cap, a.eval x = .slice A n cap ∧ (A.isNone = true → xs = []) := by
      have h1 := RepC.d_inv (ev_rep hr hx)
      generalize a.eval x = u at h1
      cases h1 with
      | sl vs hc h48 hb hk hA hh =>
        refine ⟨_, _, _, rfl, fun hn => ?_⟩
        cases xs with
        | nil => rfl
        | cons z zs =>
          obtain ⟨B, o, cells, rfl, _⟩ := hA (by simp)
          simp at hn
    obtain ⟨A, n, cap, hx, hA⟩ := hr1
    have hy : a.eval y = .slice none 0 0 := by
      have h2 := ht.2
      unfold isNilA at h2
      split at h2
      · rename_i hy
        have h1 := RepC.d_inv (ev_rep hr hy)
        generalize a.eval y = u at h1
        cases h1; rfl
      · cases h2
    refine ⟨.bool (A.isNone == e), w, _, σ, φ, ?_, hr.put (v := .one (.d (.bool (A.isNone == e)))) hd (RepC.d .bool), h _ hA⟩
    cases op <;> simp only [isEql, Option.some.injEq, reduceCtorEq] at hop <;> subst hop
    · simp [execOp, ho, hx, hy, eqGuard_quiet, Lib.run_eql_slice_nil _ _ _ _ _ _ _ _ hu]
    · simp [execOp, ho, hx, hy, eqGuard_quiet, run_neq_slice_nil_any _ _ _ _ _ _ _ _ hu]
variable {w0 : World} {σ0 : Sig} {φ0 : Pl} {fr : List (Nat × AV)} {sto : Sto}
theorem imp_adoptJ (i j0 id : Nat) {k b : Nat} {cs : List AC} (hl : look sto i = some (.box cs)) (hc : cs[j0]? = some (.d .nil)) (hlt : (Nat.blt id 1000000 && (!frMen id fr && !stoMen id sto && !hasK sto id)) = true) : Imp c ⟨fr, sto⟩ ⟨fr, (id, .row k b []) :: setS i (.box (cs.set j0 (.own id 0))) sto⟩ := by
  simp only [Bool.and_eq_true, Bool.not_eq_true', Nat.blt_eq] at hlt
  obtain ⟨h1, ⟨h2, h3⟩, h4⟩ := hlt
  intro a w σ φ hr
  have hn := hr.nilRow (id := id) (k := k) (b := b) (by simpa using h1) h2 h3
  have hne : id ≠ i := by rintro rfl; simp [hasK, hl] at h4
  have hE : Ext (fun _ => False) (updP φ id none) (updP φ id none) ((id, .row k b []) :: sto) ((id, .row k b []) :: setS i (.box (cs.set j0 (.own id 0))) sto) := by
    intro j _
    cases hj : look ((id, AObj.row k b []) :: setS i (.box (cs.set j0 (.own id 0))) sto) j with
    | none => exact .inl rfl
    | some e =>
      refine .inr ?_
      rcases look_cons hj with ⟨rfl, rfl⟩ | ⟨hne2, hj2⟩
      · exact ⟨_, look_self, rfl, _, rfl, compat.refl _⟩
      · rw [look_setS] at hj2
        rcases look_cons hj2 with ⟨rfl, rfl⟩ | ⟨_, hj3⟩
        · exact ⟨.box cs, by rw [look_ne hne2]; exact hl, rfl, .box (cs.set j0 (.own id 0)), rfl, trivial⟩
        · exact ⟨_, by rw [look_ne hne2]; exact hj3, rfl, _, rfl, compat.refl _⟩
  have hold : ∀ {j e}, look ((id, AObj.row k b []) :: setS i (.box (cs.set j0 (.own id 0))) sto) j = some e → (j = i ∧ e = .box (cs.set j0 (.own id 0))) ∨ look ((id, AObj.row k b []) :: sto) j = some e := by
    intro j e hj
    rcases look_cons hj with ⟨rfl, rfl⟩ | ⟨hne2, hj2⟩
    · exact .inr look_self
    · rw [look_setS] at hj2
      rcases look_cons hj2 with ⟨rfl, rfl⟩ | ⟨_, hj3⟩
      · exact .inl ⟨rfl, rfl⟩
      · exact .inr (by rw [look_ne hne2]; exact hj3)
  have hi : look ((id, AObj.row k b []) :: sto) i = some (.box cs) := by rw [look_ne (fun e => hne e.symm)]; exact hl
  refine ⟨σ, _, hn.le, hn.fresh, ⟨hn.inv.sig, fun j e hj => ?_, fun j j' e e' p p' hj hj' hne2 hp hp' => ?_⟩, fun j e p hj hp => ?_, fun s v hv => ?_, hn.defers, hn.size, hn.fra, hn.pin⟩
  · rcases hold hj with ⟨rfl, rfl⟩ | hj2
    · obtain ⟨B, cc, vs, t, h5, h6, h7, h8⟩ := hn.inv.obj _ _ hi
      refine ⟨B, cc, vs, t, h5, h6, All2.of_get (by rw [List.length_set]; exact h7.length) fun m x u hx hu => ?_, h8⟩
      by_cases hm : j0 = m
      · subst hm
        have hlt : j0 < cs.length := (List.getElem?_eq_some_iff.1 hc).1
        rw [List.getElem?_set_self hlt] at hx
        cases hx
        obtain ⟨u', hu', hr9⟩ := h7.get hc
        rw [hu] at hu'; cases hu'
        replace hr9 := RepC.d_inv hr9
        cases hr9
        exact .ownNil look_self updP_self
      · rw [List.getElem?_set_ne hm] at hx
        obtain ⟨u', hu', hr9⟩ := h7.get hx
        rw [hu] at hu'; cases hu'
        exact hr9.ext (Sig.le_refl _) hE fun j hj => hj.elim
    · exact (hn.inv.obj _ _ hj2).ext (X := fun _ => False) (Sig.le_refl _) hE (fun j hj => hj.elim) rfl fun _ _ _ => ⟨rfl, rfl⟩
  · have h5 : ∀ {j e}, look ((id, AObj.row k b []) :: setS i (.box (cs.set j0 (.own id 0))) sto) j = some e → ∃ e0, look ((id, AObj.row k b []) :: sto) j = some e0 := by
      intro j e hj
      rcases hold hj with ⟨rfl, rfl⟩ | hj2
      · exact ⟨_, hi⟩
      · exact ⟨_, hj2⟩
    obtain ⟨_, h6⟩ := h5 hj
    obtain ⟨_, h7⟩ := h5 hj'
    exact hn.inv.inj _ _ _ _ _ _ h6 h7 hne2 hp hp'
  · rcases hold hj with ⟨rfl, rfl⟩ | hj2
    · exact hn.mine _ _ _ hi hp
    · exact hn.mine _ _ _ hj2 hp
  · obtain ⟨u, hu, hru⟩ := hn.slot s v hv
    exact ⟨u, hu, hru.ext (Sig.le_refl _) hE fun j hj => hj.elim⟩
theorem step3_append {V : Env} {st : St} {o : Oper} {id i n k b k' b' : Nat} {t t2 : TypeId} {x y : Operand} {v : AV} {xs ys : List (List D)} {e : TypeId} {z : List D} {q : TypeId × Nat × Nat × List D}
    (ho : o.op = .call { callee := .builtin .append, args := ⟨[x, y]⟩, argTypes := ⟨[t, t2]⟩ }) (ht : sliceTy V.T t = some (e, k, b, z)) (ht2 : sliceTy V.T t2 = some q) (hx : ev st x = some (.one (.own i n))) (hl : look st.sto i = some (.row k' b' xs))
    (hkb : (Nat.beq k k' && Nat.beq b b') = true) (hy : ev st y = some v) (hs : srcOf st k v = some ys) (h1 : n + ys.length ≤ 1000000000) (h2 : (n + ys.length) * b ≤ 100000000000) :
    step3 V st o id = some ⟨.one (.own id (n + ys.length)), [(id, some (.row k b (xs.take n ++ ys))), (i, none)], [id]⟩ := by
  obtain ⟨q1, q2, q3, q4⟩ := q
  have e1 : Nat.ble (n + ys.length) 1000000000 = true := by simpa using h1
  have e2 : Nat.ble ((n + ys.length) * b) 100000000000 = true := by simpa using h2
  simp only [step3, stepE, valF, ho, otherE, appV, hx, hy, ht, ht2, hl, hs, hkb, e1, e2, cond_true, Bool.and_self, builtinF, List.map_cons, List.map_nil]
end Go.Abs
namespace Go.Proofs.YtpejdgkaapnekaaGreat
open Go Go.Abs
attribute [local irreducible] OkOps OkC DRun thenQ blockQ RetQ
set_option maxRecDepth 10000
theorem c129 (l : List Int) : CallA Tryz.prog 129 [.one (.d (encInts l))] [] (.one (.d (encInts l))) [] := by
  refine enter tabOk Tryz.func129 rfl (by decide +kernel) rfl fun hok w0 σ0 φ0 M => ?_
  have h1 := hok.1.sl; clear hok; simp only [List.length_map] at h1
  repeat' (first | (show OkOps _ _ _ _ _ _; first | (show OkOps _ _ _ (Oper.mk _ (Op.binOp .eql _ _ _ _) _ _ _ (_) :: _) _ _; first | refine okops_isNilS tabOk rfl rfl rfl rfl rfl rfl (fun r hr => ?_) | fail) | (show OkOps _ _ _ (Oper.mk _ (Op.call _) _ _ _ (_) :: _) _ _; first | refine okops_append tabOk rfl rfl rfl rfl rfl (id := 0) rfl rfl rfl rfl rfl rfl rfl (by simp only [List.length_map, Nat.zero_add]; omega) (by simp only [List.length_map, Nat.zero_add]; omega) ?_ | fail) | refine okops_nil ?_ | refine s_plain tabOk rfl rfl rfl rfl rfl ?_ | refine s_new envOk 0 rfl rfl rfl rfl rfl rfl ?_ | fail) | (show OkC _ _ _ _ _; first | refine okc_imp (imp_sealL (dl := [0]) rfl) (ok_ret ?_) | refine okc_imp (imp_nil (s := 2) (k := 1) (b := 8) rfl) (ok_ret ?_) | refine ok_seq ?_ | refine ok_region ?_ | refine ok_skip ?_ | refine ok_cond rfl (fun h => ?_) (fun h => ?_) | fail) | (show thenQ _ _ _ _; first | refine then_n ?_ | refine then_r ?_ | fail) | (show RetQ _ _ _ _ _ _; first | refine ret_leaf (.inl rfl) rfl rfl ?_ | fail) | fail)
  · have e := hr (by simpa using h)
    simp only [encInts, e]
  · simp only [sealC, encInts, List.length_map, Nat.zero_add, List.take_nil, List.nil_append]
    exact congrArg (fun x => AV.one (AC.d (D.sl _ _ x))) (List.take_of_length_le (by simp))
theorem c144 (l : List Val) : CallA Tryz.prog 144 [.one (.d (encVals l))] [] (.one (.d (encVals l))) [] := by
  refine enter tabOk Tryz.func144 rfl (by decide +kernel) rfl fun hok w0 σ0 φ0 M => ?_
  have h1 := hok.1.sl; clear hok; simp only [List.length_map] at h1
  repeat' (first | (show OkOps _ _ _ _ _ _; first | (show OkOps _ _ _ (Oper.mk _ (Op.binOp .eql _ _ _ _) _ _ _ (_) :: _) _ _; first | refine okops_isNilS tabOk rfl rfl rfl rfl rfl rfl (fun r hr => ?_) | fail) | (show OkOps _ _ _ (Oper.mk _ (Op.call _) _ _ _ (_) :: _) _ _; first | refine okops_append tabOk rfl rfl rfl rfl rfl (id := 0) rfl rfl rfl rfl rfl rfl rfl (by simp only [List.length_map, Nat.zero_add]; omega) (by simp only [List.length_map, Nat.zero_add]; omega) ?_ | fail) | refine okops_nil ?_ | refine s_plain tabOk rfl rfl rfl rfl rfl ?_ | refine s_new envOk 0 rfl rfl rfl rfl rfl rfl ?_ | fail) | (show OkC _ _ _ _ _; first | refine okc_imp (imp_sealL (dl := [0]) rfl) (ok_ret ?_) | refine okc_imp (imp_nil (s := 2) (k := 4) (b := 40) rfl) (ok_ret ?_) | refine ok_seq ?_ | refine ok_region ?_ | refine ok_skip ?_ | refine ok_cond rfl (fun h => ?_) (fun h => ?_) | fail) | (show thenQ _ _ _ _; first | refine then_n ?_ | refine then_r ?_ | fail) | (show RetQ _ _ _ _ _ _; first | refine ret_leaf (.inl rfl) rfl rfl ?_ | fail) | fail)
  · have e := hr (by simpa using h)
    simp only [encVals, e]
  · simp only [sealC, encVals, List.length_map, Nat.zero_add, List.take_nil, List.nil_append]
    exact congrArg (fun x => AV.one (AC.d (D.sl _ _ x))) (List.take_of_length_le (by simp))
theorem c97 (l : List Dim) : CallA Tryz.prog 97 [.one (.d (encDims l))] [] (.one (.d (encDims l))) [] := by
  refine enter tabOk Tryz.func97 rfl (by decide +kernel) rfl fun hok w0 σ0 φ0 M => ?_
  have h1 := hok.1.sl; clear hok; simp only [List.length_map] at h1
  repeat' (first | (show OkOps _ _ _ _ _ _; first | (show OkOps _ _ _ (Oper.mk _ (Op.binOp .eql _ _ _ _) _ _ _ (_) :: _) _ _; first | refine okops_isNilS tabOk rfl rfl rfl rfl rfl rfl (fun r hr => ?_) | fail) | (show OkOps _ _ _ (Oper.mk _ (Op.call _) _ _ _ (_) :: _) _ _; first | refine okops_append tabOk rfl rfl rfl rfl rfl (id := 0) rfl rfl rfl rfl rfl rfl rfl (by simp only [List.length_map, Nat.zero_add]; omega) (by simp only [List.length_map, Nat.zero_add]; omega) ?_ | fail) | refine okops_nil ?_ | refine s_plain tabOk rfl rfl rfl rfl rfl ?_ | refine s_new envOk 0 rfl rfl rfl rfl rfl rfl ?_ | fail) | (show OkC _ _ _ _ _; first | refine okc_imp (imp_sealL (dl := [0]) rfl) (ok_ret ?_) | refine okc_imp (imp_nil (s := 2) (k := 3) (b := 32) rfl) (ok_ret ?_) | refine ok_seq ?_ | refine ok_region ?_ | refine ok_skip ?_ | refine ok_cond rfl (fun h => ?_) (fun h => ?_) | fail) | (show thenQ _ _ _ _; first | refine then_n ?_ | refine then_r ?_ | fail) | (show RetQ _ _ _ _ _ _; first | refine ret_leaf (.inl rfl) rfl rfl ?_ | fail) | fail)
  · have e := hr (by simpa using h)
    simp only [encDims, e]
  · simp only [sealC, encDims, List.length_map, Nat.zero_add, List.take_nil, List.nil_append]
    exact congrArg (fun x => AV.one (AC.d (D.sl _ _ x))) (List.take_of_length_le (by simp))
theorem c145 (l : List Attr) : CallA Tryz.prog 145 [.one (.d (encAttrs l))] [] (.one (.d (encAttrs l))) [] := by
  refine enter tabOk Tryz.func145 rfl (by decide +kernel) rfl fun hok w0 σ0 φ0 M => ?_
  have h1 := hok.1.sl; clear hok; simp only [List.length_map] at h1
  repeat' (first | (show OkOps _ _ _ _ _ _; first | (show OkOps _ _ _ (Oper.mk _ (Op.binOp .eql _ _ _ _) _ _ _ (_) :: _) _ _; first | refine okops_isNilS tabOk rfl rfl rfl rfl rfl rfl (fun r hr => ?_) | fail) | (show OkOps _ _ _ (Oper.mk _ (Op.call _) _ _ _ (_) :: _) _ _; first | refine okops_append tabOk rfl rfl rfl rfl rfl (id := 0) rfl rfl rfl rfl rfl rfl rfl (by simp only [List.length_map, Nat.zero_add]; omega) (by simp only [List.length_map, Nat.zero_add]; omega) ?_ | fail) | refine okops_nil ?_ | refine s_plain tabOk rfl rfl rfl rfl rfl ?_ | refine s_new envOk 0 rfl rfl rfl rfl rfl rfl ?_ | fail) | (show OkC _ _ _ _ _; first | refine okc_imp (imp_sealL (dl := [0]) rfl) (ok_ret ?_) | refine okc_imp (imp_nil (s := 2) (k := 2) (b := 24) rfl) (ok_ret ?_) | refine ok_seq ?_ | refine ok_region ?_ | refine ok_skip ?_ | refine ok_cond rfl (fun h => ?_) (fun h => ?_) | fail) | (show thenQ _ _ _ _; first | refine then_n ?_ | refine then_r ?_ | fail) | (show RetQ _ _ _ _ _ _; first | refine ret_leaf (.inl rfl) rfl rfl ?_ | fail) | fail)
  · have e := hr (by simpa using h)
    simp only [encAttrs, e]
  · simp only [sealC, encAttrs, List.length_map, Nat.zero_add, List.take_nil, List.nil_append]
    exact congrArg (fun x => AV.one (AC.d (D.sl _ _ x))) (List.take_of_length_le (by simp))
theorem c128 (l : List Cell) : CallA Tryz.prog 128 [.one (.d (encCells l))] [] (.one (.d (encCells l))) [] := by
  refine enter tabOk Tryz.func128 rfl (by decide +kernel) rfl fun hok w0 σ0 φ0 M => ?_
  have h1 := hok.1.sl; clear hok; simp only [List.length_map] at h1
  repeat' (first | (show OkOps _ _ _ _ _ _; first | (show OkOps _ _ _ (Oper.mk _ (Op.binOp .eql _ _ _ _) _ _ _ (_) :: _) _ _; first | refine okops_isNilS tabOk rfl rfl rfl rfl rfl rfl (fun r hr => ?_) | fail) | (show OkOps _ _ _ (Oper.mk _ (Op.call _) _ _ _ (_) :: _) _ _; first | refine okops_append tabOk rfl rfl rfl rfl rfl (id := 0) rfl rfl rfl rfl rfl rfl rfl (by simp only [List.length_map, Nat.zero_add]; omega) (by simp only [List.length_map, Nat.zero_add]; omega) ?_ | fail) | refine okops_nil ?_ | refine s_plain tabOk rfl rfl rfl rfl rfl ?_ | refine s_new envOk 0 rfl rfl rfl rfl rfl rfl ?_ | fail) | (show OkC _ _ _ _ _; first | refine okc_imp (imp_sealL (dl := [0]) rfl) (ok_ret ?_) | refine okc_imp (imp_nil (s := 2) (k := 2) (b := 48) rfl) (ok_ret ?_) | refine ok_seq ?_ | refine ok_region ?_ | refine ok_skip ?_ | refine ok_cond rfl (fun h => ?_) (fun h => ?_) | fail) | (show thenQ _ _ _ _; first | refine then_n ?_ | refine then_r ?_ | fail) | (show RetQ _ _ _ _ _ _; first | refine ret_leaf (.inl rfl) rfl rfl ?_ | fail) | fail)
  · have e := hr (by simpa using h)
    simp only [encCells, e]
  · simp only [sealC, encCells, List.length_map, Nat.zero_add, List.take_nil, List.nil_append]
    exact congrArg (fun x => AV.one (AC.d (D.sl _ _ x))) (List.take_of_length_le (by simp))
end Go.Proofs.YtpejdgkaapnekaaGreat
namespace Go.Abs
open Go Go.Shelf Go.RowKit Go.Lib Go.Sort Go.Proofs
variable {P : Program} {σ : Sig} {φ : Pl} {w : World}
theorem all2_d {σ : Sig} {φ : Pl} {sto : Sto} : ∀ {ds : List D} {vs : List Value}, All2 (Rep σ) ds vs → All2 (RepC σ φ sto) (ds.map AC.d) vs
  | [], [], _ => trivial
  | _ :: _, _ :: _, h => ⟨.d h.1, all2_d h.2⟩
  | [], _ :: _, h => h.elim
  | _ :: _, [], h => h.elim
theorem all2_oneCell : ∀ {ds : List D} {vs : List Value}, All2 (Rep σ) ds vs → ∀ v ∈ vs, v.oneCell = true
  | [], [], _, v, hv => by simp at hv
  | _ :: _, _ :: _, h, v, hv => by
    rcases List.mem_cons.1 hv with rfl | hv
    · exact h.1.oneCell
    · exact all2_oneCell h.2 v hv
  | [], _ :: _, h, _, _ => h.elim
  | _ :: _, [], h, _, _ => h.elim
theorem kept_grow {M : Nat → Prop} {w w' : World} (h : Kept M w w') (hM : ∀ b, ¬ M b) : ∃ q os, w' = grow (w.drewN q) os := by
  refine ⟨w'.drawn - w.drawn, w'.heap.extract w.heap.size w'.heap.size, ?_⟩
  have hh : w'.heap = w.heap ++ w'.heap.extract w.heap.size w'.heap.size := by
    refine Array.ext_getElem? fun i => ?_
    by_cases hi : i < w.heap.size
    · rw [Array.getElem?_append_left hi]; exact h.block i hi (hM i)
    · rw [Array.getElem?_append_right (by omega), Array.getElem?_extract]
      have := h.size
      by_cases hi2 : i < w'.heap.size
      · rw [if_pos (by omega)]; congr 1; omega
      · rw [if_neg (by omega)]; exact Array.getElem?_eq_none (by omega)
  have h1 := h.os; have h2 := h.tape; have h3 := h.output; have h4 := h.drawn
  cases w; cases w'
  simp only [grow, World.drewN] at *
  subst h1 h2 h3
  congr 1
  omega
theorem heap_putRow_other {enc : Value → Value} {w : World} {B off b : Nat} {d : Array Value} (h : b ≠ B) : (putRow enc w B off d).heap[b]? = w.heap[b]? := by
  simp only [putRow, mapBlock, Array.getElem?_modify, if_neg (Ne.symm h)]
theorem heap_sort_other {α : Type} [Inhabited α] {enc : α → List Value} {k : Nat} {w : World} {B off m b : Nat} {d : Array α} {os : Array Obj} (hb : b < w.heap.size) (h : b ≠ B) :
    (sortWorldK enc k w B off m d os).heap[b]? = w.heap[b]? := by
  unfold sortWorldK grow putRowK
  show ((putRow id (Sort.ahead w m) B off (flatK enc k d)).heap ++ os)[b]? = _
  rw [Array.getElem?_append_left (by rw [Go.Sort.size_putRow]; exact hb), heap_putRow_other h]
  rfl
theorem heap_sort_row {α : Type} [Inhabited α] {enc : α → List Value} {k : Nat} {w : World} {B off m : Nat} {d : Array α} {os : Array Obj} {arr : Array Value} {t : TypeId} {fr : Nat × Nat} (h : w.heap[B]? = some (.cells arr t fr)) :
    (sortWorldK enc k w B off m d os).heap[B]? = some (.cells (putCells id off (flatK enc k d) arr) t fr) := by
  unfold sortWorldK grow putRowK
  show ((putRow id (Sort.ahead w m) B off (flatK enc k d)).heap ++ os)[B]? = _
  have hB := (Array.getElem?_eq_some_iff.1 h).1
  rw [Array.getElem?_append_left (by rw [Go.Sort.size_putRow]; exact hB)]
  simp only [putRow, mapBlock, Array.getElem?_modify, if_true]
  show (w.heap[B]?).map _ = _
  rw [h]; rfl
theorem size_sort {α : Type} [Inhabited α] {enc : α → List Value} {k : Nat} {w : World} {B off m : Nat} {d : Array α} {os : Array Obj} :
    w.heap.size ≤ (sortWorldK enc k w B off m d os).heap.size := by
  unfold sortWorldK grow putRowK
  show w.heap.size ≤ ((putRow id (Sort.ahead w m) B off (flatK enc k d)).heap ++ os).size
  rw [Array.size_append, Go.Sort.size_putRow]
  exact Nat.le_add_right _ _
section
variable {C : Type}
abbrev El (σ : Sig) (k : Nat) (encC : C → List D) := { p : C × List Value // p.2.length = k ∧ All2 (Rep σ) (encC p.1) p.2 }
set_option maxHeartbeats 1000000 in
theorem callA_sort {ρ : Ren} (L : SlLaysF0.n6 P ρ) (k b : Nat) (hk0 : 0 < k) (aE : ∀ w, (isAgg (ρ.t 24)).run P w = .ok true w) (zE : ∀ w, (Go.sizeOf (ρ.t 24)).run P w = .ok k w)
    (encC : C → List D) (hk : ∀ x, (encC x).length = k) (cf : C → C → Int) (h1 : ∀ x, ¬ cf x x < 0) (h2 : ∀ x y z, cf x y < 0 → cf y z < 0 → cf x z < 0) (h3 : ∀ x y z, ¬ cf x y < 0 → ¬ cf y z < 0 → ¬ cf x z < 0)
    (g : Nat) (hg : ∀ x y, CallA P g [.agg ((encC x).map .d), .agg ((encC y).map .d)] [] (.one (.d (.int .i64 (cf x y)))) [])
    (eg : ∀ args w, (callFunc g args).run P w = .ok (.enter g args) w)
    (hfn : ∃ fn, P.funcs[ρ.f 6]? = some fn ∧ (fn.name == "runtime.NumGoroutine") = false ∧ fn.body.isSome = true)
    (id : Nat) (cs ss : List C) (hu : ∀ l : List C, l.Perm cs → l.Pairwise (fun x y => ¬ cf y x < 0) → l = ss) :
    CallA P (ρ.f 6) [.one (.own id cs.length), .one (.d (.fn g []))] [(id, .row k b (cs.map encC))] (.tup []) [(id, .row k b (ss.map encC))] := by
  refine ⟨hfn, fun w σ φ vs hI hA => ?_⟩
  match vs, hA with
  | [v0, v1], hA =>
  obtain ⟨hv0, hv1, _⟩ := hA
  have ev1 : v1 = .func (.func g) #[] #[] := by
    have hv1 : RepC σ φ _ (.d (.fn g [])) v1 := hv1
    cases hv1.d_inv with
    | fn ws hl _ =>
      have : ws = [] := List.eq_nil_of_length_eq_zero (by simpa using hl)
      subst this; rfl
  subst ev1
  have hlook : look [(id, AObj.row k b (cs.map encC))] id = some (.row k b (cs.map encC)) := by simp [look]
  have hobj := hI.obj id _ hlook
  by_cases hn : cs = []
  · subst hn
    have hss : ss = [] := (hu [] (List.Perm.refl _) .nil).symm
    subst hss
    have ev0 : ∃ p c, v0 = .slice p 0 c := by
      have hv0 : RepC σ φ _ (.own id 0) v0 := hv0
      cases hv0 with
      | ownNil => exact ⟨_, _, rfl⟩
      | own => exact ⟨_, _, rfl⟩
      | dead hx => simp [acIn, hasK, look] at hx
    obtain ⟨p, c, rfl⟩ := ev0
    refine (AnyF.slices_SortFunc_none L p c _ w).mono ?_
    rintro e w' ⟨rfl, rfl⟩
    exact ⟨_, σ, φ, rfl, Sig.le_refl _, fun b hb => .inl hb, hI, ⟨[], rfl, trivial⟩, fun i e p h1 h2 => .inr ⟨i, e, p, h1, h2, rfl⟩, fun _ _ => rfl, ⟨rfl, rfl, rfl, Nat.le_refl _, Nat.le_refl _, fun _ _ _ => rfl⟩⟩
  · have hn0 : 0 < cs.length := List.length_pos_iff.2 hn
    have hv0 : RepC σ φ _ (.own id cs.length) v0 := hv0
    obtain ⟨B, cap0, rfl, hφ⟩ : ∃ B cap, v0 = .slice (some ⟨B, 0, none⟩) cs.length cap ∧ φ id = some (B, cap) := by
      revert hv0; generalize cs.length = m at hn0 ⊢; intro hv0
      cases hv0 with
      | ownNil => omega
      | own _ _ hp => exact ⟨_, _, rfl, hp⟩
      | dead hx => simp [acIn, hasK, look] at hx
    rcases hobj with ⟨he, _⟩ | ⟨B', cap, arr, t, vf, hφ', hheap, hsz, hle, h48, hb47, hlen, hcell, hrep, hσ⟩
    · simp at he; exact absurd he hn
    rw [hφ] at hφ'; cases hφ'
    simp only [List.length_map] at hle h48 hb47 hcell
    have hB : B < w.heap.size := (Array.getElem?_eq_some_iff.1 hheap).1
    have hel : ∀ i (hi : i < cs.length), ((List.range k).map (vf i)).length = k ∧ All2 (Rep σ) (encC cs[i]) ((List.range k).map (vf i)) := by
      intro i hi
      refine ⟨by simp, All2.of_get (by simp [hk]) fun j x v hx hv => ?_⟩
      have hj : j < k := by have := (List.getElem?_eq_some_iff.1 hx).1; rwa [hk] at this
      have hv' : v = vf i j := by
        rw [List.getElem?_map, List.getElem?_range hj] at hv; simpa using hv.symm
      subst hv'
      exact hrep i j _ _ (by rw [List.getElem?_map, List.getElem?_eq_getElem hi]; rfl) hx
    let mk : (i : Nat) → i < cs.length → El σ k encC := fun i hi => ⟨(cs[i], (List.range k).map (vf i)), hel i hi⟩
    haveI : Inhabited (El σ k encC) := ⟨mk 0 hn0⟩
    let d : Array (El σ k encC) := Array.ofFn (n := cs.length) fun i => mk i.1 i.2
    have hds : d.size = cs.length := by simp [d]
    have hdg : ∀ i (hi : i < cs.length), d[i]! = mk i hi := by
      intro i hi; rw [getElem!_pos d i (by omega)]; simp [d]
    have hdl : d.toList.map (fun x => x.1.1) = cs := by
      refine List.ext_getElem (by simp [hds]) fun i h4 h5 => ?_
      simp [d, mk]
    let enc : El σ k encC → List Value := fun x => x.1.2
    let cf' : El σ k encC → El σ k encC → Int := fun x y => cf x.1.1 y.1.1
    have hO : SWO (ltOf cf') :=
      ⟨fun x => by simpa [ltOf, cf'] using h1 x.1.1, fun x y z => by simpa [ltOf, cf'] using h2 x.1.1 y.1.1 z.1.1, fun x y z => by simpa [ltOf, cf'] using h3 x.1.1 y.1.1 z.1.1⟩
    have hHK : HoldsK enc k w B 0 d := by
      intro j hj
      rw [size_flatK, hds] at hj
      have hj1 : j / k < cs.length := Nat.div_lt_of_lt_mul (by rwa [Nat.mul_comm] at hj)
      have hj2 : j % k < k := Nat.mod_lt _ hk0
      have hc := hcell (j / k) (j % k) hj1 hj2
      rw [Nat.div_add_mod' j k] at hc
      rw [get_flatK enc k d j (by rw [hds]; exact hj), hdg _ hj1]
      have e : (enc (mk (j / k) hj1))[j % k]! = vf (j / k) (j % k) := by
        rw [getElem!_pos _ _ (by simp [enc, mk]; exact hj2)]; simp [enc, mk]
      rw [e]
      refine ⟨?_, ?_⟩
      · simp only [World.cell?, hheap, Nat.zero_add]
        simpa using hc
      · simp [World.frozen?, hheap]
    have hsig : ∀ (m : Nat) (os : Array Obj) (dk : Array (El σ k encC)), HInv σ φ [] (sortWorldK enc k w B 0 m dk os) := by
      intro m os dk
      refine ⟨fun b cs' hb => ?_, fun i e h => by simp [look] at h, fun i i' e e' p p' h => by simp [look] at h⟩
      obtain ⟨t', f', hh⟩ := hI.sig b cs' hb
      refine ⟨t', f', ?_⟩
      rw [heap_sort_other (Array.getElem?_eq_some_iff.1 hh).1 (by rintro rfl; rw [hσ] at hb; cases hb)]
      exact hh
    have hcmp : CmpLays P g #[] enc k cf' B 0 d.size w := by
      intro m os dk _ x y
      have hr := (hg x.1.1 y.1.1).run (sortWorldK enc k w B 0 m dk os) σ φ [.agg (enc x).toArray, .agg (enc y).toArray] (hsig m os dk) ⟨⟨_, rfl, all2_d x.2.2⟩, ⟨_, rfl, all2_d y.2.2⟩, trivial⟩
      refine Calls.mono hr ?_
      rintro e w' ⟨v, σ', φ', rfl, hret⟩
      obtain ⟨q, os', hq⟩ := kept_grow hret.kept (fun b hb => by obtain ⟨i, e, p, h, _⟩ := hb; simp [look] at h)
      have hv : v = .int .i64 (cf x.1.1 y.1.1) := by
        have h : RepC σ' φ' [] (.d (.int .i64 (cf x.1.1 y.1.1))) v := hret.rep
        cases h.d_inv; rfl
      exact ⟨by rw [hv], q, os', hq⟩
    have hS := AnyQ.slices_SortFunc L k aE zE enc (fun x => x.2.1) (fun x v hv => oneCell_of (all2_oneCell x.2.2 v hv)) cf' hO g #[] B 0 cap0 d w eg hcmp hHK hB (by omega)
    rw [hds] at hS
    refine Calls.mono hS ?_
    rintro e w' ⟨rfl, d', n', os, hperm, hsorted, rfl⟩
    have hd's : d'.size = cs.length := hperm.1.trans hds
    have hpl : d'.toList.Perm d.toList := by
      have h := hperm.2.2
      have e1 : d'.extract 0 cs.length = d' := by rw [← hd's]; simp
      have e2 : d.extract 0 cs.length = d := by rw [← hds]; simp
      rwa [e1, e2] at h
    have hl : d'.toList.map (fun x => x.1.1) = ss := by
      refine hu _ (hdl ▸ hpl.map _) ?_
      rw [List.pairwise_map, List.pairwise_iff_getElem]
      intro i j hi hj hij
      have h := hsorted i j (Nat.zero_le _) hij (by simpa [hd's] using hj)
      simp only [Array.length_toList] at hi hj
      rw [getElem!_pos d' i hi, getElem!_pos d' j hj] at h
      simpa [ltOf, cf'] using h
    have hssl : ss.length = cs.length := by rw [← hl]; simp [hd's]
    have hget : ∀ i (hi : i < cs.length) (x : C), ss[i]? = some x → d'[i]!.1.1 = x := by
      intro i hi x hx
      rw [← hl, List.getElem?_map, Array.getElem?_toList, Array.getElem?_eq_getElem (by omega)] at hx
      rw [getElem!_pos d' i (by omega)]
      simpa using hx
    have hmine : MOf φ [(id, AObj.row k b (cs.map encC))] B := ⟨id, _, _, hlook, hφ, rfl⟩
    refine ⟨_, σ, φ, rfl, Sig.le_refl _, fun b hb => .inl hb, ⟨fun b cs' hb => ?_, fun i e hi => ?_, fun i i' e e' p p' hi hi' hne => ?_⟩, ⟨[], rfl, trivial⟩, fun i e p hi hp => .inr ?_, fun _ _ => rfl, ⟨rfl, rfl, rfl, size_sort, Nat.le_add_right _ _, fun b hb hM => heap_sort_other hb (by rintro rfl; exact hM hmine)⟩⟩
    · obtain ⟨t', f', hh⟩ := hI.sig b cs' hb
      refine ⟨t', f', ?_⟩
      rw [heap_sort_other (Array.getElem?_eq_some_iff.1 hh).1 (by rintro rfl; rw [hσ] at hb; cases hb)]
      exact hh
    · rcases look_cons hi with ⟨rfl, rfl⟩ | ⟨_, hi⟩
      · refine .inr ⟨B, cap0, putCells _root_.id 0 (flatK enc k d') arr, t, fun i j => (enc d'[i]!)[j]!, hφ, heap_sort_row hheap, by simp [putCells, hsz], by simpa [hssl] using hle, by simpa [hssl] using h48, by simpa [hssl] using hb47, fun x hx => ?_, fun i j hi hj => ?_, fun i j x dd hx hdd => ?_, hσ⟩
        · obtain ⟨c, _, rfl⟩ := List.mem_map.1 hx; exact hk c
        · simp only [List.length_map, hssl] at hi
          have hlt : i * k + j < cs.length * k := by
            have := Nat.mul_le_mul_right k (show i + 1 ≤ cs.length from hi); rw [Nat.add_mul, Nat.one_mul] at this; omega
          have hc := hcell i j hi hj
          simp only [putCells, Array.getElem?_mapIdx, hc, Option.map_some, size_flatK, hd's, Nat.zero_le, true_and, Nat.zero_add, hlt, if_true, Nat.sub_zero]
          rw [get_flatK enc k d' _ (by rw [hd's]; exact hlt)]
          have e1 : (i * k + j) / k = i := (blk_iff k i _ hk0).1 ⟨by omega, by omega⟩
          have e2 : (i * k + j) % k = j := by rw [Nat.mod_eq_sub_div_mul, e1]; omega
          rw [e1, e2]; rfl
        · rw [List.getElem?_map] at hx
          cases hs : ss[i]? with
          | none => rw [hs] at hx; simp at hx
          | some c =>
            rw [hs] at hx; simp at hx; subst hx
            have hi : i < cs.length := by rw [← hssl]; exact (List.getElem?_eq_some_iff.1 hs).1
            have e1 := hget i hi c hs
            have ha := (d'[i]!).2.2
            rw [e1] at ha
            obtain ⟨v, hv, hr⟩ := ha.get hdd
            have : (enc d'[i]!)[j]! = v := by
              have hv2 := (List.getElem?_eq_some_iff.1 hv)
              exact (getElem!_pos (enc d'[i]!) j hv2.1).trans hv2.2
            show Rep σ dd ((enc d'[i]!)[j]!)
            rw [this]; exact hr
      · simp [look] at hi
    · rcases look_cons hi with ⟨rfl, _⟩ | ⟨_, hi⟩
      · rcases look_cons hi' with ⟨rfl, _⟩ | ⟨_, hi'⟩
        · exact absurd rfl hne
        · simp [look] at hi'
      · simp [look] at hi
    · rcases look_cons hi with ⟨rfl, _⟩ | ⟨_, hi⟩
      · rw [hφ] at hp; cases hp; exact hmine
      · simp [look] at hi
end
end Go.Abs
namespace Go.Proofs.YtpejdgkaapnekaaGreat
open Go Go.Proofs Go.Shelf
def sortC_ren : Go.Shelf.Ren := ⟨fun | 6 => 181 | 15 => 219 | 14 => 231 | 28 => 261 | 29 => 262 | 20 => 271 | 21 => 272 | 22 => 273 | 23 => 274 | 24 => 275 | 25 => 276 | 26 => 277 | 27 => 278 | 46 => 338 | 47 => 295 | 48 => 296 | 49 => 339 | 50 => 340 | 57 => 368 | n => n, fun | 22 => 24 | 24 => 56 | 25 => 172 | 3 => 3 | 39 => 192 | 0 => 0 | 53 => 251 | 55 => 253 | 4 => 4 | 46 => 244 | 45 => 243 | 50 => 119 | 5 => 5 | 9 => 9 | 66 => 278 | 70 => 282 | 76 => 302 | 77 => 303 | n => n, fun | n => n⟩
theorem sortC : Go.Proofs.SlLaysF0.n6 Tryz.prog sortC_ren := {
  mixed := by kernel_rfl
  f6 := ⟨Tryz.f181.name, by decide, Tryz.func181.trans (congrArg some (by kernel_rfl))⟩
  f14 := ⟨Tryz.f231.name, by decide, Tryz.func231.trans (congrArg some (by kernel_rfl))⟩
  f15 := Tryz.func219.trans (congrArg some (by kernel_rfl))
  f20 := ⟨Tryz.f271.name, by decide, Tryz.func271.trans (congrArg some (by kernel_rfl))⟩
  f21 := ⟨Tryz.f272.name, by decide, Tryz.func272.trans (congrArg some (by kernel_rfl))⟩
  f22 := ⟨Tryz.f273.name, by decide, Tryz.func273.trans (congrArg some (by kernel_rfl))⟩
  f23 := ⟨Tryz.f274.name, by decide, Tryz.func274.trans (congrArg some (by kernel_rfl))⟩
  f24 := ⟨Tryz.f275.name, by decide, Tryz.func275.trans (congrArg some (by kernel_rfl))⟩
  f25 := ⟨Tryz.f276.name, by decide, Tryz.func276.trans (congrArg some (by kernel_rfl))⟩
  f26 := ⟨Tryz.f277.name, by decide, Tryz.func277.trans (congrArg some (by kernel_rfl))⟩
  f27 := ⟨Tryz.f278.name, by decide, Tryz.func278.trans (congrArg some (by kernel_rfl))⟩
  f28 := Tryz.func261.trans (congrArg some (by kernel_rfl))
  f29 := Tryz.func262.trans (congrArg some (by kernel_rfl))
  f46 := ⟨Tryz.f338.name, by decide, Tryz.func338.trans (congrArg some (by kernel_rfl))⟩
  f47 := Tryz.func295.trans (congrArg some (by kernel_rfl))
  f48 := Tryz.func296.trans (congrArg some (by kernel_rfl))
  f49 := ⟨Tryz.f339.name, by decide, Tryz.func339.trans (congrArg some (by kernel_rfl))⟩
  f50 := ⟨Tryz.f340.name, by decide, Tryz.func340.trans (congrArg some (by kernel_rfl))⟩
  f57 := ⟨Tryz.f368.name, by decide, Tryz.func368.trans (congrArg some (by kernel_rfl))⟩
  t0 := Tryz.underlying0
  a0 := Tryz.isAgg0
  z0 := Tryz.sizeOf0
  v0 := Tryz.zeroValue0
  t3 := Tryz.underlying3
  a3 := Tryz.isAgg3
  z3 := Tryz.sizeOf3
  v3 := Tryz.zeroValue3
  t4 := Tryz.underlying4
  a4 := Tryz.isAgg4
  z4 := Tryz.sizeOf4
  v4 := Tryz.zeroValue4
  t5 := Tryz.underlying5
  a5 := Tryz.isAgg5
  z5 := Tryz.sizeOf5
  v5 := Tryz.zeroValue5
  t9 := Tryz.underlying9
  a9 := Tryz.isAgg9
  z9 := Tryz.sizeOf9
  v9 := Tryz.zeroValue9
  t22 := Tryz.underlying24
  a22 := Tryz.isAgg24
  z22 := Tryz.sizeOf24
  v22 := Tryz.zeroValue24
  t25 := Tryz.underlying172
  a25 := Tryz.isAgg172
  z25 := Tryz.sizeOf172
  v25 := Tryz.zeroValue172
  t39 := Tryz.underlying192
  a39 := Tryz.isAgg192
  z39 := Tryz.sizeOf192
  v39 := Tryz.zeroValue192
  t45 := Tryz.underlying243
  a45 := Tryz.isAgg243
  z45 := Tryz.sizeOf243
  v45 := Tryz.zeroValue243
  t46 := Tryz.underlying244
  a46 := Tryz.isAgg244
  z46 := Tryz.sizeOf244
  v46 := Tryz.zeroValue244
  t50 := Tryz.underlying119
  a50 := Tryz.isAgg119
  z50 := Tryz.sizeOf119
  v50 := Tryz.zeroValue119
  t53 := Tryz.underlying251
  a53 := Tryz.isAgg251
  z53 := Tryz.sizeOf251
  v53 := Tryz.zeroValue251
  t55 := Tryz.underlying253
  a55 := Tryz.isAgg253
  z55 := Tryz.sizeOf253
  v55 := Tryz.zeroValue253
  t66 := Tryz.underlying278
  a66 := Tryz.isAgg278
  z66 := Tryz.sizeOf278
  v66 := Tryz.zeroValue278
  t70 := Tryz.underlying282
  a70 := Tryz.isAgg282
  z70 := Tryz.sizeOf282
  v70 := Tryz.zeroValue282
  t76 := Tryz.underlying302
  a76 := Tryz.isAgg302
  z76 := Tryz.sizeOf302
  v76 := Tryz.zeroValue302
  t77 := Tryz.underlying303
  a77 := Tryz.isAgg303
  z77 := Tryz.sizeOf303
  v77 := Tryz.zeroValue303 }
end Go.Proofs.YtpejdgkaapnekaaGreat
namespace Go.Proofs.YtpejdgkaapnekaaGreat
open Go Go.Abs
attribute [local irreducible] OkOps OkC DRun thenQ blockQ RetQ
set_option maxRecDepth 10000
def cellC (x : Cell) : AV := .agg ((encCell x).map .d)
theorem c182 (x y : Cell) : CallA Tryz.prog 182 [cellC x, cellC y] [] (.one (.d (.int .i64 (cmpF x.at' y.at')))) [] := by
  unfold cellC encCell
  simp only [List.map_cons, List.map_nil]
  refine enter tabOk Tryz.func182 rfl (by decide +kernel) rfl fun hok w0 σ0 φ0 M => ?_
  clear hok
  repeat' (first | (show OkOps _ _ _ _ _ _; first | refine okops_nil ?_ | refine s_plain tabOk rfl rfl rfl rfl rfl ?_ | (show OkOps _ _ _ (Oper.mk _ (Op.call _) _ _ _ (_) :: _) _ _; first | refine s_callF rfl rfl rfl rfl rfl rfl rfl rfl (c35 _ _) rfl ?_ | fail) | (show OkOps _ _ _ (Oper.mk _ (Op.box _ _) _ _ _ (_) :: _) _ _; first | refine s_box 0 rfl rfl rfl rfl rfl rfl ?_ | refine s_box 1 rfl rfl rfl rfl rfl rfl ?_ | fail) | fail) | (show OkC _ _ _ _ _; first | refine ok_seq ?_ | refine ok_region ?_ | refine ok_ret ?_ | fail) | (show thenQ _ _ _ _; first | refine then_n ?_ | fail) | (show RetQ _ _ _ _ _ _; first | refine ret_leaf (.inl rfl) rfl rfl ?_ | fail) | fail)
  all_goals (try (((simp_all [at_drop, List.drop_eq_nil_of_le]) <;> first | omega | (rw [Bool.eq_iff_iff]; simp; omega) | grind); done))
theorem c181 (id : Nat) (cs ss : List Cell) (hu : ∀ l : List Cell, l.Perm cs → l.Pairwise (fun x y => ¬ cmpF y.at' x.at' < 0) → l = ss) :
    CallA Tryz.prog 181 [.one (.own id cs.length), .one (.d (.fn 182 []))] [(id, .row 2 48 (cs.map encCell))] (.tup []) [(id, .row 2 48 (ss.map encCell))] := by
  refine callA_sort sortC 2 48 (by omega) Tryz.isAgg56 Tryz.sizeOf56 encCell (fun _ => rfl) (fun x y => cmpF x.at' y.at') (fun x => by rw [cmpF_refl]; omega) (fun x y z h1 h2 => ?_) (fun x y z h1 h2 => ?_) 182 c182
    (enters_of Tryz.func182 (by kernel_rfl) rfl) ⟨Tryz.f181, Tryz.func181, by kernel_rfl, by kernel_rfl⟩ id cs ss hu
  · have := cmpF_le_trans x.at' y.at' z.at' (by omega) (by omega)
    omega
  · have h3 := cmpF_swap x.at' y.at'
    have h4 := cmpF_swap y.at' z.at'
    have h5 := cmpF_swap x.at' z.at'
    have := cmpF_le_trans z.at' y.at' x.at' (by omega) (by omega)
    omega
end Go.Proofs.YtpejdgkaapnekaaGreat
namespace Go.Abs
open Go
variable {P : Program} {c : Ctx} {fr : List (Nat × AV)} {sto : Sto}
def nmA (b : Bool × Bool) : Nat := bif b.1 then 11 else 10
def nmB (b : Bool × Bool) : Nat := bif b.2 then 13 else 12
def qN (i : Nat) : Nat := bif Nat.beq i 11 then 10 else bif Nat.beq i 13 then 12 else i
theorem subL_app {α : Type} {f a b : List (Nat × α)} (h1 : SubL f a) (h2 : SubL f b) : SubL f (a ++ b) := by
  induction a with
  | nil => exact h2
  | cons p r ih => exact ⟨h1.1, ih h1.2⟩
theorem imp_sub {f f' : List (Nat × AV)} {s s' : Sto} (hf : SubL f f') (hs : SubL s s') : Imp c ⟨f, s⟩ ⟨f', s'⟩ := Imp.trans (imp_subL hf) (imp_subS hs)
theorem s_loopN {α : Type} {body : Code} {Q : Exit → St → Prop} (rg : Nat) (hrg : firstReg body = rg) {fr1 : List (Nat × AV)} {sto1 : Sto} (ha : Imp c ⟨fr, sto⟩ ⟨fr1, sto1⟩) (kept : List (Nat × AV)) (hk : SubL fr1 kept) (L : Bool × Bool → α → List (Nat × AV)) (S : Bool × Bool → α → Sto) (Inv : α → Prop) (μ : α → Nat) (x0 : α)
    (hL : SubL fr1 (L (false, false) x0)) (hS : SubL sto1 (S (false, false) x0)) (hq : ∀ b y, Imp c ⟨L b y ++ kept, S b y⟩ ⟨L (false, false) y ++ kept, S (false, false) y⟩) (h0 : Inv x0)
    (hround : ∀ x, Inv x → OkC P c body ⟨L (false, false) x ++ kept, S (false, false) x⟩ (thenQ (fun st' => ∃ y b, Inv y ∧ μ y < μ x ∧ SubL st'.sto (S b y) ∧ SubL st'.fr (L b y) ∧ SubL st'.fr kept) Q)) : OkC P c (.loop body) ⟨fr, sto⟩ Q := by
  refine okc_imp (st' := ⟨L (false, false) x0 ++ kept, S (false, false) x0⟩) (Imp.trans ha (imp_sub (subL_app hL hk) hS)) ?_
  refine ok_loop (fun n st => ∃ x, Inv x ∧ n = μ x ∧ st = ⟨L (false, false) x ++ kept, S (false, false) x⟩) (μ x0) ⟨x0, h0, rfl, rfl⟩ ?_
  rintro n st ⟨x, hx, rfl, rfl⟩
  refine ok_mono (hround x hx) fun e st h => ?_
  cases e with
  | normal =>
    obtain ⟨y, b, hy, hlt, hs, h1, h2⟩ := h
    obtain ⟨f, s⟩ := st
    simp only at hs h1 h2
    exact ⟨μ y, _, hlt, ⟨y, hy, rfl, rfl⟩, Imp.trans (imp_sub (subL_app h1 h2) hs) (hq b y)⟩
  | _ => exact h
section
variable {w0 : World} {σ0 : Sig} {φ0 : Pl} {M : Nat → Prop} {n : Nat} {rd : Option Nat} {mk : List Deferred} {ops : Array Oper} {o : Oper} {rest : List Oper} {K : St → Prop} {st0 : St} {acc : List Tr}
theorem s_callG (k : Nat) (dl : List Nat) {ss : St} {d : Nat} {fop : Operand} {args : Array Operand} {ats : Array TypeId} {f : FuncId} {caps : List D} {avs avs' : List AV} {rav rav' : AV}
    (ho : o.op = .call { callee := .value fop, args := args, argTypes := ats }) (hg : o.guard = none) (hdst : o.dst = some d) (hd : Nat.blt d n = true) (hss : sealL ⟨fr, sto⟩ dl = some ss) (hf : ev ss fop = some (.one (.d (.fn f caps))))
    (ha : evL ss args.toList = some avs) (hD : avsD avs = true) (hap : (avs ++ caps.map fun x => .one (.d x)) = avs') (hC : CallA P f avs' [] rav [])
    (hk : (keysOk [] [] && Nat.ble (k + 16) 1000000 && avIn [] rav && stoIn [] []) = true) (hfresh : freshRB k ⟨fr, delN dl sto⟩ = true) (hr : renV (rn k []) rav = rav')
    (h : OkOps P ⟨w0, σ0, φ0, M, n, rd, mk⟩ ops rest ⟨(d, rav') :: fr, delN dl sto⟩ K) : OkOps P ⟨w0, σ0, φ0, M, n, rd, mk⟩ ops (o :: rest) ⟨fr, sto⟩ K := by
  subst hap; subst hr
  exact okops_callX k dl ho hg (by rw [hdst]; exact hd) hss hf ha hD hC hk (freshRB_ok hfresh) (by rw [hdst]; exact h)
theorem d_callG (k : Nat) (dl : List Nat) {os : List (Nat × AObj)} {d : Nat} {fop : Operand} {args : Array Operand} {ats : Array TypeId} {f : FuncId} {caps : List D} {avs avs' : List AV} {rav rav' : AV}
    (ho : o.op = .call { callee := .value fop, args := args, argTypes := ats }) (hg : o.guard = none) (hdst : o.dst = some d) (hd : Nat.blt d c.n = true) (hos : objsL sto dl = some os) (hf : evS os ⟨fr, sto⟩ fop = some (.one (.d (.fn f caps))))
    (ha : evLS os ⟨fr, sto⟩ args.toList = some avs) (hD : avsD avs = true) (hap : (avs ++ caps.map fun x => .one (.d x)) = avs') (hC : CallA P f avs' [] rav [])
    (hk : (keysOk [] [] && Nat.ble (k + 16) 1000000 && avIn [] rav && stoIn [] []) = true) (hr : renV (rn k []) rav = rav')
    (h : DRun P c ops st0 rest ⟨(d, rav') :: fr, appW (delW dl) sto⟩ (callTr k dl dl rav [] :: acc) K) : DRun P c ops st0 (o :: rest) ⟨fr, sto⟩ acc K := by
  subst hap; subst hr
  refine d_run hg (loc_callX k dl ho (by rw [hdst]; exact hd) hos hf ha hD hC hk) ?_
  rw [hdst]; exact h
end
theorem step3_appendB {V : Env} {st : St} {o : Oper} {id i n k b k' b' : Nat} {t t2 : TypeId} {x y : Operand} {v : AV} {xs ys : List (List D)} {e : TypeId} {z : List D} {q : TypeId × Nat × Nat × List D}
    (ho : o.op = .call { callee := .builtin .append, args := ⟨[x, y]⟩, argTypes := ⟨[t, t2]⟩ }) (ht : sliceTy V.T t = some (e, k, b, z)) (ht2 : sliceTy V.T t2 = some q) (hx : ev st x = some (.one (.own i n))) (hl : look st.sto i = some (.row k' b' xs))
    (hkb : (Nat.beq k k' && Nat.beq b b') = true) (hy : ev st y = some v) (hs : srcOf st k v = some ys) (hn : n ≤ 100000000) (hys : ys.length ≤ 10000000) (hb : b ≤ 100) :
    step3 V st o id = some ⟨.one (.own id (n + ys.length)), [(id, some (.row k b (xs.take n ++ ys))), (i, none)], [id]⟩ :=
  step3_append ho ht ht2 hx hl hkb hy hs (by omega) (Nat.le_trans (Nat.mul_le_mul (show n + ys.length ≤ 110000000 by omega) hb) (by omega))
end Go.Abs
namespace Go.Proofs.YtpejdgkaapnekaaGreat
open Go Go.Abs
attribute [local irreducible] OkOps OkC DRun thenQ blockQ RetQ
set_option maxRecDepth 10000
theorem c139 (nm : List UInt8) (lo hi : Int) : CallA Tryz.prog 139 [.agg [.d (.str nm), .d (.int .i64 lo), .d (.int .i64 hi)]] [] (.one (.d (.str nm))) [] := by
  refine enter tabOk Tryz.func139 rfl (by decide +kernel) rfl fun hok w0 σ0 φ0 M => ?_
  repeat' (first | (show OkOps _ _ _ _ _ _; first | refine okops_nil ?_ | refine s_plain tabOk rfl rfl rfl rfl rfl ?_ | (show OkOps _ _ _ (Oper.mk _ (Op.box _ _) _ _ _ (_) :: _) _ _; first | refine s_box 0 rfl rfl rfl rfl rfl rfl ?_ | fail) | fail) | (show OkC _ _ _ _ _; first | refine ok_seq ?_ | refine ok_region ?_ | refine ok_ret ?_ | fail) | (show thenQ _ _ _ _; first | refine then_n ?_ | fail) | (show RetQ _ _ _ _ _ _; first | refine ret_leaf (.inl rfl) rfl rfl ?_ | fail) | fail)
  all_goals (try (((simp_all [at_drop, List.drop_eq_nil_of_le]) <;> first | omega | (rw [Bool.eq_iff_iff]; simp; omega) | grind); done))
theorem c151 (nm : List UInt8) (t : Int) : CallA Tryz.prog 151 [.agg [.d (.str nm), .d (.int .i64 t)]] [] (.one (.d (.str nm))) [] := by
  refine enter tabOk Tryz.func151 rfl (by decide +kernel) rfl fun hok w0 σ0 φ0 M => ?_
  repeat' (first | (show OkOps _ _ _ _ _ _; first | refine okops_nil ?_ | refine s_plain tabOk rfl rfl rfl rfl rfl ?_ | (show OkOps _ _ _ (Oper.mk _ (Op.box _ _) _ _ _ (_) :: _) _ _; first | refine s_box 0 rfl rfl rfl rfl rfl rfl ?_ | fail) | fail) | (show OkC _ _ _ _ _; first | refine ok_seq ?_ | refine ok_region ?_ | refine ok_ret ?_ | fail) | (show thenQ _ _ _ _; first | refine then_n ?_ | fail) | (show RetQ _ _ _ _ _ _; first | refine ret_leaf (.inl rfl) rfl rfl ?_ | fail) | fail)
  all_goals (try (((simp_all [at_drop, List.drop_eq_nil_of_le]) <;> first | omega | (rw [Bool.eq_iff_iff]; simp; omega) | grind); done))
theorem c245 (nm name : List UInt8) (lo hi : Int) : CallA Tryz.prog 245 [.agg [.d (.str nm), .d (.int .i64 lo), .d (.int .i64 hi)], .one (.d (.ptr [.fn 139 []])), .one (.d (.ptr [.str name]))] [] (.one (.d (.bool (nm == name)))) [] := by
  refine enter tabOk Tryz.func245 rfl (by decide +kernel) rfl fun hok w0 σ0 φ0 M => ?_
  repeat' (first | (show OkOps _ _ _ _ _ _; first | refine okops_nil ?_ | refine s_plain tabOk rfl rfl rfl rfl rfl ?_ | (show OkOps _ _ _ (Oper.mk _ (Op.box _ _) _ _ _ (_) :: _) _ _; first | refine s_box 0 rfl rfl rfl rfl rfl rfl ?_ | fail) | fail) | (show OkC _ _ _ _ _; first | refine ok_seq ?_ | refine ok_region ?_ | refine ok_ret ?_ | refine ok_regionD progOk.mo ?_ | fail) | (show thenQ _ _ _ _; first | refine then_n ?_ | fail) | (show RetQ _ _ _ _ _ _; first | refine ret_leaf (.inl rfl) rfl rfl ?_ | fail) | (show DRun _ _ _ _ _ _ _ _; first | refine d_nil (by kernel_rfl) ?_ | refine d_e envOk rfl rfl rfl (step3_plain rfl rfl) ?_ | (show DRun _ _ _ _ (Oper.mk _ (Op.call _) _ _ _ (_) :: _) _ _ _; first | refine d_l rfl rfl (loc_callF' rfl rfl rfl rfl rfl rfl (c139 _ _ _) rfl) ?_ | fail) | fail) | fail)
  all_goals (try (((simp_all [at_drop, List.drop_eq_nil_of_le]) <;> first | omega | (rw [Bool.eq_iff_iff]; simp; omega) | grind); done))
theorem c251 (nm name : List UInt8) (t : Int) : CallA Tryz.prog 251 [.agg [.d (.str nm), .d (.int .i64 t)], .one (.d (.ptr [.fn 151 []])), .one (.d (.ptr [.str name]))] [] (.one (.d (.bool (nm == name)))) [] := by
  refine enter tabOk Tryz.func251 rfl (by decide +kernel) rfl fun hok w0 σ0 φ0 M => ?_
  repeat' (first | (show OkOps _ _ _ _ _ _; first | refine okops_nil ?_ | refine s_plain tabOk rfl rfl rfl rfl rfl ?_ | (show OkOps _ _ _ (Oper.mk _ (Op.box _ _) _ _ _ (_) :: _) _ _; first | refine s_box 0 rfl rfl rfl rfl rfl rfl ?_ | fail) | fail) | (show OkC _ _ _ _ _; first | refine ok_seq ?_ | refine ok_region ?_ | refine ok_ret ?_ | refine ok_regionD progOk.mo ?_ | fail) | (show thenQ _ _ _ _; first | refine then_n ?_ | fail) | (show RetQ _ _ _ _ _ _; first | refine ret_leaf (.inl rfl) rfl rfl ?_ | fail) | (show DRun _ _ _ _ _ _ _ _; first | refine d_nil (by kernel_rfl) ?_ | refine d_e envOk rfl rfl rfl (step3_plain rfl rfl) ?_ | (show DRun _ _ _ _ (Oper.mk _ (Op.call _) _ _ _ (_) :: _) _ _ _; first | refine d_l rfl rfl (loc_callF' rfl rfl rfl rfl rfl rfl (c151 _ _) rfl) ?_ | fail) | fail) | fail)
  all_goals (try (((simp_all [at_drop, List.drop_eq_nil_of_le]) <;> first | omega | (rw [Bool.eq_iff_iff]; simp; omega) | grind); done))
theorem c244 (f : FuncId) (caps : List D) (p : Dim → Bool) (hp : ∀ d : Dim, CallA Tryz.prog f ([.agg [.d (.str d.name), .d (.int .i64 d.lo), .d (.int .i64 d.hi)]] ++ caps.map fun x => .one (.d x)) [] (.one (.d (.bool (p d)))) []) (l : List Dim) :
    CallA Tryz.prog 244 [.one (.d (encDims l)), .one (.d (.fn f caps))] [] (.one (.d (.int .i64 (idxGo p l 0)))) [] := by
  refine enter tabOk Tryz.func244 rfl (by decide +kernel) rfl fun hok w0 σ0 φ0 M => ?_
  have h1 := hok.1.sl; clear hok; simp only [List.length_map] at h1; replace h1 := h1.1
  repeat' (first | (show OkOps _ _ _ _ _ _; first | refine okops_nil ?_ | refine s_plain tabOk rfl rfl rfl rfl rfl ?_ | (show OkOps _ _ _ (Oper.mk _ (Op.binOp .add _ _ _ _) _ _ _ (_) :: _) _ _; first | refine s_e envOk rfl rfl rfl (step3_add rfl rfl rfl rfl (wrap64 (by omega) (by omega))) ?_ | fail) | (show OkOps _ _ _ (Oper.mk _ (Op.indexAddr _ _ _) _ _ _ (_) :: _) _ _; first | refine s_e envOk rfl rfl rfl (step3_idx rfl rfl rfl rfl rfl (by first | omega | ((try simp only [decide_eq_true_eq, decide_eq_false_iff_not, Bool.not_eq_true', Bool.not_true, Bool.not_false, List.length_map, List.length_set, bne_iff_ne, ne_eq, beq_iff_eq, bne_eq_false_iff_eq, beq_eq_false_iff_ne] at *); omega)) (at_map (by first | omega | ((try simp only [decide_eq_true_eq, decide_eq_false_iff_not, Bool.not_eq_true', Bool.not_true, Bool.not_false, List.length_map, List.length_set, bne_iff_ne, ne_eq, beq_iff_eq, bne_eq_false_iff_eq, beq_eq_false_iff_ne] at *); omega)))) ?_ | fail) | (show OkOps _ _ _ (Oper.mk _ (Op.call _) _ _ _ (_) :: _) _ _; first | refine s_callF rfl rfl rfl rfl rfl rfl rfl rfl (hp _) rfl ?_ | fail) | fail) | (show OkC _ _ _ _ _; first | refine ok_seq ?_ | refine ok_region ?_ | refine ok_block ?_ | refine ok_skip ?_ | refine ok_ret ?_ | refine ok_exit ?_ | refine ok_cond rfl (fun h => ?_) (fun h => ?_) | refine s_loop 2 rfl [(0, _), (1, _), (7, _)] (subL_cons rfl (subL_cons rfl (subL_cons rfl subL_nil))) (fun (k : Nat) => [(8, .one (.d (.int .i64 k)))]) (fun (k : Nat) => k ≤ l.length ∧ idxGo p l 0 = idxGo p (l.drop k) k) (fun (k : Nat) => l.length - k) 0 (subL_cons rfl subL_nil) ?_ (fun k ⟨hk, hs⟩ => ?_) | fail) | (show thenQ _ _ _ _; first | refine then_n ?_ | refine then_r ?_ | refine then_x ?_ | fail) | (show blockQ _ _ _ _; first | refine block_n ?_ | refine block_r ?_ | refine block_x rfl ?_ | fail) | (show RetQ _ _ _ _ _ _; first | refine ret_leaf (.inl rfl) rfl rfl ?_ | fail) | (show Exists _; first | refine Exists.intro (k + 1) ⟨?_, ?_, (by first | exact subL_nil | exact (subL_cons rfl subL_nil) | exact (subL_cons rfl (subL_cons rfl subL_nil)) | exact (subL_cons rfl (subL_cons rfl (subL_cons rfl subL_nil))) | exact (subL_cons rfl (subL_cons rfl (subL_cons rfl (subL_cons rfl subL_nil)))) | exact (subL_cons rfl (subL_cons rfl (subL_cons rfl (subL_cons rfl (subL_cons rfl subL_nil))))) | exact (subL_cons rfl (subL_cons rfl (subL_cons rfl (subL_cons rfl (subL_cons rfl (subL_cons rfl subL_nil)))))) | exact (subL_cons rfl (subL_cons rfl (subL_cons rfl (subL_cons rfl (subL_cons rfl (subL_cons rfl (subL_cons rfl subL_nil))))))) | exact (subL_cons rfl (subL_cons rfl (subL_cons rfl (subL_cons rfl (subL_cons rfl (subL_cons rfl (subL_cons rfl (subL_cons rfl subL_nil))))))))), (subL_cons rfl subL_nil), (subL_cons rfl (subL_cons rfl (subL_cons rfl subL_nil)))⟩ | fail) | fail)
  all_goals (try (((simp_all [idxGo, at_drop, List.drop_eq_nil_of_le]) <;> first | omega | (rw [Bool.eq_iff_iff]; simp; omega) | grind); done))
theorem c250 (f : FuncId) (caps : List D) (p : Attr → Bool) (hp : ∀ d : Attr, CallA Tryz.prog f ([.agg [.d (.str d.name), .d (.int .i64 d.type)]] ++ caps.map fun x => .one (.d x)) [] (.one (.d (.bool (p d)))) []) (l : List Attr) :
    CallA Tryz.prog 250 [.one (.d (encAttrs l)), .one (.d (.fn f caps))] [] (.one (.d (.int .i64 (idxGo p l 0)))) [] := by
  refine enter tabOk Tryz.func250 rfl (by decide +kernel) rfl fun hok w0 σ0 φ0 M => ?_
  have h1 := hok.1.sl; clear hok; simp only [List.length_map] at h1; replace h1 := h1.1
  repeat' (first | (show OkOps _ _ _ _ _ _; first | refine okops_nil ?_ | refine s_plain tabOk rfl rfl rfl rfl rfl ?_ | (show OkOps _ _ _ (Oper.mk _ (Op.binOp .add _ _ _ _) _ _ _ (_) :: _) _ _; first | refine s_e envOk rfl rfl rfl (step3_add rfl rfl rfl rfl (wrap64 (by omega) (by omega))) ?_ | fail) | (show OkOps _ _ _ (Oper.mk _ (Op.indexAddr _ _ _) _ _ _ (_) :: _) _ _; first | refine s_e envOk rfl rfl rfl (step3_idx rfl rfl rfl rfl rfl (by first | omega | ((try simp only [decide_eq_true_eq, decide_eq_false_iff_not, Bool.not_eq_true', Bool.not_true, Bool.not_false, List.length_map, List.length_set, bne_iff_ne, ne_eq, beq_iff_eq, bne_eq_false_iff_eq, beq_eq_false_iff_ne] at *); omega)) (at_map (by first | omega | ((try simp only [decide_eq_true_eq, decide_eq_false_iff_not, Bool.not_eq_true', Bool.not_true, Bool.not_false, List.length_map, List.length_set, bne_iff_ne, ne_eq, beq_iff_eq, bne_eq_false_iff_eq, beq_eq_false_iff_ne] at *); omega)))) ?_ | fail) | (show OkOps _ _ _ (Oper.mk _ (Op.call _) _ _ _ (_) :: _) _ _; first | refine s_callF rfl rfl rfl rfl rfl rfl rfl rfl (hp _) rfl ?_ | fail) | fail) | (show OkC _ _ _ _ _; first | refine ok_seq ?_ | refine ok_region ?_ | refine ok_block ?_ | refine ok_skip ?_ | refine ok_ret ?_ | refine ok_exit ?_ | refine ok_cond rfl (fun h => ?_) (fun h => ?_) | refine s_loop 2 rfl [(0, _), (1, _), (7, _)] (subL_cons rfl (subL_cons rfl (subL_cons rfl subL_nil))) (fun (k : Nat) => [(8, .one (.d (.int .i64 k)))]) (fun (k : Nat) => k ≤ l.length ∧ idxGo p l 0 = idxGo p (l.drop k) k) (fun (k : Nat) => l.length - k) 0 (subL_cons rfl subL_nil) ?_ (fun k ⟨hk, hs⟩ => ?_) | fail) | (show thenQ _ _ _ _; first | refine then_n ?_ | refine then_r ?_ | refine then_x ?_ | fail) | (show blockQ _ _ _ _; first | refine block_n ?_ | refine block_r ?_ | refine block_x rfl ?_ | fail) | (show RetQ _ _ _ _ _ _; first | refine ret_leaf (.inl rfl) rfl rfl ?_ | fail) | (show Exists _; first | refine Exists.intro (k + 1) ⟨?_, ?_, (by first | exact subL_nil | exact (subL_cons rfl subL_nil) | exact (subL_cons rfl (subL_cons rfl subL_nil)) | exact (subL_cons rfl (subL_cons rfl (subL_cons rfl subL_nil))) | exact (subL_cons rfl (subL_cons rfl (subL_cons rfl (subL_cons rfl subL_nil)))) | exact (subL_cons rfl (subL_cons rfl (subL_cons rfl (subL_cons rfl (subL_cons rfl subL_nil))))) | exact (subL_cons rfl (subL_cons rfl (subL_cons rfl (subL_cons rfl (subL_cons rfl (subL_cons rfl subL_nil)))))) | exact (subL_cons rfl (subL_cons rfl (subL_cons rfl (subL_cons rfl (subL_cons rfl (subL_cons rfl (subL_cons rfl subL_nil))))))) | exact (subL_cons rfl (subL_cons rfl (subL_cons rfl (subL_cons rfl (subL_cons rfl (subL_cons rfl (subL_cons rfl (subL_cons rfl subL_nil))))))))), (subL_cons rfl subL_nil), (subL_cons rfl (subL_cons rfl (subL_cons rfl subL_nil)))⟩ | fail) | fail)
  all_goals (try (((simp_all [idxGo, at_drop, List.drop_eq_nil_of_le]) <;> first | omega | (rw [Bool.eq_iff_iff]; simp; omega) | grind); done))
theorem c195 (l : List Dim) (name : List UInt8) : CallA Tryz.prog 195 [.one (.d (encDims l)), .one (.d (.str name)), .one (.d (.fn 139 []))] [] (.one (.d (.int .i64 (idxGo (fun a : Dim => a.name == name) l 0)))) [] := by
  refine enter tabOk Tryz.func195 rfl (by decide +kernel) rfl fun hok w0 σ0 φ0 M => ?_
  repeat' (first | (show OkOps _ _ _ _ _ _; first | refine okops_nil ?_ | refine s_plain tabOk rfl rfl rfl rfl rfl ?_ | (show OkOps _ _ _ (Oper.mk _ (Op.call _) _ _ _ (_) :: _) _ _; first | refine s_callF rfl rfl rfl rfl rfl rfl rfl rfl (c244 _ _ _ (fun d => c245 _ name _ _) _) rfl ?_ | fail) | (show OkOps _ _ _ (Oper.mk _ (Op.box _ _) _ _ _ (_) :: _) _ _; first | refine s_box 0 rfl rfl rfl rfl rfl rfl ?_ | refine s_box 1 rfl rfl rfl rfl rfl rfl ?_ | fail) | refine s_mkF envOk rfl rfl rfl rfl rfl ?_ | fail) | (show OkC _ _ _ _ _; first | refine ok_seq ?_ | refine ok_region ?_ | refine ok_ret ?_ | fail) | (show thenQ _ _ _ _; first | refine then_n ?_ | fail) | (show RetQ _ _ _ _ _ _; first | refine ret_leaf (.inl rfl) rfl rfl ?_ | fail) | fail)
  all_goals (try (((simp_all [at_drop, List.drop_eq_nil_of_le]) <;> first | omega | (rw [Bool.eq_iff_iff]; simp; omega) | grind); done))
theorem c207 (l : List Attr) (name : List UInt8) : CallA Tryz.prog 207 [.one (.d (encAttrs l)), .one (.d (.str name)), .one (.d (.fn 151 []))] [] (.one (.d (.int .i64 (idxGo (fun a : Attr => a.name == name) l 0)))) [] := by
  refine enter tabOk Tryz.func207 rfl (by decide +kernel) rfl fun hok w0 σ0 φ0 M => ?_
  repeat' (first | (show OkOps _ _ _ _ _ _; first | refine okops_nil ?_ | refine s_plain tabOk rfl rfl rfl rfl rfl ?_ | (show OkOps _ _ _ (Oper.mk _ (Op.call _) _ _ _ (_) :: _) _ _; first | refine s_callF rfl rfl rfl rfl rfl rfl rfl rfl (c250 _ _ _ (fun d => c251 _ name _) _) rfl ?_ | fail) | (show OkOps _ _ _ (Oper.mk _ (Op.box _ _) _ _ _ (_) :: _) _ _; first | refine s_box 0 rfl rfl rfl rfl rfl rfl ?_ | refine s_box 1 rfl rfl rfl rfl rfl rfl ?_ | fail) | refine s_mkF envOk rfl rfl rfl rfl rfl ?_ | fail) | (show OkC _ _ _ _ _; first | refine ok_seq ?_ | refine ok_region ?_ | refine ok_ret ?_ | fail) | (show thenQ _ _ _ _; first | refine then_n ?_ | fail) | (show RetQ _ _ _ _ _ _; first | refine ret_leaf (.inl rfl) rfl rfl ?_ | fail) | fail)
  all_goals (try (((simp_all [at_drop, List.drop_eq_nil_of_le]) <;> first | omega | (rw [Bool.eq_iff_iff]; simp; omega) | grind); done))
theorem c126 (ds : List Dim) (ats : List Attr) (cs : D) (name : List UInt8) : CallA Tryz.prog 126 [.agg [.d (encDims ds), .d (encAttrs ats), .d cs], .one (.d (.str name))] [] (.one (.d (.int .i64 (idxGo (fun a : Dim => a.name == name) ds 0)))) [] := by
  refine enter tabOk Tryz.func126 rfl (by decide +kernel) rfl fun hok w0 σ0 φ0 M => ?_
  repeat' (first | (show OkOps _ _ _ _ _ _; first | refine okops_nil ?_ | refine s_plain tabOk rfl rfl rfl rfl rfl ?_ | (show OkOps _ _ _ (Oper.mk _ (Op.call _) _ _ _ (_) :: _) _ _; first | refine s_callF rfl rfl rfl rfl rfl rfl rfl rfl (c195 _ _) rfl ?_ | fail) | (show OkOps _ _ _ (Oper.mk _ (Op.box _ _) _ _ _ (_) :: _) _ _; first | refine s_box 0 rfl rfl rfl rfl rfl rfl ?_ | fail) | fail) | (show OkC _ _ _ _ _; first | refine ok_seq ?_ | refine ok_region ?_ | refine ok_ret ?_ | fail) | (show thenQ _ _ _ _; first | refine then_n ?_ | fail) | (show RetQ _ _ _ _ _ _; first | refine ret_leaf (.inl rfl) rfl rfl ?_ | fail) | fail)
  all_goals (try (((simp_all [at_drop, List.drop_eq_nil_of_le]) <;> first | omega | (rw [Bool.eq_iff_iff]; simp; omega) | grind); done))
theorem c148 (ds : List Dim) (ats : List Attr) (cs : D) (name : List UInt8) : CallA Tryz.prog 148 [.agg [.d (encDims ds), .d (encAttrs ats), .d cs], .one (.d (.str name))] [] (.one (.d (.int .i64 (idxGo (fun a : Attr => a.name == name) ats 0)))) [] := by
  refine enter tabOk Tryz.func148 rfl (by decide +kernel) rfl fun hok w0 σ0 φ0 M => ?_
  repeat' (first | (show OkOps _ _ _ _ _ _; first | refine okops_nil ?_ | refine s_plain tabOk rfl rfl rfl rfl rfl ?_ | (show OkOps _ _ _ (Oper.mk _ (Op.call _) _ _ _ (_) :: _) _ _; first | refine s_callF rfl rfl rfl rfl rfl rfl rfl rfl (c207 _ _) rfl ?_ | fail) | (show OkOps _ _ _ (Oper.mk _ (Op.box _ _) _ _ _ (_) :: _) _ _; first | refine s_box 0 rfl rfl rfl rfl rfl rfl ?_ | fail) | fail) | (show OkC _ _ _ _ _; first | refine ok_seq ?_ | refine ok_region ?_ | refine ok_ret ?_ | fail) | (show thenQ _ _ _ _; first | refine then_n ?_ | fail) | (show RetQ _ _ _ _ _ _; first | refine ret_leaf (.inl rfl) rfl rfl ?_ | fail) | fail)
  all_goals (try (((simp_all [at_drop, List.drop_eq_nil_of_le]) <;> first | omega | (rw [Bool.eq_iff_iff]; simp; omega) | grind); done))
end Go.Proofs.YtpejdgkaapnekaaGreat
namespace Go.Proofs.YtpejdgkaapnekaaGreat
open Go Go.Abs
attribute [local irreducible] OkOps OkC DRun thenQ blockQ RetQ
set_option maxRecDepth 10000
def chkA (a : Arr) : Int := checkF a.dims a.attrs a.cells
theorem c180 (a : Arr) : CallA Tryz.prog 180 [aggA a] [] (.one (.d (.bool (chkA a != 0)))) [] := by
  unfold aggA
  refine enter tabOk Tryz.func180 rfl (by decide +kernel) rfl fun hok w0 σ0 φ0 M => ?_
  clear hok
  repeat' (first | (show OkOps _ _ _ _ _ _; first | refine okops_nil ?_ | refine s_plain tabOk rfl rfl rfl rfl rfl ?_ | (show OkOps _ _ _ (Oper.mk _ (Op.call _) _ _ _ (_) :: _) _ _; first | refine s_callF rfl rfl rfl rfl rfl rfl rfl rfl (c59 _ _ _) rfl ?_ | fail) | (show OkOps _ _ _ (Oper.mk _ (Op.box _ _) _ _ _ (_) :: _) _ _; first | refine s_box 0 rfl rfl rfl rfl rfl rfl ?_ | fail) | fail) | (show OkC _ _ _ _ _; first | refine ok_seq ?_ | refine ok_region ?_ | refine ok_ret ?_ | fail) | (show thenQ _ _ _ _; first | refine then_n ?_ | fail) | (show RetQ _ _ _ _ _ _; first | refine ret_leaf (.inl rfl) rfl rfl ?_ | fail) | fail)
  all_goals rfl
theorem c31 (a : Arr) (m : Int) : CallA Tryz.prog 31 [aggA a, .one (.d (.int .i64 m))] [] (.one (.d (.bool (decide (m < (a.cells.length : Int)) || chkA a != 0)))) [] := by
  unfold aggA
  refine enter tabOk Tryz.func31 rfl (by decide +kernel) rfl fun hok w0 σ0 φ0 M => ?_
  have h1 := (OkD.sl (hok.1 (.d (encCells a.cells)) (by simp))).1; clear hok; simp only [List.length_map] at h1
  repeat' (first | (show OkOps _ _ _ _ _ _; first | refine okops_nil ?_ | refine s_plain tabOk rfl rfl rfl rfl rfl ?_ | (show OkOps _ _ _ (Oper.mk _ (_) _ _ _ (some _) :: _) _ _; first | refine s_guard rfl rfl (by first | assumption | rfl) ?_ | refine s_out rfl rfl (by first | assumption | rfl) rfl rfl ?_ | refine s_split rfl rfl rfl rfl (fun h => ?_) (fun h => ?_) | fail) | (show OkOps _ _ _ (Oper.mk _ (Op.pick _ _ _) _ _ _ (_) :: _) _ _; first | refine s_e envOk rfl rfl rfl (step3_pickT rfl rfl (by first | rfl | assumption) rfl) ?_ | refine s_e envOk rfl rfl rfl (step3_pickF rfl rfl (by first | rfl | assumption) rfl) ?_ | fail) | (show OkOps _ _ _ (Oper.mk _ (Op.call _) _ _ _ (_) :: _) _ _; first | refine s_callF rfl rfl rfl rfl rfl rfl rfl rfl (c59 _ _ _) rfl ?_ | fail) | (show OkOps _ _ _ (Oper.mk _ (Op.box _ _) _ _ _ (_) :: _) _ _; first | refine s_box 0 rfl rfl rfl rfl rfl rfl ?_ | fail) | fail) | (show OkC _ _ _ _ _; first | refine ok_seq ?_ | refine ok_region ?_ | refine ok_ret ?_ | fail) | (show thenQ _ _ _ _; first | refine then_n ?_ | fail) | (show RetQ _ _ _ _ _ _; first | refine ret_leaf (.inl rfl) rfl rfl ?_ | fail) | fail)
  all_goals (try (((simp_all [chkA, at_drop, List.drop_eq_nil_of_le]) <;> first | omega | (rw [Bool.eq_iff_iff]; simp; omega) | grind); done))
theorem c230 (l : List Arr) : CallA Tryz.prog 230 [.one (.d (encArrs l)), .one (.d (.fn 180 []))] [] (.one (.d (.int .i64 (idxGo (fun a => chkA a != 0) l 0)))) [] := by
  refine enter tabOk Tryz.func230 rfl (by decide +kernel) rfl fun hok w0 σ0 φ0 M => ?_
  have h1 := hok.1.sl; clear hok; simp only [List.length_map] at h1; replace h1 := h1.1
  repeat' (first | (show OkOps _ _ _ _ _ _; first | refine okops_nil ?_ | refine s_plain tabOk rfl rfl rfl rfl rfl ?_ | (show OkOps _ _ _ (Oper.mk _ (Op.binOp .add _ _ _ _) _ _ _ (_) :: _) _ _; first | refine s_e envOk rfl rfl rfl (step3_add rfl rfl rfl rfl (wrap64 (by omega) (by omega))) ?_ | fail) | (show OkOps _ _ _ (Oper.mk _ (Op.indexAddr _ _ _) _ _ _ (_) :: _) _ _; first | refine s_e envOk rfl rfl rfl (step3_idx rfl rfl rfl rfl rfl (by first | omega | ((try simp only [decide_eq_true_eq, decide_eq_false_iff_not, Bool.not_eq_true', Bool.not_true, Bool.not_false, List.length_map, List.length_set, bne_iff_ne, ne_eq, beq_iff_eq, bne_eq_false_iff_eq, beq_eq_false_iff_ne] at *); omega)) (at_map (by first | omega | ((try simp only [decide_eq_true_eq, decide_eq_false_iff_not, Bool.not_eq_true', Bool.not_true, Bool.not_false, List.length_map, List.length_set, bne_iff_ne, ne_eq, beq_iff_eq, bne_eq_false_iff_eq, beq_eq_false_iff_ne] at *); omega)))) ?_ | fail) | (show OkOps _ _ _ (Oper.mk _ (Op.call _) _ _ _ (_) :: _) _ _; first | refine s_callF rfl rfl rfl rfl rfl rfl rfl rfl (c180 _) rfl ?_ | fail) | fail) | (show OkC _ _ _ _ _; first | refine ok_seq ?_ | refine ok_region ?_ | refine ok_block ?_ | refine ok_skip ?_ | refine ok_ret ?_ | refine ok_exit ?_ | refine ok_cond rfl (fun h => ?_) (fun h => ?_) | refine s_loop 2 rfl [(0, _), (1, _), (7, _)] (subL_cons rfl (subL_cons rfl (subL_cons rfl subL_nil))) (fun (k : Nat) => [(8, .one (.d (.int .i64 k)))]) (fun (k : Nat) => k ≤ l.length ∧ idxGo (fun a => chkA a != 0) l 0 = idxGo (fun a => chkA a != 0) (l.drop k) k) (fun (k : Nat) => l.length - k) 0 (subL_cons rfl subL_nil) ?_ (fun k ⟨hk, hs⟩ => ?_) | fail) | (show thenQ _ _ _ _; first | refine then_n ?_ | refine then_r ?_ | refine then_x ?_ | fail) | (show blockQ _ _ _ _; first | refine block_n ?_ | refine block_r ?_ | refine block_x rfl ?_ | fail) | (show RetQ _ _ _ _ _ _; first | refine ret_leaf (.inl rfl) rfl rfl ?_ | fail) | (show Exists _; first | refine Exists.intro (k + 1) ⟨?_, ?_, (by first | exact subL_nil | exact (subL_cons rfl subL_nil) | exact (subL_cons rfl (subL_cons rfl subL_nil)) | exact (subL_cons rfl (subL_cons rfl (subL_cons rfl subL_nil))) | exact (subL_cons rfl (subL_cons rfl (subL_cons rfl (subL_cons rfl subL_nil)))) | exact (subL_cons rfl (subL_cons rfl (subL_cons rfl (subL_cons rfl (subL_cons rfl subL_nil))))) | exact (subL_cons rfl (subL_cons rfl (subL_cons rfl (subL_cons rfl (subL_cons rfl (subL_cons rfl subL_nil)))))) | exact (subL_cons rfl (subL_cons rfl (subL_cons rfl (subL_cons rfl (subL_cons rfl (subL_cons rfl (subL_cons rfl subL_nil))))))) | exact (subL_cons rfl (subL_cons rfl (subL_cons rfl (subL_cons rfl (subL_cons rfl (subL_cons rfl (subL_cons rfl (subL_cons rfl subL_nil))))))))), (subL_cons rfl subL_nil), (subL_cons rfl (subL_cons rfl (subL_cons rfl subL_nil)))⟩ | fail) | fail)
  all_goals (try (((simp_all [idxGo, at_drop, List.drop_eq_nil_of_le]) <;> first | omega | (rw [Bool.eq_iff_iff]; simp; omega) | grind); done))
theorem c179 (l : List Arr) : CallA Tryz.prog 179 [.one (.d (encArrs l)), .one (.d (.fn 180 []))] [] (.one (.d (.bool (!decide (idxGo (fun a => chkA a != 0) l 0 < 0))))) [] := by
  refine enter tabOk Tryz.func179 rfl (by decide +kernel) rfl fun hok w0 σ0 φ0 M => ?_
  clear hok
  repeat' (first | (show OkOps _ _ _ _ _ _; first | refine okops_nil ?_ | refine s_plain tabOk rfl rfl rfl rfl rfl ?_ | (show OkOps _ _ _ (Oper.mk _ (Op.call _) _ _ _ (_) :: _) _ _; first | refine s_callF rfl rfl rfl rfl rfl rfl rfl rfl (c230 _) rfl ?_ | fail) | fail) | (show OkC _ _ _ _ _; first | refine ok_seq ?_ | refine ok_region ?_ | refine ok_ret ?_ | fail) | (show thenQ _ _ _ _; first | refine then_n ?_ | fail) | (show RetQ _ _ _ _ _ _; first | refine ret_leaf (.inl rfl) rfl rfl ?_ | fail) | fail)
  all_goals (try (((simp_all [at_drop, List.drop_eq_nil_of_le]) <;> first | omega | (rw [Bool.eq_iff_iff]; simp; omega) | grind); done))
def validF (l : List Arr) : Bool := l.all fun a => chkA a == 0
theorem idx_valid' : ∀ (l : List Arr) (j : Nat), idxGo (fun a => chkA a != 0) l j < 0 ↔ validF l = true
  | [], j => by simp [idxGo, validF]
  | a :: l, j => by
    have ih := idx_valid' l (j + 1)
    simp only [idxGo, validF, List.all_cons, Bool.and_eq_true]
    by_cases h : chkA a = 0
    · rw [if_neg (by simp [h])]
      rw [ih]
      simp [h, validF]
    · rw [if_pos (by simp [h])]
      constructor
      · intro h1; omega
      · intro h1; simp [h] at h1
theorem idx_valid (l : List Arr) (j : Nat) : decide (idxGo (fun a => chkA a != 0) l j < 0) = validF l := by
  rw [Bool.eq_iff_iff, decide_eq_true_eq, idx_valid']
theorem c96 (l : List Arr) : CallA Tryz.prog 96 [.one (.d (encArrs l))] [] (.one (.d (.bool (validF l)))) [] := by
  refine enter tabOk Tryz.func96 rfl (by decide +kernel) rfl fun hok w0 σ0 φ0 M => ?_
  clear hok
  repeat' (first | (show OkOps _ _ _ _ _ _; first | refine okops_nil ?_ | refine s_plain tabOk rfl rfl rfl rfl rfl ?_ | (show OkOps _ _ _ (Oper.mk _ (Op.call _) _ _ _ (_) :: _) _ _; first | refine s_callF rfl rfl rfl rfl rfl rfl rfl rfl (c179 _) rfl ?_ | fail) | fail) | (show OkC _ _ _ _ _; first | refine ok_seq ?_ | refine ok_region ?_ | refine ok_ret ?_ | fail) | (show thenQ _ _ _ _; first | refine then_n ?_ | fail) | (show RetQ _ _ _ _ _ _; first | refine ret_leaf (.inl rfl) rfl rfl ?_ | fail) | fail)
  all_goals (try (((simp_all [idx_valid, at_drop, List.drop_eq_nil_of_le]) <;> first | omega | (rw [Bool.eq_iff_iff]; simp; omega) | grind); done))
theorem c197 (x y : Dim) : CallA Tryz.prog 197 [.agg [.d (.str x.name), .d (.int .i64 x.lo), .d (.int .i64 x.hi)], .agg [.d (.str y.name), .d (.int .i64 y.lo), .d (.int .i64 y.hi)]] [] (.one (.d (.bool (x.name == y.name)))) [] := by
  refine enter tabOk Tryz.func197 rfl (by decide +kernel) rfl fun hok w0 σ0 φ0 M => ?_
  clear hok
  repeat' (first | (show OkOps _ _ _ _ _ _; first | refine okops_nil ?_ | refine s_plain tabOk rfl rfl rfl rfl rfl ?_ | (show OkOps _ _ _ (Oper.mk _ (Op.box _ _) _ _ _ (_) :: _) _ _; first | refine s_box 0 rfl rfl rfl rfl rfl rfl ?_ | refine s_box 1 rfl rfl rfl rfl rfl rfl ?_ | fail) | fail) | (show OkC _ _ _ _ _; first | refine ok_seq ?_ | refine ok_region ?_ | refine ok_ret ?_ | fail) | (show thenQ _ _ _ _; first | refine then_n ?_ | fail) | (show RetQ _ _ _ _ _ _; first | refine ret_leaf (.inl rfl) rfl rfl ?_ | fail) | fail)
  all_goals (try (((simp_all [at_drop, List.drop_eq_nil_of_le]) <;> first | omega | (rw [Bool.eq_iff_iff]; simp; omega) | grind); done))
theorem c196 (a b : List Dim) : CallA Tryz.prog 196 [.one (.d (encDims a)), .one (.d (encDims b)), .one (.d (.fn 197 []))] [] (.one (.d (.bool (alikeF a b)))) [] := by
  refine enter tabOk Tryz.func196 rfl (by decide +kernel) rfl fun hok w0 σ0 φ0 M => ?_
  have h1 := hok.1.sl; have h2 := hok.2.1.sl; clear hok; simp only [List.length_map] at h1 h2; replace h1 := h1.1; replace h2 := h2.1
  repeat' (first | (show OkOps _ _ _ _ _ _; first | refine okops_nil ?_ | refine s_plain tabOk rfl rfl rfl rfl rfl ?_ | (show OkOps _ _ _ (Oper.mk _ (Op.binOp .add _ _ _ _) _ _ _ (_) :: _) _ _; first | refine s_e envOk rfl rfl rfl (step3_add rfl rfl rfl rfl (wrap64 (by omega) (by omega))) ?_ | fail) | (show OkOps _ _ _ (Oper.mk _ (Op.indexAddr _ _ _) _ _ _ (_) :: _) _ _; first | refine s_e envOk rfl rfl rfl (step3_idx rfl rfl rfl rfl rfl (by first | omega | ((try simp only [decide_eq_true_eq, decide_eq_false_iff_not, Bool.not_eq_true', Bool.not_true, Bool.not_false, List.length_map, List.length_set, bne_iff_ne, ne_eq, beq_iff_eq, bne_eq_false_iff_eq, beq_eq_false_iff_ne] at *); omega)) (at_map (by first | omega | ((try simp only [decide_eq_true_eq, decide_eq_false_iff_not, Bool.not_eq_true', Bool.not_true, Bool.not_false, List.length_map, List.length_set, bne_iff_ne, ne_eq, beq_iff_eq, bne_eq_false_iff_eq, beq_eq_false_iff_ne] at *); omega)))) ?_ | fail) | (show OkOps _ _ _ (Oper.mk _ (Op.call _) _ _ _ (_) :: _) _ _; first | refine s_callF rfl rfl rfl rfl rfl rfl rfl rfl (c197 _ _) rfl ?_ | fail) | (show OkOps _ _ _ (Oper.mk _ (Op.alloc _) _ _ _ (_) :: _) _ _; first | refine s_alloc tabOk 0 rfl rfl rfl rfl rfl ?_ | refine s_alloc tabOk 1 rfl rfl rfl rfl rfl ?_ | fail) | refine s_store envOk rfl rfl rfl ?_ | fail) | (show OkC _ _ _ _ _; first | refine ok_seq ?_ | refine ok_region ?_ | refine ok_block ?_ | refine ok_skip ?_ | refine ok_ret ?_ | refine ok_exit ?_ | refine ok_cond rfl (fun h => ?_) (fun h => ?_) | refine s_loop 4 rfl [(1, _), (2, _), (15, _), (16, _)] (subL_cons rfl (subL_cons rfl (subL_cons rfl (subL_cons rfl subL_nil)))) (fun (k : Nat) => [(17, .one (.d (.int .i64 k)))]) (fun (k : Nat) => k ≤ a.length ∧ a.length = b.length ∧ alikeF a b = sameGo (fun x y => x.name == y.name) (a.drop k) (b.drop k)) (fun (k : Nat) => a.length - k) 0 (subL_cons rfl subL_nil) ?_ (fun k ⟨hk, hq, hs⟩ => ?_) | fail) | (show thenQ _ _ _ _; first | refine then_n ?_ | refine then_r ?_ | refine then_x ?_ | fail) | (show blockQ _ _ _ _; first | refine block_n ?_ | refine block_r ?_ | refine block_x rfl ?_ | fail) | (show RetQ _ _ _ _ _ _; first | refine ret_leaf (.inl rfl) rfl rfl ?_ | fail) | (show Exists _; first | refine Exists.intro (k + 1) ⟨?_, ?_, (by first | exact subL_nil | exact (subL_cons rfl subL_nil) | exact (subL_cons rfl (subL_cons rfl subL_nil)) | exact (subL_cons rfl (subL_cons rfl (subL_cons rfl subL_nil))) | exact (subL_cons rfl (subL_cons rfl (subL_cons rfl (subL_cons rfl subL_nil)))) | exact (subL_cons rfl (subL_cons rfl (subL_cons rfl (subL_cons rfl (subL_cons rfl subL_nil))))) | exact (subL_cons rfl (subL_cons rfl (subL_cons rfl (subL_cons rfl (subL_cons rfl (subL_cons rfl subL_nil)))))) | exact (subL_cons rfl (subL_cons rfl (subL_cons rfl (subL_cons rfl (subL_cons rfl (subL_cons rfl (subL_cons rfl subL_nil))))))) | exact (subL_cons rfl (subL_cons rfl (subL_cons rfl (subL_cons rfl (subL_cons rfl (subL_cons rfl (subL_cons rfl (subL_cons rfl subL_nil))))))))), (subL_cons rfl subL_nil), (subL_cons rfl (subL_cons rfl (subL_cons rfl (subL_cons rfl subL_nil))))⟩ | fail) | fail)
  all_goals (try (((simp_all [alikeF, sameF, sameGo, at_drop, List.drop_eq_nil_of_le]) <;> first | omega | (rw [Bool.eq_iff_iff]; simp; omega) | grind); done))
theorem c127 (a b : List Dim) : CallA Tryz.prog 127 [.one (.d (encDims a)), .one (.d (encDims b))] [] (.one (.d (.bool (alikeF a b)))) [] := by
  refine enter tabOk Tryz.func127 rfl (by decide +kernel) rfl fun hok w0 σ0 φ0 M => ?_
  clear hok
  repeat' (first | (show OkOps _ _ _ _ _ _; first | refine okops_nil ?_ | refine s_plain tabOk rfl rfl rfl rfl rfl ?_ | (show OkOps _ _ _ (Oper.mk _ (Op.call _) _ _ _ (_) :: _) _ _; first | refine s_callF rfl rfl rfl rfl rfl rfl rfl rfl (c196 _ _) rfl ?_ | fail) | fail) | (show OkC _ _ _ _ _; first | refine ok_seq ?_ | refine ok_region ?_ | refine ok_ret ?_ | fail) | (show thenQ _ _ _ _; first | refine then_n ?_ | fail) | (show RetQ _ _ _ _ _ _; first | refine ret_leaf (.inl rfl) rfl rfl ?_ | fail) | fail)
  all_goals (try (((simp_all [at_drop, List.drop_eq_nil_of_le]) <;> first | omega | (rw [Bool.eq_iff_iff]; simp; omega) | grind); done))
theorem c120 (a b : List Dim) : CallA Tryz.prog 120 [.one (.d (encDims a)), .one (.d (encDims b))] [] (.one (.d (.bool (sameF eqDim a b)))) [] := by
  refine enter tabOk Tryz.func120 rfl (by decide +kernel) rfl fun hok w0 σ0 φ0 M => ?_
  have h1 := hok.1.sl; have h2 := hok.2.1.sl; clear hok; simp only [List.length_map] at h1 h2; replace h1 := h1.1; replace h2 := h2.1
  repeat' (first | (show OkOps _ _ _ _ _ _; first | refine okops_nil ?_ | refine s_plain tabOk rfl rfl rfl rfl rfl ?_ | (show OkOps _ _ _ (Oper.mk _ (Op.binOp .add _ _ _ _) _ _ _ (_) :: _) _ _; first | refine s_e envOk rfl rfl rfl (step3_add rfl rfl rfl rfl (wrap64 (by omega) (by omega))) ?_ | fail) | fail) | (show OkC _ _ _ _ _; first | refine ok_seq ?_ | refine ok_region ?_ | refine ok_block ?_ | refine ok_skip ?_ | refine ok_ret ?_ | refine ok_exit ?_ | refine ok_cond rfl (fun h => ?_) (fun h => ?_) | refine ok_regionD progOk.mo ?_ | refine s_loop 4 rfl [(0, _), (1, _), (12, _)] (subL_cons rfl (subL_cons rfl (subL_cons rfl subL_nil))) (fun (k : Nat) => [(13, .one (.d (.int .i64 k)))]) (fun (k : Nat) => k ≤ a.length ∧ a.length = b.length ∧ sameF eqDim a b = sameGo eqDim (a.drop k) (b.drop k)) (fun (k : Nat) => a.length - k) 0 (subL_cons rfl subL_nil) ?_ (fun k ⟨hk, hq, hs⟩ => ?_) | fail) | (show thenQ _ _ _ _; first | refine then_n ?_ | refine then_r ?_ | refine then_x ?_ | fail) | (show blockQ _ _ _ _; first | refine block_n ?_ | refine block_r ?_ | refine block_x rfl ?_ | fail) | (show RetQ _ _ _ _ _ _; first | refine ret_leaf (.inl rfl) rfl rfl ?_ | fail) | (show DRun _ _ _ _ _ _ _ _; first | refine d_nil (by kernel_rfl) ?_ | refine d_e envOk rfl rfl rfl (step3_plain rfl rfl) ?_ | (show DRun _ _ _ _ (Oper.mk _ (Op.indexAddr _ _ _) _ _ _ (_) :: _) _ _ _; first | refine d_e envOk rfl rfl rfl (step3_idx rfl rfl rfl rfl rfl (by first | omega | ((try simp only [decide_eq_true_eq, decide_eq_false_iff_not, Bool.not_eq_true', Bool.not_true, Bool.not_false, List.length_map, List.length_set, bne_iff_ne, ne_eq, beq_iff_eq, bne_eq_false_iff_eq, beq_eq_false_iff_ne] at *); omega)) (at_map (by first | omega | ((try simp only [decide_eq_true_eq, decide_eq_false_iff_not, Bool.not_eq_true', Bool.not_true, Bool.not_false, List.length_map, List.length_set, bne_iff_ne, ne_eq, beq_iff_eq, bne_eq_false_iff_eq, beq_eq_false_iff_ne] at *); omega)))) ?_ | fail) | refine d_e envOk rfl rfl rfl rfl ?_ | fail) | (show Exists _; first | refine Exists.intro (k + 1) ⟨?_, ?_, (by first | exact subL_nil | exact (subL_cons rfl subL_nil) | exact (subL_cons rfl (subL_cons rfl subL_nil)) | exact (subL_cons rfl (subL_cons rfl (subL_cons rfl subL_nil))) | exact (subL_cons rfl (subL_cons rfl (subL_cons rfl (subL_cons rfl subL_nil)))) | exact (subL_cons rfl (subL_cons rfl (subL_cons rfl (subL_cons rfl (subL_cons rfl subL_nil))))) | exact (subL_cons rfl (subL_cons rfl (subL_cons rfl (subL_cons rfl (subL_cons rfl (subL_cons rfl subL_nil)))))) | exact (subL_cons rfl (subL_cons rfl (subL_cons rfl (subL_cons rfl (subL_cons rfl (subL_cons rfl (subL_cons rfl subL_nil))))))) | exact (subL_cons rfl (subL_cons rfl (subL_cons rfl (subL_cons rfl (subL_cons rfl (subL_cons rfl (subL_cons rfl (subL_cons rfl subL_nil))))))))), (subL_cons rfl subL_nil), (subL_cons rfl (subL_cons rfl (subL_cons rfl subL_nil)))⟩ | fail) | fail)
  all_goals (try (((simp_all [sameF, sameGo, eqDim, encDim, eqDs, eqD, at_drop, List.drop_eq_nil_of_le]) <;> first | omega | (rw [Bool.eq_iff_iff]; simp; omega) | grind); done))
theorem c121 (a b : List Attr) : CallA Tryz.prog 121 [.one (.d (encAttrs a)), .one (.d (encAttrs b))] [] (.one (.d (.bool (sameF eqAttr a b)))) [] := by
  refine enter tabOk Tryz.func121 rfl (by decide +kernel) rfl fun hok w0 σ0 φ0 M => ?_
  have h1 := hok.1.sl; have h2 := hok.2.1.sl; clear hok; simp only [List.length_map] at h1 h2; replace h1 := h1.1; replace h2 := h2.1
  repeat' (first | (show OkOps _ _ _ _ _ _; first | refine okops_nil ?_ | refine s_plain tabOk rfl rfl rfl rfl rfl ?_ | (show OkOps _ _ _ (Oper.mk _ (Op.binOp .add _ _ _ _) _ _ _ (_) :: _) _ _; first | refine s_e envOk rfl rfl rfl (step3_add rfl rfl rfl rfl (wrap64 (by omega) (by omega))) ?_ | fail) | fail) | (show OkC _ _ _ _ _; first | refine ok_seq ?_ | refine ok_region ?_ | refine ok_block ?_ | refine ok_skip ?_ | refine ok_ret ?_ | refine ok_exit ?_ | refine ok_cond rfl (fun h => ?_) (fun h => ?_) | refine ok_regionD progOk.mo ?_ | refine s_loop 4 rfl [(0, _), (1, _), (12, _)] (subL_cons rfl (subL_cons rfl (subL_cons rfl subL_nil))) (fun (k : Nat) => [(13, .one (.d (.int .i64 k)))]) (fun (k : Nat) => k ≤ a.length ∧ a.length = b.length ∧ sameF eqAttr a b = sameGo eqAttr (a.drop k) (b.drop k)) (fun (k : Nat) => a.length - k) 0 (subL_cons rfl subL_nil) ?_ (fun k ⟨hk, hq, hs⟩ => ?_) | fail) | (show thenQ _ _ _ _; first | refine then_n ?_ | refine then_r ?_ | refine then_x ?_ | fail) | (show blockQ _ _ _ _; first | refine block_n ?_ | refine block_r ?_ | refine block_x rfl ?_ | fail) | (show RetQ _ _ _ _ _ _; first | refine ret_leaf (.inl rfl) rfl rfl ?_ | fail) | (show DRun _ _ _ _ _ _ _ _; first | refine d_nil (by kernel_rfl) ?_ | refine d_e envOk rfl rfl rfl (step3_plain rfl rfl) ?_ | (show DRun _ _ _ _ (Oper.mk _ (Op.indexAddr _ _ _) _ _ _ (_) :: _) _ _ _; first | refine d_e envOk rfl rfl rfl (step3_idx rfl rfl rfl rfl rfl (by first | omega | ((try simp only [decide_eq_true_eq, decide_eq_false_iff_not, Bool.not_eq_true', Bool.not_true, Bool.not_false, List.length_map, List.length_set, bne_iff_ne, ne_eq, beq_iff_eq, bne_eq_false_iff_eq, beq_eq_false_iff_ne] at *); omega)) (at_map (by first | omega | ((try simp only [decide_eq_true_eq, decide_eq_false_iff_not, Bool.not_eq_true', Bool.not_true, Bool.not_false, List.length_map, List.length_set, bne_iff_ne, ne_eq, beq_iff_eq, bne_eq_false_iff_eq, beq_eq_false_iff_ne] at *); omega)))) ?_ | fail) | refine d_e envOk rfl rfl rfl rfl ?_ | fail) | (show Exists _; first | refine Exists.intro (k + 1) ⟨?_, ?_, (by first | exact subL_nil | exact (subL_cons rfl subL_nil) | exact (subL_cons rfl (subL_cons rfl subL_nil)) | exact (subL_cons rfl (subL_cons rfl (subL_cons rfl subL_nil))) | exact (subL_cons rfl (subL_cons rfl (subL_cons rfl (subL_cons rfl subL_nil)))) | exact (subL_cons rfl (subL_cons rfl (subL_cons rfl (subL_cons rfl (subL_cons rfl subL_nil))))) | exact (subL_cons rfl (subL_cons rfl (subL_cons rfl (subL_cons rfl (subL_cons rfl (subL_cons rfl subL_nil)))))) | exact (subL_cons rfl (subL_cons rfl (subL_cons rfl (subL_cons rfl (subL_cons rfl (subL_cons rfl (subL_cons rfl subL_nil))))))) | exact (subL_cons rfl (subL_cons rfl (subL_cons rfl (subL_cons rfl (subL_cons rfl (subL_cons rfl (subL_cons rfl (subL_cons rfl subL_nil))))))))), (subL_cons rfl subL_nil), (subL_cons rfl (subL_cons rfl (subL_cons rfl subL_nil)))⟩ | fail) | fail)
  all_goals (try (((simp_all [sameF, sameGo, eqAttr, encAttr, eqDs, eqD, at_drop, List.drop_eq_nil_of_le]) <;> first | omega | (rw [Bool.eq_iff_iff]; simp; omega) | grind); done))
theorem c124 (a b : List Int) : CallA Tryz.prog 124 [.one (.d (encInts a)), .one (.d (encInts b))] [] (.one (.d (.bool (sameF (fun x y => x == y) a b)))) [] := by
  refine enter tabOk Tryz.func124 rfl (by decide +kernel) rfl fun hok w0 σ0 φ0 M => ?_
  have h1 := hok.1.sl; have h2 := hok.2.1.sl; clear hok; simp only [List.length_map] at h1 h2; replace h1 := h1.1; replace h2 := h2.1
  repeat' (first | (show OkOps _ _ _ _ _ _; first | refine okops_nil ?_ | refine s_plain tabOk rfl rfl rfl rfl rfl ?_ | (show OkOps _ _ _ (Oper.mk _ (Op.binOp .add _ _ _ _) _ _ _ (_) :: _) _ _; first | refine s_e envOk rfl rfl rfl (step3_add rfl rfl rfl rfl (wrap64 (by omega) (by omega))) ?_ | fail) | fail) | (show OkC _ _ _ _ _; first | refine ok_seq ?_ | refine ok_region ?_ | refine ok_block ?_ | refine ok_skip ?_ | refine ok_ret ?_ | refine ok_exit ?_ | refine ok_cond rfl (fun h => ?_) (fun h => ?_) | refine ok_regionD progOk.mo ?_ | refine s_loop 4 rfl [(0, _), (1, _), (12, _)] (subL_cons rfl (subL_cons rfl (subL_cons rfl subL_nil))) (fun (k : Nat) => [(13, .one (.d (.int .i64 k)))]) (fun (k : Nat) => k ≤ a.length ∧ a.length = b.length ∧ sameF (fun x y => x == y) a b = sameGo (fun x y => x == y) (a.drop k) (b.drop k)) (fun (k : Nat) => a.length - k) 0 (subL_cons rfl subL_nil) ?_ (fun k ⟨hk, hq, hs⟩ => ?_) | fail) | (show thenQ _ _ _ _; first | refine then_n ?_ | refine then_r ?_ | refine then_x ?_ | fail) | (show blockQ _ _ _ _; first | refine block_n ?_ | refine block_r ?_ | refine block_x rfl ?_ | fail) | (show RetQ _ _ _ _ _ _; first | refine ret_leaf (.inl rfl) rfl rfl ?_ | fail) | (show DRun _ _ _ _ _ _ _ _; first | refine d_nil (by kernel_rfl) ?_ | refine d_e envOk rfl rfl rfl (step3_plain rfl rfl) ?_ | (show DRun _ _ _ _ (Oper.mk _ (Op.indexAddr _ _ _) _ _ _ (_) :: _) _ _ _; first | refine d_e envOk rfl rfl rfl (step3_idx rfl rfl rfl rfl rfl (by first | omega | ((try simp only [decide_eq_true_eq, decide_eq_false_iff_not, Bool.not_eq_true', Bool.not_true, Bool.not_false, List.length_map, List.length_set, bne_iff_ne, ne_eq, beq_iff_eq, bne_eq_false_iff_eq, beq_eq_false_iff_ne] at *); omega)) (at_map (by first | omega | ((try simp only [decide_eq_true_eq, decide_eq_false_iff_not, Bool.not_eq_true', Bool.not_true, Bool.not_false, List.length_map, List.length_set, bne_iff_ne, ne_eq, beq_iff_eq, bne_eq_false_iff_eq, beq_eq_false_iff_ne] at *); omega)))) ?_ | fail) | fail) | (show Exists _; first | refine Exists.intro (k + 1) ⟨?_, ?_, (by first | exact subL_nil | exact (subL_cons rfl subL_nil) | exact (subL_cons rfl (subL_cons rfl subL_nil)) | exact (subL_cons rfl (subL_cons rfl (subL_cons rfl subL_nil))) | exact (subL_cons rfl (subL_cons rfl (subL_cons rfl (subL_cons rfl subL_nil)))) | exact (subL_cons rfl (subL_cons rfl (subL_cons rfl (subL_cons rfl (subL_cons rfl subL_nil))))) | exact (subL_cons rfl (subL_cons rfl (subL_cons rfl (subL_cons rfl (subL_cons rfl (subL_cons rfl subL_nil)))))) | exact (subL_cons rfl (subL_cons rfl (subL_cons rfl (subL_cons rfl (subL_cons rfl (subL_cons rfl (subL_cons rfl subL_nil))))))) | exact (subL_cons rfl (subL_cons rfl (subL_cons rfl (subL_cons rfl (subL_cons rfl (subL_cons rfl (subL_cons rfl (subL_cons rfl subL_nil))))))))), (subL_cons rfl subL_nil), (subL_cons rfl (subL_cons rfl (subL_cons rfl subL_nil)))⟩ | fail) | fail)
  all_goals (try (((simp_all [sameF, sameGo, at_drop, List.drop_eq_nil_of_le]) <;> first | omega | (rw [Bool.eq_iff_iff]; simp; omega) | grind); done))
theorem c125 (a b : List Val) : CallA Tryz.prog 125 [.one (.d (encVals a)), .one (.d (encVals b))] [] (.one (.d (.bool (sameF eqVal a b)))) [] := by
  refine enter tabOk Tryz.func125 rfl (by decide +kernel) rfl fun hok w0 σ0 φ0 M => ?_
  have h1 := hok.1.sl; have h2 := hok.2.1.sl; clear hok; simp only [List.length_map] at h1 h2; replace h1 := h1.1; replace h2 := h2.1
  repeat' (first | (show OkOps _ _ _ _ _ _; first | refine okops_nil ?_ | refine s_plain tabOk rfl rfl rfl rfl rfl ?_ | (show OkOps _ _ _ (Oper.mk _ (Op.binOp .add _ _ _ _) _ _ _ (_) :: _) _ _; first | refine s_e envOk rfl rfl rfl (step3_add rfl rfl rfl rfl (wrap64 (by omega) (by omega))) ?_ | fail) | fail) | (show OkC _ _ _ _ _; first | refine ok_seq ?_ | refine ok_region ?_ | refine ok_block ?_ | refine ok_skip ?_ | refine ok_ret ?_ | refine ok_exit ?_ | refine ok_cond rfl (fun h => ?_) (fun h => ?_) | refine ok_regionD progOk.mo ?_ | refine s_loop 4 rfl [(0, _), (1, _), (12, _)] (subL_cons rfl (subL_cons rfl (subL_cons rfl subL_nil))) (fun (k : Nat) => [(13, .one (.d (.int .i64 k)))]) (fun (k : Nat) => k ≤ a.length ∧ a.length = b.length ∧ sameF eqVal a b = sameGo eqVal (a.drop k) (b.drop k)) (fun (k : Nat) => a.length - k) 0 (subL_cons rfl subL_nil) ?_ (fun k ⟨hk, hq, hs⟩ => ?_) | fail) | (show thenQ _ _ _ _; first | refine then_n ?_ | refine then_r ?_ | refine then_x ?_ | fail) | (show blockQ _ _ _ _; first | refine block_n ?_ | refine block_r ?_ | refine block_x rfl ?_ | fail) | (show RetQ _ _ _ _ _ _; first | refine ret_leaf (.inl rfl) rfl rfl ?_ | fail) | (show DRun _ _ _ _ _ _ _ _; first | refine d_nil (by kernel_rfl) ?_ | refine d_e envOk rfl rfl rfl (step3_plain rfl rfl) ?_ | (show DRun _ _ _ _ (Oper.mk _ (Op.indexAddr _ _ _) _ _ _ (_) :: _) _ _ _; first | refine d_e envOk rfl rfl rfl (step3_idx rfl rfl rfl rfl rfl (by first | omega | ((try simp only [decide_eq_true_eq, decide_eq_false_iff_not, Bool.not_eq_true', Bool.not_true, Bool.not_false, List.length_map, List.length_set, bne_iff_ne, ne_eq, beq_iff_eq, bne_eq_false_iff_eq, beq_eq_false_iff_ne] at *); omega)) (at_map (by first | omega | ((try simp only [decide_eq_true_eq, decide_eq_false_iff_not, Bool.not_eq_true', Bool.not_true, Bool.not_false, List.length_map, List.length_set, bne_iff_ne, ne_eq, beq_iff_eq, bne_eq_false_iff_eq, beq_eq_false_iff_ne] at *); omega)))) ?_ | fail) | refine d_e envOk rfl rfl rfl rfl ?_ | fail) | (show Exists _; first | refine Exists.intro (k + 1) ⟨?_, ?_, (by first | exact subL_nil | exact (subL_cons rfl subL_nil) | exact (subL_cons rfl (subL_cons rfl subL_nil)) | exact (subL_cons rfl (subL_cons rfl (subL_cons rfl subL_nil))) | exact (subL_cons rfl (subL_cons rfl (subL_cons rfl (subL_cons rfl subL_nil)))) | exact (subL_cons rfl (subL_cons rfl (subL_cons rfl (subL_cons rfl (subL_cons rfl subL_nil))))) | exact (subL_cons rfl (subL_cons rfl (subL_cons rfl (subL_cons rfl (subL_cons rfl (subL_cons rfl subL_nil)))))) | exact (subL_cons rfl (subL_cons rfl (subL_cons rfl (subL_cons rfl (subL_cons rfl (subL_cons rfl (subL_cons rfl subL_nil))))))) | exact (subL_cons rfl (subL_cons rfl (subL_cons rfl (subL_cons rfl (subL_cons rfl (subL_cons rfl (subL_cons rfl (subL_cons rfl subL_nil))))))))), (subL_cons rfl subL_nil), (subL_cons rfl (subL_cons rfl (subL_cons rfl subL_nil)))⟩ | fail) | fail)
  all_goals (try (((simp_all [sameF, sameGo, eqVal, encVal, eqDs, eqD, at_drop, List.drop_eq_nil_of_le]) <;> first | omega | (rw [Bool.eq_iff_iff]; simp; omega) | grind); done))
theorem c36 (a b : List Val) : CallA Tryz.prog 36 [.one (.d (encVals a)), .one (.d (encVals b))] [] (.one (.d (.bool (sameF eqVal a b)))) [] := by
  refine enter tabOk Tryz.func36 rfl (by decide +kernel) rfl fun hok w0 σ0 φ0 M => ?_
  have h1 := hok.1.sl; have h2 := hok.2.1.sl; clear hok; simp only [List.length_map] at h1 h2; replace h1 := h1.1; replace h2 := h2.1
  repeat' (first | (show OkOps _ _ _ _ _ _; first | refine okops_nil ?_ | refine s_plain tabOk rfl rfl rfl rfl rfl ?_ | (show OkOps _ _ _ (Oper.mk _ (Op.binOp .add _ _ _ _) _ _ _ (_) :: _) _ _; first | refine s_e envOk rfl rfl rfl (step3_add rfl rfl rfl rfl (wrap64 (by omega) (by omega))) ?_ | fail) | fail) | (show OkC _ _ _ _ _; first | refine ok_seq ?_ | refine ok_region ?_ | refine ok_block ?_ | refine ok_skip ?_ | refine ok_ret ?_ | refine ok_exit ?_ | refine ok_cond rfl (fun h => ?_) (fun h => ?_) | refine ok_regionD progOk.mo ?_ | refine s_loop 4 rfl [(0, _), (1, _)] (subL_cons rfl (subL_cons rfl subL_nil)) (fun (k : Nat) => [(5, .one (.d (.int .i64 k)))]) (fun (k : Nat) => k ≤ a.length ∧ a.length = b.length ∧ sameF eqVal a b = sameGo eqVal (a.drop k) (b.drop k)) (fun (k : Nat) => a.length - k) 0 (subL_cons rfl subL_nil) ?_ (fun k ⟨hk, hq, hs⟩ => ?_) | fail) | (show thenQ _ _ _ _; first | refine then_n ?_ | refine then_r ?_ | refine then_x ?_ | fail) | (show blockQ _ _ _ _; first | refine block_n ?_ | refine block_r ?_ | refine block_x rfl ?_ | fail) | (show RetQ _ _ _ _ _ _; first | refine ret_leaf (.inl rfl) rfl rfl ?_ | fail) | (show DRun _ _ _ _ _ _ _ _; first | refine d_nil (by kernel_rfl) ?_ | refine d_e envOk rfl rfl rfl (step3_plain rfl rfl) ?_ | (show DRun _ _ _ _ (Oper.mk _ (Op.indexAddr _ _ _) _ _ _ (_) :: _) _ _ _; first | refine d_e envOk rfl rfl rfl (step3_idx rfl rfl rfl rfl rfl (by first | omega | ((try simp only [decide_eq_true_eq, decide_eq_false_iff_not, Bool.not_eq_true', Bool.not_true, Bool.not_false, List.length_map, List.length_set, bne_iff_ne, ne_eq, beq_iff_eq, bne_eq_false_iff_eq, beq_eq_false_iff_ne] at *); omega)) (at_map (by first | omega | ((try simp only [decide_eq_true_eq, decide_eq_false_iff_not, Bool.not_eq_true', Bool.not_true, Bool.not_false, List.length_map, List.length_set, bne_iff_ne, ne_eq, beq_iff_eq, bne_eq_false_iff_eq, beq_eq_false_iff_ne] at *); omega)))) ?_ | fail) | refine d_e envOk rfl rfl rfl rfl ?_ | fail) | (show Exists _; first | refine Exists.intro (k + 1) ⟨?_, ?_, (by first | exact subL_nil | exact (subL_cons rfl subL_nil) | exact (subL_cons rfl (subL_cons rfl subL_nil)) | exact (subL_cons rfl (subL_cons rfl (subL_cons rfl subL_nil))) | exact (subL_cons rfl (subL_cons rfl (subL_cons rfl (subL_cons rfl subL_nil)))) | exact (subL_cons rfl (subL_cons rfl (subL_cons rfl (subL_cons rfl (subL_cons rfl subL_nil))))) | exact (subL_cons rfl (subL_cons rfl (subL_cons rfl (subL_cons rfl (subL_cons rfl (subL_cons rfl subL_nil)))))) | exact (subL_cons rfl (subL_cons rfl (subL_cons rfl (subL_cons rfl (subL_cons rfl (subL_cons rfl (subL_cons rfl subL_nil))))))) | exact (subL_cons rfl (subL_cons rfl (subL_cons rfl (subL_cons rfl (subL_cons rfl (subL_cons rfl (subL_cons rfl (subL_cons rfl subL_nil))))))))), (subL_cons rfl subL_nil), (subL_cons rfl (subL_cons rfl subL_nil))⟩ | fail) | fail)
  all_goals (try (((simp_all [sameF, sameGo, eqVal, encVal, eqDs, eqD, at_drop, List.drop_eq_nil_of_le]) <;> first | omega | (rw [Bool.eq_iff_iff]; simp; omega) | grind); done))
theorem c123 (x y : Cell) : CallA Tryz.prog 123 [.agg [.d (encInts x.at'), .d (encVals x.vals)], .agg [.d (encInts y.at'), .d (encVals y.vals)]] [] (.one (.d (.bool (eqCell x y)))) [] := by
  refine enter tabOk Tryz.func123 rfl (by decide +kernel) rfl fun hok w0 σ0 φ0 M => ?_
  clear hok
  repeat' (first | (show OkOps _ _ _ _ _ _; first | refine okops_nil ?_ | refine s_plain tabOk rfl rfl rfl rfl rfl ?_ | (show OkOps _ _ _ (Oper.mk _ (_) _ _ _ (some _) :: _) _ _; first | refine s_guard rfl rfl (by first | assumption | rfl) ?_ | refine s_out rfl rfl (by first | assumption | rfl) rfl rfl ?_ | refine s_split rfl rfl rfl rfl (fun h => ?_) (fun h => ?_) | fail) | (show OkOps _ _ _ (Oper.mk _ (Op.pick _ _ _) _ _ _ (_) :: _) _ _; first | refine s_e envOk rfl rfl rfl (step3_pickT rfl rfl (by first | rfl | assumption) rfl) ?_ | refine s_e envOk rfl rfl rfl (step3_pickF rfl rfl (by first | rfl | assumption) rfl) ?_ | fail) | (show OkOps _ _ _ (Oper.mk _ (Op.call _) _ _ _ (_) :: _) _ _; first | refine s_callF rfl rfl rfl rfl rfl rfl rfl rfl (c124 _ _) rfl ?_ | refine s_callF rfl rfl rfl rfl rfl rfl rfl rfl (c125 _ _) rfl ?_ | fail) | (show OkOps _ _ _ (Oper.mk _ (Op.box _ _) _ _ _ (_) :: _) _ _; first | refine s_box 0 rfl rfl rfl rfl rfl rfl ?_ | refine s_box 1 rfl rfl rfl rfl rfl rfl ?_ | fail) | fail) | (show OkC _ _ _ _ _; first | refine ok_seq ?_ | refine ok_region ?_ | refine ok_ret ?_ | fail) | (show thenQ _ _ _ _; first | refine then_n ?_ | fail) | (show RetQ _ _ _ _ _ _; first | refine ret_leaf (.inl rfl) rfl rfl ?_ | fail) | fail)
  all_goals (try (((simp_all [eqCell, at_drop, List.drop_eq_nil_of_le]) <;> first | omega | (rw [Bool.eq_iff_iff]; simp; omega) | grind); done))
theorem c122 (a b : List Cell) : CallA Tryz.prog 122 [.one (.d (encCells a)), .one (.d (encCells b)), .one (.d (.fn 123 []))] [] (.one (.d (.bool (sameF eqCell a b)))) [] := by
  refine enter tabOk Tryz.func122 rfl (by decide +kernel) rfl fun hok w0 σ0 φ0 M => ?_
  have h1 := hok.1.sl; have h2 := hok.2.1.sl; clear hok; simp only [List.length_map] at h1 h2; replace h1 := h1.1; replace h2 := h2.1
  repeat' (first | (show OkOps _ _ _ _ _ _; first | refine okops_nil ?_ | refine s_plain tabOk rfl rfl rfl rfl rfl ?_ | (show OkOps _ _ _ (Oper.mk _ (Op.binOp .add _ _ _ _) _ _ _ (_) :: _) _ _; first | refine s_e envOk rfl rfl rfl (step3_add rfl rfl rfl rfl (wrap64 (by omega) (by omega))) ?_ | fail) | (show OkOps _ _ _ (Oper.mk _ (Op.indexAddr _ _ _) _ _ _ (_) :: _) _ _; first | refine s_e envOk rfl rfl rfl (step3_idx rfl rfl rfl rfl rfl (by first | omega | ((try simp only [decide_eq_true_eq, decide_eq_false_iff_not, Bool.not_eq_true', Bool.not_true, Bool.not_false, List.length_map, List.length_set, bne_iff_ne, ne_eq, beq_iff_eq, bne_eq_false_iff_eq, beq_eq_false_iff_ne] at *); omega)) (at_map (by first | omega | ((try simp only [decide_eq_true_eq, decide_eq_false_iff_not, Bool.not_eq_true', Bool.not_true, Bool.not_false, List.length_map, List.length_set, bne_iff_ne, ne_eq, beq_iff_eq, bne_eq_false_iff_eq, beq_eq_false_iff_ne] at *); omega)))) ?_ | fail) | (show OkOps _ _ _ (Oper.mk _ (Op.call _) _ _ _ (_) :: _) _ _; first | refine s_callF rfl rfl rfl rfl rfl rfl rfl rfl (c123 _ _) rfl ?_ | fail) | (show OkOps _ _ _ (Oper.mk _ (Op.alloc _) _ _ _ (_) :: _) _ _; first | refine s_alloc tabOk 0 rfl rfl rfl rfl rfl ?_ | refine s_alloc tabOk 1 rfl rfl rfl rfl rfl ?_ | fail) | refine s_store envOk rfl rfl rfl ?_ | fail) | (show OkC _ _ _ _ _; first | refine ok_seq ?_ | refine ok_region ?_ | refine ok_block ?_ | refine ok_skip ?_ | refine ok_ret ?_ | refine ok_exit ?_ | refine ok_cond rfl (fun h => ?_) (fun h => ?_) | refine s_loop 4 rfl [(1, _), (2, _), (15, _), (16, _)] (subL_cons rfl (subL_cons rfl (subL_cons rfl (subL_cons rfl subL_nil)))) (fun (k : Nat) => [(17, .one (.d (.int .i64 k)))]) (fun (k : Nat) => k ≤ a.length ∧ a.length = b.length ∧ sameF eqCell a b = sameGo eqCell (a.drop k) (b.drop k)) (fun (k : Nat) => a.length - k) 0 (subL_cons rfl subL_nil) ?_ (fun k ⟨hk, hq, hs⟩ => ?_) | fail) | (show thenQ _ _ _ _; first | refine then_n ?_ | refine then_r ?_ | refine then_x ?_ | fail) | (show blockQ _ _ _ _; first | refine block_n ?_ | refine block_r ?_ | refine block_x rfl ?_ | fail) | (show RetQ _ _ _ _ _ _; first | refine ret_leaf (.inl rfl) rfl rfl ?_ | fail) | (show Exists _; first | refine Exists.intro (k + 1) ⟨?_, ?_, (by first | exact subL_nil | exact (subL_cons rfl subL_nil) | exact (subL_cons rfl (subL_cons rfl subL_nil)) | exact (subL_cons rfl (subL_cons rfl (subL_cons rfl subL_nil))) | exact (subL_cons rfl (subL_cons rfl (subL_cons rfl (subL_cons rfl subL_nil)))) | exact (subL_cons rfl (subL_cons rfl (subL_cons rfl (subL_cons rfl (subL_cons rfl subL_nil))))) | exact (subL_cons rfl (subL_cons rfl (subL_cons rfl (subL_cons rfl (subL_cons rfl (subL_cons rfl subL_nil)))))) | exact (subL_cons rfl (subL_cons rfl (subL_cons rfl (subL_cons rfl (subL_cons rfl (subL_cons rfl (subL_cons rfl subL_nil))))))) | exact (subL_cons rfl (subL_cons rfl (subL_cons rfl (subL_cons rfl (subL_cons rfl (subL_cons rfl (subL_cons rfl (subL_cons rfl subL_nil))))))))), (subL_cons rfl subL_nil), (subL_cons rfl (subL_cons rfl (subL_cons rfl (subL_cons rfl subL_nil))))⟩ | fail) | fail)
  all_goals (try (((simp_all [sameF, sameGo, at_drop, List.drop_eq_nil_of_le]) <;> first | omega | (rw [Bool.eq_iff_iff]; simp; omega) | grind); done))
def spSame (a b : Arr) : Bool := chkA a == 0 && (chkA b == 0 && (sameF eqDim a.dims b.dims && (sameF eqAttr a.attrs b.attrs && sameF eqCell a.cells b.cells)))
theorem c32 (a b : Arr) : CallA Tryz.prog 32 [aggA a, aggA b] [] (.one (.d (.bool (spSame a b)))) [] := by
  unfold aggA
  refine enter tabOk Tryz.func32 rfl (by decide +kernel) rfl fun hok w0 σ0 φ0 M => ?_
  clear hok
  repeat' (first | (show OkOps _ _ _ _ _ _; first | refine okops_nil ?_ | refine s_plain tabOk rfl rfl rfl rfl rfl ?_ | (show OkOps _ _ _ (Oper.mk _ (_) _ _ _ (some _) :: _) _ _; first | refine s_guard rfl rfl (by first | assumption | rfl) ?_ | refine s_out rfl rfl (by first | assumption | rfl) rfl rfl ?_ | refine s_split rfl rfl rfl rfl (fun h => ?_) (fun h => ?_) | fail) | (show OkOps _ _ _ (Oper.mk _ (Op.pick _ _ _) _ _ _ (_) :: _) _ _; first | refine s_e envOk rfl rfl rfl (step3_pickT rfl rfl (by first | rfl | assumption) rfl) ?_ | refine s_e envOk rfl rfl rfl (step3_pickF rfl rfl (by first | rfl | assumption) rfl) ?_ | fail) | (show OkOps _ _ _ (Oper.mk _ (Op.call _) _ _ _ (_) :: _) _ _; first | refine s_callF rfl rfl rfl rfl rfl rfl rfl rfl (c59 _ _ _) rfl ?_ | refine s_callF rfl rfl rfl rfl rfl rfl rfl rfl (c120 _ _) rfl ?_ | refine s_callF rfl rfl rfl rfl rfl rfl rfl rfl (c121 _ _) rfl ?_ | refine s_callF rfl rfl rfl rfl rfl rfl rfl rfl (c122 _ _) rfl ?_ | fail) | (show OkOps _ _ _ (Oper.mk _ (Op.box _ _) _ _ _ (_) :: _) _ _; first | refine s_box 0 rfl rfl rfl rfl rfl rfl ?_ | refine s_box 1 rfl rfl rfl rfl rfl rfl ?_ | fail) | fail) | (show OkC _ _ _ _ _; first | refine ok_seq ?_ | refine ok_region ?_ | refine ok_skip ?_ | refine ok_ret ?_ | refine ok_condT rfl ?_ | refine ok_cond rfl (fun h => ?_) (fun h => ?_) | fail) | (show thenQ _ _ _ _; first | refine then_n ?_ | refine then_r ?_ | fail) | (show RetQ _ _ _ _ _ _; first | refine ret_leaf (.inl rfl) rfl rfl ?_ | fail) | fail)
  all_goals (try (((simp_all [spSame, chkA, at_drop, List.drop_eq_nil_of_le]) <;> first | omega | (rw [Bool.eq_iff_iff]; simp; omega) | grind); done))
theorem c98 (ds : List Dim) (at' : List Int) (hl : at'.length = ds.length) : CallA Tryz.prog 98 [.one (.d (encDims ds)), .one (.d (encInts at'))] [] (.one (.d (.bool (withinL ds at')))) [] := by
  refine enter tabOk Tryz.func98 rfl (by decide +kernel) rfl fun hok w0 σ0 φ0 M => ?_
  have h1 := hok.1.sl; have h2 := hok.2.1.sl; clear hok; simp only [List.length_map] at h1 h2; replace h1 := h1.1; replace h2 := h2.1
  repeat' (first | (show OkOps _ _ _ _ _ _; first | refine okops_nil ?_ | refine s_plain tabOk rfl rfl rfl rfl rfl ?_ | (show OkOps _ _ _ (Oper.mk _ (_) _ _ _ (some _) :: _) _ _; first | refine s_guard rfl rfl (by first | assumption | rfl) ?_ | refine s_out rfl rfl (by first | assumption | rfl) rfl rfl ?_ | refine s_split rfl rfl rfl rfl (fun h => ?_) (fun h => ?_) | fail) | (show OkOps _ _ _ (Oper.mk _ (Op.binOp .add _ _ _ _) _ _ _ (_) :: _) _ _; first | refine s_e envOk rfl rfl rfl (step3_add rfl rfl rfl rfl (wrap64 (by omega) (by omega))) ?_ | fail) | (show OkOps _ _ _ (Oper.mk _ (Op.pick _ _ _) _ _ _ (_) :: _) _ _; first | refine s_e envOk rfl rfl rfl (step3_pickT rfl rfl (by first | rfl | assumption) rfl) ?_ | refine s_e envOk rfl rfl rfl (step3_pickF rfl rfl (by first | rfl | assumption) rfl) ?_ | fail) | (show OkOps _ _ _ (Oper.mk _ (Op.indexAddr _ _ _) _ _ _ (_) :: _) _ _; first | refine s_e envOk rfl rfl rfl (step3_idx rfl rfl rfl rfl rfl (by first | omega | ((try simp only [decide_eq_true_eq, decide_eq_false_iff_not, Bool.not_eq_true', Bool.not_true, Bool.not_false, List.length_map, List.length_set, bne_iff_ne, ne_eq, beq_iff_eq, bne_eq_false_iff_eq, beq_eq_false_iff_ne] at *); omega)) (at_map (by first | omega | ((try simp only [decide_eq_true_eq, decide_eq_false_iff_not, Bool.not_eq_true', Bool.not_true, Bool.not_false, List.length_map, List.length_set, bne_iff_ne, ne_eq, beq_iff_eq, bne_eq_false_iff_eq, beq_eq_false_iff_ne] at *); omega)))) ?_ | fail) | fail) | (show OkC _ _ _ _ _; first | refine ok_seq ?_ | refine ok_region ?_ | refine ok_block ?_ | refine ok_skip ?_ | refine ok_ret ?_ | refine ok_exit ?_ | refine ok_condT rfl ?_ | refine ok_cond rfl (fun h => ?_) (fun h => ?_) | refine s_loop 2 rfl [(0, _), (7, _), (8, _)] (subL_cons rfl (subL_cons rfl (subL_cons rfl subL_nil))) (fun (k : Nat) => [(9, .one (.d (.int .i64 k)))]) (fun (k : Nat) => k ≤ at'.length ∧ at'.length = ds.length ∧ withinL ds at' = withinL (ds.drop k) (at'.drop k)) (fun (k : Nat) => ds.length - k) 0 (subL_cons rfl subL_nil) ?_ (fun k ⟨hk, hq, hs⟩ => ?_) | fail) | (show thenQ _ _ _ _; first | refine then_n ?_ | refine then_r ?_ | refine then_x ?_ | fail) | (show blockQ _ _ _ _; first | refine block_n ?_ | refine block_r ?_ | refine block_x rfl ?_ | fail) | (show RetQ _ _ _ _ _ _; first | refine ret_leaf (.inl rfl) rfl rfl ?_ | fail) | (show Exists _; first | refine Exists.intro (k + 1) ⟨?_, ?_, (by first | exact subL_nil | exact (subL_cons rfl subL_nil) | exact (subL_cons rfl (subL_cons rfl subL_nil)) | exact (subL_cons rfl (subL_cons rfl (subL_cons rfl subL_nil))) | exact (subL_cons rfl (subL_cons rfl (subL_cons rfl (subL_cons rfl subL_nil)))) | exact (subL_cons rfl (subL_cons rfl (subL_cons rfl (subL_cons rfl (subL_cons rfl subL_nil))))) | exact (subL_cons rfl (subL_cons rfl (subL_cons rfl (subL_cons rfl (subL_cons rfl (subL_cons rfl subL_nil)))))) | exact (subL_cons rfl (subL_cons rfl (subL_cons rfl (subL_cons rfl (subL_cons rfl (subL_cons rfl (subL_cons rfl subL_nil))))))) | exact (subL_cons rfl (subL_cons rfl (subL_cons rfl (subL_cons rfl (subL_cons rfl (subL_cons rfl (subL_cons rfl (subL_cons rfl subL_nil))))))))), (subL_cons rfl subL_nil), (subL_cons rfl (subL_cons rfl (subL_cons rfl subL_nil)))⟩ | fail) | fail)
  all_goals (try (((simp_all [withinL, lastF, at_drop, List.drop_eq_nil_of_le]) <;> first | omega | (rw [Bool.eq_iff_iff]; simp; omega) | grind); done))
end Go.Proofs.YtpejdgkaapnekaaGreat
namespace Go.Proofs.YtpejdgkaapnekaaGreat
open Go Go.Abs
attribute [local irreducible] OkOps OkC DRun thenQ blockQ RetQ
set_option maxRecDepth 10000
theorem c181e (id n : Nat) (cs : List Cell) (rows : List (List D)) (hr : rows = cs.map encCell) (hn : n = cs.length) (hd : cs.Pairwise diffC) :
    CallA Tryz.prog 181 [.one (.own id n), .one (.d (.fn 182 []))] [(id, .row 2 48 rows)] (.tup []) [(id, .row 2 48 ((sortF cs).map encCell))] := by
  subst hr; subst hn
  exact c181 id cs (sortF cs) (sort_uniq hd)
theorem s_sort {w0 : World} {σ0 : Sig} {φ0 : Pl} {M : Nat → Prop} {n : Nat} {rd : Option Nat} {mk : List Deferred} {ops : Array Oper} {o : Oper} {rest : List Oper} {fr : List (Nat × AV)} {sto : Sto} {K : St → Prop} {d m : Nat} {fop x y : Operand} {ats : Array TypeId} {rows : List (List D)} (id : Nat) (cs : List Cell)
    (ho : o.op = .call { callee := .value fop, args := ⟨[x, y]⟩, argTypes := ats }) (hg : o.guard = none) (hdst : o.dst = some d) (hdn : Nat.blt d n = true) (hf : ev ⟨fr, sto⟩ fop = some (.one (.d (.fn 181 [])))) (hx : ev ⟨fr, sto⟩ x = some (.one (.own id m))) (hy : ev ⟨fr, sto⟩ y = some (.one (.d (.fn 182 []))))
    (hl : Abs.look sto id = some (.row 2 48 rows)) (hr : rows = cs.map encCell) (hn : m = cs.length) (hd : cs.Pairwise diffC) (hfr : freshRB 16 ⟨fr, sto⟩ = true)
    (h : OkOps Tryz.prog ⟨w0, σ0, φ0, M, n, rd, mk⟩ ops rest ⟨(d, .tup []) :: fr, setS id (.row 2 48 ((sortF cs).map encCell)) (del id sto)⟩ K) : OkOps Tryz.prog ⟨w0, σ0, φ0, M, n, rd, mk⟩ ops (o :: rest) ⟨fr, sto⟩ K := by
  refine s_callM 16 [(1000000, id)] (rav' := .tup []) (sto' := setS id (.row 2 48 ((sortF cs).map encCell)) (del id sto)) (c181e 1000000 m cs rows hr hn hd) ho hg hdst hdn hf ?_ ⟨⟨id, rfl, hl⟩, trivial⟩ ⟨fun i e h1 h2 => ?_, trivial⟩ rfl hfr rfl rfl h
  · show evL ⟨fr, sto⟩ [x, y] = _
    simp only [evL, hx, hy]
    rfl
  · have e1 : some id = some i := h1
    cases e1
    rw [hl] at h2
    cases h2
    refine ⟨rfl, rfl, ?_⟩
    rw [hr, List.length_map, List.length_map, sortF_length]
    exact Nat.le_refl _
theorem row_next {α β : Type} [Inhabited α] (f : α → β) (l : List α) {k : Nat} (h : k < l.length) : ((l.take k).map f).take k ++ [f (at_ l k)] = (l.take (k + 1)).map f := by
  rw [List.take_succ_eq_append_getElem h, List.map_append, List.take_of_length_le (by simp; omega)]
  simp [at_, h]
def arrE : Option Arr × Int → AV
  | (none, e) => .tup [(true, [.d .nil, .d .nil, .d .nil]), (false, [.d (.int .i64 e)])]
  | (some a, e) => .tup [(true, [.d (encDims a.dims), .d (encAttrs a.attrs), .d (encCells a.cells)]), (false, [.d (.int .i64 e)])]
theorem take_all {α β : Type} (f : α → β) {l : List α} {k : Nat} (h : l.length ≤ k) : (l.take k).map f = l.map f := by rw [List.take_of_length_le h]
theorem c99 (ds : List Dim) (ats : List Attr) (cs : List Cell) (hd : cs.Pairwise diffC) : CallA Tryz.prog 99 [.one (.d (encDims ds)), .one (.d (encAttrs ats)), .one (.d (encCells cs))] [] (arrE (resF ds ats cs)) [] := by
  refine enter tabOk Tryz.func99 rfl (by decide +kernel) rfl fun hok w0 σ0 φ0 M => ?_
  have h1 := hok.2.2.1.sl; clear hok; simp only [List.length_map] at h1; replace h1 := h1.1
  by_cases h4 : 4096 < (cs.length : Int)
  · have hb : decide (4096 < ((cs.map encCell).length : Int)) = true := by simpa using h4
    simp only [resF, if_pos h4, arrE]
    repeat' (first | (show OkOps _ _ _ _ _ _; first | refine okops_nil ?_ | refine s_plain tabOk rfl rfl rfl rfl rfl ?_ | (show OkOps _ _ _ (Oper.mk _ (Op.alloc _) _ _ _ (_) :: _) _ _; first | refine s_alloc tabOk 0 rfl rfl rfl rfl rfl ?_ | fail) | refine s_store envOk rfl rfl rfl ?_ | fail) | (show OkC _ _ _ _ _; first | refine ok_seq ?_ | refine ok_region ?_ | refine ok_ret ?_ | refine ok_condKT rfl (by assumption) ?_ | fail) | (show thenQ _ _ _ _; first | refine then_n ?_ | refine then_r ?_ | fail) | (show RetQ _ _ _ _ _ _; first | refine ret_leaf (.inl rfl) rfl rfl ?_ | fail) | fail)
    all_goals rfl
  · have hb : decide (4096 < ((cs.map encCell).length : Int)) = false := by simpa using h4
    simp only [resF, if_neg h4, arrE]
    repeat' (first | (show OkOps _ _ _ _ _ _; first | (show OkOps _ _ _ (Oper.mk _ (Op.call _) _ _ _ (_) :: _) _ _; first | refine s_sort 10 cs rfl rfl rfl rfl rfl rfl rfl rfl (hr.trans (take_all _ (by first | omega | (simp only [decide_eq_true_eq, decide_eq_false_iff_not, List.length_map] at *; omega)))) (by first | omega | (simp only [decide_eq_true_eq, decide_eq_false_iff_not, List.length_map] at *; omega)) hd rfl ?_ | fail) | refine okops_nil ?_ | refine s_plain tabOk rfl rfl rfl rfl rfl ?_ | (show OkOps _ _ _ (Oper.mk _ (Op.binOp .add _ _ _ _) _ _ _ (_) :: _) _ _; first | refine s_e envOk rfl rfl rfl (step3_add rfl rfl rfl rfl (wrap64 (by omega) (by omega))) ?_ | fail) | (show OkOps _ _ _ (Oper.mk _ (Op.indexAddr _ _ _) _ _ _ (_) :: _) _ _; first | refine s_e envOk rfl rfl rfl (step3_idx rfl rfl rfl rfl rfl (by first | omega | ((try simp only [decide_eq_true_eq, decide_eq_false_iff_not, Bool.not_eq_true', Bool.not_true, Bool.not_false, List.length_map, List.length_set, bne_iff_ne, ne_eq, beq_iff_eq, bne_eq_false_iff_eq, beq_eq_false_iff_ne] at *); omega)) (at_map (by first | omega | ((try simp only [decide_eq_true_eq, decide_eq_false_iff_not, Bool.not_eq_true', Bool.not_true, Bool.not_false, List.length_map, List.length_set, bne_iff_ne, ne_eq, beq_iff_eq, bne_eq_false_iff_eq, beq_eq_false_iff_ne] at *); omega)))) ?_ | fail) | (show OkOps _ _ _ (Oper.mk _ (Op.call _) _ _ _ (_) :: _) _ _; first | refine s_callD 16 rfl rfl rfl rfl rfl rfl rfl rfl (c97 _) rfl rfl rfl ?_ | refine s_callD 16 rfl rfl rfl rfl rfl rfl rfl rfl (c145 _) rfl rfl rfl ?_ | fail) | (show OkOps _ _ _ (Oper.mk _ (Op.alloc _) _ _ _ (_) :: _) _ _; first | refine s_alloc tabOk 0 rfl rfl rfl rfl rfl ?_ | refine s_alloc tabOk 1 rfl rfl rfl rfl rfl ?_ | refine s_alloc tabOk 2 rfl rfl rfl rfl rfl ?_ | fail) | refine s_store envOk rfl rfl rfl ?_ | fail) | (show OkC _ _ _ _ _; first | refine okc_imp (imp_sealL (dl := [10]) rfl) (ok_ret ?_) | refine ok_seq ?_ | refine ok_region ?_ | refine ok_block ?_ | refine ok_skip ?_ | refine ok_exit ?_ | refine ok_condKF rfl (by assumption) ?_ | refine ok_cond rfl (fun h => ?_) (fun h => ?_) | refine ok_regionD progOk.mo ?_ | refine s_loopN 5 rfl (imp_adoptJ 1 2 10 (k := 2) (b := 48) rfl rfl (by kernel_rfl)) [(6, _), (8, _), (20, _), (21, _)] (subL_cons rfl (subL_cons rfl (subL_cons rfl (subL_cons rfl subL_nil)))) (fun (bN : Bool × Bool) (p : Nat × List (List D)) => [(22, .one (.d (.int .i64 (p.1 : Int))))]) (fun (bN : Bool × Bool) (p : Nat × List (List D)) => [(1, .box [.d (encDims ds), .d (encAttrs ats), .own (nmA bN) p.1]), ((nmA bN), .row 2 48 p.2), (0, .box [.d .nil, .d .nil, .d .nil])]) (fun (p : Nat × List (List D)) => p.1 ≤ cs.length ∧ p.2 = (cs.take p.1).map encCell) (fun (p : Nat × List (List D)) => cs.length - p.1) (0, []) (subL_cons rfl subL_nil) (by first | exact subL_nil | exact (subL_cons rfl subL_nil) | exact (subL_cons rfl (subL_cons rfl subL_nil)) | exact (subL_cons rfl (subL_cons rfl (subL_cons rfl subL_nil))) | exact (subL_cons rfl (subL_cons rfl (subL_cons rfl (subL_cons rfl subL_nil)))) | exact (subL_cons rfl (subL_cons rfl (subL_cons rfl (subL_cons rfl (subL_cons rfl subL_nil))))) | exact (subL_cons rfl (subL_cons rfl (subL_cons rfl (subL_cons rfl (subL_cons rfl (subL_cons rfl subL_nil)))))) | exact (subL_cons rfl (subL_cons rfl (subL_cons rfl (subL_cons rfl (subL_cons rfl (subL_cons rfl (subL_cons rfl subL_nil))))))) | exact (subL_cons rfl (subL_cons rfl (subL_cons rfl (subL_cons rfl (subL_cons rfl (subL_cons rfl (subL_cons rfl (subL_cons rfl subL_nil))))))))) (fun b y => by obtain ⟨b1, b2⟩ := b; cases b1 <;> cases b2 <;> first | exact Imp.refl _ | exact imp_ren qN (by kernel_rfl)) ?_ (fun p ⟨hk, hr⟩ => ?_) | fail) | (show thenQ _ _ _ _; first | refine then_n ?_ | refine then_x ?_ | fail) | (show blockQ _ _ _ _; first | refine block_n ?_ | refine block_x rfl ?_ | fail) | (show RetQ _ _ _ _ _ _; first | refine ret_leaf (.inl rfl) rfl rfl ?_ | fail) | (show DRun _ _ _ _ _ _ _ _; first | (show DRun _ _ _ _ (Oper.mk _ (Op.call _) _ _ _ (_) :: _) _ _ _; first | refine d_new envOk 11 rfl rfl rfl (step3_appendB (i := 10) rfl rfl rfl rfl rfl rfl rfl rfl (by first | omega | ((try simp only [decide_eq_true_eq, decide_eq_false_iff_not, List.length_map, List.length_cons, List.length_nil, List.length_append, Int.toNat_natCast] at *); omega)) (by first | exact Nat.le_of_ble_eq_true rfl | omega | ((try simp only [decide_eq_true_eq, decide_eq_false_iff_not, List.length_map, List.length_cons, List.length_nil, List.length_append, Int.toNat_natCast] at *); omega)) (Nat.le_of_ble_eq_true rfl)) rfl rfl ?_ | fail) | refine d_nil (by kernel_rfl) ?_ | refine d_e envOk rfl rfl rfl (step3_plain rfl rfl) ?_ | (show DRun _ _ _ _ (Oper.mk _ (Op.call _) _ _ _ (_) :: _) _ _ _; first | refine d_callD 16 rfl rfl rfl rfl rfl rfl rfl rfl (c129 _) rfl rfl ?_ | refine d_callD 16 rfl rfl rfl rfl rfl rfl rfl rfl (c144 _) rfl rfl ?_ | fail) | refine d_new envOk 3 rfl rfl rfl rfl rfl rfl ?_ | refine d_store envOk rfl rfl rfl ?_ | fail) | (show Exists _; first | refine Exists.intro ((p.1 + 1, p.2.take p.1 ++ [encCell (at_ cs p.1)])) (Exists.intro (true, false) ⟨?_, ?_, (by first | exact subL_nil | exact (subL_cons rfl subL_nil) | exact (subL_cons rfl (subL_cons rfl subL_nil)) | exact (subL_cons rfl (subL_cons rfl (subL_cons rfl subL_nil))) | exact (subL_cons rfl (subL_cons rfl (subL_cons rfl (subL_cons rfl subL_nil)))) | exact (subL_cons rfl (subL_cons rfl (subL_cons rfl (subL_cons rfl (subL_cons rfl subL_nil))))) | exact (subL_cons rfl (subL_cons rfl (subL_cons rfl (subL_cons rfl (subL_cons rfl (subL_cons rfl subL_nil)))))) | exact (subL_cons rfl (subL_cons rfl (subL_cons rfl (subL_cons rfl (subL_cons rfl (subL_cons rfl (subL_cons rfl subL_nil))))))) | exact (subL_cons rfl (subL_cons rfl (subL_cons rfl (subL_cons rfl (subL_cons rfl (subL_cons rfl (subL_cons rfl (subL_cons rfl subL_nil))))))))), (subL_cons rfl subL_nil), (subL_cons rfl (subL_cons rfl (subL_cons rfl (subL_cons rfl subL_nil))))⟩) | fail) | fail)
    · exact ⟨Nat.zero_le _, rfl⟩
    · have hlt : p.1 < cs.length := by simpa using h
      exact ⟨hlt, by show p.2.take p.1 ++ _ = _; rw [hr]; exact row_next _ _ hlt⟩
    · have hlt : p.1 < cs.length := by simpa using h
      show cs.length - (p.1 + 1) < cs.length - p.1
      omega
    · have hge : cs.length ≤ p.1 := by simpa using h
      show AV.tup [(true, [.d (encDims ds), .d (encAttrs ats), .d (.sl 2 48 (((sortF cs).map encCell).take p.1))]), _] = _
      rw [List.take_of_length_le (by simp only [List.length_map, sortF_length]; exact hge)]
      rfl
theorem c97o (l : List Dim) (hne : 0 < l.length) : CallA Tryz.prog 97 [.one (.d (encDims l))] [] (.one (.own 0 l.length)) [(0, .row 3 32 (l.map encDim))] := by
  refine enter tabOk Tryz.func97 rfl (by decide +kernel) rfl fun hok w0 σ0 φ0 M => ?_
  have h1 := hok.1.sl; clear hok; simp only [List.length_map] at h1
  repeat' (first | (show OkOps _ _ _ _ _ _; first | (show OkOps _ _ _ (Oper.mk _ (Op.binOp .eql _ _ _ _) _ _ _ (_) :: _) _ _; first | refine okops_isNilS tabOk rfl rfl rfl rfl rfl rfl (fun r hr => ?_) | fail) | (show OkOps _ _ _ (Oper.mk _ (Op.call _) _ _ _ (_) :: _) _ _; first | refine okops_append tabOk rfl rfl rfl rfl rfl (id := 0) rfl rfl rfl rfl rfl rfl rfl (by simp only [List.length_map, Nat.zero_add]; omega) (by simp only [List.length_map, Nat.zero_add]; omega) ?_ | fail) | refine okops_nil ?_ | refine s_plain tabOk rfl rfl rfl rfl rfl ?_ | refine s_new envOk 0 rfl rfl rfl rfl rfl rfl ?_ | fail) | (show OkC _ _ _ _ _; first | refine ok_seq ?_ | refine ok_region ?_ | refine ok_skip ?_ | refine ok_ret ?_ | refine ok_cond rfl (fun h => ?_) (fun h => ?_) | fail) | (show thenQ _ _ _ _; first | refine then_n ?_ | refine then_r ?_ | fail) | (show RetQ _ _ _ _ _ _; first | refine ret_leafS (.inl rfl) rfl rfl ?_ (by first | exact (subL_cons rfl subL_nil) | exact (subL_cons rfl (subL_cons rfl subL_nil))) | fail) | fail)
  · have e := hr (by simpa using h)
    simp only [List.map_eq_nil_iff] at e
    subst e; simp at hne
  · simp
theorem c98e (ds : List Dim) (xs : List (List D)) (at' : List Int) (hx : xs = ds.map encDim) (hl : at'.length = ds.length) : CallA Tryz.prog 98 [.one (.d (.sl 3 32 xs)), .one (.d (encInts at'))] [] (.one (.d (.bool (withinL ds at')))) [] := by
  subst hx; exact c98 ds at' hl
theorem c99e (ds : List Dim) (ats : List Attr) (cs : List Cell) (xs ys : List (List D)) (hd : cs.Pairwise diffC) (hx : xs = ds.map encDim) (hy : ys = cs.map encCell) : CallA Tryz.prog 99 [.one (.d (.sl 3 32 xs)), .one (.d (encAttrs ats)), .one (.d (.sl 2 48 ys))] [] (arrE (resF ds ats cs)) [] := by
  subst hx; subst hy; exact c99 ds ats cs hd
theorem c99k (ds : List Dim) (ats : List Attr) (cs : List Cell) (xs ys : List (List D)) (hd : cs.Pairwise diffC) (hf : cs.length ≤ 4096) (hx : xs = ds.map encDim) (hy : ys = cs.map encCell) : CallA Tryz.prog 99 [.one (.d (.sl 3 32 xs)), .one (.d (encAttrs ats)), .one (.d (.sl 2 48 ys))] [] (.tup [(true, [.d (encDims ds), .d (encAttrs ats), .d (encCells (sortF cs))]), (false, [.d (.int .i64 0)])]) [] := by
  have h := c99e ds ats cs xs ys hd hx hy
  unfold resF at h
  rw [if_neg (by omega)] at h
  exact h
end Go.Proofs.YtpejdgkaapnekaaGreat
namespace Go.Abs
open Go
variable {P : Program} {V : Env} {st : St} {o : Oper}
theorem step3_idxOwn {t e : TypeId} {x y : Operand} {id m k k' b b' : Nat} {ik : IntKind} {i : Int} {xs : List (List D)} {z : List D} (ho : o.op = .indexAddr t x y) (ht : sliceTy V.T t = some (e, k', b', z)) (hx : ev st x = some (.one (.own id m)))
    (hl : look st.sto id = some (.row k b xs)) (hk : Nat.beq k k' = true) (hy : ev st y = some (.one (.d (.int ik i)))) (h0 : 0 ≤ i) (hm : i < (m : Int)) : step3 V st o 0 = some ⟨.one (.rref id i.toNat 0), [], []⟩ := by
  simp only [step3, stepE, valF, ho, otherE, idxV, hx, hy, ht, hl, hk, h0, hm, decide_true, Bool.and_self, cond_true]
theorem step3_loadRow {t : TypeId} {x : Operand} {id j off k b s : Nat} {g : Bool} {xs : List (List D)} {el : List D} {v : AV} (ho : o.op = .load t x) (hx : ev st x = some (.one (.rref id j off))) (hT : tySz V.T t = some (g, s))
    (hl : look st.sto id = some (.row k b xs)) (hj : xs[j]? = some el) (hv : takeAs g s ((el.drop off).map .d) = some v) : step3 V st o 0 = some ⟨v, [], []⟩ := by
  simp only [step3, stepE, valF, ho, otherE, hx, hT, hl, loadF, loadRV, nth_eq, hj, hv]
theorem step3_storeRow {t : TypeId} {x y : Operand} {id j off k b s : Nat} {g : Bool} {xs : List (List D)} {el el' ds : List D} {cs : List AC} {v : AV} (ho : o.op = .store t x y) (hd : o.dst = none) (hx : ev st x = some (.one (.rref id j off))) (hy : ev st y = some v) (hT : tySz V.T t = some (g, s))
    (hl : look st.sto id = some (.row k b xs)) (hc : cellsOf v = some cs) (hs : Nat.beq cs.length s = true) (ha : allD cs = some ds) (hj : xs[j]? = some el) (hsp : splice off ds el = some el') : step3 V st o 0 = some ⟨.any, [(id, some (.row k b (xs.set j el')))], []⟩ := by
  simp only [step3, stepE, valF, ho, otherE, hx, hy, hT, hl, hc, hs, ha, storeV, nth_eq, hj, hsp, cond_true]
  simp [hd, hasD]
theorem set_get {xs : List (List D)} {j : Nat} {el : List D} (h : j < xs.length) : (xs.set j el)[j]? = some el := by simp [h]
theorem row_get {α : Type} [Inhabited α] {f : α → List D} {l : List α} {xs : List (List D)} {i : Nat} (h : xs = l.map f) (hi : i < xs.length) : xs[i]? = some (f (at_ l i)) := by
  subst h; exact at_map (by simpa using hi)
theorem step3_makeSlice {t e : TypeId} {x y : Operand} {id n k b d : Nat} {i j : Int} {z : List D} (ho : o.op = .makeSlice t x y) (hd : o.dst = some d) (ht : sliceTy V.T t = some (e, k, b, z)) (hx : ev st x = some (.one (.d (.int .i64 i)))) (hy : ev st y = some (.one (.d (.int .i64 j)))) (hi : i = (n : Int)) (hj : j = (n : Int)) (hn : n ≤ 1000) (hb : b ≤ 100) :
    step3 V st o id = some ⟨.one (.own id n), [(id, some (.row k b (List.replicate n z)))], [id]⟩ := by
  subst hi; subst hj
  have h1 : Nat.ble (n * b) 1000000 = true := Nat.ble_eq.mpr (Nat.le_trans (Nat.mul_le_mul hn hb) (by omega))
  have h2 : Nat.ble n 1000000 = true := Nat.ble_eq.mpr (by omega)
  have h3 : (0 : Int) ≤ (n : Int) := Int.natCast_nonneg n
  simp only [step3, stepE, valF, ho, otherE, newF, hx, hy, ht, hd, hasD, h3, decide_true, Int.toNat_natCast, h1, h2, Bool.and_self, cond_true]
end Go.Abs
namespace Go.Proofs.YtpejdgkaapnekaaGreat
open Go Go.Abs
attribute [local irreducible] OkOps OkC DRun thenQ blockQ RetQ
set_option maxRecDepth 10000
def mixD (ds : List Dim) (lo hi : List Int) (k : Nat) : List Dim := (List.range ds.length).map fun i => if i < k then cutD (at_ ds i) (at_ lo i, at_ hi i) else at_ ds i
section
variable {ds : List Dim} {lo hi : List Int} {k : Nat}
theorem mix_len : (mixD ds lo hi k).length = ds.length := by simp [mixD]
theorem at_range {n i : Nat} (h : i < n) : at_ (List.range n) i = i := by simp [at_, List.getD_eq_getElem?_getD, h]
theorem mix_at {i : Nat} (h : i < ds.length) : at_ (mixD ds lo hi k) i = if i < k then cutD (at_ ds i) (at_ lo i, at_ hi i) else at_ ds i := by
  unfold mixD; rw [at_mapN (by simpa using h), at_range h]
theorem mix_zero : mixD ds lo hi 0 = ds := at_ext mix_len fun i hi => by rw [mix_len] at hi; rw [mix_at hi, if_neg (by omega)]
theorem cut_at (hl : lo.length = ds.length) (hh : hi.length = ds.length) {i : Nat} (h : i < ds.length) : at_ (cutDs ds lo hi) i = cutD (at_ ds i) (at_ lo i, at_ hi i) := by
  unfold cutDs
  rw [at_zip h (by simp; omega), List.zip, at_zip (by omega) (by omega)]
theorem cut_len (hl : lo.length = ds.length) (hh : hi.length = ds.length) : (cutDs ds lo hi).length = ds.length := by simp [cutDs]; omega
theorem mix_all (hl : lo.length = ds.length) (hh : hi.length = ds.length) : mixD ds lo hi ds.length = cutDs ds lo hi := at_ext (by rw [mix_len, cut_len hl hh]) fun i hi => by
  rw [mix_len] at hi
  rw [mix_at hi, if_pos hi, cut_at hl hh hi]
theorem mix_next (h : k < ds.length) (x : List D) : (((mixD ds lo hi k).map encDim).set k x).set k (encDim (cutD (at_ ds k) (at_ lo k, at_ hi k))) = (mixD ds lo hi (k + 1)).map encDim := by
  rw [List.set_set, ← List.map_set]
  congr 1
  refine at_ext (by simp [mix_len]) fun i hi => ?_
  have hi' : i < ds.length := by simpa [mix_len] using hi
  rw [at_set (by rw [mix_len]; exact hi'), mix_at hi', mix_at hi']
  by_cases e : i = k
  · subst e; simp
  · by_cases h1 : i < k
    · rw [if_neg e, if_pos h1, if_pos (by omega)]
    · rw [if_neg e, if_neg h1, if_neg (by omega)]
end
theorem sub_bad {a : Arr} {lo hi : List Int} {k : Nat} (hc : chkA a = 0) (hl : lo.length = a.dims.length) (hh : hi.length = a.dims.length) (hk : k < a.dims.length) (hb : lastF (min (at_ a.dims k).hi (at_ hi k)) < max (at_ a.dims k).lo (at_ lo k)) : subF a lo hi = (none, 3) := by
  unfold subF
  rw [if_neg (by simpa [chkA] using hc), if_neg (by omega), if_pos]
  simp only [Bool.not_eq_true', List.all_eq_false]
  have hkc : k < (cutDs a.dims lo hi).length := by rw [cut_len hl hh]; exact hk
  refine ⟨_, at_mem hkc, ?_⟩
  rw [cut_at hl hh hk]
  show ¬ (!decide (lastF (min (at_ a.dims k).hi (at_ hi k)) < max (at_ a.dims k).lo (at_ lo k))) = true
  simp only [hb, decide_true, Bool.not_true]
  simp
theorem sub_good {a : Arr} {lo hi : List Int} (hc : chkA a = 0) (hl : lo.length = a.dims.length) (hh : hi.length = a.dims.length) (ho : ∀ i, i < a.dims.length → okD (cutD (at_ a.dims i) (at_ lo i, at_ hi i)) = true) :
    subF a lo hi = (some ⟨cutDs a.dims lo hi, a.attrs, sortF (a.cells.filter fun c => withinL (cutDs a.dims lo hi) c.at')⟩, 0) := by
  have hA := okA hc
  unfold subF
  rw [if_neg (by simpa [chkA] using hc), if_neg (by omega), if_neg]
  · unfold resF
    rw [if_neg]
    have := List.length_filter_le (fun c : Cell => withinL (cutDs a.dims lo hi) c.at') a.cells
    have := hA.few
    omega
  · simp only [Bool.not_eq_true', Bool.not_eq_false, List.all_eq_true]
    intro d hd
    obtain ⟨i, hi', rfl⟩ := at_ofmem hd
    rw [cut_len hl hh] at hi'
    rw [cut_at hl hh hi']
    exact ho i hi'
theorem filter_next {p : Cell → Bool} {l : List Cell} {k : Nat} (h : k < l.length) : (l.take (k + 1)).filter p = (l.take k).filter p ++ if p (at_ l k) then [at_ l k] else [] := by
  rw [at_take h, List.filter_append]
  congr 1
  by_cases hp : p (at_ l k) = true
  · simp [hp]
  · simp [hp]
theorem c23 (a : Arr) (lo hi : List Int) : CallA Tryz.prog 23 [aggA a, .one (.d (encInts lo)), .one (.d (encInts hi))] [] (arrE (subF a lo hi)) [] := by
  unfold aggA
  refine enter tabOk Tryz.func23 rfl (by decide +kernel) rfl fun hok w0 σ0 φ0 M => ?_
  have h1 := hok.2.1.sl; have h2 := hok.2.2.1.sl; clear hok; simp only [List.length_map] at h1 h2; replace h1 := h1.1; replace h2 := h2.1
  by_cases hc : chkA a = 0
  · have hv : (!validF [a]) = false := by simp [validF, hc]
    have hA := okA hc
    have hne : 0 < a.dims.length := by have := hA.dims.1; omega
    by_cases hl : lo.length = a.dims.length
    · have hb1 : (((lo.map encInt).length : Int) != ((a.dims.map encDim).length : Int)) = false := by simp [hl]
      by_cases hh : hi.length = a.dims.length
      · have hb2 : (((hi.map encInt).length : Int) != ((a.dims.map encDim).length : Int)) = false := by simp [hh]
        repeat' (first | (show OkOps _ _ _ _ _ _; first | (show OkOps _ _ _ (Oper.mk _ (Op.call _) _ _ _ (_) :: _) _ _; first | refine s_callFS [2] rfl rfl rfl rfl rfl rfl rfl rfl rfl (c96 [a]) rfl ?_ | fail) | (show OkOps _ _ _ (Oper.mk _ (Op.call _) _ _ _ (_) :: _) _ _; first | refine s_callM 10 [] (rav' := .one (.own 10 a.dims.length)) (c97o a.dims hne) rfl rfl rfl rfl rfl rfl trivial compatL_nil rfl rfl rfl rfl ?_ | fail) | refine okops_nil ?_ | refine s_plain tabOk rfl rfl rfl rfl rfl ?_ | (show OkOps _ _ _ (Oper.mk _ (_) _ _ _ (some _) :: _) _ _; first | refine s_guard rfl rfl (by first | assumption | rfl) ?_ | fail) | (show OkOps _ _ _ (Oper.mk _ (Op.binOp .add _ _ _ _) _ _ _ (_) :: _) _ _; first | refine s_e envOk rfl rfl rfl (step3_add rfl rfl rfl rfl (wrap64 (by omega) (by omega))) ?_ | fail) | (show OkOps _ _ _ (Oper.mk _ (Op.pick _ _ _) _ _ _ (_) :: _) _ _; first | refine s_e envOk rfl rfl rfl (step3_pickF rfl rfl (by first | rfl | assumption) rfl) ?_ | fail) | (show OkOps _ _ _ (Oper.mk _ (Op.box _ _) _ _ _ (_) :: _) _ _; first | refine s_box 0 rfl rfl rfl rfl rfl rfl ?_ | fail) | (show OkOps _ _ _ (Oper.mk _ (Op.alloc _) _ _ _ (_) :: _) _ _; first | refine s_alloc tabOk 1 rfl rfl rfl rfl rfl ?_ | fail) | refine s_store envOk rfl rfl rfl ?_ | refine s_new envOk 2 rfl rfl rfl rfl rfl rfl ?_ | fail) | (show OkC _ _ _ _ _; first | refine ok_seq ?_ | refine ok_region ?_ | refine ok_block ?_ | refine ok_skip ?_ | refine ok_ret ?_ | refine ok_exit ?_ | refine ok_condKF rfl (by assumption) ?_ | refine ok_cond rfl (fun h => ?_) (fun h => ?_) | refine ok_regionD progOk.mo ?_ | refine s_loopM 7 rfl [(1, _), (2, _), (3, _), (6, _), (8, _), (39, _)] (subL_cons rfl (subL_cons rfl (subL_cons rfl (subL_cons rfl (subL_cons rfl (subL_cons rfl subL_nil)))))) (fun (p : Nat × List (List D)) => [(40, .one (.d (.int .i64 (p.1 : Int))))]) (fun (p : Nat × List (List D)) => [(10, .row 3 32 p.2), (0, .box [.d (encDims a.dims), .d (encAttrs a.attrs), .d (encCells a.cells)]), (1, .box [.d .nil, .d .nil, .d .nil])]) (fun (p : Nat × List (List D)) => p.1 ≤ a.dims.length ∧ p.2.length = a.dims.length ∧ p.2 = (mixD a.dims lo hi p.1).map encDim ∧ (∀ i, i < p.1 → okD (cutD (at_ a.dims i) (at_ lo i, at_ hi i)) = true)) (fun (p : Nat × List (List D)) => a.dims.length - p.1) (0, a.dims.map encDim) (subL_cons rfl subL_nil) (by first | exact subL_nil | exact (subL_cons rfl subL_nil) | exact (subL_cons rfl (subL_cons rfl subL_nil)) | exact (subL_cons rfl (subL_cons rfl (subL_cons rfl subL_nil))) | exact (subL_cons rfl (subL_cons rfl (subL_cons rfl (subL_cons rfl subL_nil)))) | exact (subL_cons rfl (subL_cons rfl (subL_cons rfl (subL_cons rfl (subL_cons rfl subL_nil))))) | exact (subL_cons rfl (subL_cons rfl (subL_cons rfl (subL_cons rfl (subL_cons rfl (subL_cons rfl subL_nil)))))) | exact (subL_cons rfl (subL_cons rfl (subL_cons rfl (subL_cons rfl (subL_cons rfl (subL_cons rfl (subL_cons rfl subL_nil))))))) | exact (subL_cons rfl (subL_cons rfl (subL_cons rfl (subL_cons rfl (subL_cons rfl (subL_cons rfl (subL_cons rfl (subL_cons rfl subL_nil))))))))) ?_ (fun p ⟨hk, hln, hr, ho⟩ => ?_) | fail) | (show thenQ _ _ _ _; first | refine then_n ?_ | refine then_r ?_ | refine then_x ?_ | fail) | (show blockQ _ _ _ _; first | refine block_n ?_ | refine block_r ?_ | refine block_x rfl ?_ | fail) | (show RetQ _ _ _ _ _ _; first | refine ret_leaf (.inl rfl) rfl rfl ?_ | fail) | (show DRun _ _ _ _ _ _ _ _; first | refine d_nil (by kernel_rfl) ?_ | refine d_e envOk rfl rfl rfl (step3_plain rfl rfl) ?_ | (show DRun _ _ _ _ (Oper.mk _ (Op.indexAddr _ _ _) _ _ _ (_) :: _) _ _ _; first | refine d_e envOk rfl rfl rfl (step3_idxOwn rfl rfl rfl rfl rfl rfl (by first | omega | ((try simp only [decide_eq_true_eq, decide_eq_false_iff_not, Bool.not_eq_true', Bool.not_true, Bool.not_false, List.length_map, List.length_set, bne_iff_ne, ne_eq, beq_iff_eq, bne_eq_false_iff_eq, beq_eq_false_iff_ne] at *); omega)) (by first | omega | ((try simp only [decide_eq_true_eq, decide_eq_false_iff_not, Bool.not_eq_true', Bool.not_true, Bool.not_false, List.length_map, List.length_set, bne_iff_ne, ne_eq, beq_iff_eq, bne_eq_false_iff_eq, beq_eq_false_iff_ne] at *); omega))) ?_ | refine d_e envOk rfl rfl rfl (step3_idx rfl rfl rfl rfl rfl (by first | omega | ((try simp only [decide_eq_true_eq, decide_eq_false_iff_not, Bool.not_eq_true', Bool.not_true, Bool.not_false, List.length_map, List.length_set, bne_iff_ne, ne_eq, beq_iff_eq, bne_eq_false_iff_eq, beq_eq_false_iff_ne] at *); omega)) (at_map (by first | omega | ((try simp only [decide_eq_true_eq, decide_eq_false_iff_not, Bool.not_eq_true', Bool.not_true, Bool.not_false, List.length_map, List.length_set, bne_iff_ne, ne_eq, beq_iff_eq, bne_eq_false_iff_eq, beq_eq_false_iff_ne] at *); omega)))) ?_ | fail) | (show DRun _ _ _ _ (Oper.mk _ (Op.load _ _) _ _ _ (_) :: _) _ _ _; first | refine d_e envOk rfl rfl rfl (step3_loadRow rfl rfl rfl rfl (row_get (by assumption) (by first | omega | ((try simp only [decide_eq_true_eq, decide_eq_false_iff_not, Bool.not_eq_true', Bool.not_true, Bool.not_false, List.length_map, List.length_set, bne_iff_ne, ne_eq, beq_iff_eq, bne_eq_false_iff_eq, beq_eq_false_iff_ne] at *); omega))) rfl) ?_ | refine d_e envOk rfl rfl rfl (step3_loadRow rfl rfl rfl rfl (set_get (by first | omega | ((try simp only [decide_eq_true_eq, decide_eq_false_iff_not, Bool.not_eq_true', Bool.not_true, Bool.not_false, List.length_map, List.length_set, bne_iff_ne, ne_eq, beq_iff_eq, bne_eq_false_iff_eq, beq_eq_false_iff_ne] at *); omega))) rfl) ?_ | fail) | refine d_store envOk rfl rfl (step3_storeRow rfl rfl rfl rfl rfl rfl rfl rfl rfl (row_get (by assumption) (by first | omega | ((try simp only [decide_eq_true_eq, decide_eq_false_iff_not, Bool.not_eq_true', Bool.not_true, Bool.not_false, List.length_map, List.length_set, bne_iff_ne, ne_eq, beq_iff_eq, bne_eq_false_iff_eq, beq_eq_false_iff_ne] at *); omega))) rfl) ?_ | refine d_store envOk rfl rfl (step3_storeRow rfl rfl rfl rfl rfl rfl rfl rfl rfl (set_get (by first | omega | ((try simp only [decide_eq_true_eq, decide_eq_false_iff_not, Bool.not_eq_true', Bool.not_true, Bool.not_false, List.length_map, List.length_set, bne_iff_ne, ne_eq, beq_iff_eq, bne_eq_false_iff_eq, beq_eq_false_iff_ne] at *); omega))) rfl) ?_ | fail) | (show Exists _; first | refine Exists.intro ((p.1 + 1, (p.2.set p.1 [.str (at_ (mixD a.dims lo hi p.1) p.1).name, .int .i64 (max (at_ (mixD a.dims lo hi p.1) p.1).lo (at_ lo p.1)), .int .i64 (at_ (mixD a.dims lo hi p.1) p.1).hi]).set p.1 [.str (at_ (mixD a.dims lo hi p.1) p.1).name, .int .i64 (max (at_ (mixD a.dims lo hi p.1) p.1).lo (at_ lo p.1)), .int .i64 (min (at_ (mixD a.dims lo hi p.1) p.1).hi (at_ hi p.1))])) ⟨?_, ?_, (by first | exact subL_nil | exact (subL_cons rfl subL_nil) | exact (subL_cons rfl (subL_cons rfl subL_nil)) | exact (subL_cons rfl (subL_cons rfl (subL_cons rfl subL_nil))) | exact (subL_cons rfl (subL_cons rfl (subL_cons rfl (subL_cons rfl subL_nil)))) | exact (subL_cons rfl (subL_cons rfl (subL_cons rfl (subL_cons rfl (subL_cons rfl subL_nil))))) | exact (subL_cons rfl (subL_cons rfl (subL_cons rfl (subL_cons rfl (subL_cons rfl (subL_cons rfl subL_nil)))))) | exact (subL_cons rfl (subL_cons rfl (subL_cons rfl (subL_cons rfl (subL_cons rfl (subL_cons rfl (subL_cons rfl subL_nil))))))) | exact (subL_cons rfl (subL_cons rfl (subL_cons rfl (subL_cons rfl (subL_cons rfl (subL_cons rfl (subL_cons rfl (subL_cons rfl subL_nil))))))))), (subL_cons rfl subL_nil), (subL_cons rfl (subL_cons rfl (subL_cons rfl (subL_cons rfl (subL_cons rfl (subL_cons rfl subL_nil))))))⟩ | fail) | fail)
        · exact ⟨Nat.zero_le _, by simp, by show _ = List.map encDim (mixD a.dims lo hi 0); rw [mix_zero], fun i hi => absurd hi (Nat.not_lt_zero _)⟩
        · have hlt : p.1 < a.dims.length := by simpa using ‹decide ((p.1 : Int) < (a.dims.length : Int)) = true›
          have em : at_ (mixD a.dims lo hi p.1) p.1 = at_ a.dims p.1 := by rw [mix_at hlt, if_neg (Nat.lt_irrefl _)]
          have hb : lastF (min (at_ a.dims p.1).hi (at_ hi p.1)) < max (at_ a.dims p.1).lo (at_ lo p.1) := by
            simp only [Int.toNat_natCast, em, decide_eq_true_eq] at h
            exact h
          rw [sub_bad hc hl hh hlt hb]
          rfl
        · have hlt : p.1 < a.dims.length := by simpa using ‹decide ((p.1 : Int) < (a.dims.length : Int)) = true›
          have em : at_ (mixD a.dims lo hi p.1) p.1 = at_ a.dims p.1 := by rw [mix_at hlt, if_neg (Nat.lt_irrefl _)]
          have hb : okD (cutD (at_ a.dims p.1) (at_ lo p.1, at_ hi p.1)) = true := by
            simp only [Int.toNat_natCast, em, decide_eq_false_iff_not] at h
            show (!decide (lastF (min (at_ a.dims p.1).hi (at_ hi p.1)) < max (at_ a.dims p.1).lo (at_ lo p.1))) = true
            have h' : ¬ lastF (min (at_ a.dims p.1).hi (at_ hi p.1)) < max (at_ a.dims p.1).lo (at_ lo p.1) := h
            simp only [h', decide_false, Bool.not_false]
          refine ⟨hlt, by simp [hln], ?_, fun i hi' => ?_⟩
          · show ((p.2.set p.1 _).set p.1 _) = _
            rw [em, hr]
            exact mix_next hlt _
          · rcases Nat.lt_or_ge i p.1 with h3 | h3
            · exact ho i h3
            · have : i = p.1 := by have : i < p.1 + 1 := hi'; omega
              rw [this]; exact hb
        · have hlt : p.1 < a.dims.length := by simpa using ‹decide ((p.1 : Int) < (a.dims.length : Int)) = true›
          show a.dims.length - (p.1 + 1) < a.dims.length - p.1
          omega
        have hpn : p.1 = a.dims.length := by
          have : a.dims.length ≤ p.1 := by simpa using h
          omega
        have hX : p.2.take a.dims.length = (cutDs a.dims lo hi).map encDim := by rw [List.take_of_length_le (by omega), hr, hpn, mix_all hl hh]
        have hcl : ∀ i, i < a.cells.length → (at_ a.cells i).at'.length = (cutDs a.dims lo hi).length := fun i hi' => by
          rw [cut_len hl hh]; exact (cellF_ok.1 (hA.cel _ (at_mem hi'))).1
        have hcn : a.cells.length ≤ 4096 := hA.few
        rw [sub_good hc hl hh (hpn ▸ ho)]
        have hdf : (a.cells.filter fun c => withinL (cutDs a.dims lo hi) c.at').Pairwise diffC := (diff_of_sorted hA.srt).filter _
        have hff : (a.cells.filter fun c => withinL (cutDs a.dims lo hi) c.at').length ≤ 4096 := Nat.le_trans (List.length_filter_le _ _) hcn
        repeat' (first | (show OkOps _ _ _ _ _ _; first | (show OkOps _ _ _ (Oper.mk _ (Op.call _) _ _ _ (_) :: _) _ _; first | refine s_callFS [10] rfl rfl rfl rfl rfl rfl rfl rfl rfl (c98e (cutDs a.dims lo hi) _ _ hX (hcl _ (by first | omega | (simp only [decide_eq_true_eq, decide_eq_false_iff_not, List.length_map] at *; omega)))) rfl ?_ | fail) | (show OkOps _ _ _ (Oper.mk _ (Op.call _) _ _ _ (_) :: _) _ _; first | refine s_callG 16 [10, 12] rfl rfl rfl rfl rfl rfl rfl rfl rfl (c99k (cutDs a.dims lo hi) a.attrs (a.cells.filter fun c => withinL (cutDs a.dims lo hi) c.at') _ _ hdf hff hX (by rw [List.take_of_length_le (by omega), hq3, List.take_of_length_le (by first | omega | ((try simp only [decide_eq_true_eq, decide_eq_false_iff_not, Bool.not_eq_true', Bool.not_true, Bool.not_false, List.length_map, List.length_set, bne_iff_ne, ne_eq, beq_iff_eq, bne_eq_false_iff_eq, beq_eq_false_iff_ne] at *); omega))])) rfl rfl rfl ?_ | fail) | refine okops_nil ?_ | (show OkOps _ _ _ (Oper.mk _ (Op.call _) _ _ _ (_) :: _) _ _; first | refine s_append tabOk rfl rfl rfl rfl rfl rfl rfl rfl rfl rfl rfl rfl rfl (by first | omega | ((try simp only [decide_eq_true_eq, decide_eq_false_iff_not, List.length_map, List.length_cons, List.length_nil, List.length_append, Int.toNat_natCast] at *); omega)) (by first | exact Nat.le_of_ble_eq_true rfl | omega | ((try simp only [decide_eq_true_eq, decide_eq_false_iff_not, List.length_map, List.length_cons, List.length_nil, List.length_append, Int.toNat_natCast] at *); omega)) (Nat.le_of_ble_eq_true rfl) ?_ | fail) | refine s_plain tabOk rfl rfl rfl rfl rfl ?_ | (show OkOps _ _ _ (Oper.mk _ (Op.binOp .add _ _ _ _) _ _ _ (_) :: _) _ _; first | refine s_e envOk rfl rfl rfl (step3_add rfl rfl rfl rfl (wrap64 (by omega) (by omega))) ?_ | fail) | (show OkOps _ _ _ (Oper.mk _ (Op.indexAddr _ _ _) _ _ _ (_) :: _) _ _; first | refine s_e envOk rfl rfl rfl (step3_idx rfl rfl rfl rfl rfl (by first | omega | ((try simp only [decide_eq_true_eq, decide_eq_false_iff_not, Bool.not_eq_true', Bool.not_true, Bool.not_false, List.length_map, List.length_set, bne_iff_ne, ne_eq, beq_iff_eq, bne_eq_false_iff_eq, beq_eq_false_iff_ne] at *); omega)) (at_map (by first | omega | ((try simp only [decide_eq_true_eq, decide_eq_false_iff_not, Bool.not_eq_true', Bool.not_true, Bool.not_false, List.length_map, List.length_set, bne_iff_ne, ne_eq, beq_iff_eq, bne_eq_false_iff_eq, beq_eq_false_iff_ne] at *); omega)))) ?_ | fail) | (show OkOps _ _ _ (Oper.mk _ (Op.alloc _) _ _ _ (_) :: _) _ _; first | refine s_alloc tabOk 2 rfl rfl rfl rfl rfl ?_ | fail) | refine s_store envOk rfl rfl rfl ?_ | refine s_new envOk 3 rfl rfl rfl rfl rfl rfl ?_ | fail) | (show OkC _ _ _ _ _; first | refine ok_seq ?_ | refine ok_region ?_ | refine ok_block ?_ | refine ok_skip ?_ | refine ok_ret ?_ | refine ok_exit ?_ | refine ok_cond rfl (fun h => ?_) (fun h => ?_) | refine s_loopN 15 rfl (imp_adopt (s := 10) (id := 12) (k := 2) (b := 48) rfl rfl rfl rfl) [(3, _), (6, _), (8, _), (86, _), (87, _)] (subL_cons rfl (subL_cons rfl (subL_cons rfl (subL_cons rfl (subL_cons rfl subL_nil))))) (fun (bN : Bool × Bool) (q : Nat × Nat × List (List D)) => [(10, .one (.own (nmB bN) q.2.1)), (88, .one (.d (.int .i64 (q.1 : Int))))]) (fun (bN : Bool × Bool) (q : Nat × Nat × List (List D)) => [(10, .row 3 32 p.2), ((nmB bN), .row 2 48 q.2.2), (0, .box [.d (encDims a.dims), .d (encAttrs a.attrs), .d (encCells a.cells)]), (1, .box [.d .nil, .d .nil, .d .nil])]) (fun (q : Nat × Nat × List (List D)) => q.1 ≤ a.cells.length ∧ q.2.1 = q.2.2.length ∧ q.2.1 ≤ q.1 ∧ q.2.2 = ((a.cells.take q.1).filter fun c => withinL (cutDs a.dims lo hi) c.at').map encCell) (fun (q : Nat × Nat × List (List D)) => a.cells.length - q.1) (0, 0, []) (subL_cons rfl (subL_cons rfl subL_nil)) (by first | exact subL_nil | exact (subL_cons rfl subL_nil) | exact (subL_cons rfl (subL_cons rfl subL_nil)) | exact (subL_cons rfl (subL_cons rfl (subL_cons rfl subL_nil))) | exact (subL_cons rfl (subL_cons rfl (subL_cons rfl (subL_cons rfl subL_nil)))) | exact (subL_cons rfl (subL_cons rfl (subL_cons rfl (subL_cons rfl (subL_cons rfl subL_nil))))) | exact (subL_cons rfl (subL_cons rfl (subL_cons rfl (subL_cons rfl (subL_cons rfl (subL_cons rfl subL_nil)))))) | exact (subL_cons rfl (subL_cons rfl (subL_cons rfl (subL_cons rfl (subL_cons rfl (subL_cons rfl (subL_cons rfl subL_nil))))))) | exact (subL_cons rfl (subL_cons rfl (subL_cons rfl (subL_cons rfl (subL_cons rfl (subL_cons rfl (subL_cons rfl (subL_cons rfl subL_nil))))))))) (fun b y => by obtain ⟨b1, b2⟩ := b; cases b1 <;> cases b2 <;> first | exact Imp.refl _ | exact imp_ren qN (by kernel_rfl)) ?_ (fun q ⟨hq1, hq2, hq4, hq3⟩ => ?_) | fail) | (show thenQ _ _ _ _; first | refine then_n ?_ | refine then_x ?_ | fail) | (show blockQ _ _ _ _; first | refine block_n ?_ | refine block_x rfl ?_ | fail) | (show RetQ _ _ _ _ _ _; first | refine ret_leaf (.inl rfl) rfl rfl ?_ | fail) | (show Exists _; first | refine Exists.intro ((q.1 + 1, q.2.1 + 1, q.2.2.take q.2.1 ++ [encCell (at_ a.cells q.1)])) (Exists.intro (false, false) ⟨?_, ?_, (by first | exact subL_nil | exact (subL_cons rfl subL_nil) | exact (subL_cons rfl (subL_cons rfl subL_nil)) | exact (subL_cons rfl (subL_cons rfl (subL_cons rfl subL_nil))) | exact (subL_cons rfl (subL_cons rfl (subL_cons rfl (subL_cons rfl subL_nil)))) | exact (subL_cons rfl (subL_cons rfl (subL_cons rfl (subL_cons rfl (subL_cons rfl subL_nil))))) | exact (subL_cons rfl (subL_cons rfl (subL_cons rfl (subL_cons rfl (subL_cons rfl (subL_cons rfl subL_nil)))))) | exact (subL_cons rfl (subL_cons rfl (subL_cons rfl (subL_cons rfl (subL_cons rfl (subL_cons rfl (subL_cons rfl subL_nil))))))) | exact (subL_cons rfl (subL_cons rfl (subL_cons rfl (subL_cons rfl (subL_cons rfl (subL_cons rfl (subL_cons rfl (subL_cons rfl subL_nil))))))))), (subL_cons rfl (subL_cons rfl subL_nil)), (subL_cons rfl (subL_cons rfl (subL_cons rfl (subL_cons rfl (subL_cons rfl subL_nil)))))⟩) | refine Exists.intro ((q.1 + 1, q.2)) (Exists.intro (false, false) ⟨?_, ?_, (by first | exact subL_nil | exact (subL_cons rfl subL_nil) | exact (subL_cons rfl (subL_cons rfl subL_nil)) | exact (subL_cons rfl (subL_cons rfl (subL_cons rfl subL_nil))) | exact (subL_cons rfl (subL_cons rfl (subL_cons rfl (subL_cons rfl subL_nil)))) | exact (subL_cons rfl (subL_cons rfl (subL_cons rfl (subL_cons rfl (subL_cons rfl subL_nil))))) | exact (subL_cons rfl (subL_cons rfl (subL_cons rfl (subL_cons rfl (subL_cons rfl (subL_cons rfl subL_nil)))))) | exact (subL_cons rfl (subL_cons rfl (subL_cons rfl (subL_cons rfl (subL_cons rfl (subL_cons rfl (subL_cons rfl subL_nil))))))) | exact (subL_cons rfl (subL_cons rfl (subL_cons rfl (subL_cons rfl (subL_cons rfl (subL_cons rfl (subL_cons rfl (subL_cons rfl subL_nil))))))))), (subL_cons rfl (subL_cons rfl subL_nil)), (subL_cons rfl (subL_cons rfl (subL_cons rfl (subL_cons rfl (subL_cons rfl subL_nil)))))⟩) | fail) | fail)
        · exact ⟨Nat.zero_le _, rfl, Nat.le_refl _, by simp⟩
        · have hlt : q.1 < a.cells.length := by simpa using ‹decide ((q.1 : Int) < ((a.cells.map encCell).length : Int)) = true›
          have hw : withinL (cutDs a.dims lo hi) (at_ a.cells q.1).at' = true := h
          refine ⟨hlt, ?_, Nat.succ_le_succ hq4, ?_⟩
          · show q.2.1 + 1 = (q.2.2.take q.2.1 ++ [_]).length
            rw [List.length_append, List.length_take]; simp [hq2]
          · show q.2.2.take q.2.1 ++ [_] = _
            rw [List.take_of_length_le (by omega), hq3]
            show _ = List.map encCell (List.filter _ (List.take (q.1 + 1) a.cells))
            rw [filter_next hlt, if_pos hw, List.map_append]; rfl
        · have hlt : q.1 < a.cells.length := by simpa using ‹decide ((q.1 : Int) < ((a.cells.map encCell).length : Int)) = true›
          show a.cells.length - (q.1 + 1) < a.cells.length - q.1
          omega
        · have hlt : q.1 < a.cells.length := by simpa using ‹decide ((q.1 : Int) < ((a.cells.map encCell).length : Int)) = true›
          have hw : withinL (cutDs a.dims lo hi) (at_ a.cells q.1).at' = false := h
          refine ⟨hlt, hq2, Nat.le_succ_of_le hq4, ?_⟩
          show q.2.2 = List.map encCell (List.filter _ (List.take (q.1 + 1) a.cells))
          rw [filter_next hlt, if_neg (by simp [hw]), List.append_nil, hq3]
        · have hlt : q.1 < a.cells.length := by simpa using ‹decide ((q.1 : Int) < ((a.cells.map encCell).length : Int)) = true›
          show a.cells.length - (q.1 + 1) < a.cells.length - q.1
          omega
        · rfl
      · have hb2 : (((hi.map encInt).length : Int) != ((a.dims.map encDim).length : Int)) = true := by simp; omega
        have e : subF a lo hi = (none, 13) := by
          unfold subF
          rw [if_neg (by simpa [chkA] using hc), if_pos (by omega)]
        rw [e]
        repeat' (first | (show OkOps _ _ _ _ _ _; first | (show OkOps _ _ _ (Oper.mk _ (Op.call _) _ _ _ (_) :: _) _ _; first | refine s_callFS [2] rfl rfl rfl rfl rfl rfl rfl rfl rfl (c96 [a]) rfl ?_ | fail) | refine okops_nil ?_ | refine s_plain tabOk rfl rfl rfl rfl rfl ?_ | (show OkOps _ _ _ (Oper.mk _ (_) _ _ _ (some _) :: _) _ _; first | refine s_guard rfl rfl (by first | assumption | rfl) ?_ | fail) | (show OkOps _ _ _ (Oper.mk _ (Op.pick _ _ _) _ _ _ (_) :: _) _ _; first | refine s_e envOk rfl rfl rfl (step3_pickF rfl rfl (by first | rfl | assumption) rfl) ?_ | fail) | (show OkOps _ _ _ (Oper.mk _ (Op.box _ _) _ _ _ (_) :: _) _ _; first | refine s_box 0 rfl rfl rfl rfl rfl rfl ?_ | fail) | (show OkOps _ _ _ (Oper.mk _ (Op.alloc _) _ _ _ (_) :: _) _ _; first | refine s_alloc tabOk 1 rfl rfl rfl rfl rfl ?_ | fail) | refine s_store envOk rfl rfl rfl ?_ | refine s_new envOk 2 rfl rfl rfl rfl rfl rfl ?_ | fail) | (show OkC _ _ _ _ _; first | refine ok_seq ?_ | refine ok_region ?_ | refine ok_block ?_ | refine ok_ret ?_ | refine ok_condKT rfl (by assumption) ?_ | refine ok_condKF rfl (by assumption) ?_ | fail) | (show thenQ _ _ _ _; first | refine then_n ?_ | refine then_r ?_ | fail) | (show blockQ _ _ _ _; first | refine block_r ?_ | fail) | (show RetQ _ _ _ _ _ _; first | refine ret_leaf (.inl rfl) rfl rfl ?_ | fail) | fail)
        all_goals rfl
    · have hb1 : (((lo.map encInt).length : Int) != ((a.dims.map encDim).length : Int)) = true := by simp; omega
      have e : subF a lo hi = (none, 13) := by
        unfold subF
        rw [if_neg (by simpa [chkA] using hc), if_pos (by omega)]
      rw [e]
      repeat' (first | (show OkOps _ _ _ _ _ _; first | (show OkOps _ _ _ (Oper.mk _ (Op.call _) _ _ _ (_) :: _) _ _; first | refine s_callFS [2] rfl rfl rfl rfl rfl rfl rfl rfl rfl (c96 [a]) rfl ?_ | fail) | refine okops_nil ?_ | refine s_plain tabOk rfl rfl rfl rfl rfl ?_ | (show OkOps _ _ _ (Oper.mk _ (_) _ _ _ (some _) :: _) _ _; first | refine s_out rfl rfl (by first | assumption | rfl) rfl rfl ?_ | fail) | (show OkOps _ _ _ (Oper.mk _ (Op.pick _ _ _) _ _ _ (_) :: _) _ _; first | refine s_e envOk rfl rfl rfl (step3_pickT rfl rfl (by first | rfl | assumption) rfl) ?_ | fail) | (show OkOps _ _ _ (Oper.mk _ (Op.box _ _) _ _ _ (_) :: _) _ _; first | refine s_box 0 rfl rfl rfl rfl rfl rfl ?_ | fail) | (show OkOps _ _ _ (Oper.mk _ (Op.alloc _) _ _ _ (_) :: _) _ _; first | refine s_alloc tabOk 1 rfl rfl rfl rfl rfl ?_ | fail) | refine s_store envOk rfl rfl rfl ?_ | refine s_new envOk 2 rfl rfl rfl rfl rfl rfl ?_ | fail) | (show OkC _ _ _ _ _; first | refine ok_seq ?_ | refine ok_region ?_ | refine ok_block ?_ | refine ok_ret ?_ | refine ok_condT rfl ?_ | refine ok_condKF rfl (by assumption) ?_ | fail) | (show thenQ _ _ _ _; first | refine then_n ?_ | refine then_r ?_ | fail) | (show blockQ _ _ _ _; first | refine block_r ?_ | fail) | (show RetQ _ _ _ _ _ _; first | refine ret_leaf (.inl rfl) rfl rfl ?_ | fail) | fail)
      all_goals rfl
  · have hv : (!validF [a]) = true := by simp [validF, hc]
    have e : subF a lo hi = (none, 2) := by
      unfold subF
      rw [if_pos (by simpa [chkA] using hc)]
    rw [e]
    repeat' (first | (show OkOps _ _ _ _ _ _; first | (show OkOps _ _ _ (Oper.mk _ (Op.call _) _ _ _ (_) :: _) _ _; first | refine s_callFS [2] rfl rfl rfl rfl rfl rfl rfl rfl rfl (c96 [a]) rfl ?_ | fail) | refine okops_nil ?_ | refine s_plain tabOk rfl rfl rfl rfl rfl ?_ | (show OkOps _ _ _ (Oper.mk _ (Op.box _ _) _ _ _ (_) :: _) _ _; first | refine s_box 0 rfl rfl rfl rfl rfl rfl ?_ | fail) | (show OkOps _ _ _ (Oper.mk _ (Op.alloc _) _ _ _ (_) :: _) _ _; first | refine s_alloc tabOk 1 rfl rfl rfl rfl rfl ?_ | fail) | refine s_store envOk rfl rfl rfl ?_ | refine s_new envOk 2 rfl rfl rfl rfl rfl rfl ?_ | fail) | (show OkC _ _ _ _ _; first | refine ok_seq ?_ | refine ok_region ?_ | refine ok_block ?_ | refine ok_ret ?_ | refine ok_condKT rfl (by assumption) ?_ | fail) | (show thenQ _ _ _ _; first | refine then_n ?_ | refine then_r ?_ | fail) | (show blockQ _ _ _ _; first | refine block_r ?_ | fail) | (show RetQ _ _ _ _ _ _; first | refine ret_leaf (.inl rfl) rfl rfl ?_ | fail) | fail)
    all_goals rfl
end Go.Proofs.YtpejdgkaapnekaaGreat
