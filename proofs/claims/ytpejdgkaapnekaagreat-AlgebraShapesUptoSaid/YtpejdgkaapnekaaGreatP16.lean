import Derived.Test.YtpejdgkaapnekaaGreatP7
import Derived.Test.YtpejdgkaapnekaaGreatKZ
import Derived.Test.YtpejdgkaapnekaaGreatP6
set_option linter.unusedVariables false
set_option linter.unusedSimpArgs false
namespace Go.Proofs.YtpejdgkaapnekaaGreat
open Go Go.Abs
attribute [local irreducible] OkOps OkC DRun thenQ blockQ RetQ
set_option maxRecDepth 10000
theorem c19 : CallA Tryz.prog 19 [] [] (.one (.d (.bool true))) [] := k445
end Go.Proofs.YtpejdgkaapnekaaGreat
namespace Go.Proofs.YtpejdgkaapnekaaGreat
open Go Go.Abs
attribute [local irreducible] OkOps OkC DRun thenQ blockQ RetQ
set_option maxRecDepth 10000
theorem callA_weak {P : Program} {f : FuncId} {args args' : List AV} {sto : Sto} {rav : AV} {rsto : Sto} (h : CallA P f args sto rav rsto) (hw : ∀ σ φ vs, All2 (RepV σ φ sto) args' vs → All2 (RepV σ φ sto) args vs) : CallA P f args' sto rav rsto :=
  ⟨h.fn, fun w σ φ vs hi ha => h.run w σ φ vs hi (hw σ φ vs ha)⟩
theorem repC_nil {σ : Sig} {φ : Pl} {sto : Sto} {k b : Nat} {v : Value} (h : RepC σ φ sto (.d .nil) v) : RepC σ φ sto (.d (.sl k b [])) v := by
  have h1 := RepC.d_inv h
  cases h1
  exact .d (.sl (fun _ _ => undef) (by simp) (by simp) (by simp) (by simp) (by simp) (by simp))
theorem agg_nil {σ : Sig} {φ : Pl} {sto : Sto} {v : Value} (h : RepV σ φ sto (.agg [.d .nil, .d .nil, .d .nil]) v) : RepV σ φ sto (encA ([], [], [])) v := by
  obtain ⟨vs, rfl, h2⟩ := h
  match vs, h2 with
  | [x, y, z], h2 => exact ⟨_, rfl, repC_nil h2.1, repC_nil h2.2.1, repC_nil h2.2.2.1, trivial⟩
  | [], h2 => exact h2.elim
  | [_], h2 => exact h2.2.elim
  | [_, _], h2 => exact h2.2.2.elim
  | _ :: _ :: _ :: _ :: _, h2 => exact h2.2.2.2.elim
theorem eqArr_self (x : List Dim × List Attr × List Cell) : eqArr x x = true := by
  unfold eqArr
  rw [(sameF_eq eqDim_iff).2 rfl, (sameF_eq eqAttr_iff).2 rfl, (sameF_eq eqCell_iff).2 rfl]
  rfl
theorem c25n (e : Int) : CallA Tryz.prog 25 [.agg [.d .nil, .d .nil, .d .nil], .one (.d (.int .i64 e)), .agg [.d .nil, .d .nil, .d .nil], .one (.d (.int .i64 e))] [] (.one (.d (.bool true))) [] := by
  have h := c25 ([], [], []) ([], [], []) e e
  rw [eqArr_self, show (e == e && true) = true by simp] at h
  refine callA_weak h fun σ φ vs hv => ?_
  match vs, hv with
  | [x, y, z, w], hv => exact ⟨agg_nil hv.1, hv.2.1, agg_nil hv.2.2.1, hv.2.2.2⟩
  | [], hv => exact hv.elim
  | [_], hv => exact hv.2.elim
  | [_, _], hv => exact hv.2.2.elim
  | [_, _, _], hv => exact hv.2.2.2.elim
  | _ :: _ :: _ :: _ :: _ :: _, hv => exact hv.2.2.2.2.elim
theorem c25s (y : Arr) : CallA Tryz.prog 25 [aggA y, .one (.d (.int .i64 0)), aggA y, .one (.d (.int .i64 0))] [] (.one (.d (.bool true))) [] := by
  have h := c25 (y.dims, y.attrs, y.cells) (y.dims, y.attrs, y.cells) 0 0
  rw [eqArr_self, show ((0 : Int) == 0 && true) = true by simp] at h
  exact h
theorem c28s (y : Arr) : CallA Tryz.prog 28 [aggA y, aggA y] [] (.one (.d (.bool true))) [] := by
  have h := c28 (y.dims, y.attrs, y.cells) (y.dims, y.attrs, y.cells)
  rw [eqArr_self] at h
  exact h
end Go.Proofs.YtpejdgkaapnekaaGreat
namespace Go.Proofs.YtpejdgkaapnekaaGreat
open Go Go.Abs
def movI (k : Nat) (d : Int) (x : List Int) : List Int := x.set k (at_ x k + d)
def shiftC (k : Nat) (d : Int) (c : Cell) : Cell := ⟨movI k d c.at', c.vals⟩
theorem cmpF_mov : ∀ {k : Nat} {d : Int} {x y : List Int}, k < x.length → x.length = y.length → cmpF (movI k d x) (movI k d y) = cmpF x y
  | _, d, [], _, h, _ => by simp at h
  | _, d, _ :: _, [], _, h => by simp at h
  | 0, d, a :: x, b :: y, _, _ => by
    show cmpF ((a + d) :: x) ((b + d) :: y) = _
    simp only [cmpF]
    by_cases h1 : a < b
    · rw [if_pos h1, if_pos (by omega)]
    · rw [if_neg h1, if_neg (by omega)]
      by_cases h2 : b < a
      · rw [if_pos h2, if_pos (by omega)]
      · rw [if_neg h2, if_neg (by omega)]
  | k + 1, d, a :: x, b :: y, h, h' => by
    have ih := cmpF_mov (k := k) (d := d) (x := x) (y := y) (by simpa using h) (by simpa using h')
    show cmpF (a :: movI k d x) (b :: movI k d y) = _
    simp only [cmpF, ih]
theorem mov_len {k : Nat} {d : Int} {x : List Int} : (movI k d x).length = x.length := by simp [movI]
theorem at_mov {k : Nat} {d : Int} {x : List Int} {i : Nat} (h : i < x.length) : at_ (movI k d x) i = if i = k then at_ x k + d else at_ x i := at_set h
def cutD (d : Dim) (b : Int × Int) : Dim := ⟨d.name, max d.lo b.1, min d.hi b.2⟩
def cutDs (ds : List Dim) (lo hi : List Int) : List Dim := ds.zipWith cutD (lo.zip hi)
def okD (d : Dim) : Bool := !decide (lastF d.hi < d.lo)
def subF (a : Arr) (lo hi : List Int) : Option Arr × Int :=
  if checkF a.dims a.attrs a.cells ≠ 0 then (none, 2)
  else if (lo.length : Int) ≠ a.dims.length ∨ (hi.length : Int) ≠ a.dims.length then (none, 13)
  else if !(cutDs a.dims lo hi).all okD then (none, 3)
  else resF (cutDs a.dims lo hi) a.attrs (a.cells.filter fun c => withinL (cutDs a.dims lo hi) c.at')
def byF (a b : Arr) (k : Nat) : Int := (at_ a.dims k).hi - (at_ b.dims k).lo + 1
def catDim (a b : Arr) (k : Nat) : Dim := ⟨(at_ b.dims k).name, (at_ a.dims k).lo, (at_ b.dims k).hi + byF a b k⟩
structure Cat (a b : Arr) (name : List UInt8) (k : Nat) : Prop where
  oka : OkA a.dims a.attrs a.cells
  okb : OkA b.dims b.attrs b.cells
  hk : k < a.dims.length
  nm : (at_ a.dims k).name = name
  bef : ∀ i, i < k → (at_ a.dims i).name ≠ name
  len : a.dims.length = b.dims.length
  nms : ∀ i, i < a.dims.length → (at_ a.dims i).name = (at_ b.dims i).name
  oth : ∀ i, i < a.dims.length → i ≠ k → at_ a.dims i = at_ b.dims i
  ha : (at_ a.dims k).hi ≤ 1073741824
  hb : (at_ b.dims k).hi ≤ 1073741824
  att : a.attrs = b.attrs
  hc : (catDim a b k).hi ≤ 1073741824
section
variable {a b : Arr} {name : List UInt8} {k : Nat}
def catA (a b : Arr) (k : Nat) : Arr := ⟨a.dims.set k (catDim a b k), a.attrs, sortF (a.cells ++ b.cells.map (shiftC k (byF a b k)))⟩
theorem lastF_le {h : Int} (hh : h ≤ 1073741824) : lastF h = h := by unfold lastF; omega
theorem Cat.bounds (h : Cat a b name k) : (at_ a.dims k).lo ≤ (at_ a.dims k).hi ∧ (at_ b.dims k).lo ≤ (at_ b.dims k).hi ∧ -1073741824 ≤ (at_ a.dims k).lo ∧ -1073741824 ≤ (at_ b.dims k).lo := by
  have h1 := (h.oka.dims.2.2.1 k h.hk).1
  have h2 := (h.okb.dims.2.2.1 k (by rw [← h.len]; exact h.hk)).1
  omega
theorem Cat.acell (h : Cat a b name k) {c : Cell} (hc : c ∈ a.cells) : c.at'.length = a.dims.length ∧ c.vals.length = a.attrs.length ∧ valsGo a.attrs c.vals = 0 ∧ ∀ i, i < a.dims.length → (at_ a.dims i).lo ≤ at_ c.at' i ∧ at_ c.at' i ≤ lastF (at_ a.dims i).hi := by
  obtain ⟨h1, h2, h3, h4⟩ := cellF_ok.1 (h.oka.cel c hc)
  exact ⟨h1, h2, h4, (withinL_iff h1).1 h3⟩
theorem Cat.bcell (h : Cat a b name k) {c : Cell} (hc : c ∈ b.cells) : c.at'.length = a.dims.length ∧ c.vals.length = a.attrs.length ∧ valsGo a.attrs c.vals = 0 ∧ ∀ i, i < a.dims.length → (at_ b.dims i).lo ≤ at_ c.at' i ∧ at_ c.at' i ≤ lastF (at_ b.dims i).hi := by
  obtain ⟨h1, h2, h3, h4⟩ := cellF_ok.1 (h.okb.cel c hc)
  rw [h.att, h.len]
  exact ⟨h1, h2, h4, (withinL_iff h1).1 h3⟩
theorem Cat.moved (h : Cat a b name k) {c : Cell} (hc : c ∈ b.cells) {i : Nat} (hi : i < a.dims.length) : at_ (shiftC k (byF a b k) c).at' i = if i = k then at_ c.at' k + byF a b k else at_ c.at' i :=
  at_mov (by rw [(h.bcell hc).1]; exact hi)
theorem Cat.far (h : Cat a b name k) {c : Cell} (hc : c ∈ b.cells) : (at_ a.dims k).hi + 1 ≤ at_ (shiftC k (byF a b k) c).at' k ∧ at_ (shiftC k (byF a b k) c).at' k ≤ (catDim a b k).hi := by
  rw [h.moved hc h.hk, if_pos rfl]
  have h1 := (h.bcell hc).2.2.2 k h.hk
  rw [lastF_le h.hb] at h1
  unfold byF catDim byF at *
  dsimp only
  omega
theorem Cat.near (h : Cat a b name k) {c : Cell} (hc : c ∈ a.cells) : at_ c.at' k ≤ (at_ a.dims k).hi := by
  have h1 := (h.acell hc).2.2.2 k h.hk
  rw [lastF_le h.ha] at h1
  exact h1.2
theorem Cat.bsrt (h : Cat a b name k) : (b.cells.map (shiftC k (byF a b k))).Pairwise ltC := by
  rw [List.pairwise_map]
  refine List.Pairwise.imp_of_mem (fun {x y} hx hy hxy => ?_) h.okb.srt
  have h1 := (h.bcell hx).1
  have h2 := (h.bcell hy).1
  unfold ltC at hxy ⊢
  show cmpF (movI k _ x.at') (movI k _ y.at') < 0
  rw [cmpF_mov (by rw [h1]; exact h.hk) (by rw [h1, h2])]
  exact hxy
theorem Cat.diff (h : Cat a b name k) : (a.cells ++ b.cells.map (shiftC k (byF a b k))).Pairwise diffC := by
  refine List.pairwise_append.2 ⟨diff_of_sorted h.oka.srt, diff_of_sorted h.bsrt, fun x hx y hy e => ?_⟩
  obtain ⟨c, hc, rfl⟩ := List.mem_map.1 hy
  have h1 := h.near hx
  have h2 := (h.far hc).1
  rw [e] at h1
  omega
theorem Cat.cdim (h : Cat a b name k) {i : Nat} (hi : i < a.dims.length) : at_ (catA a b k).dims i = if i = k then catDim a b k else at_ a.dims i := at_set hi
theorem dimsGo_mk : ∀ {ds : List Dim} {met : List (List UInt8)}, (∀ d ∈ ds, boundsF d.lo d.hi = true ∧ nameF d.name = true ∧ d.name ∉ met) → (ds.map Dim.name).Nodup → dimsGo met ds = 0
  | [], met, _, _ => rfl
  | d :: r, met, h, hn => by
    obtain ⟨h1, h2, h3⟩ := h d List.mem_cons_self
    rw [List.map_cons, List.nodup_cons] at hn
    simp only [dimsGo, h1, h2]
    rw [if_neg (by simp [h3]), if_neg (by simp)]
    refine dimsGo_mk (fun x hx => ?_) hn.2
    obtain ⟨j1, j2, j3⟩ := h x (List.mem_cons_of_mem _ hx)
    refine ⟨j1, j2, fun hm => ?_⟩
    rcases List.mem_append.1 hm with hm | hm
    · exact j3 hm
    · have e : x.name = d.name := by simpa using hm
      exact hn.1 (List.mem_map.2 ⟨x, hx, e⟩)
theorem schemaF_mk {ds : List Dim} {ats : List Attr} (h1 : 1 ≤ ds.length) (h2 : ds.length ≤ 4) (h3 : ∀ d ∈ ds, boundsF d.lo d.hi = true ∧ nameF d.name = true) (h4 : (ds.map Dim.name).Nodup) (h5 : 1 ≤ ats.length) (h6 : ats.length ≤ 6) (h7 : attrsGo (ds.map Dim.name) ats = 0) : schemaF ds ats = 0 := by
  have hd : dimsF ds = 0 := by
    unfold dimsF
    rw [if_neg (by omega)]
    exact dimsGo_mk (fun d hd => ⟨(h3 d hd).1, (h3 d hd).2, by simp⟩) h4
  unfold schemaF
  rw [if_neg (by simp [hd]), if_neg (by omega)]
  exact h7
theorem Cat.cnames (h : Cat a b name k) : (catA a b k).dims.map Dim.name = a.dims.map Dim.name := by
  refine at_ext (by simp [catA]) fun i hi => ?_
  have hi' : i < a.dims.length := by simpa [catA] using hi
  rw [at_mapN (by simpa [catA] using hi), at_mapN hi', h.cdim hi']
  split
  · rename_i e; subst e; exact (h.nms i hi').symm
  · rfl
theorem Cat.okc (h : Cat a b name k) (hl : a.cells.length + b.cells.length ≤ 4096) : OkA (catA a b k).dims (catA a b k).attrs (catA a b k).cells := by
  obtain ⟨d1, d2, d3, d4⟩ := h.oka.dims
  obtain ⟨s1, s2, s3, s4⟩ := schemaF_ok h.oka.sch
  have hcl : (catA a b k).dims.length = a.dims.length := by simp [catA]
  have hbn := h.bounds
  refine ⟨schemaF_mk (by omega) (by omega) (fun d hd => ?_) (by rw [h.cnames]; exact d4) s2 s3 (by rw [h.cnames]; exact s4), ?_, sortF_sorted h.diff, fun c hc => ?_⟩
  · obtain ⟨i, hi, rfl⟩ := at_ofmem hd
    rw [hcl] at hi
    have hh := h.hc
    obtain ⟨e1, e2⟩ := d3 i hi
    rw [h.cdim hi]
    split
    · rename_i e; subst e
      refine ⟨boundsF_ok.2 ?_, ?_⟩
      · unfold catDim byF at *; dsimp only at *; omega
      · show nameF (at_ b.dims i).name = true
        rw [← h.nms i hi]; exact e2
    · exact ⟨boundsF_ok.2 e1, e2⟩
  · show (sortF _).length ≤ 4096
    rw [sortF_length, List.length_append, List.length_map]; exact hl
  · have hc' := (sortF_perm _).mem_iff.1 hc
    rcases List.mem_append.1 hc' with hc' | hc'
    · obtain ⟨e1, e2, e3, e4⟩ := h.acell hc'
      refine cellF_ok.2 ⟨by rw [hcl]; exact e1, e2, (withinL_iff (by rw [hcl]; exact e1)).2 fun i hi => ?_, e3⟩
      rw [hcl] at hi
      rw [h.cdim hi]
      have e5 := e4 i hi
      split
      · rename_i e; subst e
        rw [lastF_le h.ha] at e5
        rw [lastF_le h.hc]
        unfold catDim byF; dsimp only; omega
      · exact e5
    · obtain ⟨c0, hc0, rfl⟩ := List.mem_map.1 hc'
      obtain ⟨e1, e2, e3, e4⟩ := h.bcell hc0
      have hlen : (shiftC k (byF a b k) c0).at'.length = a.dims.length := by rw [← e1]; exact mov_len
      refine cellF_ok.2 ⟨by rw [hcl]; exact hlen, e2, (withinL_iff (by rw [hcl]; exact hlen)).2 fun i hi => ?_, e3⟩
      rw [hcl] at hi
      rw [h.cdim hi]
      split
      · rename_i e; subst e
        have hf := h.far hc0
        rw [lastF_le h.hc]
        refine ⟨?_, hf.2⟩
        show (at_ a.dims i).lo ≤ _
        omega
      · rename_i e
        rw [h.moved hc0 hi, if_neg e, h.oth i hi e]
        exact e4 i hi
theorem Cat.first (h : Cat a b name k) (hl : a.cells.length + b.cells.length ≤ 4096) (h2 : a.cells.length ≤ 4096) :
    subF (catA a b k) ((catA a b k).dims.map Dim.lo) (((catA a b k).dims.map Dim.hi).set k (at_ a.dims k).hi) = (some a, 0) := by
  have hcl : (catA a b k).dims.length = a.dims.length := by simp [catA]
  obtain ⟨d1, d2, d3, d4⟩ := h.oka.dims
  have hbn := h.bounds
  have hcut : cutDs (catA a b k).dims ((catA a b k).dims.map Dim.lo) (((catA a b k).dims.map Dim.hi).set k (at_ a.dims k).hi) = a.dims := by
    refine at_ext (by simp [cutDs, hcl]) fun i hi => ?_
    have hi' : i < a.dims.length := by simp [cutDs, hcl] at hi; exact hi
    have hi2 : i < (catA a b k).dims.length := by rw [hcl]; exact hi'
    unfold cutDs
    rw [at_zip hi2 (by simp [hcl, hi']), List.zip, at_zip (by simp [hcl, hi']) (by simp [hcl, hi']), at_mapN hi2, at_set (by simp [hcl, hi']), at_mapN hi2, h.cdim hi']
    unfold cutD
    by_cases e : i = k
    · subst e
      rw [if_pos rfl, if_pos rfl]
      refine Dim.ext ?_ ?_ ?_
      · exact (h.nms i hi').symm
      · show max (at_ a.dims i).lo (at_ a.dims i).lo = _; omega
      · show min ((at_ b.dims i).hi + byF a b i) (at_ a.dims i).hi = _; unfold byF; omega
    · rw [if_neg e, if_neg e]
      refine Dim.ext rfl ?_ ?_
      · show max _ _ = _; omega
      · show min _ _ = _; omega
  unfold subF
  rw [if_neg (by rw [okA_check (h.okc hl)]; simp), if_neg (by simp), hcut, if_neg ?_]
  · have hf : (catA a b k).cells.filter (fun c => withinL a.dims c.at') = a.cells := by
      refine sortF_filter _ h.diff h.oka.srt ?_
      rw [List.filter_append, List.filter_eq_self.2 fun c hc => (withinL_iff (h.acell hc).1).2 (h.acell hc).2.2.2, List.filter_eq_nil_iff.2, List.append_nil]
      · intro c hc hw
        obtain ⟨c0, hc0, rfl⟩ := List.mem_map.1 hc
        have hlen : (shiftC k (byF a b k) c0).at'.length = a.dims.length := by rw [← (h.bcell hc0).1]; exact mov_len
        have h3 := (withinL_iff hlen).1 hw k h.hk
        have h4 := (h.far hc0).1
        rw [lastF_le h.ha] at h3
        omega
    rw [hf]
    unfold resF
    rw [if_neg (by omega), sortF_id h.oka.srt]
    rfl
  · simp only [Bool.not_eq_true', Bool.not_eq_false, List.all_eq_true, okD, decide_eq_false_iff_not]
    intro d hd
    obtain ⟨i, hi, rfl⟩ := at_ofmem hd
    have := (d3 i hi).1
    unfold lastF; omega
end
end Go.Proofs.YtpejdgkaapnekaaGreat
namespace Go.Proofs.YtpejdgkaapnekaaGreat
open Go Go.Abs
def hullD (d e : Dim) : Dim := ⟨d.name, min d.lo e.lo, max d.hi e.hi⟩
def hullDs (a b : List Dim) : List Dim := a.zipWith hullD b
def newC (l : List Cell) (c : Cell) : Bool := !(l.any fun x => x.at' == c.at')
def mrgA (a b : Arr) : Arr := ⟨hullDs a.dims b.dims, a.attrs, sortF (a.cells ++ b.cells.filter (newC a.cells))⟩
def hasC (l : List Cell) (t : List Int) : Prop := ∃ y ∈ l, y.at' = t
theorem newC_iff {l : List Cell} {c : Cell} : newC l c = true ↔ ¬ hasC l c.at' := by
  simp [newC, hasC]
structure Mrg (a b : Arr) : Prop where
  oka : OkA a.dims a.attrs a.cells
  okb : OkA b.dims b.attrs b.cells
  names : a.dims.map Dim.name = b.dims.map Dim.name
  attrs : a.attrs = b.attrs
section
variable {a b c : Arr}
theorem hull_len (h : Mrg a b) : (hullDs a.dims b.dims).length = a.dims.length := by
  have : a.dims.length = b.dims.length := by simpa using congrArg List.length h.names
  simp [hullDs]; omega
theorem Mrg.len (h : Mrg a b) : a.dims.length = b.dims.length := by simpa using congrArg List.length h.names
theorem hull_at (h : Mrg a b) {i : Nat} (hi : i < a.dims.length) : at_ (hullDs a.dims b.dims) i = hullD (at_ a.dims i) (at_ b.dims i) := at_zip hi (by rw [← h.len]; exact hi)
theorem hull_names (h : Mrg a b) : (hullDs a.dims b.dims).map Dim.name = a.dims.map Dim.name := by
  refine at_ext (by simp [hull_len h]) fun i hi => ?_
  have hi' : i < a.dims.length := by simpa [hull_len h] using hi
  rw [at_mapN (by rw [hull_len h]; exact hi'), at_mapN hi', hull_at h hi']
  rfl
theorem mrg_mem {x : Cell} : x ∈ (mrgA a b).cells ↔ x ∈ a.cells ∨ (x ∈ b.cells ∧ ¬ hasC a.cells x.at') := by
  show x ∈ sortF _ ↔ _
  rw [(sortF_perm _).mem_iff, List.mem_append, List.mem_filter, newC_iff]
theorem mrg_diff (h : Mrg a b) : (a.cells ++ b.cells.filter (newC a.cells)).Pairwise diffC := by
  refine List.pairwise_append.2 ⟨diff_of_sorted h.oka.srt, (diff_of_sorted h.okb.srt).filter _, fun x hx y hy e => ?_⟩
  exact newC_iff.1 (List.mem_filter.1 hy).2 ⟨x, hx, e⟩
theorem mrg_sorted (h : Mrg a b) : (mrgA a b).cells.Pairwise ltC := sortF_sorted (mrg_diff h)
theorem mrg_len : (mrgA a b).cells.length ≤ a.cells.length + b.cells.length := by
  show (sortF _).length ≤ _
  rw [sortF_length, List.length_append]
  have := List.length_filter_le (newC a.cells) b.cells
  omega
theorem cell_hull (h : Mrg a b) {x : Cell} {ds : List Dim} (hl : ds.length = a.dims.length) (hx : cellF ds a.attrs x.at' x.vals = 0)
    (hd : ∀ i, i < a.dims.length → (hullD (at_ a.dims i) (at_ b.dims i)).lo ≤ (at_ ds i).lo ∧ (at_ ds i).hi ≤ (hullD (at_ a.dims i) (at_ b.dims i)).hi) : cellF (hullDs a.dims b.dims) a.attrs x.at' x.vals = 0 := by
  obtain ⟨h1, h2, h3, h4⟩ := cellF_ok.1 hx
  refine cellF_ok.2 ⟨by rw [hull_len h]; omega, h2, ?_, h4⟩
  rw [withinL_iff h1] at h3
  rw [withinL_iff (by rw [hull_len h]; omega)]
  intro i hi
  rw [hull_len h] at hi
  rw [hull_at h hi]
  have e1 := h3 i (by omega)
  have e2 := hd i hi
  unfold lastF at *
  omega
theorem mrg_ok (h : Mrg a b) (hn : (mrgA a b).cells.length ≤ 4096) : OkA (mrgA a b).dims (mrgA a b).attrs (mrgA a b).cells := by
  obtain ⟨a1, a2, a3, a4⟩ := h.oka.dims
  obtain ⟨b1, b2, b3, b4⟩ := h.okb.dims
  have hs := schemaF_ok h.oka.sch
  refine ⟨?_, hn, mrg_sorted h, fun x hx => ?_⟩
  · refine schemaF_mk (by show _ ≤ (hullDs _ _).length; rw [hull_len h]; exact a1) (by show (hullDs _ _).length ≤ _; rw [hull_len h]; exact a2) (fun d hd => ?_) (by show ((hullDs _ _).map _).Nodup; rw [hull_names h]; exact a4) hs.2.1 hs.2.2.1 (by show attrsGo ((hullDs _ _).map _) _ = 0; rw [hull_names h]; exact hs.2.2.2)
    obtain ⟨i, hi, rfl⟩ := at_ofmem hd
    have hi' : i < a.dims.length := by rw [← hull_len h]; exact hi
    show boundsF (at_ (hullDs a.dims b.dims) i).lo (at_ (hullDs a.dims b.dims) i).hi = true ∧ nameF (at_ (hullDs a.dims b.dims) i).name = true
    rw [hull_at h hi']
    obtain ⟨e1, e2⟩ := a3 i hi'
    obtain ⟨e3, _⟩ := b3 i (by rw [← h.len]; exact hi')
    refine ⟨boundsF_ok.2 ?_, e2⟩
    simp only [hullD]
    omega
  · show cellF (hullDs a.dims b.dims) a.attrs _ _ = 0
    rcases mrg_mem.1 hx with hx | ⟨hx, _⟩
    · exact cell_hull h rfl (h.oka.cel x hx) fun i hi => by simp only [hullD]; omega
    · refine cell_hull h h.len.symm (by rw [h.attrs]; exact h.okb.cel x hx) fun i hi => by simp only [hullD]; omega
theorem Mrg.symm (h : Mrg a b) : Mrg b a := ⟨h.okb, h.oka, h.names.symm, h.attrs.symm⟩
theorem Mrg.left (h : Mrg a b) (h' : Mrg b c) (hn : a.cells.length + b.cells.length ≤ 4096) : Mrg (mrgA a b) c :=
  ⟨mrg_ok h (Nat.le_trans mrg_len hn), h'.okb, (hull_names h).trans (h.names.trans h'.names), h.attrs.trans h'.attrs⟩
theorem Arr.ext {x y : Arr} (h1 : x.dims = y.dims) (h2 : x.attrs = y.attrs) (h3 : x.cells = y.cells) : x = y := by cases x; cases y; simp_all
end
end Go.Proofs.YtpejdgkaapnekaaGreat
namespace Go.Proofs.YtpejdgkaapnekaaGreat
open Go Go.Abs
def extF (d : Dim) : Int := d.hi - d.lo + 1
def volGo : Int → List Dim → Int × Int
  | n, [] => (n, 0)
  | n, d :: r => if (4611686018427387904 : Int) / extF d < n then (0, 14) else volGo (n * extF d) r
def volF (ds : List Dim) : Int × Int := if dimsF ds ≠ 0 then (0, dimsF ds) else if ds.any (fun d => d.hi == 1073741825) then (0, 3) else volGo 1 ds
def rowGo : Int → List Dim → List Int → Int
  | n, d :: ds, x :: xs => rowGo (n * extF d + x - d.lo) ds xs
  | n, _, _ => n
def indexF (ds : List Dim) (x : List Int) : Int × Int := if (volF ds).2 ≠ 0 then (0, (volF ds).2) else if (x.length : Int) ≠ ds.length then (0, 13) else if !ofF ds x then (0, 3) else (rowGo 0 ds x, 0)
def unG : List Dim → Int → List Int × Int
  | [], k => ([], k)
  | d :: r, k => ((d.lo + (unG r k).2 % extF d) :: (unG r k).1, (unG r k).2 / extF d)
def coordF (ds : List Dim) (k : Int) : Option (List Int) × Int := if (volF ds).2 ≠ 0 then (none, (volF ds).2) else if k < 0 ∨ (volF ds).1 ≤ k then (none, 3) else (some (unG ds k).1, 0)
def reshC (ds es : List Dim) (c : Cell) : Cell := ⟨(unG es (rowGo 0 ds c.at')).1, c.vals⟩
def reshF (a : Arr) (es : List Dim) : Option Arr × Int :=
  if chkA a ≠ 0 then (none, 2)
  else if schemaF es a.attrs ≠ 0 then (none, schemaF es a.attrs)
  else if (volF a.dims).2 ≠ 0 then (none, (volF a.dims).2)
  else if (volF es).2 ≠ 0 then (none, (volF es).2)
  else if (volF a.dims).1 ≠ (volF es).1 then (none, 13)
  else resF es a.attrs (a.cells.map (reshC a.dims es))
theorem un_len : ∀ {ds : List Dim} {k : Int}, (unG ds k).1.length = ds.length
  | [], k => rfl
  | d :: r, k => by simp [unG, un_len (ds := r) (k := k)]
def prodF : List Dim → Int
  | [] => 1
  | d :: r => extF d * prodF r
theorem ext_pos {d : Dim} (h : boundsF d.lo d.hi = true) : 0 < extF d := by
  have := boundsF_ok.1 h
  unfold extF; omega
theorem prod_pos : ∀ {ds : List Dim}, (∀ d ∈ ds, 0 < extF d) → 0 < prodF ds
  | [], _ => by simp [prodF]
  | d :: r, h => Int.mul_pos (h d List.mem_cons_self) (prod_pos fun x hx => h x (List.mem_cons_of_mem _ hx))
theorem un_row : ∀ {ds : List Dim} {xs : List Int} {n : Int}, xs.length = ds.length → (∀ i, i < ds.length → (at_ ds i).lo ≤ at_ xs i ∧ at_ xs i ≤ (at_ ds i).hi) → unG ds (rowGo n ds xs) = (xs, n)
  | [], [], n, _, _ => rfl
  | d :: ds, x :: xs, n, h, hb => by
    have h0 := hb 0 (by simp)
    have h0' : d.lo ≤ x ∧ x ≤ d.hi := h0
    have ih := un_row (ds := ds) (xs := xs) (n := n * extF d + x - d.lo) (by simpa using h) fun i hi => hb (i + 1) (by simpa using hi)
    show ((d.lo + (unG ds (rowGo (n * extF d + x - d.lo) ds xs)).2 % extF d) :: (unG ds (rowGo (n * extF d + x - d.lo) ds xs)).1, (unG ds (rowGo (n * extF d + x - d.lo) ds xs)).2 / extF d) = _
    rw [ih]
    have e : n * extF d + x - d.lo = (x - d.lo) + extF d * n := by rw [Int.mul_comm]; omega
    have hx : 0 ≤ x - d.lo ∧ x - d.lo < extF d := by unfold extF; omega
    have hp : extF d ≠ 0 := by omega
    simp only [e]
    rw [Int.add_mul_emod_self_left, Int.add_mul_ediv_left _ _ hp, Int.emod_eq_of_lt hx.1 hx.2, Int.ediv_eq_zero_of_lt hx.1 hx.2]
    congr 1
    · congr 1; omega
    · omega
  | [], _ :: _, _, h, _ => by simp at h
  | _ :: _, [], _, h, _ => by simp at h
theorem row_un : ∀ {ds : List Dim} {k : Int}, rowGo (unG ds k).2 ds (unG ds k).1 = k
  | [], k => rfl
  | d :: r, k => by
    show rowGo ((unG r k).2 / extF d * extF d + (d.lo + (unG r k).2 % extF d) - d.lo) r (unG r k).1 = k
    have e : (unG r k).2 / extF d * extF d + (d.lo + (unG r k).2 % extF d) - d.lo = (unG r k).2 := by
      have := Int.emod_add_mul_ediv (unG r k).2 (extF d)
      rw [Int.mul_comm] at this
      omega
    rw [e]
    exact row_un
theorem un_quot : ∀ {ds : List Dim} {k : Int}, (∀ d ∈ ds, 0 < extF d) → (unG ds k).2 = k / prodF ds
  | [], k, _ => by simp [unG, prodF]
  | d :: r, k, h => by
    have ih := un_quot (ds := r) (k := k) fun x hx => h x (List.mem_cons_of_mem _ hx)
    show (unG r k).2 / extF d = k / (extF d * prodF r)
    rw [ih, Int.mul_comm, Int.ediv_ediv_of_nonneg (Int.le_of_lt (prod_pos fun x hx => h x (List.mem_cons_of_mem _ hx)))]
theorem volGo_ok : ∀ {ds : List Dim} {n : Int}, (volGo n ds).2 = 0 → (volGo n ds).1 = n * prodF ds
  | [], n, _ => by simp [volGo, prodF]
  | d :: r, n, h => by
    simp only [volGo] at h ⊢
    split at h
    · simp at h
    · rename_i h1
      rw [if_neg h1, volGo_ok h]
      simp only [prodF, Int.mul_assoc]
theorem row_bound : ∀ {ds : List Dim} {xs : List Int} {n : Int}, xs.length = ds.length → (∀ i, i < ds.length → (at_ ds i).lo ≤ at_ xs i ∧ at_ xs i ≤ (at_ ds i).hi) → 0 ≤ n → n * prodF ds ≤ rowGo n ds xs ∧ rowGo n ds xs < (n + 1) * prodF ds
  | [], [], n, _, _, _ => by simp only [rowGo, prodF]; omega
  | d :: ds, x :: xs, n, h, hb, hn => by
    have h0 : d.lo ≤ x ∧ x ≤ d.hi := hb 0 (by simp)
    have he : 0 < extF d := by unfold extF; omega
    have hm : 0 ≤ n * extF d := Int.mul_nonneg hn (by omega)
    have hp : ∀ y ∈ ds, 0 < extF y := fun y hy => by
      obtain ⟨i, hi, rfl⟩ := at_ofmem hy
      have : (at_ ds i).lo ≤ at_ xs i ∧ at_ xs i ≤ (at_ ds i).hi := hb (i + 1) (by simpa using hi)
      unfold extF; omega
    have hpp := prod_pos hp
    obtain ⟨i1, i2⟩ := row_bound (ds := ds) (xs := xs) (n := n * extF d + x - d.lo) (by simpa using h) (fun i hi => hb (i + 1) (by simpa using hi)) (by omega)
    show n * (extF d * prodF ds) ≤ rowGo (n * extF d + x - d.lo) ds xs ∧ rowGo (n * extF d + x - d.lo) ds xs < (n + 1) * (extF d * prodF ds)
    constructor
    · refine Int.le_trans ?_ i1
      rw [← Int.mul_assoc]
      exact Int.mul_le_mul_of_nonneg_right (by omega) (by omega)
    · refine Int.lt_of_lt_of_le i2 ?_
      rw [← Int.mul_assoc]
      refine Int.mul_le_mul_of_nonneg_right ?_ (by omega)
      rw [Int.add_mul]
      unfold extF at *
      omega
  | [], _ :: _, _, h, _, _ => by simp at h
  | _ :: _, [], _, h, _, _ => by simp at h
structure Resh (a : Arr) (es : List Dim) : Prop where
  oka : OkA a.dims a.attrs a.cells
  sch : schemaF es a.attrs = 0
  fin : ∀ i, i < a.dims.length → (at_ a.dims i).hi ≤ 1073741824
  fin' : ∀ i, i < es.length → (at_ es i).hi ≤ 1073741824
  same : prodF a.dims = prodF es
def reshA (a : Arr) (es : List Dim) : Arr := ⟨es, a.attrs, sortF (a.cells.map (reshC a.dims es))⟩
theorem vol_ok {ds : List Dim} (h : (volF ds).2 = 0) : dimsF ds = 0 ∧ (∀ i, i < ds.length → (at_ ds i).hi ≤ 1073741824) ∧ (volF ds).1 = prodF ds := by
  unfold volF at h ⊢
  split at h
  · rename_i h1; exact absurd h h1
  split at h
  · simp at h
  rename_i h1 h2
  have hd : dimsF ds = 0 := by simpa using h1
  rw [if_neg h1, if_neg h2]
  refine ⟨hd, fun i hi => ?_, by rw [volGo_ok h]; omega⟩
  have hb := boundsF_ok.1 ((dimsF_ok hd).2.2.1 _ (at_mem hi)).1
  have : ¬ (at_ ds i).hi = 1073741825 := fun e => h2 (List.any_eq_true.2 ⟨_, at_mem hi, by simp [e]⟩)
  omega
theorem reshF_cases (a : Arr) (es : List Dim) (hc : chkA a = 0) : (∃ e, e ≠ 0 ∧ reshF a es = (none, e)) ∨ (Resh a es ∧ (volF a.dims).2 = 0 ∧ (volF es).2 = 0 ∧ (volF a.dims).1 = (volF es).1 ∧ reshF a es = (some (reshA a es), 0)) := by
  have hA := okA hc
  unfold reshF
  rw [if_neg (by simp [hc])]
  by_cases h1 : schemaF es a.attrs = 0
  · rw [if_neg (by simp [h1])]
    by_cases h2 : (volF a.dims).2 = 0
    · rw [if_neg (by simp [h2])]
      by_cases h3 : (volF es).2 = 0
      · rw [if_neg (by simp [h3])]
        by_cases h4 : (volF a.dims).1 = (volF es).1
        · rw [if_neg (by simp [h4])]
          obtain ⟨_, f1, f2⟩ := vol_ok h2
          obtain ⟨_, g1, g2⟩ := vol_ok h3
          refine .inr ⟨⟨hA, h1, f1, g1, by rw [← f2, ← g2, h4]⟩, h2, h3, h4, ?_⟩
          unfold resF
          rw [if_neg (by rw [List.length_map]; have := hA.few; omega)]
          rfl
        · rw [if_pos (by simp [h4])]; exact .inl ⟨13, by decide, rfl⟩
      · rw [if_pos (by simp [h3])]; exact .inl ⟨_, h3, rfl⟩
    · rw [if_pos (by simp [h2])]; exact .inl ⟨_, h2, rfl⟩
  · rw [if_pos (by simp [h1])]; exact .inl ⟨_, h1, rfl⟩
section
variable {a : Arr} {es : List Dim}
theorem Resh.ext (h : Resh a es) : (∀ d ∈ a.dims, 0 < extF d) ∧ ∀ d ∈ es, 0 < extF d :=
  ⟨fun d hd => ext_pos ((dimsF_ok (schemaF_ok h.oka.sch).1).2.2.1 d hd).1, fun d hd => ext_pos ((dimsF_ok (schemaF_ok h.sch).1).2.2.1 d hd).1⟩
theorem Resh.cell (h : Resh a es) {c : Cell} (hc : c ∈ a.cells) : c.at'.length = a.dims.length ∧ ∀ i, i < a.dims.length → (at_ a.dims i).lo ≤ at_ c.at' i ∧ at_ c.at' i ≤ (at_ a.dims i).hi := by
  obtain ⟨h1, h2, h3, h4⟩ := cellF_ok.1 (h.oka.cel c hc)
  rw [withinL_iff h1] at h3
  refine ⟨h1, fun i hi => ?_⟩
  have := h3 i hi
  unfold lastF at this
  omega
theorem resh_back (h : Resh a es) {c : Cell} (hc : c ∈ a.cells) : reshC es a.dims (reshC a.dims es c) = c := by
  obtain ⟨h1, h2⟩ := h.cell hc
  obtain ⟨b1, b2⟩ := row_bound (n := 0) h1 h2 (by omega)
  have hq : (unG es (rowGo 0 a.dims c.at')).2 = 0 := by
    rw [un_quot h.ext.2]
    exact Int.ediv_eq_zero_of_lt (by omega) (by rw [← h.same]; omega)
  have e1 : rowGo 0 es (unG es (rowGo 0 a.dims c.at')).1 = rowGo 0 a.dims c.at' := by
    have := row_un (ds := es) (k := rowGo 0 a.dims c.at')
    rwa [hq] at this
  show Cell.mk (unG a.dims (rowGo 0 es (unG es (rowGo 0 a.dims c.at')).1)).1 c.vals = c
  rw [e1, un_row h1 h2]
theorem resh_diff (h : Resh a es) : (a.cells.map (reshC a.dims es)).Pairwise diffC := by
  rw [List.pairwise_map]
  refine List.Pairwise.imp_of_mem ?_ (diff_of_sorted h.oka.srt)
  intro x y hx hy hd e
  apply hd
  have e1 := resh_back h hx
  have e2 := resh_back h hy
  have : (reshC es a.dims (reshC a.dims es x)).at' = (reshC es a.dims (reshC a.dims es y)).at' := by
    show (unG a.dims (rowGo 0 es (reshC a.dims es x).at')).1 = (unG a.dims (rowGo 0 es (reshC a.dims es y).at')).1
    rw [e]
  rwa [e1, e2] at this
end
end Go.Proofs.YtpejdgkaapnekaaGreat
namespace Go.Proofs.YtpejdgkaapnekaaGreat
open Go Go.Abs
def pickF {α : Type} [Inhabited α] (l : List α) (ks : List Int) : List α := ks.map fun k => at_ l k.toNat
def selGo (ds : List Dim) : List Int → List (List UInt8) → Option (List Int)
  | acc, [] => some acc
  | acc, n :: r => if dimX ds n < 0 then none else if acc.contains (dimX ds n) then none else selGo ds (acc ++ [dimX ds n]) r
def permC (ks : List Int) (c : Cell) : Cell := ⟨pickF c.at' ks, c.vals⟩
def transF (a : Arr) (names : List (List UInt8)) : Option Arr × Int :=
  if chkA a ≠ 0 then (none, 2)
  else if (names.length : Int) ≠ a.dims.length then (none, 13)
  else match selGo a.dims [] names with
    | none => (none, 11)
    | some ks => resF (pickF a.dims ks) a.attrs (a.cells.map (permC ks))
theorem sel_ok {ds : List Dim} : ∀ {names : List (List UInt8)} {acc ks : List Int}, selGo ds acc names = some ks → ks = acc ++ names.map (dimX ds) ∧ (∀ n ∈ names, ¬ dimX ds n < 0) ∧ (acc.Nodup → ks.Nodup)
  | [], acc, ks, h => by
    simp only [selGo, Option.some.injEq] at h
    subst h; simp
  | n :: r, acc, ks, h => by
    simp only [selGo] at h
    split at h
    · cases h
    split at h
    · cases h
    rename_i h1 h2
    obtain ⟨e1, e2, e3⟩ := sel_ok h
    refine ⟨by rw [e1]; simp, fun x hx => ?_, fun hn => e3 ?_⟩
    · rcases List.mem_cons.1 hx with rfl | hx
      · exact h1
      · exact e2 x hx
    · have h3 : dimX ds n ∉ acc := by simpa using h2
      rw [List.nodup_append]
      exact ⟨hn, by simp, fun a ha b hb => by rw [List.mem_singleton.1 hb]; rintro rfl; exact h3 ha⟩
theorem sel_mk {ds : List Dim} : ∀ {names : List (List UInt8)} {acc : List Int}, (∀ n ∈ names, ¬ dimX ds n < 0) → (acc ++ names.map (dimX ds)).Nodup → selGo ds acc names = some (acc ++ names.map (dimX ds))
  | [], acc, _, _ => by simp [selGo]
  | n :: r, acc, h1, h2 => by
    have h3 : dimX ds n ∉ acc := fun hm => by
      rw [List.nodup_append] at h2
      exact h2.2.2 _ hm _ (by simp) rfl
    rw [selGo, if_neg (h1 n List.mem_cons_self), if_neg (by simpa using h3), sel_mk (fun x hx => h1 x (List.mem_cons_of_mem _ hx)) (by simpa using h2)]
    simp
theorem len_le : ∀ {m : Nat} {l : List Nat}, l.Nodup → (∀ x ∈ l, x < m) → l.length ≤ m
  | 0, l, _, h => by
    cases l with
    | nil => simp
    | cons x r => exact absurd (h x List.mem_cons_self) (Nat.not_lt_zero _)
  | m + 1, l, hn, h => by
    by_cases hm : m ∈ l
    · have h1 := len_le (m := m) (l := l.erase m) (hn.erase m) fun x hx => by
        have h2 := (hn.mem_erase_iff).1 hx
        have := h x h2.2
        omega
      rw [List.length_erase_of_mem hm] at h1
      omega
    · have h1 := len_le (m := m) (l := l) hn fun x hx => by
        have := h x hx
        have : x ≠ m := fun e => hm (e ▸ hx)
        omega
      omega
theorem pigeon {l : List Nat} {n : Nat} (hn : l.Nodup) (hl : l.length = n) (h : ∀ x ∈ l, x < n) {i : Nat} (hi : i < n) : i ∈ l := by
  by_cases hm : i ∈ l
  · exact hm
  · have h1 := len_le (m := n) (l := i :: l) (List.nodup_cons.2 ⟨hm, hn⟩) fun x hx => by
      rcases List.mem_cons.1 hx with rfl | hx
      · exact hi
      · exact h x hx
    simp only [List.length_cons] at h1
    omega
structure Tran (a : Arr) (names : List (List UInt8)) : Prop where
  oka : OkA a.dims a.attrs a.cells
  len : names.length = a.dims.length
  all : ∀ n ∈ names, ¬ dimX a.dims n < 0
  nd : (names.map (dimX a.dims)).Nodup
def ixs (ds : List Dim) (names : List (List UInt8)) : List Int := names.map (dimX ds)
def tranA (a : Arr) (names : List (List UInt8)) : Arr := ⟨pickF a.dims (ixs a.dims names), a.attrs, sortF (a.cells.map (permC (ixs a.dims names)))⟩
theorem transF_cases (a : Arr) (names : List (List UInt8)) (hc : chkA a = 0) : (∃ e, e ≠ 0 ∧ transF a names = (none, e)) ∨ (Tran a names ∧ transF a names = (some (tranA a names), 0)) := by
  unfold transF
  rw [if_neg (by simp [hc])]
  by_cases h1 : names.length = a.dims.length
  · rw [if_neg (by simp [h1])]
    cases hs : selGo a.dims [] names with
    | none => exact .inl ⟨11, by decide, rfl⟩
    | some ks =>
      obtain ⟨e1, e2, e3⟩ := sel_ok hs
      simp only [List.nil_append] at e1
      refine .inr ⟨⟨okA hc, h1, e2, e1 ▸ e3 (by simp)⟩, ?_⟩
      subst e1
      show resF _ _ _ = _
      unfold resF
      rw [if_neg (by rw [List.length_map]; have := (okA hc).few; omega)]
      rfl
  · rw [if_pos (by omega)]
    exact .inl ⟨13, by decide, rfl⟩
theorem pick_at {α : Type} [Inhabited α] {l : List α} {ks : List Int} {i : Nat} (h : i < ks.length) : at_ (pickF l ks) i = at_ l (at_ ks i).toNat := by
  unfold pickF; rw [at_mapN h]
theorem pick_len {α : Type} [Inhabited α] {l : List α} {ks : List Int} : (pickF l ks).length = ks.length := by simp [pickF]
theorem dimX_one {ds : List Dim} (hn : (ds.map Dim.name).Nodup) {j : Nat} (hj : j < ds.length) {n : List UInt8} (h : (at_ ds j).name = n) : dimX ds n = (j : Int) := by
  have h0 : ¬ dimX ds n < 0 := fun hx => by
    have := idxGo_none hx _ (at_mem hj)
    simp [h] at this
  obtain ⟨k, h1, h2, h3, _⟩ := dimX_at h0
  have := names_nd hn h2 hj (h3.trans h.symm)
  rw [h1, this]
section
variable {a : Arr} {names : List (List UInt8)}
theorem Tran.ix (h : Tran a names) {i : Nat} (hi : i < names.length) : ∃ k : Nat, at_ (ixs a.dims names) i = (k : Int) ∧ k < a.dims.length ∧ (at_ a.dims k).name = at_ names i := by
  obtain ⟨k, h1, h2, h3, _⟩ := dimX_at (h.all _ (at_mem hi))
  exact ⟨k, by unfold ixs; rw [at_mapN hi, h1], h2, h3⟩
theorem ix_len : (ixs a.dims names).length = names.length := by simp [ixs]
theorem Tran.nms (h : Tran a names) : (tranA a names).dims.map Dim.name = names := by
  refine at_ext (by simp [tranA, pickF, ixs]) fun i hi => ?_
  have hi' : i < names.length := by simpa [tranA, pickF, ixs] using hi
  obtain ⟨k, h1, h2, h3⟩ := h.ix hi'
  rw [at_mapN (by show i < (pickF _ _).length; rw [pick_len, ix_len]; exact hi')]
  show (at_ (pickF a.dims (ixs a.dims names)) i).name = _
  rw [pick_at (by rw [ix_len]; exact hi'), h1]
  exact h3
theorem Tran.namesNd (h : Tran a names) : names.Nodup := by
  have := h.nd
  rw [List.Nodup, List.pairwise_map] at this
  exact this.imp fun hne e => hne (by rw [e])
theorem Tran.onto (h : Tran a names) {i : Nat} (hi : i < a.dims.length) : ∃ j, j < names.length ∧ at_ (ixs a.dims names) j = (i : Int) := by
  have hlt : ∀ x ∈ (ixs a.dims names).map Int.toNat, x < a.dims.length := fun x hx => by
    obtain ⟨y, hy, rfl⟩ := List.mem_map.1 hx
    obtain ⟨j, hj, rfl⟩ := at_ofmem hy
    rw [ix_len] at hj
    obtain ⟨k, h1, h2, _⟩ := h.ix hj
    rw [h1]; simpa using h2
  have hnd : ((ixs a.dims names).map Int.toNat).Nodup := by
    rw [List.Nodup, List.pairwise_map]
    refine List.Pairwise.imp_of_mem ?_ h.nd
    intro x y hx hy hne e
    apply hne
    obtain ⟨j, hj, rfl⟩ := at_ofmem (l := ixs a.dims names) hx
    obtain ⟨j', hj', rfl⟩ := at_ofmem (l := ixs a.dims names) hy
    rw [ix_len] at hj hj'
    obtain ⟨k, h1, _⟩ := h.ix hj
    obtain ⟨k', h1', _⟩ := h.ix hj'
    rw [h1, h1'] at e ⊢
    have e' : k = k' := by simpa using e
    rw [e']
  have := pigeon hnd (by rw [List.length_map, ix_len]; exact h.len) hlt hi
  obtain ⟨y, hy, e⟩ := List.mem_map.1 this
  obtain ⟨j, hj, rfl⟩ := at_ofmem hy
  rw [ix_len] at hj
  obtain ⟨k, h1, _⟩ := h.ix hj
  exact ⟨j, hj, by rw [h1] at e ⊢; simp at e; rw [e]⟩
theorem Tran.cell (h : Tran a names) {c : Cell} (hc : c ∈ a.cells) : c.at'.length = a.dims.length := (cellF_ok.1 (h.oka.cel c hc)).1
theorem Tran.old (h : Tran a names) {i : Nat} (hi : i < a.dims.length) : ∃ j : Nat, j < names.length ∧ dimX (tranA a names).dims (at_ a.dims i).name = (j : Int) ∧ at_ (ixs a.dims names) j = (i : Int) := by
  obtain ⟨j, hj, he⟩ := h.onto hi
  refine ⟨j, hj, dimX_one (by rw [h.nms]; exact h.namesNd) (by show j < (pickF _ _).length; rw [pick_len, ix_len]; exact hj) ?_, he⟩
  show (at_ (pickF a.dims (ixs a.dims names)) j).name = _
  rw [pick_at (by rw [ix_len]; exact hj), he]
  rfl
theorem Tran.ixold (h : Tran a names) {i : Nat} (hi : i < a.dims.length) : ∃ j : Nat, j < names.length ∧ at_ (ixs (tranA a names).dims (a.dims.map Dim.name)) i = (j : Int) ∧ at_ (ixs a.dims names) j = (i : Int) := by
  obtain ⟨j, h1, h2, h3⟩ := h.old hi
  refine ⟨j, h1, ?_, h3⟩
  unfold ixs
  rw [at_mapN (by simpa using hi), at_mapN hi]
  exact h2
theorem perm_back (h : Tran a names) {α : Type} [Inhabited α] {l : List α} (hl : l.length = a.dims.length) : pickF (pickF l (ixs a.dims names)) (ixs (tranA a names).dims (a.dims.map Dim.name)) = l := by
  refine at_ext (by rw [pick_len]; simp [ixs, hl]) fun i hi => ?_
  have hi' : i < a.dims.length := by simpa [pick_len, ixs] using hi
  obtain ⟨j, h1, h2, h3⟩ := h.ixold hi'
  rw [pick_at (by simp [ixs]; exact hi'), h2]
  show at_ (pickF l (ixs a.dims names)) j = _
  rw [pick_at (by rw [ix_len]; exact h1), h3]
  rfl
theorem tran_diff (h : Tran a names) : (a.cells.map (permC (ixs a.dims names))).Pairwise diffC := by
  rw [List.pairwise_map]
  refine List.Pairwise.imp_of_mem ?_ (diff_of_sorted h.oka.srt)
  intro x y hx hy hd e
  apply hd
  have e1 := perm_back h (h.cell hx)
  have e2 := perm_back h (h.cell hy)
  have e' : pickF x.at' (ixs a.dims names) = pickF y.at' (ixs a.dims names) := e
  rw [e', e2] at e1
  exact e1.symm
end
end Go.Proofs.YtpejdgkaapnekaaGreat
namespace Go.Proofs.YtpejdgkaapnekaaGreat
open Go Go.Abs
def renA (a : Arr) (n m : List UInt8) : Arr :=
  if 0 ≤ dimX a.dims n then ⟨a.dims.set (dimX a.dims n).toNat ⟨m, (at_ a.dims (dimX a.dims n).toNat).lo, (at_ a.dims (dimX a.dims n).toNat).hi⟩, a.attrs, a.cells⟩
  else ⟨a.dims, a.attrs.set (atX a.attrs n).toNat ⟨m, (at_ a.attrs (atX a.attrs n).toNat).type⟩, a.cells⟩
theorem attrsGo_iff : ∀ {ats : List Attr} {met : List (List UInt8)}, attrsGo met ats = 0 ↔ (∀ x ∈ ats, nameF x.name = true ∧ x.name ∉ met ∧ 1 ≤ x.type ∧ x.type ≤ 4) ∧ (ats.map Attr.name).Nodup
  | [], met => by simp [attrsGo]
  | x :: r, met => by
    have ih := attrsGo_iff (ats := r) (met := met ++ [x.name])
    simp only [attrsGo]
    constructor
    · intro h
      split at h
      · omega
      split at h
      · omega
      rename_i h1 h2
      obtain ⟨i1, i2⟩ := ih.1 h
      simp only [Bool.or_eq_true, Bool.not_eq_true', not_or, Bool.not_eq_false, Bool.not_eq_true, List.contains_eq_mem, decide_eq_true_eq, decide_eq_false_iff_not] at h1
      refine ⟨fun y hy => ?_, ?_⟩
      · rcases List.mem_cons.1 hy with rfl | hy
        · exact ⟨h1.1, h1.2, by omega, by omega⟩
        · obtain ⟨j1, j2, j3, j4⟩ := i1 y hy
          exact ⟨j1, fun hm => j2 (List.mem_append.2 (.inl hm)), j3, j4⟩
      · rw [List.map_cons, List.nodup_cons]
        refine ⟨fun hm => ?_, i2⟩
        obtain ⟨y, hy, he⟩ := List.mem_map.1 hm
        exact (i1 y hy).2.1 (by rw [he]; simp)
    · rintro ⟨h1, h2⟩
      rw [List.map_cons, List.nodup_cons] at h2
      obtain ⟨j1, j2, j3, j4⟩ := h1 x List.mem_cons_self
      rw [if_neg (by simp [j1, j2]), if_neg (by omega)]
      refine ih.2 ⟨fun y hy => ?_, h2.2⟩
      obtain ⟨k1, k2, k3, k4⟩ := h1 y (List.mem_cons_of_mem _ hy)
      refine ⟨k1, fun hm => ?_, k3, k4⟩
      rcases List.mem_append.1 hm with hm | hm
      · exact k2 hm
      · exact h2.1 (List.mem_map.2 ⟨y, hy, List.mem_singleton.1 hm⟩)
theorem atX_at {ats : List Attr} {n : List UInt8} (h : ¬ atX ats n < 0) : ∃ k : Nat, atX ats n = (k : Int) ∧ k < ats.length ∧ (at_ ats k).name = n := by
  obtain ⟨k, h1, h2, h3, _⟩ := idxGo_at h
  exact ⟨k, by unfold atX; rw [h1]; simp, h2, by simpa using h3⟩
theorem dimX_mem {ds : List Dim} {n : List UInt8} : 0 ≤ dimX ds n ↔ n ∈ ds.map Dim.name := by
  constructor
  · intro h
    obtain ⟨k, _, h2, h3, _⟩ := dimX_at (ds := ds) (name := n) (by omega)
    exact List.mem_map.2 ⟨_, at_mem h2, h3⟩
  · intro h
    obtain ⟨d, hd, rfl⟩ := List.mem_map.1 h
    by_cases h0 : dimX ds d.name < 0
    · have := idxGo_none h0 d hd
      simp at this
    · omega
theorem atX_mem {ats : List Attr} {n : List UInt8} : 0 ≤ atX ats n ↔ n ∈ ats.map Attr.name := by
  constructor
  · intro h
    obtain ⟨k, _, h2, h3⟩ := atX_at (ats := ats) (n := n) (by omega)
    exact List.mem_map.2 ⟨_, at_mem h2, h3⟩
  · intro h
    obtain ⟨d, hd, rfl⟩ := List.mem_map.1 h
    by_cases h0 : atX ats d.name < 0
    · have := idxGo_none h0 d hd
      simp at this
    · omega
structure Ren (a : Arr) (n m : List UInt8) : Prop where
  oka : OkA a.dims a.attrs a.cells
  has : n ∈ a.dims.map Dim.name ∨ n ∈ a.attrs.map Attr.name
  nm : nameF m = true
  new : m = n ∨ (m ∉ a.dims.map Dim.name ∧ m ∉ a.attrs.map Attr.name)
section
variable {a : Arr} {n m : List UInt8}
theorem Ren.nd (h : Ren a n m) : (a.dims.map Dim.name).Nodup ∧ (a.attrs.map Attr.name).Nodup ∧ ∀ x, x ∈ a.attrs.map Attr.name → x ∉ a.dims.map Dim.name := by
  have hs := attrsGo_iff.1 (schemaF_ok h.oka.sch).2.2.2
  refine ⟨h.oka.dims.2.2.2, hs.2, fun x hx hd => ?_⟩
  obtain ⟨t, ht, rfl⟩ := List.mem_map.1 hx
  exact (hs.1 t ht).2.1 hd
theorem Ren.which (h : Ren a n m) : (∃ k : Nat, dimX a.dims n = (k : Int) ∧ k < a.dims.length ∧ (at_ a.dims k).name = n ∧ renA a n m = ⟨a.dims.set k ⟨m, (at_ a.dims k).lo, (at_ a.dims k).hi⟩, a.attrs, a.cells⟩) ∨
    (n ∉ a.dims.map Dim.name ∧ ∃ k : Nat, atX a.attrs n = (k : Int) ∧ k < a.attrs.length ∧ (at_ a.attrs k).name = n ∧ renA a n m = ⟨a.dims, a.attrs.set k ⟨m, (at_ a.attrs k).type⟩, a.cells⟩) := by
  by_cases h0 : 0 ≤ dimX a.dims n
  · obtain ⟨k, h1, h2, h3, _⟩ := dimX_at (ds := a.dims) (name := n) (by omega)
    refine .inl ⟨k, h1, h2, h3, ?_⟩
    unfold renA
    rw [if_pos h0, h1]
    rfl
  · have hd : n ∉ a.dims.map Dim.name := fun hh => h0 (dimX_mem.2 hh)
    have ha := h.has.resolve_left hd
    have h4 := atX_mem.2 ha
    obtain ⟨k, h1, h2, h3⟩ := atX_at (ats := a.attrs) (n := n) (by omega)
    refine .inr ⟨hd, k, h1, h2, h3, ?_⟩
    unfold renA
    rw [if_neg h0, h1]
    rfl
end
end Go.Proofs.YtpejdgkaapnekaaGreat
namespace Go.Proofs.YtpejdgkaapnekaaGreat
open Go Go.Abs
attribute [local irreducible] OkOps OkC DRun thenQ blockQ RetQ
set_option maxRecDepth 10000
theorem quo_w {e : Int} (h : 1 ≤ e) : IntKind.i64.wrap (4611686018427387904 / e) = 4611686018427387904 / e := by
  have h1 : (0 : Int) ≤ 4611686018427387904 / e := Int.ediv_nonneg (by omega) (by omega)
  have h2 : (4611686018427387904 : Int) / e ≤ 4611686018427387904 := Int.ediv_le_self _ (by omega)
  exact wrap64 (by omega) (by omega)
theorem vol_w {n e : Int} (h1 : 1 ≤ n) (he : 1 ≤ e) (h : decide (4611686018427387904 / e < n) = false) : IntKind.i64.wrap (n * e) = n * e ∧ 1 ≤ n * e ∧ n * e ≤ 4611686018427387904 := by
  have h' : n ≤ 4611686018427387904 / e := by simpa using h
  have h2 : n * e ≤ 4611686018427387904 := Int.mul_le_of_le_ediv (by omega) h'
  have h3 : 1 * 1 ≤ n * e := Int.mul_le_mul h1 he (by omega) (by omega)
  exact ⟨wrap64 (by omega) (by omega), by omega, h2⟩
theorem ext_w1 {lo hi : Int} (h : -1073741824 ≤ lo ∧ lo ≤ 1073741824 ∧ lo ≤ hi ∧ hi ≤ 1073741825) : IntKind.i64.wrap (hi - lo) = hi - lo := wrap64 (by omega) (by omega)
theorem ext_w2 {lo hi : Int} (h : -1073741824 ≤ lo ∧ lo ≤ 1073741824 ∧ lo ≤ hi ∧ hi ≤ 1073741825) : IntKind.i64.wrap (hi - lo + 1) = hi - lo + 1 := wrap64 (by omega) (by omega)
theorem row_w {n e P : Int} (h0 : 0 ≤ n) (h1 : n < P) (he : 1 ≤ e) (hp : P * e ≤ 4611686018427387904) : 0 ≤ n * e ∧ n * e + e ≤ P * e ∧ n * e ≤ 4611686018427387904 := by
  have h2 : 0 ≤ n * e := Int.mul_nonneg h0 (by omega)
  have h3 : (n + 1) * e ≤ P * e := Int.mul_le_mul_of_nonneg_right (by omega) (by omega)
  rw [Int.add_mul, Int.one_mul] at h3
  exact ⟨h2, h3, by omega⟩
theorem row_w1 {n e P : Int} (h0 : 0 ≤ n) (h1 : n < P) (he : 1 ≤ e) (hp : P * e ≤ 4611686018427387904) : IntKind.i64.wrap (n * e) = n * e := by
  have := row_w h0 h1 he hp
  exact wrap64 (by omega) (by omega)
theorem row_w2 {n e P a : Int} (h0 : 0 ≤ n) (h1 : n < P) (he : 1 ≤ e) (hp : P * e ≤ 4611686018427387904) (ha : -1073741824 ≤ a) (hb : a ≤ 1073741825) : IntKind.i64.wrap (n * e + a) = n * e + a := by
  have := row_w h0 h1 he hp
  exact wrap64 (by omega) (by omega)
theorem row_w3 {n e P a b : Int} (h0 : 0 ≤ n) (h1 : n < P) (he : 1 ≤ e) (hp : P * e ≤ 4611686018427387904) (ha : -1073741824 ≤ a) (hb : a ≤ 1073741825) (ha' : -1073741824 ≤ b) (hb' : b ≤ 1073741825) : IntKind.i64.wrap (n * e + a - b) = n * e + a - b := by
  have := row_w h0 h1 he hp
  exact wrap64 (by omega) (by omega)
structure Dok (ds : List Dim) : Prop where
  len : 1 ≤ ds.length ∧ ds.length ≤ 4
  bnd : ∀ i, i < ds.length → -1073741824 ≤ (at_ ds i).lo ∧ (at_ ds i).lo ≤ 1073741824 ∧ (at_ ds i).lo ≤ (at_ ds i).hi ∧ (at_ ds i).hi ≤ 1073741825
  ext : ∀ i, i < ds.length → 1 ≤ (at_ ds i).hi - (at_ ds i).lo + 1
theorem dok_of {ds : List Dim} (h : dimsF ds = 0) : Dok ds := by
  obtain ⟨h1, h2, h3, _⟩ := dimsF_ok h
  refine ⟨⟨h1, h2⟩, fun i hi => boundsF_ok.1 (h3 _ (at_mem hi)).1, fun i hi => ?_⟩
  have := boundsF_ok.1 (h3 _ (at_mem hi)).1
  omega
theorem idxAny {α : Type} [Inhabited α] {p : α → Bool} {l : List α} : decide (0 ≤ idxGo p l 0) = l.any p := by
  rw [Bool.eq_iff_iff, decide_eq_true_eq, List.any_eq_true]
  constructor
  · intro h
    obtain ⟨k, _, h2, h3, _⟩ := idxGo_at (p := p) (l := l) (j := 0) (by omega)
    exact ⟨_, at_mem h2, h3⟩
  · rintro ⟨x, hx, hp⟩
    by_cases h0 : idxGo p l 0 < 0
    · have := idxGo_none h0 x hx
      rw [hp] at this; cases this
    · omega
theorem c203 (nm : List UInt8) (lo hi : Int) (hb : -1073741824 ≤ lo ∧ lo ≤ 1073741824 ∧ lo ≤ hi ∧ hi ≤ 1073741825) : CallA Tryz.prog 203 [.agg [.d (.str nm), .d (.int .i64 lo), .d (.int .i64 hi)]] [] (.one (.d (.int .i64 (hi - lo + 1)))) [] := by
  refine enter tabOk Tryz.func203 rfl (by decide +kernel) rfl fun hok w0 σ0 φ0 M => ?_
  clear hok
  repeat' (first | (show OkOps _ _ _ _ _ _; first | refine okops_nil ?_ | refine s_plain tabOk rfl rfl rfl rfl rfl ?_ | (show OkOps _ _ _ (Oper.mk _ (Op.binOp .add _ _ _ _) _ _ _ (_) :: _) _ _; first | refine s_e envOk rfl rfl rfl (step3_add rfl rfl rfl rfl (wrap64 (by omega) (by omega))) ?_ | fail) | (show OkOps _ _ _ (Oper.mk _ (Op.binOp .sub _ _ _ _) _ _ _ (_) :: _) _ _; first | refine s_e envOk rfl rfl rfl (step3_sub rfl rfl rfl rfl (wrap64 (by omega) (by omega))) ?_ | fail) | (show OkOps _ _ _ (Oper.mk _ (Op.box _ _) _ _ _ (_) :: _) _ _; first | refine s_box 0 rfl rfl rfl rfl rfl rfl ?_ | fail) | fail) | (show OkC _ _ _ _ _; first | refine ok_seq ?_ | refine ok_region ?_ | refine ok_ret ?_ | fail) | (show thenQ _ _ _ _; first | refine then_n ?_ | fail) | (show RetQ _ _ _ _ _ _; first | refine ret_leaf (.inl rfl) rfl rfl ?_ | fail) | fail)
  all_goals rfl
theorem c202 (nm : List UInt8) (lo hi : Int) : CallA Tryz.prog 202 [.agg [.d (.str nm), .d (.int .i64 lo), .d (.int .i64 hi)]] [] (.one (.d (.bool (hi == 1073741825)))) [] := by
  refine enter tabOk Tryz.func202 rfl (by decide +kernel) rfl fun hok w0 σ0 φ0 M => ?_
  clear hok
  repeat' (first | (show OkOps _ _ _ _ _ _; first | refine okops_nil ?_ | refine s_plain tabOk rfl rfl rfl rfl rfl ?_ | (show OkOps _ _ _ (Oper.mk _ (Op.box _ _) _ _ _ (_) :: _) _ _; first | refine s_box 0 rfl rfl rfl rfl rfl rfl ?_ | fail) | fail) | (show OkC _ _ _ _ _; first | refine ok_seq ?_ | refine ok_region ?_ | refine ok_ret ?_ | fail) | (show thenQ _ _ _ _; first | refine then_n ?_ | fail) | (show RetQ _ _ _ _ _ _; first | refine ret_leaf (.inl rfl) rfl rfl ?_ | fail) | fail)
  all_goals rfl
theorem c201 (ds : List Dim) : CallA Tryz.prog 201 [.one (.d (encDims ds)), .one (.d (.fn 202 []))] [] (.one (.d (.bool (ds.any fun d => d.hi == 1073741825)))) [] := by
  refine enter tabOk Tryz.func201 rfl (by decide +kernel) rfl fun hok w0 σ0 φ0 M => ?_
  clear hok
  repeat' (first | (show OkOps _ _ _ _ _ _; first | refine okops_nil ?_ | refine s_plain tabOk rfl rfl rfl rfl rfl ?_ | (show OkOps _ _ _ (Oper.mk _ (Op.call _) _ _ _ (_) :: _) _ _; first | refine s_callF rfl rfl rfl rfl rfl rfl rfl rfl (c244 _ _ _ (fun d => c202 _ _ _) _) rfl ?_ | fail) | fail) | (show OkC _ _ _ _ _; first | refine ok_seq ?_ | refine ok_region ?_ | refine ok_ret ?_ | fail) | (show thenQ _ _ _ _; first | refine then_n ?_ | fail) | (show RetQ _ _ _ _ _ _; first | refine ret_leaf (.inl rfl) rfl rfl ?_ | fail) | fail)
  all_goals (rw [idxAny])
theorem c200 (ds : List Dim) : CallA Tryz.prog 200 [.one (.d (encDims ds))] [] (.one (.d (.int .i64 (dimsF ds)))) [] := by
  by_cases hne : dimsF ds = 0
  · refine enter tabOk Tryz.func200 rfl (by decide +kernel) rfl fun hok w0 σ0 φ0 M => ?_
    clear hok
    repeat' (first | (show OkOps _ _ _ _ _ _; first | refine okops_nil ?_ | refine s_plain tabOk rfl rfl rfl rfl rfl ?_ | refine s_new envOk 0 rfl rfl rfl rfl rfl rfl ?_ | fail) | (show OkC _ _ _ _ _; first | refine ok_seq ?_ | refine ok_region ?_ | fail) | (show thenQ _ _ _ _; first | refine then_n ?_ | fail) | fail)
    refine s_callM 16 [(1000000, 0)] (rav' := .one (.d (.int .i64 0))) (c190b ds hne) rfl rfl rfl rfl rfl rfl ⟨⟨0, rfl, rfl⟩, trivial⟩ ⟨fun i e h1 h2 => ?_, trivial⟩ rfl rfl rfl rfl ?_
    · have h1' : some 0 = some i := h1
      cases h1'
      have h2' : some (AObj.map false false (encMet [])) = some e := h2
      cases h2'
      exact ⟨rfl, rfl⟩
    repeat' (first | (show OkOps _ _ _ _ _ _; first | refine okops_nil ?_ | refine s_plain tabOk rfl rfl rfl rfl rfl ?_ | fail) | (show OkC _ _ _ _ _; first | refine ok_ret ?_ | fail) | (show thenQ _ _ _ _; first | refine then_n ?_ | fail) | (show RetQ _ _ _ _ _ _; first | refine ret_leaf (.inl rfl) rfl rfl ?_ | fail) | fail)
    all_goals rw [hne]
  · refine enter tabOk Tryz.func200 rfl (by decide +kernel) rfl fun hok w0 σ0 φ0 M => ?_
    clear hok
    repeat' (first | (show OkOps _ _ _ _ _ _; first | refine okops_nil ?_ | refine s_plain tabOk rfl rfl rfl rfl rfl ?_ | refine s_new envOk 0 rfl rfl rfl rfl rfl rfl ?_ | fail) | (show OkC _ _ _ _ _; first | refine ok_seq ?_ | refine ok_region ?_ | fail) | (show thenQ _ _ _ _; first | refine then_n ?_ | fail) | fail)
    refine s_callM 16 [(1000000, 0)] (rav' := .one (.d (.int .i64 (dimsF ds)))) (c190a ds hne) rfl rfl rfl rfl rfl rfl ⟨⟨0, rfl, rfl⟩, trivial⟩ trivial rfl rfl rfl rfl ?_
    repeat' (first | (show OkOps _ _ _ _ _ _; first | refine okops_nil ?_ | refine s_plain tabOk rfl rfl rfl rfl rfl ?_ | fail) | (show OkC _ _ _ _ _; first | refine ok_ret ?_ | fail) | (show thenQ _ _ _ _; first | refine then_n ?_ | fail) | (show RetQ _ _ _ _ _ _; first | refine ret_leaf (.inl rfl) rfl rfl ?_ | fail) | fail)
    all_goals rfl
theorem volF_no {ds : List Dim} (h : dimsF ds ≠ 0) : volF ds = (0, dimsF ds) := by unfold volF; rw [if_pos h]
theorem volF_open {ds : List Dim} (h : dimsF ds = 0) (h2 : (ds.any fun d => d.hi == 1073741825) = true) : volF ds = (0, 3) := by unfold volF; rw [if_neg (by simp [h]), if_pos h2]
theorem volF_go {ds : List Dim} (h : dimsF ds = 0) (h2 : (ds.any fun d => d.hi == 1073741825) = false) : volF ds = volGo 1 ds := by unfold volF; rw [if_neg (by simp [h]), if_neg (by simp [h2])]
def volAV (r : Int × Int) : AV := .tup [(false, [.d (.int .i64 r.1)]), (false, [.d (.int .i64 r.2)])]
theorem c132 (ds : List Dim) : CallA Tryz.prog 132 [.one (.d (encDims ds))] [] (volAV (volF ds)) [] := by
  refine enter tabOk Tryz.func132 rfl (by decide +kernel) rfl fun hok w0 σ0 φ0 M => ?_
  have h1 := hok.1.sl; clear hok; simp only [List.length_map] at h1; replace h1 := h1.1
  by_cases hd : dimsF ds = 0
  · have hD := dok_of hd
    have hb0 : (dimsF ds != 0) = false := by simp [hd]
    have h4 := hD.len
    repeat' (first | (show OkOps _ _ _ _ _ _; first | (show OkOps _ _ _ (Oper.mk _ (Op.binOp .quo _ _ _ _) _ _ _ (_) :: _) _ _; first | refine s_e envOk rfl rfl rfl (step3_quoE rfl rfl rfl rfl (by omega) (Int.lt_of_lt_of_le Int.zero_lt_one (hD.ext _ (by first | omega | ((try simp only [decide_eq_true_eq, decide_eq_false_iff_not, Bool.not_eq_true', Bool.not_true, Bool.not_false, List.length_map, List.length_set, bne_iff_ne, ne_eq, beq_iff_eq, bne_eq_false_iff_eq, beq_eq_false_iff_ne] at *); omega)))) (quo_w (hD.ext _ (by first | omega | ((try simp only [decide_eq_true_eq, decide_eq_false_iff_not, Bool.not_eq_true', Bool.not_true, Bool.not_false, List.length_map, List.length_set, bne_iff_ne, ne_eq, beq_iff_eq, bne_eq_false_iff_eq, beq_eq_false_iff_ne] at *); omega))))) ?_ | fail) | (show OkOps _ _ _ (Oper.mk _ (Op.binOp .mul _ _ _ _) _ _ _ (_) :: _) _ _; first | refine s_e envOk rfl rfl rfl (step3_mul rfl rfl rfl rfl (vol_w hn1 (hD.ext _ (by first | omega | ((try simp only [decide_eq_true_eq, decide_eq_false_iff_not, Bool.not_eq_true', Bool.not_true, Bool.not_false, List.length_map, List.length_set, bne_iff_ne, ne_eq, beq_iff_eq, bne_eq_false_iff_eq, beq_eq_false_iff_ne] at *); omega))) (by assumption)).1) ?_ | fail) | refine okops_nil ?_ | refine s_plain tabOk rfl rfl rfl rfl rfl ?_ | (show OkOps _ _ _ (Oper.mk _ (Op.binOp .add _ _ _ _) _ _ _ (_) :: _) _ _; first | refine s_e envOk rfl rfl rfl (step3_add rfl rfl rfl rfl (wrap64 (by omega) (by omega))) ?_ | fail) | (show OkOps _ _ _ (Oper.mk _ (Op.indexAddr _ _ _) _ _ _ (_) :: _) _ _; first | refine s_e envOk rfl rfl rfl (step3_idx rfl rfl rfl rfl rfl (by first | omega | ((try simp only [decide_eq_true_eq, decide_eq_false_iff_not, Bool.not_eq_true', Bool.not_true, Bool.not_false, List.length_map, List.length_set, bne_iff_ne, ne_eq, beq_iff_eq, bne_eq_false_iff_eq, beq_eq_false_iff_ne] at *); omega)) (at_map (by first | omega | ((try simp only [decide_eq_true_eq, decide_eq_false_iff_not, Bool.not_eq_true', Bool.not_true, Bool.not_false, List.length_map, List.length_set, bne_iff_ne, ne_eq, beq_iff_eq, bne_eq_false_iff_eq, beq_eq_false_iff_ne] at *); omega)))) ?_ | fail) | (show OkOps _ _ _ (Oper.mk _ (Op.call _) _ _ _ (_) :: _) _ _; first | refine s_callF rfl rfl rfl rfl rfl rfl rfl rfl (c200 _) rfl ?_ | refine s_callF rfl rfl rfl rfl rfl rfl rfl rfl (c201 _) rfl ?_ | refine s_callF rfl rfl rfl rfl rfl rfl rfl rfl (c203 _ _ _ (hD.bnd _ (by first | omega | ((try simp only [decide_eq_true_eq, decide_eq_false_iff_not, Bool.not_eq_true', Bool.not_true, Bool.not_false, List.length_map, List.length_set, bne_iff_ne, ne_eq, beq_iff_eq, bne_eq_false_iff_eq, beq_eq_false_iff_ne] at *); omega)))) rfl ?_ | fail) | (show OkOps _ _ _ (Oper.mk _ (Op.alloc _) _ _ _ (_) :: _) _ _; first | refine s_alloc tabOk 0 rfl rfl rfl rfl rfl ?_ | fail) | refine s_store envOk rfl rfl rfl ?_ | fail) | (show OkC _ _ _ _ _; first | refine ok_seq ?_ | refine ok_region ?_ | refine ok_block ?_ | refine ok_skip ?_ | refine ok_ret ?_ | refine ok_exit ?_ | refine ok_condKF rfl (by assumption) ?_ | refine ok_cond rfl (fun h => ?_) (fun h => ?_) | refine s_loop 8 rfl [(15, _), (16, _)] (subL_cons rfl (subL_cons rfl subL_nil)) (fun (p : Nat × Int) => [(5, .one (.d (.int .i64 p.2))), (17, .one (.d (.int .i64 (p.1 : Int))))]) (fun (p : Nat × Int) => p.1 ≤ ds.length ∧ volGo 1 ds = volGo p.2 (ds.drop p.1) ∧ 1 ≤ p.2) (fun (p : Nat × Int) => ds.length - p.1) (0, 1) (subL_cons rfl (subL_cons rfl subL_nil)) ?_ (fun p ⟨hk, hs, hn1⟩ => ?_) | fail) | (show thenQ _ _ _ _; first | refine then_n ?_ | refine then_r ?_ | refine then_x ?_ | fail) | (show blockQ _ _ _ _; first | refine block_n ?_ | refine block_r ?_ | refine block_x rfl ?_ | fail) | (show RetQ _ _ _ _ _ _; first | refine ret_leaf (.inl rfl) rfl rfl ?_ | fail) | (show Exists _; first | refine Exists.intro ((p.1 + 1, p.2 * ((at_ ds p.1).hi - (at_ ds p.1).lo + 1))) ⟨?_, ?_, (by first | exact subL_nil | exact (subL_cons rfl subL_nil) | exact (subL_cons rfl (subL_cons rfl subL_nil)) | exact (subL_cons rfl (subL_cons rfl (subL_cons rfl subL_nil))) | exact (subL_cons rfl (subL_cons rfl (subL_cons rfl (subL_cons rfl subL_nil)))) | exact (subL_cons rfl (subL_cons rfl (subL_cons rfl (subL_cons rfl (subL_cons rfl subL_nil))))) | exact (subL_cons rfl (subL_cons rfl (subL_cons rfl (subL_cons rfl (subL_cons rfl (subL_cons rfl subL_nil)))))) | exact (subL_cons rfl (subL_cons rfl (subL_cons rfl (subL_cons rfl (subL_cons rfl (subL_cons rfl (subL_cons rfl subL_nil))))))) | exact (subL_cons rfl (subL_cons rfl (subL_cons rfl (subL_cons rfl (subL_cons rfl (subL_cons rfl (subL_cons rfl (subL_cons rfl subL_nil))))))))), (subL_cons rfl (subL_cons rfl subL_nil)), (subL_cons rfl (subL_cons rfl subL_nil))⟩ | fail) | fail)
    · have ha : (ds.any fun d => d.hi == 1073741825) = true := h
      rw [volF_open hd ha]; rfl
    · exact ⟨Nat.zero_le _, rfl, by decide⟩
    all_goals (try rw [Int.toNat_natCast] at *)
    · have hlt : p.1 < ds.length := by simpa using ‹decide ((p.1 : Int) < ((ds.map encDim).length : Int)) = true›
      have hx : 4611686018427387904 / extF (at_ ds p.1) < p.2 := by unfold extF; simpa using h
      rw [volF_go hd ‹_›, hs, at_drop hlt, volGo, if_pos hx]; rfl
    · have hlt : p.1 < ds.length := by simpa using ‹decide ((p.1 : Int) < ((ds.map encDim).length : Int)) = true›
      have hx : ¬ 4611686018427387904 / extF (at_ ds p.1) < p.2 := by unfold extF; simpa using h
      refine ⟨hlt, ?_, (vol_w hn1 (hD.ext _ hlt) h).2.1⟩
      rw [hs, at_drop hlt, volGo, if_neg hx]; rfl
    · have hlt : p.1 < ds.length := by simpa using ‹decide ((p.1 : Int) < ((ds.map encDim).length : Int)) = true›
      show ds.length - (p.1 + 1) < ds.length - p.1
      omega
    · have hge : ds.length ≤ p.1 := by simpa using ‹decide ((p.1 : Int) < ((ds.map encDim).length : Int)) = false›
      rw [volF_go hd ‹_›, hs, List.drop_eq_nil_of_le hge]; rfl
  · have hb0 : (dimsF ds != 0) = true := by simp [hd]
    repeat' (first | (show OkOps _ _ _ _ _ _; first | refine okops_nil ?_ | refine s_plain tabOk rfl rfl rfl rfl rfl ?_ | (show OkOps _ _ _ (Oper.mk _ (Op.call _) _ _ _ (_) :: _) _ _; first | refine s_callF rfl rfl rfl rfl rfl rfl rfl rfl (c200 _) rfl ?_ | fail) | fail) | (show OkC _ _ _ _ _; first | refine ok_seq ?_ | refine ok_region ?_ | refine ok_ret ?_ | refine ok_condKT rfl (by assumption) ?_ | fail) | (show thenQ _ _ _ _; first | refine then_n ?_ | refine then_r ?_ | fail) | (show RetQ _ _ _ _ _ _; first | refine ret_leaf (.inl rfl) rfl rfl ?_ | fail) | fail)
    all_goals (rw [volF_no hd]; rfl)
theorem any_step {p : Dim → Bool} {l : List Dim} {k : Nat} (h : k < l.length) : (l.drop k).any p = (p (at_ l k) || (l.drop (k + 1)).any p) := by rw [at_drop h]; rfl
theorem c135 (ds : List Dim) : CallA Tryz.prog 135 [.one (.d (encDims ds))] [] (volAV (volF ds)) [] := by
  refine enter tabOk Tryz.func135 rfl (by decide +kernel) rfl fun hok w0 σ0 φ0 M => ?_
  have h1 := hok.1.sl; clear hok; simp only [List.length_map] at h1; replace h1 := h1.1
  by_cases hd : dimsF ds = 0
  · have hD := dok_of hd
    have hb0 : (dimsF ds != 0) = false := by simp [hd]
    have h4 := hD.len
    repeat' (first | (show OkOps _ _ _ _ _ _; first | (show OkOps _ _ _ (Oper.mk _ (Op.binOp .quo _ _ _ _) _ _ _ (_) :: _) _ _; first | refine s_e envOk rfl rfl rfl (step3_quoE rfl rfl rfl rfl (by omega) (Int.lt_of_lt_of_le Int.zero_lt_one (hD.ext _ (by first | omega | ((try simp only [decide_eq_true_eq, decide_eq_false_iff_not, Bool.not_eq_true', Bool.not_true, Bool.not_false, List.length_map, List.length_set, bne_iff_ne, ne_eq, beq_iff_eq, bne_eq_false_iff_eq, beq_eq_false_iff_ne] at *); omega)))) (quo_w (hD.ext _ (by first | omega | ((try simp only [decide_eq_true_eq, decide_eq_false_iff_not, Bool.not_eq_true', Bool.not_true, Bool.not_false, List.length_map, List.length_set, bne_iff_ne, ne_eq, beq_iff_eq, bne_eq_false_iff_eq, beq_eq_false_iff_ne] at *); omega))))) ?_ | fail) | (show OkOps _ _ _ (Oper.mk _ (Op.binOp .mul _ _ _ _) _ _ _ (_) :: _) _ _; first | refine s_e envOk rfl rfl rfl (step3_mul rfl rfl rfl rfl (vol_w hn1 (hD.ext _ (by first | omega | ((try simp only [decide_eq_true_eq, decide_eq_false_iff_not, Bool.not_eq_true', Bool.not_true, Bool.not_false, List.length_map, List.length_set, bne_iff_ne, ne_eq, beq_iff_eq, bne_eq_false_iff_eq, beq_eq_false_iff_ne] at *); omega))) (by assumption)).1) ?_ | fail) | refine okops_nil ?_ | refine s_plain tabOk rfl rfl rfl rfl rfl ?_ | (show OkOps _ _ _ (Oper.mk _ (Op.binOp .add _ _ _ _) _ _ _ (_) :: _) _ _; first | refine s_e envOk rfl rfl rfl (step3_add rfl rfl rfl rfl (wrap64 (by omega) (by omega))) ?_ | fail) | (show OkOps _ _ _ (Oper.mk _ (Op.indexAddr _ _ _) _ _ _ (_) :: _) _ _; first | refine s_e envOk rfl rfl rfl (step3_idx rfl rfl rfl rfl rfl (by first | omega | ((try simp only [decide_eq_true_eq, decide_eq_false_iff_not, Bool.not_eq_true', Bool.not_true, Bool.not_false, List.length_map, List.length_set, bne_iff_ne, ne_eq, beq_iff_eq, bne_eq_false_iff_eq, beq_eq_false_iff_ne] at *); omega)) (at_map (by first | omega | ((try simp only [decide_eq_true_eq, decide_eq_false_iff_not, Bool.not_eq_true', Bool.not_true, Bool.not_false, List.length_map, List.length_set, bne_iff_ne, ne_eq, beq_iff_eq, bne_eq_false_iff_eq, beq_eq_false_iff_ne] at *); omega)))) ?_ | fail) | (show OkOps _ _ _ (Oper.mk _ (Op.call _) _ _ _ (_) :: _) _ _; first | refine s_callF rfl rfl rfl rfl rfl rfl rfl rfl (c191 _) rfl ?_ | fail) | fail) | (show OkC _ _ _ _ _; first | refine ok_seq ?_ | refine ok_region ?_ | refine ok_block ?_ | refine ok_skip ?_ | refine ok_ret ?_ | refine ok_exit ?_ | refine ok_condKF rfl (by assumption) ?_ | refine ok_cond rfl (fun h => ?_) (fun h => ?_) | refine ok_regionD progOk.mo ?_ | refine s_loop 5 rfl [(0, _)] (subL_cons rfl subL_nil) (fun (q : Nat) => [(5, .one (.d (.int .i64 (q : Int))))]) (fun (q : Nat) => q ≤ ds.length ∧ (ds.any fun d => d.hi == 1073741825) = ((ds.drop q).any fun d => d.hi == 1073741825)) (fun (q : Nat) => ds.length - q) 0 (subL_cons rfl subL_nil) ?_ (fun q ⟨hq, hqs⟩ => ?_) | refine s_loop 11 rfl [(0, _)] (subL_cons rfl subL_nil) (fun (p : Nat × Int) => [(6, .one (.d (.int .i64 p.2))), (7, .one (.d (.int .i64 (p.1 : Int))))]) (fun (p : Nat × Int) => p.1 ≤ ds.length ∧ volGo 1 ds = volGo p.2 (ds.drop p.1) ∧ 1 ≤ p.2) (fun (p : Nat × Int) => ds.length - p.1) (0, 1) (subL_cons rfl (subL_cons rfl subL_nil)) ?_ (fun p ⟨hk, hs, hn1⟩ => ?_) | fail) | (show thenQ _ _ _ _; first | refine then_n ?_ | refine then_r ?_ | refine then_x ?_ | fail) | (show blockQ _ _ _ _; first | refine block_n ?_ | refine block_r ?_ | refine block_x rfl ?_ | fail) | (show RetQ _ _ _ _ _ _; first | refine ret_leaf (.inl rfl) rfl rfl ?_ | fail) | (show DRun _ _ _ _ _ _ _ _; first | (show DRun _ _ _ _ (Oper.mk _ (Op.binOp .sub _ _ _ _) _ _ _ (_) :: _) _ _ _; first | refine d_e envOk rfl rfl rfl (step3_sub rfl rfl rfl rfl (ext_w1 (hD.bnd _ (by first | omega | ((try simp only [decide_eq_true_eq, decide_eq_false_iff_not, Bool.not_eq_true', Bool.not_true, Bool.not_false, List.length_map, List.length_set, bne_iff_ne, ne_eq, beq_iff_eq, bne_eq_false_iff_eq, beq_eq_false_iff_ne] at *); omega))))) ?_ | fail) | (show DRun _ _ _ _ (Oper.mk _ (Op.binOp .add _ _ _ _) _ _ _ (_) :: _) _ _ _; first | refine d_e envOk rfl rfl rfl (step3_add rfl rfl rfl rfl (ext_w2 (hD.bnd _ (by first | omega | ((try simp only [decide_eq_true_eq, decide_eq_false_iff_not, Bool.not_eq_true', Bool.not_true, Bool.not_false, List.length_map, List.length_set, bne_iff_ne, ne_eq, beq_iff_eq, bne_eq_false_iff_eq, beq_eq_false_iff_ne] at *); omega))))) ?_ | fail) | refine d_nil (by kernel_rfl) ?_ | refine d_e envOk rfl rfl rfl (step3_plain rfl rfl) ?_ | (show DRun _ _ _ _ (Oper.mk _ (Op.indexAddr _ _ _) _ _ _ (_) :: _) _ _ _; first | refine d_e envOk rfl rfl rfl (step3_idx rfl rfl rfl rfl rfl (by first | omega | ((try simp only [decide_eq_true_eq, decide_eq_false_iff_not, Bool.not_eq_true', Bool.not_true, Bool.not_false, List.length_map, List.length_set, bne_iff_ne, ne_eq, beq_iff_eq, bne_eq_false_iff_eq, beq_eq_false_iff_ne] at *); omega)) (at_map (by first | omega | ((try simp only [decide_eq_true_eq, decide_eq_false_iff_not, Bool.not_eq_true', Bool.not_true, Bool.not_false, List.length_map, List.length_set, bne_iff_ne, ne_eq, beq_iff_eq, bne_eq_false_iff_eq, beq_eq_false_iff_ne] at *); omega)))) ?_ | fail) | fail) | (show Exists _; first | refine Exists.intro ((p.1 + 1, p.2 * ((at_ ds p.1).hi - (at_ ds p.1).lo + 1))) ⟨?_, ?_, (by first | exact subL_nil | exact (subL_cons rfl subL_nil) | exact (subL_cons rfl (subL_cons rfl subL_nil)) | exact (subL_cons rfl (subL_cons rfl (subL_cons rfl subL_nil))) | exact (subL_cons rfl (subL_cons rfl (subL_cons rfl (subL_cons rfl subL_nil)))) | exact (subL_cons rfl (subL_cons rfl (subL_cons rfl (subL_cons rfl (subL_cons rfl subL_nil))))) | exact (subL_cons rfl (subL_cons rfl (subL_cons rfl (subL_cons rfl (subL_cons rfl (subL_cons rfl subL_nil)))))) | exact (subL_cons rfl (subL_cons rfl (subL_cons rfl (subL_cons rfl (subL_cons rfl (subL_cons rfl (subL_cons rfl subL_nil))))))) | exact (subL_cons rfl (subL_cons rfl (subL_cons rfl (subL_cons rfl (subL_cons rfl (subL_cons rfl (subL_cons rfl (subL_cons rfl subL_nil))))))))), (subL_cons rfl (subL_cons rfl subL_nil)), (subL_cons rfl subL_nil)⟩ | refine Exists.intro (q + 1) ⟨?_, ?_, (by first | exact subL_nil | exact (subL_cons rfl subL_nil) | exact (subL_cons rfl (subL_cons rfl subL_nil)) | exact (subL_cons rfl (subL_cons rfl (subL_cons rfl subL_nil))) | exact (subL_cons rfl (subL_cons rfl (subL_cons rfl (subL_cons rfl subL_nil)))) | exact (subL_cons rfl (subL_cons rfl (subL_cons rfl (subL_cons rfl (subL_cons rfl subL_nil))))) | exact (subL_cons rfl (subL_cons rfl (subL_cons rfl (subL_cons rfl (subL_cons rfl (subL_cons rfl subL_nil)))))) | exact (subL_cons rfl (subL_cons rfl (subL_cons rfl (subL_cons rfl (subL_cons rfl (subL_cons rfl (subL_cons rfl subL_nil))))))) | exact (subL_cons rfl (subL_cons rfl (subL_cons rfl (subL_cons rfl (subL_cons rfl (subL_cons rfl (subL_cons rfl (subL_cons rfl subL_nil))))))))), (subL_cons rfl subL_nil), (subL_cons rfl subL_nil)⟩ | fail) | fail)
    · exact ⟨Nat.zero_le _, rfl⟩
    all_goals (try rw [Int.toNat_natCast] at *)
    · have hlt : q < ds.length := by simpa using ‹decide ((q : Int) < ((ds.map encDim).length : Int)) = true›
      have ha : (ds.any fun d => d.hi == 1073741825) = true := by rw [hqs, any_step hlt, h]; rfl
      rw [volF_open hd ha]; rfl
    · have hlt : q < ds.length := by simpa using ‹decide ((q : Int) < ((ds.map encDim).length : Int)) = true›
      exact ⟨hlt, by rw [hqs, any_step hlt, h]; rfl⟩
    · have hlt : q < ds.length := by simpa using ‹decide ((q : Int) < ((ds.map encDim).length : Int)) = true›
      show ds.length - (q + 1) < ds.length - q
      omega
    · exact ⟨Nat.zero_le _, rfl, by decide⟩
    all_goals
      have hge : ds.length ≤ q := by simpa using ‹decide ((q : Int) < ((ds.map encDim).length : Int)) = false›
      have ha : (ds.any fun d => d.hi == 1073741825) = false := by rw [hqs, List.drop_eq_nil_of_le hge]; rfl
    · have hlt : p.1 < ds.length := by simpa using ‹decide ((p.1 : Int) < ((ds.map encDim).length : Int)) = true›
      have hx : 4611686018427387904 / extF (at_ ds p.1) < p.2 := by unfold extF; simpa using h
      rw [volF_go hd ha, hs, at_drop hlt, volGo, if_pos hx]; rfl
    · have hlt : p.1 < ds.length := by simpa using ‹decide ((p.1 : Int) < ((ds.map encDim).length : Int)) = true›
      have hx : ¬ 4611686018427387904 / extF (at_ ds p.1) < p.2 := by unfold extF; simpa using h
      refine ⟨hlt, ?_, (vol_w hn1 (hD.ext _ hlt) h).2.1⟩
      rw [hs, at_drop hlt, volGo, if_neg hx]; rfl
    · have hlt : p.1 < ds.length := by simpa using ‹decide ((p.1 : Int) < ((ds.map encDim).length : Int)) = true›
      show ds.length - (p.1 + 1) < ds.length - p.1
      omega
    · have hge : ds.length ≤ p.1 := by simpa using ‹decide ((p.1 : Int) < ((ds.map encDim).length : Int)) = false›
      rw [volF_go hd ha, hs, List.drop_eq_nil_of_le hge]; rfl
  · have hb0 : (dimsF ds != 0) = true := by simp [hd]
    repeat' (first | (show OkOps _ _ _ _ _ _; first | refine okops_nil ?_ | refine s_plain tabOk rfl rfl rfl rfl rfl ?_ | (show OkOps _ _ _ (Oper.mk _ (Op.call _) _ _ _ (_) :: _) _ _; first | refine s_callF rfl rfl rfl rfl rfl rfl rfl rfl (c191 _) rfl ?_ | fail) | fail) | (show OkC _ _ _ _ _; first | refine ok_seq ?_ | refine ok_region ?_ | refine ok_ret ?_ | refine ok_condKT rfl (by assumption) ?_ | fail) | (show thenQ _ _ _ _; first | refine then_n ?_ | refine then_r ?_ | fail) | (show RetQ _ _ _ _ _ _; first | refine ret_leaf (.inl rfl) rfl rfl ?_ | fail) | fail)
    all_goals (rw [volF_no hd]; rfl)
theorem vol_part : ∀ {ds : List Dim} {n : Int}, 1 ≤ n → (∀ d ∈ ds, 1 ≤ extF d) → (volGo n ds).2 = 0 → ∀ k, k < ds.length → n * (prodF (ds.take k) * extF (at_ ds k)) ≤ 4611686018427387904
  | d :: r, n, hn, he, h, k, hk => by
    simp only [volGo] at h
    split at h
    · simp at h
    rename_i h1
    have he1 := he d List.mem_cons_self
    have hw := vol_w hn he1 (by simpa using h1)
    cases k with
    | zero =>
      show n * (1 * extF d) ≤ _
      rw [Int.one_mul]; exact hw.2.2
    | succ k =>
      have ih := vol_part (ds := r) (n := n * extF d) hw.2.1 (fun x hx => he x (List.mem_cons_of_mem _ hx)) h k (by simpa using hk)
      show n * (extF d * prodF (r.take k) * extF (at_ r k)) ≤ _
      rw [Int.mul_assoc, ← Int.mul_assoc]
      exact ih
theorem vol_ext {ds : List Dim} (hd : Dok ds) : ∀ d ∈ ds, 1 ≤ extF d := fun d h => by
  obtain ⟨i, hi, rfl⟩ := at_ofmem h
  exact hd.ext i hi
structure Vok (ds : List Dim) : Prop where
  dok : Dok ds
  fin : ∀ i, i < ds.length → (at_ ds i).hi ≤ 1073741824
  vol : (volF ds).1 = prodF ds
  part : ∀ i, i < ds.length → prodF (ds.take i) * ((at_ ds i).hi - (at_ ds i).lo + 1) ≤ 4611686018427387904
  all : prodF ds ≤ 4611686018427387904
theorem prod_app : ∀ {a b : List Dim}, prodF (a ++ b) = prodF a * prodF b
  | [], b => by simp [prodF]
  | d :: a, b => by simp only [List.cons_append, prodF, prod_app (a := a) (b := b), Int.mul_assoc]
theorem prod_take {ds : List Dim} {k : Nat} (h : k < ds.length) : prodF (ds.take (k + 1)) = prodF (ds.take k) * extF (at_ ds k) := by
  rw [at_take h, prod_app]; simp [prodF]
theorem vok_of {ds : List Dim} (h : (volF ds).2 = 0) : Vok ds := by
  obtain ⟨h1, h2, h3⟩ := vol_ok h
  have hd := dok_of h1
  have ha : (ds.any fun d => d.hi == 1073741825) = false := by
    rw [Bool.eq_false_iff]
    intro hx
    rw [volF_open h1 hx] at h; simp at h
  have hv : (volGo 1 ds).2 = 0 := by rw [volF_go h1 ha] at h; exact h
  have hp := vol_part (ds := ds) (n := 1) (by decide) (vol_ext hd) hv
  refine ⟨hd, h2, h3, fun i hi => by have := hp i hi; rw [Int.one_mul] at this; exact this, ?_⟩
  have hl := hd.len
  have := hp (ds.length - 1) (by omega)
  rw [Int.one_mul, ← prod_take (by omega), show ds.length - 1 + 1 = ds.length from by omega, List.take_length] at this
  exact this
theorem row_step {ds : List Dim} {xs : List Int} {n : Int} {k : Nat} (hk : k < ds.length) (hx : k < xs.length) : rowGo n (ds.drop k) (xs.drop k) = rowGo (n * extF (at_ ds k) + at_ xs k - (at_ ds k).lo) (ds.drop (k + 1)) (xs.drop (k + 1)) := by
  rw [at_drop hk, at_drop hx]; rfl
theorem row_less {n P a lo hi : Int} (h0 : 0 ≤ n) (h1 : n < P) (he : 1 ≤ hi - lo + 1) (hp : P * (hi - lo + 1) ≤ 4611686018427387904) (ha : lo ≤ a) (hb : a ≤ hi) : 0 ≤ n * (hi - lo + 1) + a - lo ∧ n * (hi - lo + 1) + a - lo < P * (hi - lo + 1) := by
  have := row_w h0 h1 he hp
  omega
theorem of_ok {ds : List Dim} {xs : List Int} (h : ofF ds xs = true) (hd : Vok ds) : xs.length = ds.length ∧ ∀ i, i < ds.length → (at_ ds i).lo ≤ at_ xs i ∧ at_ xs i ≤ (at_ ds i).hi := by
  unfold ofF at h
  simp only [Bool.and_eq_true, decide_eq_true_eq] at h
  refine ⟨h.1, fun i hi => ?_⟩
  have h1 := (withinL_iff h.1).1 h.2 i hi
  unfold lastF at h1
  omega
theorem indexF_vol {ds : List Dim} {xs : List Int} (h : (volF ds).2 ≠ 0) : indexF ds xs = (0, (volF ds).2) := by unfold indexF; rw [if_pos h]
theorem indexF_len {ds : List Dim} {xs : List Int} (h : (volF ds).2 = 0) (h2 : (xs.length : Int) ≠ ds.length) : indexF ds xs = (0, 13) := by unfold indexF; rw [if_neg (by simp [h]), if_pos h2]
theorem indexF_out {ds : List Dim} {xs : List Int} (h : (volF ds).2 = 0) (h2 : (xs.length : Int) = ds.length) (h3 : ofF ds xs = false) : indexF ds xs = (0, 3) := by unfold indexF; rw [if_neg (by simp [h]), if_neg (by simp [h2]), if_pos (by simp [h3])]
theorem indexF_in {ds : List Dim} {xs : List Int} (h : (volF ds).2 = 0) (h2 : (xs.length : Int) = ds.length) (h3 : ofF ds xs = true) : indexF ds xs = (rowGo 0 ds xs, 0) := by unfold indexF; rw [if_neg (by simp [h]), if_neg (by simp [h2]), if_neg (by simp [h3])]
theorem c133 (ds : List Dim) (xs : List Int) : CallA Tryz.prog 133 [.one (.d (encDims ds)), .one (.d (encInts xs))] [] (volAV (indexF ds xs)) [] := by
  refine enter tabOk Tryz.func133 rfl (by decide +kernel) rfl fun hok w0 σ0 φ0 M => ?_
  have h1 := hok.1.sl; have h2 := hok.2.1.sl; clear hok; simp only [List.length_map] at h1 h2; replace h1 := h1.1; replace h2 := h2.1
  by_cases hv : (volF ds).2 = 0
  · have hV := vok_of hv
    have hD := hV.dok
    have hb0 : ((volF ds).2 != 0) = false := by simp [hv]
    have h4 := hD.len
    by_cases hl : (xs.length : Int) = ds.length
    · have hb1 : (((xs.map encInt).length : Int) != ((ds.map encDim).length : Int)) = false := by simp; omega
      by_cases hof : ofF ds xs = true
      · have hb2 : (!ofF ds xs) = false := by simp [hof]
        obtain ⟨hxl, hxb⟩ := of_ok hof hV
        have hL : ∀ i, i < ds.length → -1073741824 ≤ (at_ ds i).lo ∧ (at_ ds i).lo ≤ 1073741825 := fun i hi => by have := hD.bnd i hi; omega
        have hX : ∀ i, i < ds.length → -1073741824 ≤ at_ xs i ∧ at_ xs i ≤ 1073741825 := fun i hi => by have := hD.bnd i hi; have := hxb i hi; omega
        repeat' (first | (show OkOps _ _ _ _ _ _; first | refine okops_nil ?_ | refine s_plain tabOk rfl rfl rfl rfl rfl ?_ | (show OkOps _ _ _ (Oper.mk _ (Op.binOp .add _ _ _ _) _ _ _ (_) :: _) _ _; first | refine s_e envOk rfl rfl rfl (step3_add rfl rfl rfl rfl (wrap64 (by omega) (by omega))) ?_ | fail) | (show OkOps _ _ _ (Oper.mk _ (Op.indexAddr _ _ _) _ _ _ (_) :: _) _ _; first | refine s_e envOk rfl rfl rfl (step3_idx rfl rfl rfl rfl rfl (by first | omega | ((try simp only [decide_eq_true_eq, decide_eq_false_iff_not, Bool.not_eq_true', Bool.not_true, Bool.not_false, List.length_map, List.length_set, bne_iff_ne, ne_eq, beq_iff_eq, bne_eq_false_iff_eq, beq_eq_false_iff_ne] at *); omega)) (at_map (by first | omega | ((try simp only [decide_eq_true_eq, decide_eq_false_iff_not, Bool.not_eq_true', Bool.not_true, Bool.not_false, List.length_map, List.length_set, bne_iff_ne, ne_eq, beq_iff_eq, bne_eq_false_iff_eq, beq_eq_false_iff_ne] at *); omega)))) ?_ | fail) | (show OkOps _ _ _ (Oper.mk _ (Op.call _) _ _ _ (_) :: _) _ _; first | refine s_callF rfl rfl rfl rfl rfl rfl rfl rfl (c132 _) rfl ?_ | refine s_callF rfl rfl rfl rfl rfl rfl rfl rfl (c204 _ _) rfl ?_ | fail) | (show OkOps _ _ _ (Oper.mk _ (Op.alloc _) _ _ _ (_) :: _) _ _; first | refine s_alloc tabOk 0 rfl rfl rfl rfl rfl ?_ | fail) | refine s_store envOk rfl rfl rfl ?_ | fail) | (show OkC _ _ _ _ _; first | refine ok_seq ?_ | refine ok_region ?_ | refine ok_block ?_ | refine ok_skip ?_ | refine ok_ret ?_ | refine ok_exit ?_ | refine ok_condKF rfl (by assumption) ?_ | refine ok_cond rfl (fun h => ?_) (fun h => ?_) | refine ok_regionD progOk.mo ?_ | refine s_loop 10 rfl [(1, _), (28, _), (29, _)] (subL_cons rfl (subL_cons rfl (subL_cons rfl subL_nil))) (fun (p : Nat × Int) => [(8, .one (.d (.int .i64 p.2))), (30, .one (.d (.int .i64 (p.1 : Int))))]) (fun (p : Nat × Int) => p.1 ≤ ds.length ∧ rowGo 0 ds xs = rowGo p.2 (ds.drop p.1) (xs.drop p.1) ∧ 0 ≤ p.2 ∧ p.2 < prodF (ds.take p.1)) (fun (p : Nat × Int) => ds.length - p.1) (0, 0) (subL_cons rfl (subL_cons rfl subL_nil)) ?_ (fun p ⟨hk, hs, hn0, hnP⟩ => ?_) | fail) | (show thenQ _ _ _ _; first | refine then_n ?_ | refine then_x ?_ | fail) | (show blockQ _ _ _ _; first | refine block_n ?_ | refine block_x rfl ?_ | fail) | (show RetQ _ _ _ _ _ _; first | refine ret_leaf (.inl rfl) rfl rfl ?_ | fail) | (show DRun _ _ _ _ _ _ _ _; first | (show DRun _ _ _ _ (Oper.mk _ (Op.binOp .mul _ _ _ _) _ _ _ (_) :: _) _ _ _; first | refine d_e envOk rfl rfl rfl (step3_mul rfl rfl rfl rfl (row_w1 hn0 hnP (hD.ext _ (by first | omega | ((try simp only [decide_eq_true_eq, decide_eq_false_iff_not, Bool.not_eq_true', Bool.not_true, Bool.not_false, List.length_map, List.length_set, bne_iff_ne, ne_eq, beq_iff_eq, bne_eq_false_iff_eq, beq_eq_false_iff_ne] at *); omega))) (hV.part _ (by first | omega | ((try simp only [decide_eq_true_eq, decide_eq_false_iff_not, Bool.not_eq_true', Bool.not_true, Bool.not_false, List.length_map, List.length_set, bne_iff_ne, ne_eq, beq_iff_eq, bne_eq_false_iff_eq, beq_eq_false_iff_ne] at *); omega))))) ?_ | fail) | (show DRun _ _ _ _ (Oper.mk _ (Op.binOp .add _ _ _ _) _ _ _ (_) :: _) _ _ _; first | refine d_e envOk rfl rfl rfl (step3_add rfl rfl rfl rfl (row_w2 hn0 hnP (hD.ext _ (by first | omega | ((try simp only [decide_eq_true_eq, decide_eq_false_iff_not, Bool.not_eq_true', Bool.not_true, Bool.not_false, List.length_map, List.length_set, bne_iff_ne, ne_eq, beq_iff_eq, bne_eq_false_iff_eq, beq_eq_false_iff_ne] at *); omega))) (hV.part _ (by first | omega | ((try simp only [decide_eq_true_eq, decide_eq_false_iff_not, Bool.not_eq_true', Bool.not_true, Bool.not_false, List.length_map, List.length_set, bne_iff_ne, ne_eq, beq_iff_eq, bne_eq_false_iff_eq, beq_eq_false_iff_ne] at *); omega))) (hX _ (by first | omega | ((try simp only [decide_eq_true_eq, decide_eq_false_iff_not, Bool.not_eq_true', Bool.not_true, Bool.not_false, List.length_map, List.length_set, bne_iff_ne, ne_eq, beq_iff_eq, bne_eq_false_iff_eq, beq_eq_false_iff_ne] at *); omega))).1 (hX _ (by first | omega | ((try simp only [decide_eq_true_eq, decide_eq_false_iff_not, Bool.not_eq_true', Bool.not_true, Bool.not_false, List.length_map, List.length_set, bne_iff_ne, ne_eq, beq_iff_eq, bne_eq_false_iff_eq, beq_eq_false_iff_ne] at *); omega))).2)) ?_ | fail) | (show DRun _ _ _ _ (Oper.mk _ (Op.binOp .sub _ _ _ _) _ _ _ (_) :: _) _ _ _; first | refine d_e envOk rfl rfl rfl (step3_sub rfl rfl rfl rfl (row_w3 hn0 hnP (hD.ext _ (by first | omega | ((try simp only [decide_eq_true_eq, decide_eq_false_iff_not, Bool.not_eq_true', Bool.not_true, Bool.not_false, List.length_map, List.length_set, bne_iff_ne, ne_eq, beq_iff_eq, bne_eq_false_iff_eq, beq_eq_false_iff_ne] at *); omega))) (hV.part _ (by first | omega | ((try simp only [decide_eq_true_eq, decide_eq_false_iff_not, Bool.not_eq_true', Bool.not_true, Bool.not_false, List.length_map, List.length_set, bne_iff_ne, ne_eq, beq_iff_eq, bne_eq_false_iff_eq, beq_eq_false_iff_ne] at *); omega))) (hX _ (by first | omega | ((try simp only [decide_eq_true_eq, decide_eq_false_iff_not, Bool.not_eq_true', Bool.not_true, Bool.not_false, List.length_map, List.length_set, bne_iff_ne, ne_eq, beq_iff_eq, bne_eq_false_iff_eq, beq_eq_false_iff_ne] at *); omega))).1 (hX _ (by first | omega | ((try simp only [decide_eq_true_eq, decide_eq_false_iff_not, Bool.not_eq_true', Bool.not_true, Bool.not_false, List.length_map, List.length_set, bne_iff_ne, ne_eq, beq_iff_eq, bne_eq_false_iff_eq, beq_eq_false_iff_ne] at *); omega))).2 (hL _ (by first | omega | ((try simp only [decide_eq_true_eq, decide_eq_false_iff_not, Bool.not_eq_true', Bool.not_true, Bool.not_false, List.length_map, List.length_set, bne_iff_ne, ne_eq, beq_iff_eq, bne_eq_false_iff_eq, beq_eq_false_iff_ne] at *); omega))).1 (hL _ (by first | omega | ((try simp only [decide_eq_true_eq, decide_eq_false_iff_not, Bool.not_eq_true', Bool.not_true, Bool.not_false, List.length_map, List.length_set, bne_iff_ne, ne_eq, beq_iff_eq, bne_eq_false_iff_eq, beq_eq_false_iff_ne] at *); omega))).2)) ?_ | fail) | refine d_nil (by kernel_rfl) ?_ | refine d_e envOk rfl rfl rfl (step3_plain rfl rfl) ?_ | (show DRun _ _ _ _ (Oper.mk _ (Op.indexAddr _ _ _) _ _ _ (_) :: _) _ _ _; first | refine d_e envOk rfl rfl rfl (step3_idx rfl rfl rfl rfl rfl (by first | omega | ((try simp only [decide_eq_true_eq, decide_eq_false_iff_not, Bool.not_eq_true', Bool.not_true, Bool.not_false, List.length_map, List.length_set, bne_iff_ne, ne_eq, beq_iff_eq, bne_eq_false_iff_eq, beq_eq_false_iff_ne] at *); omega)) (at_map (by first | omega | ((try simp only [decide_eq_true_eq, decide_eq_false_iff_not, Bool.not_eq_true', Bool.not_true, Bool.not_false, List.length_map, List.length_set, bne_iff_ne, ne_eq, beq_iff_eq, bne_eq_false_iff_eq, beq_eq_false_iff_ne] at *); omega)))) ?_ | fail) | (show DRun _ _ _ _ (Oper.mk _ (Op.call _) _ _ _ (_) :: _) _ _ _; first | refine d_l rfl rfl (loc_callF' rfl rfl rfl rfl rfl rfl (c203 _ _ _ (hD.bnd _ (by first | omega | ((try simp only [decide_eq_true_eq, decide_eq_false_iff_not, Bool.not_eq_true', Bool.not_true, Bool.not_false, List.length_map, List.length_set, bne_iff_ne, ne_eq, beq_iff_eq, bne_eq_false_iff_eq, beq_eq_false_iff_ne] at *); omega)))) rfl) ?_ | fail) | fail) | (show Exists _; first | refine Exists.intro ((p.1 + 1, p.2 * ((at_ ds p.1).hi - (at_ ds p.1).lo + 1) + at_ xs p.1 - (at_ ds p.1).lo)) ⟨?_, ?_, (by first | exact subL_nil | exact (subL_cons rfl subL_nil) | exact (subL_cons rfl (subL_cons rfl subL_nil)) | exact (subL_cons rfl (subL_cons rfl (subL_cons rfl subL_nil))) | exact (subL_cons rfl (subL_cons rfl (subL_cons rfl (subL_cons rfl subL_nil)))) | exact (subL_cons rfl (subL_cons rfl (subL_cons rfl (subL_cons rfl (subL_cons rfl subL_nil))))) | exact (subL_cons rfl (subL_cons rfl (subL_cons rfl (subL_cons rfl (subL_cons rfl (subL_cons rfl subL_nil)))))) | exact (subL_cons rfl (subL_cons rfl (subL_cons rfl (subL_cons rfl (subL_cons rfl (subL_cons rfl (subL_cons rfl subL_nil))))))) | exact (subL_cons rfl (subL_cons rfl (subL_cons rfl (subL_cons rfl (subL_cons rfl (subL_cons rfl (subL_cons rfl (subL_cons rfl subL_nil))))))))), (subL_cons rfl (subL_cons rfl subL_nil)), (subL_cons rfl (subL_cons rfl (subL_cons rfl subL_nil)))⟩ | fail) | fail)
        · exact ⟨Nat.zero_le _, rfl, by decide, by show (0 : Int) < 1; decide⟩
        · have hlt : p.1 < ds.length := by simpa using ‹decide ((p.1 : Int) < ((ds.map encDim).length : Int)) = true›
          have hr := row_less hn0 hnP (hD.ext _ hlt) (hV.part _ hlt) (hxb _ hlt).1 (hxb _ hlt).2
          refine ⟨hlt, ?_, hr.1, ?_⟩
          · rw [hs, row_step hlt (by omega)]; rfl
          · show _ < prodF (ds.take (p.1 + 1))
            rw [prod_take hlt]; exact hr.2
        · have hlt : p.1 < ds.length := by simpa using ‹decide ((p.1 : Int) < ((ds.map encDim).length : Int)) = true›
          show ds.length - (p.1 + 1) < ds.length - p.1
          omega
        · have hge : ds.length ≤ p.1 := by simpa using ‹decide ((p.1 : Int) < ((ds.map encDim).length : Int)) = false›
          rw [indexF_in hv hl hof, hs, List.drop_eq_nil_of_le hge]; rfl
      · have hb2 : (!ofF ds xs) = true := by simp [hof]
        repeat' (first | (show OkOps _ _ _ _ _ _; first | refine okops_nil ?_ | refine s_plain tabOk rfl rfl rfl rfl rfl ?_ | (show OkOps _ _ _ (Oper.mk _ (Op.call _) _ _ _ (_) :: _) _ _; first | refine s_callF rfl rfl rfl rfl rfl rfl rfl rfl (c132 _) rfl ?_ | refine s_callF rfl rfl rfl rfl rfl rfl rfl rfl (c204 _ _) rfl ?_ | fail) | fail) | (show OkC _ _ _ _ _; first | refine ok_seq ?_ | refine ok_region ?_ | refine ok_skip ?_ | refine ok_ret ?_ | refine ok_condKT rfl (by assumption) ?_ | refine ok_condKF rfl (by assumption) ?_ | fail) | (show thenQ _ _ _ _; first | refine then_n ?_ | refine then_r ?_ | fail) | (show RetQ _ _ _ _ _ _; first | refine ret_leaf (.inl rfl) rfl rfl ?_ | fail) | fail)
        all_goals (rw [indexF_out hv hl (by simpa using hof)]; rfl)
    · have hb1 : (((xs.map encInt).length : Int) != ((ds.map encDim).length : Int)) = true := by simp; omega
      repeat' (first | (show OkOps _ _ _ _ _ _; first | refine okops_nil ?_ | refine s_plain tabOk rfl rfl rfl rfl rfl ?_ | (show OkOps _ _ _ (Oper.mk _ (Op.call _) _ _ _ (_) :: _) _ _; first | refine s_callF rfl rfl rfl rfl rfl rfl rfl rfl (c132 _) rfl ?_ | fail) | fail) | (show OkC _ _ _ _ _; first | refine ok_seq ?_ | refine ok_region ?_ | refine ok_skip ?_ | refine ok_ret ?_ | refine ok_condKT rfl (by assumption) ?_ | refine ok_condKF rfl (by assumption) ?_ | fail) | (show thenQ _ _ _ _; first | refine then_n ?_ | refine then_r ?_ | fail) | (show RetQ _ _ _ _ _ _; first | refine ret_leaf (.inl rfl) rfl rfl ?_ | fail) | fail)
      all_goals (rw [indexF_len hv hl]; rfl)
  · have hb0 : ((volF ds).2 != 0) = true := by simp [hv]
    repeat' (first | (show OkOps _ _ _ _ _ _; first | refine okops_nil ?_ | refine s_plain tabOk rfl rfl rfl rfl rfl ?_ | (show OkOps _ _ _ (Oper.mk _ (Op.call _) _ _ _ (_) :: _) _ _; first | refine s_callF rfl rfl rfl rfl rfl rfl rfl rfl (c132 _) rfl ?_ | fail) | fail) | (show OkC _ _ _ _ _; first | refine ok_seq ?_ | refine ok_region ?_ | refine ok_ret ?_ | refine ok_condKT rfl (by assumption) ?_ | fail) | (show thenQ _ _ _ _; first | refine then_n ?_ | refine then_r ?_ | fail) | (show RetQ _ _ _ _ _ _; first | refine ret_leaf (.inl rfl) rfl rfl ?_ | fail) | fail)
    all_goals (rw [indexF_vol hv]; rfl)
theorem c136 (ds : List Dim) (xs : List Int) : CallA Tryz.prog 136 [.one (.d (encDims ds)), .one (.d (encInts xs))] [] (volAV (indexF ds xs)) [] := by
  refine enter tabOk Tryz.func136 rfl (by decide +kernel) rfl fun hok w0 σ0 φ0 M => ?_
  have h1 := hok.1.sl; have h2 := hok.2.1.sl; clear hok; simp only [List.length_map] at h1 h2; replace h1 := h1.1; replace h2 := h2.1
  by_cases hv : (volF ds).2 = 0
  · have hV := vok_of hv
    have hD := hV.dok
    have hb0 : ((volF ds).2 != 0) = false := by simp [hv]
    have h4 := hD.len
    by_cases hl : (xs.length : Int) = ds.length
    · have hb1 : (((xs.map encInt).length : Int) != ((ds.map encDim).length : Int)) = false := by simp; omega
      by_cases hof : ofF ds xs = true
      · have hb2 : (!ofF ds xs) = false := by simp [hof]
        obtain ⟨hxl, hxb⟩ := of_ok hof hV
        have hL : ∀ i, i < ds.length → -1073741824 ≤ (at_ ds i).lo ∧ (at_ ds i).lo ≤ 1073741825 := fun i hi => by have := hD.bnd i hi; omega
        have hX : ∀ i, i < ds.length → -1073741824 ≤ at_ xs i ∧ at_ xs i ≤ 1073741825 := fun i hi => by have := hD.bnd i hi; have := hxb i hi; omega
        repeat' (first | (show OkOps _ _ _ _ _ _; first | refine okops_nil ?_ | refine s_plain tabOk rfl rfl rfl rfl rfl ?_ | (show OkOps _ _ _ (Oper.mk _ (Op.binOp .add _ _ _ _) _ _ _ (_) :: _) _ _; first | refine s_e envOk rfl rfl rfl (step3_add rfl rfl rfl rfl (wrap64 (by omega) (by omega))) ?_ | fail) | (show OkOps _ _ _ (Oper.mk _ (Op.call _) _ _ _ (_) :: _) _ _; first | refine s_callF rfl rfl rfl rfl rfl rfl rfl rfl (c135 _) rfl ?_ | refine s_callF rfl rfl rfl rfl rfl rfl rfl rfl (c100 _ _) rfl ?_ | fail) | fail) | (show OkC _ _ _ _ _; first | refine ok_seq ?_ | refine ok_region ?_ | refine ok_block ?_ | refine ok_skip ?_ | refine ok_ret ?_ | refine ok_exit ?_ | refine ok_condKF rfl (by assumption) ?_ | refine ok_cond rfl (fun h => ?_) (fun h => ?_) | refine ok_regionD progOk.mo ?_ | refine s_loop 10 rfl [(0, _), (1, _)] (subL_cons rfl (subL_cons rfl subL_nil)) (fun (p : Nat × Int) => [(8, .one (.d (.int .i64 p.2))), (9, .one (.d (.int .i64 (p.1 : Int))))]) (fun (p : Nat × Int) => p.1 ≤ ds.length ∧ rowGo 0 ds xs = rowGo p.2 (ds.drop p.1) (xs.drop p.1) ∧ 0 ≤ p.2 ∧ p.2 < prodF (ds.take p.1)) (fun (p : Nat × Int) => ds.length - p.1) (0, 0) (subL_cons rfl (subL_cons rfl subL_nil)) ?_ (fun p ⟨hk, hs, hn0, hnP⟩ => ?_) | fail) | (show thenQ _ _ _ _; first | refine then_n ?_ | refine then_x ?_ | fail) | (show blockQ _ _ _ _; first | refine block_n ?_ | refine block_x rfl ?_ | fail) | (show RetQ _ _ _ _ _ _; first | refine ret_leaf (.inl rfl) rfl rfl ?_ | fail) | (show DRun _ _ _ _ _ _ _ _; first | (show DRun _ _ _ _ (Oper.mk _ (Op.binOp .sub _ _ _ _) _ _ _ (_) :: _) _ _ _; first | refine d_e envOk rfl rfl rfl (step3_sub rfl rfl rfl rfl (ext_w1 (hD.bnd _ (by first | omega | ((try simp only [decide_eq_true_eq, decide_eq_false_iff_not, Bool.not_eq_true', Bool.not_true, Bool.not_false, List.length_map, List.length_set, bne_iff_ne, ne_eq, beq_iff_eq, bne_eq_false_iff_eq, beq_eq_false_iff_ne] at *); omega))))) ?_ | fail) | (show DRun _ _ _ _ (Oper.mk _ (Op.binOp .add _ _ _ _) _ _ _ (_) :: _) _ _ _; first | refine d_e envOk rfl rfl rfl (step3_add rfl rfl rfl rfl (ext_w2 (hD.bnd _ (by first | omega | ((try simp only [decide_eq_true_eq, decide_eq_false_iff_not, Bool.not_eq_true', Bool.not_true, Bool.not_false, List.length_map, List.length_set, bne_iff_ne, ne_eq, beq_iff_eq, bne_eq_false_iff_eq, beq_eq_false_iff_ne] at *); omega))))) ?_ | fail) | (show DRun _ _ _ _ (Oper.mk _ (Op.binOp .mul _ _ _ _) _ _ _ (_) :: _) _ _ _; first | refine d_e envOk rfl rfl rfl (step3_mul rfl rfl rfl rfl (row_w1 hn0 hnP (hD.ext _ (by first | omega | ((try simp only [decide_eq_true_eq, decide_eq_false_iff_not, Bool.not_eq_true', Bool.not_true, Bool.not_false, List.length_map, List.length_set, bne_iff_ne, ne_eq, beq_iff_eq, bne_eq_false_iff_eq, beq_eq_false_iff_ne] at *); omega))) (hV.part _ (by first | omega | ((try simp only [decide_eq_true_eq, decide_eq_false_iff_not, Bool.not_eq_true', Bool.not_true, Bool.not_false, List.length_map, List.length_set, bne_iff_ne, ne_eq, beq_iff_eq, bne_eq_false_iff_eq, beq_eq_false_iff_ne] at *); omega))))) ?_ | fail) | (show DRun _ _ _ _ (Oper.mk _ (Op.binOp .add _ _ _ _) _ _ _ (_) :: _) _ _ _; first | refine d_e envOk rfl rfl rfl (step3_add rfl rfl rfl rfl (row_w2 hn0 hnP (hD.ext _ (by first | omega | ((try simp only [decide_eq_true_eq, decide_eq_false_iff_not, Bool.not_eq_true', Bool.not_true, Bool.not_false, List.length_map, List.length_set, bne_iff_ne, ne_eq, beq_iff_eq, bne_eq_false_iff_eq, beq_eq_false_iff_ne] at *); omega))) (hV.part _ (by first | omega | ((try simp only [decide_eq_true_eq, decide_eq_false_iff_not, Bool.not_eq_true', Bool.not_true, Bool.not_false, List.length_map, List.length_set, bne_iff_ne, ne_eq, beq_iff_eq, bne_eq_false_iff_eq, beq_eq_false_iff_ne] at *); omega))) (hX _ (by first | omega | ((try simp only [decide_eq_true_eq, decide_eq_false_iff_not, Bool.not_eq_true', Bool.not_true, Bool.not_false, List.length_map, List.length_set, bne_iff_ne, ne_eq, beq_iff_eq, bne_eq_false_iff_eq, beq_eq_false_iff_ne] at *); omega))).1 (hX _ (by first | omega | ((try simp only [decide_eq_true_eq, decide_eq_false_iff_not, Bool.not_eq_true', Bool.not_true, Bool.not_false, List.length_map, List.length_set, bne_iff_ne, ne_eq, beq_iff_eq, bne_eq_false_iff_eq, beq_eq_false_iff_ne] at *); omega))).2)) ?_ | fail) | (show DRun _ _ _ _ (Oper.mk _ (Op.binOp .sub _ _ _ _) _ _ _ (_) :: _) _ _ _; first | refine d_e envOk rfl rfl rfl (step3_sub rfl rfl rfl rfl (row_w3 hn0 hnP (hD.ext _ (by first | omega | ((try simp only [decide_eq_true_eq, decide_eq_false_iff_not, Bool.not_eq_true', Bool.not_true, Bool.not_false, List.length_map, List.length_set, bne_iff_ne, ne_eq, beq_iff_eq, bne_eq_false_iff_eq, beq_eq_false_iff_ne] at *); omega))) (hV.part _ (by first | omega | ((try simp only [decide_eq_true_eq, decide_eq_false_iff_not, Bool.not_eq_true', Bool.not_true, Bool.not_false, List.length_map, List.length_set, bne_iff_ne, ne_eq, beq_iff_eq, bne_eq_false_iff_eq, beq_eq_false_iff_ne] at *); omega))) (hX _ (by first | omega | ((try simp only [decide_eq_true_eq, decide_eq_false_iff_not, Bool.not_eq_true', Bool.not_true, Bool.not_false, List.length_map, List.length_set, bne_iff_ne, ne_eq, beq_iff_eq, bne_eq_false_iff_eq, beq_eq_false_iff_ne] at *); omega))).1 (hX _ (by first | omega | ((try simp only [decide_eq_true_eq, decide_eq_false_iff_not, Bool.not_eq_true', Bool.not_true, Bool.not_false, List.length_map, List.length_set, bne_iff_ne, ne_eq, beq_iff_eq, bne_eq_false_iff_eq, beq_eq_false_iff_ne] at *); omega))).2 (hL _ (by first | omega | ((try simp only [decide_eq_true_eq, decide_eq_false_iff_not, Bool.not_eq_true', Bool.not_true, Bool.not_false, List.length_map, List.length_set, bne_iff_ne, ne_eq, beq_iff_eq, bne_eq_false_iff_eq, beq_eq_false_iff_ne] at *); omega))).1 (hL _ (by first | omega | ((try simp only [decide_eq_true_eq, decide_eq_false_iff_not, Bool.not_eq_true', Bool.not_true, Bool.not_false, List.length_map, List.length_set, bne_iff_ne, ne_eq, beq_iff_eq, bne_eq_false_iff_eq, beq_eq_false_iff_ne] at *); omega))).2)) ?_ | fail) | refine d_nil (by kernel_rfl) ?_ | refine d_e envOk rfl rfl rfl (step3_plain rfl rfl) ?_ | (show DRun _ _ _ _ (Oper.mk _ (Op.indexAddr _ _ _) _ _ _ (_) :: _) _ _ _; first | refine d_e envOk rfl rfl rfl (step3_idx rfl rfl rfl rfl rfl (by first | omega | ((try simp only [decide_eq_true_eq, decide_eq_false_iff_not, Bool.not_eq_true', Bool.not_true, Bool.not_false, List.length_map, List.length_set, bne_iff_ne, ne_eq, beq_iff_eq, bne_eq_false_iff_eq, beq_eq_false_iff_ne] at *); omega)) (at_map (by first | omega | ((try simp only [decide_eq_true_eq, decide_eq_false_iff_not, Bool.not_eq_true', Bool.not_true, Bool.not_false, List.length_map, List.length_set, bne_iff_ne, ne_eq, beq_iff_eq, bne_eq_false_iff_eq, beq_eq_false_iff_ne] at *); omega)))) ?_ | fail) | fail) | (show Exists _; first | refine Exists.intro ((p.1 + 1, p.2 * ((at_ ds p.1).hi - (at_ ds p.1).lo + 1) + at_ xs p.1 - (at_ ds p.1).lo)) ⟨?_, ?_, (by first | exact subL_nil | exact (subL_cons rfl subL_nil) | exact (subL_cons rfl (subL_cons rfl subL_nil)) | exact (subL_cons rfl (subL_cons rfl (subL_cons rfl subL_nil))) | exact (subL_cons rfl (subL_cons rfl (subL_cons rfl (subL_cons rfl subL_nil)))) | exact (subL_cons rfl (subL_cons rfl (subL_cons rfl (subL_cons rfl (subL_cons rfl subL_nil))))) | exact (subL_cons rfl (subL_cons rfl (subL_cons rfl (subL_cons rfl (subL_cons rfl (subL_cons rfl subL_nil)))))) | exact (subL_cons rfl (subL_cons rfl (subL_cons rfl (subL_cons rfl (subL_cons rfl (subL_cons rfl (subL_cons rfl subL_nil))))))) | exact (subL_cons rfl (subL_cons rfl (subL_cons rfl (subL_cons rfl (subL_cons rfl (subL_cons rfl (subL_cons rfl (subL_cons rfl subL_nil))))))))), (subL_cons rfl (subL_cons rfl subL_nil)), (subL_cons rfl (subL_cons rfl subL_nil))⟩ | fail) | fail)
        · exact ⟨Nat.zero_le _, rfl, by decide, by show (0 : Int) < 1; decide⟩
        · have hlt : p.1 < ds.length := by simpa using ‹decide ((p.1 : Int) < ((ds.map encDim).length : Int)) = true›
          have hr := row_less hn0 hnP (hD.ext _ hlt) (hV.part _ hlt) (hxb _ hlt).1 (hxb _ hlt).2
          refine ⟨hlt, ?_, hr.1, ?_⟩
          · rw [hs, row_step hlt (by omega)]; rfl
          · show _ < prodF (ds.take (p.1 + 1))
            rw [prod_take hlt]; exact hr.2
        · have hlt : p.1 < ds.length := by simpa using ‹decide ((p.1 : Int) < ((ds.map encDim).length : Int)) = true›
          show ds.length - (p.1 + 1) < ds.length - p.1
          omega
        · have hge : ds.length ≤ p.1 := by simpa using ‹decide ((p.1 : Int) < ((ds.map encDim).length : Int)) = false›
          rw [indexF_in hv hl hof, hs, List.drop_eq_nil_of_le hge]; rfl
      · have hb2 : (!ofF ds xs) = true := by simp [hof]
        repeat' (first | (show OkOps _ _ _ _ _ _; first | refine okops_nil ?_ | refine s_plain tabOk rfl rfl rfl rfl rfl ?_ | (show OkOps _ _ _ (Oper.mk _ (Op.call _) _ _ _ (_) :: _) _ _; first | refine s_callF rfl rfl rfl rfl rfl rfl rfl rfl (c135 _) rfl ?_ | refine s_callF rfl rfl rfl rfl rfl rfl rfl rfl (c100 _ _) rfl ?_ | fail) | fail) | (show OkC _ _ _ _ _; first | refine ok_seq ?_ | refine ok_region ?_ | refine ok_skip ?_ | refine ok_ret ?_ | refine ok_condKT rfl (by assumption) ?_ | refine ok_condKF rfl (by assumption) ?_ | fail) | (show thenQ _ _ _ _; first | refine then_n ?_ | refine then_r ?_ | fail) | (show RetQ _ _ _ _ _ _; first | refine ret_leaf (.inl rfl) rfl rfl ?_ | fail) | fail)
        all_goals (rw [indexF_out hv hl (by simpa using hof)]; rfl)
    · have hb1 : (((xs.map encInt).length : Int) != ((ds.map encDim).length : Int)) = true := by simp; omega
      repeat' (first | (show OkOps _ _ _ _ _ _; first | refine okops_nil ?_ | refine s_plain tabOk rfl rfl rfl rfl rfl ?_ | (show OkOps _ _ _ (Oper.mk _ (Op.call _) _ _ _ (_) :: _) _ _; first | refine s_callF rfl rfl rfl rfl rfl rfl rfl rfl (c135 _) rfl ?_ | fail) | fail) | (show OkC _ _ _ _ _; first | refine ok_seq ?_ | refine ok_region ?_ | refine ok_skip ?_ | refine ok_ret ?_ | refine ok_condKT rfl (by assumption) ?_ | refine ok_condKF rfl (by assumption) ?_ | fail) | (show thenQ _ _ _ _; first | refine then_n ?_ | refine then_r ?_ | fail) | (show RetQ _ _ _ _ _ _; first | refine ret_leaf (.inl rfl) rfl rfl ?_ | fail) | fail)
      all_goals (rw [indexF_len hv hl]; rfl)
  · have hb0 : ((volF ds).2 != 0) = true := by simp [hv]
    repeat' (first | (show OkOps _ _ _ _ _ _; first | refine okops_nil ?_ | refine s_plain tabOk rfl rfl rfl rfl rfl ?_ | (show OkOps _ _ _ (Oper.mk _ (Op.call _) _ _ _ (_) :: _) _ _; first | refine s_callF rfl rfl rfl rfl rfl rfl rfl rfl (c135 _) rfl ?_ | fail) | fail) | (show OkC _ _ _ _ _; first | refine ok_seq ?_ | refine ok_region ?_ | refine ok_ret ?_ | refine ok_condKT rfl (by assumption) ?_ | fail) | (show thenQ _ _ _ _; first | refine then_n ?_ | refine then_r ?_ | fail) | (show RetQ _ _ _ _ _ _; first | refine ret_leaf (.inl rfl) rfl rfl ?_ | fail) | fail)
    all_goals (rw [indexF_vol hv]; rfl)
theorem coord_vol {ds : List Dim} {k : Int} (h : (volF ds).2 ≠ 0) : coordF ds k = (none, (volF ds).2) := by unfold coordF; rw [if_pos h]
theorem coord_out {ds : List Dim} {k : Int} (h : (volF ds).2 = 0) (h2 : k < 0 ∨ (volF ds).1 ≤ k) : coordF ds k = (none, 3) := by unfold coordF; rw [if_neg (by simp [h]), if_pos h2]
theorem coord_in {ds : List Dim} {k : Int} (h : (volF ds).2 = 0) (h2 : ¬ (k < 0 ∨ (volF ds).1 ≤ k)) : coordF ds k = (some (unG ds k).1, 0) := by unfold coordF; rw [if_neg (by simp [h]), if_neg h2]
def coordAV : Option (List Int) × Int → AV
  | (some x, e) => .tup [(false, [.d (encInts x)]), (false, [.d (.int .i64 e)])]
  | (none, e) => .tup [(false, [.d .nil]), (false, [.d (.int .i64 e)])]
theorem un_rep {j : Nat} {X : List Int} {y : Int} : (List.replicate (j + 1) 0 ++ X).set j y = List.replicate j 0 ++ y :: X := by
  induction j with
  | zero => rfl
  | succ j ih => show 0 :: (List.replicate (j + 1) 0 ++ X).set j y = _; rw [ih]; rfl
theorem un_step {ds : List Dim} {k : Int} {j : Nat} (h : j < ds.length) : unG (ds.drop j) k = (((at_ ds j).lo + (unG (ds.drop (j + 1)) k).2 % extF (at_ ds j)) :: (unG (ds.drop (j + 1)) k).1, (unG (ds.drop (j + 1)) k).2 / extF (at_ ds j)) := by
  rw [at_drop h]; rfl
theorem quot_w {a e : Int} (h0 : 0 ≤ a) (h1 : a ≤ 4611686018427387904) (he : 1 ≤ e) : IntKind.i64.wrap (a / e) = a / e ∧ 0 ≤ a / e ∧ a / e ≤ 4611686018427387904 := by
  have h2 : 0 ≤ a / e := Int.ediv_nonneg h0 (by omega)
  have h3 : a / e ≤ a := Int.ediv_le_self _ h0
  exact ⟨wrap64 (by omega) (by omega), h2, by omega⟩
theorem rem_w {a e lo hi : Int} (he : e = hi - lo + 1) (h : -1073741824 ≤ lo ∧ lo ≤ 1073741824 ∧ lo ≤ hi ∧ hi ≤ 1073741825) : IntKind.i64.wrap (lo + a % e) = lo + a % e := by
  have h1 := Int.emod_nonneg a (b := e) (by omega)
  have h2 := Int.emod_lt_of_pos a (b := e) (by omega)
  exact wrap64 (by omega) (by omega)
theorem c137 (ds : List Dim) (k : Int) : CallA Tryz.prog 137 [.one (.d (encDims ds)), .one (.d (.int .i64 k))] [] (coordAV (coordF ds k)) [] := by
  refine enter tabOk Tryz.func137 rfl (by decide +kernel) rfl fun hok w0 σ0 φ0 M => ?_
  have h1 := hok.1.sl; clear hok; simp only [List.length_map] at h1; replace h1 := h1.1
  by_cases hv : (volF ds).2 = 0
  · have hV := vok_of hv
    have hD := hV.dok
    have hb0 : ((volF ds).2 != 0) = false := by simp [hv]
    have h4 := hD.len
    have h5 := hV.all
    by_cases hk : k < 0 ∨ (volF ds).1 ≤ k
    · rcases Int.lt_or_le k 0 with hk1 | hk1
      · have hb1 : decide (k < 0) = true := by simp [hk1]
        repeat' (first | (show OkOps _ _ _ _ _ _; first | refine okops_nil ?_ | refine s_plain tabOk rfl rfl rfl rfl rfl ?_ | (show OkOps _ _ _ (Oper.mk _ (_) _ _ _ (some _) :: _) _ _; first | refine s_out rfl rfl (by first | assumption | rfl) rfl rfl ?_ | fail) | (show OkOps _ _ _ (Oper.mk _ (Op.pick _ _ _) _ _ _ (_) :: _) _ _; first | refine s_e envOk rfl rfl rfl (step3_pickT rfl rfl (by first | rfl | assumption) rfl) ?_ | fail) | (show OkOps _ _ _ (Oper.mk _ (Op.call _) _ _ _ (_) :: _) _ _; first | refine s_callF rfl rfl rfl rfl rfl rfl rfl rfl (c135 _) rfl ?_ | fail) | fail) | (show OkC _ _ _ _ _; first | refine ok_seq ?_ | refine ok_region ?_ | refine ok_skip ?_ | refine ok_ret ?_ | refine ok_condT rfl ?_ | refine ok_condKF rfl (by assumption) ?_ | fail) | (show thenQ _ _ _ _; first | refine then_n ?_ | refine then_r ?_ | fail) | (show RetQ _ _ _ _ _ _; first | refine ret_leaf (.inl rfl) rfl rfl ?_ | fail) | fail)
        all_goals (rw [coord_out hv hk]; rfl)
      · have hb1 : decide (k < 0) = false := by simp; omega
        have hb2 : decide ((volF ds).1 ≤ k) = true := by simp; omega
        repeat' (first | (show OkOps _ _ _ _ _ _; first | refine okops_nil ?_ | refine s_plain tabOk rfl rfl rfl rfl rfl ?_ | (show OkOps _ _ _ (Oper.mk _ (_) _ _ _ (some _) :: _) _ _; first | refine s_guard rfl rfl (by first | assumption | rfl) ?_ | fail) | (show OkOps _ _ _ (Oper.mk _ (Op.pick _ _ _) _ _ _ (_) :: _) _ _; first | refine s_e envOk rfl rfl rfl (step3_pickF rfl rfl (by first | rfl | assumption) rfl) ?_ | fail) | (show OkOps _ _ _ (Oper.mk _ (Op.call _) _ _ _ (_) :: _) _ _; first | refine s_callF rfl rfl rfl rfl rfl rfl rfl rfl (c135 _) rfl ?_ | fail) | fail) | (show OkC _ _ _ _ _; first | refine ok_seq ?_ | refine ok_region ?_ | refine ok_skip ?_ | refine ok_ret ?_ | refine ok_condKT rfl (by assumption) ?_ | refine ok_condKF rfl (by assumption) ?_ | fail) | (show thenQ _ _ _ _; first | refine then_n ?_ | refine then_r ?_ | fail) | (show RetQ _ _ _ _ _ _; first | refine ret_leaf (.inl rfl) rfl rfl ?_ | fail) | fail)
        all_goals (rw [coord_out hv hk]; rfl)
    · have hb1 : decide (k < 0) = false := by simp; omega
      have hb2 : decide ((volF ds).1 ≤ k) = false := by simp; omega
      have hkk : k ≤ 4611686018427387904 := by rw [hV.vol] at hk; omega
      repeat' (first | (show OkOps _ _ _ _ _ _; first | (show OkOps _ _ _ (Oper.mk _ (Op.makeSlice _ _ _) _ _ _ (_) :: _) _ _; first | refine s_new envOk 10 rfl rfl rfl (step3_makeSlice (n := ds.length) rfl rfl rfl rfl rfl (by simp) (by simp) (by omega) (Nat.le_of_ble_eq_true rfl)) rfl rfl ?_ | fail) | (show OkOps _ _ _ (Oper.mk _ (Op.binOp .quo _ _ _ _) _ _ _ (_) :: _) _ _; first | refine s_e envOk rfl rfl rfl (step3_quoE rfl rfl rfl rfl h0i (Int.lt_of_lt_of_le Int.zero_lt_one (hD.ext _ (by omega))) (quot_w h0i h1i (hD.ext _ (by omega))).1) ?_ | fail) | refine okops_nil ?_ | refine s_plain tabOk rfl rfl rfl rfl rfl ?_ | (show OkOps _ _ _ (Oper.mk _ (_) _ _ _ (some _) :: _) _ _; first | refine s_guard rfl rfl (by first | assumption | rfl) ?_ | fail) | (show OkOps _ _ _ (Oper.mk _ (Op.binOp .sub _ _ _ _) _ _ _ (_) :: _) _ _; first | refine s_e envOk rfl rfl rfl (step3_sub rfl rfl rfl rfl (wrap64 (by omega) (by omega))) ?_ | refine s_e envOk rfl rfl rfl (step3_sub rfl rfl rfl rfl (wrap64 (by first | omega | ((try simp only [decide_eq_true_eq, decide_eq_false_iff_not, Bool.not_eq_true', Bool.not_true, Bool.not_false, List.length_map, List.length_set, bne_iff_ne, ne_eq, beq_iff_eq, bne_eq_false_iff_eq, beq_eq_false_iff_ne] at *); omega)) (by first | omega | ((try simp only [decide_eq_true_eq, decide_eq_false_iff_not, Bool.not_eq_true', Bool.not_true, Bool.not_false, List.length_map, List.length_set, bne_iff_ne, ne_eq, beq_iff_eq, bne_eq_false_iff_eq, beq_eq_false_iff_ne] at *); omega)))) ?_ | fail) | (show OkOps _ _ _ (Oper.mk _ (Op.pick _ _ _) _ _ _ (_) :: _) _ _; first | refine s_e envOk rfl rfl rfl (step3_pickF rfl rfl (by first | rfl | assumption) rfl) ?_ | fail) | (show OkOps _ _ _ (Oper.mk _ (Op.call _) _ _ _ (_) :: _) _ _; first | refine s_callF rfl rfl rfl rfl rfl rfl rfl rfl (c135 _) rfl ?_ | fail) | fail) | (show OkC _ _ _ _ _; first | refine okc_imp (imp_sealL (dl := [10]) rfl) (ok_ret ?_) | refine ok_seq ?_ | refine ok_region ?_ | refine ok_block ?_ | refine ok_skip ?_ | refine ok_exit ?_ | refine ok_condKF rfl (by assumption) ?_ | refine ok_cond rfl (fun h => ?_) (fun h => ?_) | refine ok_regionD progOk.mo ?_ | refine s_loopM 8 rfl [(0, _), (8, _)] (subL_cons rfl (subL_cons rfl subL_nil)) (fun (p : Int × Int × List Int × List (List D)) => [(1, .one (.d (.int .i64 p.2.1))), (9, .one (.d (.int .i64 p.1)))]) (fun (p : Int × Int × List Int × List (List D)) => [(10, .row 1 8 p.2.2.2)]) (fun (p : Int × Int × List Int × List (List D)) => -1 ≤ p.1 ∧ p.1 < (ds.length : Int) ∧ p.2.2.2 = p.2.2.1.map encInt ∧ p.2.2.2.length = ds.length ∧ 0 ≤ p.2.1 ∧ p.2.1 ≤ 4611686018427387904 ∧ p.2.1 = (unG (ds.drop (p.1 + 1).toNat) k).2 ∧ p.2.2.1 = List.replicate (p.1 + 1).toNat 0 ++ (unG (ds.drop (p.1 + 1).toNat) k).1) (fun (p : Int × Int × List Int × List (List D)) => (p.1 + 1).toNat) (((ds.map encDim).length : Int) - 1, k, List.replicate ds.length 0, List.replicate ds.length [.int .i64 0]) (subL_cons rfl (subL_cons rfl subL_nil)) (by first | exact subL_nil | exact (subL_cons rfl subL_nil) | exact (subL_cons rfl (subL_cons rfl subL_nil)) | exact (subL_cons rfl (subL_cons rfl (subL_cons rfl subL_nil))) | exact (subL_cons rfl (subL_cons rfl (subL_cons rfl (subL_cons rfl subL_nil)))) | exact (subL_cons rfl (subL_cons rfl (subL_cons rfl (subL_cons rfl (subL_cons rfl subL_nil))))) | exact (subL_cons rfl (subL_cons rfl (subL_cons rfl (subL_cons rfl (subL_cons rfl (subL_cons rfl subL_nil)))))) | exact (subL_cons rfl (subL_cons rfl (subL_cons rfl (subL_cons rfl (subL_cons rfl (subL_cons rfl (subL_cons rfl subL_nil))))))) | exact (subL_cons rfl (subL_cons rfl (subL_cons rfl (subL_cons rfl (subL_cons rfl (subL_cons rfl (subL_cons rfl (subL_cons rfl subL_nil))))))))) ?_ (fun p ⟨hi1, hi2, hr, hrl, h0i, h1i, hiq, hix⟩ => ?_) | fail) | (show thenQ _ _ _ _; first | refine then_n ?_ | refine then_x ?_ | fail) | (show blockQ _ _ _ _; first | refine block_n ?_ | refine block_x rfl ?_ | fail) | (show RetQ _ _ _ _ _ _; first | refine ret_leaf (.inl rfl) rfl rfl ?_ | fail) | (show DRun _ _ _ _ _ _ _ _; first | (show DRun _ _ _ _ (Oper.mk _ (Op.binOp .sub _ _ _ _) _ _ _ (_) :: _) _ _ _; first | refine d_e envOk rfl rfl rfl (step3_sub rfl rfl rfl rfl (ext_w1 (hD.bnd _ (by omega)))) ?_ | fail) | (show DRun _ _ _ _ (Oper.mk _ (Op.binOp .add _ _ _ _) _ _ _ (_) :: _) _ _ _; first | refine d_e envOk rfl rfl rfl (step3_add rfl rfl rfl rfl (ext_w2 (hD.bnd _ (by omega)))) ?_ | fail) | (show DRun _ _ _ _ (Oper.mk _ (Op.binOp .rem _ _ _ _) _ _ _ (_) :: _) _ _ _; first | refine d_e envOk rfl rfl rfl (step3_remE rfl rfl rfl rfl h0i (Int.lt_of_lt_of_le Int.zero_lt_one (hD.ext _ (by omega)))) ?_ | fail) | (show DRun _ _ _ _ (Oper.mk _ (Op.binOp .add _ _ _ _) _ _ _ (_) :: _) _ _ _; first | refine d_e envOk rfl rfl rfl (step3_add rfl rfl rfl rfl (rem_w rfl (hD.bnd _ (by omega)))) ?_ | fail) | refine d_nil (by kernel_rfl) ?_ | refine d_e envOk rfl rfl rfl (step3_plain rfl rfl) ?_ | (show DRun _ _ _ _ (Oper.mk _ (Op.indexAddr _ _ _) _ _ _ (_) :: _) _ _ _; first | refine d_e envOk rfl rfl rfl (step3_idxOwn rfl rfl rfl rfl rfl rfl (by first | omega | ((try simp only [decide_eq_true_eq, decide_eq_false_iff_not, Bool.not_eq_true', Bool.not_true, Bool.not_false, List.length_map, List.length_set, bne_iff_ne, ne_eq, beq_iff_eq, bne_eq_false_iff_eq, beq_eq_false_iff_ne] at *); omega)) (by first | omega | ((try simp only [decide_eq_true_eq, decide_eq_false_iff_not, Bool.not_eq_true', Bool.not_true, Bool.not_false, List.length_map, List.length_set, bne_iff_ne, ne_eq, beq_iff_eq, bne_eq_false_iff_eq, beq_eq_false_iff_ne] at *); omega))) ?_ | refine d_e envOk rfl rfl rfl (step3_idx rfl rfl rfl rfl rfl (by first | omega | ((try simp only [decide_eq_true_eq, decide_eq_false_iff_not, Bool.not_eq_true', Bool.not_true, Bool.not_false, List.length_map, List.length_set, bne_iff_ne, ne_eq, beq_iff_eq, bne_eq_false_iff_eq, beq_eq_false_iff_ne] at *); omega)) (at_map (by first | omega | ((try simp only [decide_eq_true_eq, decide_eq_false_iff_not, Bool.not_eq_true', Bool.not_true, Bool.not_false, List.length_map, List.length_set, bne_iff_ne, ne_eq, beq_iff_eq, bne_eq_false_iff_eq, beq_eq_false_iff_ne] at *); omega)))) ?_ | fail) | refine d_store envOk rfl rfl (step3_storeRow rfl rfl rfl rfl rfl rfl rfl rfl rfl (row_get (by assumption) (by omega)) rfl) ?_ | fail) | (show Exists _; first | refine Exists.intro ((p.1 - 1, p.2.1 / ((at_ ds p.1.toNat).hi - (at_ ds p.1.toNat).lo + 1), p.2.2.1.set p.1.toNat ((at_ ds p.1.toNat).lo + p.2.1 % ((at_ ds p.1.toNat).hi - (at_ ds p.1.toNat).lo + 1)), p.2.2.2.set p.1.toNat [.int .i64 ((at_ ds p.1.toNat).lo + p.2.1 % ((at_ ds p.1.toNat).hi - (at_ ds p.1.toNat).lo + 1))])) ⟨?_, ?_, (by first | exact subL_nil | exact (subL_cons rfl subL_nil) | exact (subL_cons rfl (subL_cons rfl subL_nil)) | exact (subL_cons rfl (subL_cons rfl (subL_cons rfl subL_nil))) | exact (subL_cons rfl (subL_cons rfl (subL_cons rfl (subL_cons rfl subL_nil)))) | exact (subL_cons rfl (subL_cons rfl (subL_cons rfl (subL_cons rfl (subL_cons rfl subL_nil))))) | exact (subL_cons rfl (subL_cons rfl (subL_cons rfl (subL_cons rfl (subL_cons rfl (subL_cons rfl subL_nil)))))) | exact (subL_cons rfl (subL_cons rfl (subL_cons rfl (subL_cons rfl (subL_cons rfl (subL_cons rfl (subL_cons rfl subL_nil))))))) | exact (subL_cons rfl (subL_cons rfl (subL_cons rfl (subL_cons rfl (subL_cons rfl (subL_cons rfl (subL_cons rfl (subL_cons rfl subL_nil))))))))), (subL_cons rfl (subL_cons rfl subL_nil)), (subL_cons rfl (subL_cons rfl subL_nil))⟩ | fail) | fail)
      · have e : ((((ds.map encDim).length : Int) - 1) + 1).toNat = ds.length := by simp
        refine ⟨?_, ?_, ?_, ?_, ?_, ?_, ?_, ?_⟩
        · show (-1 : Int) ≤ ((ds.map encDim).length : Int) - 1; simp only [List.length_map]; omega
        · show ((ds.map encDim).length : Int) - 1 < ds.length; simp only [List.length_map]; omega
        · show List.replicate ds.length _ = _; simp [encInt]
        · show (List.replicate ds.length _).length = _; simp
        · show 0 ≤ k; omega
        · exact hkk
        · show k = (unG (ds.drop ((((ds.map encDim).length : Int) - 1) + 1).toNat) k).2; rw [e, List.drop_length]; rfl
        · show List.replicate ds.length 0 = List.replicate ((((ds.map encDim).length : Int) - 1) + 1).toNat 0 ++ (unG (ds.drop ((((ds.map encDim).length : Int) - 1) + 1).toNat) k).1; rw [e, List.drop_length]; simp [unG]
      · have hp0 : 0 ≤ p.1 := by simpa using h
        obtain ⟨j, hj⟩ : ∃ j : Nat, p.1 = (j : Int) := ⟨p.1.toNat, by omega⟩
        have hjl : j < ds.length := by omega
        have e1 : (p.1 + 1).toNat = j + 1 := by omega
        have e2 : (p.1 - 1 + 1).toNat = j := by omega
        have e3 : p.1.toNat = j := by omega
        have hq := quot_w (e := (at_ ds j).hi - (at_ ds j).lo + 1) h0i h1i (hD.ext _ hjl)
        rw [e1] at hiq hix
        refine ⟨?_, ?_, ?_, ?_, ?_, ?_, ?_, ?_⟩
        · show -1 ≤ p.1 - 1; omega
        · show p.1 - 1 < _; omega
        · show p.2.2.2.set _ _ = (p.2.2.1.set _ _).map encInt; rw [hr, List.map_set]; rfl
        · show (p.2.2.2.set _ _).length = _; rw [List.length_set]; exact hrl
        · show 0 ≤ p.2.1 / _; rw [e3]; exact hq.2.1
        · show p.2.1 / _ ≤ _; rw [e3]; exact hq.2.2
        · show p.2.1 / _ = (unG (ds.drop (p.1 - 1 + 1).toNat) k).2; rw [e2, e3, un_step hjl, ← hiq]; rfl
        · show p.2.2.1.set _ _ = List.replicate (p.1 - 1 + 1).toNat 0 ++ (unG (ds.drop (p.1 - 1 + 1).toNat) k).1; rw [e2, e3, un_step hjl, ← hiq, hix, un_rep]; rfl
      · have : 0 ≤ p.1 := by simpa using h
        show (p.1 - 1 + 1).toNat < (p.1 + 1).toNat
        omega
      · have hn : p.1 < 0 := by simpa using h
        have e1 : (p.1 + 1).toNat = 0 := by omega
        rw [e1] at hix
        have e : p.2.2.2.take ds.length = (unG ds k).1.map encInt := by rw [List.take_of_length_le (by omega), hr, hix]; rfl
        rw [coord_in hv hk]
        show AV.tup [(false, [.d (.sl 1 8 (p.2.2.2.take ds.length))]), _] = _
        rw [e]; rfl
  · have hb0 : ((volF ds).2 != 0) = true := by simp [hv]
    repeat' (first | (show OkOps _ _ _ _ _ _; first | refine okops_nil ?_ | refine s_plain tabOk rfl rfl rfl rfl rfl ?_ | (show OkOps _ _ _ (Oper.mk _ (Op.call _) _ _ _ (_) :: _) _ _; first | refine s_callF rfl rfl rfl rfl rfl rfl rfl rfl (c135 _) rfl ?_ | fail) | fail) | (show OkC _ _ _ _ _; first | refine ok_seq ?_ | refine ok_region ?_ | refine ok_ret ?_ | refine ok_condKT rfl (by assumption) ?_ | fail) | (show thenQ _ _ _ _; first | refine then_n ?_ | refine then_r ?_ | fail) | (show RetQ _ _ _ _ _ _; first | refine ret_leaf (.inl rfl) rfl rfl ?_ | fail) | fail)
    all_goals (rw [coord_vol hv]; rfl)
end Go.Proofs.YtpejdgkaapnekaaGreat
namespace Go.Proofs.YtpejdgkaapnekaaGreat
open Go Go.Abs
attribute [local irreducible] OkOps OkC DRun thenQ blockQ RetQ
set_option maxRecDepth 10000
theorem c249 (l : List Int) (v : Int) : CallA Tryz.prog 249 [.one (.d (encInts l)), .one (.d (.int .i64 v))] [] (.one (.d (.int .i64 (idxGo (fun x => v == x) l 0)))) [] := by
  refine enter tabOk Tryz.func249 rfl (by decide +kernel) rfl fun hok w0 σ0 φ0 M => ?_
  have h1 := hok.1.sl; clear hok; simp only [List.length_map] at h1; replace h1 := h1.1
  repeat' (first | (show OkOps _ _ _ _ _ _; first | refine okops_nil ?_ | refine s_plain tabOk rfl rfl rfl rfl rfl ?_ | (show OkOps _ _ _ (Oper.mk _ (Op.binOp .add _ _ _ _) _ _ _ (_) :: _) _ _; first | refine s_e envOk rfl rfl rfl (step3_add rfl rfl rfl rfl (wrap64 (by omega) (by omega))) ?_ | fail) | (show OkOps _ _ _ (Oper.mk _ (Op.indexAddr _ _ _) _ _ _ (_) :: _) _ _; first | refine s_e envOk rfl rfl rfl (step3_idx rfl rfl rfl rfl rfl (by first | omega | ((try simp only [decide_eq_true_eq, decide_eq_false_iff_not, Bool.not_eq_true', Bool.not_true, Bool.not_false, List.length_map, List.length_set, bne_iff_ne, ne_eq, beq_iff_eq, bne_eq_false_iff_eq, beq_eq_false_iff_ne] at *); omega)) (at_map (by first | omega | ((try simp only [decide_eq_true_eq, decide_eq_false_iff_not, Bool.not_eq_true', Bool.not_true, Bool.not_false, List.length_map, List.length_set, bne_iff_ne, ne_eq, beq_iff_eq, bne_eq_false_iff_eq, beq_eq_false_iff_ne] at *); omega)))) ?_ | fail) | fail) | (show OkC _ _ _ _ _; first | refine ok_seq ?_ | refine ok_region ?_ | refine ok_block ?_ | refine ok_skip ?_ | refine ok_ret ?_ | refine ok_exit ?_ | refine ok_cond rfl (fun h => ?_) (fun h => ?_) | refine s_loop 2 rfl [(0, _), (1, _), (7, _)] (subL_cons rfl (subL_cons rfl (subL_cons rfl subL_nil))) (fun (k : Nat) => [(8, .one (.d (.int .i64 (k : Int))))]) (fun (k : Nat) => k ≤ l.length ∧ idxGo (fun x => v == x) l 0 = idxGo (fun x => v == x) (l.drop k) k) (fun (k : Nat) => l.length - k) 0 (subL_cons rfl subL_nil) ?_ (fun k ⟨hk, hs⟩ => ?_) | fail) | (show thenQ _ _ _ _; first | refine then_n ?_ | refine then_r ?_ | refine then_x ?_ | fail) | (show blockQ _ _ _ _; first | refine block_n ?_ | refine block_r ?_ | refine block_x rfl ?_ | fail) | (show RetQ _ _ _ _ _ _; first | refine ret_leaf (.inl rfl) rfl rfl ?_ | fail) | (show Exists _; first | refine Exists.intro (k + 1) ⟨?_, ?_, (by first | exact subL_nil | exact (subL_cons rfl subL_nil) | exact (subL_cons rfl (subL_cons rfl subL_nil)) | exact (subL_cons rfl (subL_cons rfl (subL_cons rfl subL_nil))) | exact (subL_cons rfl (subL_cons rfl (subL_cons rfl (subL_cons rfl subL_nil)))) | exact (subL_cons rfl (subL_cons rfl (subL_cons rfl (subL_cons rfl (subL_cons rfl subL_nil))))) | exact (subL_cons rfl (subL_cons rfl (subL_cons rfl (subL_cons rfl (subL_cons rfl (subL_cons rfl subL_nil)))))) | exact (subL_cons rfl (subL_cons rfl (subL_cons rfl (subL_cons rfl (subL_cons rfl (subL_cons rfl (subL_cons rfl subL_nil))))))) | exact (subL_cons rfl (subL_cons rfl (subL_cons rfl (subL_cons rfl (subL_cons rfl (subL_cons rfl (subL_cons rfl (subL_cons rfl subL_nil))))))))), (subL_cons rfl subL_nil), (subL_cons rfl (subL_cons rfl (subL_cons rfl subL_nil)))⟩ | fail) | fail)
  all_goals (try (((simp_all [idxGo, at_drop, List.drop_eq_nil_of_le]) <;> first | omega | (rw [Bool.eq_iff_iff]; simp; omega) | grind); done))
theorem c206 (l : List Int) (v : Int) : CallA Tryz.prog 206 [.one (.d (encInts l)), .one (.d (.int .i64 v))] [] (.one (.d (.bool (l.contains v)))) [] := by
  refine enter tabOk Tryz.func206 rfl (by decide +kernel) rfl fun hok w0 σ0 φ0 M => ?_
  clear hok
  repeat' (first | (show OkOps _ _ _ _ _ _; first | refine okops_nil ?_ | refine s_plain tabOk rfl rfl rfl rfl rfl ?_ | (show OkOps _ _ _ (Oper.mk _ (Op.call _) _ _ _ (_) :: _) _ _; first | refine s_callF rfl rfl rfl rfl rfl rfl rfl rfl (c249 _ _) rfl ?_ | fail) | fail) | (show OkC _ _ _ _ _; first | refine ok_seq ?_ | refine ok_region ?_ | refine ok_ret ?_ | fail) | (show thenQ _ _ _ _; first | refine then_n ?_ | fail) | (show RetQ _ _ _ _ _ _; first | refine ret_leaf (.inl rfl) rfl rfl ?_ | fail) | fail)
  all_goals
    rw [idxAny]
    have e : (l.any fun x => v == x) = l.contains v := by
      rw [Bool.eq_iff_iff]; simp
    rw [e]
theorem c206e (ys : List (List D)) (l : List Int) (v : Int) (h : ys = l.map encInt) : CallA Tryz.prog 206 [.one (.d (.sl 1 8 ys)), .one (.d (.int .i64 v))] [] (.one (.d (.bool (l.contains v)))) [] := by
  subst h; exact c206 l v
def selAV : Option (List Int) → AV
  | some ks => .tup [(false, [.d (encInts ks)]), (false, [.d (.bool true)])]
  | none => .tup [(false, [.d .nil]), (false, [.d (.bool false)])]
theorem sel_step {ds : List Dim} {n : List UInt8} {r : List (List UInt8)} {acc : List Int} : selGo ds acc (n :: r) = if dimX ds n < 0 then none else if acc.contains (dimX ds n) then none else selGo ds (acc ++ [dimX ds n]) r := rfl
theorem c138 (ds : List Dim) (names : List (List UInt8)) (hn : names.length ≤ 1048576) : CallA Tryz.prog 138 [.one (.d (encDims ds)), .one (.d (encNames names)), .one (.d (.fn 139 []))] [] (selAV (selGo ds [] names)) [] := by
  refine enter tabOk Tryz.func138 rfl (by decide +kernel) rfl fun hok w0 σ0 φ0 M => ?_
  clear hok
  repeat' (first | (show OkOps _ _ _ _ _ _; first | (show OkOps _ _ _ (Oper.mk _ (Op.call _) _ _ _ (_) :: _) _ _; first | refine s_callFS [10] rfl rfl rfl rfl rfl rfl rfl rfl rfl (c206e _ ((names.take p.1).map (dimX ds)) _ (by rw [List.take_of_length_le (by rw [hr]; simp; omega), hr]; simp [List.map_map, Function.comp_def])) rfl ?_ | fail) | refine okops_nil ?_ | refine s_plain tabOk rfl rfl rfl rfl rfl ?_ | (show OkOps _ _ _ (Oper.mk _ (Op.call _) _ _ _ (_) :: _) _ _; first | refine s_append tabOk rfl rfl rfl rfl rfl rfl rfl rfl rfl rfl rfl rfl rfl (by first | omega | ((try simp only [decide_eq_true_eq, decide_eq_false_iff_not, List.length_map, List.length_cons, List.length_nil, List.length_append, List.length_take, List.length_drop, Int.toNat_natCast] at *); omega)) (by first | exact Nat.le_of_ble_eq_true rfl | omega | ((try simp only [decide_eq_true_eq, decide_eq_false_iff_not, List.length_map, List.length_cons, List.length_nil, List.length_append, List.length_take, List.length_drop, Int.toNat_natCast] at *); omega)) (Nat.le_of_ble_eq_true rfl) ?_ | fail) | (show OkOps _ _ _ (Oper.mk _ (_) _ _ _ (some _) :: _) _ _; first | refine s_guard rfl rfl (by first | assumption | rfl) ?_ | refine s_out rfl rfl (by first | assumption | rfl) rfl rfl ?_ | refine s_split rfl rfl rfl rfl (fun h => ?_) (fun h => ?_) | fail) | (show OkOps _ _ _ (Oper.mk _ (Op.binOp .add _ _ _ _) _ _ _ (_) :: _) _ _; first | refine s_e envOk rfl rfl rfl (step3_add rfl rfl rfl rfl (wrap64 (by omega) (by omega))) ?_ | fail) | (show OkOps _ _ _ (Oper.mk _ (Op.pick _ _ _) _ _ _ (_) :: _) _ _; first | refine s_e envOk rfl rfl rfl (step3_pickT rfl rfl (by first | rfl | assumption) rfl) ?_ | refine s_e envOk rfl rfl rfl (step3_pickF rfl rfl (by first | rfl | assumption) rfl) ?_ | fail) | (show OkOps _ _ _ (Oper.mk _ (Op.indexAddr _ _ _) _ _ _ (_) :: _) _ _; first | refine s_e envOk rfl rfl rfl (step3_idx rfl rfl rfl rfl rfl (by first | omega | ((try simp only [decide_eq_true_eq, decide_eq_false_iff_not, Bool.not_eq_true', Bool.not_true, Bool.not_false, List.length_map, List.length_set, bne_iff_ne, ne_eq, beq_iff_eq, bne_eq_false_iff_eq, beq_eq_false_iff_ne] at *); omega)) (at_map (by first | omega | ((try simp only [decide_eq_true_eq, decide_eq_false_iff_not, Bool.not_eq_true', Bool.not_true, Bool.not_false, List.length_map, List.length_set, bne_iff_ne, ne_eq, beq_iff_eq, bne_eq_false_iff_eq, beq_eq_false_iff_ne] at *); omega)))) ?_ | fail) | (show OkOps _ _ _ (Oper.mk _ (Op.call _) _ _ _ (_) :: _) _ _; first | refine s_callF rfl rfl rfl rfl rfl rfl rfl rfl (c195 _ _) rfl ?_ | fail) | refine s_new envOk 0 rfl rfl rfl rfl rfl rfl ?_ | fail) | (show OkC _ _ _ _ _; first | refine okc_imp (imp_sealL (dl := [10]) rfl) (ok_ret ?_) | refine ok_seq ?_ | refine ok_region ?_ | refine ok_block ?_ | refine ok_skip ?_ | refine ok_exit ?_ | refine ok_condT rfl ?_ | refine ok_cond rfl (fun h => ?_) (fun h => ?_) | refine s_loopN 3 rfl (imp_adopt (s := 8) (id := 10) (k := 1) (b := 8) rfl rfl rfl rfl) [(0, _), (2, _), (12, _), (13, _)] (subL_cons rfl (subL_cons rfl (subL_cons rfl (subL_cons rfl subL_nil)))) (fun (bN : Bool × Bool) (p : Nat × List (List D)) => [(8, .one (.own 10 p.1)), (14, .one (.d (.int .i64 (p.1 : Int))))]) (fun (bN : Bool × Bool) (p : Nat × List (List D)) => [(10, .row 1 8 p.2)]) (fun (p : Nat × List (List D)) => p.1 ≤ names.length ∧ p.2 = (names.take p.1).map (fun n => encInt (dimX ds n)) ∧ selGo ds [] names = selGo ds ((names.take p.1).map (dimX ds)) (names.drop p.1)) (fun (p : Nat × List (List D)) => names.length - p.1) (0, []) (subL_cons rfl (subL_cons rfl subL_nil)) (by first | exact subL_nil | exact (subL_cons rfl subL_nil) | exact (subL_cons rfl (subL_cons rfl subL_nil)) | exact (subL_cons rfl (subL_cons rfl (subL_cons rfl subL_nil))) | exact (subL_cons rfl (subL_cons rfl (subL_cons rfl (subL_cons rfl subL_nil)))) | exact (subL_cons rfl (subL_cons rfl (subL_cons rfl (subL_cons rfl (subL_cons rfl subL_nil))))) | exact (subL_cons rfl (subL_cons rfl (subL_cons rfl (subL_cons rfl (subL_cons rfl (subL_cons rfl subL_nil)))))) | exact (subL_cons rfl (subL_cons rfl (subL_cons rfl (subL_cons rfl (subL_cons rfl (subL_cons rfl (subL_cons rfl subL_nil))))))) | exact (subL_cons rfl (subL_cons rfl (subL_cons rfl (subL_cons rfl (subL_cons rfl (subL_cons rfl (subL_cons rfl (subL_cons rfl subL_nil))))))))) (fun b y => by obtain ⟨b1, b2⟩ := b; cases b1 <;> cases b2 <;> first | exact Imp.refl _ | exact imp_ren qN (by kernel_rfl)) ?_ (fun p ⟨hk, hr, hs⟩ => ?_) | fail) | (show thenQ _ _ _ _; first | refine then_n ?_ | refine then_r ?_ | refine then_x ?_ | fail) | (show blockQ _ _ _ _; first | refine block_n ?_ | refine block_r ?_ | refine block_x rfl ?_ | fail) | (show RetQ _ _ _ _ _ _; first | refine ret_leaf (.inl rfl) rfl rfl ?_ | fail) | (show Exists _; first | refine Exists.intro ((p.1 + 1, p.2.take p.1 ++ [[.int .i64 (dimX ds (at_ names p.1))]])) (Exists.intro (false, false) ⟨?_, ?_, (by first | exact subL_nil | exact (subL_cons rfl subL_nil) | exact (subL_cons rfl (subL_cons rfl subL_nil)) | exact (subL_cons rfl (subL_cons rfl (subL_cons rfl subL_nil))) | exact (subL_cons rfl (subL_cons rfl (subL_cons rfl (subL_cons rfl subL_nil)))) | exact (subL_cons rfl (subL_cons rfl (subL_cons rfl (subL_cons rfl (subL_cons rfl subL_nil))))) | exact (subL_cons rfl (subL_cons rfl (subL_cons rfl (subL_cons rfl (subL_cons rfl (subL_cons rfl subL_nil)))))) | exact (subL_cons rfl (subL_cons rfl (subL_cons rfl (subL_cons rfl (subL_cons rfl (subL_cons rfl (subL_cons rfl subL_nil))))))) | exact (subL_cons rfl (subL_cons rfl (subL_cons rfl (subL_cons rfl (subL_cons rfl (subL_cons rfl (subL_cons rfl (subL_cons rfl subL_nil))))))))), (subL_cons rfl (subL_cons rfl subL_nil)), (subL_cons rfl (subL_cons rfl (subL_cons rfl (subL_cons rfl subL_nil))))⟩) | fail) | fail)
  · exact ⟨Nat.zero_le _, rfl, rfl⟩
  · have hlt : p.1 < names.length := by simpa using ‹decide ((p.1 : Int) < ((names.map encName).length : Int)) = true›
    have hd : ¬ dimX ds (at_ names p.1) < 0 := of_decide_eq_false ‹decide (idxGo (fun a : Dim => a.name == at_ names (p.1 : Int).toNat) ds 0 < 0) = false›
    have hc : ((names.take p.1).map (dimX ds)).contains (dimX ds (at_ names p.1)) = true := h
    rw [hs, at_drop hlt, sel_step, if_neg hd, if_pos hc]; rfl
  · have hlt : p.1 < names.length := by simpa using ‹decide ((p.1 : Int) < ((names.map encName).length : Int)) = true›
    have hd : ¬ dimX ds (at_ names p.1) < 0 := of_decide_eq_false ‹decide (idxGo (fun a : Dim => a.name == at_ names (p.1 : Int).toNat) ds 0 < 0) = false›
    have hc : ¬ ((names.take p.1).map (dimX ds)).contains (dimX ds (at_ names p.1)) = true := by rw [Bool.not_eq_true]; exact h
    refine ⟨hlt, row_app (fun n => encInt (dimX ds n)) names hr hlt, ?_⟩
    rw [hs, at_drop hlt, sel_step, if_neg hd, if_neg hc]
    show _ = selGo ds ((names.take (p.1 + 1)).map (dimX ds)) (names.drop (p.1 + 1))
    rw [at_take hlt, List.map_append]; rfl
  · have hlt : p.1 < names.length := by simpa using ‹decide ((p.1 : Int) < ((names.map encName).length : Int)) = true›
    show names.length - (p.1 + 1) < names.length - p.1
    omega
  · have hlt : p.1 < names.length := by simpa using ‹decide ((p.1 : Int) < ((names.map encName).length : Int)) = true›
    have hd : dimX ds (at_ names p.1) < 0 := of_decide_eq_true h
    rw [hs, at_drop hlt, sel_step, if_pos hd]; rfl
  · have hge : names.length ≤ p.1 := by simpa using h
    have e : p.2.take p.1 = ((names.take p.1).map (dimX ds)).map encInt := by rw [List.take_of_length_le (by rw [hr]; simp; omega), hr, List.map_map]; rfl
    rw [hs, List.drop_eq_nil_of_le hge]
    show AV.tup [(false, [.d (.sl 1 8 (p.2.take p.1))]), _] = _
    rw [e]; rfl
def mixL {α : Type} (Y : List α) (z : α) (k : Nat) : List α := Y.take k ++ List.replicate (Y.length - k) z
theorem mixL_next {α : Type} [Inhabited α] {Y : List α} {z : α} {k : Nat} (h : k < Y.length) : (mixL Y z k).set k (at_ Y k) = mixL Y z (k + 1) := by
  unfold mixL
  have hl : (Y.take k).length = k := by simp; omega
  obtain ⟨m, hm⟩ : ∃ m, Y.length - k = m + 1 := ⟨Y.length - k - 1, by omega⟩
  rw [List.set_append, if_neg (by omega), hl, Nat.sub_self, hm, List.replicate_succ, List.set_cons_zero, at_take h, List.append_assoc, show Y.length - (k + 1) = m by omega]
  rfl
theorem mixL_all {α : Type} {Y : List α} {z : α} : mixL Y z Y.length = Y := by simp [mixL]
theorem mixL_zero {α : Type} {Y : List α} {z : α} : mixL Y z 0 = List.replicate Y.length z := by simp [mixL]
theorem c140 (l ks : List Int) (hn : ks.length ≤ 1000) (hks : ∀ i, i < ks.length → 0 ≤ at_ ks i ∧ (at_ ks i).toNat < l.length) : CallA Tryz.prog 140 [.one (.d (encInts l)), .one (.d (encInts ks))] [] (.one (.d (encInts (pickF l ks)))) [] := by
  refine enter tabOk Tryz.func140 rfl (by decide +kernel) rfl fun hok w0 σ0 φ0 M => ?_
  clear hok
  repeat' (first | (show OkOps _ _ _ _ _ _; first | (show OkOps _ _ _ (Oper.mk _ (Op.makeSlice _ _ _) _ _ _ (_) :: _) _ _; first | refine s_new envOk 10 rfl rfl rfl (step3_makeSlice (n := ks.length) rfl rfl rfl rfl rfl (by simp) (by simp) (by omega) (Nat.le_of_ble_eq_true rfl)) rfl rfl ?_ | fail) | (show OkOps _ _ _ (Oper.mk _ (Op.indexAddr _ _ _) _ _ _ (_) :: _) _ _; first | refine s_e envOk rfl rfl rfl (step3_idx rfl rfl rfl rfl rfl (hks _ (by first | omega | ((try simp only [decide_eq_true_eq, decide_eq_false_iff_not, Bool.not_eq_true', Bool.not_true, Bool.not_false, List.length_map, List.length_set, bne_iff_ne, ne_eq, beq_iff_eq, bne_eq_false_iff_eq, beq_eq_false_iff_ne] at *); omega))).1 (at_map (hks _ (by first | omega | ((try simp only [decide_eq_true_eq, decide_eq_false_iff_not, Bool.not_eq_true', Bool.not_true, Bool.not_false, List.length_map, List.length_set, bne_iff_ne, ne_eq, beq_iff_eq, bne_eq_false_iff_eq, beq_eq_false_iff_ne] at *); omega))).2)) ?_ | fail) | refine okops_nil ?_ | refine s_plain tabOk rfl rfl rfl rfl rfl ?_ | (show OkOps _ _ _ (Oper.mk _ (Op.binOp .add _ _ _ _) _ _ _ (_) :: _) _ _; first | refine s_e envOk rfl rfl rfl (step3_add rfl rfl rfl rfl (wrap64 (by omega) (by omega))) ?_ | fail) | (show OkOps _ _ _ (Oper.mk _ (Op.indexAddr _ _ _) _ _ _ (_) :: _) _ _; first | refine s_e envOk rfl rfl rfl (step3_idxOwn rfl rfl rfl rfl rfl rfl (by first | omega | ((try simp only [decide_eq_true_eq, decide_eq_false_iff_not, Bool.not_eq_true', Bool.not_true, Bool.not_false, List.length_map, List.length_set, bne_iff_ne, ne_eq, beq_iff_eq, bne_eq_false_iff_eq, beq_eq_false_iff_ne] at *); omega)) (by first | omega | ((try simp only [decide_eq_true_eq, decide_eq_false_iff_not, Bool.not_eq_true', Bool.not_true, Bool.not_false, List.length_map, List.length_set, bne_iff_ne, ne_eq, beq_iff_eq, bne_eq_false_iff_eq, beq_eq_false_iff_ne] at *); omega))) ?_ | refine s_e envOk rfl rfl rfl (step3_idx rfl rfl rfl rfl rfl (by first | omega | ((try simp only [decide_eq_true_eq, decide_eq_false_iff_not, Bool.not_eq_true', Bool.not_true, Bool.not_false, List.length_map, List.length_set, bne_iff_ne, ne_eq, beq_iff_eq, bne_eq_false_iff_eq, beq_eq_false_iff_ne] at *); omega)) (at_map (by first | omega | ((try simp only [decide_eq_true_eq, decide_eq_false_iff_not, Bool.not_eq_true', Bool.not_true, Bool.not_false, List.length_map, List.length_set, bne_iff_ne, ne_eq, beq_iff_eq, bne_eq_false_iff_eq, beq_eq_false_iff_ne] at *); omega)))) ?_ | fail) | refine s_store envOk rfl rfl (step3_storeRow rfl rfl rfl rfl rfl rfl rfl rfl rfl (row_get (by assumption) (by first | omega | ((try simp only [decide_eq_true_eq, decide_eq_false_iff_not, Bool.not_eq_true', Bool.not_true, Bool.not_false, List.length_map, List.length_set, bne_iff_ne, ne_eq, beq_iff_eq, bne_eq_false_iff_eq, beq_eq_false_iff_ne] at *); omega))) rfl) ?_ | fail) | (show OkC _ _ _ _ _; first | refine okc_imp (imp_sealL (dl := [10]) rfl) (ok_ret ?_) | refine ok_seq ?_ | refine ok_region ?_ | refine ok_block ?_ | refine ok_skip ?_ | refine ok_exit ?_ | refine ok_cond rfl (fun h => ?_) (fun h => ?_) | refine s_loopM 3 rfl [(0, _), (5, _), (11, _), (12, _)] (subL_cons rfl (subL_cons rfl (subL_cons rfl (subL_cons rfl subL_nil)))) (fun (p : Nat × List Int × List (List D)) => [(13, .one (.d (.int .i64 (p.1 : Int))))]) (fun (p : Nat × List Int × List (List D)) => [(10, .row 1 8 p.2.2)]) (fun (p : Nat × List Int × List (List D)) => p.1 ≤ ks.length ∧ p.2.2 = p.2.1.map encInt ∧ p.2.2.length = ks.length ∧ p.2.1 = mixL (pickF l ks) 0 p.1) (fun (p : Nat × List Int × List (List D)) => ks.length - p.1) (0, List.replicate ks.length 0, List.replicate ks.length [.int .i64 0]) (subL_cons rfl subL_nil) (by first | exact subL_nil | exact (subL_cons rfl subL_nil) | exact (subL_cons rfl (subL_cons rfl subL_nil)) | exact (subL_cons rfl (subL_cons rfl (subL_cons rfl subL_nil))) | exact (subL_cons rfl (subL_cons rfl (subL_cons rfl (subL_cons rfl subL_nil)))) | exact (subL_cons rfl (subL_cons rfl (subL_cons rfl (subL_cons rfl (subL_cons rfl subL_nil))))) | exact (subL_cons rfl (subL_cons rfl (subL_cons rfl (subL_cons rfl (subL_cons rfl (subL_cons rfl subL_nil)))))) | exact (subL_cons rfl (subL_cons rfl (subL_cons rfl (subL_cons rfl (subL_cons rfl (subL_cons rfl (subL_cons rfl subL_nil))))))) | exact (subL_cons rfl (subL_cons rfl (subL_cons rfl (subL_cons rfl (subL_cons rfl (subL_cons rfl (subL_cons rfl (subL_cons rfl subL_nil))))))))) ?_ (fun p ⟨hk, hr, hrl, hx⟩ => ?_) | fail) | (show thenQ _ _ _ _; first | refine then_n ?_ | refine then_x ?_ | fail) | (show blockQ _ _ _ _; first | refine block_n ?_ | refine block_x rfl ?_ | fail) | (show RetQ _ _ _ _ _ _; first | refine ret_leaf (.inl rfl) rfl rfl ?_ | fail) | (show Exists _; first | refine Exists.intro ((p.1 + 1, p.2.1.set p.1 (at_ l (at_ ks p.1).toNat), p.2.2.set p.1 [.int .i64 (at_ l (at_ ks p.1).toNat)])) ⟨?_, ?_, (by first | exact subL_nil | exact (subL_cons rfl subL_nil) | exact (subL_cons rfl (subL_cons rfl subL_nil)) | exact (subL_cons rfl (subL_cons rfl (subL_cons rfl subL_nil))) | exact (subL_cons rfl (subL_cons rfl (subL_cons rfl (subL_cons rfl subL_nil)))) | exact (subL_cons rfl (subL_cons rfl (subL_cons rfl (subL_cons rfl (subL_cons rfl subL_nil))))) | exact (subL_cons rfl (subL_cons rfl (subL_cons rfl (subL_cons rfl (subL_cons rfl (subL_cons rfl subL_nil)))))) | exact (subL_cons rfl (subL_cons rfl (subL_cons rfl (subL_cons rfl (subL_cons rfl (subL_cons rfl (subL_cons rfl subL_nil))))))) | exact (subL_cons rfl (subL_cons rfl (subL_cons rfl (subL_cons rfl (subL_cons rfl (subL_cons rfl (subL_cons rfl (subL_cons rfl subL_nil))))))))), (subL_cons rfl subL_nil), (subL_cons rfl (subL_cons rfl (subL_cons rfl (subL_cons rfl subL_nil))))⟩ | fail) | fail)
  · exact ⟨Nat.zero_le _, by simp [encInt], by simp, by rw [mixL_zero]; simp [pickF]⟩
  · have hlt : p.1 < ks.length := by simpa using h
    refine ⟨hlt, ?_, by simp [hrl], ?_⟩
    · show p.2.2.set p.1 _ = List.map encInt (p.2.1.set p.1 _)
      rw [hr, List.map_set]; rfl
    · show p.2.1.set p.1 _ = mixL (pickF l ks) 0 (p.1 + 1)
      rw [hx, ← mixL_next (by rw [pick_len]; exact hlt), pick_at hlt]
  · have hlt : p.1 < ks.length := by simpa using h
    show ks.length - (p.1 + 1) < ks.length - p.1
    omega
  · have hge : ks.length ≤ p.1 := by simpa using h
    have e : p.2.2.take ks.length = (pickF l ks).map encInt := by
      rw [List.take_of_length_le (by omega), hr, hx, show p.1 = (pickF l ks).length by rw [pick_len]; omega, mixL_all]
    show AV.one (AC.d (.sl 1 8 (p.2.2.take ks.length))) = _
    rw [e]; rfl
theorem c141 (l : List Dim) (ks : List Int) (hn : ks.length ≤ 1000) (hks : ∀ i, i < ks.length → 0 ≤ at_ ks i ∧ (at_ ks i).toNat < l.length) : CallA Tryz.prog 141 [.one (.d (encDims l)), .one (.d (encInts ks))] [] (.one (.d (encDims (pickF l ks)))) [] := by
  refine enter tabOk Tryz.func141 rfl (by decide +kernel) rfl fun hok w0 σ0 φ0 M => ?_
  clear hok
  repeat' (first | (show OkOps _ _ _ _ _ _; first | (show OkOps _ _ _ (Oper.mk _ (Op.makeSlice _ _ _) _ _ _ (_) :: _) _ _; first | refine s_new envOk 10 rfl rfl rfl (step3_makeSlice (n := ks.length) rfl rfl rfl rfl rfl (by simp) (by simp) (by omega) (Nat.le_of_ble_eq_true rfl)) rfl rfl ?_ | fail) | (show OkOps _ _ _ (Oper.mk _ (Op.indexAddr _ _ _) _ _ _ (_) :: _) _ _; first | refine s_e envOk rfl rfl rfl (step3_idx rfl rfl rfl rfl rfl (hks _ (by first | omega | ((try simp only [decide_eq_true_eq, decide_eq_false_iff_not, Bool.not_eq_true', Bool.not_true, Bool.not_false, List.length_map, List.length_set, bne_iff_ne, ne_eq, beq_iff_eq, bne_eq_false_iff_eq, beq_eq_false_iff_ne] at *); omega))).1 (at_map (hks _ (by first | omega | ((try simp only [decide_eq_true_eq, decide_eq_false_iff_not, Bool.not_eq_true', Bool.not_true, Bool.not_false, List.length_map, List.length_set, bne_iff_ne, ne_eq, beq_iff_eq, bne_eq_false_iff_eq, beq_eq_false_iff_ne] at *); omega))).2)) ?_ | fail) | refine okops_nil ?_ | refine s_plain tabOk rfl rfl rfl rfl rfl ?_ | (show OkOps _ _ _ (Oper.mk _ (Op.binOp .add _ _ _ _) _ _ _ (_) :: _) _ _; first | refine s_e envOk rfl rfl rfl (step3_add rfl rfl rfl rfl (wrap64 (by omega) (by omega))) ?_ | fail) | (show OkOps _ _ _ (Oper.mk _ (Op.indexAddr _ _ _) _ _ _ (_) :: _) _ _; first | refine s_e envOk rfl rfl rfl (step3_idxOwn rfl rfl rfl rfl rfl rfl (by first | omega | ((try simp only [decide_eq_true_eq, decide_eq_false_iff_not, Bool.not_eq_true', Bool.not_true, Bool.not_false, List.length_map, List.length_set, bne_iff_ne, ne_eq, beq_iff_eq, bne_eq_false_iff_eq, beq_eq_false_iff_ne] at *); omega)) (by first | omega | ((try simp only [decide_eq_true_eq, decide_eq_false_iff_not, Bool.not_eq_true', Bool.not_true, Bool.not_false, List.length_map, List.length_set, bne_iff_ne, ne_eq, beq_iff_eq, bne_eq_false_iff_eq, beq_eq_false_iff_ne] at *); omega))) ?_ | refine s_e envOk rfl rfl rfl (step3_idx rfl rfl rfl rfl rfl (by first | omega | ((try simp only [decide_eq_true_eq, decide_eq_false_iff_not, Bool.not_eq_true', Bool.not_true, Bool.not_false, List.length_map, List.length_set, bne_iff_ne, ne_eq, beq_iff_eq, bne_eq_false_iff_eq, beq_eq_false_iff_ne] at *); omega)) (at_map (by first | omega | ((try simp only [decide_eq_true_eq, decide_eq_false_iff_not, Bool.not_eq_true', Bool.not_true, Bool.not_false, List.length_map, List.length_set, bne_iff_ne, ne_eq, beq_iff_eq, bne_eq_false_iff_eq, beq_eq_false_iff_ne] at *); omega)))) ?_ | fail) | refine s_store envOk rfl rfl (step3_storeRow rfl rfl rfl rfl rfl rfl rfl rfl rfl (row_get (by assumption) (by first | omega | ((try simp only [decide_eq_true_eq, decide_eq_false_iff_not, Bool.not_eq_true', Bool.not_true, Bool.not_false, List.length_map, List.length_set, bne_iff_ne, ne_eq, beq_iff_eq, bne_eq_false_iff_eq, beq_eq_false_iff_ne] at *); omega))) rfl) ?_ | fail) | (show OkC _ _ _ _ _; first | refine okc_imp (imp_sealL (dl := [10]) rfl) (ok_ret ?_) | refine ok_seq ?_ | refine ok_region ?_ | refine ok_block ?_ | refine ok_skip ?_ | refine ok_exit ?_ | refine ok_cond rfl (fun h => ?_) (fun h => ?_) | refine s_loopM 3 rfl [(0, _), (5, _), (11, _), (12, _)] (subL_cons rfl (subL_cons rfl (subL_cons rfl (subL_cons rfl subL_nil)))) (fun (p : Nat × List Dim × List (List D)) => [(13, .one (.d (.int .i64 (p.1 : Int))))]) (fun (p : Nat × List Dim × List (List D)) => [(10, .row 3 32 p.2.2)]) (fun (p : Nat × List Dim × List (List D)) => p.1 ≤ ks.length ∧ p.2.2 = p.2.1.map encDim ∧ p.2.2.length = ks.length ∧ p.2.1 = mixL (pickF l ks) ⟨[], 0, 0⟩ p.1) (fun (p : Nat × List Dim × List (List D)) => ks.length - p.1) (0, List.replicate ks.length ⟨[], 0, 0⟩, List.replicate ks.length [.str [], .int .i64 0, .int .i64 0]) (subL_cons rfl subL_nil) (by first | exact subL_nil | exact (subL_cons rfl subL_nil) | exact (subL_cons rfl (subL_cons rfl subL_nil)) | exact (subL_cons rfl (subL_cons rfl (subL_cons rfl subL_nil))) | exact (subL_cons rfl (subL_cons rfl (subL_cons rfl (subL_cons rfl subL_nil)))) | exact (subL_cons rfl (subL_cons rfl (subL_cons rfl (subL_cons rfl (subL_cons rfl subL_nil))))) | exact (subL_cons rfl (subL_cons rfl (subL_cons rfl (subL_cons rfl (subL_cons rfl (subL_cons rfl subL_nil)))))) | exact (subL_cons rfl (subL_cons rfl (subL_cons rfl (subL_cons rfl (subL_cons rfl (subL_cons rfl (subL_cons rfl subL_nil))))))) | exact (subL_cons rfl (subL_cons rfl (subL_cons rfl (subL_cons rfl (subL_cons rfl (subL_cons rfl (subL_cons rfl (subL_cons rfl subL_nil))))))))) ?_ (fun p ⟨hk, hr, hrl, hx⟩ => ?_) | fail) | (show thenQ _ _ _ _; first | refine then_n ?_ | refine then_x ?_ | fail) | (show blockQ _ _ _ _; first | refine block_n ?_ | refine block_x rfl ?_ | fail) | (show RetQ _ _ _ _ _ _; first | refine ret_leaf (.inl rfl) rfl rfl ?_ | fail) | (show Exists _; first | refine Exists.intro ((p.1 + 1, p.2.1.set p.1 (at_ l (at_ ks p.1).toNat), p.2.2.set p.1 [.str (at_ l (at_ ks p.1).toNat).name, .int .i64 (at_ l (at_ ks p.1).toNat).lo, .int .i64 (at_ l (at_ ks p.1).toNat).hi])) ⟨?_, ?_, (by first | exact subL_nil | exact (subL_cons rfl subL_nil) | exact (subL_cons rfl (subL_cons rfl subL_nil)) | exact (subL_cons rfl (subL_cons rfl (subL_cons rfl subL_nil))) | exact (subL_cons rfl (subL_cons rfl (subL_cons rfl (subL_cons rfl subL_nil)))) | exact (subL_cons rfl (subL_cons rfl (subL_cons rfl (subL_cons rfl (subL_cons rfl subL_nil))))) | exact (subL_cons rfl (subL_cons rfl (subL_cons rfl (subL_cons rfl (subL_cons rfl (subL_cons rfl subL_nil)))))) | exact (subL_cons rfl (subL_cons rfl (subL_cons rfl (subL_cons rfl (subL_cons rfl (subL_cons rfl (subL_cons rfl subL_nil))))))) | exact (subL_cons rfl (subL_cons rfl (subL_cons rfl (subL_cons rfl (subL_cons rfl (subL_cons rfl (subL_cons rfl (subL_cons rfl subL_nil))))))))), (subL_cons rfl subL_nil), (subL_cons rfl (subL_cons rfl (subL_cons rfl (subL_cons rfl subL_nil))))⟩ | fail) | fail)
  · exact ⟨Nat.zero_le _, by simp [encDim], by simp, by rw [mixL_zero]; simp [pickF]⟩
  · have hlt : p.1 < ks.length := by simpa using h
    refine ⟨hlt, ?_, by simp [hrl], ?_⟩
    · show p.2.2.set p.1 _ = List.map encDim (p.2.1.set p.1 _)
      rw [hr, List.map_set]; rfl
    · show p.2.1.set p.1 _ = mixL (pickF l ks) ⟨[], 0, 0⟩ (p.1 + 1)
      rw [hx, ← mixL_next (by rw [pick_len]; exact hlt), pick_at hlt]
  · have hlt : p.1 < ks.length := by simpa using h
    show ks.length - (p.1 + 1) < ks.length - p.1
    omega
  · have hge : ks.length ≤ p.1 := by simpa using h
    have e : p.2.2.take ks.length = (pickF l ks).map encDim := by
      rw [List.take_of_length_le (by omega), hr, hx, show p.1 = (pickF l ks).length by rw [pick_len]; omega, mixL_all]
    show AV.one (AC.d (.sl 3 32 (p.2.2.take ks.length))) = _
    rw [e]; rfl
end Go.Proofs.YtpejdgkaapnekaaGreat
namespace Go.Proofs.YtpejdgkaapnekaaGreat
open Go Go.Abs
attribute [local irreducible] OkOps OkC DRun thenQ blockQ RetQ
set_option maxRecDepth 10000
mutual
def countF : Scalar → Int → Int
  | .mk _ _ _ a, most => countLs a 1 most
def countLs : List Scalar → Int → Int → Int
  | [], n, _ => n
  | x :: r, n, most => if n ≤ most then countLs r (n + countF x (most - n)) most else n
end
end Go.Proofs.YtpejdgkaapnekaaGreat
namespace Go.Proofs.YtpejdgkaapnekaaGreat
open Go Go.Abs
attribute [local irreducible] OkOps OkC DRun thenQ blockQ RetQ
set_option maxRecDepth 10000
end Go.Proofs.YtpejdgkaapnekaaGreat
namespace Go.Proofs.YtpejdgkaapnekaaGreat
open Go Go.Abs
attribute [local irreducible] OkOps OkC DRun thenQ blockQ RetQ
set_option maxRecDepth 10000
def arity (op : Int) : Int := if 4 ≤ op ∧ op ≤ 8 then 1 else if 9 ≤ op ∧ op ≤ 21 then 2 else if op = 22 then 3 else 0
def zeroV (v : Val) : Bool := v.kind == 0 && (v.num == 0 && (v.den == 0 && v.str == []))
def partF (s : Scalar) : Bool :=
  if s.op = 1 then rightF s.val.kind s.val.num s.val.den s.val.str && (!(s.val.kind == 0) && (s.name == [] && (s.args.length : Int) == 0))
  else if s.op = 2 ∨ s.op = 3 then zeroV s.val && (s.args.length : Int) == 0
  else decide (0 < arity s.op) && (zeroV s.val && (s.name == [] && (s.args.length : Int) == arity s.op))
end Go.Proofs.YtpejdgkaapnekaaGreat
namespace Go.Proofs.YtpejdgkaapnekaaGreat
open Go Go.Abs
attribute [local irreducible] OkOps OkC DRun thenQ blockQ RetQ
set_option maxRecDepth 10000
mutual
def partsF : Scalar → Bool
  | .mk o n v a => partF (.mk o n v a) && partsL a
def partsL : List Scalar → Bool
  | [] => true
  | x :: r => partsF x && partsL r
end
end Go.Proofs.YtpejdgkaapnekaaGreat
namespace Go.Proofs.YtpejdgkaapnekaaGreat
open Go Go.Abs
mutual
def postL : Scalar → List Scalar
  | .mk o n v a => postLs a ++ [.mk o n v a]
def postLs : List Scalar → List Scalar
  | [] => []
  | x :: r => postL x ++ postLs r
end
end Go.Proofs.YtpejdgkaapnekaaGreat
namespace Go.Proofs.YtpejdgkaapnekaaGreat
open Go Go.Abs
attribute [local irreducible] OkOps OkC DRun thenQ blockQ RetQ
set_option maxRecDepth 10000
end Go.Proofs.YtpejdgkaapnekaaGreat
namespace Go.Proofs.YtpejdgkaapnekaaGreat
open Go Go.Abs
attribute [local irreducible] OkOps OkC DRun thenQ blockQ RetQ OkR normQ RoundQ AssignQ retQ
set_option maxRecDepth 10000
theorem c205 (ds : List Dim) : CallA Tryz.prog 205 [.one (.d (encDims ds))] [] (.one (.d (.fn 248 [.ptr [encDims ds]]))) [] := by
  refine enter tabOk Tryz.func205 rfl (by decide +kernel) rfl fun hok w0 σ0 φ0 M => ?_
  clear hok
  repeat' (first | (show OkOps _ _ _ _ _ _; first | refine okops_nil ?_ | refine s_plain tabOk rfl rfl rfl rfl rfl ?_ | (show OkOps _ _ _ (Oper.mk _ (Op.box _ _) _ _ _ (_) :: _) _ _; first | refine s_box 0 rfl rfl rfl rfl rfl rfl ?_ | fail) | refine s_mkF envOk rfl rfl rfl rfl rfl ?_ | fail) | (show OkC _ _ _ _ _; first | refine ok_seq ?_ | refine ok_region ?_ | refine ok_ret ?_ | fail) | (show thenQ _ _ _ _; first | refine then_n ?_ | fail) | (show RetQ _ _ _ _ _ _; first | refine ret_leaf (.inl rfl) rfl rfl ?_ | fail) | fail)
  all_goals rfl
def dimC (d : Dim) : AV := .agg [.d (.str d.name), .d (.int .i64 d.lo), .d (.int .i64 d.hi)]
theorem c248 (E : Nat → Sto) (hE : FamW E) (ds : List Dim) (hn : ds.length ≤ 1000)
    (hY : ∀ i : Int, 0 ≤ i → i < (ds.length : Int) → YieldA Tryz.prog 1000000 [.one (.d (.int .i64 i)), dimC (at_ ds i.toNat)] (E (i + 1).toNat) (.one (.d (.bool true))) (E i.toNat)) :
    CallA Tryz.prog 248 [.one (.yl 1000000), .one (.d (.ptr [encDims ds]))] (E ds.length) (.tup []) (E 0) := by
  refine enter tabOk Tryz.func248 rfl (by decide +kernel) rfl fun hok w0 σ0 φ0 M => ?_
  clear hok
  repeat' (first | (show OkOps _ _ _ _ _ _; first | refine okops_nil ?_ | refine s_plain tabOk rfl rfl rfl rfl rfl ?_ | (show OkOps _ _ _ (Oper.mk _ (Op.binOp .sub _ _ _ _) _ _ _ (_) :: _) _ _; first | refine s_e envOk rfl rfl rfl (step3_sub rfl rfl rfl rfl (wrap64 (by first | omega | ((try simp only [decide_eq_true_eq, decide_eq_false_iff_not, Bool.not_eq_true', Bool.not_true, Bool.not_false, List.length_map, List.length_set, bne_iff_ne, ne_eq, beq_iff_eq, bne_eq_false_iff_eq, beq_eq_false_iff_ne] at *); omega)) (by first | omega | ((try simp only [decide_eq_true_eq, decide_eq_false_iff_not, Bool.not_eq_true', Bool.not_true, Bool.not_false, List.length_map, List.length_set, bne_iff_ne, ne_eq, beq_iff_eq, bne_eq_false_iff_eq, beq_eq_false_iff_ne] at *); omega)))) ?_ | fail) | fail) | (show OkC _ _ _ _ _; first | refine ok_seq ?_ | refine ok_region ?_ | refine ok_block ?_ | fail) | (show thenQ _ _ _ _; first | refine then_n ?_ | fail) | fail)
  refine s_loopW hE (fun (p : Int) => (p + 1).toNat) [] [(0, _), (1, _)] (subL_cons rfl (subL_cons rfl subL_nil)) (fun (p : Int) => [(3, .one (.d (.int .i64 p)))]) (fun p => -1 ≤ p ∧ p < (ds.length : Int)) (fun p => (p + 1).toNat) (((ds.map encDim).length : Int) - 1)
    (by show E _ = E _; congr 1; simp) rfl (subL_cons rfl subL_nil) ?_ (fun p ⟨hp1, hp2⟩ => ?_)
  · refine ⟨?_, ?_⟩ <;> simp only [List.length_map] <;> omega
  · repeat' (first | (show OkOps _ _ _ _ _ _; first | refine okops_nil ?_ | refine s_plain tabOk rfl rfl rfl rfl rfl ?_ | (show OkOps _ _ _ (Oper.mk _ (Op.indexAddr _ _ _) _ _ _ (_) :: _) _ _; first | refine s_e envOk rfl rfl rfl (step3_idx rfl rfl rfl rfl rfl (by first | omega | ((try simp only [decide_eq_true_eq, decide_eq_false_iff_not, Bool.not_eq_true', Bool.not_true, Bool.not_false, List.length_map, List.length_set, bne_iff_ne, ne_eq, beq_iff_eq, bne_eq_false_iff_eq, beq_eq_false_iff_ne] at *); omega)) (at_map (by first | omega | ((try simp only [decide_eq_true_eq, decide_eq_false_iff_not, Bool.not_eq_true', Bool.not_true, Bool.not_false, List.length_map, List.length_set, bne_iff_ne, ne_eq, beq_iff_eq, bne_eq_false_iff_eq, beq_eq_false_iff_ne] at *); omega)))) ?_ | fail) | fail) | (show OkC _ _ _ _ _; first | refine ok_seq ?_ | refine ok_region ?_ | refine ok_block ?_ | refine ok_skip ?_ | refine ok_exit ?_ | refine ok_cond rfl (fun h => ?_) (fun h => ?_) | fail) | (show thenQ _ _ _ _; first | refine then_n ?_ | refine then_x ?_ | fail) | (show blockQ _ _ _ _; first | refine block_x rfl ?_ | fail) | fail)
    · have h0 : 0 ≤ p := by simpa using h
      refine s_yieldW [] (hY p h0 hp2) (hE.big _) (hE.big _) (hE.ins _) (hE.ins _) (hE.lp _) (hE.lp _) rfl rfl rfl rfl rfl rfl rfl rfl (by simp [avsIn, avIn, dimC, acsIn, acIn]) rfl rfl ?_
      repeat' (first | (show OkOps _ _ _ _ _ _; first | refine okops_nil ?_ | refine s_plain tabOk rfl rfl rfl rfl rfl ?_ | (show OkOps _ _ _ (Oper.mk _ (Op.binOp .sub _ _ _ _) _ _ _ (_) :: _) _ _; first | refine s_e envOk rfl rfl rfl (step3_sub rfl rfl rfl rfl (wrap64 (by omega) (by omega))) ?_ | fail) | fail) | (show OkC _ _ _ _ _; first | refine ok_region ?_ | refine ok_skip ?_ | refine ok_condF rfl ?_ | fail) | (show thenQ _ _ _ _; first | refine then_n ?_ | fail) | (show blockQ _ _ _ _; first | refine block_n ?_ | fail) | fail)
      refine ⟨p - 1, [], ⟨by omega, by omega⟩, by show (p - 1 + 1).toNat < (p + 1).toNat; omega, ?_, rfl, subL_nil, subL_cons rfl subL_nil, subL_cons rfl (subL_cons rfl subL_nil)⟩
      show E p.toNat = E (p - 1 + 1).toNat
      congr 1; omega
    · have h0 : p < 0 := by simpa using h
      have e : (p + 1).toNat = 0 := by omega
      refine ret_leafW [] (.inr rfl) rfl rfl rfl ⟨rfl, by rw [e]⟩ rfl (hE.big _) (hE.nd _)
def stoE (li : LI) (fr : List (Nat × AV)) (n : Nat) (q : Int) (X : List (List D)) : Sto :=
  [(1000000, .loop li fr .ready none), (1000001, .box [.d (.int .i64 q)]), (1000002, .box [.own 2000000 n]), (2000000, .row 1 8 X)]
def stJ (li : LI) (fr : List (Nat × AV)) (ds : List Dim) (k : Int) (j : Nat) : Sto := stoE li fr ds.length (unG (ds.drop j) k).2 ((List.replicate j 0 ++ (unG (ds.drop j) k).1).map encInt)
theorem famJ (li : LI) (fr : List (Nat × AV)) (ds : List Dim) (k : Int) (hf : ∀ q X, frIn (stoE li fr ds.length q X) fr = true) : FamW (stJ li fr ds k) := by
  refine ⟨fun a i e h => ?_, fun a => ?_, fun a => ⟨li, fr, .ready, none, rfl⟩, fun a => rfl⟩
  · unfold stJ stoE at h
    rcases look_cons h with ⟨rfl, _⟩ | ⟨_, h⟩
    · omega
    rcases look_cons h with ⟨rfl, _⟩ | ⟨_, h⟩
    · omega
    rcases look_cons h with ⟨rfl, _⟩ | ⟨_, h⟩
    · omega
    rcases look_cons h with ⟨rfl, _⟩ | ⟨_, h⟩
    · omega
    · exact nomatch h
  · show (frIn (stoE li fr ds.length _ _) fr && _) = true
    rw [hf]; rfl
theorem c248c (li : LI) (fr : List (Nat × AV)) (ds : List Dim) (k : Int) (hn : ds.length ≤ 1000) (hf : ∀ q X, frIn (stoE li fr ds.length q X) fr = true)
    (hY : ∀ i : Int, 0 ≤ i → i < (ds.length : Int) → YieldA Tryz.prog 1000000 [.one (.d (.int .i64 i)), dimC (at_ ds i.toNat)] (stJ li fr ds k (i + 1).toNat) (.one (.d (.bool true))) (stJ li fr ds k i.toNat)) :
    CallA Tryz.prog 248 [.one (.yl 1000000), .one (.d (.ptr [encDims ds]))] (stoE li fr ds.length k (List.replicate ds.length [.int .i64 0])) (.tup []) (stoE li fr ds.length (unG ds k).2 ((unG ds k).1.map encInt)) := by
  have h := c248 (stJ li fr ds k) (famJ li fr ds k hf) ds hn hY
  have e1 : stJ li fr ds k ds.length = stoE li fr ds.length k (List.replicate ds.length [.int .i64 0]) := by
    unfold stJ
    rw [List.drop_length]
    simp [unG, encInt]
  rw [e1] at h
  exact h
def q134 (i : Nat) : Nat := bif Nat.beq i 1000003 then 2000000 else i
def p134 (i : Nat) : Nat := bif Nat.beq i 2000000 then 5 else i
set_option maxHeartbeats 4000000 in
theorem c134 (ds : List Dim) (k : Int) : CallA Tryz.prog 134 [.one (.d (encDims ds)), .one (.d (.int .i64 k))] [] (coordAV (coordF ds k)) [] := by
  refine enter tabOk Tryz.func134 rfl (by decide +kernel) rfl fun hok w0 σ0 φ0 M => ?_
  have h1 := hok.1.sl; clear hok; simp only [List.length_map] at h1; replace h1 := h1.1
  by_cases hv : (volF ds).2 = 0
  · have hV := vok_of hv
    have hD := hV.dok
    have hb0 : ((volF ds).2 != 0) = false := by simp [hv]
    have h4 := hD.len
    have h5 := hV.all
    by_cases hk : k < 0 ∨ (volF ds).1 ≤ k
    · rcases Int.lt_or_le k 0 with hk1 | hk1
      · have hb1 : decide (k < 0) = true := by simp [hk1]
        repeat' (first | (show OkOps _ _ _ _ _ _; first | refine okops_nil ?_ | refine s_plain tabOk rfl rfl rfl rfl rfl ?_ | (show OkOps _ _ _ (Oper.mk _ (_) _ _ _ (some _) :: _) _ _; first | refine s_out rfl rfl (by first | assumption | rfl) rfl rfl ?_ | fail) | (show OkOps _ _ _ (Oper.mk _ (Op.pick _ _ _) _ _ _ (_) :: _) _ _; first | refine s_e envOk rfl rfl rfl (step3_pickT rfl rfl (by first | rfl | assumption) rfl) ?_ | fail) | (show OkOps _ _ _ (Oper.mk _ (Op.call _) _ _ _ (_) :: _) _ _; first | refine s_callF rfl rfl rfl rfl rfl rfl rfl rfl (c132 _) rfl ?_ | fail) | (show OkOps _ _ _ (Oper.mk _ (Op.box _ _) _ _ _ (_) :: _) _ _; first | refine s_box 0 rfl rfl rfl rfl rfl rfl ?_ | fail) | fail) | (show OkC _ _ _ _ _; first | refine ok_seq ?_ | refine ok_region ?_ | refine ok_skip ?_ | refine ok_ret ?_ | refine ok_condT rfl ?_ | refine ok_condKF rfl (by assumption) ?_ | fail) | (show thenQ _ _ _ _; first | refine then_n ?_ | refine then_r ?_ | fail) | (show RetQ _ _ _ _ _ _; first | refine ret_leaf (.inl rfl) rfl rfl ?_ | fail) | fail)
        all_goals (rw [coord_out hv hk]; rfl)
      · have hb1 : decide (k < 0) = false := by simp; omega
        have hb2 : decide ((volF ds).1 ≤ k) = true := by simp; omega
        repeat' (first | (show OkOps _ _ _ _ _ _; first | refine okops_nil ?_ | refine s_plain tabOk rfl rfl rfl rfl rfl ?_ | (show OkOps _ _ _ (Oper.mk _ (_) _ _ _ (some _) :: _) _ _; first | refine s_guard rfl rfl (by first | assumption | rfl) ?_ | fail) | (show OkOps _ _ _ (Oper.mk _ (Op.pick _ _ _) _ _ _ (_) :: _) _ _; first | refine s_e envOk rfl rfl rfl (step3_pickF rfl rfl (by first | rfl | assumption) rfl) ?_ | fail) | (show OkOps _ _ _ (Oper.mk _ (Op.call _) _ _ _ (_) :: _) _ _; first | refine s_callF rfl rfl rfl rfl rfl rfl rfl rfl (c132 _) rfl ?_ | fail) | (show OkOps _ _ _ (Oper.mk _ (Op.box _ _) _ _ _ (_) :: _) _ _; first | refine s_box 0 rfl rfl rfl rfl rfl rfl ?_ | fail) | fail) | (show OkC _ _ _ _ _; first | refine ok_seq ?_ | refine ok_region ?_ | refine ok_skip ?_ | refine ok_ret ?_ | refine ok_condKT rfl (by assumption) ?_ | refine ok_condKF rfl (by assumption) ?_ | fail) | (show thenQ _ _ _ _; first | refine then_n ?_ | refine then_r ?_ | fail) | (show RetQ _ _ _ _ _ _; first | refine ret_leaf (.inl rfl) rfl rfl ?_ | fail) | fail)
        all_goals (rw [coord_out hv hk]; rfl)
    · have hb1 : decide (k < 0) = false := by simp; omega
      have hb2 : decide ((volF ds).1 ≤ k) = false := by simp; omega
      have hkk : k ≤ 4611686018427387904 := by rw [hV.vol] at hk; omega
      have hbnd : ∀ j, j ≤ ds.length → 0 ≤ (unG (ds.drop j) k).2 ∧ (unG (ds.drop j) k).2 ≤ 4611686018427387904 := fun j hj => by
        have he : ∀ d ∈ ds.drop j, 0 < extF d := fun d hd => by have := vol_ext hD d (List.mem_of_mem_drop hd); omega
        rw [un_quot he]
        have hp := prod_pos he
        have := Int.ediv_le_self (prodF (ds.drop j)) (show 0 ≤ k by omega)
        exact ⟨Int.ediv_nonneg (by omega) (by omega), by omega⟩
      repeat' (first | (show OkOps _ _ _ _ _ _; first | (show OkOps _ _ _ (Oper.mk _ (Op.makeSlice _ _ _) _ _ _ (_) :: _) _ _; first | refine s_new envOk 10 rfl rfl rfl (step3_makeSlice (n := ds.length) rfl rfl rfl rfl rfl (by simp) (by simp) (by omega) (Nat.le_of_ble_eq_true rfl)) rfl rfl ?_ | fail) | refine okops_nil ?_ | refine s_plain tabOk rfl rfl rfl rfl rfl ?_ | (show OkOps _ _ _ (Oper.mk _ (_) _ _ _ (some _) :: _) _ _; first | refine s_guard rfl rfl (by first | assumption | rfl) ?_ | fail) | (show OkOps _ _ _ (Oper.mk _ (Op.pick _ _ _) _ _ _ (_) :: _) _ _; first | refine s_e envOk rfl rfl rfl (step3_pickF rfl rfl (by first | rfl | assumption) rfl) ?_ | fail) | (show OkOps _ _ _ (Oper.mk _ (Op.call _) _ _ _ (_) :: _) _ _; first | refine s_callF rfl rfl rfl rfl rfl rfl rfl rfl (c132 _) rfl ?_ | refine s_callD 16 rfl rfl rfl rfl rfl rfl rfl rfl (c205 _) rfl rfl rfl ?_ | fail) | (show OkOps _ _ _ (Oper.mk _ (Op.box _ _) _ _ _ (_) :: _) _ _; first | refine s_box 0 rfl rfl rfl rfl rfl rfl ?_ | fail) | (show OkOps _ _ _ (Oper.mk _ (Op.alloc _) _ _ _ (_) :: _) _ _; first | refine s_alloc tabOk 1 rfl rfl rfl rfl rfl ?_ | fail) | refine s_store envOk rfl rfl rfl ?_ | fail) | (show OkC _ _ _ _ _; first | refine ok_stopR2 ?_ | refine ok_seq ?_ | refine ok_region ?_ | refine ok_skip ?_ | refine ok_condKF rfl (by assumption) ?_ | fail) | (show thenQ _ _ _ _; first | refine then_n ?_ | fail) | (show normQ _ _ _; first | refine norm_n ?_ | fail) | fail)
      refine ok_rangeS (f := 248) (caps := [.ptr [encDims ds]]) (rav := .tup []) [0, 1, 10] 20 rfl rfl rfl rfl (callA_ren q134 p134 (c248c _ _ ds k (by omega) (fun q X => ?_) (fun i h0 h1 => ?_)) rfl rfl rfl rfl rfl rfl rfl) rfl (fun h => ?_) (fun h => ?_)
      · rfl
      · obtain ⟨j, rfl⟩ : ∃ j : Nat, i = (j : Int) := ⟨i.toNat, by omega⟩
        have hjl : j < ds.length := by omega
        have e1 : ((j : Int) + 1).toNat = j + 1 := by omega
        have e2 : (j : Int).toNat = j := rfl
        obtain ⟨h0i, h1i⟩ := hbnd (j + 1) (by omega)
        have hst := un_step (k := k) hjl
        have hun : (List.replicate (j + 1) 0 ++ (unG (ds.drop (j + 1)) k).1).length = ds.length := by
          rw [List.length_append, List.length_replicate, un_len, List.length_drop]; omega
        have hset := un_rep (j := j) (X := (unG (ds.drop (j + 1)) k).1) (y := (at_ ds j).lo + (unG (ds.drop (j + 1)) k).2 % extF (at_ ds j))
        unfold stJ
        rw [e1, e2, hst]
        dsimp only
        rw [← hset]
        generalize (unG (ds.drop (j + 1)) k).2 = q at h0i h1i
        generalize List.replicate (j + 1) 0 ++ (unG (ds.drop (j + 1)) k).1 = X at hun
        rw [List.map_set]
        clear hst hset
        refine yieldA_ok ⟨by omega, by omega⟩ rfl rfl fun w0 σ0 φ0 M B => ?_
        repeat' (first | (show OkOps _ _ _ _ _ _; first | refine okops_nil ?_ | refine s_plain tabOk rfl rfl rfl rfl rfl ?_ | (show OkOps _ _ _ (Oper.mk _ (Op.alloc _) _ _ _ (_) :: _) _ _; first | refine s_alloc tabOk 0 rfl rfl rfl rfl rfl ?_ | fail) | refine s_store envOk rfl rfl rfl ?_ | fail) | (show OkC _ _ _ _ _; first | refine ok_seq ?_ | refine ok_region ?_ | refine ok_block ?_ | refine ok_regionD progOk.mo ?_ | fail) | (show thenQ _ _ _ _; first | refine then_n ?_ | fail) | (show blockQ _ _ _ _; first | refine block_n ?_ | fail) | (show DRun _ _ _ _ _ _ _ _; first | (show DRun _ _ _ _ (Oper.mk _ (Op.binOp .rem _ _ _ _) _ _ _ (_) :: _) _ _ _; first | refine d_e envOk rfl rfl rfl (step3_remE rfl rfl rfl rfl h0i (Int.lt_of_lt_of_le Int.zero_lt_one (hD.ext _ (by omega)))) ?_ | fail) | (show DRun _ _ _ _ (Oper.mk _ (Op.binOp .add _ _ _ _) _ _ _ (_) :: _) _ _ _; first | refine d_e envOk rfl rfl rfl (step3_add rfl rfl rfl rfl (rem_w rfl (hD.bnd _ (by omega)))) ?_ | fail) | (show DRun _ _ _ _ (Oper.mk _ (Op.binOp .quo _ _ _ _) _ _ _ (_) :: _) _ _ _; first | refine d_e envOk rfl rfl rfl (step3_quoE rfl rfl rfl rfl h0i (Int.lt_of_lt_of_le Int.zero_lt_one (hD.ext _ (by omega))) (quot_w h0i h1i (hD.ext _ (by omega))).1) ?_ | fail) | refine d_nil (by kernel_rfl) ?_ | refine d_e envOk rfl rfl rfl (step3_plain rfl rfl) ?_ | (show DRun _ _ _ _ (Oper.mk _ (Op.indexAddr _ _ _) _ _ _ (_) :: _) _ _ _; first | refine d_e envOk rfl rfl rfl (step3_idxOwn rfl rfl rfl rfl rfl rfl (by omega) (by omega)) ?_ | fail) | (show DRun _ _ _ _ (Oper.mk _ (Op.call _) _ _ _ (_) :: _) _ _ _; first | refine d_l rfl rfl (loc_callF' rfl rfl rfl rfl rfl rfl (c203 _ _ _ (hD.bnd _ (by omega))) rfl) ?_ | fail) | refine d_store envOk rfl rfl (step3_storeRow rfl rfl rfl rfl rfl rfl rfl rfl rfl (at_map (by omega)) rfl) ?_ | refine d_store envOk rfl rfl rfl ?_ | fail) | (show RoundQ _ _ _ _ _; first | refine round_n rfl ?_ ?_ | fail) | (show AssignQ _ _ _ _ _ _ _ _; first | refine assign_n rfl ?_ | fail) | fail)
        · rfl
        · exact subL_cons (by kernel_rfl) (subL_cons (by kernel_rfl) (subL_cons (by kernel_rfl) (subL_cons (by kernel_rfl) subL_nil)))
      · rintro ⟨w1, σ1, φ1, M1, n1, rd1, mk1⟩ ⟨hn, hrd, _⟩
        dsimp only at hn hrd
        subst hn hrd
        refine okc_imp (imp_subS (s' := [(0, .box [.d (.int .i64 (unG ds k).2)]), (1, .box [.own 26 ds.length]), (26, .row 1 8 ((unG ds k).1.map encInt))]) (subL_cons (by kernel_rfl) (subL_cons (by kernel_rfl) (subL_cons (by kernel_rfl) subL_nil)))) ?_
        repeat' (first | (show OkOps _ _ _ _ _ _; first | refine okops_nil ?_ | refine s_plain tabOk rfl rfl rfl rfl rfl ?_ | fail) | (show OkC _ _ _ _ _; first | refine okc_imp (imp_sealL (dl := [26]) rfl) (ok_ret ?_) | refine ok_seq ?_ | refine ok_region ?_ | fail) | (show thenQ _ _ _ _; first | refine then_n ?_ | fail) | (show RetQ _ _ _ _ _ _; first | refine ret_leaf (.inl rfl) rfl rfl ?_ | fail) | (show retQ _ _ _; first | refine retq_n ?_ | fail) | fail)
        rw [coord_in hv hk]
        show AV.tup [(false, [.d (.sl 1 8 (((unG ds k).1.map encInt).take ds.length))]), _] = _
        rw [List.take_of_length_le (by rw [List.length_map, un_len]; omega)]
        rfl
      · exact nomatch h
  · have hb0 : ((volF ds).2 != 0) = true := by simp [hv]
    repeat' (first | (show OkOps _ _ _ _ _ _; first | refine okops_nil ?_ | refine s_plain tabOk rfl rfl rfl rfl rfl ?_ | (show OkOps _ _ _ (Oper.mk _ (Op.call _) _ _ _ (_) :: _) _ _; first | refine s_callF rfl rfl rfl rfl rfl rfl rfl rfl (c132 _) rfl ?_ | fail) | (show OkOps _ _ _ (Oper.mk _ (Op.box _ _) _ _ _ (_) :: _) _ _; first | refine s_box 0 rfl rfl rfl rfl rfl rfl ?_ | fail) | fail) | (show OkC _ _ _ _ _; first | refine ok_seq ?_ | refine ok_region ?_ | refine ok_ret ?_ | refine ok_condKT rfl (by assumption) ?_ | fail) | (show thenQ _ _ _ _; first | refine then_n ?_ | refine then_r ?_ | fail) | (show RetQ _ _ _ _ _ _; first | refine ret_leaf (.inl rfl) rfl rfl ?_ | fail) | fail)
    all_goals (rw [coord_vol hv]; rfl)
end Go.Proofs.YtpejdgkaapnekaaGreat
namespace Go.Proofs.YtpejdgkaapnekaaGreat
open Go Go.Abs
attribute [local irreducible] OkOps OkC DRun thenQ blockQ RetQ
set_option maxRecDepth 10000
theorem c133r (ds : List Dim) (xs : List Int) (hv : (volF ds).2 = 0) (hl : xs.length = ds.length) (h : ofF ds xs = true) : CallA Tryz.prog 133 [.one (.d (encDims ds)), .one (.d (encInts xs))] [] (.tup [(false, [.d (.int .i64 (rowGo 0 ds xs))]), (false, [.d (.int .i64 0)])]) [] := by
  have h1 := c133 ds xs
  rw [indexF_in hv (by omega) h] at h1
  exact h1
theorem c136r (ds : List Dim) (xs : List Int) (hv : (volF ds).2 = 0) (hl : xs.length = ds.length) (h : ofF ds xs = true) : CallA Tryz.prog 136 [.one (.d (encDims ds)), .one (.d (encInts xs))] [] (.tup [(false, [.d (.int .i64 (rowGo 0 ds xs))]), (false, [.d (.int .i64 0)])]) [] := by
  have h1 := c136 ds xs
  rw [indexF_in hv (by omega) h] at h1
  exact h1
theorem c134r (ds : List Dim) (k : Int) (hv : (volF ds).2 = 0) (h : ¬ (k < 0 ∨ (volF ds).1 ≤ k)) : CallA Tryz.prog 134 [.one (.d (encDims ds)), .one (.d (.int .i64 k))] [] (.tup [(false, [.d (encInts (unG ds k).1)]), (false, [.d (.int .i64 0)])]) [] := by
  have h1 := c134 ds k
  rw [coord_in hv h] at h1
  exact h1
theorem c137r (ds : List Dim) (k : Int) (hv : (volF ds).2 = 0) (h : ¬ (k < 0 ∨ (volF ds).1 ≤ k)) : CallA Tryz.prog 137 [.one (.d (encDims ds)), .one (.d (.int .i64 k))] [] (.tup [(false, [.d (encInts (unG ds k).1)]), (false, [.d (.int .i64 0)])]) [] := by
  have h1 := c137 ds k
  rw [coord_in hv h] at h1
  exact h1
theorem cell_of {a : Arr} (hA : OkA a.dims a.attrs a.cells) {i : Nat} (hi : i < a.cells.length) : (at_ a.cells i).at'.length = a.dims.length ∧ ofF a.dims (at_ a.cells i).at' = true := by
  obtain ⟨h1, h2, h3, h4⟩ := cellF_ok.1 (hA.cel _ (at_mem hi))
  exact ⟨h1, by simp [ofF, h1, h3]⟩
theorem row_in {a : Arr} {es : List Dim} (hR : Resh a es) (hv : (volF a.dims).2 = 0) (he : (volF es).2 = 0) {i : Nat} (hi : i < a.cells.length) : ¬ (rowGo 0 a.dims (at_ a.cells i).at' < 0 ∨ (volF es).1 ≤ rowGo 0 a.dims (at_ a.cells i).at') := by
  obtain ⟨h1, h2⟩ := hR.cell (at_mem hi)
  obtain ⟨b1, b2⟩ := row_bound (n := 0) h1 h2 (by omega)
  have := (vok_of he).vol
  have := hR.same
  omega
theorem reshF_bad {a : Arr} {es : List Dim} (h : chkA a ≠ 0) : reshF a es = (none, 2) := by unfold reshF; rw [if_pos h]
theorem reshF_sch {a : Arr} {es : List Dim} (h : chkA a = 0) (h2 : schemaF es a.attrs ≠ 0) : reshF a es = (none, schemaF es a.attrs) := by unfold reshF; rw [if_neg (by simp [h]), if_pos h2]
theorem reshF_v1 {a : Arr} {es : List Dim} (h : chkA a = 0) (h2 : schemaF es a.attrs = 0) (h3 : (volF a.dims).2 ≠ 0) : reshF a es = (none, (volF a.dims).2) := by unfold reshF; rw [if_neg (by simp [h]), if_neg (by simp [h2]), if_pos h3]
theorem reshF_v2 {a : Arr} {es : List Dim} (h : chkA a = 0) (h2 : schemaF es a.attrs = 0) (h3 : (volF a.dims).2 = 0) (h4 : (volF es).2 ≠ 0) : reshF a es = (none, (volF es).2) := by unfold reshF; rw [if_neg (by simp [h]), if_neg (by simp [h2]), if_neg (by simp [h3]), if_pos h4]
theorem reshF_ne {a : Arr} {es : List Dim} (h : chkA a = 0) (h2 : schemaF es a.attrs = 0) (h3 : (volF a.dims).2 = 0) (h4 : (volF es).2 = 0) (h5 : (volF a.dims).1 ≠ (volF es).1) : reshF a es = (none, 13) := by unfold reshF; rw [if_neg (by simp [h]), if_neg (by simp [h2]), if_neg (by simp [h3]), if_neg (by simp [h4]), if_pos h5]
theorem reshF_yes {a : Arr} {es : List Dim} (h : chkA a = 0) (h2 : schemaF es a.attrs = 0) (h3 : (volF a.dims).2 = 0) (h4 : (volF es).2 = 0) (h5 : (volF a.dims).1 = (volF es).1) : Resh a es ∧ reshF a es = (some (reshA a es), 0) := by
  rcases reshF_cases a es h with ⟨e, he, h6⟩ | ⟨hR, _, _, _, h6⟩
  · unfold reshF at h6
    rw [if_neg (by simp [h]), if_neg (by simp [h2]), if_neg (by simp [h3]), if_neg (by simp [h4]), if_neg (by simp [h5])] at h6
    unfold resF at h6
    rw [if_neg (by rw [List.length_map]; have := (okA h).few; omega)] at h6
    simp at h6
  · exact ⟨hR, h6⟩
theorem resh_split (a : Arr) (es : List Dim) :
    ((!validF [a]) = true ∧ (checkF a.dims a.attrs a.cells != 0) = true ∧ reshF a es = (none, 2)) ∨
    ((!validF [a]) = false ∧ (checkF a.dims a.attrs a.cells != 0) = false ∧ (schemaF es a.attrs != 0) = true ∧ reshF a es = (none, schemaF es a.attrs)) ∨
    ((!validF [a]) = false ∧ (checkF a.dims a.attrs a.cells != 0) = false ∧ (schemaF es a.attrs != 0) = false ∧ ((volF a.dims).2 != 0) = true ∧ reshF a es = (none, (volF a.dims).2)) ∨
    ((!validF [a]) = false ∧ (checkF a.dims a.attrs a.cells != 0) = false ∧ (schemaF es a.attrs != 0) = false ∧ ((volF a.dims).2 != 0) = false ∧ ((volF es).2 != 0) = true ∧ reshF a es = (none, (volF es).2)) ∨
    ((!validF [a]) = false ∧ (checkF a.dims a.attrs a.cells != 0) = false ∧ (schemaF es a.attrs != 0) = false ∧ ((volF a.dims).2 != 0) = false ∧ ((volF es).2 != 0) = false ∧ ((volF a.dims).1 != (volF es).1) = true ∧ reshF a es = (none, 13)) ∨
    ((!validF [a]) = false ∧ (checkF a.dims a.attrs a.cells != 0) = false ∧ (schemaF es a.attrs != 0) = false ∧ ((volF a.dims).2 != 0) = false ∧ ((volF es).2 != 0) = false ∧ ((volF a.dims).1 != (volF es).1) = false ∧ (volF a.dims).2 = 0 ∧ (volF es).2 = 0 ∧ Resh a es ∧ reshF a es = (some (reshA a es), 0)) := by
  by_cases hc : chkA a = 0
  rotate_left
  · exact .inl ⟨by simp [validF, hc], by unfold chkA at hc; simp [hc], reshF_bad hc⟩
  have hv : (!validF [a]) = false := by simp [validF, hc]
  have hw : (checkF a.dims a.attrs a.cells != 0) = false := by unfold chkA at hc; simp [hc]
  by_cases h2 : schemaF es a.attrs = 0
  rotate_left
  · exact .inr (.inl ⟨hv, hw, by simp [h2], reshF_sch hc h2⟩)
  by_cases h3 : (volF a.dims).2 = 0
  rotate_left
  · exact .inr (.inr (.inl ⟨hv, hw, by simp [h2], by simp [h3], reshF_v1 hc h2 h3⟩))
  by_cases h4 : (volF es).2 = 0
  rotate_left
  · exact .inr (.inr (.inr (.inl ⟨hv, hw, by simp [h2], by simp [h3], by simp [h4], reshF_v2 hc h2 h3 h4⟩)))
  by_cases h5 : (volF a.dims).1 = (volF es).1
  rotate_left
  · exact .inr (.inr (.inr (.inr (.inl ⟨hv, hw, by simp [h2], by simp [h3], by simp [h4], by simp [h5], reshF_ne hc h2 h3 h4 h5⟩))))
  obtain ⟨hR, e⟩ := reshF_yes hc h2 h3 h4 h5
  exact .inr (.inr (.inr (.inr (.inr ⟨hv, hw, by simp [h2], by simp [h3], by simp [h4], by simp [h5], h3, h4, hR, e⟩))))
theorem c40 (a : Arr) (es : List Dim) : CallA Tryz.prog 40 [aggA a, .one (.d (encDims es))] [] (arrE (reshF a es)) [] := by
  unfold aggA
  refine enter tabOk Tryz.func40 rfl (by decide +kernel) rfl fun hok w0 σ0 φ0 M => ?_
  clear hok
  rcases resh_split a es with ⟨hv, hw, e⟩ | ⟨hv, hw, hb2, e⟩ | ⟨hv, hw, hb2, hb3, e⟩ | ⟨hv, hw, hb2, hb3, hb4, e⟩ | ⟨hv, hw, hb2, hb3, hb4, hb5, e⟩ | ⟨hv, hw, hb2, hb3, hb4, hb5, h3, h4, hR, e⟩
  all_goals rw [e]
  rotate_right
  have hcn := hR.oka.few
  repeat' (first | (show OkOps _ _ _ _ _ _; first | (show OkOps _ _ _ (Oper.mk _ (Op.call _) _ _ _ (_) :: _) _ _; first | refine s_callFS [2] rfl rfl rfl rfl rfl rfl rfl rfl rfl (c96 [a]) rfl ?_ | fail) | (show OkOps _ _ _ (Oper.mk _ (Op.call _) _ _ _ (_) :: _) _ _; first | refine s_callG 16 [10] rfl rfl rfl rfl rfl rfl rfl rfl rfl (c99k es a.attrs (a.cells.map (reshC a.dims es)) _ _ (resh_diff hR) (by rw [List.length_map]; omega) rfl (by rw [hr, List.take_of_length_le (by simp; omega), List.take_of_length_le (by first | omega | ((try simp only [decide_eq_true_eq, decide_eq_false_iff_not, Bool.not_eq_true', Bool.not_true, Bool.not_false, List.length_map, List.length_set, bne_iff_ne, ne_eq, beq_iff_eq, bne_eq_false_iff_eq, beq_eq_false_iff_ne] at *); omega)), List.map_map]; rfl)) rfl rfl rfl ?_ | fail) | refine okops_nil ?_ | (show OkOps _ _ _ (Oper.mk _ (Op.call _) _ _ _ (_) :: _) _ _; first | refine s_append tabOk rfl rfl rfl rfl rfl rfl rfl rfl rfl rfl rfl rfl rfl (by first | omega | ((try simp only [decide_eq_true_eq, decide_eq_false_iff_not, List.length_map, List.length_cons, List.length_nil, List.length_append, List.length_take, List.length_drop, Int.toNat_natCast] at *); omega)) (by first | exact Nat.le_of_ble_eq_true rfl | omega | ((try simp only [decide_eq_true_eq, decide_eq_false_iff_not, List.length_map, List.length_cons, List.length_nil, List.length_append, List.length_take, List.length_drop, Int.toNat_natCast] at *); omega)) (Nat.le_of_ble_eq_true rfl) ?_ | fail) | refine s_plain tabOk rfl rfl rfl rfl rfl ?_ | (show OkOps _ _ _ (Oper.mk _ (Op.binOp .add _ _ _ _) _ _ _ (_) :: _) _ _; first | refine s_e envOk rfl rfl rfl (step3_add rfl rfl rfl rfl (wrap64 (by omega) (by omega))) ?_ | fail) | (show OkOps _ _ _ (Oper.mk _ (Op.indexAddr _ _ _) _ _ _ (_) :: _) _ _; first | refine s_e envOk rfl rfl rfl (step3_idx rfl rfl rfl rfl rfl (by first | omega | ((try simp only [decide_eq_true_eq, decide_eq_false_iff_not, Bool.not_eq_true', Bool.not_true, Bool.not_false, List.length_map, List.length_set, bne_iff_ne, ne_eq, beq_iff_eq, bne_eq_false_iff_eq, beq_eq_false_iff_ne] at *); omega)) (at_map (by first | omega | ((try simp only [decide_eq_true_eq, decide_eq_false_iff_not, Bool.not_eq_true', Bool.not_true, Bool.not_false, List.length_map, List.length_set, bne_iff_ne, ne_eq, beq_iff_eq, bne_eq_false_iff_eq, beq_eq_false_iff_ne] at *); omega)))) ?_ | fail) | (show OkOps _ _ _ (Oper.mk _ (Op.call _) _ _ _ (_) :: _) _ _; first | refine s_callF rfl rfl rfl rfl rfl rfl rfl rfl (c108 _ _) rfl ?_ | refine s_callF rfl rfl rfl rfl rfl rfl rfl rfl (c132 _) rfl ?_ | refine s_callF rfl rfl rfl rfl rfl rfl rfl rfl (c133r a.dims _ h3 (cell_of hR.oka (by first | omega | ((try simp only [decide_eq_true_eq, decide_eq_false_iff_not, Bool.not_eq_true', Bool.not_true, Bool.not_false, List.length_map, List.length_set, bne_iff_ne, ne_eq, beq_iff_eq, bne_eq_false_iff_eq, beq_eq_false_iff_ne] at *); omega))).1 (cell_of hR.oka (by first | omega | ((try simp only [decide_eq_true_eq, decide_eq_false_iff_not, Bool.not_eq_true', Bool.not_true, Bool.not_false, List.length_map, List.length_set, bne_iff_ne, ne_eq, beq_iff_eq, bne_eq_false_iff_eq, beq_eq_false_iff_ne] at *); omega))).2) rfl ?_ | refine s_callD 16 rfl rfl rfl rfl rfl rfl rfl rfl (c134r es _ h4 (row_in hR h3 h4 (by first | omega | ((try simp only [decide_eq_true_eq, decide_eq_false_iff_not, Bool.not_eq_true', Bool.not_true, Bool.not_false, List.length_map, List.length_set, bne_iff_ne, ne_eq, beq_iff_eq, bne_eq_false_iff_eq, beq_eq_false_iff_ne] at *); omega)))) rfl rfl rfl ?_ | fail) | (show OkOps _ _ _ (Oper.mk _ (Op.box _ _) _ _ _ (_) :: _) _ _; first | refine s_box 0 rfl rfl rfl rfl rfl rfl ?_ | fail) | (show OkOps _ _ _ (Oper.mk _ (Op.alloc _) _ _ _ (_) :: _) _ _; first | refine s_alloc tabOk 1 rfl rfl rfl rfl rfl ?_ | refine s_alloc tabOk 2 rfl rfl rfl rfl rfl ?_ | fail) | refine s_store envOk rfl rfl rfl ?_ | refine s_new envOk 2 rfl rfl rfl rfl rfl rfl ?_ | refine s_new envOk 3 rfl rfl rfl rfl rfl rfl ?_ | fail) | (show OkC _ _ _ _ _; first | refine ok_seq ?_ | refine ok_region ?_ | refine ok_block ?_ | refine ok_skip ?_ | refine ok_ret ?_ | refine ok_exit ?_ | refine ok_condKT rfl (by assumption) ?_ | refine ok_condKF rfl (by assumption) ?_ | refine ok_cond rfl (fun h => ?_) (fun h => ?_) | refine s_loopN 16 rfl (imp_adopt (s := 10) (id := 10) (k := 2) (b := 48) rfl rfl rfl rfl) [(1, _), (2, _), (4, _), (56, _), (57, _)] (subL_cons rfl (subL_cons rfl (subL_cons rfl (subL_cons rfl (subL_cons rfl subL_nil))))) (fun (bN : Bool × Bool) (p : Nat × List (List D)) => [(10, .one (.own 10 p.1)), (58, .one (.d (.int .i64 (p.1 : Int))))]) (fun (bN : Bool × Bool) (p : Nat × List (List D)) => [(10, .row 2 48 p.2), (0, .box [.d (encDims a.dims), .d (encAttrs a.attrs), .d (encCells a.cells)]), (1, .box [.d .nil, .d .nil, .d .nil])]) (fun (p : Nat × List (List D)) => p.1 ≤ a.cells.length ∧ p.2 = (a.cells.take p.1).map (fun c => encCell (reshC a.dims es c))) (fun (p : Nat × List (List D)) => a.cells.length - p.1) (0, []) (subL_cons rfl (subL_cons rfl subL_nil)) (by first | exact subL_nil | exact (subL_cons rfl subL_nil) | exact (subL_cons rfl (subL_cons rfl subL_nil)) | exact (subL_cons rfl (subL_cons rfl (subL_cons rfl subL_nil))) | exact (subL_cons rfl (subL_cons rfl (subL_cons rfl (subL_cons rfl subL_nil)))) | exact (subL_cons rfl (subL_cons rfl (subL_cons rfl (subL_cons rfl (subL_cons rfl subL_nil))))) | exact (subL_cons rfl (subL_cons rfl (subL_cons rfl (subL_cons rfl (subL_cons rfl (subL_cons rfl subL_nil)))))) | exact (subL_cons rfl (subL_cons rfl (subL_cons rfl (subL_cons rfl (subL_cons rfl (subL_cons rfl (subL_cons rfl subL_nil))))))) | exact (subL_cons rfl (subL_cons rfl (subL_cons rfl (subL_cons rfl (subL_cons rfl (subL_cons rfl (subL_cons rfl (subL_cons rfl subL_nil))))))))) (fun b y => by obtain ⟨b1, b2⟩ := b; cases b1 <;> cases b2 <;> first | exact Imp.refl _ | exact imp_ren qN (by kernel_rfl)) ?_ (fun p ⟨hk, hr⟩ => ?_) | fail) | (show thenQ _ _ _ _; first | refine then_n ?_ | refine then_r ?_ | refine then_x ?_ | fail) | (show blockQ _ _ _ _; first | refine block_n ?_ | refine block_r ?_ | refine block_x rfl ?_ | fail) | (show RetQ _ _ _ _ _ _; first | refine ret_leaf (.inl rfl) rfl rfl ?_ | fail) | (show Exists _; first | refine Exists.intro ((p.1 + 1, p.2.take p.1 ++ [encCell (reshC a.dims es (at_ a.cells p.1))])) (Exists.intro (false, false) ⟨?_, ?_, (by first | exact subL_nil | exact (subL_cons rfl subL_nil) | exact (subL_cons rfl (subL_cons rfl subL_nil)) | exact (subL_cons rfl (subL_cons rfl (subL_cons rfl subL_nil))) | exact (subL_cons rfl (subL_cons rfl (subL_cons rfl (subL_cons rfl subL_nil)))) | exact (subL_cons rfl (subL_cons rfl (subL_cons rfl (subL_cons rfl (subL_cons rfl subL_nil))))) | exact (subL_cons rfl (subL_cons rfl (subL_cons rfl (subL_cons rfl (subL_cons rfl (subL_cons rfl subL_nil)))))) | exact (subL_cons rfl (subL_cons rfl (subL_cons rfl (subL_cons rfl (subL_cons rfl (subL_cons rfl (subL_cons rfl subL_nil))))))) | exact (subL_cons rfl (subL_cons rfl (subL_cons rfl (subL_cons rfl (subL_cons rfl (subL_cons rfl (subL_cons rfl (subL_cons rfl subL_nil))))))))), (subL_cons rfl (subL_cons rfl subL_nil)), (subL_cons rfl (subL_cons rfl (subL_cons rfl (subL_cons rfl (subL_cons rfl subL_nil)))))⟩) | fail) | fail)
  all_goals first
    | rfl
    | exact ⟨Nat.zero_le _, rfl⟩
    | (have hlt : p.1 < a.cells.length := by simpa using h
       exact ⟨hlt, row_app (fun c => encCell (reshC a.dims es c)) a.cells hr hlt⟩)
    | (have hlt : p.1 < a.cells.length := by simpa using h
       show a.cells.length - (p.1 + 1) < a.cells.length - p.1
       omega)
    | trace_state
theorem c101g (ds : List Dim) (ats : List Attr) (l : List Cell) (ys : List (List D)) (hd : l.Pairwise diffC) (h1 : ds.length ≤ 1048576) (h2 : ats.length ≤ 1048576) (h3 : ∀ c ∈ l, smallC c) (hl : l.length ≤ 4096) (hy : ys = l.map encCell) : CallA Tryz.prog 101 [.one (.d (encDims ds)), .one (.d (encAttrs ats)), .one (.d (.sl 2 48 ys))] [] (.tup [(true, [.d (encDims ds), .d (encAttrs ats), .d (encCells (sortF l))]), (false, [.d (.int .i64 0)])]) [] := by
  subst hy
  have h := c101 ds ats l hd h1 h2 h3
  unfold resF at h
  rw [if_neg (by omega)] at h
  exact h
theorem resh_small {a : Arr} {es : List Dim} (hR : Resh a es) : ∀ c ∈ a.cells.map (reshC a.dims es), smallC c := fun c hc => by
  obtain ⟨x, hx, rfl⟩ := List.mem_map.1 hc
  have h4 := (dimsF_ok (schemaF_ok hR.sch).1).2.1
  have h6 := (schemaF_ok hR.oka.sch).2.2.1
  have := (cellF_ok.1 (hR.oka.cel x hx)).2.1
  exact ⟨by show (unG es _).1.length ≤ _; rw [un_len]; omega, by show x.vals.length ≤ _; omega⟩
theorem c41 (a : Arr) (es : List Dim) (hes : es.length ≤ 1048576) : CallA Tryz.prog 41 [aggA a, .one (.d (encDims es))] [] (arrE (reshF a es)) [] := by
  unfold aggA
  refine enter tabOk Tryz.func41 rfl (by decide +kernel) rfl fun hok w0 σ0 φ0 M => ?_
  clear hok
  rcases resh_split a es with ⟨hv, hw, e⟩ | ⟨hv, hw, hb2, e⟩ | ⟨hv, hw, hb2, hb3, e⟩ | ⟨hv, hw, hb2, hb3, hb4, e⟩ | ⟨hv, hw, hb2, hb3, hb4, hb5, e⟩ | ⟨hv, hw, hb2, hb3, hb4, hb5, h3, h4, hR, e⟩
  all_goals rw [e]
  rotate_right
  have hcn := hR.oka.few
  have ha6 := (schemaF_ok hR.oka.sch).2.2.1
  repeat' (first | (show OkOps _ _ _ _ _ _; first | (show OkOps _ _ _ (Oper.mk _ (Op.call _) _ _ _ (_) :: _) _ _; first | refine s_callG 16 [10] rfl rfl rfl rfl rfl rfl rfl rfl rfl (c101g es a.attrs (a.cells.map (reshC a.dims es)) _ (resh_diff hR) hes (by omega) (resh_small hR) (by rw [List.length_map]; omega) (by rw [hr, List.take_of_length_le (by simp; omega), List.take_of_length_le (by first | omega | ((try simp only [decide_eq_true_eq, decide_eq_false_iff_not, Bool.not_eq_true', Bool.not_true, Bool.not_false, List.length_map, List.length_set, bne_iff_ne, ne_eq, beq_iff_eq, bne_eq_false_iff_eq, beq_eq_false_iff_ne] at *); omega)), List.map_map]; rfl)) rfl rfl rfl ?_ | fail) | refine okops_nil ?_ | refine s_plain tabOk rfl rfl rfl rfl rfl ?_ | (show OkOps _ _ _ (Oper.mk _ (Op.call _) _ _ _ (_) :: _) _ _; first | refine s_append tabOk rfl rfl rfl rfl rfl rfl rfl rfl rfl rfl rfl rfl rfl (by first | omega | ((try simp only [decide_eq_true_eq, decide_eq_false_iff_not, List.length_map, List.length_cons, List.length_nil, List.length_append, List.length_take, List.length_drop, Int.toNat_natCast] at *); omega)) (by first | exact Nat.le_of_ble_eq_true rfl | omega | ((try simp only [decide_eq_true_eq, decide_eq_false_iff_not, List.length_map, List.length_cons, List.length_nil, List.length_append, List.length_take, List.length_drop, Int.toNat_natCast] at *); omega)) (Nat.le_of_ble_eq_true rfl) ?_ | fail) | (show OkOps _ _ _ (Oper.mk _ (Op.binOp .add _ _ _ _) _ _ _ (_) :: _) _ _; first | refine s_e envOk rfl rfl rfl (step3_add rfl rfl rfl rfl (wrap64 (by omega) (by omega))) ?_ | fail) | (show OkOps _ _ _ (Oper.mk _ (Op.indexAddr _ _ _) _ _ _ (_) :: _) _ _; first | refine s_e envOk rfl rfl rfl (step3_idx rfl rfl rfl rfl rfl (by first | omega | ((try simp only [decide_eq_true_eq, decide_eq_false_iff_not, Bool.not_eq_true', Bool.not_true, Bool.not_false, List.length_map, List.length_set, bne_iff_ne, ne_eq, beq_iff_eq, bne_eq_false_iff_eq, beq_eq_false_iff_ne] at *); omega)) (at_map (by first | omega | ((try simp only [decide_eq_true_eq, decide_eq_false_iff_not, Bool.not_eq_true', Bool.not_true, Bool.not_false, List.length_map, List.length_set, bne_iff_ne, ne_eq, beq_iff_eq, bne_eq_false_iff_eq, beq_eq_false_iff_ne] at *); omega)))) ?_ | fail) | (show OkOps _ _ _ (Oper.mk _ (Op.call _) _ _ _ (_) :: _) _ _; first | refine s_callF rfl rfl rfl rfl rfl rfl rfl rfl (c89 _ _ _) rfl ?_ | refine s_callF rfl rfl rfl rfl rfl rfl rfl rfl (c115 _ _) rfl ?_ | refine s_callF rfl rfl rfl rfl rfl rfl rfl rfl (c135 _) rfl ?_ | refine s_callD 16 rfl rfl rfl rfl rfl rfl rfl rfl (c137r es _ h4 (row_in hR h3 h4 (by first | omega | ((try simp only [decide_eq_true_eq, decide_eq_false_iff_not, Bool.not_eq_true', Bool.not_true, Bool.not_false, List.length_map, List.length_set, bne_iff_ne, ne_eq, beq_iff_eq, bne_eq_false_iff_eq, beq_eq_false_iff_ne] at *); omega)))) rfl rfl rfl ?_ | fail) | (show OkOps _ _ _ (Oper.mk _ (Op.box _ _) _ _ _ (_) :: _) _ _; first | refine s_box 0 rfl rfl rfl rfl rfl rfl ?_ | fail) | (show OkOps _ _ _ (Oper.mk _ (Op.alloc _) _ _ _ (_) :: _) _ _; first | refine s_alloc tabOk 1 rfl rfl rfl rfl rfl ?_ | fail) | refine s_store envOk rfl rfl rfl ?_ | refine s_new envOk 2 rfl rfl rfl rfl rfl rfl ?_ | fail) | (show OkC _ _ _ _ _; first | refine ok_seq ?_ | refine ok_region ?_ | refine ok_block ?_ | refine ok_skip ?_ | refine ok_ret ?_ | refine ok_exit ?_ | refine ok_condKT rfl (by assumption) ?_ | refine ok_condKF rfl (by assumption) ?_ | refine ok_cond rfl (fun h => ?_) (fun h => ?_) | refine ok_regionD progOk.mo ?_ | refine s_loopN 16 rfl (imp_adopt (s := 9) (id := 10) (k := 2) (b := 48) rfl rfl rfl rfl) [(1, _), (2, _), (4, _)] (subL_cons rfl (subL_cons rfl (subL_cons rfl subL_nil))) (fun (bN : Bool × Bool) (p : Nat × List (List D)) => [(9, .one (.own 10 p.1)), (10, .one (.d (.int .i64 (p.1 : Int))))]) (fun (bN : Bool × Bool) (p : Nat × List (List D)) => [(10, .row 2 48 p.2), (0, .box [.d (encDims a.dims), .d (encAttrs a.attrs), .d (encCells a.cells)]), (1, .box [.d .nil, .d .nil, .d .nil])]) (fun (p : Nat × List (List D)) => p.1 ≤ a.cells.length ∧ p.2 = (a.cells.take p.1).map (fun c => encCell (reshC a.dims es c))) (fun (p : Nat × List (List D)) => a.cells.length - p.1) (0, []) (subL_cons rfl (subL_cons rfl subL_nil)) (by first | exact subL_nil | exact (subL_cons rfl subL_nil) | exact (subL_cons rfl (subL_cons rfl subL_nil)) | exact (subL_cons rfl (subL_cons rfl (subL_cons rfl subL_nil))) | exact (subL_cons rfl (subL_cons rfl (subL_cons rfl (subL_cons rfl subL_nil)))) | exact (subL_cons rfl (subL_cons rfl (subL_cons rfl (subL_cons rfl (subL_cons rfl subL_nil))))) | exact (subL_cons rfl (subL_cons rfl (subL_cons rfl (subL_cons rfl (subL_cons rfl (subL_cons rfl subL_nil)))))) | exact (subL_cons rfl (subL_cons rfl (subL_cons rfl (subL_cons rfl (subL_cons rfl (subL_cons rfl (subL_cons rfl subL_nil))))))) | exact (subL_cons rfl (subL_cons rfl (subL_cons rfl (subL_cons rfl (subL_cons rfl (subL_cons rfl (subL_cons rfl (subL_cons rfl subL_nil))))))))) (fun b y => by obtain ⟨b1, b2⟩ := b; cases b1 <;> cases b2 <;> first | exact Imp.refl _ | exact imp_ren qN (by kernel_rfl)) ?_ (fun p ⟨hk, hr⟩ => ?_) | fail) | (show thenQ _ _ _ _; first | refine then_n ?_ | refine then_r ?_ | refine then_x ?_ | fail) | (show blockQ _ _ _ _; first | refine block_n ?_ | refine block_x rfl ?_ | fail) | (show RetQ _ _ _ _ _ _; first | refine ret_leaf (.inl rfl) rfl rfl ?_ | fail) | (show DRun _ _ _ _ _ _ _ _; first | (show DRun _ _ _ _ (Oper.mk _ (Op.call _) _ _ _ (_) :: _) _ _ _; first | refine d_l rfl rfl (loc_callF' rfl rfl rfl rfl rfl rfl (c136r a.dims _ h3 (cell_of hR.oka (by first | omega | ((try simp only [decide_eq_true_eq, decide_eq_false_iff_not, Bool.not_eq_true', Bool.not_true, Bool.not_false, List.length_map, List.length_set, bne_iff_ne, ne_eq, beq_iff_eq, bne_eq_false_iff_eq, beq_eq_false_iff_ne] at *); omega))).1 (cell_of hR.oka (by first | omega | ((try simp only [decide_eq_true_eq, decide_eq_false_iff_not, Bool.not_eq_true', Bool.not_true, Bool.not_false, List.length_map, List.length_set, bne_iff_ne, ne_eq, beq_iff_eq, bne_eq_false_iff_eq, beq_eq_false_iff_ne] at *); omega))).2) rfl) ?_ | fail) | refine d_nil (by kernel_rfl) ?_ | refine d_e envOk rfl rfl rfl (step3_plain rfl rfl) ?_ | (show DRun _ _ _ _ (Oper.mk _ (Op.indexAddr _ _ _) _ _ _ (_) :: _) _ _ _; first | refine d_e envOk rfl rfl rfl (step3_idx rfl rfl rfl rfl rfl (by first | omega | ((try simp only [decide_eq_true_eq, decide_eq_false_iff_not, Bool.not_eq_true', Bool.not_true, Bool.not_false, List.length_map, List.length_set, bne_iff_ne, ne_eq, beq_iff_eq, bne_eq_false_iff_eq, beq_eq_false_iff_ne] at *); omega)) (at_map (by first | omega | ((try simp only [decide_eq_true_eq, decide_eq_false_iff_not, Bool.not_eq_true', Bool.not_true, Bool.not_false, List.length_map, List.length_set, bne_iff_ne, ne_eq, beq_iff_eq, bne_eq_false_iff_eq, beq_eq_false_iff_ne] at *); omega)))) ?_ | fail) | fail) | (show Exists _; first | refine Exists.intro ((p.1 + 1, p.2.take p.1 ++ [encCell (reshC a.dims es (at_ a.cells p.1))])) (Exists.intro (false, false) ⟨?_, ?_, (by first | exact subL_nil | exact (subL_cons rfl subL_nil) | exact (subL_cons rfl (subL_cons rfl subL_nil)) | exact (subL_cons rfl (subL_cons rfl (subL_cons rfl subL_nil))) | exact (subL_cons rfl (subL_cons rfl (subL_cons rfl (subL_cons rfl subL_nil)))) | exact (subL_cons rfl (subL_cons rfl (subL_cons rfl (subL_cons rfl (subL_cons rfl subL_nil))))) | exact (subL_cons rfl (subL_cons rfl (subL_cons rfl (subL_cons rfl (subL_cons rfl (subL_cons rfl subL_nil)))))) | exact (subL_cons rfl (subL_cons rfl (subL_cons rfl (subL_cons rfl (subL_cons rfl (subL_cons rfl (subL_cons rfl subL_nil))))))) | exact (subL_cons rfl (subL_cons rfl (subL_cons rfl (subL_cons rfl (subL_cons rfl (subL_cons rfl (subL_cons rfl (subL_cons rfl subL_nil))))))))), (subL_cons rfl (subL_cons rfl subL_nil)), (subL_cons rfl (subL_cons rfl (subL_cons rfl subL_nil)))⟩) | fail) | fail)
  all_goals first
    | rfl
    | exact ⟨Nat.zero_le _, rfl⟩
    | (have hlt : p.1 < a.cells.length := by simpa using h
       exact ⟨hlt, row_app (fun c => encCell (reshC a.dims es c)) a.cells hr hlt⟩)
    | (have hlt : p.1 < a.cells.length := by simpa using h
       show a.cells.length - (p.1 + 1) < a.cells.length - p.1
       omega)
    | trace_state
end Go.Proofs.YtpejdgkaapnekaaGreat
namespace Go.Proofs.YtpejdgkaapnekaaGreat
open Go Go.Abs
attribute [local irreducible] OkOps OkC DRun thenQ blockQ RetQ
set_option maxRecDepth 10000
theorem c138n (ds : List Dim) (names : List (List UInt8)) (hn : names.length ≤ 1048576) (h : selGo ds [] names = none) : CallA Tryz.prog 138 [.one (.d (encDims ds)), .one (.d (encNames names)), .one (.d (.fn 139 []))] [] (.tup [(false, [.d .nil]), (false, [.d (.bool false)])]) [] := by
  have h1 := c138 ds names hn
  rw [h] at h1; exact h1
theorem c138s (ds : List Dim) (names : List (List UInt8)) (hn : names.length ≤ 1048576) (ks : List Int) (h : selGo ds [] names = some ks) : CallA Tryz.prog 138 [.one (.d (encDims ds)), .one (.d (encNames names)), .one (.d (.fn 139 []))] [] (.tup [(false, [.d (encInts ks)]), (false, [.d (.bool true)])]) [] := by
  have h1 := c138 ds names hn
  rw [h] at h1; exact h1
theorem trans_split (a : Arr) (names : List (List UInt8)) :
    ((!validF [a]) = true ∧ (checkF a.dims a.attrs a.cells != 0) = true ∧ transF a names = (none, 2)) ∨
    ((!validF [a]) = false ∧ (checkF a.dims a.attrs a.cells != 0) = false ∧ (((names.map encName).length : Int) != ((a.dims.map encDim).length : Int)) = true ∧ transF a names = (none, 13)) ∨
    ((!validF [a]) = false ∧ (checkF a.dims a.attrs a.cells != 0) = false ∧ (((names.map encName).length : Int) != ((a.dims.map encDim).length : Int)) = false ∧ selGo a.dims [] names = none ∧ names.length = a.dims.length ∧ transF a names = (none, 11)) ∨
    ((!validF [a]) = false ∧ (checkF a.dims a.attrs a.cells != 0) = false ∧ (((names.map encName).length : Int) != ((a.dims.map encDim).length : Int)) = false ∧ selGo a.dims [] names = some (ixs a.dims names) ∧ Tran a names ∧ transF a names = (some (tranA a names), 0)) := by
  by_cases hc : chkA a = 0
  rotate_left
  · exact .inl ⟨by simp [validF, hc], by unfold chkA at hc; simp [hc], by unfold transF; rw [if_pos hc]⟩
  have hv : (!validF [a]) = false := by simp [validF, hc]
  have hw : (checkF a.dims a.attrs a.cells != 0) = false := by unfold chkA at hc; simp [hc]
  by_cases h2 : names.length = a.dims.length
  rotate_left
  · exact .inr (.inl ⟨hv, hw, by simp; omega, by unfold transF; rw [if_neg (by simp [hc]), if_pos (by omega)]⟩)
  have hb : (((names.map encName).length : Int) != ((a.dims.map encDim).length : Int)) = false := by simp; omega
  rcases transF_cases a names hc with ⟨e, he, h3⟩ | ⟨hT, h3⟩
  · cases hs : selGo a.dims [] names with
    | none => exact .inr (.inr (.inl ⟨hv, hw, hb, rfl, h2, by unfold transF; rw [if_neg (by simp [hc]), if_neg (by omega), hs]⟩))
    | some ks =>
      unfold transF at h3
      rw [if_neg (by simp [hc]), if_neg (by omega), hs] at h3
      simp only [resF] at h3
      rw [if_neg (by rw [List.length_map]; have := (okA hc).few; omega)] at h3
      simp at h3
  · exact .inr (.inr (.inr ⟨hv, hw, hb, by have := sel_mk (acc := []) hT.all (by simpa using hT.nd); simpa [ixs] using this, hT, h3⟩))
section
variable {a : Arr} {names : List (List UInt8)}
theorem Tran.rng (h : Tran a names) : ∀ i, i < (ixs a.dims names).length → 0 ≤ at_ (ixs a.dims names) i ∧ (at_ (ixs a.dims names) i).toNat < a.dims.length := fun i hi => by
  rw [ix_len] at hi
  obtain ⟨k, h1, h2, _⟩ := h.ix hi
  rw [h1]; exact ⟨by omega, by simpa using h2⟩
theorem Tran.rngc (h : Tran a names) {j : Nat} (hj : j < a.cells.length) : ∀ i, i < (ixs a.dims names).length → 0 ≤ at_ (ixs a.dims names) i ∧ (at_ (ixs a.dims names) i).toNat < (at_ a.cells j).at'.length := fun i hi => by
  rw [h.cell (at_mem hj)]; exact h.rng i hi
end
set_option maxHeartbeats 4000000 in
theorem c42 (a : Arr) (names : List (List UInt8)) (hnn : names.length ≤ 1048576) : CallA Tryz.prog 42 [aggA a, .one (.d (encNames names))] [] (arrE (transF a names)) [] := by
  unfold aggA
  refine enter tabOk Tryz.func42 rfl (by decide +kernel) rfl fun hok w0 σ0 φ0 M => ?_
  clear hok
  rcases trans_split a names with ⟨hv, hw, e⟩ | ⟨hv, hw, hb, e⟩ | ⟨hv, hw, hb, hs, hl, e⟩ | ⟨hv, hw, hb, hs, hT, e⟩
  all_goals rw [e]
  rotate_right
  have hcn := hT.oka.few
  have hkn : (ixs a.dims names).length ≤ 1000 := by rw [ix_len, hT.len]; have := hT.oka.dims.2.1; omega
  repeat' (first | (show OkOps _ _ _ _ _ _; first | (show OkOps _ _ _ (Oper.mk _ (Op.call _) _ _ _ (_) :: _) _ _; first | refine s_callFS [2] rfl rfl rfl rfl rfl rfl rfl rfl rfl (c96 [a]) rfl ?_ | fail) | refine okops_nil ?_ | refine s_plain tabOk rfl rfl rfl rfl rfl ?_ | (show OkOps _ _ _ (Oper.mk _ (Op.binOp .add _ _ _ _) _ _ _ (_) :: _) _ _; first | refine s_e envOk rfl rfl rfl (step3_add rfl rfl rfl rfl (wrap64 (by omega) (by omega))) ?_ | fail) | (show OkOps _ _ _ (Oper.mk _ (Op.indexAddr _ _ _) _ _ _ (_) :: _) _ _; first | refine s_e envOk rfl rfl rfl (step3_idx rfl rfl rfl rfl rfl (by first | omega | ((try simp only [decide_eq_true_eq, decide_eq_false_iff_not, Bool.not_eq_true', Bool.not_true, Bool.not_false, List.length_map, List.length_set, bne_iff_ne, ne_eq, beq_iff_eq, bne_eq_false_iff_eq, beq_eq_false_iff_ne] at *); omega)) (at_map (by first | omega | ((try simp only [decide_eq_true_eq, decide_eq_false_iff_not, Bool.not_eq_true', Bool.not_true, Bool.not_false, List.length_map, List.length_set, bne_iff_ne, ne_eq, beq_iff_eq, bne_eq_false_iff_eq, beq_eq_false_iff_ne] at *); omega)))) ?_ | fail) | (show OkOps _ _ _ (Oper.mk _ (Op.call _) _ _ _ (_) :: _) _ _; first | refine s_callF rfl rfl rfl rfl rfl rfl rfl rfl (c138n a.dims names hnn (by assumption)) rfl ?_ | refine s_callD 16 rfl rfl rfl rfl rfl rfl rfl rfl (c138s a.dims names hnn _ (by assumption)) rfl rfl rfl ?_ | fail) | (show OkOps _ _ _ (Oper.mk _ (Op.box _ _) _ _ _ (_) :: _) _ _; first | refine s_box 0 rfl rfl rfl rfl rfl rfl ?_ | fail) | (show OkOps _ _ _ (Oper.mk _ (Op.alloc _) _ _ _ (_) :: _) _ _; first | refine s_alloc tabOk 1 rfl rfl rfl rfl rfl ?_ | refine s_alloc tabOk 2 rfl rfl rfl rfl rfl ?_ | fail) | refine s_store envOk rfl rfl rfl ?_ | refine s_new envOk 2 rfl rfl rfl rfl rfl rfl ?_ | fail) | (show OkC _ _ _ _ _; first | refine ok_seq ?_ | refine ok_region ?_ | refine ok_block ?_ | refine ok_skip ?_ | refine ok_ret ?_ | refine ok_exit ?_ | refine ok_condT rfl ?_ | refine ok_condF rfl ?_ | refine ok_condKT rfl (by assumption) ?_ | refine ok_condKF rfl (by assumption) ?_ | refine ok_cond rfl (fun h => ?_) (fun h => ?_) | refine ok_regionD progOk.mo ?_ | refine s_loopN 10 rfl (imp_adopt (s := 8) (id := 10) (k := 2) (b := 48) rfl rfl rfl rfl) [(2, _), (4, _), (6, _), (36, _), (37, _)] (subL_cons rfl (subL_cons rfl (subL_cons rfl (subL_cons rfl (subL_cons rfl subL_nil))))) (fun (bN : Bool × Bool) (p : Nat × List (List D)) => [(8, .one (.own (nmA bN) p.1)), (38, .one (.d (.int .i64 (p.1 : Int))))]) (fun (bN : Bool × Bool) (p : Nat × List (List D)) => [((nmA bN), .row 2 48 p.2), (0, .box [.d (encDims a.dims), .d (encAttrs a.attrs), .d (encCells a.cells)]), (1, .box [.d .nil, .d .nil, .d .nil])]) (fun (p : Nat × List (List D)) => p.1 ≤ a.cells.length ∧ p.2 = (a.cells.take p.1).map (fun c => encCell (permC (ixs a.dims names) c))) (fun (p : Nat × List (List D)) => a.cells.length - p.1) (0, []) (subL_cons rfl (subL_cons rfl subL_nil)) (by first | exact subL_nil | exact (subL_cons rfl subL_nil) | exact (subL_cons rfl (subL_cons rfl subL_nil)) | exact (subL_cons rfl (subL_cons rfl (subL_cons rfl subL_nil))) | exact (subL_cons rfl (subL_cons rfl (subL_cons rfl (subL_cons rfl subL_nil)))) | exact (subL_cons rfl (subL_cons rfl (subL_cons rfl (subL_cons rfl (subL_cons rfl subL_nil))))) | exact (subL_cons rfl (subL_cons rfl (subL_cons rfl (subL_cons rfl (subL_cons rfl (subL_cons rfl subL_nil)))))) | exact (subL_cons rfl (subL_cons rfl (subL_cons rfl (subL_cons rfl (subL_cons rfl (subL_cons rfl (subL_cons rfl subL_nil))))))) | exact (subL_cons rfl (subL_cons rfl (subL_cons rfl (subL_cons rfl (subL_cons rfl (subL_cons rfl (subL_cons rfl (subL_cons rfl subL_nil))))))))) (fun b y => by obtain ⟨b1, b2⟩ := b; cases b1 <;> cases b2 <;> first | exact Imp.refl _ | exact imp_ren qN (by kernel_rfl)) ?_ (fun p ⟨hk, hr⟩ => ?_) | fail) | (show thenQ _ _ _ _; first | refine then_n ?_ | refine then_r ?_ | refine then_x ?_ | fail) | (show blockQ _ _ _ _; first | refine block_n ?_ | refine block_r ?_ | refine block_x rfl ?_ | fail) | (show RetQ _ _ _ _ _ _; first | refine ret_leaf (.inl rfl) rfl rfl ?_ | fail) | (show DRun _ _ _ _ _ _ _ _; first | (show DRun _ _ _ _ (Oper.mk _ (Op.call _) _ _ _ (_) :: _) _ _ _; first | refine d_callD 16 rfl rfl rfl rfl rfl rfl rfl rfl (c140 (at_ a.cells (p.1 : Int).toNat).at' (ixs a.dims names) hkn (hT.rngc (by first | omega | ((try simp only [decide_eq_true_eq, decide_eq_false_iff_not, Bool.not_eq_true', Bool.not_true, Bool.not_false, List.length_map, List.length_set, bne_iff_ne, ne_eq, beq_iff_eq, bne_eq_false_iff_eq, beq_eq_false_iff_ne] at *); omega)))) rfl rfl ?_ | fail) | (show DRun _ _ _ _ (Oper.mk _ (Op.call _) _ _ _ (_) :: _) _ _ _; first | refine d_callD 16 rfl rfl rfl rfl rfl rfl rfl rfl (c141 a.dims (ixs a.dims names) hkn hT.rng) rfl rfl ?_ | fail) | (show DRun _ _ _ _ (Oper.mk _ (Op.call _) _ _ _ (_) :: _) _ _ _; first | refine d_callG 16 [10] rfl rfl rfl rfl rfl rfl rfl rfl rfl (c99k (pickF a.dims (ixs a.dims names)) a.attrs (a.cells.map (permC (ixs a.dims names))) _ _ (tran_diff hT) (by rw [List.length_map]; omega) rfl (by rw [hr, List.take_of_length_le (by simp; omega), List.take_of_length_le (by first | omega | ((try simp only [decide_eq_true_eq, decide_eq_false_iff_not, Bool.not_eq_true', Bool.not_true, Bool.not_false, List.length_map, List.length_set, bne_iff_ne, ne_eq, beq_iff_eq, bne_eq_false_iff_eq, beq_eq_false_iff_ne] at *); omega)), List.map_map]; rfl)) rfl rfl ?_ | fail) | (show DRun _ _ _ _ (Oper.mk _ (Op.call _) _ _ _ (_) :: _) _ _ _; first | refine d_new envOk 11 rfl rfl rfl (step3_appendB (i := 10) rfl rfl rfl rfl rfl rfl rfl rfl (by first | omega | ((try simp only [decide_eq_true_eq, decide_eq_false_iff_not, List.length_map, List.length_cons, List.length_nil, List.length_append, List.length_take, List.length_drop, Int.toNat_natCast] at *); omega)) (by first | exact Nat.le_of_ble_eq_true rfl | omega | ((try simp only [decide_eq_true_eq, decide_eq_false_iff_not, List.length_map, List.length_cons, List.length_nil, List.length_append, List.length_take, List.length_drop, Int.toNat_natCast] at *); omega)) (Nat.le_of_ble_eq_true rfl)) rfl rfl ?_ | fail) | refine d_nil (by kernel_rfl) ?_ | refine d_e envOk rfl rfl rfl (step3_plain rfl rfl) ?_ | refine d_new envOk 3 rfl rfl rfl rfl rfl rfl ?_ | refine d_store envOk rfl rfl rfl ?_ | fail) | (show Exists _; first | refine Exists.intro ((p.1 + 1, p.2.take p.1 ++ [encCell (permC (ixs a.dims names) (at_ a.cells p.1))])) (Exists.intro (true, false) ⟨?_, ?_, (by first | exact subL_nil | exact (subL_cons rfl subL_nil) | exact (subL_cons rfl (subL_cons rfl subL_nil)) | exact (subL_cons rfl (subL_cons rfl (subL_cons rfl subL_nil))) | exact (subL_cons rfl (subL_cons rfl (subL_cons rfl (subL_cons rfl subL_nil)))) | exact (subL_cons rfl (subL_cons rfl (subL_cons rfl (subL_cons rfl (subL_cons rfl subL_nil))))) | exact (subL_cons rfl (subL_cons rfl (subL_cons rfl (subL_cons rfl (subL_cons rfl (subL_cons rfl subL_nil)))))) | exact (subL_cons rfl (subL_cons rfl (subL_cons rfl (subL_cons rfl (subL_cons rfl (subL_cons rfl (subL_cons rfl subL_nil))))))) | exact (subL_cons rfl (subL_cons rfl (subL_cons rfl (subL_cons rfl (subL_cons rfl (subL_cons rfl (subL_cons rfl (subL_cons rfl subL_nil))))))))), (subL_cons rfl (subL_cons rfl subL_nil)), (subL_cons rfl (subL_cons rfl (subL_cons rfl (subL_cons rfl (subL_cons rfl subL_nil)))))⟩) | fail) | fail)
  all_goals first
    | rfl
    | exact ⟨Nat.zero_le _, rfl⟩
    | (have hlt : p.1 < a.cells.length := by simpa using h
       exact ⟨hlt, row_app (fun c => encCell (permC (ixs a.dims names) c)) a.cells hr hlt⟩)
    | (have hlt : p.1 < a.cells.length := by simpa using h
       show a.cells.length - (p.1 + 1) < a.cells.length - p.1
       omega)
    | trace_state
theorem c118e (ys : List (List D)) (l : List Dim) (name : List UInt8) (h : ys = l.map encDim) : CallA Tryz.prog 118 [.one (.d (.sl 3 32 ys)), .one (.d (.str name))] [] (.one (.d (.int .i64 (dimX l name)))) [] := by
  subst h; exact c118 l name
theorem dim_pos {ds : List Dim} {n : List UInt8} (h : decide (idxGo (fun a : Dim => a.name == n) ds 0 < 0) = false) : 0 ≤ idxGo (fun a : Dim => a.name == n) ds 0 ∧ (idxGo (fun a : Dim => a.name == n) ds 0).toNat < ds.length := by
  have h0 := of_decide_eq_false h
  obtain ⟨k, h1, h2, _⟩ := idxGo_at h0
  rw [h1]; exact ⟨by omega, by simpa using h2⟩
def takenD (ds : List Dim) (n : List UInt8) : Dim := at_ ds (dimX ds n).toNat
theorem takenD_name {ds : List Dim} {n : List UInt8} (h : ¬ dimX ds n < 0) : (takenD ds n).name = n := by
  obtain ⟨k, h1, _, h3, _⟩ := dimX_at h
  unfold takenD; rw [h1]; exact h3
theorem chosen_iff {ds : List Dim} {ms : List (List UInt8)} {n : List UInt8} (hm : ∀ m ∈ ms, ¬ dimX ds m < 0) (hn : ¬ dimX ds n < 0) : 0 ≤ dimX (ms.map (takenD ds)) n ↔ (ms.map (dimX ds)).contains (dimX ds n) = true := by
  rw [dimX_mem]
  have e : (ms.map (takenD ds)).map Dim.name = ms := by
    rw [List.map_map]
    exact (List.map_congr_left fun m h => takenD_name (hm m h)).trans (List.map_id ms)
  rw [e]
  simp only [List.contains_eq_mem, decide_eq_true_eq, List.mem_map]
  constructor
  · intro h; exact ⟨n, h, rfl⟩
  · rintro ⟨m, h, he⟩
    have h1 := takenD_name (hm m h)
    have h2 := takenD_name hn
    unfold takenD at h1 h2
    rw [he, h2] at h1
    rw [h1]; exact h
theorem tran_small {a : Arr} {names : List (List UInt8)} (hT : Tran a names) : ∀ c ∈ a.cells.map (permC (ixs a.dims names)), smallC c := fun c hc => by
  obtain ⟨x, hx, rfl⟩ := List.mem_map.1 hc
  have h4 := hT.oka.dims.2.1
  have h6 := (schemaF_ok hT.oka.sch).2.2.1
  have := (cellF_ok.1 (hT.oka.cel x hx)).2.1
  exact ⟨by show (pickF _ _).length ≤ _; rw [pick_len, ix_len, hT.len]; omega, by show x.vals.length ≤ _; omega⟩
set_option maxHeartbeats 8000000 in
theorem c43 (a : Arr) (names : List (List UInt8)) (hnn : names.length ≤ 1048576) : CallA Tryz.prog 43 [aggA a, .one (.d (encNames names))] [] (arrE (transF a names)) [] := by
  unfold aggA
  refine enter tabOk Tryz.func43 rfl (by decide +kernel) rfl fun hok w0 σ0 φ0 M => ?_
  clear hok
  rcases trans_split a names with ⟨hv, hw, e⟩ | ⟨hv, hw, hb, e⟩ | ⟨hv, hw, hb, hs, hl, e⟩ | ⟨hv, hw, hb, hs, hT, e⟩
  all_goals rw [e]
  repeat' (first | (show OkOps _ _ _ _ _ _; first | (show OkOps _ _ _ (Oper.mk _ (Op.call _) _ _ _ (_) :: _) _ _; first | refine s_callFS [12] rfl rfl rfl rfl rfl rfl rfl rfl rfl (c118e _ ((names.take q.1).map (takenD a.dims)) _ (by rw [List.take_of_length_le (by rw [hq3]; simp; omega), hq3, List.map_map]; rfl)) rfl ?_ | fail) | (show OkOps _ _ _ (Oper.mk _ (Op.indexAddr _ _ _) _ _ _ (_) :: _) _ _; first | refine s_e envOk rfl rfl rfl (step3_idx rfl rfl rfl rfl rfl (dim_pos (by assumption)).1 (at_map (dim_pos (by assumption)).2)) ?_ | fail) | refine okops_nil ?_ | (show OkOps _ _ _ (Oper.mk _ (Op.call _) _ _ _ (_) :: _) _ _; first | refine s_append tabOk rfl rfl rfl rfl rfl rfl rfl rfl rfl rfl rfl rfl rfl (by first | omega | ((try simp only [decide_eq_true_eq, decide_eq_false_iff_not, List.length_map, List.length_cons, List.length_nil, List.length_append, List.length_take, List.length_drop, Int.toNat_natCast] at *); omega)) (by first | exact Nat.le_of_ble_eq_true rfl | omega | ((try simp only [decide_eq_true_eq, decide_eq_false_iff_not, List.length_map, List.length_cons, List.length_nil, List.length_append, List.length_take, List.length_drop, Int.toNat_natCast] at *); omega)) (Nat.le_of_ble_eq_true rfl) ?_ | fail) | refine s_plain tabOk rfl rfl rfl rfl rfl ?_ | (show OkOps _ _ _ (Oper.mk _ (_) _ _ _ (some _) :: _) _ _; first | refine s_guard rfl rfl (by first | assumption | rfl) ?_ | refine s_out rfl rfl (by first | assumption | rfl) rfl rfl ?_ | refine s_split rfl rfl rfl rfl (fun h => ?_) (fun h => ?_) | fail) | (show OkOps _ _ _ (Oper.mk _ (Op.binOp .add _ _ _ _) _ _ _ (_) :: _) _ _; first | refine s_e envOk rfl rfl rfl (step3_add rfl rfl rfl rfl (wrap64 (by omega) (by omega))) ?_ | fail) | (show OkOps _ _ _ (Oper.mk _ (Op.pick _ _ _) _ _ _ (_) :: _) _ _; first | refine s_e envOk rfl rfl rfl (step3_pickT rfl rfl (by first | rfl | assumption) rfl) ?_ | refine s_e envOk rfl rfl rfl (step3_pickF rfl rfl (by first | rfl | assumption) rfl) ?_ | fail) | (show OkOps _ _ _ (Oper.mk _ (Op.indexAddr _ _ _) _ _ _ (_) :: _) _ _; first | refine s_e envOk rfl rfl rfl (step3_idx rfl rfl rfl rfl rfl (by first | omega | ((try simp only [decide_eq_true_eq, decide_eq_false_iff_not, Bool.not_eq_true', Bool.not_true, Bool.not_false, List.length_map, List.length_set, bne_iff_ne, ne_eq, beq_iff_eq, bne_eq_false_iff_eq, beq_eq_false_iff_ne] at *); omega)) (at_map (by first | omega | ((try simp only [decide_eq_true_eq, decide_eq_false_iff_not, Bool.not_eq_true', Bool.not_true, Bool.not_false, List.length_map, List.length_set, bne_iff_ne, ne_eq, beq_iff_eq, bne_eq_false_iff_eq, beq_eq_false_iff_ne] at *); omega)))) ?_ | fail) | (show OkOps _ _ _ (Oper.mk _ (Op.call _) _ _ _ (_) :: _) _ _; first | refine s_callF rfl rfl rfl rfl rfl rfl rfl rfl (c89 _ _ _) rfl ?_ | fail) | (show OkOps _ _ _ (Oper.mk _ (Op.box _ _) _ _ _ (_) :: _) _ _; first | refine s_box 0 rfl rfl rfl rfl rfl rfl ?_ | fail) | (show OkOps _ _ _ (Oper.mk _ (Op.alloc _) _ _ _ (_) :: _) _ _; first | refine s_alloc tabOk 1 rfl rfl rfl rfl rfl ?_ | fail) | refine s_store envOk rfl rfl rfl ?_ | refine s_new envOk 2 rfl rfl rfl rfl rfl rfl ?_ | refine s_new envOk 3 rfl rfl rfl rfl rfl rfl ?_ | fail) | (show OkC _ _ _ _ _; first | refine ok_seq ?_ | refine ok_region ?_ | refine ok_block ?_ | refine ok_skip ?_ | refine ok_ret ?_ | refine ok_exit ?_ | refine ok_condT rfl ?_ | refine ok_condKT rfl (by assumption) ?_ | refine ok_condKF rfl (by assumption) ?_ | refine ok_cond rfl (fun h => ?_) (fun h => ?_) | refine ok_regionD progOk.mo ?_ | refine s_loopN 8 rfl (Imp.trans (imp_adopt (s := 6) (id := 11) (k := 1) (b := 8) rfl rfl rfl rfl) (imp_adopt (s := 7) (id := 12) (k := 3) (b := 32) rfl rfl rfl rfl)) [(1, _), (2, _), (4, _)] (subL_cons rfl (subL_cons rfl (subL_cons rfl subL_nil))) (fun (bN : Bool × Bool) (q : Nat × List (List D) × List (List D)) => [(6, .one (.own 11 q.1)), (7, .one (.own 12 q.1)), (8, .one (.d (.int .i64 (q.1 : Int))))]) (fun (bN : Bool × Bool) (q : Nat × List (List D) × List (List D)) => [(11, .row 1 8 q.2.1), (12, .row 3 32 q.2.2), (0, .box [.d (encDims a.dims), .d (encAttrs a.attrs), .d (encCells a.cells)]), (1, .box [.d .nil, .d .nil, .d .nil])]) (fun (q : Nat × List (List D) × List (List D)) => q.1 ≤ names.length ∧ q.2.1 = (names.take q.1).map (fun n => encInt (dimX a.dims n)) ∧ q.2.2 = (names.take q.1).map (fun n => encDim (takenD a.dims n)) ∧ selGo a.dims [] names = selGo a.dims ((names.take q.1).map (dimX a.dims)) (names.drop q.1) ∧ (∀ n ∈ names.take q.1, ¬ dimX a.dims n < 0)) (fun (q : Nat × List (List D) × List (List D)) => names.length - q.1) (0, [], []) (subL_cons rfl (subL_cons rfl (subL_cons rfl subL_nil))) (by first | exact subL_nil | exact (subL_cons rfl subL_nil) | exact (subL_cons rfl (subL_cons rfl subL_nil)) | exact (subL_cons rfl (subL_cons rfl (subL_cons rfl subL_nil))) | exact (subL_cons rfl (subL_cons rfl (subL_cons rfl (subL_cons rfl subL_nil)))) | exact (subL_cons rfl (subL_cons rfl (subL_cons rfl (subL_cons rfl (subL_cons rfl subL_nil))))) | exact (subL_cons rfl (subL_cons rfl (subL_cons rfl (subL_cons rfl (subL_cons rfl (subL_cons rfl subL_nil)))))) | exact (subL_cons rfl (subL_cons rfl (subL_cons rfl (subL_cons rfl (subL_cons rfl (subL_cons rfl (subL_cons rfl subL_nil))))))) | exact (subL_cons rfl (subL_cons rfl (subL_cons rfl (subL_cons rfl (subL_cons rfl (subL_cons rfl (subL_cons rfl (subL_cons rfl subL_nil))))))))) (fun b y => by obtain ⟨b1, b2⟩ := b; cases b1 <;> cases b2 <;> first | exact Imp.refl _ | exact imp_ren qN (by kernel_rfl)) ?_ (fun q ⟨hq1, hq2, hq3, hq4, hq5⟩ => ?_) | fail) | (show thenQ _ _ _ _; first | refine then_n ?_ | refine then_r ?_ | refine then_x ?_ | fail) | (show blockQ _ _ _ _; first | refine block_n ?_ | refine block_r ?_ | refine block_x rfl ?_ | fail) | (show RetQ _ _ _ _ _ _; first | refine ret_leaf (.inl rfl) rfl rfl ?_ | fail) | (show DRun _ _ _ _ _ _ _ _; first | refine d_nil (by kernel_rfl) ?_ | refine d_e envOk rfl rfl rfl (step3_plain rfl rfl) ?_ | (show DRun _ _ _ _ (Oper.mk _ (Op.indexAddr _ _ _) _ _ _ (_) :: _) _ _ _; first | refine d_e envOk rfl rfl rfl (step3_idx rfl rfl rfl rfl rfl (by first | omega | ((try simp only [decide_eq_true_eq, decide_eq_false_iff_not, Bool.not_eq_true', Bool.not_true, Bool.not_false, List.length_map, List.length_set, bne_iff_ne, ne_eq, beq_iff_eq, bne_eq_false_iff_eq, beq_eq_false_iff_ne] at *); omega)) (at_map (by first | omega | ((try simp only [decide_eq_true_eq, decide_eq_false_iff_not, Bool.not_eq_true', Bool.not_true, Bool.not_false, List.length_map, List.length_set, bne_iff_ne, ne_eq, beq_iff_eq, bne_eq_false_iff_eq, beq_eq_false_iff_ne] at *); omega)))) ?_ | fail) | (show DRun _ _ _ _ (Oper.mk _ (Op.call _) _ _ _ (_) :: _) _ _ _; first | refine d_l rfl rfl (loc_callF' rfl rfl rfl rfl rfl rfl (c118 _ _) rfl) ?_ | fail) | fail) | (show Exists _; first | refine Exists.intro ((q.1 + 1, q.2.1.take q.1 ++ [[.int .i64 (dimX a.dims (at_ names q.1))]], q.2.2.take q.1 ++ [encDim (takenD a.dims (at_ names q.1))])) (Exists.intro (false, false) ⟨?_, ?_, (by first | exact subL_nil | exact (subL_cons rfl subL_nil) | exact (subL_cons rfl (subL_cons rfl subL_nil)) | exact (subL_cons rfl (subL_cons rfl (subL_cons rfl subL_nil))) | exact (subL_cons rfl (subL_cons rfl (subL_cons rfl (subL_cons rfl subL_nil)))) | exact (subL_cons rfl (subL_cons rfl (subL_cons rfl (subL_cons rfl (subL_cons rfl subL_nil))))) | exact (subL_cons rfl (subL_cons rfl (subL_cons rfl (subL_cons rfl (subL_cons rfl (subL_cons rfl subL_nil)))))) | exact (subL_cons rfl (subL_cons rfl (subL_cons rfl (subL_cons rfl (subL_cons rfl (subL_cons rfl (subL_cons rfl subL_nil))))))) | exact (subL_cons rfl (subL_cons rfl (subL_cons rfl (subL_cons rfl (subL_cons rfl (subL_cons rfl (subL_cons rfl (subL_cons rfl subL_nil))))))))), (subL_cons rfl (subL_cons rfl (subL_cons rfl subL_nil))), (subL_cons rfl (subL_cons rfl (subL_cons rfl subL_nil)))⟩) | fail) | fail)
  all_goals (try rw [Int.toNat_natCast] at *)
  all_goals first
    | rfl
    | exact ⟨Nat.zero_le _, rfl, rfl, rfl, by simp⟩
    | (have hlt : q.1 < names.length := by simpa using ‹decide ((q.1 : Int) < ((names.map encName).length : Int)) = true›
       show names.length - (q.1 + 1) < names.length - q.1
       omega)
    | (have hlt : q.1 < names.length := by simpa using ‹decide ((q.1 : Int) < ((names.map encName).length : Int)) = true›
       have hd : ¬ dimX a.dims (at_ names q.1) < 0 := of_decide_eq_false ‹decide (idxGo (fun x : Dim => x.name == at_ names q.1) a.dims 0 < 0) = false›
       have hc : ¬ ((names.take q.1).map (dimX a.dims)).contains (dimX a.dims (at_ names q.1)) = true := fun hc => absurd ((chosen_iff hq5 hd).2 hc) (of_decide_eq_false h)
       refine ⟨hlt, row_app (fun n => encInt (dimX a.dims n)) names hq2 hlt, row_app (fun n => encDim (takenD a.dims n)) names hq3 hlt, ?_, fun n hn => ?_⟩
       · rw [hq4, at_drop hlt, sel_step, if_neg hd, if_neg hc]
         show _ = selGo a.dims ((names.take (q.1 + 1)).map (dimX a.dims)) (names.drop (q.1 + 1))
         rw [at_take hlt, List.map_append]; rfl
       · have hn' : n ∈ names.take (q.1 + 1) := hn
         rw [at_take hlt] at hn'
         rcases List.mem_append.1 hn' with hn' | hn'
         · exact hq5 n hn'
         · rw [List.mem_singleton.1 hn']; exact hd)
    | (exfalso
       have hge : names.length ≤ q.1 := by simpa using h
       rw [hs, List.drop_eq_nil_of_le hge] at hq4
       cases hq4)
    | skip
  · exfalso
    have hlt : q.1 < names.length := by simpa using ‹decide ((q.1 : Int) < ((names.map encName).length : Int)) = true›
    have hd : ¬ dimX a.dims (at_ names q.1) < 0 := of_decide_eq_false ‹decide (idxGo (fun x : Dim => x.name == at_ names q.1) a.dims 0 < 0) = false›
    have hc := (chosen_iff hq5 hd).1 (of_decide_eq_true h)
    have hsn : selGo a.dims [] names = none := by rw [hq4, at_drop hlt, sel_step, if_neg hd, if_pos hc]
    rw [hs] at hsn; cases hsn
  · exfalso
    have hlt : q.1 < names.length := by simpa using ‹decide ((q.1 : Int) < ((names.map encName).length : Int)) = true›
    have hd : dimX a.dims (at_ names q.1) < 0 := of_decide_eq_true h
    have hsn : selGo a.dims [] names = none := by rw [hq4, at_drop hlt, sel_step, if_pos hd]
    rw [hs] at hsn; cases hsn
  have hge : names.length ≤ q.1 := by simpa using h
  have hX : q.2.1.take q.1 = (ixs a.dims names).map encInt := by rw [hq2, List.take_of_length_le (by simp; omega), List.take_of_length_le hge]; simp [ixs]
  have hY : q.2.2.take q.1 = (pickF a.dims (ixs a.dims names)).map encDim := by rw [hq3, List.take_of_length_le (by simp; omega), List.take_of_length_le hge]; simp [ixs, pickF, takenD]
  clear h hq1 hq2 hq3 hq4 hq5
  have hcn := hT.oka.few
  have ha6 := (schemaF_ok hT.oka.sch).2.2.1
  have hkn : (ixs a.dims names).length ≤ 4 := by rw [ix_len, hT.len]; have := hT.oka.dims.2.1; omega
  refine okc_imp (st' := ⟨[(2, .one (.ref 0 0)), (4, .one (.ref 1 0)), (6, .one (.d (encInts (ixs a.dims names)))), (7, .one (.d (encDims (pickF a.dims (ixs a.dims names))))), (10, .one (.d .nil)), (11, .one (.d (.int .i64 0)))], [(0, .box [.d (encDims a.dims), .d (encAttrs a.attrs), .d (encCells a.cells)]), (1, .box [.d .nil, .d .nil, .d .nil])]⟩) (Imp.trans (imp_sealL (dl := [11, 12]) rfl) (imp_sub (subL_cons rfl (subL_cons rfl (subL_cons (congrArg (fun x => some (AV.one (AC.d (D.sl 1 8 x)))) hX) (subL_cons (congrArg (fun x => some (AV.one (AC.d (D.sl 3 32 x)))) hY) (subL_cons rfl (subL_cons rfl subL_nil)))))) (subL_cons rfl (subL_cons rfl subL_nil)))) ?_
  repeat' (first | (show OkOps _ _ _ _ _ _; first | (show OkOps _ _ _ (Oper.mk _ (Op.call _) _ _ _ (_) :: _) _ _; first | refine s_callG 16 [15] rfl rfl rfl rfl rfl rfl rfl rfl rfl (c101g (pickF a.dims (ixs a.dims names)) a.attrs (a.cells.map (permC (ixs a.dims names))) _ (tran_diff hT) (by rw [pick_len]; omega) (by omega) (tran_small hT) (by rw [List.length_map]; omega) (by rw [hr, List.take_of_length_le (by simp; omega), List.take_of_length_le (by first | omega | ((try simp only [decide_eq_true_eq, decide_eq_false_iff_not, Bool.not_eq_true', Bool.not_true, Bool.not_false, List.length_map, List.length_set, bne_iff_ne, ne_eq, beq_iff_eq, bne_eq_false_iff_eq, beq_eq_false_iff_ne] at *); omega)), List.map_map]; rfl)) rfl rfl rfl ?_ | fail) | refine okops_nil ?_ | refine s_plain tabOk rfl rfl rfl rfl rfl ?_ | (show OkOps _ _ _ (Oper.mk _ (Op.call _) _ _ _ (_) :: _) _ _; first | refine s_append tabOk rfl rfl rfl rfl rfl rfl rfl rfl rfl rfl rfl rfl rfl (by first | omega | ((try simp only [decide_eq_true_eq, decide_eq_false_iff_not, List.length_map, List.length_cons, List.length_nil, List.length_append, List.length_take, List.length_drop, Int.toNat_natCast] at *); omega)) (by first | exact Nat.le_of_ble_eq_true rfl | omega | ((try simp only [decide_eq_true_eq, decide_eq_false_iff_not, List.length_map, List.length_cons, List.length_nil, List.length_append, List.length_take, List.length_drop, Int.toNat_natCast] at *); omega)) (Nat.le_of_ble_eq_true rfl) ?_ | fail) | (show OkOps _ _ _ (Oper.mk _ (Op.binOp .add _ _ _ _) _ _ _ (_) :: _) _ _; first | refine s_e envOk rfl rfl rfl (step3_add rfl rfl rfl rfl (wrap64 (by omega) (by omega))) ?_ | fail) | (show OkOps _ _ _ (Oper.mk _ (Op.indexAddr _ _ _) _ _ _ (_) :: _) _ _; first | refine s_e envOk rfl rfl rfl (step3_idx rfl rfl rfl rfl rfl (by first | omega | ((try simp only [decide_eq_true_eq, decide_eq_false_iff_not, Bool.not_eq_true', Bool.not_true, Bool.not_false, List.length_map, List.length_set, bne_iff_ne, ne_eq, beq_iff_eq, bne_eq_false_iff_eq, beq_eq_false_iff_ne] at *); omega)) (at_map (by first | omega | ((try simp only [decide_eq_true_eq, decide_eq_false_iff_not, Bool.not_eq_true', Bool.not_true, Bool.not_false, List.length_map, List.length_set, bne_iff_ne, ne_eq, beq_iff_eq, bne_eq_false_iff_eq, beq_eq_false_iff_ne] at *); omega)))) ?_ | fail) | (show OkOps _ _ _ (Oper.mk _ (Op.alloc _) _ _ _ (_) :: _) _ _; first | refine s_alloc tabOk 2 rfl rfl rfl rfl rfl ?_ | fail) | refine s_store envOk rfl rfl rfl ?_ | refine s_new envOk 3 rfl rfl rfl rfl rfl rfl ?_ | fail) | (show OkC _ _ _ _ _; first | (show OkC _ _ (Code.region 24 _ _) _ _; refine okc_imp (imp_sealL (dl := [10]) rfl) ?_) | refine ok_seq ?_ | refine ok_region ?_ | refine ok_block ?_ | refine ok_skip ?_ | refine ok_ret ?_ | refine ok_exit ?_ | refine ok_cond rfl (fun h => ?_) (fun h => ?_) | refine ok_regionD progOk.mo ?_ | refine s_loopN 21 rfl (imp_adoptJ 2 0 10 (k := 1) (b := 8) rfl rfl (by kernel_rfl)) [(2, _), (4, _), (6, _), (7, _), (10, _), (11, _), (12, _)] (subL_cons rfl (subL_cons rfl (subL_cons rfl (subL_cons rfl (subL_cons rfl (subL_cons rfl (subL_cons rfl subL_nil))))))) (fun (bN : Bool × Bool) (r : Nat × List (List D)) => [(13, .one (.d (.int .i64 (r.1 : Int))))]) (fun (bN : Bool × Bool) (r : Nat × List (List D)) => [(2, .box [.own (nmA bN) r.1, .d (encVals (at_ a.cells p.1).vals)]), ((nmA bN), .row 1 8 r.2), (15, .row 2 48 p.2), (0, .box [.d (encDims a.dims), .d (encAttrs a.attrs), .d (encCells a.cells)]), (1, .box [.d .nil, .d .nil, .d .nil])]) (fun (r : Nat × List (List D)) => r.1 ≤ (ixs a.dims names).length ∧ r.2 = ((ixs a.dims names).take r.1).map (fun k => encInt (at_ (at_ a.cells p.1).at' k.toNat))) (fun (r : Nat × List (List D)) => (ixs a.dims names).length - r.1) (0, []) (subL_cons rfl subL_nil) (by first | exact subL_nil | exact (subL_cons rfl subL_nil) | exact (subL_cons rfl (subL_cons rfl subL_nil)) | exact (subL_cons rfl (subL_cons rfl (subL_cons rfl subL_nil))) | exact (subL_cons rfl (subL_cons rfl (subL_cons rfl (subL_cons rfl subL_nil)))) | exact (subL_cons rfl (subL_cons rfl (subL_cons rfl (subL_cons rfl (subL_cons rfl subL_nil))))) | exact (subL_cons rfl (subL_cons rfl (subL_cons rfl (subL_cons rfl (subL_cons rfl (subL_cons rfl subL_nil)))))) | exact (subL_cons rfl (subL_cons rfl (subL_cons rfl (subL_cons rfl (subL_cons rfl (subL_cons rfl (subL_cons rfl subL_nil))))))) | exact (subL_cons rfl (subL_cons rfl (subL_cons rfl (subL_cons rfl (subL_cons rfl (subL_cons rfl (subL_cons rfl (subL_cons rfl subL_nil))))))))) (fun b y => by obtain ⟨b1, b2⟩ := b; cases b1 <;> cases b2 <;> first | exact Imp.refl _ | exact imp_ren qN (by kernel_rfl)) ?_ (fun r ⟨hr1, hr2⟩ => ?_) | refine s_loopN 17 rfl (imp_adopt (s := 10) (id := 15) (k := 2) (b := 48) rfl rfl rfl rfl) [(2, _), (4, _), (6, _), (7, _)] (subL_cons rfl (subL_cons rfl (subL_cons rfl (subL_cons rfl subL_nil)))) (fun (bN : Bool × Bool) (p : Nat × List (List D)) => [(10, .one (.own 15 p.1)), (11, .one (.d (.int .i64 (p.1 : Int))))]) (fun (bN : Bool × Bool) (p : Nat × List (List D)) => [(15, .row 2 48 p.2), (0, .box [.d (encDims a.dims), .d (encAttrs a.attrs), .d (encCells a.cells)]), (1, .box [.d .nil, .d .nil, .d .nil])]) (fun (p : Nat × List (List D)) => p.1 ≤ a.cells.length ∧ p.2 = (a.cells.take p.1).map (fun c => encCell (permC (ixs a.dims names) c))) (fun (p : Nat × List (List D)) => a.cells.length - p.1) (0, []) (subL_cons rfl (subL_cons rfl subL_nil)) (by first | exact subL_nil | exact (subL_cons rfl subL_nil) | exact (subL_cons rfl (subL_cons rfl subL_nil)) | exact (subL_cons rfl (subL_cons rfl (subL_cons rfl subL_nil))) | exact (subL_cons rfl (subL_cons rfl (subL_cons rfl (subL_cons rfl subL_nil)))) | exact (subL_cons rfl (subL_cons rfl (subL_cons rfl (subL_cons rfl (subL_cons rfl subL_nil))))) | exact (subL_cons rfl (subL_cons rfl (subL_cons rfl (subL_cons rfl (subL_cons rfl (subL_cons rfl subL_nil)))))) | exact (subL_cons rfl (subL_cons rfl (subL_cons rfl (subL_cons rfl (subL_cons rfl (subL_cons rfl (subL_cons rfl subL_nil))))))) | exact (subL_cons rfl (subL_cons rfl (subL_cons rfl (subL_cons rfl (subL_cons rfl (subL_cons rfl (subL_cons rfl (subL_cons rfl subL_nil))))))))) (fun b y => by obtain ⟨b1, b2⟩ := b; cases b1 <;> cases b2 <;> first | exact Imp.refl _ | exact imp_ren qN (by kernel_rfl)) ?_ (fun p ⟨hk, hr⟩ => ?_) | fail) | (show thenQ _ _ _ _; first | refine then_n ?_ | refine then_x ?_ | fail) | (show blockQ _ _ _ _; first | refine block_n ?_ | refine block_x rfl ?_ | fail) | (show RetQ _ _ _ _ _ _; first | refine ret_leaf (.inl rfl) rfl rfl ?_ | fail) | (show DRun _ _ _ _ _ _ _ _; first | (show DRun _ _ _ _ (Oper.mk _ (Op.indexAddr _ _ _) _ _ _ (_) :: _) _ _ _; first | refine d_e envOk rfl rfl rfl (step3_idx rfl rfl rfl rfl rfl (hT.rng _ (by first | omega | ((try simp only [decide_eq_true_eq, decide_eq_false_iff_not, Bool.not_eq_true', Bool.not_true, Bool.not_false, List.length_map, List.length_set, bne_iff_ne, ne_eq, beq_iff_eq, bne_eq_false_iff_eq, beq_eq_false_iff_ne] at *); omega))).1 (at_map (hT.rngc (j := (p.1 : Int).toNat) (by first | omega | ((try simp only [decide_eq_true_eq, decide_eq_false_iff_not, Bool.not_eq_true', Bool.not_true, Bool.not_false, List.length_map, List.length_set, bne_iff_ne, ne_eq, beq_iff_eq, bne_eq_false_iff_eq, beq_eq_false_iff_ne] at *); omega)) _ (by first | omega | ((try simp only [decide_eq_true_eq, decide_eq_false_iff_not, Bool.not_eq_true', Bool.not_true, Bool.not_false, List.length_map, List.length_set, bne_iff_ne, ne_eq, beq_iff_eq, bne_eq_false_iff_eq, beq_eq_false_iff_ne] at *); omega))).2)) ?_ | fail) | (show DRun _ _ _ _ (Oper.mk _ (Op.call _) _ _ _ (_) :: _) _ _ _; first | refine d_new envOk 11 rfl rfl rfl (step3_appendB (i := 10) rfl rfl rfl rfl rfl rfl rfl rfl (by first | omega | ((try simp only [decide_eq_true_eq, decide_eq_false_iff_not, List.length_map, List.length_cons, List.length_nil, List.length_append, List.length_take, List.length_drop, Int.toNat_natCast] at *); omega)) (by first | exact Nat.le_of_ble_eq_true rfl | omega | ((try simp only [decide_eq_true_eq, decide_eq_false_iff_not, List.length_map, List.length_cons, List.length_nil, List.length_append, List.length_take, List.length_drop, Int.toNat_natCast] at *); omega)) (Nat.le_of_ble_eq_true rfl)) rfl rfl ?_ | fail) | refine d_nil (by kernel_rfl) ?_ | refine d_e envOk rfl rfl rfl (step3_plain rfl rfl) ?_ | (show DRun _ _ _ _ (Oper.mk _ (Op.indexAddr _ _ _) _ _ _ (_) :: _) _ _ _; first | refine d_e envOk rfl rfl rfl (step3_idx rfl rfl rfl rfl rfl (by first | omega | ((try simp only [decide_eq_true_eq, decide_eq_false_iff_not, Bool.not_eq_true', Bool.not_true, Bool.not_false, List.length_map, List.length_set, bne_iff_ne, ne_eq, beq_iff_eq, bne_eq_false_iff_eq, beq_eq_false_iff_ne] at *); omega)) (at_map (by first | omega | ((try simp only [decide_eq_true_eq, decide_eq_false_iff_not, Bool.not_eq_true', Bool.not_true, Bool.not_false, List.length_map, List.length_set, bne_iff_ne, ne_eq, beq_iff_eq, bne_eq_false_iff_eq, beq_eq_false_iff_ne] at *); omega)))) ?_ | fail) | refine d_new envOk 3 rfl rfl rfl rfl rfl rfl ?_ | refine d_store envOk rfl rfl rfl ?_ | fail) | (show Exists _; first | refine Exists.intro ((p.1 + 1, p.2.take p.1 ++ [[.sl 1 8 (r.2.take r.1), encVals (at_ a.cells p.1).vals]])) (Exists.intro (false, false) ⟨?_, ?_, (by first | exact subL_nil | exact (subL_cons rfl subL_nil) | exact (subL_cons rfl (subL_cons rfl subL_nil)) | exact (subL_cons rfl (subL_cons rfl (subL_cons rfl subL_nil))) | exact (subL_cons rfl (subL_cons rfl (subL_cons rfl (subL_cons rfl subL_nil)))) | exact (subL_cons rfl (subL_cons rfl (subL_cons rfl (subL_cons rfl (subL_cons rfl subL_nil))))) | exact (subL_cons rfl (subL_cons rfl (subL_cons rfl (subL_cons rfl (subL_cons rfl (subL_cons rfl subL_nil)))))) | exact (subL_cons rfl (subL_cons rfl (subL_cons rfl (subL_cons rfl (subL_cons rfl (subL_cons rfl (subL_cons rfl subL_nil))))))) | exact (subL_cons rfl (subL_cons rfl (subL_cons rfl (subL_cons rfl (subL_cons rfl (subL_cons rfl (subL_cons rfl (subL_cons rfl subL_nil))))))))), (subL_cons rfl (subL_cons rfl subL_nil)), (subL_cons rfl (subL_cons rfl (subL_cons rfl (subL_cons rfl subL_nil))))⟩) | refine Exists.intro ((r.1 + 1, r.2.take r.1 ++ [[.int .i64 (at_ (at_ a.cells p.1).at' (at_ (ixs a.dims names) r.1).toNat)]])) (Exists.intro (true, false) ⟨?_, ?_, (by first | exact subL_nil | exact (subL_cons rfl subL_nil) | exact (subL_cons rfl (subL_cons rfl subL_nil)) | exact (subL_cons rfl (subL_cons rfl (subL_cons rfl subL_nil))) | exact (subL_cons rfl (subL_cons rfl (subL_cons rfl (subL_cons rfl subL_nil)))) | exact (subL_cons rfl (subL_cons rfl (subL_cons rfl (subL_cons rfl (subL_cons rfl subL_nil))))) | exact (subL_cons rfl (subL_cons rfl (subL_cons rfl (subL_cons rfl (subL_cons rfl (subL_cons rfl subL_nil)))))) | exact (subL_cons rfl (subL_cons rfl (subL_cons rfl (subL_cons rfl (subL_cons rfl (subL_cons rfl (subL_cons rfl subL_nil))))))) | exact (subL_cons rfl (subL_cons rfl (subL_cons rfl (subL_cons rfl (subL_cons rfl (subL_cons rfl (subL_cons rfl (subL_cons rfl subL_nil))))))))), (subL_cons rfl subL_nil), (subL_cons rfl (subL_cons rfl (subL_cons rfl (subL_cons rfl (subL_cons rfl (subL_cons rfl (subL_cons rfl subL_nil)))))))⟩) | fail) | fail)
  all_goals first
    | rfl
    | exact ⟨Nat.zero_le _, rfl⟩
    | (have hlr : r.1 < (ixs a.dims names).length := by simpa using ‹decide ((r.1 : Int) < (((ixs a.dims names).map encInt).length : Int)) = true›
       exact ⟨hlr, row_app (fun k : Int => encInt (at_ (at_ a.cells p.1).at' k.toNat)) (ixs a.dims names) hr2 hlr⟩)
    | (have hlr : r.1 < (ixs a.dims names).length := by simpa using ‹decide ((r.1 : Int) < (((ixs a.dims names).map encInt).length : Int)) = true›
       show (ixs a.dims names).length - (r.1 + 1) < (ixs a.dims names).length - r.1
       omega)
    | (have hlt : p.1 < a.cells.length := by simpa using ‹decide ((p.1 : Int) < ((a.cells.map encCell).length : Int)) = true›
       have hge : (ixs a.dims names).length ≤ r.1 := by simpa using h
       have e : r.2.take r.1 = (pickF (at_ a.cells p.1).at' (ixs a.dims names)).map encInt := by rw [hr2, List.take_of_length_le (by simp; omega), List.take_of_length_le hge]; simp [pickF]
       refine ⟨hlt, ?_⟩
       show p.2.take p.1 ++ [[.sl 1 8 (r.2.take r.1), _]] = _
       rw [e]
       exact row_app (fun c => encCell (permC (ixs a.dims names) c)) a.cells hr hlt)
    | (have hlt : p.1 < a.cells.length := by simpa using ‹decide ((p.1 : Int) < ((a.cells.map encCell).length : Int)) = true›
       show a.cells.length - (p.1 + 1) < a.cells.length - p.1
       omega)
    | trace_state
end Go.Proofs.YtpejdgkaapnekaaGreat
namespace Go.Proofs.YtpejdgkaapnekaaGreat
open Go Go.Abs
attribute [local irreducible] OkOps OkC DRun thenQ blockQ RetQ
set_option maxRecDepth 10000
theorem arr_some {P : Program} {f : FuncId} {args : List AV} {r : Option Arr × Int} {y : Arr} (h : CallA P f args [] (arrE r) []) (e : r = (some y, 0)) : CallA P f args [] (.tup [(true, [.d (encDims y.dims), .d (encAttrs y.attrs), .d (encCells y.cells)]), (false, [.d (.int .i64 0)])]) [] := by
  rw [e] at h; exact h
theorem arr_none {P : Program} {f : FuncId} {args : List AV} {r : Option Arr × Int} {e : Int} (h : CallA P f args [] (arrE r) []) (he : r = (none, e)) : CallA P f args [] (.tup [(true, [.d .nil, .d .nil, .d .nil]), (false, [.d (.int .i64 e)])]) [] := by
  rw [he] at h; exact h
theorem resh_two_ (a : Arr) (es : List Dim) : (∃ e, reshF a es = (none, e)) ∨ ∃ y, reshF a es = (some y, 0) := by
  by_cases hc : chkA a = 0
  · rcases reshF_cases a es hc with ⟨e, _, h⟩ | ⟨_, _, _, _, h⟩
    · exact .inl ⟨e, h⟩
    · exact .inr ⟨_, h⟩
  · exact .inl ⟨2, reshF_bad hc⟩
theorem trans_two (a : Arr) (names : List (List UInt8)) : (∃ e, transF a names = (none, e)) ∨ ∃ y, transF a names = (some y, 0) := by
  by_cases hc : chkA a = 0
  · rcases transF_cases a names hc with ⟨e, _, h⟩ | ⟨_, h⟩
    · exact .inl ⟨e, h⟩
    · exact .inr ⟨_, h⟩
  · exact .inl ⟨2, by unfold transF; rw [if_pos hc]⟩
set_option maxHeartbeats 8000000 in
theorem c10 (a : Arr) (es : List Dim) (names : List (List UInt8)) (hs : smallA a) (hes : es.length ≤ 1048576) (hnn : names.length ≤ 1048576) : CallA Tryz.prog 10 [aggA a, .one (.d (encDims es)), .one (.d (encNames names))] [] (.one (.d (.bool true))) [] := by
  unfold aggA
  refine enter tabOk Tryz.func10 rfl (by decide +kernel) rfl fun hok w0 σ0 φ0 M => ?_
  clear hok
  rcases resh_two_ a es with ⟨e1, h1⟩ | ⟨y1, h1⟩ <;> rcases trans_two a names with ⟨e2, h2⟩ | ⟨y2, h2⟩
  repeat' (first | (show OkOps _ _ _ _ _ _; first | refine okops_nil ?_ | refine s_plain tabOk rfl rfl rfl rfl rfl ?_ | (show OkOps _ _ _ (Oper.mk _ (_) _ _ _ (some _) :: _) _ _; first | refine s_guard rfl rfl (by first | assumption | rfl) ?_ | refine s_out rfl rfl (by first | assumption | rfl) rfl rfl ?_ | refine s_split rfl rfl rfl rfl (fun h => ?_) (fun h => ?_) | fail) | (show OkOps _ _ _ (Oper.mk _ (Op.pick _ _ _) _ _ _ (_) :: _) _ _; first | refine s_e envOk rfl rfl rfl (step3_pickT rfl rfl (by first | rfl | assumption) rfl) ?_ | refine s_e envOk rfl rfl rfl (step3_pickF rfl rfl (by first | rfl | assumption) rfl) ?_ | fail) | (show OkOps _ _ _ (Oper.mk _ (Op.call _) _ _ _ (_) :: _) _ _; first | refine s_callF rfl rfl rfl rfl rfl rfl rfl rfl (c19) rfl ?_ | refine s_callF rfl rfl rfl rfl rfl rfl rfl rfl (c25n e1) rfl ?_ | refine s_callF rfl rfl rfl rfl rfl rfl rfl rfl (c25s y1) rfl ?_ | refine s_callF rfl rfl rfl rfl rfl rfl rfl rfl (c25n e2) rfl ?_ | refine s_callF rfl rfl rfl rfl rfl rfl rfl rfl (c25s y2) rfl ?_ | refine s_callF rfl rfl rfl rfl rfl rfl rfl rfl (c28s a) rfl ?_ | refine s_callF rfl rfl rfl rfl rfl rfl rfl rfl (arr_none (c40 a es) h1) rfl ?_ | refine s_callF rfl rfl rfl rfl rfl rfl rfl rfl (arr_none (c41 a es hes) h1) rfl ?_ | refine s_callF rfl rfl rfl rfl rfl rfl rfl rfl (arr_none (c42 a names hnn) h2) rfl ?_ | refine s_callF rfl rfl rfl rfl rfl rfl rfl rfl (arr_none (c43 a names hnn) h2) rfl ?_ | refine s_callD 16 rfl rfl rfl rfl rfl rfl rfl rfl (c22 a hs) rfl rfl rfl ?_ | refine s_callD 16 rfl rfl rfl rfl rfl rfl rfl rfl (arr_some (c40 a es) h1) rfl rfl rfl ?_ | refine s_callD 16 rfl rfl rfl rfl rfl rfl rfl rfl (arr_some (c41 a es hes) h1) rfl rfl rfl ?_ | refine s_callD 16 rfl rfl rfl rfl rfl rfl rfl rfl (arr_some (c42 a names hnn) h2) rfl rfl rfl ?_ | refine s_callD 16 rfl rfl rfl rfl rfl rfl rfl rfl (arr_some (c43 a names hnn) h2) rfl rfl rfl ?_ | fail) | (show OkOps _ _ _ (Oper.mk _ (Op.box _ _) _ _ _ (_) :: _) _ _; first | refine s_box 0 rfl rfl rfl rfl rfl rfl ?_ | fail) | (show OkOps _ _ _ (Oper.mk _ (Op.alloc _) _ _ _ (_) :: _) _ _; first | refine s_alloc tabOk 1 rfl rfl rfl rfl rfl ?_ | refine s_alloc tabOk 2 rfl rfl rfl rfl rfl ?_ | refine s_alloc tabOk 3 rfl rfl rfl rfl rfl ?_ | fail) | refine s_store envOk rfl rfl rfl ?_ | fail) | (show OkC _ _ _ _ _; first | refine ok_seq ?_ | refine ok_region ?_ | refine ok_skip ?_ | refine ok_ret ?_ | refine ok_condT rfl ?_ | refine ok_condF rfl ?_ | refine ok_cond rfl (fun h => ?_) (fun h => ?_) | fail) | (show thenQ _ _ _ _; first | refine then_n ?_ | refine then_r ?_ | fail) | (show RetQ _ _ _ _ _ _; first | refine ret_leaf (.inl rfl) rfl rfl ?_ | fail) | fail)
  all_goals first
    | rfl
    | trace_state
end Go.Proofs.YtpejdgkaapnekaaGreat
namespace Go.Proofs.YtpejdgkaapnekaaGreat
open Go Go.Abs
open Go.ChangeShapes Go.WideShapes Go.ChangeAt Go.RowKit
set_option maxRecDepth 100000 in
theorem shapes_contract (H : Type) (en : TypeId × Value → H) (W : World) (base : Nat) (args : Array Value) (ds gs : List (DataW H)) (before : List MemPlace)
    (hval : ∀ (j : Nat) t v, Tryz.f10.params[j]? = some t → args[j]? = some v → Value.okWide Tryz.prog W .any base t v)
    (hW : DataW.Whole en Tryz.prog Tryz.f10.params.toList Rows.algebraShapesSpec.vars false W args.toList ds gs before) (hk : Rows.uptoSmall H (ds ++ gs) = true) :
    Calls Tryz.prog 10 args W fun e W' => ∃ v, e = .returned v ∧ Rows.algebraShapesSpec.post en Tryz.prog Tryz.f10 false true false false W args v W' := by
  have hW' := hW
  obtain ⟨p, q, hA0, hV, rfl, hfz, hnd⟩ := hW
  have hA : DataW.TrodAll en Tryz.prog W 0 (fun _ => true) true Tryz.f10.params.toList args.toList ds p := hA0
  rw [Tryz.params10] at hA hval
  obtain ⟨v0, vs0, d0, ds0, p0, q0, hargs, rfl, rfl, h0, r0⟩ := trodAll_cons hA
  obtain ⟨v1, vs1, d1, ds1, p1, q1, rfl, rfl, rfl, h1, r1⟩ := trodAll_cons r0
  obtain ⟨v2, vs2, d2, ds2, p2, q2, rfl, rfl, rfl, h2, r2⟩ := trodAll_cons r1
  obtain ⟨rfl, rfl, rfl⟩ := trodAll_nil r2
  obtain rfl : args = #[v0, v1, v2] := by cases args; simp_all
  obtain ⟨rfl, rfl⟩ := trodVars_none hV
  obtain ⟨cs0, rfl⟩ := okWide_agg Tryz.underlying26 (hval 0 26 v0 rfl rfl)
  obtain ⟨s1, l1, c1, rfl⟩ := okWide_slice Tryz.underlying22 (hval 1 22 v1 rfl rfl)
  obtain ⟨s2, l2, c2, rfl⟩ := okWide_slice Tryz.underlying45 (hval 2 45 v2 rfl rfl)
  have hbk : (Rows.uptoBulk d0 + (Rows.uptoBulk d1 + (Rows.uptoBulk d2))) ≤ 1048576 := by
    simpa [Rows.uptoSmall, Rows.uptoBulkAll] using hk
  obtain ⟨f0, h0⟩ := h0
  obtain ⟨f1, h1⟩ := h1
  obtain ⟨f2, h2⟩ := h2
  obtain ⟨a0, hl0, ha0⟩ := rd_arr (N := 1048571) (by omega) f0 _ _ h0 (by show Rows.uptoBulk d0 ≤ _; omega)
  obtain ⟨a1, hl1, ha1⟩ := rd_slice (f := encDim) (N := 1048575) (k := 3) (b := 32) (by omega) (by omega) (by omega) Tryz.underlying22 cells53 (rd_dim (by omega)) f1 _ _ h1 (by show Rows.uptoBulk d1 ≤ _; omega)
  obtain ⟨a2, hl2, ha2⟩ := rd_slice (f := encName) (N := 1048575) (k := 1) (b := 16) (by omega) (by omega) (by omega) Tryz.underlying45 cells9 (rd_str (by omega) Tryz.underlying9) f2 _ _ h2 (by show Rows.uptoBulk d2 ≤ _; omega)
  refine ((c10 a0 a1 a2 (smallA_of hl0) (Nat.le_succ_of_le hl1.1) (Nat.le_succ_of_le hl2.1)).run W (sg W) (fun _ => none) [.agg cs0.toArray, .slice s1 l1 c1, .slice s2 l2 c2] (sg_inv _) ⟨⟨cs0, rfl, all2_d ha0⟩, RepC.d ha1.1, RepC.d ha2.1, trivial⟩).mono fun e W' ⟨v, σ', φ', he, hret⟩ => ?_
  subst he
  have hv : v = .bool true := by
    have h2 := RepC.d_inv hret.rep
    cases h2; rfl
  subst hv
  have hsame : ∀ p ∈ p0 ++ (p1 ++ (p2 ++ [])), W.sameAt W' p := fun p hp => keptSame hret.kept (hW'.lt p (by simpa using hp))
  have hAk := carryAll hA0 hsame
  exact ⟨_, rfl, _, _, _, [], _, [], hW', trodAll_mk1 (shutBool true), DataW.TrodAll.respare kids full (by
      rw [Tryz.params10]
      intro t ht
      have ht' : t = 26 ∨ t = 22 ∨ t = 45 := by simpa using ht
      rcases ht' with rfl | rfl | rfl <;> exact few (by omega)) hAk (fun p hp => by
        have := hW'.lt p (by simpa using hp)
        simpa using this), rfl, keptAll hret.kept _, fun h => by cases h⟩
end Go.Proofs.YtpejdgkaapnekaaGreat
