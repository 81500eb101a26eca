import Derived.Test.YtpejdgkaapnekaaGreatRows
import Derived.Deep.Slices
import Derived.Deep.DeepHandedRow
import Derived.ReadAgain
import Derived.MapPlaces
import Derived.WalkKit
import Derived.ProofKit
import Derived.OpenShut
import Derived.JoinedCond
import Derived.Test.YtpejdgkaapnekaaGreatP26
set_option linter.unusedVariables false
set_option linter.unusedSimpArgs false
namespace Go.Proofs.YtpejdgkaapnekaaGreat
open Go Go.Abs
open Go.ChangeShapes Go.WideShapes Go.ChangeAt Go.RowKit
set_option linter.unusedVariables false
set_option linter.unusedSimpArgs false
/-! ### from what is read to data -/
section
variable {H : Type} {en : TypeId × Value → H} {W : World}
theorem bulk_one (d : DataW H) : 1 ≤ Rows.uptoBulk d := by
  cases d with
  | lit l => cases l <;> simp [Rows.uptoBulk]
  | _ => simp [Rows.uptoBulk]
theorem bulk_mem {d : DataW H} : ∀ {l : List (DataW H)}, d ∈ l → Rows.uptoBulk d ≤ Rows.uptoBulkAll l
  | [], h => by simp at h
  | x :: r, h => by
    simp only [Rows.uptoBulkAll]
    rcases List.mem_cons.1 h with rfl | h
    · omega
    · have := bulk_mem h; omega
theorem bulk_len : ∀ (l : List (DataW H)), l.length ≤ Rows.uptoBulkAll l
  | [] => by simp [Rows.uptoBulkAll]
  | x :: r => by have := bulk_one x; have := bulk_len r; simp only [Rows.uptoBulkAll, List.length_cons]; omega
/-- all that lies in memory -/
def sg (W : World) : Sig := fun b => match W.heap[b]? with | some (.cells cs _ _) => some cs | _ => none
theorem sg_some {b : Nat} {cs : Array Value} (h : sg W b = some cs) : ∃ t f, W.heap[b]? = some (.cells cs t f) := by
  unfold sg at h
  split at h
  · rename_i c t f hh; cases h; exact ⟨t, f, hh⟩
  · cases h
theorem sg_inv (φ : Pl) : HInv (sg W) φ [] W := ⟨fun b cs h => sg_some h, fun i e h => by simp [Abs.look] at h, fun i i' e e' p p' h => by simp [Abs.look] at h⟩
/-- what of a type can be read, of so much bulk, is data of this form -/
def Rd (en : TypeId × Value → H) (W : World) (N : Nat) (t : TypeId) {α : Type} (f : α → List D) : Prop :=
  ∀ (fuel : Nat) (cs : List Value) (x : DataW H × List MemPlace), DataW.trod en Tryz.prog W 0 (fun _ => true) true fuel t cs = some x → Rows.uptoBulk x.1 ≤ N → ∃ a : α, All2 (Rep (sg W)) (f a) cs
theorem Rd.mono {N M : Nat} {t : TypeId} {α : Type} {f : α → List D} (h : Rd en W N t f) (hm : M ≤ N) : Rd en W M t f := fun fuel cs x hx hb => h fuel cs x hx (by omega)
theorem rd_int {N : Nat} {t : TypeId} (ht : Tryz.prog.underlying t = some (.int .i64)) : Rd en W N t (fun n : Int => [.int .i64 n]) := by
  intro fuel cs x h _
  obtain ⟨n, rfl, _, hw⟩ := DataW.trod_int ht h
  have hw' := bounds_i64 hw
  refine ⟨n, .int ?_, trivial⟩
  simp only [inR, IntKind.min, IntKind.max, IntKind.signed, IntKind.bits, if_true]
  omega
theorem rd_str {N : Nat} {t : TypeId} (hN : N ≤ 1048576) (ht : Tryz.prog.underlying t = some .string) : Rd en W N t (fun s : List UInt8 => [.str s]) := by
  intro fuel cs x h hb
  obtain ⟨s, rfl, rfl, _⟩ := DataW.trod_string ht h
  simp only [Rows.uptoBulk] at hb
  have := Rep.str (σ := sg W) (s := s.data.toList) (by omega)
  refine ⟨s.data.toList, ?_, trivial⟩
  simpa using this
theorem rd_slice {N k b : Nat} {t e : TypeId} {α : Type} [Inhabited α] {f : α → List D} (hN : N ≤ 1048575) (hb : b ≤ 1000) (hk : 0 < k) (ht : Tryz.prog.underlying t = some (.slice e)) (hc : Tryz.prog.cellsOf e = k) (he : Rd en W N e f) : Rd en W (N + 1) t (fun l : List α => [.sl k b (l.map f)]) := by
  intro fuel cs x h hbk
  rcases Deep.open_slice ht h with ⟨rfl, rfl⟩ | ⟨a, len, cap, m, n, Dd, Pl, rfl, _, hl, _, hm, rfl, hel⟩
  · refine ⟨[], ?_, trivial⟩
    exact .sl (fun _ _ => undef) (by simp) (by simp) (by simp) (by simp) (by simp) (by simp)
  · simp only [if_true] at hm
    subst hm
    rw [hc] at hel
    simp only [Rows.uptoBulk] at hbk
    have hlen : len ≤ N := by
      have := bulk_len ((List.range len).map Dd)
      simp only [List.length_map, List.length_range] at this
      omega
    have hpart : ∀ i, i < len → Rows.uptoBulk (Dd i) ≤ N := by
      intro i hi
      have := bulk_mem (d := Dd i) (l := (List.range len).map Dd) (List.mem_map.2 ⟨i, List.mem_range.2 hi, rfl⟩)
      omega
    obtain ⟨g, hg⟩ := Deep.choose_lt (n := len) (p := fun i (y : α) => ∃ cs', W.cells? 0 (a.add (i * k)) k = some cs' ∧ All2 (Rep (sg W)) (f y) cs') (fun i hi => by
      obtain ⟨cs', h1, h2⟩ := hel i (by omega)
      obtain ⟨y, hy⟩ := he _ _ _ h2 (hpart i hi)
      exact ⟨y, cs', h1, hy⟩)
    have hcell : ∀ i, i < len → ∀ j, j < k → ∃ v, W.cell? ((a.add (i * k)).add j) = some v ∧ ∀ d, (f (g i))[j]? = some d → Rep (sg W) d v := by
      intro i hi j hj
      obtain ⟨cs', h1, h2⟩ := hg i hi
      obtain ⟨_, h3, h4⟩ := World.cells?_some h1
      have h5 : cs'[j]? = some (cs'[j]'(by omega)) := List.getElem?_eq_getElem (by omega)
      refine ⟨_, (h4 j hj).trans h5, fun d hd => ?_⟩
      obtain ⟨v, hv, hr⟩ := h2.get hd
      rw [h5] at hv; cases hv; exact hr
    have hfl : ∀ i, i < len → (f (g i)).length = k := by
      intro i hi
      obtain ⟨cs', h1, h2⟩ := hg i hi
      rw [h2.length]; exact (World.cells?_some h1).2.1
    have hadd : ∀ i j, i < len → j < k → a.spot = none → ((a.add (i * k)).add j) = ⟨a.block, a.off + i * k + j, none⟩ := by
      intro i j _ _ hs
      obtain ⟨B, o, sp⟩ := a
      simp only at hs
      subst hs
      by_cases h1 : i * k = 0 <;> by_cases h2 : j = 0 <;> simp [Addr.add, h1, h2]
    have hA : 0 < len → ∃ cells : Array Value, a.spot = none ∧ sg W a.block = some cells := by
      intro h0
      obtain ⟨v, hv, _⟩ := hcell 0 h0 0 hk
      have e0 : ((a.add (0 * k)).add 0) = a := by simp [Addr.add]
      rw [e0] at hv
      unfold World.cell? at hv
      unfold sg
      split at hv
      · rename_i c t2 f2 hh
        rw [hh]
        split at hv
        · cases hv
        · rename_i hs
          exact ⟨c, by simpa using hs, rfl⟩
      · cases hv
    refine ⟨(List.range len).map g, ?_, trivial⟩
    have hll : (((List.range len).map g).map f).length = len := by simp
    have key : Rep (sg W) (.sl k b (((List.range len).map g).map f)) (.slice (some a) (((List.range len).map g).map f).length m) := by
      refine .sl (fun i j => (W.cell? ((a.add (i * k)).add j)).getD undef) (by rw [hll]; exact hl) (by rw [hll]; omega) (by
        rw [hll]
        have : len * b ≤ 1048576 * 1000 := Nat.mul_le_mul (by omega) hb
        omega) (fun x hx => ?_) (fun h0 => ?_) (fun i j x d hx hd => ?_)
      · simp only [List.mem_map, List.mem_range] at hx
        obtain ⟨y, ⟨i, hi, rfl⟩, rfl⟩ := hx
        exact hfl i hi
      · rw [hll] at h0
        obtain ⟨cells, hs, hsg⟩ := hA h0
        refine ⟨a.block, a.off, cells, ?_, hsg, fun i j hi hj => ?_⟩
        · obtain ⟨B, o, sp⟩ := a; simp only at hs; subst hs; rfl
        · rw [hll] at hi
          obtain ⟨v, hv, _⟩ := hcell i hi j hj
          rw [hv]
          rw [hadd i j hi hj hs] at hv
          obtain ⟨t2, f2, hh⟩ := sg_some hsg
          simp only [World.cell?, hh] at hv
          simpa using hv
      · simp only [List.getElem?_map, Option.map_eq_some_iff] at hx
        obtain ⟨y, ⟨i', hi', rfl⟩, rfl⟩ := hx
        have hi : i < len := by
          have := (List.getElem?_eq_some_iff.1 hi').1
          simpa using this
        have hii : i' = i := by simpa [List.getElem?_range hi] using hi'.symm
        subst hii
        have hj : j < k := by rw [← hfl i' hi]; exact (List.getElem?_eq_some_iff.1 hd).1
        obtain ⟨v, hv, hr⟩ := hcell i' hi j hj
        rw [hv]
        exact hr d hd
    rw [hll] at key
    exact key
/-- parts of a row of cells -/
theorem all2_app {R : D → Value → Prop} {a b : List D} {cs : List Value} {o n m : Nat} (h1 : All2 R a ((cs.drop o).take n)) (h2 : All2 R b ((cs.drop (o + n)).take m)) : All2 R (a ++ b) ((cs.drop o).take (n + m)) := by
  rw [List.take_add, List.drop_drop]
  exact h1.append h2
theorem rd_field {N : Nat} {t u : TypeId} {fs : Array Field} {fuel : Nat} {cs : List Value} {x : DataW H × List MemPlace} (ht : Tryz.prog.underlying t = some (.struct fs)) (h : DataW.trod en Tryz.prog W 0 (fun _ => true) true fuel t cs = some x) (hb : Rows.uptoBulk x.1 ≤ N + 1)
    (i : Nat) {fd : Field} (hf : fs[i]? = some fd) {α : Type} {f : α → List D} (hr : Rd en W N fd.type f) {c : Nat} (hc : Tryz.prog.cellsOf fd.type = c) : ∃ a, All2 (Rep (sg W)) (f a) ((cs.drop fd.offset).take c) := by
  subst hc
  obtain ⟨xs, n, _, rfl, _, hl, hx⟩ := DataW.trod_struct ht h
  have h2 := hx i fd hf
  have hi : i < xs.length := by rw [hl]; exact (Array.getElem?_eq_some_iff.1 hf).1
  rw [List.getElem?_eq_getElem hi] at h2
  refine hr _ _ _ h2 ?_
  have := bulk_mem (d := (xs[i]).1) (l := xs.map (·.1)) (List.mem_map.2 ⟨_, List.getElem_mem hi, rfl⟩)
  simp only [Rows.uptoBulk] at hb
  omega
theorem cellsL {t : TypeId} {fs : Array Field} {fuel : Nat} {cs : List Value} {x : DataW H × List MemPlace} (ht : Tryz.prog.underlying t = some (.struct fs)) (h : DataW.trod en Tryz.prog W 0 (fun _ => true) true fuel t cs = some x) : cs.length = Tryz.prog.cellsOf t := by
  obtain ⟨_, _, _, _, hl, _⟩ := DataW.trod_struct ht h
  exact hl
theorem cells3 : Tryz.prog.cellsOf 3 = 1 := by kernel_rfl
theorem cells2 : Tryz.prog.cellsOf 2 = 1 := by kernel_rfl
theorem cells9 : Tryz.prog.cellsOf 9 = 1 := by kernel_rfl
theorem cells28 : Tryz.prog.cellsOf 28 = 4 := by kernel_rfl
theorem cells29 : Tryz.prog.cellsOf 29 = 1 := by kernel_rfl
theorem cells31 : Tryz.prog.cellsOf 31 = 7 := by kernel_rfl
theorem cells82 : Tryz.prog.cellsOf 82 = 2 := by kernel_rfl
theorem cells53 : Tryz.prog.cellsOf 53 = 3 := by kernel_rfl
theorem cells22 : Tryz.prog.cellsOf 22 = 1 := by kernel_rfl
theorem cells23 : Tryz.prog.cellsOf 23 = 1 := by kernel_rfl
theorem cells24 : Tryz.prog.cellsOf 24 = 1 := by kernel_rfl
theorem cells26 : Tryz.prog.cellsOf 26 = 3 := by kernel_rfl
theorem whole {R : D → Value → Prop} {a : List D} {cs : List Value} {n : Nat} (h : All2 R a ((cs.drop 0).take n)) (hl : cs.length = n) : All2 R a cs := by
  rw [List.drop_zero, List.take_of_length_le (by omega)] at h; exact h
theorem rd_val {N : Nat} (hN : N ≤ 1048575) : Rd en W (N + 1) 28 (fun v : Val => [.int .i64 v.kind, .int .i64 v.num, .int .i64 v.den, .str v.str]) := by
  intro fuel cs x h hb
  obtain ⟨k, hk⟩ := rd_field (u := 0) Tryz.underlying28 h hb 0 rfl (rd_int Tryz.underlying3) cells3
  obtain ⟨n, hn⟩ := rd_field (u := 0) Tryz.underlying28 h hb 1 rfl (rd_int Tryz.underlying2) cells2
  obtain ⟨d, hd⟩ := rd_field (u := 0) Tryz.underlying28 h hb 2 rfl (rd_int Tryz.underlying2) cells2
  obtain ⟨s, hs⟩ := rd_field (u := 0) Tryz.underlying28 h hb 3 rfl (rd_str (by omega) Tryz.underlying9) cells9
  exact ⟨⟨k, n, d, s⟩, whole (all2_app (all2_app (all2_app hk hn) hd) hs) ((cellsL Tryz.underlying28 h).trans cells28)⟩
theorem rd_dim {N : Nat} (hN : N ≤ 1048575) : Rd en W (N + 1) 53 encDim := by
  intro fuel cs x h hb
  obtain ⟨s, hs⟩ := rd_field (u := 0) Tryz.underlying53 h hb 0 rfl (rd_str (by omega) Tryz.underlying9) cells9
  obtain ⟨k, hk⟩ := rd_field (u := 0) Tryz.underlying53 h hb 1 rfl (rd_int Tryz.underlying3) cells3
  obtain ⟨n, hn⟩ := rd_field (u := 0) Tryz.underlying53 h hb 2 rfl (rd_int Tryz.underlying3) cells3
  exact ⟨⟨s, k, n⟩, whole (all2_app (all2_app hs hk) hn) ((cellsL Tryz.underlying53 h).trans cells53)⟩
theorem rd_attr {N : Nat} (hN : N ≤ 1048575) : Rd en W (N + 1) 82 encAttr := by
  intro fuel cs x h hb
  obtain ⟨s, hs⟩ := rd_field (u := 0) Tryz.underlying82 h hb 0 rfl (rd_str (by omega) Tryz.underlying9) cells9
  obtain ⟨k, hk⟩ := rd_field (u := 0) Tryz.underlying82 h hb 1 rfl (rd_int Tryz.underlying3) cells3
  exact ⟨⟨s, k⟩, whole (all2_app hs hk) ((cellsL Tryz.underlying82 h).trans cells82)⟩
theorem rd_scalar : ∀ (N : Nat), N ≤ 1048576 → Rd en W N 31 encS := by
  intro N
  induction N using Nat.strongRecOn with
  | _ N ih =>
    intro hN fuel cs x h hb
    have h1 := bulk_one x.1
    obtain ⟨xs, n0, _, hx, _, hl, hfx⟩ := DataW.trod_struct Tryz.underlying31 h
    obtain ⟨M, rfl⟩ : ∃ M, N = M + 1 := ⟨N - 1, by omega⟩
    obtain ⟨o, ho⟩ := rd_field (u := 0) Tryz.underlying31 h hb 0 rfl (rd_int Tryz.underlying3) cells3
    obtain ⟨s, hs⟩ := rd_field (u := 0) Tryz.underlying31 h hb 1 rfl (rd_str (by omega) Tryz.underlying9) cells9
    have hM : 1 ≤ M := by
      have hi : 0 < xs.length := by rw [hl]; decide
      have h3 := bulk_mem (d := (xs[0]).1) (l := xs.map (·.1)) (List.mem_map.2 ⟨_, List.getElem_mem hi, rfl⟩)
      have h4 := bulk_one (xs[0]).1
      rw [hx] at hb
      simp only [Rows.uptoBulk] at hb
      omega
    obtain ⟨L, rfl⟩ : ∃ L, M = L + 1 := ⟨M - 1, by omega⟩
    obtain ⟨v, hv⟩ := rd_field (u := 0) Tryz.underlying31 h hb 2 rfl (rd_val (N := L) (by omega)) cells28
    obtain ⟨l, hlst⟩ := rd_field (u := 0) Tryz.underlying31 h hb 3 rfl (rd_slice (k := 7) (b := 88) (by omega) (by omega) (by omega) Tryz.underlying29 cells31 (ih L (by omega) (by omega))) cells29
    refine ⟨.mk o s v l, ?_⟩
    rw [encS_eq]
    exact whole (all2_app (all2_app (all2_app ho hs) hv) hlst) ((cellsL Tryz.underlying31 h).trans cells31)
theorem cells37 : Tryz.prog.cellsOf 37 = 1 := by kernel_rfl
theorem cells54 : Tryz.prog.cellsOf 54 = 1 := by kernel_rfl
theorem cells56 : Tryz.prog.cellsOf 56 = 2 := by kernel_rfl
theorem rd_cell {N : Nat} (hN : N ≤ 1048573) : Rd en W (N + 3) 56 encCell := by
  intro fuel cs x h hb
  obtain ⟨a, ha⟩ := rd_field (u := 0) Tryz.underlying56 h hb 0 rfl (rd_slice (f := encInt) (N := N + 1) (k := 1) (b := 8) (by omega) (by omega) (by omega) Tryz.underlying37 cells3 (rd_int Tryz.underlying3)) cells37
  obtain ⟨v, hv⟩ := rd_field (u := 0) Tryz.underlying56 h hb 1 rfl (rd_slice (f := encVal) (N := N + 1) (k := 4) (b := 40) (by omega) (by omega) (by omega) Tryz.underlying54 cells28 (rd_val (by omega))) cells54
  exact ⟨⟨a, v⟩, whole (all2_app ha hv) ((cellsL Tryz.underlying56 h).trans cells56)⟩
structure Arr where
  dims : List Dim
  attrs : List Attr
  cells : List Cell
def encArr (a : Arr) : List D := [encDims a.dims, encAttrs a.attrs, encCells a.cells]
theorem rd_arr {N : Nat} (hN : N ≤ 1048571) : Rd en W (N + 5) 26 encArr := by
  intro fuel cs x h hb
  obtain ⟨d, hd⟩ := rd_field (u := 0) Tryz.underlying26 h hb 0 rfl (rd_slice (f := encDim) (N := N + 3) (k := 3) (b := 32) (by omega) (by omega) (by omega) Tryz.underlying22 cells53 (rd_dim (by omega))) cells22
  obtain ⟨a, ha⟩ := rd_field (u := 0) Tryz.underlying26 h hb 1 rfl (rd_slice (f := encAttr) (N := N + 3) (k := 2) (b := 24) (by omega) (by omega) (by omega) Tryz.underlying23 cells82 (rd_attr (by omega))) cells23
  obtain ⟨c, hc⟩ := rd_field (u := 0) Tryz.underlying26 h hb 2 rfl (rd_slice (f := encCell) (N := N + 3) (k := 2) (b := 48) (by omega) (by omega) (by omega) Tryz.underlying24 cells56 (rd_cell (by omega))) cells24
  exact ⟨⟨d, a, c⟩, whole (all2_app (all2_app hd ha) hc) ((cellsL Tryz.underlying26 h).trans cells26)⟩
theorem okWide_agg {P : Program} {t : TypeId} {fs : Array Field} {r : Reach} {base : Nat} {v : Value} (ht : P.underlying t = some (.struct fs)) (h : Value.okWide P W r base t v) : ∃ cs : List Value, v = .agg cs.toArray := by
  unfold Value.okWide at h
  rw [ht] at h
  obtain ⟨cs, rfl, _⟩ := h
  exact ⟨cs.toList, by simp⟩
theorem carryAll {W' : World} : ∀ {ts : List TypeId} {vs : List Value} {ds : List (DataW H)} {ps : List MemPlace}, DataW.TrodAll en Tryz.prog W 0 (fun _ => true) true ts vs ds ps → (∀ p ∈ ps, W.sameAt W' p) → DataW.TrodAll en Tryz.prog W' 0 (fun _ => true) true ts vs ds ps
  | [], [], [], _, h, _ => h
  | _ :: _, _ :: _, _ :: _, _, ⟨p, q, ⟨n, h1⟩, h2, e⟩, hs => ⟨p, q, ⟨n, DataW.trod_carry n _ _ _ h1 fun x hx => hs x (by rw [e]; exact List.mem_append_left _ hx)⟩, carryAll h2 fun x hx => hs x (by rw [e]; exact List.mem_append_right _ hx), e⟩
theorem own : ownKnob Tryz.prog.godebug = none := by kernel_rfl
theorem kids : Kids Tryz.prog (· < Tryz.prog.types.size) := kids_rows (by kernel_rfl) (by kernel_rfl)
set_option maxRecDepth 100000 in
theorem full : ∀ t e, t < Tryz.prog.types.size → Tryz.prog.underlying t = some (.slice e) → 0 < Tryz.prog.cellsOf e := slices_full_of Tryz.prog (by kernel_rfl)
theorem keptBlock {W' : World} (h : Kept (MOf (fun _ => none) []) W W') : ∀ b, b < W.heap.size → W'.heap[b]? = W.heap[b]? := fun b hb => h.block b hb (by rintro ⟨id, e, p, h1, _⟩; simp [Abs.look] at h1)
theorem keptAll {W' : World} (h : Kept (MOf (fun _ => none) []) W W') (may : MemPlace → Prop) : W.keptBut W' may :=
  ⟨h.os, h.output, fun i hi => by rw [keptBlock h i hi]; exact (World.keptBut_refl W may).2.2 i hi⟩
theorem keptSame {W' : World} (h : Kept (MOf (fun _ => none) []) W W') {p : MemPlace} (hp : p.block < W.heap.size) : W.sameAt W' p := by
  have hb := keptBlock h p.block hp
  cases p with
  | cell b off => show W'.cell? ⟨b, off, none⟩ = W.cell? ⟨b, off, none⟩; unfold World.cell?; rw [show W'.heap[b]? = W.heap[b]? from hb]
  | map b => exact hb
theorem all2_d {σ : Sig} {φ : Pl} {sto : Sto} : ∀ {ds : List D} {vs : List Value}, All2 (Rep σ) ds vs → All2 (RepC σ φ sto) (ds.map .d) vs
  | [], [], _ => trivial
  | d :: r, v :: vs, h => ⟨.d h.1, all2_d h.2⟩
  | [], _ :: _, h => h.elim
  | _ :: _, [], h => h.elim
theorem tsz : Nat.blt 300 Tryz.prog.types.size = true := by kernel_rfl
theorem few {t : Nat} (h : t ≤ 300) : t < Tryz.prog.types.size := by have := Nat.blt_eq.mp tsz; omega
theorem shutBool {W' : World} {base : Nat} {sp : Nat → Bool} {held : Bool} (b : Bool) : DataW.Trod en Tryz.prog W' base sp held 4 (.bool b) (.lit (.bool b)) [] := ⟨1, by simp [DataW.trod, Value.cells, Tryz.underlying4]⟩
theorem okBool {W' : World} (c : Bool) : Value.okWide Tryz.prog W' .any 0 4 (.bool c) := by
  simp [Value.okWide, Tryz.underlying4, Cell.okWide, Cell.ok]
end
/-! ### the law -/
set_option maxRecDepth 100000 in
theorem types_contract (H : Type) (en : TypeId × Value → H) (W : World) (base : Nat) (args : Array Value) (ds gs : List (DataW H)) (before : List MemPlace)
    (hval : ∀ (j : Nat) t v, Tryz.f3.params[j]? = some t → args[j]? = some v → Value.okWide Tryz.prog W .any base t v)
    (hW : DataW.Whole en Tryz.prog Tryz.f3.params.toList Rows.algebraTypesSpec.vars false W args.toList ds gs before) (hk : Rows.uptoSmall H (ds ++ gs) = true) :
    Calls Tryz.prog 3 args W fun e W' => ∃ v, e = .returned v ∧ Rows.algebraTypesSpec.post en Tryz.prog Tryz.f3 false true false false W args v W' := by
  have hW' := hW
  obtain ⟨p, q, hA0, hV, rfl, hfz, hnd⟩ := hW
  have hA : DataW.TrodAll en Tryz.prog W 0 (fun _ => true) true Tryz.f3.params.toList args.toList ds p := hA0
  rw [Tryz.params3] at hA hval
  obtain ⟨v0, vs0, d0, ds0, p0, q0, hargs, rfl, rfl, h0, r0⟩ := trodAll_cons hA
  obtain ⟨v1, vs1, d1, ds1, p1, q1, rfl, rfl, rfl, h1, r1⟩ := trodAll_cons r0
  obtain ⟨rfl, rfl, rfl⟩ := trodAll_nil r1
  obtain rfl : args = #[v0, v1] := by cases args; simp_all
  obtain ⟨rfl, rfl⟩ := trodVars_none hV
  obtain ⟨cs0, rfl⟩ := okWide_agg Tryz.underlying26 (hval 0 26 v0 rfl rfl)
  obtain ⟨cs1, rfl⟩ := okWide_agg Tryz.underlying31 (hval 1 31 v1 rfl rfl)
  have hbk : Rows.uptoBulk d0 + Rows.uptoBulk d1 ≤ 1048576 := by
    simpa [Rows.uptoSmall, Rows.uptoBulkAll] using hk
  obtain ⟨f0, h0⟩ := h0
  obtain ⟨f1, h1⟩ := h1
  obtain ⟨a, ha⟩ := rd_arr (N := 1048571) (by omega) f0 _ _ h0 (by show Rows.uptoBulk d0 ≤ _; omega)
  obtain ⟨s, hs⟩ := rd_scalar 1048576 (by omega) f1 _ _ h1 (by show Rows.uptoBulk d1 ≤ _; omega)
  rw [encS_eq] at hs
  refine ((c3 a.dims a.attrs a.cells s).run W (sg W) (fun _ => none) [.agg cs0.toArray, .agg cs1.toArray] (sg_inv _) ⟨⟨cs0, rfl, all2_d ha⟩, ⟨cs1, rfl, all2_d hs⟩, trivial⟩).mono fun e W' ⟨v, σ', φ', he, hret⟩ => ?_
  subst he
  have hv : v = .bool true := by
    have h2 := RepC.d_inv hret.rep
    cases h2; rfl
  subst hv
  have hsame : ∀ p ∈ p0 ++ (p1 ++ []), W.sameAt W' p := fun p hp => keptSame hret.kept (hW'.lt p (by simpa using hp))
  have hAk := carryAll hA0 hsame
  exact ⟨_, rfl, _, _, _, [], _, [], hW', trodAll_mk1 (shutBool true), DataW.TrodAll.respare kids full (by
      rw [Tryz.params3]
      intro t ht
      have ht' : t = 26 ∨ t = 31 := by simpa using ht
      rcases ht' with rfl | rfl <;> exact few (by omega)) hAk (fun p hp => by
        have := hW'.lt p (by simpa using hp)
        simpa using this), rfl, keptAll hret.kept _, fun h => by cases h⟩
end Go.Proofs.YtpejdgkaapnekaaGreat
