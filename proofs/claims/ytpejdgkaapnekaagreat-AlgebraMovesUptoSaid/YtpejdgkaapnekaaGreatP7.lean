import Derived.Test.YtpejdgkaapnekaaGreatRows
import Derived.Deep.Slices
import Derived.Deep.DeepHandedRow
import Derived.ReadAgain
import Derived.MapPlaces
import Derived.WalkKit
import Derived.ProofKit
import Derived.OpenShut
import Derived.JoinedCond
import Derived.Shelf.SlSortCmp.WholeK
import Derived.Shelf.SlSortCmp.NoneTotal
import Derived.Test.YtpejdgkaapnekaaGreatP6
import Derived.Test.YtpejdgkaapnekaaGreatTab
set_option linter.unusedVariables false
set_option linter.unusedSimpArgs false
namespace Go.Proofs.YtpejdgkaapnekaaGreat
open Go Go.Abs
open Go.ChangeShapes Go.WideShapes Go.ChangeAt Go.RowKit
section
variable {H : Type} {en : TypeId × Value → H} {W : World}
theorem bulk_one (d : DataW H) : 1 ≤ Rows.uptoBulk d := by
  cases d with
  | lit l => cases l <;> simp [Rows.uptoBulk]
  | _ => simp [Rows.uptoBulk]
theorem bulk_mem {d : DataW H} : ∀ {l : List (DataW H)}, d ∈ l → Rows.uptoBulk d ≤ Rows.uptoBulkAll l
  | [], h => by simp at h
  | x :: r, h => by
    simp only [Rows.uptoBulkAll]
    rcases List.mem_cons.1 h with rfl | h
    · omega
    · have := bulk_mem h; omega
theorem bulk_len : ∀ (l : List (DataW H)), l.length ≤ Rows.uptoBulkAll l
  | [] => by simp [Rows.uptoBulkAll]
  | x :: r => by have := bulk_one x; have := bulk_len r; simp only [Rows.uptoBulkAll, List.length_cons]; omega
def sg (W : World) : Sig := fun b => match W.heap[b]? with | some (.cells cs _ _) => some cs | _ => none
theorem sg_some {b : Nat} {cs : Array Value} (h : sg W b = some cs) : ∃ t f, W.heap[b]? = some (.cells cs t f) := by
  unfold sg at h
  split at h
  · rename_i c t f hh; cases h; exact ⟨t, f, hh⟩
  · cases h
theorem sg_inv (φ : Pl) : HInv (sg W) φ [] W := ⟨fun b cs h => sg_some h, fun i e h => by simp [Abs.look] at h, fun i i' e e' p p' h => by simp [Abs.look] at h⟩
def Rd (en : TypeId × Value → H) (W : World) (N : Nat) (t : TypeId) {α : Type} (f : α → List D) : Prop :=
  ∀ (fuel : Nat) (cs : List Value) (x : DataW H × List MemPlace), DataW.trod en Tryz.prog W 0 (fun _ => true) true fuel t cs = some x → Rows.uptoBulk x.1 ≤ N → ∃ a : α, All2 (Rep (sg W)) (f a) cs
theorem Rd.mono {N M : Nat} {t : TypeId} {α : Type} {f : α → List D} (h : Rd en W N t f) (hm : M ≤ N) : Rd en W M t f := fun fuel cs x hx hb => h fuel cs x hx (by omega)
theorem rd_int {N : Nat} {t : TypeId} (ht : Tryz.prog.underlying t = some (.int .i64)) : Rd en W N t (fun n : Int => [.int .i64 n]) := by
  intro fuel cs x h _
  obtain ⟨n, rfl, _, hw⟩ := DataW.trod_int ht h
  have hw' := bounds_i64 hw
  refine ⟨n, .int ?_, trivial⟩
  simp only [inR, IntKind.min, IntKind.max, IntKind.signed, IntKind.bits, if_true]
  omega
theorem rd_str {N : Nat} {t : TypeId} (hN : N ≤ 1048576) (ht : Tryz.prog.underlying t = some .string) : Rd en W N t (fun s : List UInt8 => [.str s]) := by
  intro fuel cs x h hb
  obtain ⟨s, rfl, rfl, _⟩ := DataW.trod_string ht h
  simp only [Rows.uptoBulk] at hb
  have := Rep.str (σ := sg W) (s := s.data.toList) (by omega)
  refine ⟨s.data.toList, ?_, trivial⟩
  simpa using this
theorem rd_slice {N k b : Nat} {t e : TypeId} {α : Type} [Inhabited α] {f : α → List D} (hN : N ≤ 1048575) (hb : b ≤ 1000) (hk : 0 < k) (ht : Tryz.prog.underlying t = some (.slice e)) (hc : Tryz.prog.cellsOf e = k) (he : Rd en W N e f) : Rd en W (N + 1) t (fun l : List α => [.sl k b (l.map f)]) := by
  intro fuel cs x h hbk
  rcases Deep.open_slice ht h with ⟨rfl, rfl⟩ | ⟨a, len, cap, m, n, Dd, Pl, rfl, _, hl, _, hm, rfl, hel⟩
  · refine ⟨[], ?_, trivial⟩
    exact .sl (fun _ _ => undef) (by simp) (by simp) (by simp) (by simp) (by simp) (by simp)
  · simp only [if_true] at hm
    subst hm
    rw [hc] at hel
    simp only [Rows.uptoBulk] at hbk
    have hlen : len ≤ N := by
      have := bulk_len ((List.range len).map Dd)
      simp only [List.length_map, List.length_range] at this
      omega
    have hpart : ∀ i, i < len → Rows.uptoBulk (Dd i) ≤ N := by
      intro i hi
      have := bulk_mem (d := Dd i) (l := (List.range len).map Dd) (List.mem_map.2 ⟨i, List.mem_range.2 hi, rfl⟩)
      omega
    obtain ⟨g, hg⟩ := Deep.choose_lt (n := len) (p := fun i (y : α) => ∃ cs', W.cells? 0 (a.add (i * k)) k = some cs' ∧ All2 (Rep (sg W)) (f y) cs') (fun i hi => by
      obtain ⟨cs', h1, h2⟩ := hel i (by omega)
      obtain ⟨y, hy⟩ := he _ _ _ h2 (hpart i hi)
      exact ⟨y, cs', h1, hy⟩)
    have hcell : ∀ i, i < len → ∀ j, j < k → ∃ v, W.cell? ((a.add (i * k)).add j) = some v ∧ ∀ d, (f (g i))[j]? = some d → Rep (sg W) d v := by
      intro i hi j hj
      obtain ⟨cs', h1, h2⟩ := hg i hi
      obtain ⟨_, h3, h4⟩ := World.cells?_some h1
      have h5 : cs'[j]? = some (cs'[j]'(by omega)) := List.getElem?_eq_getElem (by omega)
      refine ⟨_, (h4 j hj).trans h5, fun d hd => ?_⟩
      obtain ⟨v, hv, hr⟩ := h2.get hd
      rw [h5] at hv; cases hv; exact hr
    have hfl : ∀ i, i < len → (f (g i)).length = k := by
      intro i hi
      obtain ⟨cs', h1, h2⟩ := hg i hi
      rw [h2.length]; exact (World.cells?_some h1).2.1
    have hadd : ∀ i j, i < len → j < k → a.spot = none → ((a.add (i * k)).add j) = ⟨a.block, a.off + i * k + j, none⟩ := by
      intro i j _ _ hs
      obtain ⟨B, o, sp⟩ := a
      simp only at hs
      subst hs
      by_cases h1 : i * k = 0 <;> by_cases h2 : j = 0 <;> simp [Addr.add, h1, h2]
    have hA : 0 < len → ∃ cells : Array Value, a.spot = none ∧ sg W a.block = some cells := by
      intro h0
      obtain ⟨v, hv, _⟩ := hcell 0 h0 0 hk
      have e0 : ((a.add (0 * k)).add 0) = a := by simp [Addr.add]
      rw [e0] at hv
      unfold World.cell? at hv
      unfold sg
      split at hv
      · rename_i c t2 f2 hh
        rw [hh]
        split at hv
        · cases hv
        · rename_i hs
          exact ⟨c, by simpa using hs, rfl⟩
      · cases hv
    refine ⟨(List.range len).map g, ?_, trivial⟩
    have hll : (((List.range len).map g).map f).length = len := by simp
    have key : Rep (sg W) (.sl k b (((List.range len).map g).map f)) (.slice (some a) (((List.range len).map g).map f).length m) := by
      refine .sl (fun i j => (W.cell? ((a.add (i * k)).add j)).getD undef) (by rw [hll]; exact hl) (by rw [hll]; omega) (by
        rw [hll]
        have : len * b ≤ 1048576 * 1000 := Nat.mul_le_mul (by omega) hb
        omega) (fun x hx => ?_) (fun h0 => ?_) (fun i j x d hx hd => ?_)
      · simp only [List.mem_map, List.mem_range] at hx
        obtain ⟨y, ⟨i, hi, rfl⟩, rfl⟩ := hx
        exact hfl i hi
      · rw [hll] at h0
        obtain ⟨cells, hs, hsg⟩ := hA h0
        refine ⟨a.block, a.off, cells, ?_, hsg, fun i j hi hj => ?_⟩
        · obtain ⟨B, o, sp⟩ := a; simp only at hs; subst hs; rfl
        · rw [hll] at hi
          obtain ⟨v, hv, _⟩ := hcell i hi j hj
          rw [hv]
          rw [hadd i j hi hj hs] at hv
          obtain ⟨t2, f2, hh⟩ := sg_some hsg
          simp only [World.cell?, hh] at hv
          simpa using hv
      · simp only [List.getElem?_map, Option.map_eq_some_iff] at hx
        obtain ⟨y, ⟨i', hi', rfl⟩, rfl⟩ := hx
        have hi : i < len := by
          have := (List.getElem?_eq_some_iff.1 hi').1
          simpa using this
        have hii : i' = i := by simpa [List.getElem?_range hi] using hi'.symm
        subst hii
        have hj : j < k := by rw [← hfl i' hi]; exact (List.getElem?_eq_some_iff.1 hd).1
        obtain ⟨v, hv, hr⟩ := hcell i' hi j hj
        rw [hv]
        exact hr d hd
    rw [hll] at key
    exact key
theorem all2_app {R : D → Value → Prop} {a b : List D} {cs : List Value} {o n m : Nat} (h1 : All2 R a ((cs.drop o).take n)) (h2 : All2 R b ((cs.drop (o + n)).take m)) : All2 R (a ++ b) ((cs.drop o).take (n + m)) := by
  rw [List.take_add, List.drop_drop]
  exact h1.append h2
theorem rd_field {N : Nat} {t u : TypeId} {fs : Array Field} {fuel : Nat} {cs : List Value} {x : DataW H × List MemPlace} (ht : Tryz.prog.underlying t = some (.struct fs)) (h : DataW.trod en Tryz.prog W 0 (fun _ => true) true fuel t cs = some x) (hb : Rows.uptoBulk x.1 ≤ N + 1)
    (i : Nat) {fd : Field} (hf : fs[i]? = some fd) {α : Type} {f : α → List D} (hr : Rd en W N fd.type f) {c : Nat} (hc : Tryz.prog.cellsOf fd.type = c) : ∃ a, All2 (Rep (sg W)) (f a) ((cs.drop fd.offset).take c) := by
  subst hc
  obtain ⟨xs, n, _, rfl, _, hl, hx⟩ := DataW.trod_struct ht h
  have h2 := hx i fd hf
  have hi : i < xs.length := by rw [hl]; exact (Array.getElem?_eq_some_iff.1 hf).1
  rw [List.getElem?_eq_getElem hi] at h2
  refine hr _ _ _ h2 ?_
  have := bulk_mem (d := (xs[i]).1) (l := xs.map (·.1)) (List.mem_map.2 ⟨_, List.getElem_mem hi, rfl⟩)
  simp only [Rows.uptoBulk] at hb
  omega
theorem cellsL {t : TypeId} {fs : Array Field} {fuel : Nat} {cs : List Value} {x : DataW H × List MemPlace} (ht : Tryz.prog.underlying t = some (.struct fs)) (h : DataW.trod en Tryz.prog W 0 (fun _ => true) true fuel t cs = some x) : cs.length = Tryz.prog.cellsOf t := by
  obtain ⟨_, _, _, _, hl, _⟩ := DataW.trod_struct ht h
  exact hl
theorem cells3 : Tryz.prog.cellsOf 3 = 1 := by kernel_rfl
theorem cells2 : Tryz.prog.cellsOf 2 = 1 := by kernel_rfl
theorem cells9 : Tryz.prog.cellsOf 9 = 1 := by kernel_rfl
theorem cells28 : Tryz.prog.cellsOf 28 = 4 := by kernel_rfl
theorem cells29 : Tryz.prog.cellsOf 29 = 1 := by kernel_rfl
theorem cells31 : Tryz.prog.cellsOf 31 = 7 := by kernel_rfl
theorem cells82 : Tryz.prog.cellsOf 82 = 2 := by kernel_rfl
theorem cells53 : Tryz.prog.cellsOf 53 = 3 := by kernel_rfl
theorem cells22 : Tryz.prog.cellsOf 22 = 1 := by kernel_rfl
theorem cells23 : Tryz.prog.cellsOf 23 = 1 := by kernel_rfl
theorem cells24 : Tryz.prog.cellsOf 24 = 1 := by kernel_rfl
theorem cells26 : Tryz.prog.cellsOf 26 = 3 := by kernel_rfl
theorem whole {R : D → Value → Prop} {a : List D} {cs : List Value} {n : Nat} (h : All2 R a ((cs.drop 0).take n)) (hl : cs.length = n) : All2 R a cs := by
  rw [List.drop_zero, List.take_of_length_le (by omega)] at h; exact h
theorem rd_val {N : Nat} (hN : N ≤ 1048575) : Rd en W (N + 1) 28 (fun v : Val => [.int .i64 v.kind, .int .i64 v.num, .int .i64 v.den, .str v.str]) := by
  intro fuel cs x h hb
  obtain ⟨k, hk⟩ := rd_field (u := 0) Tryz.underlying28 h hb 0 rfl (rd_int Tryz.underlying3) cells3
  obtain ⟨n, hn⟩ := rd_field (u := 0) Tryz.underlying28 h hb 1 rfl (rd_int Tryz.underlying2) cells2
  obtain ⟨d, hd⟩ := rd_field (u := 0) Tryz.underlying28 h hb 2 rfl (rd_int Tryz.underlying2) cells2
  obtain ⟨s, hs⟩ := rd_field (u := 0) Tryz.underlying28 h hb 3 rfl (rd_str (by omega) Tryz.underlying9) cells9
  exact ⟨⟨k, n, d, s⟩, whole (all2_app (all2_app (all2_app hk hn) hd) hs) ((cellsL Tryz.underlying28 h).trans cells28)⟩
theorem rd_dim {N : Nat} (hN : N ≤ 1048575) : Rd en W (N + 1) 53 encDim := by
  intro fuel cs x h hb
  obtain ⟨s, hs⟩ := rd_field (u := 0) Tryz.underlying53 h hb 0 rfl (rd_str (by omega) Tryz.underlying9) cells9
  obtain ⟨k, hk⟩ := rd_field (u := 0) Tryz.underlying53 h hb 1 rfl (rd_int Tryz.underlying3) cells3
  obtain ⟨n, hn⟩ := rd_field (u := 0) Tryz.underlying53 h hb 2 rfl (rd_int Tryz.underlying3) cells3
  exact ⟨⟨s, k, n⟩, whole (all2_app (all2_app hs hk) hn) ((cellsL Tryz.underlying53 h).trans cells53)⟩
theorem rd_attr {N : Nat} (hN : N ≤ 1048575) : Rd en W (N + 1) 82 encAttr := by
  intro fuel cs x h hb
  obtain ⟨s, hs⟩ := rd_field (u := 0) Tryz.underlying82 h hb 0 rfl (rd_str (by omega) Tryz.underlying9) cells9
  obtain ⟨k, hk⟩ := rd_field (u := 0) Tryz.underlying82 h hb 1 rfl (rd_int Tryz.underlying3) cells3
  exact ⟨⟨s, k⟩, whole (all2_app hs hk) ((cellsL Tryz.underlying82 h).trans cells82)⟩
theorem cells37 : Tryz.prog.cellsOf 37 = 1 := by kernel_rfl
theorem cells54 : Tryz.prog.cellsOf 54 = 1 := by kernel_rfl
theorem cells56 : Tryz.prog.cellsOf 56 = 2 := by kernel_rfl
theorem rd_cell {N : Nat} (hN : N ≤ 1048573) : Rd en W (N + 3) 56 encCell := by
  intro fuel cs x h hb
  obtain ⟨a, ha⟩ := rd_field (u := 0) Tryz.underlying56 h hb 0 rfl (rd_slice (f := encInt) (N := N + 1) (k := 1) (b := 8) (by omega) (by omega) (by omega) Tryz.underlying37 cells3 (rd_int Tryz.underlying3)) cells37
  obtain ⟨v, hv⟩ := rd_field (u := 0) Tryz.underlying56 h hb 1 rfl (rd_slice (f := encVal) (N := N + 1) (k := 4) (b := 40) (by omega) (by omega) (by omega) Tryz.underlying54 cells28 (rd_val (by omega))) cells54
  exact ⟨⟨a, v⟩, whole (all2_app ha hv) ((cellsL Tryz.underlying56 h).trans cells56)⟩
theorem rd_arr {N : Nat} (hN : N ≤ 1048571) : Rd en W (N + 5) 26 encArr := by
  intro fuel cs x h hb
  obtain ⟨d, hd⟩ := rd_field (u := 0) Tryz.underlying26 h hb 0 rfl (rd_slice (f := encDim) (N := N + 3) (k := 3) (b := 32) (by omega) (by omega) (by omega) Tryz.underlying22 cells53 (rd_dim (by omega))) cells22
  obtain ⟨a, ha⟩ := rd_field (u := 0) Tryz.underlying26 h hb 1 rfl (rd_slice (f := encAttr) (N := N + 3) (k := 2) (b := 24) (by omega) (by omega) (by omega) Tryz.underlying23 cells82 (rd_attr (by omega))) cells23
  obtain ⟨c, hc⟩ := rd_field (u := 0) Tryz.underlying26 h hb 2 rfl (rd_slice (f := encCell) (N := N + 3) (k := 2) (b := 48) (by omega) (by omega) (by omega) Tryz.underlying24 cells56 (rd_cell (by omega))) cells24
  exact ⟨⟨d, a, c⟩, whole (all2_app (all2_app hd ha) hc) ((cellsL Tryz.underlying26 h).trans cells26)⟩
theorem okWide_agg {P : Program} {t : TypeId} {fs : Array Field} {r : Reach} {base : Nat} {v : Value} (ht : P.underlying t = some (.struct fs)) (h : Value.okWide P W r base t v) : ∃ cs : List Value, v = .agg cs.toArray := by
  unfold Value.okWide at h
  rw [ht] at h
  obtain ⟨cs, rfl, _⟩ := h
  exact ⟨cs.toList, by simp⟩
theorem carryAll {W' : World} : ∀ {ts : List TypeId} {vs : List Value} {ds : List (DataW H)} {ps : List MemPlace}, DataW.TrodAll en Tryz.prog W 0 (fun _ => true) true ts vs ds ps → (∀ p ∈ ps, W.sameAt W' p) → DataW.TrodAll en Tryz.prog W' 0 (fun _ => true) true ts vs ds ps
  | [], [], [], _, h, _ => h
  | _ :: _, _ :: _, _ :: _, _, ⟨p, q, ⟨n, h1⟩, h2, e⟩, hs => ⟨p, q, ⟨n, DataW.trod_carry n _ _ _ h1 fun x hx => hs x (by rw [e]; exact List.mem_append_left _ hx)⟩, carryAll h2 fun x hx => hs x (by rw [e]; exact List.mem_append_right _ hx), e⟩
theorem own : ownKnob Tryz.prog.godebug = none := by kernel_rfl
theorem kids : Kids Tryz.prog (· < Tryz.prog.types.size) := kids_rows (by kernel_rfl) (by kernel_rfl)
set_option maxRecDepth 100000 in
theorem full : ∀ t e, t < Tryz.prog.types.size → Tryz.prog.underlying t = some (.slice e) → 0 < Tryz.prog.cellsOf e := slices_full_of Tryz.prog (by kernel_rfl)
theorem keptBlock {W' : World} (h : Kept (MOf (fun _ => none) []) W W') : ∀ b, b < W.heap.size → W'.heap[b]? = W.heap[b]? := fun b hb => h.block b hb (by rintro ⟨id, e, p, h1, _⟩; simp [Abs.look] at h1)
theorem keptAll {W' : World} (h : Kept (MOf (fun _ => none) []) W W') (may : MemPlace → Prop) : W.keptBut W' may :=
  ⟨h.os, h.output, fun i hi => by rw [keptBlock h i hi]; exact (World.keptBut_refl W may).2.2 i hi⟩
theorem keptSame {W' : World} (h : Kept (MOf (fun _ => none) []) W W') {p : MemPlace} (hp : p.block < W.heap.size) : W.sameAt W' p := by
  have hb := keptBlock h p.block hp
  cases p with
  | cell b off => show W'.cell? ⟨b, off, none⟩ = W.cell? ⟨b, off, none⟩; unfold World.cell?; rw [show W'.heap[b]? = W.heap[b]? from hb]
  | map b => exact hb
theorem all2_d {σ : Sig} {φ : Pl} {sto : Sto} : ∀ {ds : List D} {vs : List Value}, All2 (Rep σ) ds vs → All2 (RepC σ φ sto) (ds.map .d) vs
  | [], [], _ => trivial
  | d :: r, v :: vs, h => ⟨.d h.1, all2_d h.2⟩
  | [], _ :: _, h => h.elim
  | _ :: _, [], h => h.elim
theorem tsz : Nat.blt 300 Tryz.prog.types.size = true := by kernel_rfl
theorem few {t : Nat} (h : t ≤ 300) : t < Tryz.prog.types.size := by have := Nat.blt_eq.mp tsz; omega
theorem shutBool {W' : World} {base : Nat} {sp : Nat → Bool} {held : Bool} (b : Bool) : DataW.Trod en Tryz.prog W' base sp held 4 (.bool b) (.lit (.bool b)) [] := ⟨1, by simp [DataW.trod, Value.cells, Tryz.underlying4]⟩
theorem okBool {W' : World} (c : Bool) : Value.okWide Tryz.prog W' .any 0 4 (.bool c) := by
  simp [Value.okWide, Tryz.underlying4, Cell.okWide, Cell.ok]
end
end Go.Proofs.YtpejdgkaapnekaaGreat
namespace Go.Proofs.YtpejdgkaapnekaaGreat
open Go Go.Abs
open Go.ChangeShapes Go.WideShapes Go.ChangeAt Go.RowKit
section
variable {H : Type} {en : TypeId × Value → H} {W : World}
theorem rd_sliceL {N k b : Nat} {t e : TypeId} {α : Type} [Inhabited α] {f : α → List D} (hN : N ≤ 1048575) (hb : b ≤ 1000) (hk : 0 < k) (ht : Tryz.prog.underlying t = some (.slice e)) (hc : Tryz.prog.cellsOf e = k) (he : Rd en W N e f) : ∀ (fuel : Nat) (cs : List Value) (x : DataW H × List MemPlace), DataW.trod en Tryz.prog W 0 (fun _ => true) true fuel t cs = some x → Rows.uptoBulk x.1 ≤ N + 1 → ∃ l : List α, l.length ≤ N ∧ All2 (Rep (sg W)) [.sl k b (l.map f)] cs := by
  intro fuel cs x h hbk
  rcases Deep.open_slice ht h with ⟨rfl, rfl⟩ | ⟨a, len, cap, m, n, Dd, Pl, rfl, _, hl, _, hm, rfl, hel⟩
  · refine ⟨[], by simp, ?_, trivial⟩
    exact .sl (fun _ _ => undef) (by simp) (by simp) (by simp) (by simp) (by simp) (by simp)
  · simp only [if_true] at hm
    subst hm
    rw [hc] at hel
    simp only [Rows.uptoBulk] at hbk
    have hlen : len ≤ N := by
      have := bulk_len ((List.range len).map Dd)
      simp only [List.length_map, List.length_range] at this
      omega
    have hpart : ∀ i, i < len → Rows.uptoBulk (Dd i) ≤ N := by
      intro i hi
      have := bulk_mem (d := Dd i) (l := (List.range len).map Dd) (List.mem_map.2 ⟨i, List.mem_range.2 hi, rfl⟩)
      omega
    obtain ⟨g, hg⟩ := Deep.choose_lt (n := len) (p := fun i (y : α) => ∃ cs', W.cells? 0 (a.add (i * k)) k = some cs' ∧ All2 (Rep (sg W)) (f y) cs') (fun i hi => by
      obtain ⟨cs', h1, h2⟩ := hel i (by omega)
      obtain ⟨y, hy⟩ := he _ _ _ h2 (hpart i hi)
      exact ⟨y, cs', h1, hy⟩)
    have hcell : ∀ i, i < len → ∀ j, j < k → ∃ v, W.cell? ((a.add (i * k)).add j) = some v ∧ ∀ d, (f (g i))[j]? = some d → Rep (sg W) d v := by
      intro i hi j hj
      obtain ⟨cs', h1, h2⟩ := hg i hi
      obtain ⟨_, h3, h4⟩ := World.cells?_some h1
      have h5 : cs'[j]? = some (cs'[j]'(by omega)) := List.getElem?_eq_getElem (by omega)
      refine ⟨_, (h4 j hj).trans h5, fun d hd => ?_⟩
      obtain ⟨v, hv, hr⟩ := h2.get hd
      rw [h5] at hv; cases hv; exact hr
    have hfl : ∀ i, i < len → (f (g i)).length = k := by
      intro i hi
      obtain ⟨cs', h1, h2⟩ := hg i hi
      rw [h2.length]; exact (World.cells?_some h1).2.1
    have hadd : ∀ i j, i < len → j < k → a.spot = none → ((a.add (i * k)).add j) = ⟨a.block, a.off + i * k + j, none⟩ := by
      intro i j _ _ hs
      obtain ⟨B, o, sp⟩ := a
      simp only at hs
      subst hs
      by_cases h1 : i * k = 0 <;> by_cases h2 : j = 0 <;> simp [Addr.add, h1, h2]
    have hA : 0 < len → ∃ cells : Array Value, a.spot = none ∧ sg W a.block = some cells := by
      intro h0
      obtain ⟨v, hv, _⟩ := hcell 0 h0 0 hk
      have e0 : ((a.add (0 * k)).add 0) = a := by simp [Addr.add]
      rw [e0] at hv
      unfold World.cell? at hv
      unfold sg
      split at hv
      · rename_i c t2 f2 hh
        rw [hh]
        split at hv
        · cases hv
        · rename_i hs
          exact ⟨c, by simpa using hs, rfl⟩
      · cases hv
    refine ⟨(List.range len).map g, by simpa using hlen, ?_, trivial⟩
    have hll : (((List.range len).map g).map f).length = len := by simp
    have key : Rep (sg W) (.sl k b (((List.range len).map g).map f)) (.slice (some a) (((List.range len).map g).map f).length m) := by
      refine .sl (fun i j => (W.cell? ((a.add (i * k)).add j)).getD undef) (by rw [hll]; exact hl) (by rw [hll]; omega) (by
        rw [hll]
        have : len * b ≤ 1048576 * 1000 := Nat.mul_le_mul (by omega) hb
        omega) (fun x hx => ?_) (fun h0 => ?_) (fun i j x d hx hd => ?_)
      · simp only [List.mem_map, List.mem_range] at hx
        obtain ⟨y, ⟨i, hi, rfl⟩, rfl⟩ := hx
        exact hfl i hi
      · rw [hll] at h0
        obtain ⟨cells, hs, hsg⟩ := hA h0
        refine ⟨a.block, a.off, cells, ?_, hsg, fun i j hi hj => ?_⟩
        · obtain ⟨B, o, sp⟩ := a; simp only at hs; subst hs; rfl
        · rw [hll] at hi
          obtain ⟨v, hv, _⟩ := hcell i hi j hj
          rw [hv]
          rw [hadd i j hi hj hs] at hv
          obtain ⟨t2, f2, hh⟩ := sg_some hsg
          simp only [World.cell?, hh] at hv
          simpa using hv
      · simp only [List.getElem?_map, Option.map_eq_some_iff] at hx
        obtain ⟨y, ⟨i', hi', rfl⟩, rfl⟩ := hx
        have hi : i < len := by
          have := (List.getElem?_eq_some_iff.1 hi').1
          simpa using this
        have hii : i' = i := by simpa [List.getElem?_range hi] using hi'.symm
        subst hii
        have hj : j < k := by rw [← hfl i' hi]; exact (List.getElem?_eq_some_iff.1 hd).1
        obtain ⟨v, hv, hr⟩ := hcell i' hi j hj
        rw [hv]
        exact hr d hd
    rw [hll] at key
    exact key
end
end Go.Proofs.YtpejdgkaapnekaaGreat
namespace Go.Abs
open Go
variable {P : Program} {c : Ctx} {σ σ' : Sig} {φ φ' : Pl} {w w' : World}
theorem HInv.ren {S : Sto} (r : Nat → Nat) (h : HInv σ φ S w) (hk : (nodupL (keysL S) && nodupL (mapN r (keysL S)) && fitG r (keysL S) && stoIn S S) = true) :
    ∃ φ', HInv σ φ' (renS r S) w ∧ (∀ j o, look S j = some o → look (renS r S) (r j) = some (renO r o) ∧ φ' (r j) = φ j) ∧ (∀ t e, look (renS r S) t = some e → ∃ j o, t = r j ∧ look S j = some o ∧ e = renO r o) ∧ ∀ t, Pin t → φ' t = φ t := by
  simp only [Bool.and_eq_true] at hk
  obtain ⟨⟨⟨h1, h2⟩, h3⟩, h4⟩ := hk
  classical
  let φ' : Pl := fun t => if h : ∃ i, i ∈ keysL S ∧ r i = t then φ h.choose else φ t
  have hφ : ∀ {i : Nat}, i ∈ keysL S → φ' (r i) = φ i := by
    intro i hi
    have hex : ∃ j, j ∈ keysL S ∧ r j = r i := ⟨i, hi, rfl⟩
    show (if h : ∃ j, j ∈ keysL S ∧ r j = r i then φ h.choose else φ (r i)) = φ i
    rw [dif_pos hex]
    have := hex.choose_spec
    rw [nodup_inj h2 this.1 hi this.2]
  have hR : ∀ j o, look S j = some o → look (renS r S) (r j) = some (renO r o) ∧ φ' (r j) = φ j := fun j o hj => ⟨renS_look h2 hj, hφ (look_key hj)⟩
  refine ⟨φ', ⟨h.sig, fun t e ht => ?_, fun t t' e e' p p' ht ht' hne hp hp' => ?_⟩, hR, fun t e ht => look_renS h1 ht, fun t ht => ?_⟩
  · obtain ⟨i, o, rfl, hi, rfl⟩ := look_renS h1 ht
    exact reObj hR hi (stoIn_look h4 hi) (h.obj _ _ hi)
  · obtain ⟨i, o, rfl, hi, rfl⟩ := look_renS h1 ht
    obtain ⟨i', o', rfl, hi', rfl⟩ := look_renS h1 ht'
    rw [(hR _ _ hi).2] at hp
    rw [(hR _ _ hi').2] at hp'
    exact h.inj _ _ _ _ _ _ hi hi' (fun e => hne (by rw [e])) hp hp'
  · show (if h : ∃ j, j ∈ keysL S ∧ r j = t then φ h.choose else φ t) = _
    split
    · rename_i hex
      have hs := hex.choose_spec
      have := fitG_ok h3 hs.1 (by rw [hs.2]; exact ht)
      rw [hs.2] at this
      rw [← this]
    · rfl
theorem repL_ren {S : Sto} {r : Nat → Nat} (hR : ∀ j o, look S j = some o → look (renS r S) (r j) = some (renO r o) ∧ φ' (r j) = φ j) : ∀ {avs : List AV} {vs : List Value}, avsIn S avs = true → All2 (RepV σ φ S) avs vs → All2 (RepV σ φ' (renS r S)) (renL r avs) vs
  | [], [], _, _ => trivial
  | x :: l, v :: vs, h, ha => by
    simp only [avsIn, Bool.and_eq_true] at h
    exact ⟨reV hR h.1 ha.1, repL_ren hR h.2 ha.2⟩
  | [], _ :: _, _, ha => ha.elim
  | _ :: _, [], _, ha => ha.elim
theorem callA_ren {f : FuncId} {avs avs0 : List AV} {s s0 s' s1 : Sto} {rav : AV} (q q' : Nat → Nat) (hC : CallA P f avs s rav s') (hs : renS q s0 = s) (ha : renL q avs0 = avs) (hs' : renS q' s' = s1) (hai : avsIn s0 avs0 = true) (hfl : flatV rav = true)
    (hk : (nodupL (keysL s0) && nodupL (mapN q (keysL s0)) && fitG q (keysL s0) && stoIn s0 s0) = true) (hk' : (nodupL (keysL s') && nodupL (mapN q' (keysL s')) && fitG q' (keysL s') && stoIn s' s') = true) : CallA P f avs0 s0 rav s1 := by
  subst hs; subst ha; subst hs'
  refine ⟨hC.fn, fun w σ φ vs hinv hargs => ?_⟩
  obtain ⟨φ1, h1, hR, hL, hp⟩ := hinv.ren q hk
  refine (hC.run w σ φ1 vs h1 (repL_ren hR hai hargs)).mono ?_
  rintro e w' ⟨v, σ', φ', rfl, hret⟩
  obtain ⟨φ2, h2, hR2, hL2, hp2⟩ := hret.inv.ren q' hk'
  have hM : ∀ b, MOf φ1 (renS q s0) b → MOf φ s0 b := by
    rintro b ⟨t, e, p, h3, h4, h5⟩
    obtain ⟨j, o, rfl, h6, rfl⟩ := hL t e h3
    rw [(hR _ _ h6).2] at h4
    exact ⟨j, o, p, h6, h4, h5⟩
  refine ⟨v, σ', φ2, rfl, hret.le, fun b hb => ?_, h2, flatV_rep hfl hret.rep, fun i e p hi hpi => ?_, fun t ht => (hp2 t ht).trans ((hret.pin t ht).trans (hp t ht)), ⟨hret.kept.os, hret.kept.tape, hret.kept.output, hret.kept.size, hret.kept.drawn, fun b hb hm => hret.kept.block b hb fun h => hm (hM b h)⟩⟩
  · rcases hret.fresh b hb with h | h | h
    · exact .inl h
    · exact .inr (.inl h)
    · exact .inr (.inr (hM b h))
  · obtain ⟨j, o, rfl, h6, rfl⟩ := hL2 i e hi
    rw [(hR2 _ _ h6).2] at hpi
    rcases hret.mine _ _ _ h6 hpi with h | h
    · exact .inl h
    · exact .inr (hM _ h)
variable {V : Env} {T : Tab} {w0 : World} {σ0 : Sig} {φ0 : Pl} {M : Nat → Prop} {n : Nat} {rd : Option Nat} {mk : List Deferred} {ops : Array Oper} {o : Oper} {rest : List Oper} {fr : List (Nat × AV)} {sto : Sto} {K : St → Prop} {st st0 : St} {acc : List Tr}
theorem imp_adoptB (i id : Nat) {k b : Nat} (hl : look sto i = some (.box [.d .nil])) (hlt : (Nat.blt id 1000000 && (!frMen id fr && !stoMen id sto && !hasK sto id)) = true) : Imp c ⟨fr, sto⟩ ⟨fr, (id, .row k b []) :: setS i (.box [.own id 0]) sto⟩ := by
  simp only [Bool.and_eq_true, Bool.not_eq_true', Nat.blt_eq] at hlt
  obtain ⟨h1, ⟨h2, h3⟩, h4⟩ := hlt
  intro a w σ φ hr
  have hn := hr.nilRow (id := id) (k := k) (b := b) (by simpa using h1) h2 h3
  have hne : id ≠ i := by rintro rfl; simp [hasK, hl] at h4
  have hE : Ext (fun _ => False) (updP φ id none) (updP φ id none) ((id, .row k b []) :: sto) ((id, .row k b []) :: setS i (.box [.own id 0]) sto) := by
    intro j _
    cases hj : look ((id, AObj.row k b []) :: setS i (.box [.own id 0]) sto) j with
    | none => exact .inl rfl
    | some e =>
      refine .inr ?_
      rcases look_cons hj with ⟨rfl, rfl⟩ | ⟨hne2, hj2⟩
      · exact ⟨_, look_self, rfl, _, rfl, compat.refl _⟩
      · rw [look_setS] at hj2
        rcases look_cons hj2 with ⟨rfl, rfl⟩ | ⟨_, hj3⟩
        · exact ⟨.box [.d .nil], by rw [look_ne hne2]; exact hl, rfl, .box [.own id 0], rfl, trivial⟩
        · exact ⟨_, by rw [look_ne hne2]; exact hj3, rfl, _, rfl, compat.refl _⟩
  have hold : ∀ {j e}, look ((id, AObj.row k b []) :: setS i (.box [.own id 0]) sto) j = some e → (j = i ∧ e = .box [.own id 0]) ∨ look ((id, AObj.row k b []) :: sto) j = some e := by
    intro j e hj
    rcases look_cons hj with ⟨rfl, rfl⟩ | ⟨hne2, hj2⟩
    · exact .inr look_self
    · rw [look_setS] at hj2
      rcases look_cons hj2 with ⟨rfl, rfl⟩ | ⟨_, hj3⟩
      · exact .inl ⟨rfl, rfl⟩
      · exact .inr (by rw [look_ne hne2]; exact hj3)
  have hi : look ((id, AObj.row k b []) :: sto) i = some (.box [.d .nil]) := by rw [look_ne (fun e => hne e.symm)]; exact hl
  refine ⟨σ, _, hn.le, hn.fresh, ⟨hn.inv.sig, fun j e hj => ?_, fun j j' e e' p p' hj hj' hne2 hp hp' => ?_⟩, fun j e p hj hp => ?_, fun s v hv => ?_, hn.defers, hn.size, hn.fra, hn.pin⟩
  · rcases hold hj with ⟨rfl, rfl⟩ | hj2
    · obtain ⟨B, cc, vs, t, h5, h6, h7, h8⟩ := hn.inv.obj _ _ hi
      refine ⟨B, cc, vs, t, h5, h6, ?_, h8⟩
      cases vs with
      | nil => exact h7.elim
      | cons v vs =>
        obtain ⟨h9, h10⟩ := h7
        cases vs with
        | cons _ _ => exact h10.elim
        | nil =>
          replace h9 := RepC.d_inv h9
          cases h9
          exact ⟨.ownNil look_self updP_self, trivial⟩
    · exact (hn.inv.obj _ _ hj2).ext (X := fun _ => False) (Sig.le_refl _) hE (fun j hj => hj.elim) rfl fun _ _ _ => ⟨rfl, rfl⟩
  · have h5 : ∀ {j e}, look ((id, AObj.row k b []) :: setS i (.box [.own id 0]) sto) j = some e → ∃ e0, look ((id, AObj.row k b []) :: sto) j = some e0 := by
      intro j e hj
      rcases hold hj with ⟨rfl, rfl⟩ | hj2
      · exact ⟨_, hi⟩
      · exact ⟨_, hj2⟩
    obtain ⟨_, h6⟩ := h5 hj
    obtain ⟨_, h7⟩ := h5 hj'
    exact hn.inv.inj _ _ _ _ _ _ h6 h7 hne2 hp hp'
  · rcases hold hj with ⟨rfl, rfl⟩ | hj2
    · exact hn.mine _ _ _ hi hp
    · exact hn.mine _ _ _ hj2 hp
  · obtain ⟨u, hu, hru⟩ := hn.slot s v hv
    exact ⟨u, hu, hru.ext (Sig.le_refl _) hE fun j hj => hj.elim⟩
theorem step3_sliceHi {t e : TypeId} {x y : Operand} {id m k k' b b' : Nat} {ik : IntKind} {h : Int} {xs : List (List D)} {z : List D} (ho : o.op = .slice t x none (some y) none) (ht : sliceTy V.T t = some (e, k', b', z)) (hx : ev st x = some (.one (.own id m))) (hy : ev st y = some (.one (.d (.int ik h))))
    (hl : look st.sto id = some (.row k b xs)) (hk : Nat.beq k k' = true) (h0 : 0 ≤ h) (hm : h.toNat ≤ m) (hxs : m ≤ xs.length) : step3 V st o 0 = some ⟨.one (.own id h.toNat), [], []⟩ := by
  have e1 : Nat.ble h.toNat xs.length = true := Nat.ble_eq.mpr (by omega)
  have e2 : Nat.ble h.toNat m = true := Nat.ble_eq.mpr hm
  have e0 : Nat.ble 0 h.toNat = true := Nat.ble_eq.mpr (Nat.zero_le _)
  simp only [step3, stepE, valF, ho, otherE, bndF, hx, hy, h0, decide_true, cond_true, sliceV, ht, hl, hk, e0, e1, e2, Bool.and_self, Bool.or_true, Nat.beq_refl]
theorem step3_sliceLo0 {t e : TypeId} {x y : Operand} {id m k k' b b' : Nat} {ik : IntKind} {xs : List (List D)} {z : List D} (ho : o.op = .slice t x (some y) none none) (ht : sliceTy V.T t = some (e, k', b', z)) (hx : ev st x = some (.one (.own id m))) (hy : ev st y = some (.one (.d (.int ik 0))))
    (hl : look st.sto id = some (.row k b xs)) (hk : Nat.beq k k' = true) (hxs : m ≤ xs.length) : step3 V st o 0 = some ⟨.one (.own id m), [], []⟩ := by
  have e1 : Nat.ble m xs.length = true := Nat.ble_eq.mpr hxs
  have e2 : Nat.ble m m = true := Nat.ble_eq.mpr (Nat.le_refl _)
  have e0 : Nat.ble 0 m = true := Nat.ble_eq.mpr (Nat.zero_le _)
  have e4 : (0 : Int) ≤ 0 := Int.le_refl _
  simp only [step3, stepE, valF, ho, otherE, bndF, hx, hy, e4, decide_true, cond_true, sliceV, ht, hl, hk, Int.toNat_zero, e0, e1, e2, Bool.and_self, Bool.or_true, Nat.beq_refl]
theorem step3_sliceLo {t e : TypeId} {x y : Operand} {id m k k' b b' : Nat} {ik : IntKind} {h : Int} {xs : List (List D)} {z : List D} (ho : o.op = .slice t x (some y) none none) (ht : sliceTy V.T t = some (e, k', b', z)) (hx : ev st x = some (.one (.own id m))) (hy : ev st y = some (.one (.d (.int ik h))))
    (hl : look st.sto id = some (.row k b xs)) (hk : Nat.beq k k' = true) (h0 : 0 < h) (hm : h.toNat ≤ m) (hxs : m ≤ xs.length) : step3 V st o 0 = some ⟨.one (.sub id h.toNat (m - h.toNat)), [], []⟩ := by
  have e1 : Nat.ble m xs.length = true := Nat.ble_eq.mpr hxs
  have e2 : Nat.ble h.toNat m = true := Nat.ble_eq.mpr hm
  have e3 : Nat.beq h.toNat 0 = false := by
    cases hb : Nat.beq h.toNat 0 with
    | false => rfl
    | true => have := Nat.eq_of_beq_eq_true hb; omega
  have e4 : (0 : Int) ≤ h := by omega
  simp only [step3, stepE, valF, ho, otherE, bndF, hx, hy, e4, decide_true, cond_true, sliceV, ht, hl, hk, e1, e2, e3, Bool.and_self, Bool.false_and, cond_false]
theorem s_append (hT : TabOk P T) {d : Nat} {t t2 e e2 k b k2 b2 k' b' id m : Nat} {z z2 : List D} {x y : Operand} {v : AV} {xs ys zs : List (List D)}
    (ho : o.op = .call { callee := .builtin .append, args := #[x, y], argTypes := #[t, t2] }) (hg : o.guard = none) (hdst : o.dst = some d) (hd : Nat.blt d n = true) (ht : sliceTy T t = some (e, k, b, z)) (ht2 : sliceTy T t2 = some (e2, k2, b2, z2))
    (hlt : (Nat.blt id 1000000 || Nat.ble 2000000 id) = true) (hx : ev ⟨fr, sto⟩ x = some (.one (.own id m))) (hl : look sto id = some (.row k' b' xs)) (hkb : (Nat.beq k k' && Nat.beq b b') = true) (hy : ev ⟨fr, sto⟩ y = some v) (hs : srcOf ⟨fr, sto⟩ k v = some ys) (hzs : zs = xs.take m ++ ys)
    (hm : m ≤ 100000000) (hys : ys.length ≤ 100000) (hb : b ≤ 100)
    (h : OkOps P ⟨w0, σ0, φ0, M, n, rd, mk⟩ ops rest ⟨(d, .one (.own id (m + ys.length))) :: purFr id fr, setS id (.row k b zs) (purSto id sto)⟩ K) : OkOps P ⟨w0, σ0, φ0, M, n, rd, mk⟩ ops (o :: rest) ⟨fr, sto⟩ K := by
  have h47 : (m + ys.length) * b ≤ 2 ^ 47 := Nat.le_trans (Nat.mul_le_mul (show m + ys.length ≤ 200000000 by omega) hb) (by omega)
  exact okops_append hT ho hg (by rw [hdst]; exact hd) ht ht2 hlt hx hl hkb hy hs hzs (by omega) h47 (by rw [hdst]; exact h)
theorem d_callF {d : Nat} {fop : Operand} {args : Array Operand} {ats : Array TypeId} {f : FuncId} {caps : List D} {avs avs' : List AV} {rav : AV} {rsto : Sto} {os : List (Nat × AObj)} (dl : List Nat)
    (ho : o.op = .call { callee := .value fop, args := args, argTypes := ats }) (hg : o.guard = none) (hdst : o.dst = some d) (hd : Nat.blt d c.n = true) (hos : objsL sto dl = some os) (hf : evS os ⟨fr, sto⟩ fop = some (.one (.d (.fn f caps))))
    (ha : evLS os ⟨fr, sto⟩ args.toList = some avs) (hD : avsD avs = true) (hap : (avs ++ caps.map fun x => .one (.d x)) = avs') (hC : CallA P f avs' [] rav rsto) (hfl : flatV rav = true)
    (k : DRun P c ops st0 rest ⟨(d, rav) :: fr, sto⟩ (⟨rav, [], dl, []⟩ :: acc) K) : DRun P c ops st0 (o :: rest) ⟨fr, sto⟩ acc K := by
  subst hap
  exact d_run hg (loc_callF dl ho (by rw [hdst]; exact hd) hos hf ha hD hC hfl) (by rw [hdst]; exact k)
theorem okR_imp {bl : Nat} {g : Operand} {ps : Array Nat} {assign body code : Code} {Q : Exit → St → Prop} {st' : St} (hi : Imp c st st') (h : OkR P c bl g ps assign body code st' Q) : OkR P c bl g ps assign body code st Q := fun a w σ φ hr => by
  obtain ⟨σ', φ', hr'⟩ := hi a w σ φ hr
  exact h a w σ' φ' hr'
theorem imp_subS {s' : Sto} (h : SubL sto s') : Imp c ⟨fr, sto⟩ ⟨fr, s'⟩ := fun a w σ φ hr => ⟨σ, φ, hr.dropTo fun i e hi => h.look hi⟩
theorem s_callFS (dl : List Nat) {d : Nat} {fop : Operand} {args : Array Operand} {ats : Array TypeId} {f : FuncId} {caps : List D} {avs avs' : List AV} {rav : AV} {rsto : Sto} {os : List (Nat × AObj)}
    (ho : o.op = .call { callee := .value fop, args := args, argTypes := ats }) (hg : o.guard = none) (hdst : o.dst = some d) (hd : Nat.blt d n = true) (hos : objsL sto dl = some os) (hf : evS os ⟨fr, sto⟩ fop = some (.one (.d (.fn f caps))))
    (ha : evLS os ⟨fr, sto⟩ args.toList = some avs) (hD : avsD avs = true) (hap : (avs ++ caps.map fun x => .one (.d x)) = avs') (hC : CallA P f avs' [] rav rsto) (hfl : flatV rav = true)
    (h : OkOps P ⟨w0, σ0, φ0, M, n, rd, mk⟩ ops rest ⟨(d, rav) :: fr, sto⟩ K) : OkOps P ⟨w0, σ0, φ0, M, n, rd, mk⟩ ops (o :: rest) ⟨fr, sto⟩ K := by
  subst hap
  obtain ⟨ss, h1, h2⟩ := sealL_objs (st := ⟨fr, sto⟩) hos
  exact okops_callF ho hg (by rw [hdst]; exact hd) (imp_sealL h1) (by rw [h2]; exact hf) (by rw [evL_evLS h2]; exact ha) hD hC hfl (by rw [hdst]; exact h)
end Go.Abs
namespace Go.Abs
open Go
variable {P : Program} {c : Ctx} {T : Tab}
theorem okops_isNilS (hT : TabOk P T) {ops : Array Oper} {o : Oper} {rest : List Oper} {st : St} {K : St → Prop} {op : BinOp} {t ty : TypeId} {x y : Operand} {e : Bool} {k b : Nat} {xs : List (List D)}
    (ho : o.op = .binOp op t x y ty) (hop : isEql op = some e) (hg : o.guard = none) (hd : dstOk c.n o.dst = true) (ht : (isSliceT T t && isNilA (ev st y)) = true) (hx : ev st x = some (.one (.d (.sl k b xs))))
    (h : ∀ r : Bool, (r = true → xs = []) → OkOps P c ops rest ⟨putO o.dst (.one (.d (.bool (r == e)))) st.fr, st.sto⟩ K) : OkOps P c ops (o :: rest) st K :=
  okops_run hg fun a w σ φ hr => by
    rw [Bool.and_eq_true] at ht
    obtain ⟨el, hu⟩ := isSliceT_ok hT ht.1
    have hr1 : ∃ A n cap, a.eval x = .slice A n cap ∧ (A.isNone = true → xs = []) := by
      have h1 := RepC.d_inv (ev_rep hr hx)
      generalize a.eval x = u at h1
      cases h1 with
      | sl vs hc h48 hb hk hA hh =>
        refine ⟨_, _, _, rfl, fun hn => ?_⟩
        cases xs with
        | nil => rfl
        | cons z zs =>
          obtain ⟨B, o, cells, rfl, _⟩ := hA (by simp)
          simp at hn
    obtain ⟨A, n, cap, hx, hA⟩ := hr1
    have hy : a.eval y = .slice none 0 0 := by
      have h2 := ht.2
      unfold isNilA at h2
      split at h2
      · rename_i hy
        have h1 := RepC.d_inv (ev_rep hr hy)
        generalize a.eval y = u at h1
        cases h1; rfl
      · cases h2
    refine ⟨.bool (A.isNone == e), w, _, σ, φ, ?_, hr.put (v := .one (.d (.bool (A.isNone == e)))) hd (RepC.d .bool), h _ hA⟩
    cases op <;> simp only [isEql, Option.some.injEq, reduceCtorEq] at hop <;> subst hop
    · simp [execOp, ho, hx, hy, eqGuard_quiet, Lib.run_eql_slice_nil _ _ _ _ _ _ _ _ hu]
    · simp [execOp, ho, hx, hy, eqGuard_quiet, run_neq_slice_nil_any _ _ _ _ _ _ _ _ hu]
variable {w0 : World} {σ0 : Sig} {φ0 : Pl} {fr : List (Nat × AV)} {sto : Sto}
theorem imp_adoptJ (i j0 id : Nat) {k b : Nat} {cs : List AC} (hl : look sto i = some (.box cs)) (hc : cs[j0]? = some (.d .nil)) (hlt : (Nat.blt id 1000000 && (!frMen id fr && !stoMen id sto && !hasK sto id)) = true) : Imp c ⟨fr, sto⟩ ⟨fr, (id, .row k b []) :: setS i (.box (cs.set j0 (.own id 0))) sto⟩ := by
  simp only [Bool.and_eq_true, Bool.not_eq_true', Nat.blt_eq] at hlt
  obtain ⟨h1, ⟨h2, h3⟩, h4⟩ := hlt
  intro a w σ φ hr
  have hn := hr.nilRow (id := id) (k := k) (b := b) (by simpa using h1) h2 h3
  have hne : id ≠ i := by rintro rfl; simp [hasK, hl] at h4
  have hE : Ext (fun _ => False) (updP φ id none) (updP φ id none) ((id, .row k b []) :: sto) ((id, .row k b []) :: setS i (.box (cs.set j0 (.own id 0))) sto) := by
    intro j _
    cases hj : look ((id, AObj.row k b []) :: setS i (.box (cs.set j0 (.own id 0))) sto) j with
    | none => exact .inl rfl
    | some e =>
      refine .inr ?_
      rcases look_cons hj with ⟨rfl, rfl⟩ | ⟨hne2, hj2⟩
      · exact ⟨_, look_self, rfl, _, rfl, compat.refl _⟩
      · rw [look_setS] at hj2
        rcases look_cons hj2 with ⟨rfl, rfl⟩ | ⟨_, hj3⟩
        · exact ⟨.box cs, by rw [look_ne hne2]; exact hl, rfl, .box (cs.set j0 (.own id 0)), rfl, trivial⟩
        · exact ⟨_, by rw [look_ne hne2]; exact hj3, rfl, _, rfl, compat.refl _⟩
  have hold : ∀ {j e}, look ((id, AObj.row k b []) :: setS i (.box (cs.set j0 (.own id 0))) sto) j = some e → (j = i ∧ e = .box (cs.set j0 (.own id 0))) ∨ look ((id, AObj.row k b []) :: sto) j = some e := by
    intro j e hj
    rcases look_cons hj with ⟨rfl, rfl⟩ | ⟨hne2, hj2⟩
    · exact .inr look_self
    · rw [look_setS] at hj2
      rcases look_cons hj2 with ⟨rfl, rfl⟩ | ⟨_, hj3⟩
      · exact .inl ⟨rfl, rfl⟩
      · exact .inr (by rw [look_ne hne2]; exact hj3)
  have hi : look ((id, AObj.row k b []) :: sto) i = some (.box cs) := by rw [look_ne (fun e => hne e.symm)]; exact hl
  refine ⟨σ, _, hn.le, hn.fresh, ⟨hn.inv.sig, fun j e hj => ?_, fun j j' e e' p p' hj hj' hne2 hp hp' => ?_⟩, fun j e p hj hp => ?_, fun s v hv => ?_, hn.defers, hn.size, hn.fra, hn.pin⟩
  · rcases hold hj with ⟨rfl, rfl⟩ | hj2
    · obtain ⟨B, cc, vs, t, h5, h6, h7, h8⟩ := hn.inv.obj _ _ hi
      refine ⟨B, cc, vs, t, h5, h6, All2.of_get (by rw [List.length_set]; exact h7.length) fun m x u hx hu => ?_, h8⟩
      by_cases hm : j0 = m
      · subst hm
        have hlt : j0 < cs.length := (List.getElem?_eq_some_iff.1 hc).1
        rw [List.getElem?_set_self hlt] at hx
        cases hx
        obtain ⟨u', hu', hr9⟩ := h7.get hc
        rw [hu] at hu'; cases hu'
        replace hr9 := RepC.d_inv hr9
        cases hr9
        exact .ownNil look_self updP_self
      · rw [List.getElem?_set_ne hm] at hx
        obtain ⟨u', hu', hr9⟩ := h7.get hx
        rw [hu] at hu'; cases hu'
        exact hr9.ext (Sig.le_refl _) hE fun j hj => hj.elim
    · exact (hn.inv.obj _ _ hj2).ext (X := fun _ => False) (Sig.le_refl _) hE (fun j hj => hj.elim) rfl fun _ _ _ => ⟨rfl, rfl⟩
  · have h5 : ∀ {j e}, look ((id, AObj.row k b []) :: setS i (.box (cs.set j0 (.own id 0))) sto) j = some e → ∃ e0, look ((id, AObj.row k b []) :: sto) j = some e0 := by
      intro j e hj
      rcases hold hj with ⟨rfl, rfl⟩ | hj2
      · exact ⟨_, hi⟩
      · exact ⟨_, hj2⟩
    obtain ⟨_, h6⟩ := h5 hj
    obtain ⟨_, h7⟩ := h5 hj'
    exact hn.inv.inj _ _ _ _ _ _ h6 h7 hne2 hp hp'
  · rcases hold hj with ⟨rfl, rfl⟩ | hj2
    · exact hn.mine _ _ _ hi hp
    · exact hn.mine _ _ _ hj2 hp
  · obtain ⟨u, hu, hru⟩ := hn.slot s v hv
    exact ⟨u, hu, hru.ext (Sig.le_refl _) hE fun j hj => hj.elim⟩
theorem step3_append {V : Env} {st : St} {o : Oper} {id i n k b k' b' : Nat} {t t2 : TypeId} {x y : Operand} {v : AV} {xs ys : List (List D)} {e : TypeId} {z : List D} {q : TypeId × Nat × Nat × List D}
    (ho : o.op = .call { callee := .builtin .append, args := ⟨[x, y]⟩, argTypes := ⟨[t, t2]⟩ }) (ht : sliceTy V.T t = some (e, k, b, z)) (ht2 : sliceTy V.T t2 = some q) (hx : ev st x = some (.one (.own i n))) (hl : look st.sto i = some (.row k' b' xs))
    (hkb : (Nat.beq k k' && Nat.beq b b') = true) (hy : ev st y = some v) (hs : srcOf st k v = some ys) (h1 : n + ys.length ≤ 1000000000) (h2 : (n + ys.length) * b ≤ 100000000000) :
    step3 V st o id = some ⟨.one (.own id (n + ys.length)), [(id, some (.row k b (xs.take n ++ ys))), (i, none)], [id]⟩ := by
  obtain ⟨q1, q2, q3, q4⟩ := q
  have e1 : Nat.ble (n + ys.length) 1000000000 = true := by simpa using h1
  have e2 : Nat.ble ((n + ys.length) * b) 100000000000 = true := by simpa using h2
  simp only [step3, stepE, valF, ho, otherE, appV, hx, hy, ht, ht2, hl, hs, hkb, e1, e2, cond_true, Bool.and_self, builtinF, List.map_cons, List.map_nil]
end Go.Abs
namespace Go.Proofs.YtpejdgkaapnekaaGreat
open Go Go.Abs
attribute [local irreducible] OkOps OkC DRun thenQ blockQ RetQ
set_option maxRecDepth 10000
theorem c129 (l : List Int) : CallA Tryz.prog 129 [.one (.d (encInts l))] [] (.one (.d (encInts l))) [] := by
  refine enter tabOk Tryz.func129 rfl (by decide +kernel) rfl fun hok w0 σ0 φ0 M => ?_
  have h1 := hok.1.sl; clear hok; simp only [List.length_map] at h1
  repeat' (first | (show OkOps _ _ _ _ _ _; first | (show OkOps _ _ _ (Oper.mk _ (Op.binOp .eql _ _ _ _) _ _ _ (_) :: _) _ _; first | refine okops_isNilS tabOk rfl rfl rfl rfl rfl rfl (fun r hr => ?_) | fail) | (show OkOps _ _ _ (Oper.mk _ (Op.call _) _ _ _ (_) :: _) _ _; first | refine okops_append tabOk rfl rfl rfl rfl rfl (id := 0) rfl rfl rfl rfl rfl rfl rfl (by simp only [List.length_map, Nat.zero_add]; omega) (by simp only [List.length_map, Nat.zero_add]; omega) ?_ | fail) | refine okops_nil ?_ | refine s_plain tabOk rfl rfl rfl rfl rfl ?_ | refine s_new envOk 0 rfl rfl rfl rfl rfl rfl ?_ | fail) | (show OkC _ _ _ _ _; first | refine okc_imp (imp_sealL (dl := [0]) rfl) (ok_ret ?_) | refine okc_imp (imp_nil (s := 2) (k := 1) (b := 8) rfl) (ok_ret ?_) | refine ok_seq ?_ | refine ok_region ?_ | refine ok_skip ?_ | refine ok_cond rfl (fun h => ?_) (fun h => ?_) | fail) | (show thenQ _ _ _ _; first | refine then_n ?_ | refine then_r ?_ | fail) | (show RetQ _ _ _ _ _ _; first | refine ret_leaf (.inl rfl) rfl rfl ?_ | fail) | fail)
  · have e := hr (by simpa using h)
    simp only [encInts, e]
  · simp only [sealC, encInts, List.length_map, Nat.zero_add, List.take_nil, List.nil_append]
    exact congrArg (fun x => AV.one (AC.d (D.sl _ _ x))) (List.take_of_length_le (by simp))
theorem c144 (l : List Val) : CallA Tryz.prog 144 [.one (.d (encVals l))] [] (.one (.d (encVals l))) [] := by
  refine enter tabOk Tryz.func144 rfl (by decide +kernel) rfl fun hok w0 σ0 φ0 M => ?_
  have h1 := hok.1.sl; clear hok; simp only [List.length_map] at h1
  repeat' (first | (show OkOps _ _ _ _ _ _; first | (show OkOps _ _ _ (Oper.mk _ (Op.binOp .eql _ _ _ _) _ _ _ (_) :: _) _ _; first | refine okops_isNilS tabOk rfl rfl rfl rfl rfl rfl (fun r hr => ?_) | fail) | (show OkOps _ _ _ (Oper.mk _ (Op.call _) _ _ _ (_) :: _) _ _; first | refine okops_append tabOk rfl rfl rfl rfl rfl (id := 0) rfl rfl rfl rfl rfl rfl rfl (by simp only [List.length_map, Nat.zero_add]; omega) (by simp only [List.length_map, Nat.zero_add]; omega) ?_ | fail) | refine okops_nil ?_ | refine s_plain tabOk rfl rfl rfl rfl rfl ?_ | refine s_new envOk 0 rfl rfl rfl rfl rfl rfl ?_ | fail) | (show OkC _ _ _ _ _; first | refine okc_imp (imp_sealL (dl := [0]) rfl) (ok_ret ?_) | refine okc_imp (imp_nil (s := 2) (k := 4) (b := 40) rfl) (ok_ret ?_) | refine ok_seq ?_ | refine ok_region ?_ | refine ok_skip ?_ | refine ok_cond rfl (fun h => ?_) (fun h => ?_) | fail) | (show thenQ _ _ _ _; first | refine then_n ?_ | refine then_r ?_ | fail) | (show RetQ _ _ _ _ _ _; first | refine ret_leaf (.inl rfl) rfl rfl ?_ | fail) | fail)
  · have e := hr (by simpa using h)
    simp only [encVals, e]
  · simp only [sealC, encVals, List.length_map, Nat.zero_add, List.take_nil, List.nil_append]
    exact congrArg (fun x => AV.one (AC.d (D.sl _ _ x))) (List.take_of_length_le (by simp))
theorem c97 (l : List Dim) : CallA Tryz.prog 97 [.one (.d (encDims l))] [] (.one (.d (encDims l))) [] := by
  refine enter tabOk Tryz.func97 rfl (by decide +kernel) rfl fun hok w0 σ0 φ0 M => ?_
  have h1 := hok.1.sl; clear hok; simp only [List.length_map] at h1
  repeat' (first | (show OkOps _ _ _ _ _ _; first | (show OkOps _ _ _ (Oper.mk _ (Op.binOp .eql _ _ _ _) _ _ _ (_) :: _) _ _; first | refine okops_isNilS tabOk rfl rfl rfl rfl rfl rfl (fun r hr => ?_) | fail) | (show OkOps _ _ _ (Oper.mk _ (Op.call _) _ _ _ (_) :: _) _ _; first | refine okops_append tabOk rfl rfl rfl rfl rfl (id := 0) rfl rfl rfl rfl rfl rfl rfl (by simp only [List.length_map, Nat.zero_add]; omega) (by simp only [List.length_map, Nat.zero_add]; omega) ?_ | fail) | refine okops_nil ?_ | refine s_plain tabOk rfl rfl rfl rfl rfl ?_ | refine s_new envOk 0 rfl rfl rfl rfl rfl rfl ?_ | fail) | (show OkC _ _ _ _ _; first | refine okc_imp (imp_sealL (dl := [0]) rfl) (ok_ret ?_) | refine okc_imp (imp_nil (s := 2) (k := 3) (b := 32) rfl) (ok_ret ?_) | refine ok_seq ?_ | refine ok_region ?_ | refine ok_skip ?_ | refine ok_cond rfl (fun h => ?_) (fun h => ?_) | fail) | (show thenQ _ _ _ _; first | refine then_n ?_ | refine then_r ?_ | fail) | (show RetQ _ _ _ _ _ _; first | refine ret_leaf (.inl rfl) rfl rfl ?_ | fail) | fail)
  · have e := hr (by simpa using h)
    simp only [encDims, e]
  · simp only [sealC, encDims, List.length_map, Nat.zero_add, List.take_nil, List.nil_append]
    exact congrArg (fun x => AV.one (AC.d (D.sl _ _ x))) (List.take_of_length_le (by simp))
theorem c145 (l : List Attr) : CallA Tryz.prog 145 [.one (.d (encAttrs l))] [] (.one (.d (encAttrs l))) [] := by
  refine enter tabOk Tryz.func145 rfl (by decide +kernel) rfl fun hok w0 σ0 φ0 M => ?_
  have h1 := hok.1.sl; clear hok; simp only [List.length_map] at h1
  repeat' (first | (show OkOps _ _ _ _ _ _; first | (show OkOps _ _ _ (Oper.mk _ (Op.binOp .eql _ _ _ _) _ _ _ (_) :: _) _ _; first | refine okops_isNilS tabOk rfl rfl rfl rfl rfl rfl (fun r hr => ?_) | fail) | (show OkOps _ _ _ (Oper.mk _ (Op.call _) _ _ _ (_) :: _) _ _; first | refine okops_append tabOk rfl rfl rfl rfl rfl (id := 0) rfl rfl rfl rfl rfl rfl rfl (by simp only [List.length_map, Nat.zero_add]; omega) (by simp only [List.length_map, Nat.zero_add]; omega) ?_ | fail) | refine okops_nil ?_ | refine s_plain tabOk rfl rfl rfl rfl rfl ?_ | refine s_new envOk 0 rfl rfl rfl rfl rfl rfl ?_ | fail) | (show OkC _ _ _ _ _; first | refine okc_imp (imp_sealL (dl := [0]) rfl) (ok_ret ?_) | refine okc_imp (imp_nil (s := 2) (k := 2) (b := 24) rfl) (ok_ret ?_) | refine ok_seq ?_ | refine ok_region ?_ | refine ok_skip ?_ | refine ok_cond rfl (fun h => ?_) (fun h => ?_) | fail) | (show thenQ _ _ _ _; first | refine then_n ?_ | refine then_r ?_ | fail) | (show RetQ _ _ _ _ _ _; first | refine ret_leaf (.inl rfl) rfl rfl ?_ | fail) | fail)
  · have e := hr (by simpa using h)
    simp only [encAttrs, e]
  · simp only [sealC, encAttrs, List.length_map, Nat.zero_add, List.take_nil, List.nil_append]
    exact congrArg (fun x => AV.one (AC.d (D.sl _ _ x))) (List.take_of_length_le (by simp))
theorem c128 (l : List Cell) : CallA Tryz.prog 128 [.one (.d (encCells l))] [] (.one (.d (encCells l))) [] := by
  refine enter tabOk Tryz.func128 rfl (by decide +kernel) rfl fun hok w0 σ0 φ0 M => ?_
  have h1 := hok.1.sl; clear hok; simp only [List.length_map] at h1
  repeat' (first | (show OkOps _ _ _ _ _ _; first | (show OkOps _ _ _ (Oper.mk _ (Op.binOp .eql _ _ _ _) _ _ _ (_) :: _) _ _; first | refine okops_isNilS tabOk rfl rfl rfl rfl rfl rfl (fun r hr => ?_) | fail) | (show OkOps _ _ _ (Oper.mk _ (Op.call _) _ _ _ (_) :: _) _ _; first | refine okops_append tabOk rfl rfl rfl rfl rfl (id := 0) rfl rfl rfl rfl rfl rfl rfl (by simp only [List.length_map, Nat.zero_add]; omega) (by simp only [List.length_map, Nat.zero_add]; omega) ?_ | fail) | refine okops_nil ?_ | refine s_plain tabOk rfl rfl rfl rfl rfl ?_ | refine s_new envOk 0 rfl rfl rfl rfl rfl rfl ?_ | fail) | (show OkC _ _ _ _ _; first | refine okc_imp (imp_sealL (dl := [0]) rfl) (ok_ret ?_) | refine okc_imp (imp_nil (s := 2) (k := 2) (b := 48) rfl) (ok_ret ?_) | refine ok_seq ?_ | refine ok_region ?_ | refine ok_skip ?_ | refine ok_cond rfl (fun h => ?_) (fun h => ?_) | fail) | (show thenQ _ _ _ _; first | refine then_n ?_ | refine then_r ?_ | fail) | (show RetQ _ _ _ _ _ _; first | refine ret_leaf (.inl rfl) rfl rfl ?_ | fail) | fail)
  · have e := hr (by simpa using h)
    simp only [encCells, e]
  · simp only [sealC, encCells, List.length_map, Nat.zero_add, List.take_nil, List.nil_append]
    exact congrArg (fun x => AV.one (AC.d (D.sl _ _ x))) (List.take_of_length_le (by simp))
end Go.Proofs.YtpejdgkaapnekaaGreat
namespace Go.Abs
open Go Go.Shelf Go.RowKit Go.Lib Go.Sort Go.Proofs
variable {P : Program} {σ : Sig} {φ : Pl} {w : World}
theorem all2_d {σ : Sig} {φ : Pl} {sto : Sto} : ∀ {ds : List D} {vs : List Value}, All2 (Rep σ) ds vs → All2 (RepC σ φ sto) (ds.map AC.d) vs
  | [], [], _ => trivial
  | _ :: _, _ :: _, h => ⟨.d h.1, all2_d h.2⟩
  | [], _ :: _, h => h.elim
  | _ :: _, [], h => h.elim
theorem all2_oneCell : ∀ {ds : List D} {vs : List Value}, All2 (Rep σ) ds vs → ∀ v ∈ vs, v.oneCell = true
  | [], [], _, v, hv => by simp at hv
  | _ :: _, _ :: _, h, v, hv => by
    rcases List.mem_cons.1 hv with rfl | hv
    · exact h.1.oneCell
    · exact all2_oneCell h.2 v hv
  | [], _ :: _, h, _, _ => h.elim
  | _ :: _, [], h, _, _ => h.elim
theorem kept_grow {M : Nat → Prop} {w w' : World} (h : Kept M w w') (hM : ∀ b, ¬ M b) : ∃ q os, w' = grow (w.drewN q) os := by
  refine ⟨w'.drawn - w.drawn, w'.heap.extract w.heap.size w'.heap.size, ?_⟩
  have hh : w'.heap = w.heap ++ w'.heap.extract w.heap.size w'.heap.size := by
    refine Array.ext_getElem? fun i => ?_
    by_cases hi : i < w.heap.size
    · rw [Array.getElem?_append_left hi]; exact h.block i hi (hM i)
    · rw [Array.getElem?_append_right (by omega), Array.getElem?_extract]
      have := h.size
      by_cases hi2 : i < w'.heap.size
      · rw [if_pos (by omega)]; congr 1; omega
      · rw [if_neg (by omega)]; exact Array.getElem?_eq_none (by omega)
  have h1 := h.os; have h2 := h.tape; have h3 := h.output; have h4 := h.drawn
  cases w; cases w'
  simp only [grow, World.drewN] at *
  subst h1 h2 h3
  congr 1
  omega
theorem heap_putRow_other {enc : Value → Value} {w : World} {B off b : Nat} {d : Array Value} (h : b ≠ B) : (putRow enc w B off d).heap[b]? = w.heap[b]? := by
  simp only [putRow, mapBlock, Array.getElem?_modify, if_neg (Ne.symm h)]
theorem heap_sort_other {α : Type} [Inhabited α] {enc : α → List Value} {k : Nat} {w : World} {B off m b : Nat} {d : Array α} {os : Array Obj} (hb : b < w.heap.size) (h : b ≠ B) :
    (sortWorldK enc k w B off m d os).heap[b]? = w.heap[b]? := by
  unfold sortWorldK grow putRowK
  show ((putRow id (Sort.ahead w m) B off (flatK enc k d)).heap ++ os)[b]? = _
  rw [Array.getElem?_append_left (by rw [Go.Sort.size_putRow]; exact hb), heap_putRow_other h]
  rfl
theorem heap_sort_row {α : Type} [Inhabited α] {enc : α → List Value} {k : Nat} {w : World} {B off m : Nat} {d : Array α} {os : Array Obj} {arr : Array Value} {t : TypeId} {fr : Nat × Nat} (h : w.heap[B]? = some (.cells arr t fr)) :
    (sortWorldK enc k w B off m d os).heap[B]? = some (.cells (putCells id off (flatK enc k d) arr) t fr) := by
  unfold sortWorldK grow putRowK
  show ((putRow id (Sort.ahead w m) B off (flatK enc k d)).heap ++ os)[B]? = _
  have hB := (Array.getElem?_eq_some_iff.1 h).1
  rw [Array.getElem?_append_left (by rw [Go.Sort.size_putRow]; exact hB)]
  simp only [putRow, mapBlock, Array.getElem?_modify, if_true]
  show (w.heap[B]?).map _ = _
  rw [h]; rfl
theorem size_sort {α : Type} [Inhabited α] {enc : α → List Value} {k : Nat} {w : World} {B off m : Nat} {d : Array α} {os : Array Obj} :
    w.heap.size ≤ (sortWorldK enc k w B off m d os).heap.size := by
  unfold sortWorldK grow putRowK
  show w.heap.size ≤ ((putRow id (Sort.ahead w m) B off (flatK enc k d)).heap ++ os).size
  rw [Array.size_append, Go.Sort.size_putRow]
  exact Nat.le_add_right _ _
section
variable {C : Type}
abbrev El (σ : Sig) (k : Nat) (encC : C → List D) := { p : C × List Value // p.2.length = k ∧ All2 (Rep σ) (encC p.1) p.2 }
set_option maxHeartbeats 1000000 in
theorem callA_sort {ρ : Ren} (L : SlLaysF0.n6 P ρ) (k b : Nat) (hk0 : 0 < k) (aE : ∀ w, (isAgg (ρ.t 24)).run P w = .ok true w) (zE : ∀ w, (Go.sizeOf (ρ.t 24)).run P w = .ok k w)
    (encC : C → List D) (hk : ∀ x, (encC x).length = k) (cf : C → C → Int) (h1 : ∀ x, ¬ cf x x < 0) (h2 : ∀ x y z, cf x y < 0 → cf y z < 0 → cf x z < 0) (h3 : ∀ x y z, ¬ cf x y < 0 → ¬ cf y z < 0 → ¬ cf x z < 0)
    (g : Nat) (hg : ∀ x y, CallA P g [.agg ((encC x).map .d), .agg ((encC y).map .d)] [] (.one (.d (.int .i64 (cf x y)))) [])
    (eg : ∀ args w, (callFunc g args).run P w = .ok (.enter g args) w)
    (hfn : ∃ fn, P.funcs[ρ.f 6]? = some fn ∧ (fn.name == "runtime.NumGoroutine") = false ∧ fn.body.isSome = true)
    (id : Nat) (cs ss : List C) (hu : ∀ l : List C, l.Perm cs → l.Pairwise (fun x y => ¬ cf y x < 0) → l = ss) :
    CallA P (ρ.f 6) [.one (.own id cs.length), .one (.d (.fn g []))] [(id, .row k b (cs.map encC))] (.tup []) [(id, .row k b (ss.map encC))] := by
  refine ⟨hfn, fun w σ φ vs hI hA => ?_⟩
  match vs, hA with
  | [v0, v1], hA =>
  obtain ⟨hv0, hv1, _⟩ := hA
  have ev1 : v1 = .func (.func g) #[] #[] := by
    have hv1 : RepC σ φ _ (.d (.fn g [])) v1 := hv1
    cases hv1.d_inv with
    | fn ws hl _ =>
      have : ws = [] := List.eq_nil_of_length_eq_zero (by simpa using hl)
      subst this; rfl
  subst ev1
  have hlook : look [(id, AObj.row k b (cs.map encC))] id = some (.row k b (cs.map encC)) := by simp [look]
  have hobj := hI.obj id _ hlook
  by_cases hn : cs = []
  · subst hn
    have hss : ss = [] := (hu [] (List.Perm.refl _) .nil).symm
    subst hss
    have ev0 : ∃ p c, v0 = .slice p 0 c := by
      have hv0 : RepC σ φ _ (.own id 0) v0 := hv0
      cases hv0 with
      | ownNil => exact ⟨_, _, rfl⟩
      | own => exact ⟨_, _, rfl⟩
      | dead hx => simp [acIn, hasK, look] at hx
    obtain ⟨p, c, rfl⟩ := ev0
    refine (AnyF.slices_SortFunc_none L p c _ w).mono ?_
    rintro e w' ⟨rfl, rfl⟩
    exact ⟨_, σ, φ, rfl, Sig.le_refl _, fun b hb => .inl hb, hI, ⟨[], rfl, trivial⟩, fun i e p h1 h2 => .inr ⟨i, e, p, h1, h2, rfl⟩, fun _ _ => rfl, ⟨rfl, rfl, rfl, Nat.le_refl _, Nat.le_refl _, fun _ _ _ => rfl⟩⟩
  · have hn0 : 0 < cs.length := List.length_pos_iff.2 hn
    have hv0 : RepC σ φ _ (.own id cs.length) v0 := hv0
    obtain ⟨B, cap0, rfl, hφ⟩ : ∃ B cap, v0 = .slice (some ⟨B, 0, none⟩) cs.length cap ∧ φ id = some (B, cap) := by
      revert hv0; generalize cs.length = m at hn0 ⊢; intro hv0
      cases hv0 with
      | ownNil => omega
      | own _ _ hp => exact ⟨_, _, rfl, hp⟩
      | dead hx => simp [acIn, hasK, look] at hx
    rcases hobj with ⟨he, _⟩ | ⟨B', cap, arr, t, vf, hφ', hheap, hsz, hle, h48, hb47, hlen, hcell, hrep, hσ⟩
    · simp at he; exact absurd he hn
    rw [hφ] at hφ'; cases hφ'
    simp only [List.length_map] at hle h48 hb47 hcell
    have hB : B < w.heap.size := (Array.getElem?_eq_some_iff.1 hheap).1
    have hel : ∀ i (hi : i < cs.length), ((List.range k).map (vf i)).length = k ∧ All2 (Rep σ) (encC cs[i]) ((List.range k).map (vf i)) := by
      intro i hi
      refine ⟨by simp, All2.of_get (by simp [hk]) fun j x v hx hv => ?_⟩
      have hj : j < k := by have := (List.getElem?_eq_some_iff.1 hx).1; rwa [hk] at this
      have hv' : v = vf i j := by
        rw [List.getElem?_map, List.getElem?_range hj] at hv; simpa using hv.symm
      subst hv'
      exact hrep i j _ _ (by rw [List.getElem?_map, List.getElem?_eq_getElem hi]; rfl) hx
    let mk : (i : Nat) → i < cs.length → El σ k encC := fun i hi => ⟨(cs[i], (List.range k).map (vf i)), hel i hi⟩
    haveI : Inhabited (El σ k encC) := ⟨mk 0 hn0⟩
    let d : Array (El σ k encC) := Array.ofFn (n := cs.length) fun i => mk i.1 i.2
    have hds : d.size = cs.length := by simp [d]
    have hdg : ∀ i (hi : i < cs.length), d[i]! = mk i hi := by
      intro i hi; rw [getElem!_pos d i (by omega)]; simp [d]
    have hdl : d.toList.map (fun x => x.1.1) = cs := by
      refine List.ext_getElem (by simp [hds]) fun i h4 h5 => ?_
      simp [d, mk]
    let enc : El σ k encC → List Value := fun x => x.1.2
    let cf' : El σ k encC → El σ k encC → Int := fun x y => cf x.1.1 y.1.1
    have hO : SWO (ltOf cf') :=
      ⟨fun x => by simpa [ltOf, cf'] using h1 x.1.1, fun x y z => by simpa [ltOf, cf'] using h2 x.1.1 y.1.1 z.1.1, fun x y z => by simpa [ltOf, cf'] using h3 x.1.1 y.1.1 z.1.1⟩
    have hHK : HoldsK enc k w B 0 d := by
      intro j hj
      rw [size_flatK, hds] at hj
      have hj1 : j / k < cs.length := Nat.div_lt_of_lt_mul (by rwa [Nat.mul_comm] at hj)
      have hj2 : j % k < k := Nat.mod_lt _ hk0
      have hc := hcell (j / k) (j % k) hj1 hj2
      rw [Nat.div_add_mod' j k] at hc
      rw [get_flatK enc k d j (by rw [hds]; exact hj), hdg _ hj1]
      have e : (enc (mk (j / k) hj1))[j % k]! = vf (j / k) (j % k) := by
        rw [getElem!_pos _ _ (by simp [enc, mk]; exact hj2)]; simp [enc, mk]
      rw [e]
      refine ⟨?_, ?_⟩
      · simp only [World.cell?, hheap, Nat.zero_add]
        simpa using hc
      · simp [World.frozen?, hheap]
    have hsig : ∀ (m : Nat) (os : Array Obj) (dk : Array (El σ k encC)), HInv σ φ [] (sortWorldK enc k w B 0 m dk os) := by
      intro m os dk
      refine ⟨fun b cs' hb => ?_, fun i e h => by simp [look] at h, fun i i' e e' p p' h => by simp [look] at h⟩
      obtain ⟨t', f', hh⟩ := hI.sig b cs' hb
      refine ⟨t', f', ?_⟩
      rw [heap_sort_other (Array.getElem?_eq_some_iff.1 hh).1 (by rintro rfl; rw [hσ] at hb; cases hb)]
      exact hh
    have hcmp : CmpLays P g #[] enc k cf' B 0 d.size w := by
      intro m os dk _ x y
      have hr := (hg x.1.1 y.1.1).run (sortWorldK enc k w B 0 m dk os) σ φ [.agg (enc x).toArray, .agg (enc y).toArray] (hsig m os dk) ⟨⟨_, rfl, all2_d x.2.2⟩, ⟨_, rfl, all2_d y.2.2⟩, trivial⟩
      refine Calls.mono hr ?_
      rintro e w' ⟨v, σ', φ', rfl, hret⟩
      obtain ⟨q, os', hq⟩ := kept_grow hret.kept (fun b hb => by obtain ⟨i, e, p, h, _⟩ := hb; simp [look] at h)
      have hv : v = .int .i64 (cf x.1.1 y.1.1) := by
        have h : RepC σ' φ' [] (.d (.int .i64 (cf x.1.1 y.1.1))) v := hret.rep
        cases h.d_inv; rfl
      exact ⟨by rw [hv], q, os', hq⟩
    have hS := AnyQ.slices_SortFunc L k aE zE enc (fun x => x.2.1) (fun x v hv => oneCell_of (all2_oneCell x.2.2 v hv)) cf' hO g #[] B 0 cap0 d w eg hcmp hHK hB (by omega)
    rw [hds] at hS
    refine Calls.mono hS ?_
    rintro e w' ⟨rfl, d', n', os, hperm, hsorted, rfl⟩
    have hd's : d'.size = cs.length := hperm.1.trans hds
    have hpl : d'.toList.Perm d.toList := by
      have h := hperm.2.2
      have e1 : d'.extract 0 cs.length = d' := by rw [← hd's]; simp
      have e2 : d.extract 0 cs.length = d := by rw [← hds]; simp
      rwa [e1, e2] at h
    have hl : d'.toList.map (fun x => x.1.1) = ss := by
      refine hu _ (hdl ▸ hpl.map _) ?_
      rw [List.pairwise_map, List.pairwise_iff_getElem]
      intro i j hi hj hij
      have h := hsorted i j (Nat.zero_le _) hij (by simpa [hd's] using hj)
      simp only [Array.length_toList] at hi hj
      rw [getElem!_pos d' i hi, getElem!_pos d' j hj] at h
      simpa [ltOf, cf'] using h
    have hssl : ss.length = cs.length := by rw [← hl]; simp [hd's]
    have hget : ∀ i (hi : i < cs.length) (x : C), ss[i]? = some x → d'[i]!.1.1 = x := by
      intro i hi x hx
      rw [← hl, List.getElem?_map, Array.getElem?_toList, Array.getElem?_eq_getElem (by omega)] at hx
      rw [getElem!_pos d' i (by omega)]
      simpa using hx
    have hmine : MOf φ [(id, AObj.row k b (cs.map encC))] B := ⟨id, _, _, hlook, hφ, rfl⟩
    refine ⟨_, σ, φ, rfl, Sig.le_refl _, fun b hb => .inl hb, ⟨fun b cs' hb => ?_, fun i e hi => ?_, fun i i' e e' p p' hi hi' hne => ?_⟩, ⟨[], rfl, trivial⟩, fun i e p hi hp => .inr ?_, fun _ _ => rfl, ⟨rfl, rfl, rfl, size_sort, Nat.le_add_right _ _, fun b hb hM => heap_sort_other hb (by rintro rfl; exact hM hmine)⟩⟩
    · obtain ⟨t', f', hh⟩ := hI.sig b cs' hb
      refine ⟨t', f', ?_⟩
      rw [heap_sort_other (Array.getElem?_eq_some_iff.1 hh).1 (by rintro rfl; rw [hσ] at hb; cases hb)]
      exact hh
    · rcases look_cons hi with ⟨rfl, rfl⟩ | ⟨_, hi⟩
      · refine .inr ⟨B, cap0, putCells _root_.id 0 (flatK enc k d') arr, t, fun i j => (enc d'[i]!)[j]!, hφ, heap_sort_row hheap, by simp [putCells, hsz], by simpa [hssl] using hle, by simpa [hssl] using h48, by simpa [hssl] using hb47, fun x hx => ?_, fun i j hi hj => ?_, fun i j x dd hx hdd => ?_, hσ⟩
        · obtain ⟨c, _, rfl⟩ := List.mem_map.1 hx; exact hk c
        · simp only [List.length_map, hssl] at hi
          have hlt : i * k + j < cs.length * k := by
            have := Nat.mul_le_mul_right k (show i + 1 ≤ cs.length from hi); rw [Nat.add_mul, Nat.one_mul] at this; omega
          have hc := hcell i j hi hj
          simp only [putCells, Array.getElem?_mapIdx, hc, Option.map_some, size_flatK, hd's, Nat.zero_le, true_and, Nat.zero_add, hlt, if_true, Nat.sub_zero]
          rw [get_flatK enc k d' _ (by rw [hd's]; exact hlt)]
          have e1 : (i * k + j) / k = i := (blk_iff k i _ hk0).1 ⟨by omega, by omega⟩
          have e2 : (i * k + j) % k = j := by rw [Nat.mod_eq_sub_div_mul, e1]; omega
          rw [e1, e2]; rfl
        · rw [List.getElem?_map] at hx
          cases hs : ss[i]? with
          | none => rw [hs] at hx; simp at hx
          | some c =>
            rw [hs] at hx; simp at hx; subst hx
            have hi : i < cs.length := by rw [← hssl]; exact (List.getElem?_eq_some_iff.1 hs).1
            have e1 := hget i hi c hs
            have ha := (d'[i]!).2.2
            rw [e1] at ha
            obtain ⟨v, hv, hr⟩ := ha.get hdd
            have : (enc d'[i]!)[j]! = v := by
              have hv2 := (List.getElem?_eq_some_iff.1 hv)
              exact (getElem!_pos (enc d'[i]!) j hv2.1).trans hv2.2
            show Rep σ dd ((enc d'[i]!)[j]!)
            rw [this]; exact hr
      · simp [look] at hi
    · rcases look_cons hi with ⟨rfl, _⟩ | ⟨_, hi⟩
      · rcases look_cons hi' with ⟨rfl, _⟩ | ⟨_, hi'⟩
        · exact absurd rfl hne
        · simp [look] at hi'
      · simp [look] at hi
    · rcases look_cons hi with ⟨rfl, _⟩ | ⟨_, hi⟩
      · rw [hφ] at hp; cases hp; exact hmine
      · simp [look] at hi
end
end Go.Abs
namespace Go.Proofs.YtpejdgkaapnekaaGreat
open Go Go.Proofs Go.Shelf
def sortC_ren : Go.Shelf.Ren := ⟨fun | 6 => 181 | 15 => 219 | 14 => 231 | 28 => 261 | 29 => 262 | 20 => 271 | 21 => 272 | 22 => 273 | 23 => 274 | 24 => 275 | 25 => 276 | 26 => 277 | 27 => 278 | 46 => 338 | 47 => 295 | 48 => 296 | 49 => 339 | 50 => 340 | 57 => 368 | n => n, fun | 22 => 24 | 24 => 56 | 25 => 172 | 3 => 3 | 39 => 192 | 0 => 0 | 53 => 251 | 55 => 253 | 4 => 4 | 46 => 244 | 45 => 243 | 50 => 119 | 5 => 5 | 9 => 9 | 66 => 278 | 70 => 282 | 76 => 302 | 77 => 303 | n => n, fun | n => n⟩
theorem sortC : Go.Proofs.SlLaysF0.n6 Tryz.prog sortC_ren := {
  mixed := by kernel_rfl
  f6 := ⟨Tryz.f181.name, by decide, Tryz.func181.trans (congrArg some (by kernel_rfl))⟩
  f14 := ⟨Tryz.f231.name, by decide, Tryz.func231.trans (congrArg some (by kernel_rfl))⟩
  f15 := Tryz.func219.trans (congrArg some (by kernel_rfl))
  f20 := ⟨Tryz.f271.name, by decide, Tryz.func271.trans (congrArg some (by kernel_rfl))⟩
  f21 := ⟨Tryz.f272.name, by decide, Tryz.func272.trans (congrArg some (by kernel_rfl))⟩
  f22 := ⟨Tryz.f273.name, by decide, Tryz.func273.trans (congrArg some (by kernel_rfl))⟩
  f23 := ⟨Tryz.f274.name, by decide, Tryz.func274.trans (congrArg some (by kernel_rfl))⟩
  f24 := ⟨Tryz.f275.name, by decide, Tryz.func275.trans (congrArg some (by kernel_rfl))⟩
  f25 := ⟨Tryz.f276.name, by decide, Tryz.func276.trans (congrArg some (by kernel_rfl))⟩
  f26 := ⟨Tryz.f277.name, by decide, Tryz.func277.trans (congrArg some (by kernel_rfl))⟩
  f27 := ⟨Tryz.f278.name, by decide, Tryz.func278.trans (congrArg some (by kernel_rfl))⟩
  f28 := Tryz.func261.trans (congrArg some (by kernel_rfl))
  f29 := Tryz.func262.trans (congrArg some (by kernel_rfl))
  f46 := ⟨Tryz.f338.name, by decide, Tryz.func338.trans (congrArg some (by kernel_rfl))⟩
  f47 := Tryz.func295.trans (congrArg some (by kernel_rfl))
  f48 := Tryz.func296.trans (congrArg some (by kernel_rfl))
  f49 := ⟨Tryz.f339.name, by decide, Tryz.func339.trans (congrArg some (by kernel_rfl))⟩
  f50 := ⟨Tryz.f340.name, by decide, Tryz.func340.trans (congrArg some (by kernel_rfl))⟩
  f57 := ⟨Tryz.f368.name, by decide, Tryz.func368.trans (congrArg some (by kernel_rfl))⟩
  t0 := Tryz.underlying0
  a0 := Tryz.isAgg0
  z0 := Tryz.sizeOf0
  v0 := Tryz.zeroValue0
  t3 := Tryz.underlying3
  a3 := Tryz.isAgg3
  z3 := Tryz.sizeOf3
  v3 := Tryz.zeroValue3
  t4 := Tryz.underlying4
  a4 := Tryz.isAgg4
  z4 := Tryz.sizeOf4
  v4 := Tryz.zeroValue4
  t5 := Tryz.underlying5
  a5 := Tryz.isAgg5
  z5 := Tryz.sizeOf5
  v5 := Tryz.zeroValue5
  t9 := Tryz.underlying9
  a9 := Tryz.isAgg9
  z9 := Tryz.sizeOf9
  v9 := Tryz.zeroValue9
  t22 := Tryz.underlying24
  a22 := Tryz.isAgg24
  z22 := Tryz.sizeOf24
  v22 := Tryz.zeroValue24
  t25 := Tryz.underlying172
  a25 := Tryz.isAgg172
  z25 := Tryz.sizeOf172
  v25 := Tryz.zeroValue172
  t39 := Tryz.underlying192
  a39 := Tryz.isAgg192
  z39 := Tryz.sizeOf192
  v39 := Tryz.zeroValue192
  t45 := Tryz.underlying243
  a45 := Tryz.isAgg243
  z45 := Tryz.sizeOf243
  v45 := Tryz.zeroValue243
  t46 := Tryz.underlying244
  a46 := Tryz.isAgg244
  z46 := Tryz.sizeOf244
  v46 := Tryz.zeroValue244
  t50 := Tryz.underlying119
  a50 := Tryz.isAgg119
  z50 := Tryz.sizeOf119
  v50 := Tryz.zeroValue119
  t53 := Tryz.underlying251
  a53 := Tryz.isAgg251
  z53 := Tryz.sizeOf251
  v53 := Tryz.zeroValue251
  t55 := Tryz.underlying253
  a55 := Tryz.isAgg253
  z55 := Tryz.sizeOf253
  v55 := Tryz.zeroValue253
  t66 := Tryz.underlying278
  a66 := Tryz.isAgg278
  z66 := Tryz.sizeOf278
  v66 := Tryz.zeroValue278
  t70 := Tryz.underlying282
  a70 := Tryz.isAgg282
  z70 := Tryz.sizeOf282
  v70 := Tryz.zeroValue282
  t76 := Tryz.underlying302
  a76 := Tryz.isAgg302
  z76 := Tryz.sizeOf302
  v76 := Tryz.zeroValue302
  t77 := Tryz.underlying303
  a77 := Tryz.isAgg303
  z77 := Tryz.sizeOf303
  v77 := Tryz.zeroValue303 }
end Go.Proofs.YtpejdgkaapnekaaGreat
namespace Go.Proofs.YtpejdgkaapnekaaGreat
open Go Go.Abs
attribute [local irreducible] OkOps OkC DRun thenQ blockQ RetQ
set_option maxRecDepth 10000
def cellC (x : Cell) : AV := .agg ((encCell x).map .d)
theorem c182 (x y : Cell) : CallA Tryz.prog 182 [cellC x, cellC y] [] (.one (.d (.int .i64 (cmpF x.at' y.at')))) [] := by
  unfold cellC encCell
  simp only [List.map_cons, List.map_nil]
  refine enter tabOk Tryz.func182 rfl (by decide +kernel) rfl fun hok w0 σ0 φ0 M => ?_
  clear hok
  repeat' (first | (show OkOps _ _ _ _ _ _; first | refine okops_nil ?_ | refine s_plain tabOk rfl rfl rfl rfl rfl ?_ | (show OkOps _ _ _ (Oper.mk _ (Op.call _) _ _ _ (_) :: _) _ _; first | refine s_callF rfl rfl rfl rfl rfl rfl rfl rfl (c35 _ _) rfl ?_ | fail) | (show OkOps _ _ _ (Oper.mk _ (Op.box _ _) _ _ _ (_) :: _) _ _; first | refine s_box 0 rfl rfl rfl rfl rfl rfl ?_ | refine s_box 1 rfl rfl rfl rfl rfl rfl ?_ | fail) | fail) | (show OkC _ _ _ _ _; first | refine ok_seq ?_ | refine ok_region ?_ | refine ok_ret ?_ | fail) | (show thenQ _ _ _ _; first | refine then_n ?_ | fail) | (show RetQ _ _ _ _ _ _; first | refine ret_leaf (.inl rfl) rfl rfl ?_ | fail) | fail)
  all_goals (try (((simp_all [at_drop, List.drop_eq_nil_of_le]) <;> first | omega | (rw [Bool.eq_iff_iff]; simp; omega) | grind); done))
theorem c181 (id : Nat) (cs ss : List Cell) (hu : ∀ l : List Cell, l.Perm cs → l.Pairwise (fun x y => ¬ cmpF y.at' x.at' < 0) → l = ss) :
    CallA Tryz.prog 181 [.one (.own id cs.length), .one (.d (.fn 182 []))] [(id, .row 2 48 (cs.map encCell))] (.tup []) [(id, .row 2 48 (ss.map encCell))] := by
  refine callA_sort sortC 2 48 (by omega) Tryz.isAgg56 Tryz.sizeOf56 encCell (fun _ => rfl) (fun x y => cmpF x.at' y.at') (fun x => by rw [cmpF_refl]; omega) (fun x y z h1 h2 => ?_) (fun x y z h1 h2 => ?_) 182 c182
    (enters_of Tryz.func182 (by kernel_rfl) rfl) ⟨Tryz.f181, Tryz.func181, by kernel_rfl, by kernel_rfl⟩ id cs ss hu
  · have := cmpF_le_trans x.at' y.at' z.at' (by omega) (by omega)
    omega
  · have h3 := cmpF_swap x.at' y.at'
    have h4 := cmpF_swap y.at' z.at'
    have h5 := cmpF_swap x.at' z.at'
    have := cmpF_le_trans z.at' y.at' x.at' (by omega) (by omega)
    omega
end Go.Proofs.YtpejdgkaapnekaaGreat
namespace Go.Abs
open Go
variable {P : Program} {c : Ctx} {fr : List (Nat × AV)} {sto : Sto}
def nmA (b : Bool × Bool) : Nat := bif b.1 then 11 else 10
def nmB (b : Bool × Bool) : Nat := bif b.2 then 13 else 12
def qN (i : Nat) : Nat := bif Nat.beq i 11 then 10 else bif Nat.beq i 13 then 12 else i
theorem subL_app {α : Type} {f a b : List (Nat × α)} (h1 : SubL f a) (h2 : SubL f b) : SubL f (a ++ b) := by
  induction a with
  | nil => exact h2
  | cons p r ih => exact ⟨h1.1, ih h1.2⟩
theorem imp_sub {f f' : List (Nat × AV)} {s s' : Sto} (hf : SubL f f') (hs : SubL s s') : Imp c ⟨f, s⟩ ⟨f', s'⟩ := Imp.trans (imp_subL hf) (imp_subS hs)
theorem s_loopN {α : Type} {body : Code} {Q : Exit → St → Prop} (rg : Nat) (hrg : firstReg body = rg) {fr1 : List (Nat × AV)} {sto1 : Sto} (ha : Imp c ⟨fr, sto⟩ ⟨fr1, sto1⟩) (kept : List (Nat × AV)) (hk : SubL fr1 kept) (L : Bool × Bool → α → List (Nat × AV)) (S : Bool × Bool → α → Sto) (Inv : α → Prop) (μ : α → Nat) (x0 : α)
    (hL : SubL fr1 (L (false, false) x0)) (hS : SubL sto1 (S (false, false) x0)) (hq : ∀ b y, Imp c ⟨L b y ++ kept, S b y⟩ ⟨L (false, false) y ++ kept, S (false, false) y⟩) (h0 : Inv x0)
    (hround : ∀ x, Inv x → OkC P c body ⟨L (false, false) x ++ kept, S (false, false) x⟩ (thenQ (fun st' => ∃ y b, Inv y ∧ μ y < μ x ∧ SubL st'.sto (S b y) ∧ SubL st'.fr (L b y) ∧ SubL st'.fr kept) Q)) : OkC P c (.loop body) ⟨fr, sto⟩ Q := by
  refine okc_imp (st' := ⟨L (false, false) x0 ++ kept, S (false, false) x0⟩) (Imp.trans ha (imp_sub (subL_app hL hk) hS)) ?_
  refine ok_loop (fun n st => ∃ x, Inv x ∧ n = μ x ∧ st = ⟨L (false, false) x ++ kept, S (false, false) x⟩) (μ x0) ⟨x0, h0, rfl, rfl⟩ ?_
  rintro n st ⟨x, hx, rfl, rfl⟩
  refine ok_mono (hround x hx) fun e st h => ?_
  cases e with
  | normal =>
    obtain ⟨y, b, hy, hlt, hs, h1, h2⟩ := h
    obtain ⟨f, s⟩ := st
    simp only at hs h1 h2
    exact ⟨μ y, _, hlt, ⟨y, hy, rfl, rfl⟩, Imp.trans (imp_sub (subL_app h1 h2) hs) (hq b y)⟩
  | _ => exact h
section
variable {w0 : World} {σ0 : Sig} {φ0 : Pl} {M : Nat → Prop} {n : Nat} {rd : Option Nat} {mk : List Deferred} {ops : Array Oper} {o : Oper} {rest : List Oper} {K : St → Prop} {st0 : St} {acc : List Tr}
theorem s_callG (k : Nat) (dl : List Nat) {ss : St} {d : Nat} {fop : Operand} {args : Array Operand} {ats : Array TypeId} {f : FuncId} {caps : List D} {avs avs' : List AV} {rav rav' : AV}
    (ho : o.op = .call { callee := .value fop, args := args, argTypes := ats }) (hg : o.guard = none) (hdst : o.dst = some d) (hd : Nat.blt d n = true) (hss : sealL ⟨fr, sto⟩ dl = some ss) (hf : ev ss fop = some (.one (.d (.fn f caps))))
    (ha : evL ss args.toList = some avs) (hD : avsD avs = true) (hap : (avs ++ caps.map fun x => .one (.d x)) = avs') (hC : CallA P f avs' [] rav [])
    (hk : (keysOk [] [] && Nat.ble (k + 16) 1000000 && avIn [] rav && stoIn [] []) = true) (hfresh : freshRB k ⟨fr, delN dl sto⟩ = true) (hr : renV (rn k []) rav = rav')
    (h : OkOps P ⟨w0, σ0, φ0, M, n, rd, mk⟩ ops rest ⟨(d, rav') :: fr, delN dl sto⟩ K) : OkOps P ⟨w0, σ0, φ0, M, n, rd, mk⟩ ops (o :: rest) ⟨fr, sto⟩ K := by
  subst hap; subst hr
  exact okops_callX k dl ho hg (by rw [hdst]; exact hd) hss hf ha hD hC hk (freshRB_ok hfresh) (by rw [hdst]; exact h)
theorem d_callG (k : Nat) (dl : List Nat) {os : List (Nat × AObj)} {d : Nat} {fop : Operand} {args : Array Operand} {ats : Array TypeId} {f : FuncId} {caps : List D} {avs avs' : List AV} {rav rav' : AV}
    (ho : o.op = .call { callee := .value fop, args := args, argTypes := ats }) (hg : o.guard = none) (hdst : o.dst = some d) (hd : Nat.blt d c.n = true) (hos : objsL sto dl = some os) (hf : evS os ⟨fr, sto⟩ fop = some (.one (.d (.fn f caps))))
    (ha : evLS os ⟨fr, sto⟩ args.toList = some avs) (hD : avsD avs = true) (hap : (avs ++ caps.map fun x => .one (.d x)) = avs') (hC : CallA P f avs' [] rav [])
    (hk : (keysOk [] [] && Nat.ble (k + 16) 1000000 && avIn [] rav && stoIn [] []) = true) (hr : renV (rn k []) rav = rav')
    (h : DRun P c ops st0 rest ⟨(d, rav') :: fr, appW (delW dl) sto⟩ (callTr k dl dl rav [] :: acc) K) : DRun P c ops st0 (o :: rest) ⟨fr, sto⟩ acc K := by
  subst hap; subst hr
  refine d_run hg (loc_callX k dl ho (by rw [hdst]; exact hd) hos hf ha hD hC hk) ?_
  rw [hdst]; exact h
end
theorem step3_appendB {V : Env} {st : St} {o : Oper} {id i n k b k' b' : Nat} {t t2 : TypeId} {x y : Operand} {v : AV} {xs ys : List (List D)} {e : TypeId} {z : List D} {q : TypeId × Nat × Nat × List D}
    (ho : o.op = .call { callee := .builtin .append, args := ⟨[x, y]⟩, argTypes := ⟨[t, t2]⟩ }) (ht : sliceTy V.T t = some (e, k, b, z)) (ht2 : sliceTy V.T t2 = some q) (hx : ev st x = some (.one (.own i n))) (hl : look st.sto i = some (.row k' b' xs))
    (hkb : (Nat.beq k k' && Nat.beq b b') = true) (hy : ev st y = some v) (hs : srcOf st k v = some ys) (hn : n ≤ 100000000) (hys : ys.length ≤ 10000000) (hb : b ≤ 100) :
    step3 V st o id = some ⟨.one (.own id (n + ys.length)), [(id, some (.row k b (xs.take n ++ ys))), (i, none)], [id]⟩ :=
  step3_append ho ht ht2 hx hl hkb hy hs (by omega) (Nat.le_trans (Nat.mul_le_mul (show n + ys.length ≤ 110000000 by omega) hb) (by omega))
end Go.Abs
namespace Go.Proofs.YtpejdgkaapnekaaGreat
open Go Go.Abs
attribute [local irreducible] OkOps OkC DRun thenQ blockQ RetQ
set_option maxRecDepth 10000
theorem c139 (nm : List UInt8) (lo hi : Int) : CallA Tryz.prog 139 [.agg [.d (.str nm), .d (.int .i64 lo), .d (.int .i64 hi)]] [] (.one (.d (.str nm))) [] := by
  refine enter tabOk Tryz.func139 rfl (by decide +kernel) rfl fun hok w0 σ0 φ0 M => ?_
  repeat' (first | (show OkOps _ _ _ _ _ _; first | refine okops_nil ?_ | refine s_plain tabOk rfl rfl rfl rfl rfl ?_ | (show OkOps _ _ _ (Oper.mk _ (Op.box _ _) _ _ _ (_) :: _) _ _; first | refine s_box 0 rfl rfl rfl rfl rfl rfl ?_ | fail) | fail) | (show OkC _ _ _ _ _; first | refine ok_seq ?_ | refine ok_region ?_ | refine ok_ret ?_ | fail) | (show thenQ _ _ _ _; first | refine then_n ?_ | fail) | (show RetQ _ _ _ _ _ _; first | refine ret_leaf (.inl rfl) rfl rfl ?_ | fail) | fail)
  all_goals (try (((simp_all [at_drop, List.drop_eq_nil_of_le]) <;> first | omega | (rw [Bool.eq_iff_iff]; simp; omega) | grind); done))
theorem c151 (nm : List UInt8) (t : Int) : CallA Tryz.prog 151 [.agg [.d (.str nm), .d (.int .i64 t)]] [] (.one (.d (.str nm))) [] := by
  refine enter tabOk Tryz.func151 rfl (by decide +kernel) rfl fun hok w0 σ0 φ0 M => ?_
  repeat' (first | (show OkOps _ _ _ _ _ _; first | refine okops_nil ?_ | refine s_plain tabOk rfl rfl rfl rfl rfl ?_ | (show OkOps _ _ _ (Oper.mk _ (Op.box _ _) _ _ _ (_) :: _) _ _; first | refine s_box 0 rfl rfl rfl rfl rfl rfl ?_ | fail) | fail) | (show OkC _ _ _ _ _; first | refine ok_seq ?_ | refine ok_region ?_ | refine ok_ret ?_ | fail) | (show thenQ _ _ _ _; first | refine then_n ?_ | fail) | (show RetQ _ _ _ _ _ _; first | refine ret_leaf (.inl rfl) rfl rfl ?_ | fail) | fail)
  all_goals (try (((simp_all [at_drop, List.drop_eq_nil_of_le]) <;> first | omega | (rw [Bool.eq_iff_iff]; simp; omega) | grind); done))
theorem c245 (nm name : List UInt8) (lo hi : Int) : CallA Tryz.prog 245 [.agg [.d (.str nm), .d (.int .i64 lo), .d (.int .i64 hi)], .one (.d (.ptr [.fn 139 []])), .one (.d (.ptr [.str name]))] [] (.one (.d (.bool (nm == name)))) [] := by
  refine enter tabOk Tryz.func245 rfl (by decide +kernel) rfl fun hok w0 σ0 φ0 M => ?_
  repeat' (first | (show OkOps _ _ _ _ _ _; first | refine okops_nil ?_ | refine s_plain tabOk rfl rfl rfl rfl rfl ?_ | (show OkOps _ _ _ (Oper.mk _ (Op.box _ _) _ _ _ (_) :: _) _ _; first | refine s_box 0 rfl rfl rfl rfl rfl rfl ?_ | fail) | fail) | (show OkC _ _ _ _ _; first | refine ok_seq ?_ | refine ok_region ?_ | refine ok_ret ?_ | refine ok_regionD progOk.mo ?_ | fail) | (show thenQ _ _ _ _; first | refine then_n ?_ | fail) | (show RetQ _ _ _ _ _ _; first | refine ret_leaf (.inl rfl) rfl rfl ?_ | fail) | (show DRun _ _ _ _ _ _ _ _; first | refine d_nil (by kernel_rfl) ?_ | refine d_e envOk rfl rfl rfl (step3_plain rfl rfl) ?_ | (show DRun _ _ _ _ (Oper.mk _ (Op.call _) _ _ _ (_) :: _) _ _ _; first | refine d_l rfl rfl (loc_callF' rfl rfl rfl rfl rfl rfl (c139 _ _ _) rfl) ?_ | fail) | fail) | fail)
  all_goals (try (((simp_all [at_drop, List.drop_eq_nil_of_le]) <;> first | omega | (rw [Bool.eq_iff_iff]; simp; omega) | grind); done))
theorem c251 (nm name : List UInt8) (t : Int) : CallA Tryz.prog 251 [.agg [.d (.str nm), .d (.int .i64 t)], .one (.d (.ptr [.fn 151 []])), .one (.d (.ptr [.str name]))] [] (.one (.d (.bool (nm == name)))) [] := by
  refine enter tabOk Tryz.func251 rfl (by decide +kernel) rfl fun hok w0 σ0 φ0 M => ?_
  repeat' (first | (show OkOps _ _ _ _ _ _; first | refine okops_nil ?_ | refine s_plain tabOk rfl rfl rfl rfl rfl ?_ | (show OkOps _ _ _ (Oper.mk _ (Op.box _ _) _ _ _ (_) :: _) _ _; first | refine s_box 0 rfl rfl rfl rfl rfl rfl ?_ | fail) | fail) | (show OkC _ _ _ _ _; first | refine ok_seq ?_ | refine ok_region ?_ | refine ok_ret ?_ | refine ok_regionD progOk.mo ?_ | fail) | (show thenQ _ _ _ _; first | refine then_n ?_ | fail) | (show RetQ _ _ _ _ _ _; first | refine ret_leaf (.inl rfl) rfl rfl ?_ | fail) | (show DRun _ _ _ _ _ _ _ _; first | refine d_nil (by kernel_rfl) ?_ | refine d_e envOk rfl rfl rfl (step3_plain rfl rfl) ?_ | (show DRun _ _ _ _ (Oper.mk _ (Op.call _) _ _ _ (_) :: _) _ _ _; first | refine d_l rfl rfl (loc_callF' rfl rfl rfl rfl rfl rfl (c151 _ _) rfl) ?_ | fail) | fail) | fail)
  all_goals (try (((simp_all [at_drop, List.drop_eq_nil_of_le]) <;> first | omega | (rw [Bool.eq_iff_iff]; simp; omega) | grind); done))
theorem c244 (f : FuncId) (caps : List D) (p : Dim → Bool) (hp : ∀ d : Dim, CallA Tryz.prog f ([.agg [.d (.str d.name), .d (.int .i64 d.lo), .d (.int .i64 d.hi)]] ++ caps.map fun x => .one (.d x)) [] (.one (.d (.bool (p d)))) []) (l : List Dim) :
    CallA Tryz.prog 244 [.one (.d (encDims l)), .one (.d (.fn f caps))] [] (.one (.d (.int .i64 (idxGo p l 0)))) [] := by
  refine enter tabOk Tryz.func244 rfl (by decide +kernel) rfl fun hok w0 σ0 φ0 M => ?_
  have h1 := hok.1.sl; clear hok; simp only [List.length_map] at h1; replace h1 := h1.1
  repeat' (first | (show OkOps _ _ _ _ _ _; first | refine okops_nil ?_ | refine s_plain tabOk rfl rfl rfl rfl rfl ?_ | (show OkOps _ _ _ (Oper.mk _ (Op.binOp .add _ _ _ _) _ _ _ (_) :: _) _ _; first | refine s_e envOk rfl rfl rfl (step3_add rfl rfl rfl rfl (wrap64 (by omega) (by omega))) ?_ | fail) | (show OkOps _ _ _ (Oper.mk _ (Op.indexAddr _ _ _) _ _ _ (_) :: _) _ _; first | refine s_e envOk rfl rfl rfl (step3_idx rfl rfl rfl rfl rfl (by first | omega | ((try simp only [decide_eq_true_eq, decide_eq_false_iff_not, Bool.not_eq_true', Bool.not_true, Bool.not_false, List.length_map, List.length_set, bne_iff_ne, ne_eq, beq_iff_eq, bne_eq_false_iff_eq, beq_eq_false_iff_ne] at *); omega)) (at_map (by first | omega | ((try simp only [decide_eq_true_eq, decide_eq_false_iff_not, Bool.not_eq_true', Bool.not_true, Bool.not_false, List.length_map, List.length_set, bne_iff_ne, ne_eq, beq_iff_eq, bne_eq_false_iff_eq, beq_eq_false_iff_ne] at *); omega)))) ?_ | fail) | (show OkOps _ _ _ (Oper.mk _ (Op.call _) _ _ _ (_) :: _) _ _; first | refine s_callF rfl rfl rfl rfl rfl rfl rfl rfl (hp _) rfl ?_ | fail) | fail) | (show OkC _ _ _ _ _; first | refine ok_seq ?_ | refine ok_region ?_ | refine ok_block ?_ | refine ok_skip ?_ | refine ok_ret ?_ | refine ok_exit ?_ | refine ok_cond rfl (fun h => ?_) (fun h => ?_) | refine s_loop 2 rfl [(0, _), (1, _), (7, _)] (subL_cons rfl (subL_cons rfl (subL_cons rfl subL_nil))) (fun (k : Nat) => [(8, .one (.d (.int .i64 k)))]) (fun (k : Nat) => k ≤ l.length ∧ idxGo p l 0 = idxGo p (l.drop k) k) (fun (k : Nat) => l.length - k) 0 (subL_cons rfl subL_nil) ?_ (fun k ⟨hk, hs⟩ => ?_) | fail) | (show thenQ _ _ _ _; first | refine then_n ?_ | refine then_r ?_ | refine then_x ?_ | fail) | (show blockQ _ _ _ _; first | refine block_n ?_ | refine block_r ?_ | refine block_x rfl ?_ | fail) | (show RetQ _ _ _ _ _ _; first | refine ret_leaf (.inl rfl) rfl rfl ?_ | fail) | (show Exists _; first | refine Exists.intro (k + 1) ⟨?_, ?_, (by first | exact subL_nil | exact (subL_cons rfl subL_nil) | exact (subL_cons rfl (subL_cons rfl subL_nil)) | exact (subL_cons rfl (subL_cons rfl (subL_cons rfl subL_nil))) | exact (subL_cons rfl (subL_cons rfl (subL_cons rfl (subL_cons rfl subL_nil)))) | exact (subL_cons rfl (subL_cons rfl (subL_cons rfl (subL_cons rfl (subL_cons rfl subL_nil))))) | exact (subL_cons rfl (subL_cons rfl (subL_cons rfl (subL_cons rfl (subL_cons rfl (subL_cons rfl subL_nil)))))) | exact (subL_cons rfl (subL_cons rfl (subL_cons rfl (subL_cons rfl (subL_cons rfl (subL_cons rfl (subL_cons rfl subL_nil))))))) | exact (subL_cons rfl (subL_cons rfl (subL_cons rfl (subL_cons rfl (subL_cons rfl (subL_cons rfl (subL_cons rfl (subL_cons rfl subL_nil))))))))), (subL_cons rfl subL_nil), (subL_cons rfl (subL_cons rfl (subL_cons rfl subL_nil)))⟩ | fail) | fail)
  all_goals (try (((simp_all [idxGo, at_drop, List.drop_eq_nil_of_le]) <;> first | omega | (rw [Bool.eq_iff_iff]; simp; omega) | grind); done))
theorem c250 (f : FuncId) (caps : List D) (p : Attr → Bool) (hp : ∀ d : Attr, CallA Tryz.prog f ([.agg [.d (.str d.name), .d (.int .i64 d.type)]] ++ caps.map fun x => .one (.d x)) [] (.one (.d (.bool (p d)))) []) (l : List Attr) :
    CallA Tryz.prog 250 [.one (.d (encAttrs l)), .one (.d (.fn f caps))] [] (.one (.d (.int .i64 (idxGo p l 0)))) [] := by
  refine enter tabOk Tryz.func250 rfl (by decide +kernel) rfl fun hok w0 σ0 φ0 M => ?_
  have h1 := hok.1.sl; clear hok; simp only [List.length_map] at h1; replace h1 := h1.1
  repeat' (first | (show OkOps _ _ _ _ _ _; first | refine okops_nil ?_ | refine s_plain tabOk rfl rfl rfl rfl rfl ?_ | (show OkOps _ _ _ (Oper.mk _ (Op.binOp .add _ _ _ _) _ _ _ (_) :: _) _ _; first | refine s_e envOk rfl rfl rfl (step3_add rfl rfl rfl rfl (wrap64 (by omega) (by omega))) ?_ | fail) | (show OkOps _ _ _ (Oper.mk _ (Op.indexAddr _ _ _) _ _ _ (_) :: _) _ _; first | refine s_e envOk rfl rfl rfl (step3_idx rfl rfl rfl rfl rfl (by first | omega | ((try simp only [decide_eq_true_eq, decide_eq_false_iff_not, Bool.not_eq_true', Bool.not_true, Bool.not_false, List.length_map, List.length_set, bne_iff_ne, ne_eq, beq_iff_eq, bne_eq_false_iff_eq, beq_eq_false_iff_ne] at *); omega)) (at_map (by first | omega | ((try simp only [decide_eq_true_eq, decide_eq_false_iff_not, Bool.not_eq_true', Bool.not_true, Bool.not_false, List.length_map, List.length_set, bne_iff_ne, ne_eq, beq_iff_eq, bne_eq_false_iff_eq, beq_eq_false_iff_ne] at *); omega)))) ?_ | fail) | (show OkOps _ _ _ (Oper.mk _ (Op.call _) _ _ _ (_) :: _) _ _; first | refine s_callF rfl rfl rfl rfl rfl rfl rfl rfl (hp _) rfl ?_ | fail) | fail) | (show OkC _ _ _ _ _; first | refine ok_seq ?_ | refine ok_region ?_ | refine ok_block ?_ | refine ok_skip ?_ | refine ok_ret ?_ | refine ok_exit ?_ | refine ok_cond rfl (fun h => ?_) (fun h => ?_) | refine s_loop 2 rfl [(0, _), (1, _), (7, _)] (subL_cons rfl (subL_cons rfl (subL_cons rfl subL_nil))) (fun (k : Nat) => [(8, .one (.d (.int .i64 k)))]) (fun (k : Nat) => k ≤ l.length ∧ idxGo p l 0 = idxGo p (l.drop k) k) (fun (k : Nat) => l.length - k) 0 (subL_cons rfl subL_nil) ?_ (fun k ⟨hk, hs⟩ => ?_) | fail) | (show thenQ _ _ _ _; first | refine then_n ?_ | refine then_r ?_ | refine then_x ?_ | fail) | (show blockQ _ _ _ _; first | refine block_n ?_ | refine block_r ?_ | refine block_x rfl ?_ | fail) | (show RetQ _ _ _ _ _ _; first | refine ret_leaf (.inl rfl) rfl rfl ?_ | fail) | (show Exists _; first | refine Exists.intro (k + 1) ⟨?_, ?_, (by first | exact subL_nil | exact (subL_cons rfl subL_nil) | exact (subL_cons rfl (subL_cons rfl subL_nil)) | exact (subL_cons rfl (subL_cons rfl (subL_cons rfl subL_nil))) | exact (subL_cons rfl (subL_cons rfl (subL_cons rfl (subL_cons rfl subL_nil)))) | exact (subL_cons rfl (subL_cons rfl (subL_cons rfl (subL_cons rfl (subL_cons rfl subL_nil))))) | exact (subL_cons rfl (subL_cons rfl (subL_cons rfl (subL_cons rfl (subL_cons rfl (subL_cons rfl subL_nil)))))) | exact (subL_cons rfl (subL_cons rfl (subL_cons rfl (subL_cons rfl (subL_cons rfl (subL_cons rfl (subL_cons rfl subL_nil))))))) | exact (subL_cons rfl (subL_cons rfl (subL_cons rfl (subL_cons rfl (subL_cons rfl (subL_cons rfl (subL_cons rfl (subL_cons rfl subL_nil))))))))), (subL_cons rfl subL_nil), (subL_cons rfl (subL_cons rfl (subL_cons rfl subL_nil)))⟩ | fail) | fail)
  all_goals (try (((simp_all [idxGo, at_drop, List.drop_eq_nil_of_le]) <;> first | omega | (rw [Bool.eq_iff_iff]; simp; omega) | grind); done))
theorem c195 (l : List Dim) (name : List UInt8) : CallA Tryz.prog 195 [.one (.d (encDims l)), .one (.d (.str name)), .one (.d (.fn 139 []))] [] (.one (.d (.int .i64 (idxGo (fun a : Dim => a.name == name) l 0)))) [] := by
  refine enter tabOk Tryz.func195 rfl (by decide +kernel) rfl fun hok w0 σ0 φ0 M => ?_
  repeat' (first | (show OkOps _ _ _ _ _ _; first | refine okops_nil ?_ | refine s_plain tabOk rfl rfl rfl rfl rfl ?_ | (show OkOps _ _ _ (Oper.mk _ (Op.call _) _ _ _ (_) :: _) _ _; first | refine s_callF rfl rfl rfl rfl rfl rfl rfl rfl (c244 _ _ _ (fun d => c245 _ name _ _) _) rfl ?_ | fail) | (show OkOps _ _ _ (Oper.mk _ (Op.box _ _) _ _ _ (_) :: _) _ _; first | refine s_box 0 rfl rfl rfl rfl rfl rfl ?_ | refine s_box 1 rfl rfl rfl rfl rfl rfl ?_ | fail) | refine s_mkF envOk rfl rfl rfl rfl rfl ?_ | fail) | (show OkC _ _ _ _ _; first | refine ok_seq ?_ | refine ok_region ?_ | refine ok_ret ?_ | fail) | (show thenQ _ _ _ _; first | refine then_n ?_ | fail) | (show RetQ _ _ _ _ _ _; first | refine ret_leaf (.inl rfl) rfl rfl ?_ | fail) | fail)
  all_goals (try (((simp_all [at_drop, List.drop_eq_nil_of_le]) <;> first | omega | (rw [Bool.eq_iff_iff]; simp; omega) | grind); done))
theorem c207 (l : List Attr) (name : List UInt8) : CallA Tryz.prog 207 [.one (.d (encAttrs l)), .one (.d (.str name)), .one (.d (.fn 151 []))] [] (.one (.d (.int .i64 (idxGo (fun a : Attr => a.name == name) l 0)))) [] := by
  refine enter tabOk Tryz.func207 rfl (by decide +kernel) rfl fun hok w0 σ0 φ0 M => ?_
  repeat' (first | (show OkOps _ _ _ _ _ _; first | refine okops_nil ?_ | refine s_plain tabOk rfl rfl rfl rfl rfl ?_ | (show OkOps _ _ _ (Oper.mk _ (Op.call _) _ _ _ (_) :: _) _ _; first | refine s_callF rfl rfl rfl rfl rfl rfl rfl rfl (c250 _ _ _ (fun d => c251 _ name _) _) rfl ?_ | fail) | (show OkOps _ _ _ (Oper.mk _ (Op.box _ _) _ _ _ (_) :: _) _ _; first | refine s_box 0 rfl rfl rfl rfl rfl rfl ?_ | refine s_box 1 rfl rfl rfl rfl rfl rfl ?_ | fail) | refine s_mkF envOk rfl rfl rfl rfl rfl ?_ | fail) | (show OkC _ _ _ _ _; first | refine ok_seq ?_ | refine ok_region ?_ | refine ok_ret ?_ | fail) | (show thenQ _ _ _ _; first | refine then_n ?_ | fail) | (show RetQ _ _ _ _ _ _; first | refine ret_leaf (.inl rfl) rfl rfl ?_ | fail) | fail)
  all_goals (try (((simp_all [at_drop, List.drop_eq_nil_of_le]) <;> first | omega | (rw [Bool.eq_iff_iff]; simp; omega) | grind); done))
theorem c126 (ds : List Dim) (ats : List Attr) (cs : D) (name : List UInt8) : CallA Tryz.prog 126 [.agg [.d (encDims ds), .d (encAttrs ats), .d cs], .one (.d (.str name))] [] (.one (.d (.int .i64 (idxGo (fun a : Dim => a.name == name) ds 0)))) [] := by
  refine enter tabOk Tryz.func126 rfl (by decide +kernel) rfl fun hok w0 σ0 φ0 M => ?_
  repeat' (first | (show OkOps _ _ _ _ _ _; first | refine okops_nil ?_ | refine s_plain tabOk rfl rfl rfl rfl rfl ?_ | (show OkOps _ _ _ (Oper.mk _ (Op.call _) _ _ _ (_) :: _) _ _; first | refine s_callF rfl rfl rfl rfl rfl rfl rfl rfl (c195 _ _) rfl ?_ | fail) | (show OkOps _ _ _ (Oper.mk _ (Op.box _ _) _ _ _ (_) :: _) _ _; first | refine s_box 0 rfl rfl rfl rfl rfl rfl ?_ | fail) | fail) | (show OkC _ _ _ _ _; first | refine ok_seq ?_ | refine ok_region ?_ | refine ok_ret ?_ | fail) | (show thenQ _ _ _ _; first | refine then_n ?_ | fail) | (show RetQ _ _ _ _ _ _; first | refine ret_leaf (.inl rfl) rfl rfl ?_ | fail) | fail)
  all_goals (try (((simp_all [at_drop, List.drop_eq_nil_of_le]) <;> first | omega | (rw [Bool.eq_iff_iff]; simp; omega) | grind); done))
theorem c148 (ds : List Dim) (ats : List Attr) (cs : D) (name : List UInt8) : CallA Tryz.prog 148 [.agg [.d (encDims ds), .d (encAttrs ats), .d cs], .one (.d (.str name))] [] (.one (.d (.int .i64 (idxGo (fun a : Attr => a.name == name) ats 0)))) [] := by
  refine enter tabOk Tryz.func148 rfl (by decide +kernel) rfl fun hok w0 σ0 φ0 M => ?_
  repeat' (first | (show OkOps _ _ _ _ _ _; first | refine okops_nil ?_ | refine s_plain tabOk rfl rfl rfl rfl rfl ?_ | (show OkOps _ _ _ (Oper.mk _ (Op.call _) _ _ _ (_) :: _) _ _; first | refine s_callF rfl rfl rfl rfl rfl rfl rfl rfl (c207 _ _) rfl ?_ | fail) | (show OkOps _ _ _ (Oper.mk _ (Op.box _ _) _ _ _ (_) :: _) _ _; first | refine s_box 0 rfl rfl rfl rfl rfl rfl ?_ | fail) | fail) | (show OkC _ _ _ _ _; first | refine ok_seq ?_ | refine ok_region ?_ | refine ok_ret ?_ | fail) | (show thenQ _ _ _ _; first | refine then_n ?_ | fail) | (show RetQ _ _ _ _ _ _; first | refine ret_leaf (.inl rfl) rfl rfl ?_ | fail) | fail)
  all_goals (try (((simp_all [at_drop, List.drop_eq_nil_of_le]) <;> first | omega | (rw [Bool.eq_iff_iff]; simp; omega) | grind); done))
end Go.Proofs.YtpejdgkaapnekaaGreat
namespace Go.Proofs.YtpejdgkaapnekaaGreat
open Go Go.Abs
attribute [local irreducible] OkOps OkC DRun thenQ blockQ RetQ
set_option maxRecDepth 10000
def chkA (a : Arr) : Int := checkF a.dims a.attrs a.cells
theorem c180 (a : Arr) : CallA Tryz.prog 180 [aggA a] [] (.one (.d (.bool (chkA a != 0)))) [] := by
  unfold aggA
  refine enter tabOk Tryz.func180 rfl (by decide +kernel) rfl fun hok w0 σ0 φ0 M => ?_
  clear hok
  repeat' (first | (show OkOps _ _ _ _ _ _; first | refine okops_nil ?_ | refine s_plain tabOk rfl rfl rfl rfl rfl ?_ | (show OkOps _ _ _ (Oper.mk _ (Op.call _) _ _ _ (_) :: _) _ _; first | refine s_callF rfl rfl rfl rfl rfl rfl rfl rfl (c59 _ _ _) rfl ?_ | fail) | (show OkOps _ _ _ (Oper.mk _ (Op.box _ _) _ _ _ (_) :: _) _ _; first | refine s_box 0 rfl rfl rfl rfl rfl rfl ?_ | fail) | fail) | (show OkC _ _ _ _ _; first | refine ok_seq ?_ | refine ok_region ?_ | refine ok_ret ?_ | fail) | (show thenQ _ _ _ _; first | refine then_n ?_ | fail) | (show RetQ _ _ _ _ _ _; first | refine ret_leaf (.inl rfl) rfl rfl ?_ | fail) | fail)
  all_goals rfl
theorem c31 (a : Arr) (m : Int) : CallA Tryz.prog 31 [aggA a, .one (.d (.int .i64 m))] [] (.one (.d (.bool (decide (m < (a.cells.length : Int)) || chkA a != 0)))) [] := by
  unfold aggA
  refine enter tabOk Tryz.func31 rfl (by decide +kernel) rfl fun hok w0 σ0 φ0 M => ?_
  have h1 := (OkD.sl (hok.1 (.d (encCells a.cells)) (by simp))).1; clear hok; simp only [List.length_map] at h1
  repeat' (first | (show OkOps _ _ _ _ _ _; first | refine okops_nil ?_ | refine s_plain tabOk rfl rfl rfl rfl rfl ?_ | (show OkOps _ _ _ (Oper.mk _ (_) _ _ _ (some _) :: _) _ _; first | refine s_guard rfl rfl (by first | assumption | rfl) ?_ | refine s_out rfl rfl (by first | assumption | rfl) rfl rfl ?_ | refine s_split rfl rfl rfl rfl (fun h => ?_) (fun h => ?_) | fail) | (show OkOps _ _ _ (Oper.mk _ (Op.pick _ _ _) _ _ _ (_) :: _) _ _; first | refine s_e envOk rfl rfl rfl (step3_pickT rfl rfl (by first | rfl | assumption) rfl) ?_ | refine s_e envOk rfl rfl rfl (step3_pickF rfl rfl (by first | rfl | assumption) rfl) ?_ | fail) | (show OkOps _ _ _ (Oper.mk _ (Op.call _) _ _ _ (_) :: _) _ _; first | refine s_callF rfl rfl rfl rfl rfl rfl rfl rfl (c59 _ _ _) rfl ?_ | fail) | (show OkOps _ _ _ (Oper.mk _ (Op.box _ _) _ _ _ (_) :: _) _ _; first | refine s_box 0 rfl rfl rfl rfl rfl rfl ?_ | fail) | fail) | (show OkC _ _ _ _ _; first | refine ok_seq ?_ | refine ok_region ?_ | refine ok_ret ?_ | fail) | (show thenQ _ _ _ _; first | refine then_n ?_ | fail) | (show RetQ _ _ _ _ _ _; first | refine ret_leaf (.inl rfl) rfl rfl ?_ | fail) | fail)
  all_goals (try (((simp_all [chkA, at_drop, List.drop_eq_nil_of_le]) <;> first | omega | (rw [Bool.eq_iff_iff]; simp; omega) | grind); done))
theorem c230 (l : List Arr) : CallA Tryz.prog 230 [.one (.d (encArrs l)), .one (.d (.fn 180 []))] [] (.one (.d (.int .i64 (idxGo (fun a => chkA a != 0) l 0)))) [] := by
  refine enter tabOk Tryz.func230 rfl (by decide +kernel) rfl fun hok w0 σ0 φ0 M => ?_
  have h1 := hok.1.sl; clear hok; simp only [List.length_map] at h1; replace h1 := h1.1
  repeat' (first | (show OkOps _ _ _ _ _ _; first | refine okops_nil ?_ | refine s_plain tabOk rfl rfl rfl rfl rfl ?_ | (show OkOps _ _ _ (Oper.mk _ (Op.binOp .add _ _ _ _) _ _ _ (_) :: _) _ _; first | refine s_e envOk rfl rfl rfl (step3_add rfl rfl rfl rfl (wrap64 (by omega) (by omega))) ?_ | fail) | (show OkOps _ _ _ (Oper.mk _ (Op.indexAddr _ _ _) _ _ _ (_) :: _) _ _; first | refine s_e envOk rfl rfl rfl (step3_idx rfl rfl rfl rfl rfl (by first | omega | ((try simp only [decide_eq_true_eq, decide_eq_false_iff_not, Bool.not_eq_true', Bool.not_true, Bool.not_false, List.length_map, List.length_set, bne_iff_ne, ne_eq, beq_iff_eq, bne_eq_false_iff_eq, beq_eq_false_iff_ne] at *); omega)) (at_map (by first | omega | ((try simp only [decide_eq_true_eq, decide_eq_false_iff_not, Bool.not_eq_true', Bool.not_true, Bool.not_false, List.length_map, List.length_set, bne_iff_ne, ne_eq, beq_iff_eq, bne_eq_false_iff_eq, beq_eq_false_iff_ne] at *); omega)))) ?_ | fail) | (show OkOps _ _ _ (Oper.mk _ (Op.call _) _ _ _ (_) :: _) _ _; first | refine s_callF rfl rfl rfl rfl rfl rfl rfl rfl (c180 _) rfl ?_ | fail) | fail) | (show OkC _ _ _ _ _; first | refine ok_seq ?_ | refine ok_region ?_ | refine ok_block ?_ | refine ok_skip ?_ | refine ok_ret ?_ | refine ok_exit ?_ | refine ok_cond rfl (fun h => ?_) (fun h => ?_) | refine s_loop 2 rfl [(0, _), (1, _), (7, _)] (subL_cons rfl (subL_cons rfl (subL_cons rfl subL_nil))) (fun (k : Nat) => [(8, .one (.d (.int .i64 k)))]) (fun (k : Nat) => k ≤ l.length ∧ idxGo (fun a => chkA a != 0) l 0 = idxGo (fun a => chkA a != 0) (l.drop k) k) (fun (k : Nat) => l.length - k) 0 (subL_cons rfl subL_nil) ?_ (fun k ⟨hk, hs⟩ => ?_) | fail) | (show thenQ _ _ _ _; first | refine then_n ?_ | refine then_r ?_ | refine then_x ?_ | fail) | (show blockQ _ _ _ _; first | refine block_n ?_ | refine block_r ?_ | refine block_x rfl ?_ | fail) | (show RetQ _ _ _ _ _ _; first | refine ret_leaf (.inl rfl) rfl rfl ?_ | fail) | (show Exists _; first | refine Exists.intro (k + 1) ⟨?_, ?_, (by first | exact subL_nil | exact (subL_cons rfl subL_nil) | exact (subL_cons rfl (subL_cons rfl subL_nil)) | exact (subL_cons rfl (subL_cons rfl (subL_cons rfl subL_nil))) | exact (subL_cons rfl (subL_cons rfl (subL_cons rfl (subL_cons rfl subL_nil)))) | exact (subL_cons rfl (subL_cons rfl (subL_cons rfl (subL_cons rfl (subL_cons rfl subL_nil))))) | exact (subL_cons rfl (subL_cons rfl (subL_cons rfl (subL_cons rfl (subL_cons rfl (subL_cons rfl subL_nil)))))) | exact (subL_cons rfl (subL_cons rfl (subL_cons rfl (subL_cons rfl (subL_cons rfl (subL_cons rfl (subL_cons rfl subL_nil))))))) | exact (subL_cons rfl (subL_cons rfl (subL_cons rfl (subL_cons rfl (subL_cons rfl (subL_cons rfl (subL_cons rfl (subL_cons rfl subL_nil))))))))), (subL_cons rfl subL_nil), (subL_cons rfl (subL_cons rfl (subL_cons rfl subL_nil)))⟩ | fail) | fail)
  all_goals (try (((simp_all [idxGo, at_drop, List.drop_eq_nil_of_le]) <;> first | omega | (rw [Bool.eq_iff_iff]; simp; omega) | grind); done))
theorem c179 (l : List Arr) : CallA Tryz.prog 179 [.one (.d (encArrs l)), .one (.d (.fn 180 []))] [] (.one (.d (.bool (!decide (idxGo (fun a => chkA a != 0) l 0 < 0))))) [] := by
  refine enter tabOk Tryz.func179 rfl (by decide +kernel) rfl fun hok w0 σ0 φ0 M => ?_
  clear hok
  repeat' (first | (show OkOps _ _ _ _ _ _; first | refine okops_nil ?_ | refine s_plain tabOk rfl rfl rfl rfl rfl ?_ | (show OkOps _ _ _ (Oper.mk _ (Op.call _) _ _ _ (_) :: _) _ _; first | refine s_callF rfl rfl rfl rfl rfl rfl rfl rfl (c230 _) rfl ?_ | fail) | fail) | (show OkC _ _ _ _ _; first | refine ok_seq ?_ | refine ok_region ?_ | refine ok_ret ?_ | fail) | (show thenQ _ _ _ _; first | refine then_n ?_ | fail) | (show RetQ _ _ _ _ _ _; first | refine ret_leaf (.inl rfl) rfl rfl ?_ | fail) | fail)
  all_goals (try (((simp_all [at_drop, List.drop_eq_nil_of_le]) <;> first | omega | (rw [Bool.eq_iff_iff]; simp; omega) | grind); done))
def validF (l : List Arr) : Bool := l.all fun a => chkA a == 0
theorem idx_valid' : ∀ (l : List Arr) (j : Nat), idxGo (fun a => chkA a != 0) l j < 0 ↔ validF l = true
  | [], j => by simp [idxGo, validF]
  | a :: l, j => by
    have ih := idx_valid' l (j + 1)
    simp only [idxGo, validF, List.all_cons, Bool.and_eq_true]
    by_cases h : chkA a = 0
    · rw [if_neg (by simp [h])]
      rw [ih]
      simp [h, validF]
    · rw [if_pos (by simp [h])]
      constructor
      · intro h1; omega
      · intro h1; simp [h] at h1
theorem idx_valid (l : List Arr) (j : Nat) : decide (idxGo (fun a => chkA a != 0) l j < 0) = validF l := by
  rw [Bool.eq_iff_iff, decide_eq_true_eq, idx_valid']
theorem c96 (l : List Arr) : CallA Tryz.prog 96 [.one (.d (encArrs l))] [] (.one (.d (.bool (validF l)))) [] := by
  refine enter tabOk Tryz.func96 rfl (by decide +kernel) rfl fun hok w0 σ0 φ0 M => ?_
  clear hok
  repeat' (first | (show OkOps _ _ _ _ _ _; first | refine okops_nil ?_ | refine s_plain tabOk rfl rfl rfl rfl rfl ?_ | (show OkOps _ _ _ (Oper.mk _ (Op.call _) _ _ _ (_) :: _) _ _; first | refine s_callF rfl rfl rfl rfl rfl rfl rfl rfl (c179 _) rfl ?_ | fail) | fail) | (show OkC _ _ _ _ _; first | refine ok_seq ?_ | refine ok_region ?_ | refine ok_ret ?_ | fail) | (show thenQ _ _ _ _; first | refine then_n ?_ | fail) | (show RetQ _ _ _ _ _ _; first | refine ret_leaf (.inl rfl) rfl rfl ?_ | fail) | fail)
  all_goals (try (((simp_all [idx_valid, at_drop, List.drop_eq_nil_of_le]) <;> first | omega | (rw [Bool.eq_iff_iff]; simp; omega) | grind); done))
theorem c197 (x y : Dim) : CallA Tryz.prog 197 [.agg [.d (.str x.name), .d (.int .i64 x.lo), .d (.int .i64 x.hi)], .agg [.d (.str y.name), .d (.int .i64 y.lo), .d (.int .i64 y.hi)]] [] (.one (.d (.bool (x.name == y.name)))) [] := by
  refine enter tabOk Tryz.func197 rfl (by decide +kernel) rfl fun hok w0 σ0 φ0 M => ?_
  clear hok
  repeat' (first | (show OkOps _ _ _ _ _ _; first | refine okops_nil ?_ | refine s_plain tabOk rfl rfl rfl rfl rfl ?_ | (show OkOps _ _ _ (Oper.mk _ (Op.box _ _) _ _ _ (_) :: _) _ _; first | refine s_box 0 rfl rfl rfl rfl rfl rfl ?_ | refine s_box 1 rfl rfl rfl rfl rfl rfl ?_ | fail) | fail) | (show OkC _ _ _ _ _; first | refine ok_seq ?_ | refine ok_region ?_ | refine ok_ret ?_ | fail) | (show thenQ _ _ _ _; first | refine then_n ?_ | fail) | (show RetQ _ _ _ _ _ _; first | refine ret_leaf (.inl rfl) rfl rfl ?_ | fail) | fail)
  all_goals (try (((simp_all [at_drop, List.drop_eq_nil_of_le]) <;> first | omega | (rw [Bool.eq_iff_iff]; simp; omega) | grind); done))
theorem c196 (a b : List Dim) : CallA Tryz.prog 196 [.one (.d (encDims a)), .one (.d (encDims b)), .one (.d (.fn 197 []))] [] (.one (.d (.bool (alikeF a b)))) [] := by
  refine enter tabOk Tryz.func196 rfl (by decide +kernel) rfl fun hok w0 σ0 φ0 M => ?_
  have h1 := hok.1.sl; have h2 := hok.2.1.sl; clear hok; simp only [List.length_map] at h1 h2; replace h1 := h1.1; replace h2 := h2.1
  repeat' (first | (show OkOps _ _ _ _ _ _; first | refine okops_nil ?_ | refine s_plain tabOk rfl rfl rfl rfl rfl ?_ | (show OkOps _ _ _ (Oper.mk _ (Op.binOp .add _ _ _ _) _ _ _ (_) :: _) _ _; first | refine s_e envOk rfl rfl rfl (step3_add rfl rfl rfl rfl (wrap64 (by omega) (by omega))) ?_ | fail) | (show OkOps _ _ _ (Oper.mk _ (Op.indexAddr _ _ _) _ _ _ (_) :: _) _ _; first | refine s_e envOk rfl rfl rfl (step3_idx rfl rfl rfl rfl rfl (by first | omega | ((try simp only [decide_eq_true_eq, decide_eq_false_iff_not, Bool.not_eq_true', Bool.not_true, Bool.not_false, List.length_map, List.length_set, bne_iff_ne, ne_eq, beq_iff_eq, bne_eq_false_iff_eq, beq_eq_false_iff_ne] at *); omega)) (at_map (by first | omega | ((try simp only [decide_eq_true_eq, decide_eq_false_iff_not, Bool.not_eq_true', Bool.not_true, Bool.not_false, List.length_map, List.length_set, bne_iff_ne, ne_eq, beq_iff_eq, bne_eq_false_iff_eq, beq_eq_false_iff_ne] at *); omega)))) ?_ | fail) | (show OkOps _ _ _ (Oper.mk _ (Op.call _) _ _ _ (_) :: _) _ _; first | refine s_callF rfl rfl rfl rfl rfl rfl rfl rfl (c197 _ _) rfl ?_ | fail) | (show OkOps _ _ _ (Oper.mk _ (Op.alloc _) _ _ _ (_) :: _) _ _; first | refine s_alloc tabOk 0 rfl rfl rfl rfl rfl ?_ | refine s_alloc tabOk 1 rfl rfl rfl rfl rfl ?_ | fail) | refine s_store envOk rfl rfl rfl ?_ | fail) | (show OkC _ _ _ _ _; first | refine ok_seq ?_ | refine ok_region ?_ | refine ok_block ?_ | refine ok_skip ?_ | refine ok_ret ?_ | refine ok_exit ?_ | refine ok_cond rfl (fun h => ?_) (fun h => ?_) | refine s_loop 4 rfl [(1, _), (2, _), (15, _), (16, _)] (subL_cons rfl (subL_cons rfl (subL_cons rfl (subL_cons rfl subL_nil)))) (fun (k : Nat) => [(17, .one (.d (.int .i64 k)))]) (fun (k : Nat) => k ≤ a.length ∧ a.length = b.length ∧ alikeF a b = sameGo (fun x y => x.name == y.name) (a.drop k) (b.drop k)) (fun (k : Nat) => a.length - k) 0 (subL_cons rfl subL_nil) ?_ (fun k ⟨hk, hq, hs⟩ => ?_) | fail) | (show thenQ _ _ _ _; first | refine then_n ?_ | refine then_r ?_ | refine then_x ?_ | fail) | (show blockQ _ _ _ _; first | refine block_n ?_ | refine block_r ?_ | refine block_x rfl ?_ | fail) | (show RetQ _ _ _ _ _ _; first | refine ret_leaf (.inl rfl) rfl rfl ?_ | fail) | (show Exists _; first | refine Exists.intro (k + 1) ⟨?_, ?_, (by first | exact subL_nil | exact (subL_cons rfl subL_nil) | exact (subL_cons rfl (subL_cons rfl subL_nil)) | exact (subL_cons rfl (subL_cons rfl (subL_cons rfl subL_nil))) | exact (subL_cons rfl (subL_cons rfl (subL_cons rfl (subL_cons rfl subL_nil)))) | exact (subL_cons rfl (subL_cons rfl (subL_cons rfl (subL_cons rfl (subL_cons rfl subL_nil))))) | exact (subL_cons rfl (subL_cons rfl (subL_cons rfl (subL_cons rfl (subL_cons rfl (subL_cons rfl subL_nil)))))) | exact (subL_cons rfl (subL_cons rfl (subL_cons rfl (subL_cons rfl (subL_cons rfl (subL_cons rfl (subL_cons rfl subL_nil))))))) | exact (subL_cons rfl (subL_cons rfl (subL_cons rfl (subL_cons rfl (subL_cons rfl (subL_cons rfl (subL_cons rfl (subL_cons rfl subL_nil))))))))), (subL_cons rfl subL_nil), (subL_cons rfl (subL_cons rfl (subL_cons rfl (subL_cons rfl subL_nil))))⟩ | fail) | fail)
  all_goals (try (((simp_all [alikeF, sameF, sameGo, at_drop, List.drop_eq_nil_of_le]) <;> first | omega | (rw [Bool.eq_iff_iff]; simp; omega) | grind); done))
theorem c127 (a b : List Dim) : CallA Tryz.prog 127 [.one (.d (encDims a)), .one (.d (encDims b))] [] (.one (.d (.bool (alikeF a b)))) [] := by
  refine enter tabOk Tryz.func127 rfl (by decide +kernel) rfl fun hok w0 σ0 φ0 M => ?_
  clear hok
  repeat' (first | (show OkOps _ _ _ _ _ _; first | refine okops_nil ?_ | refine s_plain tabOk rfl rfl rfl rfl rfl ?_ | (show OkOps _ _ _ (Oper.mk _ (Op.call _) _ _ _ (_) :: _) _ _; first | refine s_callF rfl rfl rfl rfl rfl rfl rfl rfl (c196 _ _) rfl ?_ | fail) | fail) | (show OkC _ _ _ _ _; first | refine ok_seq ?_ | refine ok_region ?_ | refine ok_ret ?_ | fail) | (show thenQ _ _ _ _; first | refine then_n ?_ | fail) | (show RetQ _ _ _ _ _ _; first | refine ret_leaf (.inl rfl) rfl rfl ?_ | fail) | fail)
  all_goals (try (((simp_all [at_drop, List.drop_eq_nil_of_le]) <;> first | omega | (rw [Bool.eq_iff_iff]; simp; omega) | grind); done))
theorem c120 (a b : List Dim) : CallA Tryz.prog 120 [.one (.d (encDims a)), .one (.d (encDims b))] [] (.one (.d (.bool (sameF eqDim a b)))) [] := by
  refine enter tabOk Tryz.func120 rfl (by decide +kernel) rfl fun hok w0 σ0 φ0 M => ?_
  have h1 := hok.1.sl; have h2 := hok.2.1.sl; clear hok; simp only [List.length_map] at h1 h2; replace h1 := h1.1; replace h2 := h2.1
  repeat' (first | (show OkOps _ _ _ _ _ _; first | refine okops_nil ?_ | refine s_plain tabOk rfl rfl rfl rfl rfl ?_ | (show OkOps _ _ _ (Oper.mk _ (Op.binOp .add _ _ _ _) _ _ _ (_) :: _) _ _; first | refine s_e envOk rfl rfl rfl (step3_add rfl rfl rfl rfl (wrap64 (by omega) (by omega))) ?_ | fail) | fail) | (show OkC _ _ _ _ _; first | refine ok_seq ?_ | refine ok_region ?_ | refine ok_block ?_ | refine ok_skip ?_ | refine ok_ret ?_ | refine ok_exit ?_ | refine ok_cond rfl (fun h => ?_) (fun h => ?_) | refine ok_regionD progOk.mo ?_ | refine s_loop 4 rfl [(0, _), (1, _), (12, _)] (subL_cons rfl (subL_cons rfl (subL_cons rfl subL_nil))) (fun (k : Nat) => [(13, .one (.d (.int .i64 k)))]) (fun (k : Nat) => k ≤ a.length ∧ a.length = b.length ∧ sameF eqDim a b = sameGo eqDim (a.drop k) (b.drop k)) (fun (k : Nat) => a.length - k) 0 (subL_cons rfl subL_nil) ?_ (fun k ⟨hk, hq, hs⟩ => ?_) | fail) | (show thenQ _ _ _ _; first | refine then_n ?_ | refine then_r ?_ | refine then_x ?_ | fail) | (show blockQ _ _ _ _; first | refine block_n ?_ | refine block_r ?_ | refine block_x rfl ?_ | fail) | (show RetQ _ _ _ _ _ _; first | refine ret_leaf (.inl rfl) rfl rfl ?_ | fail) | (show DRun _ _ _ _ _ _ _ _; first | refine d_nil (by kernel_rfl) ?_ | refine d_e envOk rfl rfl rfl (step3_plain rfl rfl) ?_ | (show DRun _ _ _ _ (Oper.mk _ (Op.indexAddr _ _ _) _ _ _ (_) :: _) _ _ _; first | refine d_e envOk rfl rfl rfl (step3_idx rfl rfl rfl rfl rfl (by first | omega | ((try simp only [decide_eq_true_eq, decide_eq_false_iff_not, Bool.not_eq_true', Bool.not_true, Bool.not_false, List.length_map, List.length_set, bne_iff_ne, ne_eq, beq_iff_eq, bne_eq_false_iff_eq, beq_eq_false_iff_ne] at *); omega)) (at_map (by first | omega | ((try simp only [decide_eq_true_eq, decide_eq_false_iff_not, Bool.not_eq_true', Bool.not_true, Bool.not_false, List.length_map, List.length_set, bne_iff_ne, ne_eq, beq_iff_eq, bne_eq_false_iff_eq, beq_eq_false_iff_ne] at *); omega)))) ?_ | fail) | refine d_e envOk rfl rfl rfl rfl ?_ | fail) | (show Exists _; first | refine Exists.intro (k + 1) ⟨?_, ?_, (by first | exact subL_nil | exact (subL_cons rfl subL_nil) | exact (subL_cons rfl (subL_cons rfl subL_nil)) | exact (subL_cons rfl (subL_cons rfl (subL_cons rfl subL_nil))) | exact (subL_cons rfl (subL_cons rfl (subL_cons rfl (subL_cons rfl subL_nil)))) | exact (subL_cons rfl (subL_cons rfl (subL_cons rfl (subL_cons rfl (subL_cons rfl subL_nil))))) | exact (subL_cons rfl (subL_cons rfl (subL_cons rfl (subL_cons rfl (subL_cons rfl (subL_cons rfl subL_nil)))))) | exact (subL_cons rfl (subL_cons rfl (subL_cons rfl (subL_cons rfl (subL_cons rfl (subL_cons rfl (subL_cons rfl subL_nil))))))) | exact (subL_cons rfl (subL_cons rfl (subL_cons rfl (subL_cons rfl (subL_cons rfl (subL_cons rfl (subL_cons rfl (subL_cons rfl subL_nil))))))))), (subL_cons rfl subL_nil), (subL_cons rfl (subL_cons rfl (subL_cons rfl subL_nil)))⟩ | fail) | fail)
  all_goals (try (((simp_all [sameF, sameGo, eqDim, encDim, eqDs, eqD, at_drop, List.drop_eq_nil_of_le]) <;> first | omega | (rw [Bool.eq_iff_iff]; simp; omega) | grind); done))
theorem c121 (a b : List Attr) : CallA Tryz.prog 121 [.one (.d (encAttrs a)), .one (.d (encAttrs b))] [] (.one (.d (.bool (sameF eqAttr a b)))) [] := by
  refine enter tabOk Tryz.func121 rfl (by decide +kernel) rfl fun hok w0 σ0 φ0 M => ?_
  have h1 := hok.1.sl; have h2 := hok.2.1.sl; clear hok; simp only [List.length_map] at h1 h2; replace h1 := h1.1; replace h2 := h2.1
  repeat' (first | (show OkOps _ _ _ _ _ _; first | refine okops_nil ?_ | refine s_plain tabOk rfl rfl rfl rfl rfl ?_ | (show OkOps _ _ _ (Oper.mk _ (Op.binOp .add _ _ _ _) _ _ _ (_) :: _) _ _; first | refine s_e envOk rfl rfl rfl (step3_add rfl rfl rfl rfl (wrap64 (by omega) (by omega))) ?_ | fail) | fail) | (show OkC _ _ _ _ _; first | refine ok_seq ?_ | refine ok_region ?_ | refine ok_block ?_ | refine ok_skip ?_ | refine ok_ret ?_ | refine ok_exit ?_ | refine ok_cond rfl (fun h => ?_) (fun h => ?_) | refine ok_regionD progOk.mo ?_ | refine s_loop 4 rfl [(0, _), (1, _), (12, _)] (subL_cons rfl (subL_cons rfl (subL_cons rfl subL_nil))) (fun (k : Nat) => [(13, .one (.d (.int .i64 k)))]) (fun (k : Nat) => k ≤ a.length ∧ a.length = b.length ∧ sameF eqAttr a b = sameGo eqAttr (a.drop k) (b.drop k)) (fun (k : Nat) => a.length - k) 0 (subL_cons rfl subL_nil) ?_ (fun k ⟨hk, hq, hs⟩ => ?_) | fail) | (show thenQ _ _ _ _; first | refine then_n ?_ | refine then_r ?_ | refine then_x ?_ | fail) | (show blockQ _ _ _ _; first | refine block_n ?_ | refine block_r ?_ | refine block_x rfl ?_ | fail) | (show RetQ _ _ _ _ _ _; first | refine ret_leaf (.inl rfl) rfl rfl ?_ | fail) | (show DRun _ _ _ _ _ _ _ _; first | refine d_nil (by kernel_rfl) ?_ | refine d_e envOk rfl rfl rfl (step3_plain rfl rfl) ?_ | (show DRun _ _ _ _ (Oper.mk _ (Op.indexAddr _ _ _) _ _ _ (_) :: _) _ _ _; first | refine d_e envOk rfl rfl rfl (step3_idx rfl rfl rfl rfl rfl (by first | omega | ((try simp only [decide_eq_true_eq, decide_eq_false_iff_not, Bool.not_eq_true', Bool.not_true, Bool.not_false, List.length_map, List.length_set, bne_iff_ne, ne_eq, beq_iff_eq, bne_eq_false_iff_eq, beq_eq_false_iff_ne] at *); omega)) (at_map (by first | omega | ((try simp only [decide_eq_true_eq, decide_eq_false_iff_not, Bool.not_eq_true', Bool.not_true, Bool.not_false, List.length_map, List.length_set, bne_iff_ne, ne_eq, beq_iff_eq, bne_eq_false_iff_eq, beq_eq_false_iff_ne] at *); omega)))) ?_ | fail) | refine d_e envOk rfl rfl rfl rfl ?_ | fail) | (show Exists _; first | refine Exists.intro (k + 1) ⟨?_, ?_, (by first | exact subL_nil | exact (subL_cons rfl subL_nil) | exact (subL_cons rfl (subL_cons rfl subL_nil)) | exact (subL_cons rfl (subL_cons rfl (subL_cons rfl subL_nil))) | exact (subL_cons rfl (subL_cons rfl (subL_cons rfl (subL_cons rfl subL_nil)))) | exact (subL_cons rfl (subL_cons rfl (subL_cons rfl (subL_cons rfl (subL_cons rfl subL_nil))))) | exact (subL_cons rfl (subL_cons rfl (subL_cons rfl (subL_cons rfl (subL_cons rfl (subL_cons rfl subL_nil)))))) | exact (subL_cons rfl (subL_cons rfl (subL_cons rfl (subL_cons rfl (subL_cons rfl (subL_cons rfl (subL_cons rfl subL_nil))))))) | exact (subL_cons rfl (subL_cons rfl (subL_cons rfl (subL_cons rfl (subL_cons rfl (subL_cons rfl (subL_cons rfl (subL_cons rfl subL_nil))))))))), (subL_cons rfl subL_nil), (subL_cons rfl (subL_cons rfl (subL_cons rfl subL_nil)))⟩ | fail) | fail)
  all_goals (try (((simp_all [sameF, sameGo, eqAttr, encAttr, eqDs, eqD, at_drop, List.drop_eq_nil_of_le]) <;> first | omega | (rw [Bool.eq_iff_iff]; simp; omega) | grind); done))
theorem c124 (a b : List Int) : CallA Tryz.prog 124 [.one (.d (encInts a)), .one (.d (encInts b))] [] (.one (.d (.bool (sameF (fun x y => x == y) a b)))) [] := by
  refine enter tabOk Tryz.func124 rfl (by decide +kernel) rfl fun hok w0 σ0 φ0 M => ?_
  have h1 := hok.1.sl; have h2 := hok.2.1.sl; clear hok; simp only [List.length_map] at h1 h2; replace h1 := h1.1; replace h2 := h2.1
  repeat' (first | (show OkOps _ _ _ _ _ _; first | refine okops_nil ?_ | refine s_plain tabOk rfl rfl rfl rfl rfl ?_ | (show OkOps _ _ _ (Oper.mk _ (Op.binOp .add _ _ _ _) _ _ _ (_) :: _) _ _; first | refine s_e envOk rfl rfl rfl (step3_add rfl rfl rfl rfl (wrap64 (by omega) (by omega))) ?_ | fail) | fail) | (show OkC _ _ _ _ _; first | refine ok_seq ?_ | refine ok_region ?_ | refine ok_block ?_ | refine ok_skip ?_ | refine ok_ret ?_ | refine ok_exit ?_ | refine ok_cond rfl (fun h => ?_) (fun h => ?_) | refine ok_regionD progOk.mo ?_ | refine s_loop 4 rfl [(0, _), (1, _), (12, _)] (subL_cons rfl (subL_cons rfl (subL_cons rfl subL_nil))) (fun (k : Nat) => [(13, .one (.d (.int .i64 k)))]) (fun (k : Nat) => k ≤ a.length ∧ a.length = b.length ∧ sameF (fun x y => x == y) a b = sameGo (fun x y => x == y) (a.drop k) (b.drop k)) (fun (k : Nat) => a.length - k) 0 (subL_cons rfl subL_nil) ?_ (fun k ⟨hk, hq, hs⟩ => ?_) | fail) | (show thenQ _ _ _ _; first | refine then_n ?_ | refine then_r ?_ | refine then_x ?_ | fail) | (show blockQ _ _ _ _; first | refine block_n ?_ | refine block_r ?_ | refine block_x rfl ?_ | fail) | (show RetQ _ _ _ _ _ _; first | refine ret_leaf (.inl rfl) rfl rfl ?_ | fail) | (show DRun _ _ _ _ _ _ _ _; first | refine d_nil (by kernel_rfl) ?_ | refine d_e envOk rfl rfl rfl (step3_plain rfl rfl) ?_ | (show DRun _ _ _ _ (Oper.mk _ (Op.indexAddr _ _ _) _ _ _ (_) :: _) _ _ _; first | refine d_e envOk rfl rfl rfl (step3_idx rfl rfl rfl rfl rfl (by first | omega | ((try simp only [decide_eq_true_eq, decide_eq_false_iff_not, Bool.not_eq_true', Bool.not_true, Bool.not_false, List.length_map, List.length_set, bne_iff_ne, ne_eq, beq_iff_eq, bne_eq_false_iff_eq, beq_eq_false_iff_ne] at *); omega)) (at_map (by first | omega | ((try simp only [decide_eq_true_eq, decide_eq_false_iff_not, Bool.not_eq_true', Bool.not_true, Bool.not_false, List.length_map, List.length_set, bne_iff_ne, ne_eq, beq_iff_eq, bne_eq_false_iff_eq, beq_eq_false_iff_ne] at *); omega)))) ?_ | fail) | fail) | (show Exists _; first | refine Exists.intro (k + 1) ⟨?_, ?_, (by first | exact subL_nil | exact (subL_cons rfl subL_nil) | exact (subL_cons rfl (subL_cons rfl subL_nil)) | exact (subL_cons rfl (subL_cons rfl (subL_cons rfl subL_nil))) | exact (subL_cons rfl (subL_cons rfl (subL_cons rfl (subL_cons rfl subL_nil)))) | exact (subL_cons rfl (subL_cons rfl (subL_cons rfl (subL_cons rfl (subL_cons rfl subL_nil))))) | exact (subL_cons rfl (subL_cons rfl (subL_cons rfl (subL_cons rfl (subL_cons rfl (subL_cons rfl subL_nil)))))) | exact (subL_cons rfl (subL_cons rfl (subL_cons rfl (subL_cons rfl (subL_cons rfl (subL_cons rfl (subL_cons rfl subL_nil))))))) | exact (subL_cons rfl (subL_cons rfl (subL_cons rfl (subL_cons rfl (subL_cons rfl (subL_cons rfl (subL_cons rfl (subL_cons rfl subL_nil))))))))), (subL_cons rfl subL_nil), (subL_cons rfl (subL_cons rfl (subL_cons rfl subL_nil)))⟩ | fail) | fail)
  all_goals (try (((simp_all [sameF, sameGo, at_drop, List.drop_eq_nil_of_le]) <;> first | omega | (rw [Bool.eq_iff_iff]; simp; omega) | grind); done))
theorem c125 (a b : List Val) : CallA Tryz.prog 125 [.one (.d (encVals a)), .one (.d (encVals b))] [] (.one (.d (.bool (sameF eqVal a b)))) [] := by
  refine enter tabOk Tryz.func125 rfl (by decide +kernel) rfl fun hok w0 σ0 φ0 M => ?_
  have h1 := hok.1.sl; have h2 := hok.2.1.sl; clear hok; simp only [List.length_map] at h1 h2; replace h1 := h1.1; replace h2 := h2.1
  repeat' (first | (show OkOps _ _ _ _ _ _; first | refine okops_nil ?_ | refine s_plain tabOk rfl rfl rfl rfl rfl ?_ | (show OkOps _ _ _ (Oper.mk _ (Op.binOp .add _ _ _ _) _ _ _ (_) :: _) _ _; first | refine s_e envOk rfl rfl rfl (step3_add rfl rfl rfl rfl (wrap64 (by omega) (by omega))) ?_ | fail) | fail) | (show OkC _ _ _ _ _; first | refine ok_seq ?_ | refine ok_region ?_ | refine ok_block ?_ | refine ok_skip ?_ | refine ok_ret ?_ | refine ok_exit ?_ | refine ok_cond rfl (fun h => ?_) (fun h => ?_) | refine ok_regionD progOk.mo ?_ | refine s_loop 4 rfl [(0, _), (1, _), (12, _)] (subL_cons rfl (subL_cons rfl (subL_cons rfl subL_nil))) (fun (k : Nat) => [(13, .one (.d (.int .i64 k)))]) (fun (k : Nat) => k ≤ a.length ∧ a.length = b.length ∧ sameF eqVal a b = sameGo eqVal (a.drop k) (b.drop k)) (fun (k : Nat) => a.length - k) 0 (subL_cons rfl subL_nil) ?_ (fun k ⟨hk, hq, hs⟩ => ?_) | fail) | (show thenQ _ _ _ _; first | refine then_n ?_ | refine then_r ?_ | refine then_x ?_ | fail) | (show blockQ _ _ _ _; first | refine block_n ?_ | refine block_r ?_ | refine block_x rfl ?_ | fail) | (show RetQ _ _ _ _ _ _; first | refine ret_leaf (.inl rfl) rfl rfl ?_ | fail) | (show DRun _ _ _ _ _ _ _ _; first | refine d_nil (by kernel_rfl) ?_ | refine d_e envOk rfl rfl rfl (step3_plain rfl rfl) ?_ | (show DRun _ _ _ _ (Oper.mk _ (Op.indexAddr _ _ _) _ _ _ (_) :: _) _ _ _; first | refine d_e envOk rfl rfl rfl (step3_idx rfl rfl rfl rfl rfl (by first | omega | ((try simp only [decide_eq_true_eq, decide_eq_false_iff_not, Bool.not_eq_true', Bool.not_true, Bool.not_false, List.length_map, List.length_set, bne_iff_ne, ne_eq, beq_iff_eq, bne_eq_false_iff_eq, beq_eq_false_iff_ne] at *); omega)) (at_map (by first | omega | ((try simp only [decide_eq_true_eq, decide_eq_false_iff_not, Bool.not_eq_true', Bool.not_true, Bool.not_false, List.length_map, List.length_set, bne_iff_ne, ne_eq, beq_iff_eq, bne_eq_false_iff_eq, beq_eq_false_iff_ne] at *); omega)))) ?_ | fail) | refine d_e envOk rfl rfl rfl rfl ?_ | fail) | (show Exists _; first | refine Exists.intro (k + 1) ⟨?_, ?_, (by first | exact subL_nil | exact (subL_cons rfl subL_nil) | exact (subL_cons rfl (subL_cons rfl subL_nil)) | exact (subL_cons rfl (subL_cons rfl (subL_cons rfl subL_nil))) | exact (subL_cons rfl (subL_cons rfl (subL_cons rfl (subL_cons rfl subL_nil)))) | exact (subL_cons rfl (subL_cons rfl (subL_cons rfl (subL_cons rfl (subL_cons rfl subL_nil))))) | exact (subL_cons rfl (subL_cons rfl (subL_cons rfl (subL_cons rfl (subL_cons rfl (subL_cons rfl subL_nil)))))) | exact (subL_cons rfl (subL_cons rfl (subL_cons rfl (subL_cons rfl (subL_cons rfl (subL_cons rfl (subL_cons rfl subL_nil))))))) | exact (subL_cons rfl (subL_cons rfl (subL_cons rfl (subL_cons rfl (subL_cons rfl (subL_cons rfl (subL_cons rfl (subL_cons rfl subL_nil))))))))), (subL_cons rfl subL_nil), (subL_cons rfl (subL_cons rfl (subL_cons rfl subL_nil)))⟩ | fail) | fail)
  all_goals (try (((simp_all [sameF, sameGo, eqVal, encVal, eqDs, eqD, at_drop, List.drop_eq_nil_of_le]) <;> first | omega | (rw [Bool.eq_iff_iff]; simp; omega) | grind); done))
theorem c36 (a b : List Val) : CallA Tryz.prog 36 [.one (.d (encVals a)), .one (.d (encVals b))] [] (.one (.d (.bool (sameF eqVal a b)))) [] := by
  refine enter tabOk Tryz.func36 rfl (by decide +kernel) rfl fun hok w0 σ0 φ0 M => ?_
  have h1 := hok.1.sl; have h2 := hok.2.1.sl; clear hok; simp only [List.length_map] at h1 h2; replace h1 := h1.1; replace h2 := h2.1
  repeat' (first | (show OkOps _ _ _ _ _ _; first | refine okops_nil ?_ | refine s_plain tabOk rfl rfl rfl rfl rfl ?_ | (show OkOps _ _ _ (Oper.mk _ (Op.binOp .add _ _ _ _) _ _ _ (_) :: _) _ _; first | refine s_e envOk rfl rfl rfl (step3_add rfl rfl rfl rfl (wrap64 (by omega) (by omega))) ?_ | fail) | fail) | (show OkC _ _ _ _ _; first | refine ok_seq ?_ | refine ok_region ?_ | refine ok_block ?_ | refine ok_skip ?_ | refine ok_ret ?_ | refine ok_exit ?_ | refine ok_cond rfl (fun h => ?_) (fun h => ?_) | refine ok_regionD progOk.mo ?_ | refine s_loop 4 rfl [(0, _), (1, _)] (subL_cons rfl (subL_cons rfl subL_nil)) (fun (k : Nat) => [(5, .one (.d (.int .i64 k)))]) (fun (k : Nat) => k ≤ a.length ∧ a.length = b.length ∧ sameF eqVal a b = sameGo eqVal (a.drop k) (b.drop k)) (fun (k : Nat) => a.length - k) 0 (subL_cons rfl subL_nil) ?_ (fun k ⟨hk, hq, hs⟩ => ?_) | fail) | (show thenQ _ _ _ _; first | refine then_n ?_ | refine then_r ?_ | refine then_x ?_ | fail) | (show blockQ _ _ _ _; first | refine block_n ?_ | refine block_r ?_ | refine block_x rfl ?_ | fail) | (show RetQ _ _ _ _ _ _; first | refine ret_leaf (.inl rfl) rfl rfl ?_ | fail) | (show DRun _ _ _ _ _ _ _ _; first | refine d_nil (by kernel_rfl) ?_ | refine d_e envOk rfl rfl rfl (step3_plain rfl rfl) ?_ | (show DRun _ _ _ _ (Oper.mk _ (Op.indexAddr _ _ _) _ _ _ (_) :: _) _ _ _; first | refine d_e envOk rfl rfl rfl (step3_idx rfl rfl rfl rfl rfl (by first | omega | ((try simp only [decide_eq_true_eq, decide_eq_false_iff_not, Bool.not_eq_true', Bool.not_true, Bool.not_false, List.length_map, List.length_set, bne_iff_ne, ne_eq, beq_iff_eq, bne_eq_false_iff_eq, beq_eq_false_iff_ne] at *); omega)) (at_map (by first | omega | ((try simp only [decide_eq_true_eq, decide_eq_false_iff_not, Bool.not_eq_true', Bool.not_true, Bool.not_false, List.length_map, List.length_set, bne_iff_ne, ne_eq, beq_iff_eq, bne_eq_false_iff_eq, beq_eq_false_iff_ne] at *); omega)))) ?_ | fail) | refine d_e envOk rfl rfl rfl rfl ?_ | fail) | (show Exists _; first | refine Exists.intro (k + 1) ⟨?_, ?_, (by first | exact subL_nil | exact (subL_cons rfl subL_nil) | exact (subL_cons rfl (subL_cons rfl subL_nil)) | exact (subL_cons rfl (subL_cons rfl (subL_cons rfl subL_nil))) | exact (subL_cons rfl (subL_cons rfl (subL_cons rfl (subL_cons rfl subL_nil)))) | exact (subL_cons rfl (subL_cons rfl (subL_cons rfl (subL_cons rfl (subL_cons rfl subL_nil))))) | exact (subL_cons rfl (subL_cons rfl (subL_cons rfl (subL_cons rfl (subL_cons rfl (subL_cons rfl subL_nil)))))) | exact (subL_cons rfl (subL_cons rfl (subL_cons rfl (subL_cons rfl (subL_cons rfl (subL_cons rfl (subL_cons rfl subL_nil))))))) | exact (subL_cons rfl (subL_cons rfl (subL_cons rfl (subL_cons rfl (subL_cons rfl (subL_cons rfl (subL_cons rfl (subL_cons rfl subL_nil))))))))), (subL_cons rfl subL_nil), (subL_cons rfl (subL_cons rfl subL_nil))⟩ | fail) | fail)
  all_goals (try (((simp_all [sameF, sameGo, eqVal, encVal, eqDs, eqD, at_drop, List.drop_eq_nil_of_le]) <;> first | omega | (rw [Bool.eq_iff_iff]; simp; omega) | grind); done))
theorem c123 (x y : Cell) : CallA Tryz.prog 123 [.agg [.d (encInts x.at'), .d (encVals x.vals)], .agg [.d (encInts y.at'), .d (encVals y.vals)]] [] (.one (.d (.bool (eqCell x y)))) [] := by
  refine enter tabOk Tryz.func123 rfl (by decide +kernel) rfl fun hok w0 σ0 φ0 M => ?_
  clear hok
  repeat' (first | (show OkOps _ _ _ _ _ _; first | refine okops_nil ?_ | refine s_plain tabOk rfl rfl rfl rfl rfl ?_ | (show OkOps _ _ _ (Oper.mk _ (_) _ _ _ (some _) :: _) _ _; first | refine s_guard rfl rfl (by first | assumption | rfl) ?_ | refine s_out rfl rfl (by first | assumption | rfl) rfl rfl ?_ | refine s_split rfl rfl rfl rfl (fun h => ?_) (fun h => ?_) | fail) | (show OkOps _ _ _ (Oper.mk _ (Op.pick _ _ _) _ _ _ (_) :: _) _ _; first | refine s_e envOk rfl rfl rfl (step3_pickT rfl rfl (by first | rfl | assumption) rfl) ?_ | refine s_e envOk rfl rfl rfl (step3_pickF rfl rfl (by first | rfl | assumption) rfl) ?_ | fail) | (show OkOps _ _ _ (Oper.mk _ (Op.call _) _ _ _ (_) :: _) _ _; first | refine s_callF rfl rfl rfl rfl rfl rfl rfl rfl (c124 _ _) rfl ?_ | refine s_callF rfl rfl rfl rfl rfl rfl rfl rfl (c125 _ _) rfl ?_ | fail) | (show OkOps _ _ _ (Oper.mk _ (Op.box _ _) _ _ _ (_) :: _) _ _; first | refine s_box 0 rfl rfl rfl rfl rfl rfl ?_ | refine s_box 1 rfl rfl rfl rfl rfl rfl ?_ | fail) | fail) | (show OkC _ _ _ _ _; first | refine ok_seq ?_ | refine ok_region ?_ | refine ok_ret ?_ | fail) | (show thenQ _ _ _ _; first | refine then_n ?_ | fail) | (show RetQ _ _ _ _ _ _; first | refine ret_leaf (.inl rfl) rfl rfl ?_ | fail) | fail)
  all_goals (try (((simp_all [eqCell, at_drop, List.drop_eq_nil_of_le]) <;> first | omega | (rw [Bool.eq_iff_iff]; simp; omega) | grind); done))
theorem c122 (a b : List Cell) : CallA Tryz.prog 122 [.one (.d (encCells a)), .one (.d (encCells b)), .one (.d (.fn 123 []))] [] (.one (.d (.bool (sameF eqCell a b)))) [] := by
  refine enter tabOk Tryz.func122 rfl (by decide +kernel) rfl fun hok w0 σ0 φ0 M => ?_
  have h1 := hok.1.sl; have h2 := hok.2.1.sl; clear hok; simp only [List.length_map] at h1 h2; replace h1 := h1.1; replace h2 := h2.1
  repeat' (first | (show OkOps _ _ _ _ _ _; first | refine okops_nil ?_ | refine s_plain tabOk rfl rfl rfl rfl rfl ?_ | (show OkOps _ _ _ (Oper.mk _ (Op.binOp .add _ _ _ _) _ _ _ (_) :: _) _ _; first | refine s_e envOk rfl rfl rfl (step3_add rfl rfl rfl rfl (wrap64 (by omega) (by omega))) ?_ | fail) | (show OkOps _ _ _ (Oper.mk _ (Op.indexAddr _ _ _) _ _ _ (_) :: _) _ _; first | refine s_e envOk rfl rfl rfl (step3_idx rfl rfl rfl rfl rfl (by first | omega | ((try simp only [decide_eq_true_eq, decide_eq_false_iff_not, Bool.not_eq_true', Bool.not_true, Bool.not_false, List.length_map, List.length_set, bne_iff_ne, ne_eq, beq_iff_eq, bne_eq_false_iff_eq, beq_eq_false_iff_ne] at *); omega)) (at_map (by first | omega | ((try simp only [decide_eq_true_eq, decide_eq_false_iff_not, Bool.not_eq_true', Bool.not_true, Bool.not_false, List.length_map, List.length_set, bne_iff_ne, ne_eq, beq_iff_eq, bne_eq_false_iff_eq, beq_eq_false_iff_ne] at *); omega)))) ?_ | fail) | (show OkOps _ _ _ (Oper.mk _ (Op.call _) _ _ _ (_) :: _) _ _; first | refine s_callF rfl rfl rfl rfl rfl rfl rfl rfl (c123 _ _) rfl ?_ | fail) | (show OkOps _ _ _ (Oper.mk _ (Op.alloc _) _ _ _ (_) :: _) _ _; first | refine s_alloc tabOk 0 rfl rfl rfl rfl rfl ?_ | refine s_alloc tabOk 1 rfl rfl rfl rfl rfl ?_ | fail) | refine s_store envOk rfl rfl rfl ?_ | fail) | (show OkC _ _ _ _ _; first | refine ok_seq ?_ | refine ok_region ?_ | refine ok_block ?_ | refine ok_skip ?_ | refine ok_ret ?_ | refine ok_exit ?_ | refine ok_cond rfl (fun h => ?_) (fun h => ?_) | refine s_loop 4 rfl [(1, _), (2, _), (15, _), (16, _)] (subL_cons rfl (subL_cons rfl (subL_cons rfl (subL_cons rfl subL_nil)))) (fun (k : Nat) => [(17, .one (.d (.int .i64 k)))]) (fun (k : Nat) => k ≤ a.length ∧ a.length = b.length ∧ sameF eqCell a b = sameGo eqCell (a.drop k) (b.drop k)) (fun (k : Nat) => a.length - k) 0 (subL_cons rfl subL_nil) ?_ (fun k ⟨hk, hq, hs⟩ => ?_) | fail) | (show thenQ _ _ _ _; first | refine then_n ?_ | refine then_r ?_ | refine then_x ?_ | fail) | (show blockQ _ _ _ _; first | refine block_n ?_ | refine block_r ?_ | refine block_x rfl ?_ | fail) | (show RetQ _ _ _ _ _ _; first | refine ret_leaf (.inl rfl) rfl rfl ?_ | fail) | (show Exists _; first | refine Exists.intro (k + 1) ⟨?_, ?_, (by first | exact subL_nil | exact (subL_cons rfl subL_nil) | exact (subL_cons rfl (subL_cons rfl subL_nil)) | exact (subL_cons rfl (subL_cons rfl (subL_cons rfl subL_nil))) | exact (subL_cons rfl (subL_cons rfl (subL_cons rfl (subL_cons rfl subL_nil)))) | exact (subL_cons rfl (subL_cons rfl (subL_cons rfl (subL_cons rfl (subL_cons rfl subL_nil))))) | exact (subL_cons rfl (subL_cons rfl (subL_cons rfl (subL_cons rfl (subL_cons rfl (subL_cons rfl subL_nil)))))) | exact (subL_cons rfl (subL_cons rfl (subL_cons rfl (subL_cons rfl (subL_cons rfl (subL_cons rfl (subL_cons rfl subL_nil))))))) | exact (subL_cons rfl (subL_cons rfl (subL_cons rfl (subL_cons rfl (subL_cons rfl (subL_cons rfl (subL_cons rfl (subL_cons rfl subL_nil))))))))), (subL_cons rfl subL_nil), (subL_cons rfl (subL_cons rfl (subL_cons rfl (subL_cons rfl subL_nil))))⟩ | fail) | fail)
  all_goals (try (((simp_all [sameF, sameGo, at_drop, List.drop_eq_nil_of_le]) <;> first | omega | (rw [Bool.eq_iff_iff]; simp; omega) | grind); done))
def spSame (a b : Arr) : Bool := chkA a == 0 && (chkA b == 0 && (sameF eqDim a.dims b.dims && (sameF eqAttr a.attrs b.attrs && sameF eqCell a.cells b.cells)))
theorem c32 (a b : Arr) : CallA Tryz.prog 32 [aggA a, aggA b] [] (.one (.d (.bool (spSame a b)))) [] := by
  unfold aggA
  refine enter tabOk Tryz.func32 rfl (by decide +kernel) rfl fun hok w0 σ0 φ0 M => ?_
  clear hok
  repeat' (first | (show OkOps _ _ _ _ _ _; first | refine okops_nil ?_ | refine s_plain tabOk rfl rfl rfl rfl rfl ?_ | (show OkOps _ _ _ (Oper.mk _ (_) _ _ _ (some _) :: _) _ _; first | refine s_guard rfl rfl (by first | assumption | rfl) ?_ | refine s_out rfl rfl (by first | assumption | rfl) rfl rfl ?_ | refine s_split rfl rfl rfl rfl (fun h => ?_) (fun h => ?_) | fail) | (show OkOps _ _ _ (Oper.mk _ (Op.pick _ _ _) _ _ _ (_) :: _) _ _; first | refine s_e envOk rfl rfl rfl (step3_pickT rfl rfl (by first | rfl | assumption) rfl) ?_ | refine s_e envOk rfl rfl rfl (step3_pickF rfl rfl (by first | rfl | assumption) rfl) ?_ | fail) | (show OkOps _ _ _ (Oper.mk _ (Op.call _) _ _ _ (_) :: _) _ _; first | refine s_callF rfl rfl rfl rfl rfl rfl rfl rfl (c59 _ _ _) rfl ?_ | refine s_callF rfl rfl rfl rfl rfl rfl rfl rfl (c120 _ _) rfl ?_ | refine s_callF rfl rfl rfl rfl rfl rfl rfl rfl (c121 _ _) rfl ?_ | refine s_callF rfl rfl rfl rfl rfl rfl rfl rfl (c122 _ _) rfl ?_ | fail) | (show OkOps _ _ _ (Oper.mk _ (Op.box _ _) _ _ _ (_) :: _) _ _; first | refine s_box 0 rfl rfl rfl rfl rfl rfl ?_ | refine s_box 1 rfl rfl rfl rfl rfl rfl ?_ | fail) | fail) | (show OkC _ _ _ _ _; first | refine ok_seq ?_ | refine ok_region ?_ | refine ok_skip ?_ | refine ok_ret ?_ | refine ok_condT rfl ?_ | refine ok_cond rfl (fun h => ?_) (fun h => ?_) | fail) | (show thenQ _ _ _ _; first | refine then_n ?_ | refine then_r ?_ | fail) | (show RetQ _ _ _ _ _ _; first | refine ret_leaf (.inl rfl) rfl rfl ?_ | fail) | fail)
  all_goals (try (((simp_all [spSame, chkA, at_drop, List.drop_eq_nil_of_le]) <;> first | omega | (rw [Bool.eq_iff_iff]; simp; omega) | grind); done))
theorem c98 (ds : List Dim) (at' : List Int) (hl : at'.length = ds.length) : CallA Tryz.prog 98 [.one (.d (encDims ds)), .one (.d (encInts at'))] [] (.one (.d (.bool (withinL ds at')))) [] := by
  refine enter tabOk Tryz.func98 rfl (by decide +kernel) rfl fun hok w0 σ0 φ0 M => ?_
  have h1 := hok.1.sl; have h2 := hok.2.1.sl; clear hok; simp only [List.length_map] at h1 h2; replace h1 := h1.1; replace h2 := h2.1
  repeat' (first | (show OkOps _ _ _ _ _ _; first | refine okops_nil ?_ | refine s_plain tabOk rfl rfl rfl rfl rfl ?_ | (show OkOps _ _ _ (Oper.mk _ (_) _ _ _ (some _) :: _) _ _; first | refine s_guard rfl rfl (by first | assumption | rfl) ?_ | refine s_out rfl rfl (by first | assumption | rfl) rfl rfl ?_ | refine s_split rfl rfl rfl rfl (fun h => ?_) (fun h => ?_) | fail) | (show OkOps _ _ _ (Oper.mk _ (Op.binOp .add _ _ _ _) _ _ _ (_) :: _) _ _; first | refine s_e envOk rfl rfl rfl (step3_add rfl rfl rfl rfl (wrap64 (by omega) (by omega))) ?_ | fail) | (show OkOps _ _ _ (Oper.mk _ (Op.pick _ _ _) _ _ _ (_) :: _) _ _; first | refine s_e envOk rfl rfl rfl (step3_pickT rfl rfl (by first | rfl | assumption) rfl) ?_ | refine s_e envOk rfl rfl rfl (step3_pickF rfl rfl (by first | rfl | assumption) rfl) ?_ | fail) | (show OkOps _ _ _ (Oper.mk _ (Op.indexAddr _ _ _) _ _ _ (_) :: _) _ _; first | refine s_e envOk rfl rfl rfl (step3_idx rfl rfl rfl rfl rfl (by first | omega | ((try simp only [decide_eq_true_eq, decide_eq_false_iff_not, Bool.not_eq_true', Bool.not_true, Bool.not_false, List.length_map, List.length_set, bne_iff_ne, ne_eq, beq_iff_eq, bne_eq_false_iff_eq, beq_eq_false_iff_ne] at *); omega)) (at_map (by first | omega | ((try simp only [decide_eq_true_eq, decide_eq_false_iff_not, Bool.not_eq_true', Bool.not_true, Bool.not_false, List.length_map, List.length_set, bne_iff_ne, ne_eq, beq_iff_eq, bne_eq_false_iff_eq, beq_eq_false_iff_ne] at *); omega)))) ?_ | fail) | fail) | (show OkC _ _ _ _ _; first | refine ok_seq ?_ | refine ok_region ?_ | refine ok_block ?_ | refine ok_skip ?_ | refine ok_ret ?_ | refine ok_exit ?_ | refine ok_condT rfl ?_ | refine ok_cond rfl (fun h => ?_) (fun h => ?_) | refine s_loop 2 rfl [(0, _), (7, _), (8, _)] (subL_cons rfl (subL_cons rfl (subL_cons rfl subL_nil))) (fun (k : Nat) => [(9, .one (.d (.int .i64 k)))]) (fun (k : Nat) => k ≤ at'.length ∧ at'.length = ds.length ∧ withinL ds at' = withinL (ds.drop k) (at'.drop k)) (fun (k : Nat) => ds.length - k) 0 (subL_cons rfl subL_nil) ?_ (fun k ⟨hk, hq, hs⟩ => ?_) | fail) | (show thenQ _ _ _ _; first | refine then_n ?_ | refine then_r ?_ | refine then_x ?_ | fail) | (show blockQ _ _ _ _; first | refine block_n ?_ | refine block_r ?_ | refine block_x rfl ?_ | fail) | (show RetQ _ _ _ _ _ _; first | refine ret_leaf (.inl rfl) rfl rfl ?_ | fail) | (show Exists _; first | refine Exists.intro (k + 1) ⟨?_, ?_, (by first | exact subL_nil | exact (subL_cons rfl subL_nil) | exact (subL_cons rfl (subL_cons rfl subL_nil)) | exact (subL_cons rfl (subL_cons rfl (subL_cons rfl subL_nil))) | exact (subL_cons rfl (subL_cons rfl (subL_cons rfl (subL_cons rfl subL_nil)))) | exact (subL_cons rfl (subL_cons rfl (subL_cons rfl (subL_cons rfl (subL_cons rfl subL_nil))))) | exact (subL_cons rfl (subL_cons rfl (subL_cons rfl (subL_cons rfl (subL_cons rfl (subL_cons rfl subL_nil)))))) | exact (subL_cons rfl (subL_cons rfl (subL_cons rfl (subL_cons rfl (subL_cons rfl (subL_cons rfl (subL_cons rfl subL_nil))))))) | exact (subL_cons rfl (subL_cons rfl (subL_cons rfl (subL_cons rfl (subL_cons rfl (subL_cons rfl (subL_cons rfl (subL_cons rfl subL_nil))))))))), (subL_cons rfl subL_nil), (subL_cons rfl (subL_cons rfl (subL_cons rfl subL_nil)))⟩ | fail) | fail)
  all_goals (try (((simp_all [withinL, lastF, at_drop, List.drop_eq_nil_of_le]) <;> first | omega | (rw [Bool.eq_iff_iff]; simp; omega) | grind); done))
end Go.Proofs.YtpejdgkaapnekaaGreat
namespace Go.Proofs.YtpejdgkaapnekaaGreat
open Go Go.Abs
attribute [local irreducible] OkOps OkC DRun thenQ blockQ RetQ
set_option maxRecDepth 10000
theorem c181e (id n : Nat) (cs : List Cell) (rows : List (List D)) (hr : rows = cs.map encCell) (hn : n = cs.length) (hd : cs.Pairwise diffC) :
    CallA Tryz.prog 181 [.one (.own id n), .one (.d (.fn 182 []))] [(id, .row 2 48 rows)] (.tup []) [(id, .row 2 48 ((sortF cs).map encCell))] := by
  subst hr; subst hn
  exact c181 id cs (sortF cs) (sort_uniq hd)
theorem s_sort {w0 : World} {σ0 : Sig} {φ0 : Pl} {M : Nat → Prop} {n : Nat} {rd : Option Nat} {mk : List Deferred} {ops : Array Oper} {o : Oper} {rest : List Oper} {fr : List (Nat × AV)} {sto : Sto} {K : St → Prop} {d m : Nat} {fop x y : Operand} {ats : Array TypeId} {rows : List (List D)} (id : Nat) (cs : List Cell)
    (ho : o.op = .call { callee := .value fop, args := ⟨[x, y]⟩, argTypes := ats }) (hg : o.guard = none) (hdst : o.dst = some d) (hdn : Nat.blt d n = true) (hf : ev ⟨fr, sto⟩ fop = some (.one (.d (.fn 181 [])))) (hx : ev ⟨fr, sto⟩ x = some (.one (.own id m))) (hy : ev ⟨fr, sto⟩ y = some (.one (.d (.fn 182 []))))
    (hl : Abs.look sto id = some (.row 2 48 rows)) (hr : rows = cs.map encCell) (hn : m = cs.length) (hd : cs.Pairwise diffC) (hfr : freshRB 16 ⟨fr, sto⟩ = true)
    (h : OkOps Tryz.prog ⟨w0, σ0, φ0, M, n, rd, mk⟩ ops rest ⟨(d, .tup []) :: fr, setS id (.row 2 48 ((sortF cs).map encCell)) (del id sto)⟩ K) : OkOps Tryz.prog ⟨w0, σ0, φ0, M, n, rd, mk⟩ ops (o :: rest) ⟨fr, sto⟩ K := by
  refine s_callM 16 [(1000000, id)] (rav' := .tup []) (sto' := setS id (.row 2 48 ((sortF cs).map encCell)) (del id sto)) (c181e 1000000 m cs rows hr hn hd) ho hg hdst hdn hf ?_ ⟨⟨id, rfl, hl⟩, trivial⟩ ⟨fun i e h1 h2 => ?_, trivial⟩ rfl hfr rfl rfl h
  · show evL ⟨fr, sto⟩ [x, y] = _
    simp only [evL, hx, hy]
    rfl
  · have e1 : some id = some i := h1
    cases e1
    rw [hl] at h2
    cases h2
    refine ⟨rfl, rfl, ?_⟩
    rw [hr, List.length_map, List.length_map, sortF_length]
    exact Nat.le_refl _
theorem row_next {α β : Type} [Inhabited α] (f : α → β) (l : List α) {k : Nat} (h : k < l.length) : ((l.take k).map f).take k ++ [f (at_ l k)] = (l.take (k + 1)).map f := by
  rw [List.take_succ_eq_append_getElem h, List.map_append, List.take_of_length_le (by simp; omega)]
  simp [at_, h]
def arrE : Option Arr × Int → AV
  | (none, e) => .tup [(true, [.d .nil, .d .nil, .d .nil]), (false, [.d (.int .i64 e)])]
  | (some a, e) => .tup [(true, [.d (encDims a.dims), .d (encAttrs a.attrs), .d (encCells a.cells)]), (false, [.d (.int .i64 e)])]
theorem take_all {α β : Type} (f : α → β) {l : List α} {k : Nat} (h : l.length ≤ k) : (l.take k).map f = l.map f := by rw [List.take_of_length_le h]
theorem c99 (ds : List Dim) (ats : List Attr) (cs : List Cell) (hd : cs.Pairwise diffC) : CallA Tryz.prog 99 [.one (.d (encDims ds)), .one (.d (encAttrs ats)), .one (.d (encCells cs))] [] (arrE (resF ds ats cs)) [] := by
  refine enter tabOk Tryz.func99 rfl (by decide +kernel) rfl fun hok w0 σ0 φ0 M => ?_
  have h1 := hok.2.2.1.sl; clear hok; simp only [List.length_map] at h1; replace h1 := h1.1
  by_cases h4 : 4096 < (cs.length : Int)
  · have hb : decide (4096 < ((cs.map encCell).length : Int)) = true := by simpa using h4
    simp only [resF, if_pos h4, arrE]
    repeat' (first | (show OkOps _ _ _ _ _ _; first | refine okops_nil ?_ | refine s_plain tabOk rfl rfl rfl rfl rfl ?_ | (show OkOps _ _ _ (Oper.mk _ (Op.alloc _) _ _ _ (_) :: _) _ _; first | refine s_alloc tabOk 0 rfl rfl rfl rfl rfl ?_ | fail) | refine s_store envOk rfl rfl rfl ?_ | fail) | (show OkC _ _ _ _ _; first | refine ok_seq ?_ | refine ok_region ?_ | refine ok_ret ?_ | refine ok_condKT rfl (by assumption) ?_ | fail) | (show thenQ _ _ _ _; first | refine then_n ?_ | refine then_r ?_ | fail) | (show RetQ _ _ _ _ _ _; first | refine ret_leaf (.inl rfl) rfl rfl ?_ | fail) | fail)
    all_goals rfl
  · have hb : decide (4096 < ((cs.map encCell).length : Int)) = false := by simpa using h4
    simp only [resF, if_neg h4, arrE]
    repeat' (first | (show OkOps _ _ _ _ _ _; first | (show OkOps _ _ _ (Oper.mk _ (Op.call _) _ _ _ (_) :: _) _ _; first | refine s_sort 10 cs rfl rfl rfl rfl rfl rfl rfl rfl (hr.trans (take_all _ (by first | omega | (simp only [decide_eq_true_eq, decide_eq_false_iff_not, List.length_map] at *; omega)))) (by first | omega | (simp only [decide_eq_true_eq, decide_eq_false_iff_not, List.length_map] at *; omega)) hd rfl ?_ | fail) | refine okops_nil ?_ | refine s_plain tabOk rfl rfl rfl rfl rfl ?_ | (show OkOps _ _ _ (Oper.mk _ (Op.binOp .add _ _ _ _) _ _ _ (_) :: _) _ _; first | refine s_e envOk rfl rfl rfl (step3_add rfl rfl rfl rfl (wrap64 (by omega) (by omega))) ?_ | fail) | (show OkOps _ _ _ (Oper.mk _ (Op.indexAddr _ _ _) _ _ _ (_) :: _) _ _; first | refine s_e envOk rfl rfl rfl (step3_idx rfl rfl rfl rfl rfl (by first | omega | ((try simp only [decide_eq_true_eq, decide_eq_false_iff_not, Bool.not_eq_true', Bool.not_true, Bool.not_false, List.length_map, List.length_set, bne_iff_ne, ne_eq, beq_iff_eq, bne_eq_false_iff_eq, beq_eq_false_iff_ne] at *); omega)) (at_map (by first | omega | ((try simp only [decide_eq_true_eq, decide_eq_false_iff_not, Bool.not_eq_true', Bool.not_true, Bool.not_false, List.length_map, List.length_set, bne_iff_ne, ne_eq, beq_iff_eq, bne_eq_false_iff_eq, beq_eq_false_iff_ne] at *); omega)))) ?_ | fail) | (show OkOps _ _ _ (Oper.mk _ (Op.call _) _ _ _ (_) :: _) _ _; first | refine s_callD 16 rfl rfl rfl rfl rfl rfl rfl rfl (c97 _) rfl rfl rfl ?_ | refine s_callD 16 rfl rfl rfl rfl rfl rfl rfl rfl (c145 _) rfl rfl rfl ?_ | fail) | (show OkOps _ _ _ (Oper.mk _ (Op.alloc _) _ _ _ (_) :: _) _ _; first | refine s_alloc tabOk 0 rfl rfl rfl rfl rfl ?_ | refine s_alloc tabOk 1 rfl rfl rfl rfl rfl ?_ | refine s_alloc tabOk 2 rfl rfl rfl rfl rfl ?_ | fail) | refine s_store envOk rfl rfl rfl ?_ | fail) | (show OkC _ _ _ _ _; first | refine okc_imp (imp_sealL (dl := [10]) rfl) (ok_ret ?_) | refine ok_seq ?_ | refine ok_region ?_ | refine ok_block ?_ | refine ok_skip ?_ | refine ok_exit ?_ | refine ok_condKF rfl (by assumption) ?_ | refine ok_cond rfl (fun h => ?_) (fun h => ?_) | refine ok_regionD progOk.mo ?_ | refine s_loopN 5 rfl (imp_adoptJ 1 2 10 (k := 2) (b := 48) rfl rfl (by kernel_rfl)) [(6, _), (8, _), (20, _), (21, _)] (subL_cons rfl (subL_cons rfl (subL_cons rfl (subL_cons rfl subL_nil)))) (fun (bN : Bool × Bool) (p : Nat × List (List D)) => [(22, .one (.d (.int .i64 (p.1 : Int))))]) (fun (bN : Bool × Bool) (p : Nat × List (List D)) => [(1, .box [.d (encDims ds), .d (encAttrs ats), .own (nmA bN) p.1]), ((nmA bN), .row 2 48 p.2), (0, .box [.d .nil, .d .nil, .d .nil])]) (fun (p : Nat × List (List D)) => p.1 ≤ cs.length ∧ p.2 = (cs.take p.1).map encCell) (fun (p : Nat × List (List D)) => cs.length - p.1) (0, []) (subL_cons rfl subL_nil) (by first | exact subL_nil | exact (subL_cons rfl subL_nil) | exact (subL_cons rfl (subL_cons rfl subL_nil)) | exact (subL_cons rfl (subL_cons rfl (subL_cons rfl subL_nil))) | exact (subL_cons rfl (subL_cons rfl (subL_cons rfl (subL_cons rfl subL_nil)))) | exact (subL_cons rfl (subL_cons rfl (subL_cons rfl (subL_cons rfl (subL_cons rfl subL_nil))))) | exact (subL_cons rfl (subL_cons rfl (subL_cons rfl (subL_cons rfl (subL_cons rfl (subL_cons rfl subL_nil)))))) | exact (subL_cons rfl (subL_cons rfl (subL_cons rfl (subL_cons rfl (subL_cons rfl (subL_cons rfl (subL_cons rfl subL_nil))))))) | exact (subL_cons rfl (subL_cons rfl (subL_cons rfl (subL_cons rfl (subL_cons rfl (subL_cons rfl (subL_cons rfl (subL_cons rfl subL_nil))))))))) (fun b y => by obtain ⟨b1, b2⟩ := b; cases b1 <;> cases b2 <;> first | exact Imp.refl _ | exact imp_ren qN (by kernel_rfl)) ?_ (fun p ⟨hk, hr⟩ => ?_) | fail) | (show thenQ _ _ _ _; first | refine then_n ?_ | refine then_x ?_ | fail) | (show blockQ _ _ _ _; first | refine block_n ?_ | refine block_x rfl ?_ | fail) | (show RetQ _ _ _ _ _ _; first | refine ret_leaf (.inl rfl) rfl rfl ?_ | fail) | (show DRun _ _ _ _ _ _ _ _; first | (show DRun _ _ _ _ (Oper.mk _ (Op.call _) _ _ _ (_) :: _) _ _ _; first | refine d_new envOk 11 rfl rfl rfl (step3_appendB (i := 10) rfl rfl rfl rfl rfl rfl rfl rfl (by first | omega | ((try simp only [decide_eq_true_eq, decide_eq_false_iff_not, List.length_map, List.length_cons, List.length_nil, List.length_append, Int.toNat_natCast] at *); omega)) (by first | exact Nat.le_of_ble_eq_true rfl | omega | ((try simp only [decide_eq_true_eq, decide_eq_false_iff_not, List.length_map, List.length_cons, List.length_nil, List.length_append, Int.toNat_natCast] at *); omega)) (Nat.le_of_ble_eq_true rfl)) rfl rfl ?_ | fail) | refine d_nil (by kernel_rfl) ?_ | refine d_e envOk rfl rfl rfl (step3_plain rfl rfl) ?_ | (show DRun _ _ _ _ (Oper.mk _ (Op.call _) _ _ _ (_) :: _) _ _ _; first | refine d_callD 16 rfl rfl rfl rfl rfl rfl rfl rfl (c129 _) rfl rfl ?_ | refine d_callD 16 rfl rfl rfl rfl rfl rfl rfl rfl (c144 _) rfl rfl ?_ | fail) | refine d_new envOk 3 rfl rfl rfl rfl rfl rfl ?_ | refine d_store envOk rfl rfl rfl ?_ | fail) | (show Exists _; first | refine Exists.intro ((p.1 + 1, p.2.take p.1 ++ [encCell (at_ cs p.1)])) (Exists.intro (true, false) ⟨?_, ?_, (by first | exact subL_nil | exact (subL_cons rfl subL_nil) | exact (subL_cons rfl (subL_cons rfl subL_nil)) | exact (subL_cons rfl (subL_cons rfl (subL_cons rfl subL_nil))) | exact (subL_cons rfl (subL_cons rfl (subL_cons rfl (subL_cons rfl subL_nil)))) | exact (subL_cons rfl (subL_cons rfl (subL_cons rfl (subL_cons rfl (subL_cons rfl subL_nil))))) | exact (subL_cons rfl (subL_cons rfl (subL_cons rfl (subL_cons rfl (subL_cons rfl (subL_cons rfl subL_nil)))))) | exact (subL_cons rfl (subL_cons rfl (subL_cons rfl (subL_cons rfl (subL_cons rfl (subL_cons rfl (subL_cons rfl subL_nil))))))) | exact (subL_cons rfl (subL_cons rfl (subL_cons rfl (subL_cons rfl (subL_cons rfl (subL_cons rfl (subL_cons rfl (subL_cons rfl subL_nil))))))))), (subL_cons rfl subL_nil), (subL_cons rfl (subL_cons rfl (subL_cons rfl (subL_cons rfl subL_nil))))⟩) | fail) | fail)
    · exact ⟨Nat.zero_le _, rfl⟩
    · have hlt : p.1 < cs.length := by simpa using h
      exact ⟨hlt, by show p.2.take p.1 ++ _ = _; rw [hr]; exact row_next _ _ hlt⟩
    · have hlt : p.1 < cs.length := by simpa using h
      show cs.length - (p.1 + 1) < cs.length - p.1
      omega
    · have hge : cs.length ≤ p.1 := by simpa using h
      show AV.tup [(true, [.d (encDims ds), .d (encAttrs ats), .d (.sl 2 48 (((sortF cs).map encCell).take p.1))]), _] = _
      rw [List.take_of_length_le (by simp only [List.length_map, sortF_length]; exact hge)]
      rfl
theorem c97o (l : List Dim) (hne : 0 < l.length) : CallA Tryz.prog 97 [.one (.d (encDims l))] [] (.one (.own 0 l.length)) [(0, .row 3 32 (l.map encDim))] := by
  refine enter tabOk Tryz.func97 rfl (by decide +kernel) rfl fun hok w0 σ0 φ0 M => ?_
  have h1 := hok.1.sl; clear hok; simp only [List.length_map] at h1
  repeat' (first | (show OkOps _ _ _ _ _ _; first | (show OkOps _ _ _ (Oper.mk _ (Op.binOp .eql _ _ _ _) _ _ _ (_) :: _) _ _; first | refine okops_isNilS tabOk rfl rfl rfl rfl rfl rfl (fun r hr => ?_) | fail) | (show OkOps _ _ _ (Oper.mk _ (Op.call _) _ _ _ (_) :: _) _ _; first | refine okops_append tabOk rfl rfl rfl rfl rfl (id := 0) rfl rfl rfl rfl rfl rfl rfl (by simp only [List.length_map, Nat.zero_add]; omega) (by simp only [List.length_map, Nat.zero_add]; omega) ?_ | fail) | refine okops_nil ?_ | refine s_plain tabOk rfl rfl rfl rfl rfl ?_ | refine s_new envOk 0 rfl rfl rfl rfl rfl rfl ?_ | fail) | (show OkC _ _ _ _ _; first | refine ok_seq ?_ | refine ok_region ?_ | refine ok_skip ?_ | refine ok_ret ?_ | refine ok_cond rfl (fun h => ?_) (fun h => ?_) | fail) | (show thenQ _ _ _ _; first | refine then_n ?_ | refine then_r ?_ | fail) | (show RetQ _ _ _ _ _ _; first | refine ret_leafS (.inl rfl) rfl rfl ?_ (by first | exact (subL_cons rfl subL_nil) | exact (subL_cons rfl (subL_cons rfl subL_nil))) | fail) | fail)
  · have e := hr (by simpa using h)
    simp only [List.map_eq_nil_iff] at e
    subst e; simp at hne
  · simp
theorem c98e (ds : List Dim) (xs : List (List D)) (at' : List Int) (hx : xs = ds.map encDim) (hl : at'.length = ds.length) : CallA Tryz.prog 98 [.one (.d (.sl 3 32 xs)), .one (.d (encInts at'))] [] (.one (.d (.bool (withinL ds at')))) [] := by
  subst hx; exact c98 ds at' hl
theorem c99e (ds : List Dim) (ats : List Attr) (cs : List Cell) (xs ys : List (List D)) (hd : cs.Pairwise diffC) (hx : xs = ds.map encDim) (hy : ys = cs.map encCell) : CallA Tryz.prog 99 [.one (.d (.sl 3 32 xs)), .one (.d (encAttrs ats)), .one (.d (.sl 2 48 ys))] [] (arrE (resF ds ats cs)) [] := by
  subst hx; subst hy; exact c99 ds ats cs hd
theorem c99k (ds : List Dim) (ats : List Attr) (cs : List Cell) (xs ys : List (List D)) (hd : cs.Pairwise diffC) (hf : cs.length ≤ 4096) (hx : xs = ds.map encDim) (hy : ys = cs.map encCell) : CallA Tryz.prog 99 [.one (.d (.sl 3 32 xs)), .one (.d (encAttrs ats)), .one (.d (.sl 2 48 ys))] [] (.tup [(true, [.d (encDims ds), .d (encAttrs ats), .d (encCells (sortF cs))]), (false, [.d (.int .i64 0)])]) [] := by
  have h := c99e ds ats cs xs ys hd hx hy
  unfold resF at h
  rw [if_neg (by omega)] at h
  exact h
end Go.Proofs.YtpejdgkaapnekaaGreat
namespace Go.Proofs.YtpejdgkaapnekaaGreat
open Go Go.Abs
def atX (ats : List Attr) (name : List UInt8) : Int := idxGo (fun a : Attr => a.name == name) ats 0
def srcF (ds : List Dim) (ats : List Attr) (name : List UInt8) : Int × Bool := if dimX ds name < 0 then (atX ats name, false) else (dimX ds name, true)
def srcT (ats : List Attr) (s : Int × Bool) : Int := bif s.2 then 2 else (at_ ats s.1.toNat).type
def ofS (s : Int × Bool) (c : Cell) : Val := bif s.2 then ⟨2, at_ c.at' s.1.toNat, 1, []⟩ else at_ c.vals s.1.toNat
def numsF (src : List (Int × Bool)) (c : Cell) : List Int := src.map fun s => (ofS s c).num
def movedF (src : List (Int × Bool)) (ds : List Dim) (c : Cell) : Option (List Int) :=
  if src.all (fun s => (ofS s c).kind == 2) then (if withinL ds (numsF src c) then some (numsF src c) else none) else none
def nextF (kept : List (Int × Bool)) (at' : List Int) (c : Cell) : Cell := ⟨at', kept.map fun s => ofS s c⟩
def hasAt (at' : List Int) (cs : List Cell) : Int := idxGo (fun x : Cell => x.at' == at') cs 0
def redStep (src kept : List (Int × Bool)) (ds : List Dim) (rule : Int) (cs : List Cell) (c : Cell) : Option (List Cell) :=
  match movedF src ds c with
  | none => some cs
  | some at' =>
    if hasAt at' cs < 0 then some (cs ++ [nextF kept at' c])
    else if rule = 1 then none
    else if rule = 3 then some (cs.set (hasAt at' cs).toNat (nextF kept at' c))
    else some cs
def redGo (src kept : List (Int × Bool)) (ds : List Dim) (rule : Int) : List Cell → List Cell → Option (List Cell)
  | cs, [] => some cs
  | cs, c :: r => match redStep src kept ds rule cs c with | none => none | some cs' => redGo src kept ds rule cs' r
def srcErr (a : Arr) : List Dim → Int
  | [] => 0
  | d :: r => if (srcF a.dims a.attrs d.name).1 < 0 then 11 else if !(srcF a.dims a.attrs d.name).2 && (at_ a.attrs (srcF a.dims a.attrs d.name).1.toNat).type != 2 then 12 else srcErr a r
def keptErr (a : Arr) : List (List UInt8) → Int
  | [] => 0
  | n :: r => if (srcF a.dims a.attrs n).1 < 0 then 11 else keptErr a r
def listF (a : Arr) (names : List (List UInt8)) : List Attr := names.map fun n => ⟨n, srcT a.attrs (srcF a.dims a.attrs n)⟩
def fromF (a : Arr) (ds : List Dim) : List (Int × Bool) := ds.map fun d => srcF a.dims a.attrs d.name
def keptF (a : Arr) (names : List (List UInt8)) : List (Int × Bool) := names.map fun n => srcF a.dims a.attrs n
def redErr (a : Arr) (ds : List Dim) (names : List (List UInt8)) : Int :=
  if srcErr a ds ≠ 0 then srcErr a ds else if keptErr a names ≠ 0 then keptErr a names else schemaF ds (listF a names)
def redF (a : Arr) (ds : List Dim) (names : List (List UInt8)) (rule : Int) : Option Arr × Int :=
  if checkF a.dims a.attrs a.cells ≠ 0 ∨ rule < 1 ∨ 3 < rule then (none, 2)
  else if redErr a ds names ≠ 0 then (none, redErr a ds names)
  else match redGo (fromF a ds) (keptF a names) ds rule [] a.cells with
    | none => (none, 19)
    | some cs => resF ds (listF a names) cs
end Go.Proofs.YtpejdgkaapnekaaGreat
namespace Go.Proofs.YtpejdgkaapnekaaGreat
open Go Go.Abs
theorem diff_keys {cs : List Cell} : cs.Pairwise diffC ↔ (cs.map Cell.at').Nodup := by
  unfold List.Nodup; rw [List.pairwise_map]; rfl
theorem idxGo_map {α β : Type} (f : α → β) (p : β → Bool) : ∀ (l : List α) (j : Nat), idxGo p (l.map f) j = idxGo (fun x => p (f x)) l j
  | [], _ => rfl
  | x :: l, j => by simp only [List.map_cons, idxGo, idxGo_map f p l (j + 1)]
theorem hasAt_keys {at' : List Int} {cs : List Cell} : hasAt at' cs = idxGo (fun k => k == at') (cs.map Cell.at') 0 := by
  unfold hasAt; rw [idxGo_map]
theorem idxGo_none {α : Type} {p : α → Bool} : ∀ {l : List α} {j : Nat}, idxGo p l j < 0 → ∀ x ∈ l, p x = false
  | [], _, _, _, h => by simp at h
  | x :: l, j, h, y, hy => by
    simp only [idxGo] at h
    split at h
    · omega
    · rename_i h1
      rcases List.mem_cons.1 hy with rfl | hy
      · simpa using h1
      · exact idxGo_none h y hy
theorem hasAt_none {at' : List Int} {cs : List Cell} (h : hasAt at' cs < 0) : ∀ x ∈ cs, x.at' ≠ at' := fun x hx => by
  have := idxGo_none h x hx
  simpa using this
theorem hasAt_some {at' : List Int} {cs : List Cell} (h : ¬ hasAt at' cs < 0) : ∃ k : Nat, hasAt at' cs = (k : Int) ∧ k < cs.length ∧ (at_ cs k).at' = at' := by
  obtain ⟨k, h1, h2, h3, _⟩ := idxGo_at h
  exact ⟨k, by unfold hasAt; rw [h1]; simp, h2, by simpa using h3⟩
theorem keys_set {cs : List Cell} {k : Nat} {y : Cell} (hk : k < cs.length) (h : (at_ cs k).at' = y.at') : (cs.set k y).map Cell.at' = cs.map Cell.at' := by
  refine at_ext (by simp) fun i hi => ?_
  simp only [List.length_map, List.length_set] at hi
  rw [at_mapN (by simpa using hi), at_mapN hi, at_set hi]
  split
  · rename_i e; subst e; exact h.symm
  · rfl
section
variable {src kept : List (Int × Bool)} {ds : List Dim} {rule : Int}
def keyStep (src : List (Int × Bool)) (ds : List Dim) (ks : List (List Int)) (c : Cell) : List (List Int) :=
  match movedF src ds c with
  | none => ks
  | some at' => if idxGo (fun k => k == at') ks 0 < 0 then ks ++ [at'] else ks
theorem step_keys {cs cs' : List Cell} {c : Cell} (h : redStep src kept ds rule cs c = some cs') : cs'.map Cell.at' = keyStep src ds (cs.map Cell.at') c := by
  cases e : movedF src ds c with
  | none => simp only [redStep, keyStep, e] at h ⊢; cases h; rfl
  | some at' =>
    simp only [redStep, keyStep, e] at h ⊢
    rw [← hasAt_keys]
    split at h
    · rename_i h1; cases h
      rw [if_pos h1]
      simp [nextF]
    · rename_i h1
      rw [if_neg h1]
      split at h
      · cases h
      split at h
      · cases h
        obtain ⟨k, h2, h3, h4⟩ := hasAt_some h1
        rw [h2, Int.toNat_natCast]
        exact keys_set h3 h4
      · cases h; rfl
theorem step_diff {cs cs' : List Cell} {c : Cell} (h : redStep src kept ds rule cs c = some cs') (hd : cs.Pairwise diffC) : cs'.Pairwise diffC := by
  rw [diff_keys] at hd ⊢
  rw [step_keys h]
  unfold keyStep
  split
  · exact hd
  · rename_i at' e
    split
    · rename_i h1
      refine List.nodup_append.2 ⟨hd, by simp, fun x hx y hy e2 => ?_⟩
      have := idxGo_none h1 x hx
      simp only [List.mem_singleton] at hy
      subst hy; subst e2
      simp at this
    · exact hd
theorem step_rule {cs cs' : List Cell} {c : Cell} (h : redStep src kept ds 1 cs c = some cs') (r : Int) : redStep src kept ds r cs c = some cs' := by
  cases e : movedF src ds c with
  | none => simp only [redStep, e] at h ⊢; exact h
  | some at' =>
    simp only [redStep, e] at h ⊢
    by_cases h1 : hasAt at' cs < 0
    · rw [if_pos h1] at h ⊢; exact h
    · rw [if_neg h1] at h; simp at h
theorem step_never {cs : List Cell} {c : Cell} (hr : rule ≠ 1) : ∃ cs', redStep src kept ds rule cs c = some cs' := by
  unfold redStep
  split
  · exact ⟨_, rfl⟩
  · rename_i at' e
    by_cases h1 : hasAt at' cs < 0
    · exact ⟨_, by rw [if_pos h1]⟩
    · rw [if_neg h1, if_neg hr]
      by_cases h3 : rule = 3
      · exact ⟨_, by rw [if_pos h3]⟩
      · exact ⟨_, by rw [if_neg h3]⟩
theorem step_all {Q : Cell → Prop} {cs cs' : List Cell} {c : Cell} (h : redStep src kept ds rule cs c = some cs') (hq : ∀ x ∈ cs, Q x) (hn : ∀ at', movedF src ds c = some at' → Q (nextF kept at' c)) : ∀ x ∈ cs', Q x := by
  unfold redStep at h
  split at h
  · cases h; exact hq
  · rename_i at' e
    have hN := hn at' e
    split at h
    · cases h
      intro x hx
      rcases List.mem_append.1 hx with hx | hx
      · exact hq x hx
      · rw [List.mem_singleton.1 hx]; exact hN
    split at h
    · cases h
    split at h
    · cases h
      intro x hx
      rcases List.mem_or_eq_of_mem_set hx with hx | rfl
      · exact hq x hx
      · exact hN
    · cases h; exact hq
theorem go_keys : ∀ {l cs cs' : List Cell}, redGo src kept ds rule cs l = some cs' → cs'.map Cell.at' = l.foldl (keyStep src ds) (cs.map Cell.at')
  | [], cs, cs', h => by cases h; rfl
  | c :: r, cs, cs', h => by
    simp only [redGo] at h
    split at h
    · cases h
    · rename_i cs1 h1
      rw [List.foldl_cons, ← step_keys h1]
      exact go_keys h
theorem go_diff : ∀ {l cs cs' : List Cell}, redGo src kept ds rule cs l = some cs' → cs.Pairwise diffC → cs'.Pairwise diffC
  | [], cs, cs', h, hd => by cases h; exact hd
  | c :: r, cs, cs', h, hd => by
    simp only [redGo] at h
    split at h
    · cases h
    · rename_i cs1 h1
      exact go_diff h (step_diff h1 hd)
theorem go_rule : ∀ {l cs cs' : List Cell}, redGo src kept ds 1 cs l = some cs' → ∀ r : Int, redGo src kept ds r cs l = some cs'
  | [], cs, cs', h, _ => h
  | c :: l, cs, cs', h, r => by
    simp only [redGo] at h ⊢
    split at h
    · cases h
    · rename_i cs1 h1
      rw [step_rule h1 r]
      exact go_rule h r
theorem go_never (hr : rule ≠ 1) : ∀ (l cs : List Cell), ∃ cs', redGo src kept ds rule cs l = some cs'
  | [], cs => ⟨cs, rfl⟩
  | c :: l, cs => by
    obtain ⟨cs1, h1⟩ := step_never (src := src) (kept := kept) (ds := ds) (rule := rule) (cs := cs) (c := c) hr
    simp only [redGo, h1]
    exact go_never hr l cs1
theorem go_all {Q : Cell → Prop} : ∀ {l cs cs' : List Cell}, redGo src kept ds rule cs l = some cs' → (∀ x ∈ cs, Q x) → (∀ c ∈ l, ∀ at', movedF src ds c = some at' → Q (nextF kept at' c)) → ∀ x ∈ cs', Q x
  | [], cs, cs', h, hq, _ => by cases h; exact hq
  | c :: l, cs, cs', h, hq, hn => by
    simp only [redGo] at h
    split at h
    · cases h
    · rename_i cs1 h1
      exact go_all h (step_all h1 hq (hn c List.mem_cons_self)) fun x hx => hn x (List.mem_cons_of_mem _ hx)
theorem keyStep_len {ks : List (List Int)} {c : Cell} : (keyStep src ds ks c).length ≤ ks.length + 1 := by
  unfold keyStep
  split
  · omega
  · split
    · simp
    · omega
theorem fold_len : ∀ {l : List Cell} {ks : List (List Int)}, (l.foldl (keyStep src ds) ks).length ≤ ks.length + l.length
  | [], ks => by simp
  | c :: l, ks => by
    rw [List.foldl_cons]
    have h1 := fold_len (l := l) (ks := keyStep src ds ks c)
    have h2 := keyStep_len (src := src) (ds := ds) (ks := ks) (c := c)
    simp only [List.length_cons]; omega
theorem go_len {l cs : List Cell} (h : redGo src kept ds rule [] l = some cs) : cs.length ≤ l.length := by
  have h1 := congrArg List.length (go_keys h)
  have h2 := fold_len (src := src) (ds := ds) (l := l) (ks := [])
  simp only [List.length_map, List.map_nil, List.length_nil] at h1 h2
  omega
theorem go_plain : ∀ {l cs : List Cell}, (∀ c ∈ l, movedF src ds c = some c.at' ∧ nextF kept c.at' c = c) → (cs ++ l).Pairwise diffC → redGo src kept ds rule cs l = some (cs ++ l)
  | [], cs, _, _ => by simp [redGo]
  | c :: l, cs, h, hd => by
    obtain ⟨h1, h2⟩ := h c List.mem_cons_self
    have hn : hasAt c.at' cs < 0 := by
      by_cases h3 : hasAt c.at' cs < 0
      · exact h3
      · obtain ⟨k, _, h4, h5⟩ := hasAt_some h3
        have := (List.pairwise_append.1 hd).2.2 _ (at_mem h4) c List.mem_cons_self
        exact absurd h5 this
    have e : redStep src kept ds rule cs c = some (cs ++ [c]) := by
      unfold redStep
      rw [h1]
      simp only [if_pos hn, h2]
    simp only [redGo, e]
    have := go_plain (l := l) (cs := cs ++ [c]) (fun x hx => h x (List.mem_cons_of_mem _ hx)) (by simpa using hd)
    simpa using this
end
theorem attrsGo_ok : ∀ {ats : List Attr} {met : List (List UInt8)}, attrsGo met ats = 0 → (∀ x ∈ ats, x.name ∉ met) ∧ (ats.map Attr.name).Nodup
  | [], _, _ => ⟨by simp, by simp⟩
  | x :: r, met, h => by
    simp only [attrsGo] at h
    split at h
    · omega
    split at h
    · omega
    rename_i h1 h2
    obtain ⟨i1, i2⟩ := attrsGo_ok h
    simp only [Bool.or_eq_true, Bool.not_eq_true', not_or, Bool.not_eq_false, Bool.not_eq_true, List.contains_eq_mem, decide_eq_true_eq, decide_eq_false_iff_not] at h1
    refine ⟨fun y hy => ?_, ?_⟩
    · rcases List.mem_cons.1 hy with rfl | hy
      · exact h1.2
      · exact fun hm => i1 y hy (List.mem_append.2 (.inl hm))
    · rw [List.map_cons, List.nodup_cons]
      refine ⟨fun hm => ?_, i2⟩
      obtain ⟨y, hy, he⟩ := List.mem_map.1 hm
      exact i1 y hy (by rw [he]; simp)
theorem valsGo_iff : ∀ {ats : List Attr} {vs : List Val}, vs.length = ats.length → (valsGo ats vs = 0 ↔ ∀ i, i < ats.length → fitsF (at_ vs i).kind (at_ vs i).num (at_ vs i).den (at_ vs i).str (at_ ats i).type = true)
  | [], [], _ => by simp [valsGo]
  | x :: ats, v :: vs, h => by
    have ih := valsGo_iff (ats := ats) (vs := vs) (by simpa using h)
    simp only [valsGo]
    constructor
    · intro h1 i hi
      split at h1
      · omega
      · rename_i h2
        cases i with
        | zero =>
          have h3 : fitsF v.kind v.num v.den v.str x.type = true := by simpa using h2
          exact h3
        | succ i => exact ih.1 h1 i (by simpa using hi)
    · intro h1
      have h0 : fitsF v.kind v.num v.den v.str x.type = true := h1 0 (by simp)
      rw [if_neg (by simp [h0])]
      exact ih.2 fun i hi => h1 (i + 1) (by simpa using hi)
  | [], _ :: _, h => by simp at h
  | _ :: _, [], h => by simp at h
theorem srcF_ok {a : Arr} {name : List UInt8} (h : ¬ (srcF a.dims a.attrs name).1 < 0) : (∃ k : Nat, srcF a.dims a.attrs name = ((k : Int), true) ∧ k < a.dims.length ∧ (at_ a.dims k).name = name) ∨ ∃ k : Nat, srcF a.dims a.attrs name = ((k : Int), false) ∧ k < a.attrs.length ∧ (at_ a.attrs k).name = name := by
  unfold srcF at h ⊢
  by_cases h1 : dimX a.dims name < 0
  · rw [if_pos h1] at h ⊢
    obtain ⟨k, h2, h3, h4, _⟩ := idxGo_at h
    refine .inr ⟨k, ?_, h3, by simpa using h4⟩
    have : atX a.attrs name = (k : Int) := by unfold atX; rw [h2]; simp
    rw [this]
  · rw [if_neg h1]
    obtain ⟨k, h2, h3, h4, _⟩ := dimX_at h1
    exact .inl ⟨k, by rw [h2], h3, h4⟩
theorem keptErr_ok {a : Arr} : ∀ {names : List (List UInt8)}, keptErr a names = 0 → ∀ n ∈ names, ¬ (srcF a.dims a.attrs n).1 < 0
  | [], _, _, h => by simp at h
  | x :: r, h, n, hn => by
    simp only [keptErr] at h
    split at h
    · omega
    · rename_i h1
      rcases List.mem_cons.1 hn with rfl | hn
      · exact h1
      · exact keptErr_ok h n hn
theorem fits_coord {n : Int} (h1 : -1073741824 ≤ n) (h2 : n ≤ 1073741824) : fitsF 2 n 1 [] 2 = true := by
  simp [fitsF, rightF]; omega
theorem src_fits {a : Arr} (hA : OkA a.dims a.attrs a.cells) {name : List UInt8} (h : ¬ (srcF a.dims a.attrs name).1 < 0) {c : Cell} (hc : c ∈ a.cells) :
    fitsF (ofS (srcF a.dims a.attrs name) c).kind (ofS (srcF a.dims a.attrs name) c).num (ofS (srcF a.dims a.attrs name) c).den (ofS (srcF a.dims a.attrs name) c).str (srcT a.attrs (srcF a.dims a.attrs name)) = true := by
  obtain ⟨e1, e2, e3, e4⟩ := cellF_ok.1 (hA.cel c hc)
  rcases srcF_ok h with ⟨k, h1, h2, h3⟩ | ⟨k, h1, h2, h3⟩
  · rw [h1]
    have hw := (withinL_iff e1).1 e3 k h2
    have hd := (hA.dims.2.2.1 k h2).1
    refine fits_coord ?_ ?_
    · show _ ≤ at_ c.at' k; omega
    · show at_ c.at' k ≤ _; unfold lastF at hw; omega
  · rw [h1]
    exact (valsGo_iff e2).1 e4 k h2
theorem kept_fits {a : Arr} (hA : OkA a.dims a.attrs a.cells) {names : List (List UInt8)} (hk : keptErr a names = 0) {c : Cell} (hc : c ∈ a.cells) : valsGo (listF a names) ((keptF a names).map fun s => ofS s c) = 0 := by
  have hl : ((keptF a names).map fun s => ofS s c).length = (listF a names).length := by simp [keptF, listF]
  refine (valsGo_iff hl).2 fun i hi => ?_
  have hi' : i < names.length := by simpa [listF] using hi
  rw [at_mapN (by simpa [keptF] using hi'), keptF, at_mapN hi', listF, at_mapN hi']
  exact src_fits hA (keptErr_ok hk _ (at_mem hi')) hc
theorem redErr_ok {a : Arr} {ds : List Dim} {names : List (List UInt8)} (h : redErr a ds names = 0) : srcErr a ds = 0 ∧ keptErr a names = 0 ∧ schemaF ds (listF a names) = 0 := by
  unfold redErr at h
  split at h
  · rename_i h1; exact absurd h h1
  split at h
  · rename_i h1; exact absurd h h1
  rename_i h1 h2
  exact ⟨by simpa using h1, by simpa using h2, h⟩
theorem red_ok {a : Arr} (hA : OkA a.dims a.attrs a.cells) {ds : List Dim} {names : List (List UInt8)} {rule : Int} (he : redErr a ds names = 0) {cs : List Cell} (h : redGo (fromF a ds) (keptF a names) ds rule [] a.cells = some cs) : OkA ds (listF a names) (sortF cs) := by
  obtain ⟨h1, h2, h3⟩ := redErr_ok he
  refine ⟨h3, ?_, sortF_sorted (go_diff h .nil), fun x hx => ?_⟩
  · rw [sortF_length]; have := go_len h; have := hA.few; omega
  · have hx' := (sortF_perm cs).mem_iff.1 hx
    refine go_all (Q := fun x => cellF ds (listF a names) x.at' x.vals = 0) h (by simp) (fun c hc at' hm => ?_) x hx'
    unfold movedF at hm
    split at hm
    · split at hm
      · rename_i hw
        cases hm
        refine cellF_ok.2 ⟨by simp [nextF, numsF, fromF], by simp [nextF, keptF, listF], hw, kept_fits hA h2 hc⟩
      · cases hm
    · cases hm
theorem own_dim {a : Arr} (hA : OkA a.dims a.attrs a.cells) {i : Nat} (hi : i < a.dims.length) : srcF a.dims a.attrs (at_ a.dims i).name = ((i : Int), true) := by
  have hn : ¬ dimX a.dims (at_ a.dims i).name < 0 := by
    intro h
    have := idxGo_none h _ (at_mem hi)
    simp at this
  obtain ⟨k, h1, h2, h3, h4⟩ := dimX_at hn
  have hk : k = i := names_nd hA.dims.2.2.2 h2 hi h3
  unfold srcF
  rw [if_neg hn, h1, hk]
theorem own_attr {a : Arr} (hA : OkA a.dims a.attrs a.cells) {i : Nat} (hi : i < a.attrs.length) : srcF a.dims a.attrs (at_ a.attrs i).name = ((i : Int), false) := by
  obtain ⟨s1, s2, s3, s4⟩ := schemaF_ok hA.sch
  obtain ⟨t1, t2⟩ := attrsGo_ok s4
  have hd : dimX a.dims (at_ a.attrs i).name < 0 := by
    by_cases h : dimX a.dims (at_ a.attrs i).name < 0
    · exact h
    · obtain ⟨k, h1, h2, h3, h4⟩ := dimX_at h
      exact absurd (List.mem_map.2 ⟨_, at_mem h2, h3⟩) (t1 _ (at_mem hi))
  have hn : ¬ atX a.attrs (at_ a.attrs i).name < 0 := by
    intro h
    have := idxGo_none h _ (at_mem hi)
    simp at this
  obtain ⟨k, h1, h2, h3, h4⟩ := idxGo_at hn
  have h5 : (at_ a.attrs k).name = (at_ a.attrs i).name := by simpa using h3
  have hk : k = i := by
    have e : at_ (a.attrs.map Attr.name) k = at_ (a.attrs.map Attr.name) i := by rw [at_mapN h2, at_mapN hi, h5]
    have e1 := at_get (l := a.attrs.map Attr.name) (i := k) (by simpa using h2)
    have e2 := at_get (l := a.attrs.map Attr.name) (i := i) (by simpa using hi)
    rw [e, ← e2] at e1
    exact (List.getElem?_inj (by simpa using h2) t2).1 e1
  unfold srcF
  rw [if_pos hd]
  have : atX a.attrs (at_ a.attrs i).name = (i : Int) := by unfold atX; rw [h1, hk]; simp
  rw [this]
theorem srcErr_own {a : Arr} : ∀ {l : List Dim}, (∀ d ∈ l, ∃ k : Nat, srcF a.dims a.attrs d.name = ((k : Int), true)) → srcErr a l = 0
  | [], _ => rfl
  | d :: l, h => by
    obtain ⟨k, hk⟩ := h d List.mem_cons_self
    simp only [srcErr, hk]
    rw [if_neg (by omega), if_neg (by simp)]
    exact srcErr_own fun x hx => h x (List.mem_cons_of_mem _ hx)
theorem keptErr_own {a : Arr} : ∀ {l : List (List UInt8)}, (∀ n ∈ l, ∃ k : Nat, srcF a.dims a.attrs n = ((k : Int), false)) → keptErr a l = 0
  | [], _ => rfl
  | d :: l, h => by
    obtain ⟨k, hk⟩ := h d List.mem_cons_self
    simp only [keptErr, hk]
    rw [if_neg (by omega)]
    exact keptErr_own fun x hx => h x (List.mem_cons_of_mem _ hx)
theorem Attr.ext {a b : Attr} (h1 : a.name = b.name) (h2 : a.type = b.type) : a = b := by cases a; cases b; simp_all
theorem red_own {a : Arr} (hA : OkA a.dims a.attrs a.cells) {rule : Int} (h1 : 1 ≤ rule) (h3 : rule ≤ 3) : redF a a.dims (a.attrs.map Attr.name) rule = (some a, 0) := by
  have hlist : listF a (a.attrs.map Attr.name) = a.attrs := by
    refine at_ext (by simp [listF]) fun i hi => ?_
    have hi' : i < a.attrs.length := by simpa [listF] using hi
    rw [listF, at_mapN (by simpa using hi'), at_mapN hi', own_attr hA hi']
    exact Attr.ext rfl rfl
  have hse : srcErr a a.dims = 0 := srcErr_own fun d hd => by
    obtain ⟨i, hi, rfl⟩ := at_ofmem hd
    exact ⟨i, own_dim hA hi⟩
  have hke : keptErr a (a.attrs.map Attr.name) = 0 := keptErr_own fun n hn => by
    obtain ⟨x, hx, rfl⟩ := List.mem_map.1 hn
    obtain ⟨i, hi, rfl⟩ := at_ofmem hx
    exact ⟨i, own_attr hA hi⟩
  have hre : redErr a a.dims (a.attrs.map Attr.name) = 0 := by
    unfold redErr
    rw [hse, hke, hlist]
    simp [hA.sch]
  have hgo : redGo (fromF a a.dims) (keptF a (a.attrs.map Attr.name)) a.dims rule [] a.cells = some a.cells := by
    refine go_plain (cs := []) (fun c hc => ?_) (diff_of_sorted hA.srt)
    obtain ⟨e1, e2, e3, e4⟩ := cellF_ok.1 (hA.cel c hc)
    have hnum : numsF (fromF a a.dims) c = c.at' := by
      refine at_ext (by simp [numsF, fromF, e1]) fun i hi => ?_
      have hi' : i < a.dims.length := by simpa [numsF, fromF] using hi
      rw [numsF, at_mapN (by simpa [fromF] using hi'), fromF, at_mapN hi', own_dim hA hi']
      rfl
    have hkind : (fromF a a.dims).all (fun s => (ofS s c).kind == 2) = true := by
      rw [List.all_eq_true]
      intro s hs
      obtain ⟨d, hd, rfl⟩ := List.mem_map.1 hs
      obtain ⟨i, hi, rfl⟩ := at_ofmem hd
      rw [own_dim hA hi]
      rfl
    have hvals : (keptF a (a.attrs.map Attr.name)).map (fun s => ofS s c) = c.vals := by
      refine at_ext (by simp [keptF, e2]) fun i hi => ?_
      have hi' : i < a.attrs.length := by simpa [keptF] using hi
      rw [at_mapN (by simpa [keptF] using hi'), keptF, at_mapN (by simpa using hi'), at_mapN hi', own_attr hA hi']
      rfl
    unfold movedF nextF
    rw [if_pos hkind, hnum, if_pos e3, hvals]
    exact ⟨rfl, rfl⟩
  unfold redF
  rw [if_neg (by rw [okA_check hA]; omega), if_neg (by simp [hre]), hgo, hlist]
  simp only [resF]
  rw [if_neg (by have := hA.few; omega), sortF_id hA.srt]
theorem red_rules {a : Arr} (hA : OkA a.dims a.attrs a.cells) (ds : List Dim) (names : List (List UInt8)) :
    (∃ e, e ≠ 0 ∧ e ≠ 19 ∧ ∀ r : Int, 1 ≤ r → r ≤ 3 → redF a ds names r = (none, e)) ∨
    (∃ y z : Arr, redF a ds names 1 = (none, 19) ∧ redF a ds names 2 = (some y, 0) ∧ redF a ds names 3 = (some z, 0) ∧ y.cells.length = z.cells.length ∧ OkA y.dims y.attrs y.cells ∧ OkA z.dims z.attrs z.cells) ∨
    ∃ y : Arr, OkA y.dims y.attrs y.cells ∧ ∀ r : Int, 1 ≤ r → r ≤ 3 → redF a ds names r = (some y, 0) := by
  by_cases he : redErr a ds names = 0
  · have hres : ∀ {r : Int} {cs : List Cell}, 1 ≤ r → r ≤ 3 → redGo (fromF a ds) (keptF a names) ds r [] a.cells = some cs → redF a ds names r = (some ⟨ds, listF a names, sortF cs⟩, 0) := by
      intro r cs h1 h3 h
      unfold redF
      rw [if_neg (by rw [okA_check hA]; omega), if_neg (by simp [he]), h]
      simp only [resF]
      have := go_len h
      have := hA.few
      rw [if_neg (by omega)]
    cases hf : redGo (fromF a ds) (keptF a names) ds 1 [] a.cells with
    | some cs =>
      exact .inr (.inr ⟨_, red_ok hA he hf, fun r h1 h3 => hres h1 h3 (go_rule hf r)⟩)
    | none =>
      obtain ⟨cs2, h2⟩ := go_never (src := fromF a ds) (kept := keptF a names) (ds := ds) (rule := 2) (by omega) a.cells []
      obtain ⟨cs3, h3⟩ := go_never (src := fromF a ds) (kept := keptF a names) (ds := ds) (rule := 3) (by omega) a.cells []
      refine .inr (.inl ⟨_, _, ?_, hres (by omega) (by omega) h2, hres (by omega) (by omega) h3, ?_, red_ok hA he h2, red_ok hA he h3⟩)
      · unfold redF
        rw [if_neg (by rw [okA_check hA]; omega), if_neg (by simp [he]), hf]
      · show (sortF cs2).length = (sortF cs3).length
        rw [sortF_length, sortF_length]
        have e2 := congrArg List.length (go_keys h2)
        have e3 := congrArg List.length (go_keys h3)
        simp only [List.length_map] at e2 e3
        rw [e2, e3]
  · refine .inl ⟨redErr a ds names, he, ?_, fun r h1 h3 => ?_⟩
    · unfold redErr
      have hs : ∀ l : List Dim, srcErr a l ≠ 19 := by
        intro l
        induction l with
        | nil => simp [srcErr]
        | cons d l ih => simp only [srcErr]; split <;> (try split) <;> (first | omega | exact ih)
      have hk : ∀ l : List (List UInt8), keptErr a l ≠ 19 := by
        intro l
        induction l with
        | nil => simp [keptErr]
        | cons d l ih => simp only [keptErr]; split <;> (first | omega | exact ih)
      have hdg : ∀ (l : List Dim) (m : List (List UInt8)), dimsGo m l ≠ 19 := by
        intro l
        induction l with
        | nil => intro m; simp [dimsGo]
        | cons d l ih => intro m; simp only [dimsGo]; split <;> (try split) <;> (first | omega | exact ih _)
      have hag : ∀ (l : List Attr) (m : List (List UInt8)), attrsGo m l ≠ 19 := by
        intro l
        induction l with
        | nil => intro m; simp [attrsGo]
        | cons d l ih => intro m; simp only [attrsGo]; split <;> (try split) <;> (first | omega | exact ih _)
      split
      · exact hs _
      split
      · exact hk _
      have hd : dimsF ds ≠ 19 := by
        unfold dimsF
        split
        · omega
        · exact hdg _ _
      unfold schemaF
      split
      · exact hd
      split
      · omega
      · exact hag _ _
    · unfold redF
      rw [if_neg (by rw [okA_check hA]; omega), if_pos he]
end Go.Proofs.YtpejdgkaapnekaaGreat
namespace Go.Abs
open Go
variable {P : Program} {V : Env} {st : St} {o : Oper}
theorem step3_idxOwn {t e : TypeId} {x y : Operand} {id m k k' b b' : Nat} {ik : IntKind} {i : Int} {xs : List (List D)} {z : List D} (ho : o.op = .indexAddr t x y) (ht : sliceTy V.T t = some (e, k', b', z)) (hx : ev st x = some (.one (.own id m)))
    (hl : look st.sto id = some (.row k b xs)) (hk : Nat.beq k k' = true) (hy : ev st y = some (.one (.d (.int ik i)))) (h0 : 0 ≤ i) (hm : i < (m : Int)) : step3 V st o 0 = some ⟨.one (.rref id i.toNat 0), [], []⟩ := by
  simp only [step3, stepE, valF, ho, otherE, idxV, hx, hy, ht, hl, hk, h0, hm, decide_true, Bool.and_self, cond_true]
theorem step3_loadRow {t : TypeId} {x : Operand} {id j off k b s : Nat} {g : Bool} {xs : List (List D)} {el : List D} {v : AV} (ho : o.op = .load t x) (hx : ev st x = some (.one (.rref id j off))) (hT : tySz V.T t = some (g, s))
    (hl : look st.sto id = some (.row k b xs)) (hj : xs[j]? = some el) (hv : takeAs g s ((el.drop off).map .d) = some v) : step3 V st o 0 = some ⟨v, [], []⟩ := by
  simp only [step3, stepE, valF, ho, otherE, hx, hT, hl, loadF, loadRV, nth_eq, hj, hv]
theorem step3_storeRow {t : TypeId} {x y : Operand} {id j off k b s : Nat} {g : Bool} {xs : List (List D)} {el el' ds : List D} {cs : List AC} {v : AV} (ho : o.op = .store t x y) (hd : o.dst = none) (hx : ev st x = some (.one (.rref id j off))) (hy : ev st y = some v) (hT : tySz V.T t = some (g, s))
    (hl : look st.sto id = some (.row k b xs)) (hc : cellsOf v = some cs) (hs : Nat.beq cs.length s = true) (ha : allD cs = some ds) (hj : xs[j]? = some el) (hsp : splice off ds el = some el') : step3 V st o 0 = some ⟨.any, [(id, some (.row k b (xs.set j el')))], []⟩ := by
  simp only [step3, stepE, valF, ho, otherE, hx, hy, hT, hl, hc, hs, ha, storeV, nth_eq, hj, hsp, cond_true]
  simp [hd, hasD]
theorem set_get {xs : List (List D)} {j : Nat} {el : List D} (h : j < xs.length) : (xs.set j el)[j]? = some el := by simp [h]
theorem row_get {α : Type} [Inhabited α] {f : α → List D} {l : List α} {xs : List (List D)} {i : Nat} (h : xs = l.map f) (hi : i < xs.length) : xs[i]? = some (f (at_ l i)) := by
  subst h; exact at_map (by simpa using hi)
theorem step3_makeSlice {t e : TypeId} {x y : Operand} {id n k b d : Nat} {i j : Int} {z : List D} (ho : o.op = .makeSlice t x y) (hd : o.dst = some d) (ht : sliceTy V.T t = some (e, k, b, z)) (hx : ev st x = some (.one (.d (.int .i64 i)))) (hy : ev st y = some (.one (.d (.int .i64 j)))) (hi : i = (n : Int)) (hj : j = (n : Int)) (hn : n ≤ 1000) (hb : b ≤ 100) :
    step3 V st o id = some ⟨.one (.own id n), [(id, some (.row k b (List.replicate n z)))], [id]⟩ := by
  subst hi; subst hj
  have h1 : Nat.ble (n * b) 1000000 = true := Nat.ble_eq.mpr (Nat.le_trans (Nat.mul_le_mul hn hb) (by omega))
  have h2 : Nat.ble n 1000000 = true := Nat.ble_eq.mpr (by omega)
  have h3 : (0 : Int) ≤ (n : Int) := Int.natCast_nonneg n
  simp only [step3, stepE, valF, ho, otherE, newF, hx, hy, ht, hd, hasD, h3, decide_true, Int.toNat_natCast, h1, h2, Bool.and_self, cond_true]
end Go.Abs
namespace Go.Abs
open Go
def encPl (a : List Int) : List D := [.int .i64 (at_ a 0), .int .i64 (at_ a 1), .int .i64 (at_ a 2), .int .i64 (at_ a 3)]
theorem encPl_eq {a b : List Int} (h : a.length = b.length) (h4 : a.length ≤ 4) : eqDs (encPl a) (encPl b) = (a == b) := by
  have key : a = b ↔ at_ a 0 = at_ b 0 ∧ at_ a 1 = at_ b 1 ∧ at_ a 2 = at_ b 2 ∧ at_ a 3 = at_ b 3 := by
    constructor
    · rintro rfl; exact ⟨rfl, rfl, rfl, rfl⟩
    · rintro ⟨h0, h1, h2, h3⟩
      refine List.ext_getElem? fun i => ?_
      rcases Nat.lt_or_ge i a.length with hi | hi
      · rw [at_get hi, at_get (by omega)]
        have : i = 0 ∨ i = 1 ∨ i = 2 ∨ i = 3 := by omega
        rcases this with rfl | rfl | rfl | rfl
        · rw [h0]
        · rw [h1]
        · rw [h2]
        · rw [h3]
      · rw [List.getElem?_eq_none hi, List.getElem?_eq_none (by omega)]
  rw [Bool.eq_iff_iff]
  simp only [encPl, eqDs, eqD, Bool.and_true, Bool.and_eq_true, beq_iff_eq, key]
def encM (f : Nat → D) : List (List Int) → Nat → List (List D × List D)
  | [], _ => []
  | k :: r, i => (encPl k, [f i]) :: encM f r (i + 1)
def whereK (x : List Int) : List (List Int) → Nat → Option Nat
  | [], _ => none
  | k :: r, i => if k == x then some i else whereK x r (i + 1)
theorem findK_M {f : Nat → D} {x : List Int} (h4 : x.length ≤ 4) : ∀ {ks : List (List Int)} {n i : Nat}, (∀ k ∈ ks, k.length = x.length) →
    (whereK x ks n = none → findK (encPl x) (encM f ks n) i = none) ∧ ∀ j, whereK x ks n = some j → ∃ m, findK (encPl x) (encM f ks n) i = some (m, [f j])
  | [], n, i, _ => ⟨fun _ => rfl, fun j h => by cases h⟩
  | k :: r, n, i, h => by
    have hk := h k List.mem_cons_self
    have ih := findK_M (f := f) h4 (ks := r) (n := n + 1) (i := i + 1) fun y hy => h y (List.mem_cons_of_mem _ hy)
    have e := encPl_eq hk.symm h4
    have e2 : (k == x) = (x == k) := by rw [Bool.eq_iff_iff]; simp only [beq_iff_eq]; exact eq_comm
    simp only [whereK, encM, findK, e, e2]
    cases hb : (x == k) with
    | true => exact ⟨fun h => (by simp at h), fun j hj => ⟨i, by simp at hj; subst hj; rfl⟩⟩
    | false => simpa using ih
theorem updK_M {f : Nat → D} {x : List Int} (h4 : x.length ≤ 4) : ∀ {ks : List (List Int)} {n : Nat}, (∀ k ∈ ks, k.length = x.length) → whereK x ks n = none → updK (encPl x) [f (n + ks.length)] (encM f ks n) = encM f (ks ++ [x]) n
  | [], n, _, _ => rfl
  | k :: r, n, h, hw => by
    have hk := h k List.mem_cons_self
    have e := encPl_eq hk.symm h4
    have e2 : (k == x) = (x == k) := by rw [Bool.eq_iff_iff]; simp only [beq_iff_eq]; exact eq_comm
    simp only [whereK] at hw
    cases hb : (x == k) with
    | true => rw [e2, hb] at hw; simp at hw
    | false =>
      rw [e2, hb] at hw
      have ih := updK_M (f := f) h4 (ks := r) (n := n + 1) (fun y hy => h y (List.mem_cons_of_mem _ hy)) (by simpa using hw)
      have e3 : n + 1 + r.length = n + (k :: r).length := by simp only [List.length_cons]; omega
      rw [e3] at ih
      simp only [List.cons_append, encM, updK, e, hb, cond_false, ih]
def pk : List KK := [.int .i64, .int .i64, .int .i64, .int .i64]
theorem fitsAll_M {f : Nat → D} : ∀ {ks : List (List Int)} {n : Nat}, fitsAll pk (encM f ks n) = true
  | [], _ => rfl
  | k :: r, n => by
    simp only [encM, fitsAll, fitsAll_M (ks := r)]
    rfl
variable {V : Env} {st : St} {o : Oper}
def plAV (x : List Int) : AV := .agg [.d (.int .i64 (at_ x 0)), .d (.int .i64 (at_ x 1)), .d (.int .i64 (at_ x 2)), .d (.int .i64 (at_ x 3))]
theorem step3_lookM {t id : Nat} {m : MTy} {x y : Operand} {ok : Bool} {a : List Int} {f : Nat → D} {ks : List (List Int)} {v : AV} (ho : o.op = .lookup t x y ok) (hm : look V.M t = some m) (hms : m.ks = pk) (hk : m.kg = true) (hv : m.vg = false)
    (hx : ev st x = some (.one (.mapr id))) (hl : look st.sto id = some (.map true false (encM f ks 0))) (hy : ev st y = some (plAV a)) (h4 : a.length ≤ 4) (hks : ∀ k ∈ ks, k.length = a.length)
    (hr : (match whereK a ks 0 with | some j => outA false [f j] true ok | none => outA false m.z false ok) = some v) : step3 V st o 0 = some ⟨v, [], []⟩ := by
  have hd : dataOf true (plAV a) = some (encPl a) := rfl
  have hF := findK_M (f := f) h4 (ks := ks) (n := 0) (i := 0) hks
  have hlk : lookF m (encM f ks 0) (encPl a) ok = some v := by
    unfold lookF
    rw [hv]
    cases hw : whereK a ks 0 with
    | none => rw [hF.1 hw]; rw [hw] at hr; exact hr
    | some j =>
      obtain ⟨q, hq⟩ := hF.2 j hw
      rw [hq]; rw [hw] at hr; exact hr
  have e1 : stepE V.T st o 0 = none := by
    simp only [stepE, valF, ho, otherE, newF]
    cases o.dst <;> simp [hasD]
  simp only [step3, e1]
  rw [ho]
  simp only [hm, hx, hy, hl, hk, hd, hv, bEq, hms, fitsAll_M, hlk, cond_true]
  rfl
theorem step3_updM {t id : Nat} {m : MTy} {x y z : Operand} {a : List Int} {f : Nat → D} {ks : List (List Int)} {d : D} (ho : o.op = .mapUpdate t x y z) (hdst : o.dst = none) (hm : look V.M t = some m) (hms : m.ks = pk) (hk : m.kg = true) (hv : m.vg = false)
    (hx : ev st x = some (.one (.mapr id))) (hl : look st.sto id = some (.map true false (encM f ks 0))) (hy : ev st y = some (plAV a)) (hz : ev st z = some (.one (.d d))) (h4 : a.length ≤ 4) (hks : ∀ k ∈ ks, k.length = a.length)
    (hn : whereK a ks 0 = none) (hf : f ks.length = d) : step3 V st o 0 = some ⟨.any, [(id, some (.map true false (encM f (ks ++ [a]) 0)))], []⟩ := by
  have hd : dataOf true (plAV a) = some (encPl a) := rfl
  have hd2 : dataOf false (.one (.d d)) = some [d] := rfl
  have hU := updK_M (f := f) h4 (n := 0) hks hn
  rw [Nat.zero_add, hf] at hU
  have e1 : stepE V.T st o 0 = none := by
    simp only [stepE, valF, ho, otherE, newF, hdst]
    rfl
  simp only [step3, e1]
  rw [ho]
  simp only [hm, hx, hy, hz, hl, hk, hd, hd2, hv, bEq, hms, fitsAll_M, hU, hdst, cond_true]
  rfl
theorem step3_lookM0 {t id : Nat} {m : MTy} {x y : Operand} {a : List Int} {f : Nat → D} {ks : List (List Int)} (ho : o.op = .lookup t x y true) (hm : look V.M t = some m) (hms : m.ks = pk) (hk : m.kg = true) (hv : m.vg = false) (hz : m.z = [.int .i64 0])
    (hx : ev st x = some (.one (.mapr id))) (hl : look st.sto id = some (.map true false (encM f ks 0))) (hy : ev st y = some (plAV a)) (h4 : a.length ≤ 4) (hks : ∀ k ∈ ks, k.length = a.length)
    (hw : whereK a ks 0 = none) : step3 V st o 0 = some ⟨.tup [(false, [.d (.int .i64 0)]), (false, [.d (.bool false)])], [], []⟩ :=
  step3_lookM ho hm hms hk hv hx hl hy h4 hks (by rw [hw, hz]; rfl)
theorem step3_lookM1 {t id j : Nat} {m : MTy} {x y : Operand} {a : List Int} {f : Nat → D} {ks : List (List Int)} (ho : o.op = .lookup t x y true) (hm : look V.M t = some m) (hms : m.ks = pk) (hk : m.kg = true) (hv : m.vg = false)
    (hx : ev st x = some (.one (.mapr id))) (hl : look st.sto id = some (.map true false (encM f ks 0))) (hy : ev st y = some (plAV a)) (h4 : a.length ≤ 4) (hks : ∀ k ∈ ks, k.length = a.length)
    (hw : whereK a ks 0 = some j) : step3 V st o 0 = some ⟨.tup [(false, [.d (f j)]), (false, [.d (.bool true)])], [], []⟩ :=
  step3_lookM ho hm hms hk hv hx hl hy h4 hks (by rw [hw]; rfl)
theorem whereK_lt {x : List Int} : ∀ {ks : List (List Int)} {n j : Nat}, whereK x ks n = some j → n ≤ j ∧ j < n + ks.length
  | [], n, j, h => by cases h
  | k :: r, n, j, h => by
    simp only [whereK] at h
    split at h
    · cases h; simp only [List.length_cons]; omega
    · have := whereK_lt h
      simp only [List.length_cons]; omega
theorem whereK_ltI {x : List Int} {ks : List (List Int)} {j n : Nat} (h : whereK x ks 0 = some j) (hn : ks.length = n) : (j : Int) < (n : Int) := by have := whereK_lt h; omega
end Go.Abs
namespace Go.Proofs.YtpejdgkaapnekaaGreat
open Go Go.Abs
attribute [local irreducible] OkOps OkC DRun thenQ blockQ RetQ
set_option maxRecDepth 10000
def valC (v : Val) : AV := .agg [.d (.int .i64 v.kind), .d (.int .i64 v.num), .d (.int .i64 v.den), .d (.str v.str)]
def srcC (s : Int × Bool) : AV := .agg [.d (.int .i64 s.1), .d (.bool s.2)]
def encSrc (s : Int × Bool) : List D := [.int .i64 s.1, .bool s.2]
def encSrcs (l : List (Int × Bool)) : D := .sl 2 16 (l.map encSrc)
def okS (s : Int × Bool) (c : Cell) : Prop := 0 ≤ s.1 ∧ (s.2 = true → s.1.toNat < c.at'.length) ∧ (s.2 = false → s.1.toNat < c.vals.length)
theorem c185 (n : Int) : CallA Tryz.prog 185 [.one (.d (.int .i64 n))] [] (valC ⟨2, n, 1, []⟩) [] := by
  refine enter tabOk Tryz.func185 rfl (by decide +kernel) rfl fun hok w0 σ0 φ0 M => ?_
  clear hok
  repeat' (first | (show OkOps _ _ _ _ _ _; first | refine okops_nil ?_ | refine s_plain tabOk rfl rfl rfl rfl rfl ?_ | (show OkOps _ _ _ (Oper.mk _ (Op.alloc _) _ _ _ (_) :: _) _ _; first | refine s_alloc tabOk 0 rfl rfl rfl rfl rfl ?_ | fail) | refine s_store envOk rfl rfl rfl ?_ | fail) | (show OkC _ _ _ _ _; first | refine ok_seq ?_ | refine ok_region ?_ | refine ok_ret ?_ | fail) | (show thenQ _ _ _ _; first | refine then_n ?_ | fail) | (show RetQ _ _ _ _ _ _; first | refine ret_leaf (.inl rfl) rfl rfl ?_ | fail) | fail)
  all_goals rfl
theorem c110 (s : Int × Bool) (c : Cell) (h : okS s c) : CallA Tryz.prog 110 [srcC s, .agg [.d (encInts c.at'), .d (encVals c.vals)]] [] (valC (ofS s c)) [] := by
  obtain ⟨i, b⟩ := s
  obtain ⟨h0, h1, h2⟩ := h
  unfold srcC
  refine enter tabOk Tryz.func110 rfl (by decide +kernel) rfl fun hok w0 σ0 φ0 M => ?_
  clear hok
  dsimp only at h0 h1 h2
  cases b with
  | true =>
    replace h1 := h1 rfl
    clear h2
    repeat' (first | (show OkOps _ _ _ _ _ _; first | refine okops_nil ?_ | refine s_plain tabOk rfl rfl rfl rfl rfl ?_ | (show OkOps _ _ _ (Oper.mk _ (Op.indexAddr _ _ _) _ _ _ (_) :: _) _ _; first | refine s_e envOk rfl rfl rfl (step3_idx rfl rfl rfl rfl rfl (by omega) (at_map (by omega))) ?_ | fail) | (show OkOps _ _ _ (Oper.mk _ (Op.call _) _ _ _ (_) :: _) _ _; first | refine s_callF rfl rfl rfl rfl rfl rfl rfl rfl (c185 _) rfl ?_ | fail) | (show OkOps _ _ _ (Oper.mk _ (Op.box _ _) _ _ _ (_) :: _) _ _; first | refine s_box 0 rfl rfl rfl rfl rfl rfl ?_ | refine s_box 1 rfl rfl rfl rfl rfl rfl ?_ | fail) | (show OkOps _ _ _ (Oper.mk _ (Op.alloc _) _ _ _ (_) :: _) _ _; first | refine s_alloc tabOk 2 rfl rfl rfl rfl rfl ?_ | fail) | refine s_store envOk rfl rfl rfl ?_ | fail) | (show OkC _ _ _ _ _; first | refine ok_seq ?_ | refine ok_region ?_ | refine ok_ret ?_ | refine ok_condT rfl ?_ | fail) | (show thenQ _ _ _ _; first | refine then_n ?_ | refine then_r ?_ | fail) | (show RetQ _ _ _ _ _ _; first | refine ret_leaf (.inl rfl) rfl rfl ?_ | fail) | fail)
    all_goals rfl
  | false =>
    replace h2 := h2 rfl
    clear h1
    repeat' (first | (show OkOps _ _ _ _ _ _; first | refine okops_nil ?_ | refine s_plain tabOk rfl rfl rfl rfl rfl ?_ | (show OkOps _ _ _ (Oper.mk _ (Op.indexAddr _ _ _) _ _ _ (_) :: _) _ _; first | refine s_e envOk rfl rfl rfl (step3_idx rfl rfl rfl rfl rfl (by omega) (at_map (by omega))) ?_ | fail) | (show OkOps _ _ _ (Oper.mk _ (Op.box _ _) _ _ _ (_) :: _) _ _; first | refine s_box 0 rfl rfl rfl rfl rfl rfl ?_ | refine s_box 1 rfl rfl rfl rfl rfl rfl ?_ | fail) | (show OkOps _ _ _ (Oper.mk _ (Op.alloc _) _ _ _ (_) :: _) _ _; first | refine s_alloc tabOk 2 rfl rfl rfl rfl rfl ?_ | fail) | refine s_store envOk rfl rfl rfl ?_ | fail) | (show OkC _ _ _ _ _; first | refine ok_seq ?_ | refine ok_region ?_ | refine ok_skip ?_ | refine ok_ret ?_ | refine ok_condF rfl ?_ | fail) | (show thenQ _ _ _ _; first | refine then_n ?_ | fail) | (show RetQ _ _ _ _ _ _; first | refine ret_leaf (.inl rfl) rfl rfl ?_ | fail) | fail)
    all_goals rfl
theorem c107 (a : Arr) (name : List UInt8) : CallA Tryz.prog 107 [aggA a, .one (.d (.str name))] [] (.tup [(true, [.d (.int .i64 (srcF a.dims a.attrs name).1), .d (.bool (srcF a.dims a.attrs name).2)]), (false, [.d (.bool (decide (0 ≤ (srcF a.dims a.attrs name).1)))])]) [] := by
  unfold aggA
  refine enter tabOk Tryz.func107 rfl (by decide +kernel) rfl fun hok w0 σ0 φ0 M => ?_
  clear hok
  by_cases hd : dimX a.dims name < 0
  · have hb : decide (0 ≤ idxGo (fun a : Dim => a.name == name) a.dims 0) = false := by
      have h := hd
      unfold dimX at h
      simp; omega
    unfold srcF
    rw [if_pos hd]
    repeat' (first | (show OkOps _ _ _ _ _ _; first | refine okops_nil ?_ | refine s_plain tabOk rfl rfl rfl rfl rfl ?_ | (show OkOps _ _ _ (Oper.mk _ (Op.call _) _ _ _ (_) :: _) _ _; first | refine s_callF rfl rfl rfl rfl rfl rfl rfl rfl (c126 _ _ _ _) rfl ?_ | refine s_callF rfl rfl rfl rfl rfl rfl rfl rfl (c148 _ _ _ _) rfl ?_ | fail) | (show OkOps _ _ _ (Oper.mk _ (Op.box _ _) _ _ _ (_) :: _) _ _; first | refine s_box 0 rfl rfl rfl rfl rfl rfl ?_ | fail) | (show OkOps _ _ _ (Oper.mk _ (Op.alloc _) _ _ _ (_) :: _) _ _; first | refine s_alloc tabOk 1 rfl rfl rfl rfl rfl ?_ | fail) | refine s_store envOk rfl rfl rfl ?_ | fail) | (show OkC _ _ _ _ _; first | refine ok_seq ?_ | refine ok_region ?_ | refine ok_skip ?_ | refine ok_ret ?_ | refine ok_condKF rfl (by assumption) ?_ | fail) | (show thenQ _ _ _ _; first | refine then_n ?_ | fail) | (show RetQ _ _ _ _ _ _; first | refine ret_leaf (.inl rfl) rfl rfl ?_ | fail) | fail)
    all_goals rfl
  · have hb : decide (0 ≤ idxGo (fun a : Dim => a.name == name) a.dims 0) = true := by
      have h := hd
      unfold dimX at h
      simp; omega
    unfold srcF
    rw [if_neg hd]
    have hb' : decide (0 ≤ dimX a.dims name) = true := hb
    repeat' (first | (show OkOps _ _ _ _ _ _; first | refine okops_nil ?_ | refine s_plain tabOk rfl rfl rfl rfl rfl ?_ | (show OkOps _ _ _ (Oper.mk _ (Op.call _) _ _ _ (_) :: _) _ _; first | refine s_callF rfl rfl rfl rfl rfl rfl rfl rfl (c126 _ _ _ _) rfl ?_ | fail) | (show OkOps _ _ _ (Oper.mk _ (Op.box _ _) _ _ _ (_) :: _) _ _; first | refine s_box 0 rfl rfl rfl rfl rfl rfl ?_ | fail) | (show OkOps _ _ _ (Oper.mk _ (Op.alloc _) _ _ _ (_) :: _) _ _; first | refine s_alloc tabOk 1 rfl rfl rfl rfl rfl ?_ | fail) | refine s_store envOk rfl rfl rfl ?_ | fail) | (show OkC _ _ _ _ _; first | refine ok_seq ?_ | refine ok_region ?_ | refine ok_ret ?_ | refine ok_condKT rfl (by assumption) ?_ | fail) | (show thenQ _ _ _ _; first | refine then_n ?_ | refine then_r ?_ | fail) | (show RetQ _ _ _ _ _ _; first | refine ret_leaf (.inl rfl) rfl rfl ?_ | fail) | fail)
    show _ = AV.tup [(true, [.d (.int .i64 (dimX a.dims name)), .d (.bool true)]), (false, [.d (.bool (decide (0 ≤ dimX a.dims name)))])]
    rw [hb']
    rfl
theorem c111 (x : List Int) (h : x.length ≤ 4) : CallA Tryz.prog 111 [.one (.d (encInts x))] [] (plAV x) [] := by
  refine enter tabOk Tryz.func111 rfl (by decide +kernel) rfl fun hok w0 σ0 φ0 M => ?_
  clear hok
  match x, h with
  | [], _ =>
    repeat' (first | (show OkOps _ _ _ _ _ _; first | refine okops_nil ?_ | refine s_plain tabOk rfl rfl rfl rfl rfl ?_ | (show OkOps _ _ _ (Oper.mk _ (Op.alloc _) _ _ _ (_) :: _) _ _; first | refine s_alloc tabOk 0 rfl rfl rfl rfl rfl ?_ | refine s_alloc tabOk 1 rfl rfl rfl rfl rfl ?_ | fail) | refine s_store envOk rfl rfl rfl ?_ | refine s_e envOk rfl rfl rfl rfl ?_ | refine s_new envOk 0 rfl rfl rfl rfl rfl rfl ?_ | fail) | (show OkC _ _ _ _ _; first | refine ok_seq ?_ | refine ok_region ?_ | refine ok_ret ?_ | fail) | (show thenQ _ _ _ _; first | refine then_n ?_ | fail) | (show RetQ _ _ _ _ _ _; first | refine ret_leaf (.inl rfl) rfl rfl ?_ | fail) | fail)
    all_goals rfl
  | [a], _ =>
    repeat' (first | (show OkOps _ _ _ _ _ _; first | refine okops_nil ?_ | refine s_plain tabOk rfl rfl rfl rfl rfl ?_ | (show OkOps _ _ _ (Oper.mk _ (Op.alloc _) _ _ _ (_) :: _) _ _; first | refine s_alloc tabOk 0 rfl rfl rfl rfl rfl ?_ | refine s_alloc tabOk 1 rfl rfl rfl rfl rfl ?_ | fail) | refine s_store envOk rfl rfl rfl ?_ | refine s_e envOk rfl rfl rfl rfl ?_ | refine s_new envOk 0 rfl rfl rfl rfl rfl rfl ?_ | fail) | (show OkC _ _ _ _ _; first | refine ok_seq ?_ | refine ok_region ?_ | refine ok_ret ?_ | fail) | (show thenQ _ _ _ _; first | refine then_n ?_ | fail) | (show RetQ _ _ _ _ _ _; first | refine ret_leaf (.inl rfl) rfl rfl ?_ | fail) | fail)
    all_goals rfl
  | [a, b], _ =>
    repeat' (first | (show OkOps _ _ _ _ _ _; first | refine okops_nil ?_ | refine s_plain tabOk rfl rfl rfl rfl rfl ?_ | (show OkOps _ _ _ (Oper.mk _ (Op.alloc _) _ _ _ (_) :: _) _ _; first | refine s_alloc tabOk 0 rfl rfl rfl rfl rfl ?_ | refine s_alloc tabOk 1 rfl rfl rfl rfl rfl ?_ | fail) | refine s_store envOk rfl rfl rfl ?_ | refine s_e envOk rfl rfl rfl rfl ?_ | refine s_new envOk 0 rfl rfl rfl rfl rfl rfl ?_ | fail) | (show OkC _ _ _ _ _; first | refine ok_seq ?_ | refine ok_region ?_ | refine ok_ret ?_ | fail) | (show thenQ _ _ _ _; first | refine then_n ?_ | fail) | (show RetQ _ _ _ _ _ _; first | refine ret_leaf (.inl rfl) rfl rfl ?_ | fail) | fail)
    all_goals rfl
  | [a, b, c], _ =>
    repeat' (first | (show OkOps _ _ _ _ _ _; first | refine okops_nil ?_ | refine s_plain tabOk rfl rfl rfl rfl rfl ?_ | (show OkOps _ _ _ (Oper.mk _ (Op.alloc _) _ _ _ (_) :: _) _ _; first | refine s_alloc tabOk 0 rfl rfl rfl rfl rfl ?_ | refine s_alloc tabOk 1 rfl rfl rfl rfl rfl ?_ | fail) | refine s_store envOk rfl rfl rfl ?_ | refine s_e envOk rfl rfl rfl rfl ?_ | refine s_new envOk 0 rfl rfl rfl rfl rfl rfl ?_ | fail) | (show OkC _ _ _ _ _; first | refine ok_seq ?_ | refine ok_region ?_ | refine ok_ret ?_ | fail) | (show thenQ _ _ _ _; first | refine then_n ?_ | fail) | (show RetQ _ _ _ _ _ _; first | refine ret_leaf (.inl rfl) rfl rfl ?_ | fail) | fail)
    all_goals rfl
  | [a, b, c, d], _ =>
    repeat' (first | (show OkOps _ _ _ _ _ _; first | refine okops_nil ?_ | refine s_plain tabOk rfl rfl rfl rfl rfl ?_ | (show OkOps _ _ _ (Oper.mk _ (Op.alloc _) _ _ _ (_) :: _) _ _; first | refine s_alloc tabOk 0 rfl rfl rfl rfl rfl ?_ | refine s_alloc tabOk 1 rfl rfl rfl rfl rfl ?_ | fail) | refine s_store envOk rfl rfl rfl ?_ | refine s_e envOk rfl rfl rfl rfl ?_ | refine s_new envOk 0 rfl rfl rfl rfl rfl rfl ?_ | fail) | (show OkC _ _ _ _ _; first | refine ok_seq ?_ | refine ok_region ?_ | refine ok_ret ?_ | fail) | (show thenQ _ _ _ _; first | refine then_n ?_ | fail) | (show RetQ _ _ _ _ _ _; first | refine ret_leaf (.inl rfl) rfl rfl ?_ | fail) | fail)
    all_goals rfl
end Go.Proofs.YtpejdgkaapnekaaGreat
namespace Go.Proofs.YtpejdgkaapnekaaGreat
open Go Go.Abs
attribute [local irreducible] OkOps OkC DRun thenQ blockQ RetQ
set_option maxRecDepth 10000
def numMix (src : List (Int × Bool)) (c : Cell) (k : Nat) : List Int := (List.range src.length).map fun i => if i < k then (ofS (at_ src i) c).num else 0
section
variable {src : List (Int × Bool)} {c : Cell} {k : Nat}
theorem at_rng {n i : Nat} (h : i < n) : at_ (List.range n) i = i := by simp [at_, List.getD_eq_getElem?_getD, h]
theorem nmix_len : (numMix src c k).length = src.length := by simp [numMix]
theorem nmix_at {i : Nat} (h : i < src.length) : at_ (numMix src c k) i = if i < k then (ofS (at_ src i) c).num else 0 := by
  unfold numMix; rw [at_mapN (by simpa using h), at_rng h]
theorem nmix_zero : (numMix src c 0).map encInt = List.replicate src.length [.int .i64 0] := by
  refine at_ext (by simp [nmix_len]) fun i hi => ?_
  have hi' : i < src.length := by simpa [nmix_len] using hi
  rw [at_mapN (by rw [nmix_len]; exact hi'), nmix_at hi', if_neg (by omega)]
  simp [at_, List.getD_eq_getElem?_getD, hi', encInt]
theorem nmix_next (h : k < src.length) : ((numMix src c k).map encInt).set k (encInt (ofS (at_ src k) c).num) = (numMix src c (k + 1)).map encInt := by
  rw [← List.map_set]
  congr 1
  refine at_ext (by simp [nmix_len]) fun i hi => ?_
  have hi' : i < src.length := by simpa [nmix_len] using hi
  rw [at_set (by rw [nmix_len]; exact hi'), nmix_at hi', nmix_at hi']
  by_cases e : i = k
  · subst e; simp
  · by_cases h1 : i < k
    · rw [if_neg e, if_pos h1, if_pos (by omega)]
    · rw [if_neg e, if_neg h1, if_neg (by omega)]
theorem nmix_all : numMix src c src.length = numsF src c := by
  refine at_ext (by simp [nmix_len, numsF]) fun i hi => ?_
  rw [nmix_len] at hi
  rw [nmix_at hi, if_pos hi, numsF, at_mapN hi]
end
theorem c98g (ds : List Dim) (ys : List (List D)) (at' : List Int) (hy : ys = at'.map encInt) (hl : at'.length = ds.length) : CallA Tryz.prog 98 [.one (.d (encDims ds)), .one (.d (.sl 1 8 ys))] [] (.one (.d (.bool (withinL ds at')))) [] := by
  subst hy; exact c98 ds at' hl
def movedAV (src : List (Int × Bool)) (ds : List Dim) (c : Cell) : AV := if src.all (fun s => (ofS s c).kind == 2) then .tup [(false, [.d (encInts (numsF src c))]), (false, [.d (.bool (withinL ds (numsF src c)))])] else .tup [(false, [.d .nil]), (false, [.d (.bool false)])]
theorem c109 (c : Cell) (src : List (Int × Bool)) (ds : List Dim) (hl : src.length = ds.length) (h4 : src.length ≤ 1000) (hs : ∀ i, i < src.length → okS (at_ src i) c) : CallA Tryz.prog 109 [.agg [.d (encInts c.at'), .d (encVals c.vals)], .one (.d (encSrcs src)), .one (.d (encDims ds))] [] (movedAV src ds c) [] := by
  refine enter tabOk Tryz.func109 rfl (by decide +kernel) rfl fun hok w0 σ0 φ0 M => ?_
  clear hok
  have hnl : (numsF src c).length = ds.length := by simp [numsF, hl]
  repeat' (first | (show OkOps _ _ _ _ _ _; first | (show OkOps _ _ _ (Oper.mk _ (Op.makeSlice _ _ _) _ _ _ (_) :: _) _ _; first | refine s_new envOk 10 rfl rfl rfl (step3_makeSlice (n := src.length) rfl rfl rfl rfl rfl (by simp) (by simp) (by omega) (Nat.le_of_ble_eq_true rfl)) rfl rfl ?_ | fail) | (show OkOps _ _ _ (Oper.mk _ (Op.call _) _ _ _ (_) :: _) _ _; first | refine s_callF rfl rfl rfl rfl rfl rfl rfl rfl (c110 _ c (hs _ (by first | omega | ((try simp only [decide_eq_true_eq, decide_eq_false_iff_not, Bool.not_eq_true', Bool.not_true, Bool.not_false, List.length_map, List.length_set, bne_iff_ne, ne_eq, beq_iff_eq, bne_eq_false_iff_eq, beq_eq_false_iff_ne] at *); omega)))) rfl ?_ | fail) | (show OkOps _ _ _ (Oper.mk _ (Op.call _) _ _ _ (_) :: _) _ _; first | refine s_callFS [10] rfl rfl rfl rfl rfl rfl rfl rfl rfl (c98g ds _ (numsF src c) (by rw [List.take_of_length_le (by omega), hr, show p.1 = src.length from (by first | omega | ((try simp only [decide_eq_true_eq, decide_eq_false_iff_not, Bool.not_eq_true', Bool.not_true, Bool.not_false, List.length_map, List.length_set, bne_iff_ne, ne_eq, beq_iff_eq, bne_eq_false_iff_eq, beq_eq_false_iff_ne] at *); omega)), nmix_all]) hnl) rfl ?_ | fail) | refine okops_nil ?_ | refine s_plain tabOk rfl rfl rfl rfl rfl ?_ | (show OkOps _ _ _ (Oper.mk _ (Op.binOp .add _ _ _ _) _ _ _ (_) :: _) _ _; first | refine s_e envOk rfl rfl rfl (step3_add rfl rfl rfl rfl (wrap64 (by omega) (by omega))) ?_ | fail) | (show OkOps _ _ _ (Oper.mk _ (Op.indexAddr _ _ _) _ _ _ (_) :: _) _ _; first | refine s_e envOk rfl rfl rfl (step3_idxOwn rfl rfl rfl rfl rfl rfl (by first | omega | ((try simp only [decide_eq_true_eq, decide_eq_false_iff_not, Bool.not_eq_true', Bool.not_true, Bool.not_false, List.length_map, List.length_set, bne_iff_ne, ne_eq, beq_iff_eq, bne_eq_false_iff_eq, beq_eq_false_iff_ne] at *); omega)) (by first | omega | ((try simp only [decide_eq_true_eq, decide_eq_false_iff_not, Bool.not_eq_true', Bool.not_true, Bool.not_false, List.length_map, List.length_set, bne_iff_ne, ne_eq, beq_iff_eq, bne_eq_false_iff_eq, beq_eq_false_iff_ne] at *); omega))) ?_ | refine s_e envOk rfl rfl rfl (step3_idx rfl rfl rfl rfl rfl (by first | omega | ((try simp only [decide_eq_true_eq, decide_eq_false_iff_not, Bool.not_eq_true', Bool.not_true, Bool.not_false, List.length_map, List.length_set, bne_iff_ne, ne_eq, beq_iff_eq, bne_eq_false_iff_eq, beq_eq_false_iff_ne] at *); omega)) (at_map (by first | omega | ((try simp only [decide_eq_true_eq, decide_eq_false_iff_not, Bool.not_eq_true', Bool.not_true, Bool.not_false, List.length_map, List.length_set, bne_iff_ne, ne_eq, beq_iff_eq, bne_eq_false_iff_eq, beq_eq_false_iff_ne] at *); omega)))) ?_ | fail) | (show OkOps _ _ _ (Oper.mk _ (Op.box _ _) _ _ _ (_) :: _) _ _; first | refine s_box 0 rfl rfl rfl rfl rfl rfl ?_ | fail) | (show OkOps _ _ _ (Oper.mk _ (Op.alloc _) _ _ _ (_) :: _) _ _; first | refine s_alloc tabOk 1 rfl rfl rfl rfl rfl ?_ | refine s_alloc tabOk 2 rfl rfl rfl rfl rfl ?_ | fail) | refine s_store envOk rfl rfl (step3_storeRow rfl rfl rfl rfl rfl rfl rfl rfl rfl (row_get (by assumption) (by first | omega | ((try simp only [decide_eq_true_eq, decide_eq_false_iff_not, Bool.not_eq_true', Bool.not_true, Bool.not_false, List.length_map, List.length_set, bne_iff_ne, ne_eq, beq_iff_eq, bne_eq_false_iff_eq, beq_eq_false_iff_ne] at *); omega))) rfl) ?_ | refine s_store envOk rfl rfl rfl ?_ | fail) | (show OkC _ _ _ _ _; first | refine okc_imp (imp_sealL (dl := [10]) rfl) (ok_ret ?_) | refine ok_seq ?_ | refine ok_region ?_ | refine ok_block ?_ | refine ok_skip ?_ | refine ok_exit ?_ | refine ok_cond rfl (fun h => ?_) (fun h => ?_) | refine s_loopM 3 rfl [(2, _), (3, _), (8, _), (15, _), (16, _)] (subL_cons rfl (subL_cons rfl (subL_cons rfl (subL_cons rfl (subL_cons rfl subL_nil))))) (fun (p : Nat × List (List D)) => [(17, .one (.d (.int .i64 (p.1 : Int))))]) (fun (p : Nat × List (List D)) => [(10, .row 1 8 p.2), (0, .box [.d (encInts c.at'), .d (encVals c.vals)])]) (fun (p : Nat × List (List D)) => p.1 ≤ src.length ∧ p.2.length = src.length ∧ p.2 = (numMix src c p.1).map encInt ∧ (∀ i, i < p.1 → (ofS (at_ src i) c).kind = 2)) (fun (p : Nat × List (List D)) => src.length - p.1) (0, List.replicate src.length [.int .i64 0]) (subL_cons rfl subL_nil) (by first | exact subL_nil | exact (subL_cons rfl subL_nil) | exact (subL_cons rfl (subL_cons rfl subL_nil)) | exact (subL_cons rfl (subL_cons rfl (subL_cons rfl subL_nil))) | exact (subL_cons rfl (subL_cons rfl (subL_cons rfl (subL_cons rfl subL_nil)))) | exact (subL_cons rfl (subL_cons rfl (subL_cons rfl (subL_cons rfl (subL_cons rfl subL_nil))))) | exact (subL_cons rfl (subL_cons rfl (subL_cons rfl (subL_cons rfl (subL_cons rfl (subL_cons rfl subL_nil)))))) | exact (subL_cons rfl (subL_cons rfl (subL_cons rfl (subL_cons rfl (subL_cons rfl (subL_cons rfl (subL_cons rfl subL_nil))))))) | exact (subL_cons rfl (subL_cons rfl (subL_cons rfl (subL_cons rfl (subL_cons rfl (subL_cons rfl (subL_cons rfl (subL_cons rfl subL_nil))))))))) ?_ (fun p ⟨hk, hln, hr, ho⟩ => ?_) | fail) | (show thenQ _ _ _ _; first | refine then_n ?_ | refine then_r ?_ | refine then_x ?_ | fail) | (show blockQ _ _ _ _; first | refine block_n ?_ | refine block_r ?_ | refine block_x rfl ?_ | fail) | (show RetQ _ _ _ _ _ _; first | refine ret_leaf (.inl rfl) rfl rfl ?_ | fail) | (show Exists _; first | refine Exists.intro ((p.1 + 1, p.2.set p.1 [.int .i64 (ofS (at_ src p.1) c).num])) ⟨?_, ?_, (by first | exact subL_nil | exact (subL_cons rfl subL_nil) | exact (subL_cons rfl (subL_cons rfl subL_nil)) | exact (subL_cons rfl (subL_cons rfl (subL_cons rfl subL_nil))) | exact (subL_cons rfl (subL_cons rfl (subL_cons rfl (subL_cons rfl subL_nil)))) | exact (subL_cons rfl (subL_cons rfl (subL_cons rfl (subL_cons rfl (subL_cons rfl subL_nil))))) | exact (subL_cons rfl (subL_cons rfl (subL_cons rfl (subL_cons rfl (subL_cons rfl (subL_cons rfl subL_nil)))))) | exact (subL_cons rfl (subL_cons rfl (subL_cons rfl (subL_cons rfl (subL_cons rfl (subL_cons rfl (subL_cons rfl subL_nil))))))) | exact (subL_cons rfl (subL_cons rfl (subL_cons rfl (subL_cons rfl (subL_cons rfl (subL_cons rfl (subL_cons rfl (subL_cons rfl subL_nil))))))))), (subL_cons rfl subL_nil), (subL_cons rfl (subL_cons rfl (subL_cons rfl (subL_cons rfl (subL_cons rfl subL_nil)))))⟩ | fail) | fail)
  · exact ⟨Nat.zero_le _, by simp, nmix_zero.symm, fun i hi => absurd hi (Nat.not_lt_zero _)⟩
  · have hlt : p.1 < src.length := by simpa using ‹decide ((p.1 : Int) < ((src.map encSrc).length : Int)) = true›
    have hkd : ¬ (src.all (fun s => (ofS s c).kind == 2)) = true := by
      intro hall
      rw [List.all_eq_true] at hall
      have h2 := hall _ (at_mem hlt)
      have h3 : ((ofS (at_ src p.1) c).kind != 2) = true := h
      simp only [beq_iff_eq] at h2
      simp [h2] at h3
    unfold movedAV
    rw [if_neg hkd]
    rfl
  · have hlt : p.1 < src.length := by simpa using ‹decide ((p.1 : Int) < ((src.map encSrc).length : Int)) = true›
    have h3 : ((ofS (at_ src p.1) c).kind != 2) = false := h
    refine ⟨hlt, by simp [hln], ?_, fun i hi => ?_⟩
    · show p.2.set p.1 _ = _
      rw [hr]; exact nmix_next hlt
    · rcases Nat.lt_or_ge i p.1 with h5 | h5
      · exact ho i h5
      · have : i = p.1 := by have : i < p.1 + 1 := hi; omega
        rw [this]; simpa using h3
  · have hlt : p.1 < src.length := by simpa using ‹decide ((p.1 : Int) < ((src.map encSrc).length : Int)) = true›
    show src.length - (p.1 + 1) < src.length - p.1
    omega
  · have hpn : p.1 = src.length := by
      have : src.length ≤ p.1 := by simpa using h
      omega
    have hkd : (src.all (fun s => (ofS s c).kind == 2)) = true := by
      rw [List.all_eq_true]
      intro s hs'
      obtain ⟨i, hi, rfl⟩ := at_ofmem hs'
      have := ho i (by omega)
      simp [this]
    have e : p.2.take src.length = (numsF src c).map encInt := by rw [List.take_of_length_le (by omega), hr, hpn, nmix_all]
    unfold movedAV
    rw [if_pos hkd]
    show AV.tup [(false, [.d (.sl 1 8 (p.2.take src.length))]), _] = _
    rw [e]
    rfl
end Go.Proofs.YtpejdgkaapnekaaGreat
