import Derived.Shelf.SlSortCmp.WholeK
import Derived.Shelf.SlSortCmp.NoneTotal
import Derived.Test.YtpejdgkaapnekaaGreatP6
import Derived.Test.YtpejdgkaapnekaaGreatTab
set_option linter.unusedVariables false
set_option linter.unusedSimpArgs false
namespace Go.Abs
open Go Go.Shelf Go.RowKit Go.Lib Go.Sort Go.Proofs
variable {P : Program} {σ : Sig} {φ : Pl} {w : World}
theorem all2_d {σ : Sig} {φ : Pl} {sto : Sto} : ∀ {ds : List D} {vs : List Value}, All2 (Rep σ) ds vs → All2 (RepC σ φ sto) (ds.map AC.d) vs
  | [], [], _ => trivial
  | _ :: _, _ :: _, h => ⟨.d h.1, all2_d h.2⟩
  | [], _ :: _, h => h.elim
  | _ :: _, [], h => h.elim
theorem all2_oneCell : ∀ {ds : List D} {vs : List Value}, All2 (Rep σ) ds vs → ∀ v ∈ vs, v.oneCell = true
  | [], [], _, v, hv => by simp at hv
  | _ :: _, _ :: _, h, v, hv => by
    rcases List.mem_cons.1 hv with rfl | hv
    · exact h.1.oneCell
    · exact all2_oneCell h.2 v hv
  | [], _ :: _, h, _, _ => h.elim
  | _ :: _, [], h, _, _ => h.elim
theorem kept_grow {M : Nat → Prop} {w w' : World} (h : Kept M w w') (hM : ∀ b, ¬ M b) : ∃ q os, w' = grow (w.drewN q) os := by
  refine ⟨w'.drawn - w.drawn, w'.heap.extract w.heap.size w'.heap.size, ?_⟩
  have hh : w'.heap = w.heap ++ w'.heap.extract w.heap.size w'.heap.size := by
    refine Array.ext_getElem? fun i => ?_
    by_cases hi : i < w.heap.size
    · rw [Array.getElem?_append_left hi]; exact h.block i hi (hM i)
    · rw [Array.getElem?_append_right (by omega), Array.getElem?_extract]
      have := h.size
      by_cases hi2 : i < w'.heap.size
      · rw [if_pos (by omega)]; congr 1; omega
      · rw [if_neg (by omega)]; exact Array.getElem?_eq_none (by omega)
  have h1 := h.os; have h2 := h.tape; have h3 := h.output; have h4 := h.drawn
  cases w; cases w'
  simp only [grow, World.drewN] at *
  subst h1 h2 h3
  congr 1
  omega
theorem heap_putRow_other {enc : Value → Value} {w : World} {B off b : Nat} {d : Array Value} (h : b ≠ B) : (putRow enc w B off d).heap[b]? = w.heap[b]? := by
  simp only [putRow, mapBlock, Array.getElem?_modify, if_neg (Ne.symm h)]
theorem heap_sort_other {α : Type} [Inhabited α] {enc : α → List Value} {k : Nat} {w : World} {B off m b : Nat} {d : Array α} {os : Array Obj} (hb : b < w.heap.size) (h : b ≠ B) :
    (sortWorldK enc k w B off m d os).heap[b]? = w.heap[b]? := by
  unfold sortWorldK grow putRowK
  show ((putRow id (Sort.ahead w m) B off (flatK enc k d)).heap ++ os)[b]? = _
  rw [Array.getElem?_append_left (by rw [Go.Sort.size_putRow]; exact hb), heap_putRow_other h]
  rfl
theorem heap_sort_row {α : Type} [Inhabited α] {enc : α → List Value} {k : Nat} {w : World} {B off m : Nat} {d : Array α} {os : Array Obj} {arr : Array Value} {t : TypeId} {fr : Nat × Nat} (h : w.heap[B]? = some (.cells arr t fr)) :
    (sortWorldK enc k w B off m d os).heap[B]? = some (.cells (putCells id off (flatK enc k d) arr) t fr) := by
  unfold sortWorldK grow putRowK
  show ((putRow id (Sort.ahead w m) B off (flatK enc k d)).heap ++ os)[B]? = _
  have hB := (Array.getElem?_eq_some_iff.1 h).1
  rw [Array.getElem?_append_left (by rw [Go.Sort.size_putRow]; exact hB)]
  simp only [putRow, mapBlock, Array.getElem?_modify, if_true]
  show (w.heap[B]?).map _ = _
  rw [h]; rfl
theorem size_sort {α : Type} [Inhabited α] {enc : α → List Value} {k : Nat} {w : World} {B off m : Nat} {d : Array α} {os : Array Obj} :
    w.heap.size ≤ (sortWorldK enc k w B off m d os).heap.size := by
  unfold sortWorldK grow putRowK
  show w.heap.size ≤ ((putRow id (Sort.ahead w m) B off (flatK enc k d)).heap ++ os).size
  rw [Array.size_append, Go.Sort.size_putRow]
  exact Nat.le_add_right _ _
section
variable {C : Type}
abbrev El (σ : Sig) (k : Nat) (encC : C → List D) := { p : C × List Value // p.2.length = k ∧ All2 (Rep σ) (encC p.1) p.2 }
set_option maxHeartbeats 1000000 in
theorem callA_sort {ρ : Ren} (L : SlLaysF0.n6 P ρ) (k b : Nat) (hk0 : 0 < k) (aE : ∀ w, (isAgg (ρ.t 24)).run P w = .ok true w) (zE : ∀ w, (Go.sizeOf (ρ.t 24)).run P w = .ok k w)
    (encC : C → List D) (hk : ∀ x, (encC x).length = k) (cf : C → C → Int) (h1 : ∀ x, ¬ cf x x < 0) (h2 : ∀ x y z, cf x y < 0 → cf y z < 0 → cf x z < 0) (h3 : ∀ x y z, ¬ cf x y < 0 → ¬ cf y z < 0 → ¬ cf x z < 0)
    (g : Nat) (hg : ∀ x y, CallA P g [.agg ((encC x).map .d), .agg ((encC y).map .d)] [] (.one (.d (.int .i64 (cf x y)))) [])
    (eg : ∀ args w, (callFunc g args).run P w = .ok (.enter g args) w)
    (hfn : ∃ fn, P.funcs[ρ.f 6]? = some fn ∧ (fn.name == "runtime.NumGoroutine") = false ∧ fn.body.isSome = true)
    (id : Nat) (cs ss : List C) (hu : ∀ l : List C, l.Perm cs → l.Pairwise (fun x y => ¬ cf y x < 0) → l = ss) :
    CallA P (ρ.f 6) [.one (.own id cs.length), .one (.d (.fn g []))] [(id, .row k b (cs.map encC))] (.tup []) [(id, .row k b (ss.map encC))] := by
  refine ⟨hfn, fun w σ φ vs hI hA => ?_⟩
  match vs, hA with
  | [v0, v1], hA =>
  obtain ⟨hv0, hv1, _⟩ := hA
  have ev1 : v1 = .func (.func g) #[] #[] := by
    have hv1 : RepC σ φ _ (.d (.fn g [])) v1 := hv1
    cases hv1.d_inv with
    | fn ws hl _ =>
      have : ws = [] := List.eq_nil_of_length_eq_zero (by simpa using hl)
      subst this; rfl
  subst ev1
  have hlook : look [(id, AObj.row k b (cs.map encC))] id = some (.row k b (cs.map encC)) := by simp [look]
  have hobj := hI.obj id _ hlook
  by_cases hn : cs = []
  · subst hn
    have hss : ss = [] := (hu [] (List.Perm.refl _) .nil).symm
    subst hss
    have ev0 : ∃ p c, v0 = .slice p 0 c := by
      have hv0 : RepC σ φ _ (.own id 0) v0 := hv0
      cases hv0 with
      | ownNil => exact ⟨_, _, rfl⟩
      | own => exact ⟨_, _, rfl⟩
      | dead hx => simp [acIn, hasK, look] at hx
    obtain ⟨p, c, rfl⟩ := ev0
    refine (AnyF.slices_SortFunc_none L p c _ w).mono ?_
    rintro e w' ⟨rfl, rfl⟩
    exact ⟨_, σ, φ, rfl, Sig.le_refl _, fun b hb => .inl hb, hI, ⟨[], rfl, trivial⟩, fun i e p h1 h2 => .inr ⟨i, e, p, h1, h2, rfl⟩, fun _ _ => rfl, ⟨rfl, rfl, rfl, Nat.le_refl _, Nat.le_refl _, fun _ _ _ => rfl⟩⟩
  · have hn0 : 0 < cs.length := List.length_pos_iff.2 hn
    have hv0 : RepC σ φ _ (.own id cs.length) v0 := hv0
    obtain ⟨B, cap0, rfl, hφ⟩ : ∃ B cap, v0 = .slice (some ⟨B, 0, none⟩) cs.length cap ∧ φ id = some (B, cap) := by
      revert hv0; generalize cs.length = m at hn0 ⊢; intro hv0
      cases hv0 with
      | ownNil => omega
      | own _ _ hp => exact ⟨_, _, rfl, hp⟩
      | dead hx => simp [acIn, hasK, look] at hx
    rcases hobj with ⟨he, _⟩ | ⟨B', cap, arr, t, vf, hφ', hheap, hsz, hle, h48, hb47, hlen, hcell, hrep, hσ⟩
    · simp at he; exact absurd he hn
    rw [hφ] at hφ'; cases hφ'
    simp only [List.length_map] at hle h48 hb47 hcell
    have hB : B < w.heap.size := (Array.getElem?_eq_some_iff.1 hheap).1
    have hel : ∀ i (hi : i < cs.length), ((List.range k).map (vf i)).length = k ∧ All2 (Rep σ) (encC cs[i]) ((List.range k).map (vf i)) := by
      intro i hi
      refine ⟨by simp, All2.of_get (by simp [hk]) fun j x v hx hv => ?_⟩
      have hj : j < k := by have := (List.getElem?_eq_some_iff.1 hx).1; rwa [hk] at this
      have hv' : v = vf i j := by
        rw [List.getElem?_map, List.getElem?_range hj] at hv; simpa using hv.symm
      subst hv'
      exact hrep i j _ _ (by rw [List.getElem?_map, List.getElem?_eq_getElem hi]; rfl) hx
    let mk : (i : Nat) → i < cs.length → El σ k encC := fun i hi => ⟨(cs[i], (List.range k).map (vf i)), hel i hi⟩
    haveI : Inhabited (El σ k encC) := ⟨mk 0 hn0⟩
    let d : Array (El σ k encC) := Array.ofFn (n := cs.length) fun i => mk i.1 i.2
    have hds : d.size = cs.length := by simp [d]
    have hdg : ∀ i (hi : i < cs.length), d[i]! = mk i hi := by
      intro i hi; rw [getElem!_pos d i (by omega)]; simp [d]
    have hdl : d.toList.map (fun x => x.1.1) = cs := by
      refine List.ext_getElem (by simp [hds]) fun i h4 h5 => ?_
      simp [d, mk]
    let enc : El σ k encC → List Value := fun x => x.1.2
    let cf' : El σ k encC → El σ k encC → Int := fun x y => cf x.1.1 y.1.1
    have hO : SWO (ltOf cf') :=
      ⟨fun x => by simpa [ltOf, cf'] using h1 x.1.1, fun x y z => by simpa [ltOf, cf'] using h2 x.1.1 y.1.1 z.1.1, fun x y z => by simpa [ltOf, cf'] using h3 x.1.1 y.1.1 z.1.1⟩
    have hHK : HoldsK enc k w B 0 d := by
      intro j hj
      rw [size_flatK, hds] at hj
      have hj1 : j / k < cs.length := Nat.div_lt_of_lt_mul (by rwa [Nat.mul_comm] at hj)
      have hj2 : j % k < k := Nat.mod_lt _ hk0
      have hc := hcell (j / k) (j % k) hj1 hj2
      rw [Nat.div_add_mod' j k] at hc
      rw [get_flatK enc k d j (by rw [hds]; exact hj), hdg _ hj1]
      have e : (enc (mk (j / k) hj1))[j % k]! = vf (j / k) (j % k) := by
        rw [getElem!_pos _ _ (by simp [enc, mk]; exact hj2)]; simp [enc, mk]
      rw [e]
      refine ⟨?_, ?_⟩
      · simp only [World.cell?, hheap, Nat.zero_add]
        simpa using hc
      · simp [World.frozen?, hheap]
    have hsig : ∀ (m : Nat) (os : Array Obj) (dk : Array (El σ k encC)), HInv σ φ [] (sortWorldK enc k w B 0 m dk os) := by
      intro m os dk
      refine ⟨fun b cs' hb => ?_, fun i e h => by simp [look] at h, fun i i' e e' p p' h => by simp [look] at h⟩
      obtain ⟨t', f', hh⟩ := hI.sig b cs' hb
      refine ⟨t', f', ?_⟩
      rw [heap_sort_other (Array.getElem?_eq_some_iff.1 hh).1 (by rintro rfl; rw [hσ] at hb; cases hb)]
      exact hh
    have hcmp : CmpLays P g #[] enc k cf' B 0 d.size w := by
      intro m os dk _ x y
      have hr := (hg x.1.1 y.1.1).run (sortWorldK enc k w B 0 m dk os) σ φ [.agg (enc x).toArray, .agg (enc y).toArray] (hsig m os dk) ⟨⟨_, rfl, all2_d x.2.2⟩, ⟨_, rfl, all2_d y.2.2⟩, trivial⟩
      refine Calls.mono hr ?_
      rintro e w' ⟨v, σ', φ', rfl, hret⟩
      obtain ⟨q, os', hq⟩ := kept_grow hret.kept (fun b hb => by obtain ⟨i, e, p, h, _⟩ := hb; simp [look] at h)
      have hv : v = .int .i64 (cf x.1.1 y.1.1) := by
        have h : RepC σ' φ' [] (.d (.int .i64 (cf x.1.1 y.1.1))) v := hret.rep
        cases h.d_inv; rfl
      exact ⟨by rw [hv], q, os', hq⟩
    have hS := AnyQ.slices_SortFunc L k aE zE enc (fun x => x.2.1) (fun x v hv => oneCell_of (all2_oneCell x.2.2 v hv)) cf' hO g #[] B 0 cap0 d w eg hcmp hHK hB (by omega)
    rw [hds] at hS
    refine Calls.mono hS ?_
    rintro e w' ⟨rfl, d', n', os, hperm, hsorted, rfl⟩
    have hd's : d'.size = cs.length := hperm.1.trans hds
    have hpl : d'.toList.Perm d.toList := by
      have h := hperm.2.2
      have e1 : d'.extract 0 cs.length = d' := by rw [← hd's]; simp
      have e2 : d.extract 0 cs.length = d := by rw [← hds]; simp
      rwa [e1, e2] at h
    have hl : d'.toList.map (fun x => x.1.1) = ss := by
      refine hu _ (hdl ▸ hpl.map _) ?_
      rw [List.pairwise_map, List.pairwise_iff_getElem]
      intro i j hi hj hij
      have h := hsorted i j (Nat.zero_le _) hij (by simpa [hd's] using hj)
      simp only [Array.length_toList] at hi hj
      rw [getElem!_pos d' i hi, getElem!_pos d' j hj] at h
      simpa [ltOf, cf'] using h
    have hssl : ss.length = cs.length := by rw [← hl]; simp [hd's]
    have hget : ∀ i (hi : i < cs.length) (x : C), ss[i]? = some x → d'[i]!.1.1 = x := by
      intro i hi x hx
      rw [← hl, List.getElem?_map, Array.getElem?_toList, Array.getElem?_eq_getElem (by omega)] at hx
      rw [getElem!_pos d' i (by omega)]
      simpa using hx
    have hmine : MOf φ [(id, AObj.row k b (cs.map encC))] B := ⟨id, _, _, hlook, hφ, rfl⟩
    refine ⟨_, σ, φ, rfl, Sig.le_refl _, fun b hb => .inl hb, ⟨fun b cs' hb => ?_, fun i e hi => ?_, fun i i' e e' p p' hi hi' hne => ?_⟩, ⟨[], rfl, trivial⟩, fun i e p hi hp => .inr ?_, fun _ _ => rfl, ⟨rfl, rfl, rfl, size_sort, Nat.le_add_right _ _, fun b hb hM => heap_sort_other hb (by rintro rfl; exact hM hmine)⟩⟩
    · obtain ⟨t', f', hh⟩ := hI.sig b cs' hb
      refine ⟨t', f', ?_⟩
      rw [heap_sort_other (Array.getElem?_eq_some_iff.1 hh).1 (by rintro rfl; rw [hσ] at hb; cases hb)]
      exact hh
    · rcases look_cons hi with ⟨rfl, rfl⟩ | ⟨_, hi⟩
      · refine .inr ⟨B, cap0, putCells _root_.id 0 (flatK enc k d') arr, t, fun i j => (enc d'[i]!)[j]!, hφ, heap_sort_row hheap, by simp [putCells, hsz], by simpa [hssl] using hle, by simpa [hssl] using h48, by simpa [hssl] using hb47, fun x hx => ?_, fun i j hi hj => ?_, fun i j x dd hx hdd => ?_, hσ⟩
        · obtain ⟨c, _, rfl⟩ := List.mem_map.1 hx; exact hk c
        · simp only [List.length_map, hssl] at hi
          have hlt : i * k + j < cs.length * k := by
            have := Nat.mul_le_mul_right k (show i + 1 ≤ cs.length from hi); rw [Nat.add_mul, Nat.one_mul] at this; omega
          have hc := hcell i j hi hj
          simp only [putCells, Array.getElem?_mapIdx, hc, Option.map_some, size_flatK, hd's, Nat.zero_le, true_and, Nat.zero_add, hlt, if_true, Nat.sub_zero]
          rw [get_flatK enc k d' _ (by rw [hd's]; exact hlt)]
          have e1 : (i * k + j) / k = i := (blk_iff k i _ hk0).1 ⟨by omega, by omega⟩
          have e2 : (i * k + j) % k = j := by rw [Nat.mod_eq_sub_div_mul, e1]; omega
          rw [e1, e2]; rfl
        · rw [List.getElem?_map] at hx
          cases hs : ss[i]? with
          | none => rw [hs] at hx; simp at hx
          | some c =>
            rw [hs] at hx; simp at hx; subst hx
            have hi : i < cs.length := by rw [← hssl]; exact (List.getElem?_eq_some_iff.1 hs).1
            have e1 := hget i hi c hs
            have ha := (d'[i]!).2.2
            rw [e1] at ha
            obtain ⟨v, hv, hr⟩ := ha.get hdd
            have : (enc d'[i]!)[j]! = v := by
              have hv2 := (List.getElem?_eq_some_iff.1 hv)
              exact (getElem!_pos (enc d'[i]!) j hv2.1).trans hv2.2
            show Rep σ dd ((enc d'[i]!)[j]!)
            rw [this]; exact hr
      · simp [look] at hi
    · rcases look_cons hi with ⟨rfl, _⟩ | ⟨_, hi⟩
      · rcases look_cons hi' with ⟨rfl, _⟩ | ⟨_, hi'⟩
        · exact absurd rfl hne
        · simp [look] at hi'
      · simp [look] at hi
    · rcases look_cons hi with ⟨rfl, _⟩ | ⟨_, hi⟩
      · rw [hφ] at hp; cases hp; exact hmine
      · simp [look] at hi
end
end Go.Abs
namespace Go.Proofs.YtpejdgkaapnekaaGreat
open Go Go.Proofs Go.Shelf
def sortC_ren : Go.Shelf.Ren := ⟨fun | 6 => 181 | 15 => 219 | 14 => 231 | 28 => 261 | 29 => 262 | 20 => 271 | 21 => 272 | 22 => 273 | 23 => 274 | 24 => 275 | 25 => 276 | 26 => 277 | 27 => 278 | 46 => 338 | 47 => 295 | 48 => 296 | 49 => 339 | 50 => 340 | 57 => 368 | n => n, fun | 22 => 24 | 24 => 56 | 25 => 172 | 3 => 3 | 39 => 192 | 0 => 0 | 53 => 251 | 55 => 253 | 4 => 4 | 46 => 244 | 45 => 243 | 50 => 119 | 5 => 5 | 9 => 9 | 66 => 278 | 70 => 282 | 76 => 302 | 77 => 303 | n => n, fun | n => n⟩
theorem sortC : Go.Proofs.SlLaysF0.n6 Tryz.prog sortC_ren := {
  mixed := by kernel_rfl
  f6 := ⟨Tryz.f181.name, by decide, Tryz.func181.trans (congrArg some (by kernel_rfl))⟩
  f14 := ⟨Tryz.f231.name, by decide, Tryz.func231.trans (congrArg some (by kernel_rfl))⟩
  f15 := Tryz.func219.trans (congrArg some (by kernel_rfl))
  f20 := ⟨Tryz.f271.name, by decide, Tryz.func271.trans (congrArg some (by kernel_rfl))⟩
  f21 := ⟨Tryz.f272.name, by decide, Tryz.func272.trans (congrArg some (by kernel_rfl))⟩
  f22 := ⟨Tryz.f273.name, by decide, Tryz.func273.trans (congrArg some (by kernel_rfl))⟩
  f23 := ⟨Tryz.f274.name, by decide, Tryz.func274.trans (congrArg some (by kernel_rfl))⟩
  f24 := ⟨Tryz.f275.name, by decide, Tryz.func275.trans (congrArg some (by kernel_rfl))⟩
  f25 := ⟨Tryz.f276.name, by decide, Tryz.func276.trans (congrArg some (by kernel_rfl))⟩
  f26 := ⟨Tryz.f277.name, by decide, Tryz.func277.trans (congrArg some (by kernel_rfl))⟩
  f27 := ⟨Tryz.f278.name, by decide, Tryz.func278.trans (congrArg some (by kernel_rfl))⟩
  f28 := Tryz.func261.trans (congrArg some (by kernel_rfl))
  f29 := Tryz.func262.trans (congrArg some (by kernel_rfl))
  f46 := ⟨Tryz.f338.name, by decide, Tryz.func338.trans (congrArg some (by kernel_rfl))⟩
  f47 := Tryz.func295.trans (congrArg some (by kernel_rfl))
  f48 := Tryz.func296.trans (congrArg some (by kernel_rfl))
  f49 := ⟨Tryz.f339.name, by decide, Tryz.func339.trans (congrArg some (by kernel_rfl))⟩
  f50 := ⟨Tryz.f340.name, by decide, Tryz.func340.trans (congrArg some (by kernel_rfl))⟩
  f57 := ⟨Tryz.f368.name, by decide, Tryz.func368.trans (congrArg some (by kernel_rfl))⟩
  t0 := Tryz.underlying0
  a0 := Tryz.isAgg0
  z0 := Tryz.sizeOf0
  v0 := Tryz.zeroValue0
  t3 := Tryz.underlying3
  a3 := Tryz.isAgg3
  z3 := Tryz.sizeOf3
  v3 := Tryz.zeroValue3
  t4 := Tryz.underlying4
  a4 := Tryz.isAgg4
  z4 := Tryz.sizeOf4
  v4 := Tryz.zeroValue4
  t5 := Tryz.underlying5
  a5 := Tryz.isAgg5
  z5 := Tryz.sizeOf5
  v5 := Tryz.zeroValue5
  t9 := Tryz.underlying9
  a9 := Tryz.isAgg9
  z9 := Tryz.sizeOf9
  v9 := Tryz.zeroValue9
  t22 := Tryz.underlying24
  a22 := Tryz.isAgg24
  z22 := Tryz.sizeOf24
  v22 := Tryz.zeroValue24
  t25 := Tryz.underlying172
  a25 := Tryz.isAgg172
  z25 := Tryz.sizeOf172
  v25 := Tryz.zeroValue172
  t39 := Tryz.underlying192
  a39 := Tryz.isAgg192
  z39 := Tryz.sizeOf192
  v39 := Tryz.zeroValue192
  t45 := Tryz.underlying243
  a45 := Tryz.isAgg243
  z45 := Tryz.sizeOf243
  v45 := Tryz.zeroValue243
  t46 := Tryz.underlying244
  a46 := Tryz.isAgg244
  z46 := Tryz.sizeOf244
  v46 := Tryz.zeroValue244
  t50 := Tryz.underlying119
  a50 := Tryz.isAgg119
  z50 := Tryz.sizeOf119
  v50 := Tryz.zeroValue119
  t53 := Tryz.underlying251
  a53 := Tryz.isAgg251
  z53 := Tryz.sizeOf251
  v53 := Tryz.zeroValue251
  t55 := Tryz.underlying253
  a55 := Tryz.isAgg253
  z55 := Tryz.sizeOf253
  v55 := Tryz.zeroValue253
  t66 := Tryz.underlying278
  a66 := Tryz.isAgg278
  z66 := Tryz.sizeOf278
  v66 := Tryz.zeroValue278
  t70 := Tryz.underlying282
  a70 := Tryz.isAgg282
  z70 := Tryz.sizeOf282
  v70 := Tryz.zeroValue282
  t76 := Tryz.underlying302
  a76 := Tryz.isAgg302
  z76 := Tryz.sizeOf302
  v76 := Tryz.zeroValue302
  t77 := Tryz.underlying303
  a77 := Tryz.isAgg303
  z77 := Tryz.sizeOf303
  v77 := Tryz.zeroValue303 }
end Go.Proofs.YtpejdgkaapnekaaGreat
namespace Go.Proofs.YtpejdgkaapnekaaGreat
open Go Go.Abs
attribute [local irreducible] OkOps OkC DRun thenQ blockQ RetQ
set_option maxRecDepth 10000
def cellC (x : Cell) : AV := .agg ((encCell x).map .d)
theorem c182 (x y : Cell) : CallA Tryz.prog 182 [cellC x, cellC y] [] (.one (.d (.int .i64 (cmpF x.at' y.at')))) [] := by
  unfold cellC encCell
  simp only [List.map_cons, List.map_nil]
  refine enter tabOk Tryz.func182 rfl (by decide +kernel) rfl fun hok w0 σ0 φ0 M => ?_
  clear hok
  repeat' (first | (show OkOps _ _ _ _ _ _; first | refine okops_nil ?_ | refine s_plain tabOk rfl rfl rfl rfl rfl ?_ | (show OkOps _ _ _ (Oper.mk _ (Op.call _) _ _ _ (_) :: _) _ _; first | refine s_callF rfl rfl rfl rfl rfl rfl rfl rfl (c35 _ _) rfl ?_ | fail) | (show OkOps _ _ _ (Oper.mk _ (Op.box _ _) _ _ _ (_) :: _) _ _; first | refine s_box 0 rfl rfl rfl rfl rfl rfl ?_ | refine s_box 1 rfl rfl rfl rfl rfl rfl ?_ | fail) | fail) | (show OkC _ _ _ _ _; first | refine ok_seq ?_ | refine ok_region ?_ | refine ok_ret ?_ | fail) | (show thenQ _ _ _ _; first | refine then_n ?_ | fail) | (show RetQ _ _ _ _ _ _; first | refine ret_leaf (.inl rfl) rfl rfl ?_ | fail) | fail)
  all_goals (try (((simp_all [at_drop, List.drop_eq_nil_of_le]) <;> first | omega | (rw [Bool.eq_iff_iff]; simp; omega) | grind); done))
theorem c181 (id : Nat) (cs ss : List Cell) (hu : ∀ l : List Cell, l.Perm cs → l.Pairwise (fun x y => ¬ cmpF y.at' x.at' < 0) → l = ss) :
    CallA Tryz.prog 181 [.one (.own id cs.length), .one (.d (.fn 182 []))] [(id, .row 2 48 (cs.map encCell))] (.tup []) [(id, .row 2 48 (ss.map encCell))] := by
  refine callA_sort sortC 2 48 (by omega) Tryz.isAgg56 Tryz.sizeOf56 encCell (fun _ => rfl) (fun x y => cmpF x.at' y.at') (fun x => by rw [cmpF_refl]; omega) (fun x y z h1 h2 => ?_) (fun x y z h1 h2 => ?_) 182 c182
    (enters_of Tryz.func182 (by kernel_rfl) rfl) ⟨Tryz.f181, Tryz.func181, by kernel_rfl, by kernel_rfl⟩ id cs ss hu
  · have := cmpF_le_trans x.at' y.at' z.at' (by omega) (by omega)
    omega
  · have h3 := cmpF_swap x.at' y.at'
    have h4 := cmpF_swap y.at' z.at'
    have h5 := cmpF_swap x.at' z.at'
    have := cmpF_le_trans z.at' y.at' x.at' (by omega) (by omega)
    omega
end Go.Proofs.YtpejdgkaapnekaaGreat
namespace Go.Abs
open Go
variable {P : Program} {c : Ctx} {fr : List (Nat × AV)} {sto : Sto}
def nmA (b : Bool × Bool) : Nat := bif b.1 then 11 else 10
def qN (i : Nat) : Nat := bif Nat.beq i 11 then 10 else bif Nat.beq i 13 then 12 else i
theorem subL_app {α : Type} {f a b : List (Nat × α)} (h1 : SubL f a) (h2 : SubL f b) : SubL f (a ++ b) := by
  induction a with
  | nil => exact h2
  | cons p r ih => exact ⟨h1.1, ih h1.2⟩
theorem imp_sub {f f' : List (Nat × AV)} {s s' : Sto} (hf : SubL f f') (hs : SubL s s') : Imp c ⟨f, s⟩ ⟨f', s'⟩ := Imp.trans (imp_subL hf) (imp_subS hs)
theorem s_loopN {α : Type} {body : Code} {Q : Exit → St → Prop} (rg : Nat) (hrg : firstReg body = rg) {fr1 : List (Nat × AV)} {sto1 : Sto} (ha : Imp c ⟨fr, sto⟩ ⟨fr1, sto1⟩) (kept : List (Nat × AV)) (hk : SubL fr1 kept) (L : Bool × Bool → α → List (Nat × AV)) (S : Bool × Bool → α → Sto) (Inv : α → Prop) (μ : α → Nat) (x0 : α)
    (hL : SubL fr1 (L (false, false) x0)) (hS : SubL sto1 (S (false, false) x0)) (hq : ∀ b y, Imp c ⟨L b y ++ kept, S b y⟩ ⟨L (false, false) y ++ kept, S (false, false) y⟩) (h0 : Inv x0)
    (hround : ∀ x, Inv x → OkC P c body ⟨L (false, false) x ++ kept, S (false, false) x⟩ (thenQ (fun st' => ∃ y b, Inv y ∧ μ y < μ x ∧ SubL st'.sto (S b y) ∧ SubL st'.fr (L b y) ∧ SubL st'.fr kept) Q)) : OkC P c (.loop body) ⟨fr, sto⟩ Q := by
  refine okc_imp (st' := ⟨L (false, false) x0 ++ kept, S (false, false) x0⟩) (Imp.trans ha (imp_sub (subL_app hL hk) hS)) ?_
  refine ok_loop (fun n st => ∃ x, Inv x ∧ n = μ x ∧ st = ⟨L (false, false) x ++ kept, S (false, false) x⟩) (μ x0) ⟨x0, h0, rfl, rfl⟩ ?_
  rintro n st ⟨x, hx, rfl, rfl⟩
  refine ok_mono (hround x hx) fun e st h => ?_
  cases e with
  | normal =>
    obtain ⟨y, b, hy, hlt, hs, h1, h2⟩ := h
    obtain ⟨f, s⟩ := st
    simp only at hs h1 h2
    exact ⟨μ y, _, hlt, ⟨y, hy, rfl, rfl⟩, Imp.trans (imp_sub (subL_app h1 h2) hs) (hq b y)⟩
  | _ => exact h
section
variable {w0 : World} {σ0 : Sig} {φ0 : Pl} {M : Nat → Prop} {n : Nat} {rd : Option Nat} {mk : List Deferred} {ops : Array Oper} {o : Oper} {rest : List Oper} {K : St → Prop} {st0 : St} {acc : List Tr}
theorem s_callG (k : Nat) (dl : List Nat) {ss : St} {d : Nat} {fop : Operand} {args : Array Operand} {ats : Array TypeId} {f : FuncId} {caps : List D} {avs avs' : List AV} {rav rav' : AV}
    (ho : o.op = .call { callee := .value fop, args := args, argTypes := ats }) (hg : o.guard = none) (hdst : o.dst = some d) (hd : Nat.blt d n = true) (hss : sealL ⟨fr, sto⟩ dl = some ss) (hf : ev ss fop = some (.one (.d (.fn f caps))))
    (ha : evL ss args.toList = some avs) (hD : avsD avs = true) (hap : (avs ++ caps.map fun x => .one (.d x)) = avs') (hC : CallA P f avs' [] rav [])
    (hk : (keysOk [] [] && Nat.ble (k + 16) 1000000 && avIn [] rav && stoIn [] []) = true) (hfresh : freshRB k ⟨fr, delN dl sto⟩ = true) (hr : renV (rn k []) rav = rav')
    (h : OkOps P ⟨w0, σ0, φ0, M, n, rd, mk⟩ ops rest ⟨(d, rav') :: fr, delN dl sto⟩ K) : OkOps P ⟨w0, σ0, φ0, M, n, rd, mk⟩ ops (o :: rest) ⟨fr, sto⟩ K := by
  subst hap; subst hr
  exact okops_callX k dl ho hg (by rw [hdst]; exact hd) hss hf ha hD hC hk (freshRB_ok hfresh) (by rw [hdst]; exact h)
end
theorem step3_appendB {V : Env} {st : St} {o : Oper} {id i n k b k' b' : Nat} {t t2 : TypeId} {x y : Operand} {v : AV} {xs ys : List (List D)} {e : TypeId} {z : List D} {q : TypeId × Nat × Nat × List D}
    (ho : o.op = .call { callee := .builtin .append, args := ⟨[x, y]⟩, argTypes := ⟨[t, t2]⟩ }) (ht : sliceTy V.T t = some (e, k, b, z)) (ht2 : sliceTy V.T t2 = some q) (hx : ev st x = some (.one (.own i n))) (hl : look st.sto i = some (.row k' b' xs))
    (hkb : (Nat.beq k k' && Nat.beq b b') = true) (hy : ev st y = some v) (hs : srcOf st k v = some ys) (hn : n ≤ 100000000) (hys : ys.length ≤ 10000000) (hb : b ≤ 100) :
    step3 V st o id = some ⟨.one (.own id (n + ys.length)), [(id, some (.row k b (xs.take n ++ ys))), (i, none)], [id]⟩ :=
  step3_append ho ht ht2 hx hl hkb hy hs (by omega) (Nat.le_trans (Nat.mul_le_mul (show n + ys.length ≤ 110000000 by omega) hb) (by omega))
end Go.Abs
namespace Go.Proofs.YtpejdgkaapnekaaGreat
open Go Go.Abs
attribute [local irreducible] OkOps OkC DRun thenQ blockQ RetQ
set_option maxRecDepth 10000
theorem c181e (id n : Nat) (cs : List Cell) (rows : List (List D)) (hr : rows = cs.map encCell) (hn : n = cs.length) (hd : cs.Pairwise diffC) :
    CallA Tryz.prog 181 [.one (.own id n), .one (.d (.fn 182 []))] [(id, .row 2 48 rows)] (.tup []) [(id, .row 2 48 ((sortF cs).map encCell))] := by
  subst hr; subst hn
  exact c181 id cs (sortF cs) (sort_uniq hd)
theorem s_sort {w0 : World} {σ0 : Sig} {φ0 : Pl} {M : Nat → Prop} {n : Nat} {rd : Option Nat} {mk : List Deferred} {ops : Array Oper} {o : Oper} {rest : List Oper} {fr : List (Nat × AV)} {sto : Sto} {K : St → Prop} {d m : Nat} {fop x y : Operand} {ats : Array TypeId} {rows : List (List D)} (id : Nat) (cs : List Cell)
    (ho : o.op = .call { callee := .value fop, args := ⟨[x, y]⟩, argTypes := ats }) (hg : o.guard = none) (hdst : o.dst = some d) (hdn : Nat.blt d n = true) (hf : ev ⟨fr, sto⟩ fop = some (.one (.d (.fn 181 [])))) (hx : ev ⟨fr, sto⟩ x = some (.one (.own id m))) (hy : ev ⟨fr, sto⟩ y = some (.one (.d (.fn 182 []))))
    (hl : Abs.look sto id = some (.row 2 48 rows)) (hr : rows = cs.map encCell) (hn : m = cs.length) (hd : cs.Pairwise diffC) (hfr : freshRB 16 ⟨fr, sto⟩ = true)
    (h : OkOps Tryz.prog ⟨w0, σ0, φ0, M, n, rd, mk⟩ ops rest ⟨(d, .tup []) :: fr, setS id (.row 2 48 ((sortF cs).map encCell)) (del id sto)⟩ K) : OkOps Tryz.prog ⟨w0, σ0, φ0, M, n, rd, mk⟩ ops (o :: rest) ⟨fr, sto⟩ K := by
  refine s_callM 16 [(1000000, id)] (rav' := .tup []) (sto' := setS id (.row 2 48 ((sortF cs).map encCell)) (del id sto)) (c181e 1000000 m cs rows hr hn hd) ho hg hdst hdn hf ?_ ⟨⟨id, rfl, hl⟩, trivial⟩ ⟨fun i e h1 h2 => ?_, trivial⟩ rfl hfr rfl rfl h
  · show evL ⟨fr, sto⟩ [x, y] = _
    simp only [evL, hx, hy]
    rfl
  · have e1 : some id = some i := h1
    cases e1
    rw [hl] at h2
    cases h2
    refine ⟨rfl, rfl, ?_⟩
    rw [hr, List.length_map, List.length_map, sortF_length]
    exact Nat.le_refl _
theorem row_next {α β : Type} [Inhabited α] (f : α → β) (l : List α) {k : Nat} (h : k < l.length) : ((l.take k).map f).take k ++ [f (at_ l k)] = (l.take (k + 1)).map f := by
  rw [List.take_succ_eq_append_getElem h, List.map_append, List.take_of_length_le (by simp; omega)]
  simp [at_, h]
def arrE : Option Arr × Int → AV
  | (none, e) => .tup [(true, [.d .nil, .d .nil, .d .nil]), (false, [.d (.int .i64 e)])]
  | (some a, e) => .tup [(true, [.d (encDims a.dims), .d (encAttrs a.attrs), .d (encCells a.cells)]), (false, [.d (.int .i64 e)])]
theorem take_all {α β : Type} (f : α → β) {l : List α} {k : Nat} (h : l.length ≤ k) : (l.take k).map f = l.map f := by rw [List.take_of_length_le h]
theorem c99 (ds : List Dim) (ats : List Attr) (cs : List Cell) (hd : cs.Pairwise diffC) : CallA Tryz.prog 99 [.one (.d (encDims ds)), .one (.d (encAttrs ats)), .one (.d (encCells cs))] [] (arrE (resF ds ats cs)) [] := by
  refine enter tabOk Tryz.func99 rfl (by decide +kernel) rfl fun hok w0 σ0 φ0 M => ?_
  have h1 := hok.2.2.1.sl; clear hok; simp only [List.length_map] at h1; replace h1 := h1.1
  by_cases h4 : 4096 < (cs.length : Int)
  · have hb : decide (4096 < ((cs.map encCell).length : Int)) = true := by simpa using h4
    simp only [resF, if_pos h4, arrE]
    repeat' (first | (show OkOps _ _ _ _ _ _; first | refine okops_nil ?_ | refine s_plain tabOk rfl rfl rfl rfl rfl ?_ | (show OkOps _ _ _ (Oper.mk _ (Op.alloc _) _ _ _ (_) :: _) _ _; first | refine s_alloc tabOk 0 rfl rfl rfl rfl rfl ?_ | fail) | refine s_store envOk rfl rfl rfl ?_ | fail) | (show OkC _ _ _ _ _; first | refine ok_seq ?_ | refine ok_region ?_ | refine ok_ret ?_ | refine ok_condKT rfl (by assumption) ?_ | fail) | (show thenQ _ _ _ _; first | refine then_n ?_ | refine then_r ?_ | fail) | (show RetQ _ _ _ _ _ _; first | refine ret_leaf (.inl rfl) rfl rfl ?_ | fail) | fail)
    all_goals rfl
  · have hb : decide (4096 < ((cs.map encCell).length : Int)) = false := by simpa using h4
    simp only [resF, if_neg h4, arrE]
    repeat' (first | (show OkOps _ _ _ _ _ _; first | (show OkOps _ _ _ (Oper.mk _ (Op.call _) _ _ _ (_) :: _) _ _; first | refine s_sort 10 cs rfl rfl rfl rfl rfl rfl rfl rfl (hr.trans (take_all _ (by first | omega | (simp only [decide_eq_true_eq, decide_eq_false_iff_not, List.length_map] at *; omega)))) (by first | omega | (simp only [decide_eq_true_eq, decide_eq_false_iff_not, List.length_map] at *; omega)) hd rfl ?_ | fail) | refine okops_nil ?_ | refine s_plain tabOk rfl rfl rfl rfl rfl ?_ | (show OkOps _ _ _ (Oper.mk _ (Op.binOp .add _ _ _ _) _ _ _ (_) :: _) _ _; first | refine s_e envOk rfl rfl rfl (step3_add rfl rfl rfl rfl (wrap64 (by omega) (by omega))) ?_ | fail) | (show OkOps _ _ _ (Oper.mk _ (Op.indexAddr _ _ _) _ _ _ (_) :: _) _ _; first | refine s_e envOk rfl rfl rfl (step3_idx rfl rfl rfl rfl rfl (by first | omega | ((try simp only [decide_eq_true_eq, decide_eq_false_iff_not, Bool.not_eq_true', Bool.not_true, Bool.not_false, List.length_map, List.length_set, bne_iff_ne, ne_eq, beq_iff_eq, bne_eq_false_iff_eq, beq_eq_false_iff_ne] at *); omega)) (at_map (by first | omega | ((try simp only [decide_eq_true_eq, decide_eq_false_iff_not, Bool.not_eq_true', Bool.not_true, Bool.not_false, List.length_map, List.length_set, bne_iff_ne, ne_eq, beq_iff_eq, bne_eq_false_iff_eq, beq_eq_false_iff_ne] at *); omega)))) ?_ | fail) | (show OkOps _ _ _ (Oper.mk _ (Op.call _) _ _ _ (_) :: _) _ _; first | refine s_callD 16 rfl rfl rfl rfl rfl rfl rfl rfl (c97 _) rfl rfl rfl ?_ | refine s_callD 16 rfl rfl rfl rfl rfl rfl rfl rfl (c145 _) rfl rfl rfl ?_ | fail) | (show OkOps _ _ _ (Oper.mk _ (Op.alloc _) _ _ _ (_) :: _) _ _; first | refine s_alloc tabOk 0 rfl rfl rfl rfl rfl ?_ | refine s_alloc tabOk 1 rfl rfl rfl rfl rfl ?_ | refine s_alloc tabOk 2 rfl rfl rfl rfl rfl ?_ | fail) | refine s_store envOk rfl rfl rfl ?_ | fail) | (show OkC _ _ _ _ _; first | refine okc_imp (imp_sealL (dl := [10]) rfl) (ok_ret ?_) | refine ok_seq ?_ | refine ok_region ?_ | refine ok_block ?_ | refine ok_skip ?_ | refine ok_exit ?_ | refine ok_condKF rfl (by assumption) ?_ | refine ok_cond rfl (fun h => ?_) (fun h => ?_) | refine ok_regionD progOk.mo ?_ | refine s_loopN 5 rfl (imp_adoptJ 1 2 10 (k := 2) (b := 48) rfl rfl (by kernel_rfl)) [(6, _), (8, _), (20, _), (21, _)] (subL_cons rfl (subL_cons rfl (subL_cons rfl (subL_cons rfl subL_nil)))) (fun (bN : Bool × Bool) (p : Nat × List (List D)) => [(22, .one (.d (.int .i64 (p.1 : Int))))]) (fun (bN : Bool × Bool) (p : Nat × List (List D)) => [(1, .box [.d (encDims ds), .d (encAttrs ats), .own (nmA bN) p.1]), ((nmA bN), .row 2 48 p.2), (0, .box [.d .nil, .d .nil, .d .nil])]) (fun (p : Nat × List (List D)) => p.1 ≤ cs.length ∧ p.2 = (cs.take p.1).map encCell) (fun (p : Nat × List (List D)) => cs.length - p.1) (0, []) (subL_cons rfl subL_nil) (by first | exact subL_nil | exact (subL_cons rfl subL_nil) | exact (subL_cons rfl (subL_cons rfl subL_nil)) | exact (subL_cons rfl (subL_cons rfl (subL_cons rfl subL_nil))) | exact (subL_cons rfl (subL_cons rfl (subL_cons rfl (subL_cons rfl subL_nil)))) | exact (subL_cons rfl (subL_cons rfl (subL_cons rfl (subL_cons rfl (subL_cons rfl subL_nil))))) | exact (subL_cons rfl (subL_cons rfl (subL_cons rfl (subL_cons rfl (subL_cons rfl (subL_cons rfl subL_nil)))))) | exact (subL_cons rfl (subL_cons rfl (subL_cons rfl (subL_cons rfl (subL_cons rfl (subL_cons rfl (subL_cons rfl subL_nil))))))) | exact (subL_cons rfl (subL_cons rfl (subL_cons rfl (subL_cons rfl (subL_cons rfl (subL_cons rfl (subL_cons rfl (subL_cons rfl subL_nil))))))))) (fun b y => by obtain ⟨b1, b2⟩ := b; cases b1 <;> cases b2 <;> first | exact Imp.refl _ | exact imp_ren qN (by kernel_rfl)) ?_ (fun p ⟨hk, hr⟩ => ?_) | fail) | (show thenQ _ _ _ _; first | refine then_n ?_ | refine then_x ?_ | fail) | (show blockQ _ _ _ _; first | refine block_n ?_ | refine block_x rfl ?_ | fail) | (show RetQ _ _ _ _ _ _; first | refine ret_leaf (.inl rfl) rfl rfl ?_ | fail) | (show DRun _ _ _ _ _ _ _ _; first | (show DRun _ _ _ _ (Oper.mk _ (Op.call _) _ _ _ (_) :: _) _ _ _; first | refine d_new envOk 11 rfl rfl rfl (step3_appendB (i := 10) rfl rfl rfl rfl rfl rfl rfl rfl (by first | omega | ((try simp only [decide_eq_true_eq, decide_eq_false_iff_not, List.length_map, List.length_cons, List.length_nil, List.length_append, List.length_take, List.length_drop, Int.toNat_natCast] at *); omega)) (by first | exact Nat.le_of_ble_eq_true rfl | omega | ((try simp only [decide_eq_true_eq, decide_eq_false_iff_not, List.length_map, List.length_cons, List.length_nil, List.length_append, List.length_take, List.length_drop, Int.toNat_natCast] at *); omega)) (Nat.le_of_ble_eq_true rfl)) rfl rfl ?_ | fail) | refine d_nil (by kernel_rfl) ?_ | refine d_e envOk rfl rfl rfl (step3_plain rfl rfl) ?_ | (show DRun _ _ _ _ (Oper.mk _ (Op.call _) _ _ _ (_) :: _) _ _ _; first | refine d_callD 16 rfl rfl rfl rfl rfl rfl rfl rfl (c129 _) rfl rfl ?_ | refine d_callD 16 rfl rfl rfl rfl rfl rfl rfl rfl (c144 _) rfl rfl ?_ | fail) | refine d_new envOk 3 rfl rfl rfl rfl rfl rfl ?_ | refine d_store envOk rfl rfl rfl ?_ | fail) | (show Exists _; first | refine Exists.intro ((p.1 + 1, p.2.take p.1 ++ [encCell (at_ cs p.1)])) (Exists.intro (true, false) ⟨?_, ?_, (by first | exact subL_nil | exact (subL_cons rfl subL_nil) | exact (subL_cons rfl (subL_cons rfl subL_nil)) | exact (subL_cons rfl (subL_cons rfl (subL_cons rfl subL_nil))) | exact (subL_cons rfl (subL_cons rfl (subL_cons rfl (subL_cons rfl subL_nil)))) | exact (subL_cons rfl (subL_cons rfl (subL_cons rfl (subL_cons rfl (subL_cons rfl subL_nil))))) | exact (subL_cons rfl (subL_cons rfl (subL_cons rfl (subL_cons rfl (subL_cons rfl (subL_cons rfl subL_nil)))))) | exact (subL_cons rfl (subL_cons rfl (subL_cons rfl (subL_cons rfl (subL_cons rfl (subL_cons rfl (subL_cons rfl subL_nil))))))) | exact (subL_cons rfl (subL_cons rfl (subL_cons rfl (subL_cons rfl (subL_cons rfl (subL_cons rfl (subL_cons rfl (subL_cons rfl subL_nil))))))))), (subL_cons rfl subL_nil), (subL_cons rfl (subL_cons rfl (subL_cons rfl (subL_cons rfl subL_nil))))⟩) | fail) | fail)
    · exact ⟨Nat.zero_le _, rfl⟩
    · have hlt : p.1 < cs.length := by simpa using h
      exact ⟨hlt, by show p.2.take p.1 ++ _ = _; rw [hr]; exact row_next _ _ hlt⟩
    · have hlt : p.1 < cs.length := by simpa using h
      show cs.length - (p.1 + 1) < cs.length - p.1
      omega
    · have hge : cs.length ≤ p.1 := by simpa using h
      show AV.tup [(true, [.d (encDims ds), .d (encAttrs ats), .d (.sl 2 48 (((sortF cs).map encCell).take p.1))]), _] = _
      rw [List.take_of_length_le (by simp only [List.length_map, sortF_length]; exact hge)]
      rfl
theorem c97o (l : List Dim) (hne : 0 < l.length) : CallA Tryz.prog 97 [.one (.d (encDims l))] [] (.one (.own 0 l.length)) [(0, .row 3 32 (l.map encDim))] := by
  refine enter tabOk Tryz.func97 rfl (by decide +kernel) rfl fun hok w0 σ0 φ0 M => ?_
  have h1 := hok.1.sl; clear hok; simp only [List.length_map] at h1
  repeat' (first | (show OkOps _ _ _ _ _ _; first | (show OkOps _ _ _ (Oper.mk _ (Op.binOp .eql _ _ _ _) _ _ _ (_) :: _) _ _; first | refine okops_isNilS tabOk rfl rfl rfl rfl rfl rfl (fun r hr => ?_) | fail) | (show OkOps _ _ _ (Oper.mk _ (Op.call _) _ _ _ (_) :: _) _ _; first | refine okops_append tabOk rfl rfl rfl rfl rfl (id := 0) rfl rfl rfl rfl rfl rfl rfl (by simp only [List.length_map, Nat.zero_add]; omega) (by simp only [List.length_map, Nat.zero_add]; omega) ?_ | fail) | refine okops_nil ?_ | refine s_plain tabOk rfl rfl rfl rfl rfl ?_ | refine s_new envOk 0 rfl rfl rfl rfl rfl rfl ?_ | fail) | (show OkC _ _ _ _ _; first | refine ok_seq ?_ | refine ok_region ?_ | refine ok_skip ?_ | refine ok_ret ?_ | refine ok_cond rfl (fun h => ?_) (fun h => ?_) | fail) | (show thenQ _ _ _ _; first | refine then_n ?_ | refine then_r ?_ | fail) | (show RetQ _ _ _ _ _ _; first | refine ret_leafS (.inl rfl) rfl rfl ?_ (by first | exact (subL_cons rfl subL_nil) | exact (subL_cons rfl (subL_cons rfl subL_nil))) | fail) | fail)
  · have e := hr (by simpa using h)
    simp only [List.map_eq_nil_iff] at e
    subst e; simp at hne
  · simp
theorem c99e (ds : List Dim) (ats : List Attr) (cs : List Cell) (xs ys : List (List D)) (hd : cs.Pairwise diffC) (hx : xs = ds.map encDim) (hy : ys = cs.map encCell) : CallA Tryz.prog 99 [.one (.d (.sl 3 32 xs)), .one (.d (encAttrs ats)), .one (.d (.sl 2 48 ys))] [] (arrE (resF ds ats cs)) [] := by
  subst hx; subst hy; exact c99 ds ats cs hd
theorem c99k (ds : List Dim) (ats : List Attr) (cs : List Cell) (xs ys : List (List D)) (hd : cs.Pairwise diffC) (hf : cs.length ≤ 4096) (hx : xs = ds.map encDim) (hy : ys = cs.map encCell) : CallA Tryz.prog 99 [.one (.d (.sl 3 32 xs)), .one (.d (encAttrs ats)), .one (.d (.sl 2 48 ys))] [] (.tup [(true, [.d (encDims ds), .d (encAttrs ats), .d (encCells (sortF cs))]), (false, [.d (.int .i64 0)])]) [] := by
  have h := c99e ds ats cs xs ys hd hx hy
  unfold resF at h
  rw [if_neg (by omega)] at h
  exact h
end Go.Proofs.YtpejdgkaapnekaaGreat
namespace Go.Abs
open Go
variable {P : Program} {V : Env} {st : St} {o : Oper}
theorem step3_idxOwn {t e : TypeId} {x y : Operand} {id m k k' b b' : Nat} {ik : IntKind} {i : Int} {xs : List (List D)} {z : List D} (ho : o.op = .indexAddr t x y) (ht : sliceTy V.T t = some (e, k', b', z)) (hx : ev st x = some (.one (.own id m)))
    (hl : look st.sto id = some (.row k b xs)) (hk : Nat.beq k k' = true) (hy : ev st y = some (.one (.d (.int ik i)))) (h0 : 0 ≤ i) (hm : i < (m : Int)) : step3 V st o 0 = some ⟨.one (.rref id i.toNat 0), [], []⟩ := by
  simp only [step3, stepE, valF, ho, otherE, idxV, hx, hy, ht, hl, hk, h0, hm, decide_true, Bool.and_self, cond_true]
theorem step3_loadRow {t : TypeId} {x : Operand} {id j off k b s : Nat} {g : Bool} {xs : List (List D)} {el : List D} {v : AV} (ho : o.op = .load t x) (hx : ev st x = some (.one (.rref id j off))) (hT : tySz V.T t = some (g, s))
    (hl : look st.sto id = some (.row k b xs)) (hj : xs[j]? = some el) (hv : takeAs g s ((el.drop off).map .d) = some v) : step3 V st o 0 = some ⟨v, [], []⟩ := by
  simp only [step3, stepE, valF, ho, otherE, hx, hT, hl, loadF, loadRV, nth_eq, hj, hv]
theorem step3_storeRow {t : TypeId} {x y : Operand} {id j off k b s : Nat} {g : Bool} {xs : List (List D)} {el el' ds : List D} {cs : List AC} {v : AV} (ho : o.op = .store t x y) (hd : o.dst = none) (hx : ev st x = some (.one (.rref id j off))) (hy : ev st y = some v) (hT : tySz V.T t = some (g, s))
    (hl : look st.sto id = some (.row k b xs)) (hc : cellsOf v = some cs) (hs : Nat.beq cs.length s = true) (ha : allD cs = some ds) (hj : xs[j]? = some el) (hsp : splice off ds el = some el') : step3 V st o 0 = some ⟨.any, [(id, some (.row k b (xs.set j el')))], []⟩ := by
  simp only [step3, stepE, valF, ho, otherE, hx, hy, hT, hl, hc, hs, ha, storeV, nth_eq, hj, hsp, cond_true]
  simp [hd, hasD]
theorem set_get {xs : List (List D)} {j : Nat} {el : List D} (h : j < xs.length) : (xs.set j el)[j]? = some el := by simp [h]
theorem row_get {α : Type} [Inhabited α] {f : α → List D} {l : List α} {xs : List (List D)} {i : Nat} (h : xs = l.map f) (hi : i < xs.length) : xs[i]? = some (f (at_ l i)) := by
  subst h; exact at_map (by simpa using hi)
end Go.Abs
namespace Go.Proofs.YtpejdgkaapnekaaGreat
open Go Go.Abs
attribute [local irreducible] OkOps OkC DRun thenQ blockQ RetQ
set_option maxRecDepth 10000
section
variable {ds : List Dim} {lo hi : List Int} {k : Nat}
theorem at_range {n i : Nat} (h : i < n) : at_ (List.range n) i = i := by simp [at_, List.getD_eq_getElem?_getD, h]
end
theorem filter_next {p : Cell → Bool} {l : List Cell} {k : Nat} (h : k < l.length) : (l.take (k + 1)).filter p = (l.take k).filter p ++ if p (at_ l k) then [at_ l k] else [] := by
  rw [at_take h, List.filter_append]
  congr 1
  by_cases hp : p (at_ l k) = true
  · simp [hp]
  · simp [hp]
end Go.Proofs.YtpejdgkaapnekaaGreat
namespace Go.Proofs.YtpejdgkaapnekaaGreat
open Go Go.Abs
attribute [local irreducible] OkOps OkC DRun thenQ blockQ RetQ
set_option maxRecDepth 10000
theorem c128o (l : List Cell) : CallA Tryz.prog 128 [.one (.d (encCells l))] [] (.one (.own 0 l.length)) [(0, .row 2 48 (l.map encCell))] := by
  refine enter tabOk Tryz.func128 rfl (by decide +kernel) rfl fun hok w0 σ0 φ0 M => ?_
  have h1 := hok.1.sl; clear hok; simp only [List.length_map] at h1
  by_cases hl : l = []
  · subst hl
    repeat' (first | (show OkOps _ _ _ _ _ _; first | (show OkOps _ _ _ (Oper.mk _ (Op.binOp .eql _ _ _ _) _ _ _ (_) :: _) _ _; first | refine okops_isNilS tabOk rfl rfl rfl rfl rfl rfl (fun r hr => ?_) | fail) | (show OkOps _ _ _ (Oper.mk _ (Op.call _) _ _ _ (_) :: _) _ _; first | refine okops_append tabOk rfl rfl rfl rfl rfl (id := 0) rfl rfl rfl rfl rfl rfl rfl (by simp only [List.length_map, Nat.zero_add]; omega) (by simp only [List.length_map, Nat.zero_add]; omega) ?_ | fail) | refine okops_nil ?_ | refine s_plain tabOk rfl rfl rfl rfl rfl ?_ | refine s_new envOk 0 rfl rfl rfl rfl rfl rfl ?_ | fail) | (show OkC _ _ _ _ _; first | refine okc_imp (imp_adopt (s := 2) (id := 0) (k := 2) (b := 48) rfl rfl rfl rfl) (ok_ret ?_) | refine ok_seq ?_ | refine ok_region ?_ | refine ok_skip ?_ | refine ok_ret ?_ | refine ok_cond rfl (fun h => ?_) (fun h => ?_) | fail) | (show thenQ _ _ _ _; first | refine then_n ?_ | refine then_r ?_ | fail) | (show RetQ _ _ _ _ _ _; first | refine ret_leafS (.inl rfl) rfl rfl ?_ (by first | exact (subL_cons rfl subL_nil) | exact (subL_cons rfl (subL_cons rfl subL_nil))) | fail) | fail)
    all_goals rfl
  · repeat' (first | (show OkOps _ _ _ _ _ _; first | (show OkOps _ _ _ (Oper.mk _ (Op.binOp .eql _ _ _ _) _ _ _ (_) :: _) _ _; first | refine okops_isNilS tabOk rfl rfl rfl rfl rfl rfl (fun r hr => ?_) | fail) | (show OkOps _ _ _ (Oper.mk _ (Op.call _) _ _ _ (_) :: _) _ _; first | refine okops_append tabOk rfl rfl rfl rfl rfl (id := 0) rfl rfl rfl rfl rfl rfl rfl (by simp only [List.length_map, Nat.zero_add]; omega) (by simp only [List.length_map, Nat.zero_add]; omega) ?_ | fail) | refine okops_nil ?_ | refine s_plain tabOk rfl rfl rfl rfl rfl ?_ | refine s_new envOk 0 rfl rfl rfl rfl rfl rfl ?_ | fail) | (show OkC _ _ _ _ _; first | refine okc_imp (imp_adopt (s := 2) (id := 0) (k := 2) (b := 48) rfl rfl rfl rfl) (ok_ret ?_) | refine ok_seq ?_ | refine ok_region ?_ | refine ok_skip ?_ | refine ok_ret ?_ | refine ok_cond rfl (fun h => ?_) (fun h => ?_) | fail) | (show thenQ _ _ _ _; first | refine then_n ?_ | refine then_r ?_ | fail) | (show RetQ _ _ _ _ _ _; first | refine ret_leafS (.inl rfl) rfl rfl ?_ (by first | exact (subL_cons rfl subL_nil) | exact (subL_cons rfl (subL_cons rfl subL_nil))) | fail) | fail)
    · have e := hr (by simpa using h)
      simp only [List.map_eq_nil_iff] at e
      exact absurd e hl
    · simp
end Go.Proofs.YtpejdgkaapnekaaGreat
namespace Go.Proofs.YtpejdgkaapnekaaGreat
open Go Go.Abs
def atX (ats : List Attr) (name : List UInt8) : Int := idxGo (fun a : Attr => a.name == name) ats 0
end Go.Proofs.YtpejdgkaapnekaaGreat
namespace Go.Proofs.YtpejdgkaapnekaaGreat
open Go Go.Abs
theorem idxGo_none {α : Type} {p : α → Bool} : ∀ {l : List α} {j : Nat}, idxGo p l j < 0 → ∀ x ∈ l, p x = false
  | [], _, _, _, h => by simp at h
  | x :: l, j, h, y, hy => by
    simp only [idxGo] at h
    split at h
    · omega
    · rename_i h1
      rcases List.mem_cons.1 hy with rfl | hy
      · simpa using h1
      · exact idxGo_none h y hy
section
variable {src kept : List (Int × Bool)} {ds : List Dim} {rule : Int}
end
theorem Attr.ext {a b : Attr} (h1 : a.name = b.name) (h2 : a.type = b.type) : a = b := by cases a; cases b; simp_all
end Go.Proofs.YtpejdgkaapnekaaGreat
namespace Go.Abs
open Go
def encPl (a : List Int) : List D := [.int .i64 (at_ a 0), .int .i64 (at_ a 1), .int .i64 (at_ a 2), .int .i64 (at_ a 3)]
theorem encPl_eq {a b : List Int} (h : a.length = b.length) (h4 : a.length ≤ 4) : eqDs (encPl a) (encPl b) = (a == b) := by
  have key : a = b ↔ at_ a 0 = at_ b 0 ∧ at_ a 1 = at_ b 1 ∧ at_ a 2 = at_ b 2 ∧ at_ a 3 = at_ b 3 := by
    constructor
    · rintro rfl; exact ⟨rfl, rfl, rfl, rfl⟩
    · rintro ⟨h0, h1, h2, h3⟩
      refine List.ext_getElem? fun i => ?_
      rcases Nat.lt_or_ge i a.length with hi | hi
      · rw [at_get hi, at_get (by omega)]
        have : i = 0 ∨ i = 1 ∨ i = 2 ∨ i = 3 := by omega
        rcases this with rfl | rfl | rfl | rfl
        · rw [h0]
        · rw [h1]
        · rw [h2]
        · rw [h3]
      · rw [List.getElem?_eq_none hi, List.getElem?_eq_none (by omega)]
  rw [Bool.eq_iff_iff]
  simp only [encPl, eqDs, eqD, Bool.and_true, Bool.and_eq_true, beq_iff_eq, key]
def encM (f : Nat → D) : List (List Int) → Nat → List (List D × List D)
  | [], _ => []
  | k :: r, i => (encPl k, [f i]) :: encM f r (i + 1)
def whereK (x : List Int) : List (List Int) → Nat → Option Nat
  | [], _ => none
  | k :: r, i => if k == x then some i else whereK x r (i + 1)
theorem findK_M {f : Nat → D} {x : List Int} (h4 : x.length ≤ 4) : ∀ {ks : List (List Int)} {n i : Nat}, (∀ k ∈ ks, k.length = x.length) →
    (whereK x ks n = none → findK (encPl x) (encM f ks n) i = none) ∧ ∀ j, whereK x ks n = some j → ∃ m, findK (encPl x) (encM f ks n) i = some (m, [f j])
  | [], n, i, _ => ⟨fun _ => rfl, fun j h => by cases h⟩
  | k :: r, n, i, h => by
    have hk := h k List.mem_cons_self
    have ih := findK_M (f := f) h4 (ks := r) (n := n + 1) (i := i + 1) fun y hy => h y (List.mem_cons_of_mem _ hy)
    have e := encPl_eq hk.symm h4
    have e2 : (k == x) = (x == k) := by rw [Bool.eq_iff_iff]; simp only [beq_iff_eq]; exact eq_comm
    simp only [whereK, encM, findK, e, e2]
    cases hb : (x == k) with
    | true => exact ⟨fun h => (by simp at h), fun j hj => ⟨i, by simp at hj; subst hj; rfl⟩⟩
    | false => simpa using ih
theorem updK_M {f : Nat → D} {x : List Int} (h4 : x.length ≤ 4) : ∀ {ks : List (List Int)} {n : Nat}, (∀ k ∈ ks, k.length = x.length) → whereK x ks n = none → updK (encPl x) [f (n + ks.length)] (encM f ks n) = encM f (ks ++ [x]) n
  | [], n, _, _ => rfl
  | k :: r, n, h, hw => by
    have hk := h k List.mem_cons_self
    have e := encPl_eq hk.symm h4
    have e2 : (k == x) = (x == k) := by rw [Bool.eq_iff_iff]; simp only [beq_iff_eq]; exact eq_comm
    simp only [whereK] at hw
    cases hb : (x == k) with
    | true => rw [e2, hb] at hw; simp at hw
    | false =>
      rw [e2, hb] at hw
      have ih := updK_M (f := f) h4 (ks := r) (n := n + 1) (fun y hy => h y (List.mem_cons_of_mem _ hy)) (by simpa using hw)
      have e3 : n + 1 + r.length = n + (k :: r).length := by simp only [List.length_cons]; omega
      rw [e3] at ih
      simp only [List.cons_append, encM, updK, e, hb, cond_false, ih]
def pk : List KK := [.int .i64, .int .i64, .int .i64, .int .i64]
theorem fitsAll_M {f : Nat → D} : ∀ {ks : List (List Int)} {n : Nat}, fitsAll pk (encM f ks n) = true
  | [], _ => rfl
  | k :: r, n => by
    simp only [encM, fitsAll, fitsAll_M (ks := r)]
    rfl
variable {V : Env} {st : St} {o : Oper}
def plAV (x : List Int) : AV := .agg [.d (.int .i64 (at_ x 0)), .d (.int .i64 (at_ x 1)), .d (.int .i64 (at_ x 2)), .d (.int .i64 (at_ x 3))]
theorem step3_lookM {t id : Nat} {m : MTy} {x y : Operand} {ok : Bool} {a : List Int} {f : Nat → D} {ks : List (List Int)} {v : AV} (ho : o.op = .lookup t x y ok) (hm : look V.M t = some m) (hms : m.ks = pk) (hk : m.kg = true) (hv : m.vg = false)
    (hx : ev st x = some (.one (.mapr id))) (hl : look st.sto id = some (.map true false (encM f ks 0))) (hy : ev st y = some (plAV a)) (h4 : a.length ≤ 4) (hks : ∀ k ∈ ks, k.length = a.length)
    (hr : (match whereK a ks 0 with | some j => outA false [f j] true ok | none => outA false m.z false ok) = some v) : step3 V st o 0 = some ⟨v, [], []⟩ := by
  have hd : dataOf true (plAV a) = some (encPl a) := rfl
  have hF := findK_M (f := f) h4 (ks := ks) (n := 0) (i := 0) hks
  have hlk : lookF m (encM f ks 0) (encPl a) ok = some v := by
    unfold lookF
    rw [hv]
    cases hw : whereK a ks 0 with
    | none => rw [hF.1 hw]; rw [hw] at hr; exact hr
    | some j =>
      obtain ⟨q, hq⟩ := hF.2 j hw
      rw [hq]; rw [hw] at hr; exact hr
  have e1 : stepE V.T st o 0 = none := by
    simp only [stepE, valF, ho, otherE, newF]
    cases o.dst <;> simp [hasD]
  simp only [step3, e1]
  rw [ho]
  simp only [hm, hx, hy, hl, hk, hd, hv, bEq, hms, fitsAll_M, hlk, cond_true]
  rfl
theorem step3_updM {t id : Nat} {m : MTy} {x y z : Operand} {a : List Int} {f : Nat → D} {ks : List (List Int)} {d : D} (ho : o.op = .mapUpdate t x y z) (hdst : o.dst = none) (hm : look V.M t = some m) (hms : m.ks = pk) (hk : m.kg = true) (hv : m.vg = false)
    (hx : ev st x = some (.one (.mapr id))) (hl : look st.sto id = some (.map true false (encM f ks 0))) (hy : ev st y = some (plAV a)) (hz : ev st z = some (.one (.d d))) (h4 : a.length ≤ 4) (hks : ∀ k ∈ ks, k.length = a.length)
    (hn : whereK a ks 0 = none) (hf : f ks.length = d) : step3 V st o 0 = some ⟨.any, [(id, some (.map true false (encM f (ks ++ [a]) 0)))], []⟩ := by
  have hd : dataOf true (plAV a) = some (encPl a) := rfl
  have hd2 : dataOf false (.one (.d d)) = some [d] := rfl
  have hU := updK_M (f := f) h4 (n := 0) hks hn
  rw [Nat.zero_add, hf] at hU
  have e1 : stepE V.T st o 0 = none := by
    simp only [stepE, valF, ho, otherE, newF, hdst]
    rfl
  simp only [step3, e1]
  rw [ho]
  simp only [hm, hx, hy, hz, hl, hk, hd, hd2, hv, bEq, hms, fitsAll_M, hU, hdst, cond_true]
  rfl
end Go.Abs
namespace Go.Proofs.YtpejdgkaapnekaaGreat
open Go Go.Abs
attribute [local irreducible] OkOps OkC DRun thenQ blockQ RetQ
set_option maxRecDepth 10000
theorem c111 (x : List Int) (h : x.length ≤ 4) : CallA Tryz.prog 111 [.one (.d (encInts x))] [] (plAV x) [] := by
  refine enter tabOk Tryz.func111 rfl (by decide +kernel) rfl fun hok w0 σ0 φ0 M => ?_
  clear hok
  match x, h with
  | [], _ =>
    repeat' (first | (show OkOps _ _ _ _ _ _; first | refine okops_nil ?_ | refine s_plain tabOk rfl rfl rfl rfl rfl ?_ | (show OkOps _ _ _ (Oper.mk _ (Op.alloc _) _ _ _ (_) :: _) _ _; first | refine s_alloc tabOk 0 rfl rfl rfl rfl rfl ?_ | refine s_alloc tabOk 1 rfl rfl rfl rfl rfl ?_ | fail) | refine s_store envOk rfl rfl rfl ?_ | refine s_e envOk rfl rfl rfl rfl ?_ | refine s_new envOk 0 rfl rfl rfl rfl rfl rfl ?_ | fail) | (show OkC _ _ _ _ _; first | refine ok_seq ?_ | refine ok_region ?_ | refine ok_ret ?_ | fail) | (show thenQ _ _ _ _; first | refine then_n ?_ | fail) | (show RetQ _ _ _ _ _ _; first | refine ret_leaf (.inl rfl) rfl rfl ?_ | fail) | fail)
    all_goals rfl
  | [a], _ =>
    repeat' (first | (show OkOps _ _ _ _ _ _; first | refine okops_nil ?_ | refine s_plain tabOk rfl rfl rfl rfl rfl ?_ | (show OkOps _ _ _ (Oper.mk _ (Op.alloc _) _ _ _ (_) :: _) _ _; first | refine s_alloc tabOk 0 rfl rfl rfl rfl rfl ?_ | refine s_alloc tabOk 1 rfl rfl rfl rfl rfl ?_ | fail) | refine s_store envOk rfl rfl rfl ?_ | refine s_e envOk rfl rfl rfl rfl ?_ | refine s_new envOk 0 rfl rfl rfl rfl rfl rfl ?_ | fail) | (show OkC _ _ _ _ _; first | refine ok_seq ?_ | refine ok_region ?_ | refine ok_ret ?_ | fail) | (show thenQ _ _ _ _; first | refine then_n ?_ | fail) | (show RetQ _ _ _ _ _ _; first | refine ret_leaf (.inl rfl) rfl rfl ?_ | fail) | fail)
    all_goals rfl
  | [a, b], _ =>
    repeat' (first | (show OkOps _ _ _ _ _ _; first | refine okops_nil ?_ | refine s_plain tabOk rfl rfl rfl rfl rfl ?_ | (show OkOps _ _ _ (Oper.mk _ (Op.alloc _) _ _ _ (_) :: _) _ _; first | refine s_alloc tabOk 0 rfl rfl rfl rfl rfl ?_ | refine s_alloc tabOk 1 rfl rfl rfl rfl rfl ?_ | fail) | refine s_store envOk rfl rfl rfl ?_ | refine s_e envOk rfl rfl rfl rfl ?_ | refine s_new envOk 0 rfl rfl rfl rfl rfl rfl ?_ | fail) | (show OkC _ _ _ _ _; first | refine ok_seq ?_ | refine ok_region ?_ | refine ok_ret ?_ | fail) | (show thenQ _ _ _ _; first | refine then_n ?_ | fail) | (show RetQ _ _ _ _ _ _; first | refine ret_leaf (.inl rfl) rfl rfl ?_ | fail) | fail)
    all_goals rfl
  | [a, b, c], _ =>
    repeat' (first | (show OkOps _ _ _ _ _ _; first | refine okops_nil ?_ | refine s_plain tabOk rfl rfl rfl rfl rfl ?_ | (show OkOps _ _ _ (Oper.mk _ (Op.alloc _) _ _ _ (_) :: _) _ _; first | refine s_alloc tabOk 0 rfl rfl rfl rfl rfl ?_ | refine s_alloc tabOk 1 rfl rfl rfl rfl rfl ?_ | fail) | refine s_store envOk rfl rfl rfl ?_ | refine s_e envOk rfl rfl rfl rfl ?_ | refine s_new envOk 0 rfl rfl rfl rfl rfl rfl ?_ | fail) | (show OkC _ _ _ _ _; first | refine ok_seq ?_ | refine ok_region ?_ | refine ok_ret ?_ | fail) | (show thenQ _ _ _ _; first | refine then_n ?_ | fail) | (show RetQ _ _ _ _ _ _; first | refine ret_leaf (.inl rfl) rfl rfl ?_ | fail) | fail)
    all_goals rfl
  | [a, b, c, d], _ =>
    repeat' (first | (show OkOps _ _ _ _ _ _; first | refine okops_nil ?_ | refine s_plain tabOk rfl rfl rfl rfl rfl ?_ | (show OkOps _ _ _ (Oper.mk _ (Op.alloc _) _ _ _ (_) :: _) _ _; first | refine s_alloc tabOk 0 rfl rfl rfl rfl rfl ?_ | refine s_alloc tabOk 1 rfl rfl rfl rfl rfl ?_ | fail) | refine s_store envOk rfl rfl rfl ?_ | refine s_e envOk rfl rfl rfl rfl ?_ | refine s_new envOk 0 rfl rfl rfl rfl rfl rfl ?_ | fail) | (show OkC _ _ _ _ _; first | refine ok_seq ?_ | refine ok_region ?_ | refine ok_ret ?_ | fail) | (show thenQ _ _ _ _; first | refine then_n ?_ | fail) | (show RetQ _ _ _ _ _ _; first | refine ret_leaf (.inl rfl) rfl rfl ?_ | fail) | fail)
    all_goals rfl
end Go.Proofs.YtpejdgkaapnekaaGreat
namespace Go.Proofs.YtpejdgkaapnekaaGreat
open Go Go.Abs
attribute [local irreducible] OkOps OkC DRun thenQ blockQ RetQ
set_option maxRecDepth 10000
section
variable {src : List (Int × Bool)} {c : Cell} {k : Nat}
end
end Go.Proofs.YtpejdgkaapnekaaGreat
namespace Go.Proofs.YtpejdgkaapnekaaGreat
open Go Go.Abs
attribute [local irreducible] OkOps OkC DRun thenQ blockQ RetQ
set_option maxRecDepth 10000
section
variable {src kept : List (Int × Bool)} {ds : List Dim} {rule : Int} {c : Cell} {cs cs' l : List Cell} {x : List Int} {j : Nat}
theorem opt_cases (o : Option Nat) : o = none ∨ ∃ j, o = some j := by cases o <;> simp
end
end Go.Proofs.YtpejdgkaapnekaaGreat
namespace Go.Proofs.YtpejdgkaapnekaaGreat
open Go Go.Abs
attribute [local irreducible] OkOps OkC DRun thenQ blockQ RetQ
set_option maxRecDepth 10000
theorem step3_lookB0 {V : Env} {st : St} {o : Oper} {t id : Nat} {m : MTy} {x y : Operand} {a : List Int} {f : Nat → D} {ks : List (List Int)} (ho : o.op = .lookup t x y false) (hm : Abs.look V.M t = some m) (hms : m.ks = pk) (hk : m.kg = true) (hv : m.vg = false) (hz : m.z = [.bool false])
    (hx : ev st x = some (.one (.mapr id))) (hl : Abs.look st.sto id = some (.map true false (encM f ks 0))) (hy : ev st y = some (plAV a)) (h4 : a.length ≤ 4) (hks : ∀ k ∈ ks, k.length = a.length)
    (hw : whereK a ks 0 = none) : step3 V st o 0 = some ⟨.one (.d (.bool false)), [], []⟩ :=
  step3_lookM ho hm hms hk hv hx hl hy h4 hks (by rw [hw, hz]; rfl)
theorem step3_lookB1 {V : Env} {st : St} {o : Oper} {t id j : Nat} {m : MTy} {x y : Operand} {a : List Int} {f : Nat → D} {ks : List (List Int)} (ho : o.op = .lookup t x y false) (hm : Abs.look V.M t = some m) (hms : m.ks = pk) (hk : m.kg = true) (hv : m.vg = false)
    (hx : ev st x = some (.one (.mapr id))) (hl : Abs.look st.sto id = some (.map true false (encM f ks 0))) (hy : ev st y = some (plAV a)) (h4 : a.length ≤ 4) (hks : ∀ k ∈ ks, k.length = a.length)
    (hw : whereK a ks 0 = some j) : step3 V st o 0 = some ⟨.one (.d (f j)), [], []⟩ :=
  step3_lookM ho hm hms hk hv hx hl hy h4 hks (by rw [hw]; rfl)
theorem whereK_none {x : List Int} : ∀ {ks : List (List Int)} {n : Nat}, whereK x ks n = none ↔ ∀ k ∈ ks, k ≠ x
  | [], n => by simp [whereK]
  | k :: r, n => by
    simp only [whereK]
    split
    · rename_i h
      constructor
      · intro h2; cases h2
      · intro h2; exact absurd (by simpa using h) (h2 k List.mem_cons_self)
    · rename_i h
      rw [whereK_none]
      constructor
      · intro h2 y hy
        rcases List.mem_cons.1 hy with rfl | hy
        · simpa using h
        · exact h2 y hy
      · intro h2 y hy; exact h2 y (List.mem_cons_of_mem _ hy)
def mixH (ds es : List Dim) (k : Nat) : List Dim := (List.range ds.length).map fun i => if i < k then hullD (at_ ds i) (at_ es i) else at_ ds i
section
variable {ds es : List Dim} {k : Nat}
theorem mixH_len : (mixH ds es k).length = ds.length := by simp [mixH]
theorem mixH_at {i : Nat} (h : i < ds.length) : at_ (mixH ds es k) i = if i < k then hullD (at_ ds i) (at_ es i) else at_ ds i := by
  unfold mixH; rw [at_mapN (by simpa using h), at_range h]
theorem mixH_zero : mixH ds es 0 = ds := at_ext mixH_len fun i hi => by rw [mixH_len] at hi; rw [mixH_at hi, if_neg (by omega)]
theorem mixH_all (hl : ds.length = es.length) : mixH ds es ds.length = hullDs ds es := at_ext (by rw [mixH_len]; simp [hullDs]; omega) fun i hi => by
  rw [mixH_len] at hi
  rw [mixH_at hi, if_pos hi]
  unfold hullDs
  rw [at_zip hi (by omega)]
theorem mixH_next (h : k < ds.length) (x : List D) : (((mixH ds es k).map encDim).set k x).set k (encDim (hullD (at_ ds k) (at_ es k))) = (mixH ds es (k + 1)).map encDim := by
  rw [List.set_set, ← List.map_set]
  congr 1
  refine at_ext (by simp [mixH_len]) fun i hi => ?_
  have hi' : i < ds.length := by simpa [mixH_len] using hi
  rw [at_set (by rw [mixH_len]; exact hi'), mixH_at hi', mixH_at hi']
  by_cases e : i = k
  · subst e; simp
  · by_cases h1 : i < k
    · rw [if_neg e, if_pos h1, if_pos (by omega)]
    · rw [if_neg e, if_neg h1, if_neg (by omega)]
end
theorem mrg_split (a b : Arr) :
    ((!validF [a, b]) = true ∧ mrgF a b = (none, 2)) ∨
    ((!validF [a, b]) = false ∧ (!alikeF a.dims b.dims) = true ∧ mrgF a b = (none, 13)) ∨
    ((!validF [a, b]) = false ∧ (!alikeF a.dims b.dims) = false ∧ (!sameF eqAttr a.attrs b.attrs) = true ∧ mrgF a b = (none, 12)) ∨
    ((!validF [a, b]) = false ∧ (!alikeF a.dims b.dims) = false ∧ (!sameF eqAttr a.attrs b.attrs) = false ∧ Mrg a b) := by
  by_cases hc : chkA a ≠ 0 ∨ chkA b ≠ 0
  · refine .inl ⟨?_, by unfold mrgF; rw [if_pos hc]⟩
    simp only [validF, List.all_cons, List.all_nil, Bool.and_true, Bool.not_eq_true', Bool.and_eq_false_iff, beq_eq_false_iff_ne]
    exact hc
  have h1 : chkA a = 0 := by omega
  have h2 : chkA b = 0 := by omega
  have hv : (!validF [a, b]) = false := by simp [validF, h1, h2]
  cases h3 : alikeF a.dims b.dims
  · exact .inr (.inl ⟨hv, rfl, by unfold mrgF; rw [if_neg hc, if_pos (by simp [h3])]⟩)
  cases h4 : sameF eqAttr a.attrs b.attrs
  · exact .inr (.inr (.inl ⟨hv, rfl, rfl, by unfold mrgF; rw [if_neg hc, if_neg (by simp [h3]), if_pos (by simp [h4])]⟩))
  · exact .inr (.inr (.inr ⟨hv, rfl, rfl, okA h1, okA h2, alike_iff.1 h3, (sameF_eq eqAttr_iff).1 h4⟩))
theorem new_iff {l : List Cell} {c : Cell} : whereK c.at' (l.map Cell.at') 0 = none ↔ newC l c = true := by
  rw [whereK_none, newC_iff]
  constructor
  · rintro h ⟨y, hy, he⟩; exact h _ (List.mem_map.2 ⟨y, hy, rfl⟩) he
  · intro h k hk he
    obtain ⟨y, hy, rfl⟩ := List.mem_map.1 hk
    exact h ⟨y, hy, he⟩
theorem key_new {l : List Cell} {ks : List (List Int)} {q : Nat} (hd : l.Pairwise diffC) (h : ks = (l.take q).map Cell.at') (hq : q < l.length) : whereK (at_ l q).at' ks 0 = none := by
  rw [whereK_none]
  intro k hk
  rw [h] at hk
  obtain ⟨y, hy, rfl⟩ := List.mem_map.1 hk
  have h2 : (l.take (q + 1)).Pairwise diffC := hd.sublist (List.take_sublist _ _)
  rw [at_take hq, List.pairwise_append] at h2
  exact h2.2.2 y hy _ (by simp)
set_option maxHeartbeats 8000000 in
theorem c47 (a b : Arr) (hcl : a.cells.length + b.cells.length ≤ 4096) : CallA Tryz.prog 47 [aggA a, aggA b] [] (arrE (mrgF a b)) [] := by
  unfold aggA
  refine enter tabOk Tryz.func47 rfl (by decide +kernel) rfl fun hok w0 σ0 φ0 M => ?_
  clear hok
  rcases mrg_split a b with ⟨hv, e⟩ | ⟨hv, hb1, e⟩ | ⟨hv, hb1, hb2, e⟩ | ⟨hv, hb1, hb2, hM⟩
  all_goals (try rw [e])
  rotate_right
  have e := mrgF_ok hM hcl
  have hne : 0 < a.dims.length := by have := hM.oka.dims.1; omega
  have hlen := hM.len
  have hb4 := hM.okb.dims.2.1
  have hca := hM.oka.few
  have hcb := hM.okb.few
  have hd4 := hM.oka.dims.2.1
  have hdf := diff_of_sorted hM.oka.srt
  have hnl : ∀ j, j < a.cells.length → (at_ a.cells j).at'.length = a.dims.length := fun j hj => (cellF_ok.1 (hM.oka.cel _ (at_mem hj))).1
  have hml : ∀ j, j < b.cells.length → (at_ b.cells j).at'.length = a.dims.length := fun j hj => (cellF_ok.1 (hM.okb.cel _ (at_mem hj))).1.trans hlen.symm
  have hn4 : ∀ j, j < a.cells.length → (at_ a.cells j).at'.length ≤ 4 := fun j hj => by rw [hnl j hj]; exact hd4
  have hm4 : ∀ j, j < b.cells.length → (at_ b.cells j).at'.length ≤ 4 := fun j hj => by rw [hml j hj]; exact hd4
  have hfl : (a.cells ++ b.cells.filter (newC a.cells)).length ≤ 4096 := by
    have := List.length_filter_le (newC a.cells) b.cells
    rw [List.length_append]; omega
  repeat' (first | (show OkOps _ _ _ _ _ _; first | (show OkOps _ _ _ (Oper.mk _ (Op.call _) _ _ _ (_) :: _) _ _; first | refine s_callFS [3] rfl rfl rfl rfl rfl rfl rfl rfl rfl (c96 [a, b]) rfl ?_ | fail) | (show OkOps _ _ _ (Oper.mk _ (Op.call _) _ _ _ (_) :: _) _ _; first | refine s_callM 10 [] (rav' := .one (.own 10 a.dims.length)) (c97o a.dims hne) rfl rfl rfl rfl rfl rfl trivial compatL_nil rfl rfl rfl rfl ?_ | fail) | (show OkOps _ _ _ (Oper.mk _ (Op.call _) _ _ _ (_) :: _) _ _; first | refine s_callM 30 [] (rav' := .one (.own 30 a.cells.length)) (c128o a.cells) rfl rfl rfl rfl rfl rfl trivial compatL_nil rfl rfl rfl rfl ?_ | fail) | (show OkOps _ _ _ (Oper.mk _ (Op.call _) _ _ _ (_) :: _) _ _; first | refine s_append tabOk rfl rfl rfl rfl rfl rfl rfl rfl rfl rfl rfl rfl rfl (by first | omega | ((try simp only [decide_eq_true_eq, decide_eq_false_iff_not, List.length_map, List.length_cons, List.length_nil, List.length_append, List.length_take, List.length_drop, Int.toNat_natCast] at *); omega)) (by first | exact Nat.le_of_ble_eq_true rfl | omega | ((try simp only [decide_eq_true_eq, decide_eq_false_iff_not, List.length_map, List.length_cons, List.length_nil, List.length_append, List.length_take, List.length_drop, Int.toNat_natCast] at *); omega)) (Nat.le_of_ble_eq_true rfl) ?_ | fail) | (show OkOps _ _ _ (Oper.mk _ (Op.makeMap _ _) _ _ _ (_) :: _) _ _; first | refine s_new envOk 14 rfl rfl rfl rfl rfl rfl ?_ | fail) | (show OkOps _ _ _ (Oper.mk _ (Op.mapUpdate _ _ _ _) _ _ _ (_) :: _) _ _; first | refine s_store envOk rfl rfl (step3_updM rfl rfl rfl rfl rfl rfl rfl rfl rfl rfl (hn4 _ (by first | omega | ((try simp only [decide_eq_true_eq, decide_eq_false_iff_not, Bool.not_eq_true', Bool.not_true, Bool.not_false, List.length_map, List.length_set, bne_iff_ne, ne_eq, beq_iff_eq, bne_eq_false_iff_eq, beq_eq_false_iff_ne] at *); omega))) (fun k hk => (hq3 k hk).trans (hnl _ (by first | omega | ((try simp only [decide_eq_true_eq, decide_eq_false_iff_not, Bool.not_eq_true', Bool.not_true, Bool.not_false, List.length_map, List.length_set, bne_iff_ne, ne_eq, beq_iff_eq, bne_eq_false_iff_eq, beq_eq_false_iff_ne] at *); omega))).symm) (key_new hdf hq2 (by first | omega | ((try simp only [decide_eq_true_eq, decide_eq_false_iff_not, Bool.not_eq_true', Bool.not_true, Bool.not_false, List.length_map, List.length_set, bne_iff_ne, ne_eq, beq_iff_eq, bne_eq_false_iff_eq, beq_eq_false_iff_ne] at *); omega))) rfl) ?_ | fail) | (show OkOps _ _ _ (Oper.mk _ (Op.lookup _ _ _ _) _ _ _ (_) :: _) _ _; first | refine s_e envOk rfl rfl rfl (step3_lookB0 rfl rfl rfl rfl rfl rfl rfl rfl rfl (hm4 _ (by first | omega | ((try simp only [decide_eq_true_eq, decide_eq_false_iff_not, Bool.not_eq_true', Bool.not_true, Bool.not_false, List.length_map, List.length_set, bne_iff_ne, ne_eq, beq_iff_eq, bne_eq_false_iff_eq, beq_eq_false_iff_ne] at *); omega))) (fun k hk => (hq3 k hk).trans (hml _ (by first | omega | ((try simp only [decide_eq_true_eq, decide_eq_false_iff_not, Bool.not_eq_true', Bool.not_true, Bool.not_false, List.length_map, List.length_set, bne_iff_ne, ne_eq, beq_iff_eq, bne_eq_false_iff_eq, beq_eq_false_iff_ne] at *); omega))).symm) (by assumption)) ?_ | fail) | (show OkOps _ _ _ (Oper.mk _ (Op.lookup _ _ _ _) _ _ _ (_) :: _) _ _; first | refine s_e envOk rfl rfl rfl (step3_lookB1 rfl rfl rfl rfl rfl rfl rfl rfl (hm4 _ (by first | omega | ((try simp only [decide_eq_true_eq, decide_eq_false_iff_not, Bool.not_eq_true', Bool.not_true, Bool.not_false, List.length_map, List.length_set, bne_iff_ne, ne_eq, beq_iff_eq, bne_eq_false_iff_eq, beq_eq_false_iff_ne] at *); omega))) (fun k hk => (hq3 k hk).trans (hml _ (by first | omega | ((try simp only [decide_eq_true_eq, decide_eq_false_iff_not, Bool.not_eq_true', Bool.not_true, Bool.not_false, List.length_map, List.length_set, bne_iff_ne, ne_eq, beq_iff_eq, bne_eq_false_iff_eq, beq_eq_false_iff_ne] at *); omega))).symm) (by assumption)) ?_ | fail) | (show OkOps _ _ _ (Oper.mk _ (Op.lookup _ _ _ _) _ _ _ (_) :: _) _ _; first | ((fail_if_success (have := hwk)); (rcases opt_cases (whereK (at_ b.cells (r.1 : Int).toNat).at' q.2 0) with hwk | ⟨j, hwk⟩)) | fail) | (show OkOps _ _ _ (Oper.mk _ (Op.call _) _ _ _ (_) :: _) _ _; first | refine s_callG 70 [10, 30] rfl rfl rfl rfl rfl rfl rfl rfl rfl (c99k (hullDs a.dims b.dims) a.attrs (a.cells ++ b.cells.filter (newC a.cells)) _ _ (mrg_diff hM) hfl (by rw [List.take_of_length_le (by omega), hr, show p.1 = a.dims.length from (by first | omega | ((try simp only [decide_eq_true_eq, decide_eq_false_iff_not, Bool.not_eq_true', Bool.not_true, Bool.not_false, List.length_map, List.length_set, bne_iff_ne, ne_eq, beq_iff_eq, bne_eq_false_iff_eq, beq_eq_false_iff_ne] at *); omega)), mixH_all hlen]) (by rw [List.take_of_length_le (by omega), hr4, List.take_of_length_le (by first | omega | ((try simp only [decide_eq_true_eq, decide_eq_false_iff_not, Bool.not_eq_true', Bool.not_true, Bool.not_false, List.length_map, List.length_set, bne_iff_ne, ne_eq, beq_iff_eq, bne_eq_false_iff_eq, beq_eq_false_iff_ne] at *); omega))])) rfl rfl rfl ?_ | fail) | refine okops_nil ?_ | refine s_plain tabOk rfl rfl rfl rfl rfl ?_ | (show OkOps _ _ _ (Oper.mk _ (Op.binOp .add _ _ _ _) _ _ _ (_) :: _) _ _; first | refine s_e envOk rfl rfl rfl (step3_add rfl rfl rfl rfl (wrap64 (by omega) (by omega))) ?_ | fail) | (show OkOps _ _ _ (Oper.mk _ (Op.indexAddr _ _ _) _ _ _ (_) :: _) _ _; first | refine s_e envOk rfl rfl rfl (step3_idx rfl rfl rfl rfl rfl (by first | omega | ((try simp only [decide_eq_true_eq, decide_eq_false_iff_not, Bool.not_eq_true', Bool.not_true, Bool.not_false, List.length_map, List.length_set, bne_iff_ne, ne_eq, beq_iff_eq, bne_eq_false_iff_eq, beq_eq_false_iff_ne] at *); omega)) (at_map (by first | omega | ((try simp only [decide_eq_true_eq, decide_eq_false_iff_not, Bool.not_eq_true', Bool.not_true, Bool.not_false, List.length_map, List.length_set, bne_iff_ne, ne_eq, beq_iff_eq, bne_eq_false_iff_eq, beq_eq_false_iff_ne] at *); omega)))) ?_ | fail) | (show OkOps _ _ _ (Oper.mk _ (Op.call _) _ _ _ (_) :: _) _ _; first | refine s_callF rfl rfl rfl rfl rfl rfl rfl rfl (c127 _ _) rfl ?_ | refine s_callF rfl rfl rfl rfl rfl rfl rfl rfl (c121 _ _) rfl ?_ | refine s_callF rfl rfl rfl rfl rfl rfl rfl rfl (c111 _ (hn4 _ (by first | omega | ((try simp only [decide_eq_true_eq, decide_eq_false_iff_not, Bool.not_eq_true', Bool.not_true, Bool.not_false, List.length_map, List.length_set, bne_iff_ne, ne_eq, beq_iff_eq, bne_eq_false_iff_eq, beq_eq_false_iff_ne] at *); omega)))) rfl ?_ | refine s_callF rfl rfl rfl rfl rfl rfl rfl rfl (c111 _ (hm4 _ (by first | omega | ((try simp only [decide_eq_true_eq, decide_eq_false_iff_not, Bool.not_eq_true', Bool.not_true, Bool.not_false, List.length_map, List.length_set, bne_iff_ne, ne_eq, beq_iff_eq, bne_eq_false_iff_eq, beq_eq_false_iff_ne] at *); omega)))) rfl ?_ | fail) | (show OkOps _ _ _ (Oper.mk _ (Op.box _ _) _ _ _ (_) :: _) _ _; first | refine s_box 0 rfl rfl rfl rfl rfl rfl ?_ | refine s_box 1 rfl rfl rfl rfl rfl rfl ?_ | fail) | (show OkOps _ _ _ (Oper.mk _ (Op.alloc _) _ _ _ (_) :: _) _ _; first | refine s_alloc tabOk 2 rfl rfl rfl rfl rfl ?_ | refine s_alloc tabOk 3 rfl rfl rfl rfl rfl ?_ | fail) | refine s_store envOk rfl rfl rfl ?_ | refine s_new envOk 3 rfl rfl rfl rfl rfl rfl ?_ | refine s_new envOk 4 rfl rfl rfl rfl rfl rfl ?_ | fail) | (show OkC _ _ _ _ _; first | refine ok_seq ?_ | refine ok_region ?_ | refine ok_block ?_ | refine ok_skip ?_ | refine ok_ret ?_ | refine ok_exit ?_ | refine ok_condT rfl ?_ | refine ok_condF rfl ?_ | refine ok_condKT rfl (by assumption) ?_ | refine ok_condKF rfl (by assumption) ?_ | refine ok_cond rfl (fun h => ?_) (fun h => ?_) | refine ok_regionD progOk.mo ?_ | refine s_loopM 9 rfl [(2, _), (3, _), (4, _), (6, _), (42, _), (43, _)] (subL_cons rfl (subL_cons rfl (subL_cons rfl (subL_cons rfl (subL_cons rfl (subL_cons rfl subL_nil)))))) (fun (p : Nat × List (List D)) => [(44, .one (.d (.int .i64 (p.1 : Int))))]) (fun (p : Nat × List (List D)) => [(10, .row 3 32 p.2), (0, .box [.d (encDims a.dims), .d (encAttrs a.attrs), .d (encCells a.cells)]), (1, .box [.d (encDims b.dims), .d (encAttrs b.attrs), .d (encCells b.cells)]), (2, .box [.d .nil, .d .nil, .d .nil])]) (fun (p : Nat × List (List D)) => p.1 ≤ b.dims.length ∧ p.2.length = a.dims.length ∧ p.2 = (mixH a.dims b.dims p.1).map encDim) (fun (p : Nat × List (List D)) => b.dims.length - p.1) (0, a.dims.map encDim) (subL_cons rfl subL_nil) (by first | exact subL_nil | exact (subL_cons rfl subL_nil) | exact (subL_cons rfl (subL_cons rfl subL_nil)) | exact (subL_cons rfl (subL_cons rfl (subL_cons rfl subL_nil))) | exact (subL_cons rfl (subL_cons rfl (subL_cons rfl (subL_cons rfl subL_nil)))) | exact (subL_cons rfl (subL_cons rfl (subL_cons rfl (subL_cons rfl (subL_cons rfl subL_nil))))) | exact (subL_cons rfl (subL_cons rfl (subL_cons rfl (subL_cons rfl (subL_cons rfl (subL_cons rfl subL_nil)))))) | exact (subL_cons rfl (subL_cons rfl (subL_cons rfl (subL_cons rfl (subL_cons rfl (subL_cons rfl (subL_cons rfl subL_nil))))))) | exact (subL_cons rfl (subL_cons rfl (subL_cons rfl (subL_cons rfl (subL_cons rfl (subL_cons rfl (subL_cons rfl (subL_cons rfl subL_nil))))))))) ?_ (fun p ⟨hk, hln, hr⟩ => ?_) | refine s_loopM 15 rfl [(2, _), (3, _), (4, _), (6, _), (9, _), (76, _), (77, _)] (subL_cons rfl (subL_cons rfl (subL_cons rfl (subL_cons rfl (subL_cons rfl (subL_cons rfl (subL_cons rfl subL_nil))))))) (fun (q : Nat × List (List Int)) => [(78, .one (.d (.int .i64 (q.1 : Int))))]) (fun (q : Nat × List (List Int)) => [(14, .map true false (encM (fun _ => .bool true) q.2 0)), (10, .row 3 32 p.2), (0, .box [.d (encDims a.dims), .d (encAttrs a.attrs), .d (encCells a.cells)]), (1, .box [.d (encDims b.dims), .d (encAttrs b.attrs), .d (encCells b.cells)]), (2, .box [.d .nil, .d .nil, .d .nil])]) (fun (q : Nat × List (List Int)) => q.1 ≤ a.cells.length ∧ q.2 = (a.cells.take q.1).map Cell.at' ∧ (∀ k ∈ q.2, k.length = a.dims.length)) (fun (q : Nat × List (List Int)) => a.cells.length - q.1) (0, []) (subL_cons rfl subL_nil) (by first | exact subL_nil | exact (subL_cons rfl subL_nil) | exact (subL_cons rfl (subL_cons rfl subL_nil)) | exact (subL_cons rfl (subL_cons rfl (subL_cons rfl subL_nil))) | exact (subL_cons rfl (subL_cons rfl (subL_cons rfl (subL_cons rfl subL_nil)))) | exact (subL_cons rfl (subL_cons rfl (subL_cons rfl (subL_cons rfl (subL_cons rfl subL_nil))))) | exact (subL_cons rfl (subL_cons rfl (subL_cons rfl (subL_cons rfl (subL_cons rfl (subL_cons rfl subL_nil)))))) | exact (subL_cons rfl (subL_cons rfl (subL_cons rfl (subL_cons rfl (subL_cons rfl (subL_cons rfl (subL_cons rfl subL_nil))))))) | exact (subL_cons rfl (subL_cons rfl (subL_cons rfl (subL_cons rfl (subL_cons rfl (subL_cons rfl (subL_cons rfl (subL_cons rfl subL_nil))))))))) ?_ (fun q ⟨hq1, hq2, hq3⟩ => ?_) | refine s_loopM 21 rfl [(2, _), (4, _), (6, _), (9, _), (91, _), (92, _)] (subL_cons rfl (subL_cons rfl (subL_cons rfl (subL_cons rfl (subL_cons rfl (subL_cons rfl subL_nil)))))) (fun (r : Nat × Nat × List (List D)) => [(12, .one (.own 30 r.2.1)), (93, .one (.d (.int .i64 (r.1 : Int))))]) (fun (r : Nat × Nat × List (List D)) => [(30, .row 2 48 r.2.2), (14, .map true false (encM (fun _ => .bool true) q.2 0)), (10, .row 3 32 p.2), (0, .box [.d (encDims a.dims), .d (encAttrs a.attrs), .d (encCells a.cells)]), (1, .box [.d (encDims b.dims), .d (encAttrs b.attrs), .d (encCells b.cells)]), (2, .box [.d .nil, .d .nil, .d .nil])]) (fun (r : Nat × Nat × List (List D)) => r.1 ≤ b.cells.length ∧ r.2.1 = r.2.2.length ∧ r.2.1 ≤ a.cells.length + r.1 ∧ r.2.2 = (a.cells ++ (b.cells.take r.1).filter (newC a.cells)).map encCell) (fun (r : Nat × Nat × List (List D)) => b.cells.length - r.1) (0, a.cells.length, a.cells.map encCell) (subL_cons rfl (subL_cons rfl subL_nil)) (by first | exact subL_nil | exact (subL_cons rfl subL_nil) | exact (subL_cons rfl (subL_cons rfl subL_nil)) | exact (subL_cons rfl (subL_cons rfl (subL_cons rfl subL_nil))) | exact (subL_cons rfl (subL_cons rfl (subL_cons rfl (subL_cons rfl subL_nil)))) | exact (subL_cons rfl (subL_cons rfl (subL_cons rfl (subL_cons rfl (subL_cons rfl subL_nil))))) | exact (subL_cons rfl (subL_cons rfl (subL_cons rfl (subL_cons rfl (subL_cons rfl (subL_cons rfl subL_nil)))))) | exact (subL_cons rfl (subL_cons rfl (subL_cons rfl (subL_cons rfl (subL_cons rfl (subL_cons rfl (subL_cons rfl subL_nil))))))) | exact (subL_cons rfl (subL_cons rfl (subL_cons rfl (subL_cons rfl (subL_cons rfl (subL_cons rfl (subL_cons rfl (subL_cons rfl subL_nil))))))))) ?_ (fun r ⟨hr1, hr2, hr3, hr4⟩ => ?_) | fail) | (show thenQ _ _ _ _; first | refine then_n ?_ | refine then_r ?_ | refine then_x ?_ | fail) | (show blockQ _ _ _ _; first | refine block_n ?_ | refine block_r ?_ | refine block_x rfl ?_ | fail) | (show RetQ _ _ _ _ _ _; first | refine ret_leaf (.inl rfl) rfl rfl ?_ | fail) | (show DRun _ _ _ _ _ _ _ _; first | refine d_nil (by kernel_rfl) ?_ | refine d_e envOk rfl rfl rfl (step3_plain rfl rfl) ?_ | (show DRun _ _ _ _ (Oper.mk _ (Op.indexAddr _ _ _) _ _ _ (_) :: _) _ _ _; first | refine d_e envOk rfl rfl rfl (step3_idxOwn rfl rfl rfl rfl rfl rfl (by first | omega | ((try simp only [decide_eq_true_eq, decide_eq_false_iff_not, Bool.not_eq_true', Bool.not_true, Bool.not_false, List.length_map, List.length_set, bne_iff_ne, ne_eq, beq_iff_eq, bne_eq_false_iff_eq, beq_eq_false_iff_ne] at *); omega)) (by first | omega | ((try simp only [decide_eq_true_eq, decide_eq_false_iff_not, Bool.not_eq_true', Bool.not_true, Bool.not_false, List.length_map, List.length_set, bne_iff_ne, ne_eq, beq_iff_eq, bne_eq_false_iff_eq, beq_eq_false_iff_ne] at *); omega))) ?_ | fail) | (show DRun _ _ _ _ (Oper.mk _ (Op.load _ _) _ _ _ (_) :: _) _ _ _; first | refine d_e envOk rfl rfl rfl (step3_loadRow rfl rfl rfl rfl (row_get (by assumption) (by first | omega | ((try simp only [decide_eq_true_eq, decide_eq_false_iff_not, Bool.not_eq_true', Bool.not_true, Bool.not_false, List.length_map, List.length_set, bne_iff_ne, ne_eq, beq_iff_eq, bne_eq_false_iff_eq, beq_eq_false_iff_ne] at *); omega))) rfl) ?_ | fail) | refine d_store envOk rfl rfl (step3_storeRow rfl rfl rfl rfl rfl rfl rfl rfl rfl (row_get (by assumption) (by first | omega | ((try simp only [decide_eq_true_eq, decide_eq_false_iff_not, Bool.not_eq_true', Bool.not_true, Bool.not_false, List.length_map, List.length_set, bne_iff_ne, ne_eq, beq_iff_eq, bne_eq_false_iff_eq, beq_eq_false_iff_ne] at *); omega))) rfl) ?_ | refine d_store envOk rfl rfl (step3_storeRow rfl rfl rfl rfl rfl rfl rfl rfl rfl (set_get (by first | omega | ((try simp only [decide_eq_true_eq, decide_eq_false_iff_not, Bool.not_eq_true', Bool.not_true, Bool.not_false, List.length_map, List.length_set, bne_iff_ne, ne_eq, beq_iff_eq, bne_eq_false_iff_eq, beq_eq_false_iff_ne] at *); omega))) rfl) ?_ | fail) | (show Exists _; first | refine Exists.intro ((r.1 + 1, r.2.1 + 1, r.2.2.take r.2.1 ++ [encCell (at_ b.cells r.1)])) ⟨?_, ?_, (by first | exact subL_nil | exact (subL_cons rfl subL_nil) | exact (subL_cons rfl (subL_cons rfl subL_nil)) | exact (subL_cons rfl (subL_cons rfl (subL_cons rfl subL_nil))) | exact (subL_cons rfl (subL_cons rfl (subL_cons rfl (subL_cons rfl subL_nil)))) | exact (subL_cons rfl (subL_cons rfl (subL_cons rfl (subL_cons rfl (subL_cons rfl subL_nil))))) | exact (subL_cons rfl (subL_cons rfl (subL_cons rfl (subL_cons rfl (subL_cons rfl (subL_cons rfl subL_nil)))))) | exact (subL_cons rfl (subL_cons rfl (subL_cons rfl (subL_cons rfl (subL_cons rfl (subL_cons rfl (subL_cons rfl subL_nil))))))) | exact (subL_cons rfl (subL_cons rfl (subL_cons rfl (subL_cons rfl (subL_cons rfl (subL_cons rfl (subL_cons rfl (subL_cons rfl subL_nil))))))))), (subL_cons rfl (subL_cons rfl subL_nil)), (subL_cons rfl (subL_cons rfl (subL_cons rfl (subL_cons rfl (subL_cons rfl (subL_cons rfl subL_nil))))))⟩ | refine Exists.intro ((r.1 + 1, r.2)) ⟨?_, ?_, (by first | exact subL_nil | exact (subL_cons rfl subL_nil) | exact (subL_cons rfl (subL_cons rfl subL_nil)) | exact (subL_cons rfl (subL_cons rfl (subL_cons rfl subL_nil))) | exact (subL_cons rfl (subL_cons rfl (subL_cons rfl (subL_cons rfl subL_nil)))) | exact (subL_cons rfl (subL_cons rfl (subL_cons rfl (subL_cons rfl (subL_cons rfl subL_nil))))) | exact (subL_cons rfl (subL_cons rfl (subL_cons rfl (subL_cons rfl (subL_cons rfl (subL_cons rfl subL_nil)))))) | exact (subL_cons rfl (subL_cons rfl (subL_cons rfl (subL_cons rfl (subL_cons rfl (subL_cons rfl (subL_cons rfl subL_nil))))))) | exact (subL_cons rfl (subL_cons rfl (subL_cons rfl (subL_cons rfl (subL_cons rfl (subL_cons rfl (subL_cons rfl (subL_cons rfl subL_nil))))))))), (subL_cons rfl (subL_cons rfl subL_nil)), (subL_cons rfl (subL_cons rfl (subL_cons rfl (subL_cons rfl (subL_cons rfl (subL_cons rfl subL_nil))))))⟩ | refine Exists.intro ((q.1 + 1, q.2 ++ [(at_ a.cells q.1).at'])) ⟨?_, ?_, (by first | exact subL_nil | exact (subL_cons rfl subL_nil) | exact (subL_cons rfl (subL_cons rfl subL_nil)) | exact (subL_cons rfl (subL_cons rfl (subL_cons rfl subL_nil))) | exact (subL_cons rfl (subL_cons rfl (subL_cons rfl (subL_cons rfl subL_nil)))) | exact (subL_cons rfl (subL_cons rfl (subL_cons rfl (subL_cons rfl (subL_cons rfl subL_nil))))) | exact (subL_cons rfl (subL_cons rfl (subL_cons rfl (subL_cons rfl (subL_cons rfl (subL_cons rfl subL_nil)))))) | exact (subL_cons rfl (subL_cons rfl (subL_cons rfl (subL_cons rfl (subL_cons rfl (subL_cons rfl (subL_cons rfl subL_nil))))))) | exact (subL_cons rfl (subL_cons rfl (subL_cons rfl (subL_cons rfl (subL_cons rfl (subL_cons rfl (subL_cons rfl (subL_cons rfl subL_nil))))))))), (subL_cons rfl subL_nil), (subL_cons rfl (subL_cons rfl (subL_cons rfl (subL_cons rfl (subL_cons rfl (subL_cons rfl (subL_cons rfl subL_nil)))))))⟩ | refine Exists.intro ((p.1 + 1, (p.2.set p.1 [.str (at_ (mixH a.dims b.dims p.1) p.1).name, .int .i64 (min (at_ (mixH a.dims b.dims p.1) p.1).lo (at_ b.dims p.1).lo), .int .i64 (at_ (mixH a.dims b.dims p.1) p.1).hi]).set p.1 [.str (at_ (mixH a.dims b.dims p.1) p.1).name, .int .i64 (min (at_ (mixH a.dims b.dims p.1) p.1).lo (at_ b.dims p.1).lo), .int .i64 (max (at_ (mixH a.dims b.dims p.1) p.1).hi (at_ b.dims p.1).hi)])) ⟨?_, ?_, (by first | exact subL_nil | exact (subL_cons rfl subL_nil) | exact (subL_cons rfl (subL_cons rfl subL_nil)) | exact (subL_cons rfl (subL_cons rfl (subL_cons rfl subL_nil))) | exact (subL_cons rfl (subL_cons rfl (subL_cons rfl (subL_cons rfl subL_nil)))) | exact (subL_cons rfl (subL_cons rfl (subL_cons rfl (subL_cons rfl (subL_cons rfl subL_nil))))) | exact (subL_cons rfl (subL_cons rfl (subL_cons rfl (subL_cons rfl (subL_cons rfl (subL_cons rfl subL_nil)))))) | exact (subL_cons rfl (subL_cons rfl (subL_cons rfl (subL_cons rfl (subL_cons rfl (subL_cons rfl (subL_cons rfl subL_nil))))))) | exact (subL_cons rfl (subL_cons rfl (subL_cons rfl (subL_cons rfl (subL_cons rfl (subL_cons rfl (subL_cons rfl (subL_cons rfl subL_nil))))))))), (subL_cons rfl subL_nil), (subL_cons rfl (subL_cons rfl (subL_cons rfl (subL_cons rfl (subL_cons rfl (subL_cons rfl subL_nil))))))⟩ | fail) | fail)
  all_goals first
    | rfl
    | exact ⟨Nat.zero_le _, by simp, by show a.dims.map encDim = _; rw [mixH_zero]⟩
    | exact ⟨Nat.zero_le _, rfl, fun k hk => by cases hk⟩
    | exact ⟨Nat.zero_le _, by simp, by simp, by simp⟩
    | (have hlt : p.1 < b.dims.length := by simpa using h
       refine ⟨hlt, by simp [hln], ?_⟩
       show ((p.2.set p.1 _).set p.1 _) = _
       have em : at_ (mixH a.dims b.dims p.1) p.1 = at_ a.dims p.1 := by rw [mixH_at (by omega), if_neg (Nat.lt_irrefl _)]
       rw [em, hr]
       exact mixH_next (by omega) _)
    | (have hlt : p.1 < b.dims.length := by simpa using h
       show b.dims.length - (p.1 + 1) < b.dims.length - p.1
       omega)
    | (have hlt : q.1 < a.cells.length := by simpa using h
       refine ⟨hlt, ?_, fun k hk => ?_⟩
       · show q.2 ++ [_] = (a.cells.take (q.1 + 1)).map Cell.at'
         rw [at_take hlt, List.map_append, hq2]; rfl
       · rcases List.mem_append.1 hk with hk | hk
         · exact hq3 k hk
         · rw [List.mem_singleton.1 hk]; exact hnl _ hlt)
    | (have hlt : q.1 < a.cells.length := by simpa using h
       show a.cells.length - (q.1 + 1) < a.cells.length - q.1
       omega)
    | (have hlt : r.1 < b.cells.length := by simpa using ‹decide ((r.1 : Int) < ((b.cells.map encCell).length : Int)) = true›
       show b.cells.length - (r.1 + 1) < b.cells.length - r.1
       omega)
    | skip
  · have hlt : r.1 < b.cells.length := by simpa using h
    have hqn : q.2 = a.cells.map Cell.at' := by rw [hq2, List.take_of_length_le (by simpa using ‹decide ((q.1 : Int) < ((a.cells.map encCell).length : Int)) = false›)]
    have hnw : newC a.cells (at_ b.cells r.1) = true := by rw [hqn] at hwk; exact new_iff.1 hwk
    refine ⟨hlt, ?_, by show r.2.1 + 1 ≤ a.cells.length + (r.1 + 1); omega, ?_⟩
    · show r.2.1 + 1 = (r.2.2.take r.2.1 ++ [_]).length
      rw [List.length_append, List.length_take]; simp [hr2]
    · show r.2.2.take r.2.1 ++ [_] = List.map encCell (a.cells ++ List.filter (newC a.cells) (b.cells.take (r.1 + 1)))
      rw [List.take_of_length_le (by omega), hr4, filter_next hlt, if_pos hnw, ← List.append_assoc]
      simp only [List.map_append, List.map_cons, List.map_nil]
  · have hlt : r.1 < b.cells.length := by simpa using h
    have hqn : q.2 = a.cells.map Cell.at' := by rw [hq2, List.take_of_length_le (by simpa using ‹decide ((q.1 : Int) < ((a.cells.map encCell).length : Int)) = false›)]
    have hnw : ¬ newC a.cells (at_ b.cells r.1) = true := fun hx => by
      have h2 := new_iff.2 hx
      rw [← hqn] at h2
      have h3 : whereK (at_ b.cells r.1).at' q.2 0 = some j := hwk
      rw [h2] at h3; cases h3
    refine ⟨hlt, hr2, by show r.2.1 ≤ a.cells.length + (r.1 + 1); omega, ?_⟩
    show r.2.2 = List.map encCell (a.cells ++ List.filter (newC a.cells) (b.cells.take (r.1 + 1)))
    rw [filter_next hlt, if_neg hnw, List.append_nil]
    exact hr4
  · rw [e]; rfl
end Go.Proofs.YtpejdgkaapnekaaGreat
namespace Go.Proofs.YtpejdgkaapnekaaGreat
open Go Go.Abs
def placeF (x : List Int) : List Cell → Nat
  | [] => 0
  | c :: r => if cmpF c.at' x < 0 then placeF x r + 1 else 0
def foundF (l : List Cell) (x : List Int) : Bool := decide (placeF x l < l.length) && (cmpF (at_ l (placeF x l)).at' x == 0)
def putR (c : Cell) : List Cell → List Cell
  | [] => [c]
  | x :: r => if cmpF x.at' c.at' < 0 then x :: putR c r else if cmpF x.at' c.at' = 0 then c :: r else c :: x :: r
theorem place_le {x : List Int} : ∀ {l : List Cell}, placeF x l ≤ l.length
  | [] => by simp [placeF]
  | c :: r => by
    have := place_le (x := x) (l := r)
    simp only [placeF]
    split <;> simp only [List.length_cons] <;> omega
theorem place_lt {x : List Int} : ∀ {l : List Cell} {j : Nat}, j < placeF x l → cmpF (at_ l j).at' x < 0
  | [], j, h => by simp [placeF] at h
  | c :: r, j, h => by
    simp only [placeF] at h
    split at h
    · rename_i h1
      cases j with
      | zero => exact h1
      | succ j => exact place_lt (l := r) (by omega)
    · omega
theorem place_ge {x : List Int} : ∀ {l : List Cell} {j : Nat}, l.Pairwise ltC → placeF x l ≤ j → j < l.length → ¬ cmpF (at_ l j).at' x < 0
  | [], j, _, _, h => by simp at h
  | c :: r, j, hs, hp, hj => by
    rw [List.pairwise_cons] at hs
    simp only [placeF] at hp
    split at hp
    · rename_i h1
      cases j with
      | zero => omega
      | succ j => exact place_ge (l := r) hs.2 (by omega) (by simpa using hj)
    · rename_i h1
      cases j with
      | zero => exact h1
      | succ j =>
        intro h2
        have h3 : ltC c (at_ r j) := hs.1 _ (at_mem (by simpa using hj))
        exact h1 (ltC_trans (x := c) (y := at_ r j) (z := ⟨x, []⟩) h3 h2)
theorem found_cons {x : List Int} {c : Cell} {r : List Cell} : foundF (c :: r) x = if cmpF c.at' x < 0 then foundF r x else cmpF c.at' x == 0 := by
  unfold foundF
  simp only [placeF]
  split
  · simp only [List.length_cons, Nat.add_lt_add_iff_right]; rfl
  · simp only [List.length_cons, Nat.zero_lt_succ, decide_true, Bool.true_and]; rfl
theorem found_iff {x : List Int} : ∀ {l : List Cell}, l.Pairwise ltC → (foundF l x = true ↔ ∃ y ∈ l, y.at' = x)
  | [], _ => by simp [foundF]
  | c :: r, hs => by
    rw [List.pairwise_cons] at hs
    rw [found_cons]
    split
    · rename_i h1
      rw [found_iff hs.2]
      constructor
      · rintro ⟨y, hy, he⟩; exact ⟨y, List.mem_cons_of_mem _ hy, he⟩
      · rintro ⟨y, hy, he⟩
        rcases List.mem_cons.1 hy with rfl | hy
        · rw [he, cmpF_refl] at h1; omega
        · exact ⟨y, hy, he⟩
    · rename_i h1
      constructor
      · intro h; exact ⟨c, List.mem_cons_self, cmpF_eq _ _ (by simpa using h)⟩
      · rintro ⟨y, hy, he⟩
        rcases List.mem_cons.1 hy with rfl | hy
        · rw [he, cmpF_refl]; rfl
        · have := hs.1 y hy
          unfold ltC at this
          rw [he] at this
          exact absurd this h1
end Go.Proofs.YtpejdgkaapnekaaGreat
namespace Go.Proofs.YtpejdgkaapnekaaGreat
open Go Go.Abs
attribute [local irreducible] OkOps OkC DRun thenQ blockQ RetQ
set_option maxRecDepth 10000
theorem c147 (c : Cell) (x : List Int) : CallA Tryz.prog 147 [.agg [.d (encInts c.at'), .d (encVals c.vals)], .one (.d (encInts x))] [] (.one (.d (.int .i64 (cmpF c.at' x)))) [] := by
  refine enter tabOk Tryz.func147 rfl (by decide +kernel) rfl fun hok w0 σ0 φ0 M => ?_
  clear hok
  repeat' (first | (show OkOps _ _ _ _ _ _; first | refine okops_nil ?_ | refine s_plain tabOk rfl rfl rfl rfl rfl ?_ | (show OkOps _ _ _ (Oper.mk _ (Op.call _) _ _ _ (_) :: _) _ _; first | refine s_callF rfl rfl rfl rfl rfl rfl rfl rfl (c35 _ _) rfl ?_ | fail) | (show OkOps _ _ _ (Oper.mk _ (Op.box _ _) _ _ _ (_) :: _) _ _; first | refine s_box 0 rfl rfl rfl rfl rfl rfl ?_ | fail) | fail) | (show OkC _ _ _ _ _; first | refine ok_seq ?_ | refine ok_region ?_ | refine ok_ret ?_ | fail) | (show thenQ _ _ _ _; first | refine then_n ?_ | fail) | (show RetQ _ _ _ _ _ _; first | refine ret_leaf (.inl rfl) rfl rfl ?_ | fail) | fail)
  all_goals rfl
theorem half_w {i j : Int} (h0 : 0 ≤ i) (h : decide (i < j) = true) (hn : j ≤ 4096) : IntKind.i64.wrap ((i + j).fdiv (2 ^ (min (1 : Int).toNat IntKind.u64.bits))) = (i + j) / 2 := by
  have hij : i < j := by simpa using h
  have e : (2 : Int) ^ (min (1 : Int).toNat IntKind.u64.bits) = 2 := rfl
  rw [e, Int.fdiv_eq_ediv_of_nonneg _ (by omega)]
  exact wrap64 (by omega) (by omega)
set_option maxHeartbeats 4000000 in
theorem c146 (l : List Cell) (x : List Int) (hs : l.Pairwise ltC) (hl : l.length ≤ 4096) : CallA Tryz.prog 146 [.one (.d (encCells l)), .one (.d (encInts x)), .one (.d (.fn 147 []))] [] (.tup [(false, [.d (.int .i64 (placeF x l : Int))]), (false, [.d (.bool (foundF l x))])]) [] := by
  refine enter tabOk Tryz.func146 rfl (by decide +kernel) rfl fun hok w0 σ0 φ0 M => ?_
  clear hok
  repeat' (first | (show OkOps _ _ _ _ _ _; first | (show OkOps _ _ _ (Oper.mk _ (Op.convert _ _ _) _ _ _ (_) :: _) _ _; first | refine s_e envOk rfl rfl rfl (step3_conv rfl rfl rfl rfl (half_w h0 (by assumption) (by omega))) ?_ | fail) | refine okops_nil ?_ | refine s_plain tabOk rfl rfl rfl rfl rfl ?_ | (show OkOps _ _ _ (Oper.mk _ (_) _ _ _ (some _) :: _) _ _; first | refine s_guard rfl rfl (by first | assumption | rfl) ?_ | refine s_out rfl rfl (by first | assumption | rfl) rfl rfl ?_ | refine s_split rfl rfl rfl rfl (fun h => ?_) (fun h => ?_) | fail) | (show OkOps _ _ _ (Oper.mk _ (Op.binOp .add _ _ _ _) _ _ _ (_) :: _) _ _; first | refine s_e envOk rfl rfl rfl (step3_add rfl rfl rfl rfl (wrap64 (by omega) (by omega))) ?_ | fail) | (show OkOps _ _ _ (Oper.mk _ (Op.convert _ _ _) _ _ _ (_) :: _) _ _; first | refine s_e envOk rfl rfl rfl (step3_conv rfl rfl rfl rfl (wrapu64 (by omega) (by omega))) ?_ | fail) | (show OkOps _ _ _ (Oper.mk _ (Op.pick _ _ _) _ _ _ (_) :: _) _ _; first | refine s_e envOk rfl rfl rfl (step3_pickT rfl rfl (by first | rfl | assumption) rfl) ?_ | refine s_e envOk rfl rfl rfl (step3_pickF rfl rfl (by first | rfl | assumption) rfl) ?_ | fail) | (show OkOps _ _ _ (Oper.mk _ (Op.indexAddr _ _ _) _ _ _ (_) :: _) _ _; first | refine s_e envOk rfl rfl rfl (step3_idx rfl rfl rfl rfl rfl (by first | omega | ((try simp only [decide_eq_true_eq, decide_eq_false_iff_not, Bool.not_eq_true', Bool.not_true, Bool.not_false, List.length_map, List.length_set, bne_iff_ne, ne_eq, beq_iff_eq, bne_eq_false_iff_eq, beq_eq_false_iff_ne] at *); omega)) (at_map (by first | omega | ((try simp only [decide_eq_true_eq, decide_eq_false_iff_not, Bool.not_eq_true', Bool.not_true, Bool.not_false, List.length_map, List.length_set, bne_iff_ne, ne_eq, beq_iff_eq, bne_eq_false_iff_eq, beq_eq_false_iff_ne] at *); omega)))) ?_ | fail) | (show OkOps _ _ _ (Oper.mk _ (Op.call _) _ _ _ (_) :: _) _ _; first | refine s_callF rfl rfl rfl rfl rfl rfl rfl rfl (c147 _ _) rfl ?_ | fail) | refine s_e envOk rfl rfl rfl rfl ?_ | fail) | (show OkC _ _ _ _ _; first | refine ok_seq ?_ | refine ok_region ?_ | refine ok_block ?_ | refine ok_skip ?_ | refine ok_ret ?_ | refine ok_exit ?_ | refine ok_cond rfl (fun h => ?_) (fun h => ?_) | refine s_loop 3 rfl [(0, _), (1, _), (2, _), (8, _)] (subL_cons rfl (subL_cons rfl (subL_cons rfl (subL_cons rfl subL_nil)))) (fun (p : Int × Int) => [(9, .one (.d (.int .i64 p.1))), (10, .one (.d (.int .i64 p.2)))]) (fun (p : Int × Int) => 0 ≤ p.1 ∧ p.1 ≤ (placeF x l : Int) ∧ (placeF x l : Int) ≤ p.2 ∧ p.2 ≤ (l.length : Int)) (fun (p : Int × Int) => (p.2 - p.1).toNat) (0, ((l.map encCell).length : Int)) (subL_cons rfl (subL_cons rfl subL_nil)) ?_ (fun p ⟨h0, hi, hj, hn⟩ => ?_) | fail) | (show thenQ _ _ _ _; first | refine then_n ?_ | refine then_x ?_ | fail) | (show blockQ _ _ _ _; first | refine block_n ?_ | refine block_x rfl ?_ | fail) | (show RetQ _ _ _ _ _ _; first | refine ret_leaf (.inl rfl) rfl rfl ?_ | fail) | (show Exists _; first | refine Exists.intro (((p.1 + p.2) / 2 + 1, p.2)) ⟨?_, ?_, (by first | exact subL_nil | exact (subL_cons rfl subL_nil) | exact (subL_cons rfl (subL_cons rfl subL_nil)) | exact (subL_cons rfl (subL_cons rfl (subL_cons rfl subL_nil))) | exact (subL_cons rfl (subL_cons rfl (subL_cons rfl (subL_cons rfl subL_nil)))) | exact (subL_cons rfl (subL_cons rfl (subL_cons rfl (subL_cons rfl (subL_cons rfl subL_nil))))) | exact (subL_cons rfl (subL_cons rfl (subL_cons rfl (subL_cons rfl (subL_cons rfl (subL_cons rfl subL_nil)))))) | exact (subL_cons rfl (subL_cons rfl (subL_cons rfl (subL_cons rfl (subL_cons rfl (subL_cons rfl (subL_cons rfl subL_nil))))))) | exact (subL_cons rfl (subL_cons rfl (subL_cons rfl (subL_cons rfl (subL_cons rfl (subL_cons rfl (subL_cons rfl (subL_cons rfl subL_nil))))))))), (subL_cons rfl (subL_cons rfl subL_nil)), (subL_cons rfl (subL_cons rfl (subL_cons rfl (subL_cons rfl subL_nil))))⟩ | refine Exists.intro ((p.1, (p.1 + p.2) / 2)) ⟨?_, ?_, (by first | exact subL_nil | exact (subL_cons rfl subL_nil) | exact (subL_cons rfl (subL_cons rfl subL_nil)) | exact (subL_cons rfl (subL_cons rfl (subL_cons rfl subL_nil))) | exact (subL_cons rfl (subL_cons rfl (subL_cons rfl (subL_cons rfl subL_nil)))) | exact (subL_cons rfl (subL_cons rfl (subL_cons rfl (subL_cons rfl (subL_cons rfl subL_nil))))) | exact (subL_cons rfl (subL_cons rfl (subL_cons rfl (subL_cons rfl (subL_cons rfl (subL_cons rfl subL_nil)))))) | exact (subL_cons rfl (subL_cons rfl (subL_cons rfl (subL_cons rfl (subL_cons rfl (subL_cons rfl (subL_cons rfl subL_nil))))))) | exact (subL_cons rfl (subL_cons rfl (subL_cons rfl (subL_cons rfl (subL_cons rfl (subL_cons rfl (subL_cons rfl (subL_cons rfl subL_nil))))))))), (subL_cons rfl (subL_cons rfl subL_nil)), (subL_cons rfl (subL_cons rfl (subL_cons rfl (subL_cons rfl subL_nil))))⟩ | fail) | fail)
  · have hp := place_le (x := x) (l := l)
    refine ⟨Int.le_refl _, ?_, ?_, ?_⟩
    · show (0 : Int) ≤ (placeF x l : Int); omega
    · show (placeF x l : Int) ≤ ((l.map encCell).length : Int); rw [List.length_map]; omega
    · show ((l.map encCell).length : Int) ≤ _; rw [List.length_map]; exact Int.le_refl _
  · have hij : p.1 < p.2 := by simpa using ‹decide (p.1 < p.2) = true›
    have hc : cmpF (at_ l ((p.1 + p.2) / 2).toNat).at' x < 0 := by simpa using h
    have : ((p.1 + p.2) / 2).toNat < placeF x l := by
      rcases Nat.lt_or_ge ((p.1 + p.2) / 2).toNat (placeF x l) with h1 | h1
      · exact h1
      · exact absurd hc (place_ge hs h1 (by omega))
    refine ⟨?_, ?_, hj, hn⟩
    · show 0 ≤ (p.1 + p.2) / 2 + 1; omega
    · show (p.1 + p.2) / 2 + 1 ≤ (placeF x l : Int); omega
  · have hij : p.1 < p.2 := by simpa using ‹decide (p.1 < p.2) = true›
    show (p.2 - ((p.1 + p.2) / 2 + 1)).toNat < (p.2 - p.1).toNat
    omega
  · have hij : p.1 < p.2 := by simpa using ‹decide (p.1 < p.2) = true›
    have hc : ¬ cmpF (at_ l ((p.1 + p.2) / 2).toNat).at' x < 0 := by simpa using h
    have : placeF x l ≤ ((p.1 + p.2) / 2).toNat := by
      rcases Nat.lt_or_ge ((p.1 + p.2) / 2).toNat (placeF x l) with h1 | h1
      · exact absurd (place_lt h1) hc
      · exact h1
    refine ⟨h0, hi, ?_, ?_⟩
    · show (placeF x l : Int) ≤ (p.1 + p.2) / 2; omega
    · show (p.1 + p.2) / 2 ≤ (l.length : Int); omega
  · have hij : p.1 < p.2 := by simpa using ‹decide (p.1 < p.2) = true›
    show ((p.1 + p.2) / 2 - p.1).toNat < (p.2 - p.1).toNat
    omega
  · have hij : ¬ p.1 < p.2 := by simpa using ‹decide (p.1 < p.2) = false›
    have e : p.1 = (placeF x l : Int) := by omega
    have e2 : p.1.toNat = placeF x l := by omega
    have hlt : placeF x l < l.length := by
      have : p.1 < (l.length : Int) := by simpa using h
      omega
    have ef : foundF l x = (cmpF (at_ l (placeF x l)).at' x == 0) := by unfold foundF; simp [hlt]
    rw [ef, e2, e]
  · have hij : ¬ p.1 < p.2 := by simpa using ‹decide (p.1 < p.2) = false›
    have e : p.1 = (placeF x l : Int) := by omega
    have hge : ¬ placeF x l < l.length := by
      have : (l.length : Int) ≤ p.1 := by simpa using h
      omega
    have ef : foundF l x = false := by unfold foundF; simp [hge]
    rw [ef, e]
theorem found_lt {l : List Cell} {x : List Int} (h : foundF l x = true) : placeF x l < l.length := by
  unfold foundF at h
  simp only [Bool.and_eq_true, decide_eq_true_eq] at h
  exact h.1
theorem c146k (l : List Cell) (x : List Int) (hs : l.Pairwise ltC) (hl : l.length ≤ 4096) (b : Bool) (h : foundF l x = b) : CallA Tryz.prog 146 [.one (.d (encCells l)), .one (.d (encInts x)), .one (.d (.fn 147 []))] [] (.tup [(false, [.d (.int .i64 (placeF x l : Int))]), (false, [.d (.bool b)])]) [] := by
  subst h; exact c146 l x hs hl
theorem c45y (a : Arr) (x : List Int) (hA : OkA a.dims a.attrs a.cells) (hf : foundF a.cells x = true) : CallA Tryz.prog 45 [aggA a, .one (.d (encInts x))] [] (.tup [(false, [.d (encVals (at_ a.cells (placeF x a.cells)).vals)]), (false, [.d (.bool true)])]) [] := by
  unfold aggA
  refine enter tabOk Tryz.func45 rfl (by decide +kernel) rfl fun hok w0 σ0 φ0 M => ?_
  clear hok
  have hb : (checkF a.dims a.attrs a.cells != 0) = false := by rw [okA_check hA]; rfl
  repeat' (first | (show OkOps _ _ _ _ _ _; first | (show OkOps _ _ _ (Oper.mk _ (Op.indexAddr _ _ _) _ _ _ (_) :: _) _ _; first | refine s_e envOk rfl rfl rfl (step3_idx rfl rfl rfl rfl rfl (Int.natCast_nonneg _) (at_map (found_lt hf))) ?_ | fail) | refine okops_nil ?_ | refine s_plain tabOk rfl rfl rfl rfl rfl ?_ | (show OkOps _ _ _ (Oper.mk _ (Op.call _) _ _ _ (_) :: _) _ _; first | refine s_callF rfl rfl rfl rfl rfl rfl rfl rfl (c59 _ _ _) rfl ?_ | refine s_callF rfl rfl rfl rfl rfl rfl rfl rfl (c146k a.cells x hA.srt hA.few _ hf) rfl ?_ | refine s_callD 16 rfl rfl rfl rfl rfl rfl rfl rfl (c144 _) rfl rfl rfl ?_ | fail) | (show OkOps _ _ _ (Oper.mk _ (Op.box _ _) _ _ _ (_) :: _) _ _; first | refine s_box 0 rfl rfl rfl rfl rfl rfl ?_ | fail) | fail) | (show OkC _ _ _ _ _; first | refine ok_seq ?_ | refine ok_region ?_ | refine ok_skip ?_ | refine ok_ret ?_ | refine ok_condF rfl ?_ | refine ok_condKF rfl (by assumption) ?_ | fail) | (show thenQ _ _ _ _; first | refine then_n ?_ | fail) | (show RetQ _ _ _ _ _ _; first | refine ret_leaf (.inl rfl) rfl rfl ?_ | fail) | fail)
  all_goals rfl
theorem c45n (a : Arr) (x : List Int) (hA : OkA a.dims a.attrs a.cells) (hf : foundF a.cells x = false) : CallA Tryz.prog 45 [aggA a, .one (.d (encInts x))] [] (.tup [(false, [.d .nil]), (false, [.d (.bool false)])]) [] := by
  unfold aggA
  refine enter tabOk Tryz.func45 rfl (by decide +kernel) rfl fun hok w0 σ0 φ0 M => ?_
  clear hok
  have hb : (checkF a.dims a.attrs a.cells != 0) = false := by rw [okA_check hA]; rfl
  repeat' (first | (show OkOps _ _ _ _ _ _; first | refine okops_nil ?_ | refine s_plain tabOk rfl rfl rfl rfl rfl ?_ | (show OkOps _ _ _ (Oper.mk _ (Op.call _) _ _ _ (_) :: _) _ _; first | refine s_callF rfl rfl rfl rfl rfl rfl rfl rfl (c59 _ _ _) rfl ?_ | refine s_callF rfl rfl rfl rfl rfl rfl rfl rfl (c146k a.cells x hA.srt hA.few _ hf) rfl ?_ | fail) | (show OkOps _ _ _ (Oper.mk _ (Op.box _ _) _ _ _ (_) :: _) _ _; first | refine s_box 0 rfl rfl rfl rfl rfl rfl ?_ | fail) | fail) | (show OkC _ _ _ _ _; first | refine ok_seq ?_ | refine ok_region ?_ | refine ok_skip ?_ | refine ok_ret ?_ | refine ok_condT rfl ?_ | refine ok_condKF rfl (by assumption) ?_ | fail) | (show thenQ _ _ _ _; first | refine then_n ?_ | refine then_r ?_ | fail) | (show RetQ _ _ _ _ _ _; first | refine ret_leaf (.inl rfl) rfl rfl ?_ | fail) | fail)
  all_goals rfl
end Go.Proofs.YtpejdgkaapnekaaGreat
namespace Go.Proofs.YtpejdgkaapnekaaGreat
open Go Go.Abs
attribute [local irreducible] OkOps OkC DRun thenQ blockQ RetQ
set_option maxRecDepth 10000
end Go.Proofs.YtpejdgkaapnekaaGreat
namespace Go.Proofs.YtpejdgkaapnekaaGreat
open Go Go.Abs
attribute [local irreducible] OkOps OkC DRun thenQ blockQ RetQ
set_option maxRecDepth 10000
end Go.Proofs.YtpejdgkaapnekaaGreat
namespace Go.Abs
open Go
variable {V : Env} {st : St} {o : Oper}
end Go.Abs
namespace Go.Proofs.YtpejdgkaapnekaaGreat
open Go Go.Abs
attribute [local irreducible] OkOps OkC DRun thenQ blockQ RetQ
set_option maxRecDepth 10000
end Go.Proofs.YtpejdgkaapnekaaGreat
namespace Go.Proofs.YtpejdgkaapnekaaGreat
open Go Go.Abs
attribute [local irreducible] OkOps OkC DRun thenQ blockQ RetQ
set_option maxRecDepth 10000
end Go.Proofs.YtpejdgkaapnekaaGreat
namespace Go.Proofs.YtpejdgkaapnekaaGreat
open Go Go.Abs
attribute [local irreducible] OkOps OkC DRun thenQ blockQ RetQ
set_option maxRecDepth 10000
end Go.Proofs.YtpejdgkaapnekaaGreat
namespace Go.Proofs.YtpejdgkaapnekaaGreat
open Go Go.Abs
attribute [local irreducible] OkOps OkC DRun thenQ blockQ RetQ
set_option maxRecDepth 10000
end Go.Proofs.YtpejdgkaapnekaaGreat
namespace Go.Proofs.YtpejdgkaapnekaaGreat
open Go Go.Abs
attribute [local irreducible] OkOps OkC DRun thenQ blockQ RetQ
set_option maxRecDepth 10000
end Go.Proofs.YtpejdgkaapnekaaGreat
namespace Go.Proofs.YtpejdgkaapnekaaGreat
open Go Go.Abs
attribute [local irreducible] OkOps OkC DRun thenQ blockQ RetQ
set_option maxRecDepth 10000
end Go.Proofs.YtpejdgkaapnekaaGreat
namespace Go.Proofs.YtpejdgkaapnekaaGreat
open Go Go.Abs
attribute [local irreducible] OkOps OkC DRun thenQ blockQ RetQ
set_option maxRecDepth 10000
end Go.Proofs.YtpejdgkaapnekaaGreat
namespace Go.Proofs.YtpejdgkaapnekaaGreat
open Go Go.Abs
attribute [local irreducible] OkOps OkC DRun thenQ blockQ RetQ
set_option maxRecDepth 10000
end Go.Proofs.YtpejdgkaapnekaaGreat
namespace Go.Proofs.YtpejdgkaapnekaaGreat
open Go Go.Abs
attribute [local irreducible] OkOps OkC DRun thenQ blockQ RetQ
set_option maxRecDepth 10000
end Go.Proofs.YtpejdgkaapnekaaGreat
namespace Go.Proofs.YtpejdgkaapnekaaGreat
open Go Go.Abs
attribute [local irreducible] OkOps OkC DRun thenQ blockQ RetQ
set_option maxRecDepth 10000
end Go.Proofs.YtpejdgkaapnekaaGreat
namespace Go.Proofs.YtpejdgkaapnekaaGreat
open Go Go.Abs
attribute [local irreducible] OkOps OkC DRun thenQ blockQ RetQ
set_option maxRecDepth 10000
end Go.Proofs.YtpejdgkaapnekaaGreat
namespace Go.Proofs.YtpejdgkaapnekaaGreat
open Go Go.Abs
attribute [local irreducible] OkOps OkC DRun thenQ blockQ RetQ
set_option maxRecDepth 10000
end Go.Proofs.YtpejdgkaapnekaaGreat
namespace Go.Proofs.YtpejdgkaapnekaaGreat
open Go Go.Abs
attribute [local irreducible] OkOps OkC DRun thenQ blockQ RetQ
set_option maxRecDepth 10000
end Go.Proofs.YtpejdgkaapnekaaGreat
namespace Go.Proofs.YtpejdgkaapnekaaGreat
open Go Go.Abs
attribute [local irreducible] OkOps OkC DRun thenQ blockQ RetQ
set_option maxRecDepth 10000
end Go.Proofs.YtpejdgkaapnekaaGreat
namespace Go.Proofs.YtpejdgkaapnekaaGreat
open Go Go.Abs
attribute [local irreducible] OkOps OkC DRun thenQ blockQ RetQ
set_option maxRecDepth 10000
section
variable {src kept : List (Int × Bool)} {ds : List Dim} {rule : Int} {l l' r : List Cell} {c : Cell}
end
end Go.Proofs.YtpejdgkaapnekaaGreat
