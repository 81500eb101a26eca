import Derived.Shelf.SlSortCmp.WholeK
import Derived.Shelf.SlSortCmp.NoneTotal
import Derived.Test.YtpejdgkaapnekaaGreatP6
import Derived.Test.YtpejdgkaapnekaaGreatTab
set_option linter.unusedVariables false
set_option linter.unusedSimpArgs false
namespace Go.Abs
open Go Go.Shelf Go.RowKit Go.Lib Go.Sort Go.Proofs
variable {P : Program} {σ : Sig} {φ : Pl} {w : World}
theorem all2_d {σ : Sig} {φ : Pl} {sto : Sto} : ∀ {ds : List D} {vs : List Value}, All2 (Rep σ) ds vs → All2 (RepC σ φ sto) (ds.map AC.d) vs
  | [], [], _ => trivial
  | _ :: _, _ :: _, h => ⟨.d h.1, all2_d h.2⟩
  | [], _ :: _, h => h.elim
  | _ :: _, [], h => h.elim
theorem all2_oneCell : ∀ {ds : List D} {vs : List Value}, All2 (Rep σ) ds vs → ∀ v ∈ vs, v.oneCell = true
  | [], [], _, v, hv => by simp at hv
  | _ :: _, _ :: _, h, v, hv => by
    rcases List.mem_cons.1 hv with rfl | hv
    · exact h.1.oneCell
    · exact all2_oneCell h.2 v hv
  | [], _ :: _, h, _, _ => h.elim
  | _ :: _, [], h, _, _ => h.elim
theorem kept_grow {M : Nat → Prop} {w w' : World} (h : Kept M w w') (hM : ∀ b, ¬ M b) : ∃ q os, w' = grow (w.drewN q) os := by
  refine ⟨w'.drawn - w.drawn, w'.heap.extract w.heap.size w'.heap.size, ?_⟩
  have hh : w'.heap = w.heap ++ w'.heap.extract w.heap.size w'.heap.size := by
    refine Array.ext_getElem? fun i => ?_
    by_cases hi : i < w.heap.size
    · rw [Array.getElem?_append_left hi]; exact h.block i hi (hM i)
    · rw [Array.getElem?_append_right (by omega), Array.getElem?_extract]
      have := h.size
      by_cases hi2 : i < w'.heap.size
      · rw [if_pos (by omega)]; congr 1; omega
      · rw [if_neg (by omega)]; exact Array.getElem?_eq_none (by omega)
  have h1 := h.os; have h2 := h.tape; have h3 := h.output; have h4 := h.drawn
  cases w; cases w'
  simp only [grow, World.drewN] at *
  subst h1 h2 h3
  congr 1
  omega
theorem heap_putRow_other {enc : Value → Value} {w : World} {B off b : Nat} {d : Array Value} (h : b ≠ B) : (putRow enc w B off d).heap[b]? = w.heap[b]? := by
  simp only [putRow, mapBlock, Array.getElem?_modify, if_neg (Ne.symm h)]
theorem heap_sort_other {α : Type} [Inhabited α] {enc : α → List Value} {k : Nat} {w : World} {B off m b : Nat} {d : Array α} {os : Array Obj} (hb : b < w.heap.size) (h : b ≠ B) :
    (sortWorldK enc k w B off m d os).heap[b]? = w.heap[b]? := by
  unfold sortWorldK grow putRowK
  show ((putRow id (Sort.ahead w m) B off (flatK enc k d)).heap ++ os)[b]? = _
  rw [Array.getElem?_append_left (by rw [Go.Sort.size_putRow]; exact hb), heap_putRow_other h]
  rfl
theorem heap_sort_row {α : Type} [Inhabited α] {enc : α → List Value} {k : Nat} {w : World} {B off m : Nat} {d : Array α} {os : Array Obj} {arr : Array Value} {t : TypeId} {fr : Nat × Nat} (h : w.heap[B]? = some (.cells arr t fr)) :
    (sortWorldK enc k w B off m d os).heap[B]? = some (.cells (putCells id off (flatK enc k d) arr) t fr) := by
  unfold sortWorldK grow putRowK
  show ((putRow id (Sort.ahead w m) B off (flatK enc k d)).heap ++ os)[B]? = _
  have hB := (Array.getElem?_eq_some_iff.1 h).1
  rw [Array.getElem?_append_left (by rw [Go.Sort.size_putRow]; exact hB)]
  simp only [putRow, mapBlock, Array.getElem?_modify, if_true]
  show (w.heap[B]?).map _ = _
  rw [h]; rfl
theorem size_sort {α : Type} [Inhabited α] {enc : α → List Value} {k : Nat} {w : World} {B off m : Nat} {d : Array α} {os : Array Obj} :
    w.heap.size ≤ (sortWorldK enc k w B off m d os).heap.size := by
  unfold sortWorldK grow putRowK
  show w.heap.size ≤ ((putRow id (Sort.ahead w m) B off (flatK enc k d)).heap ++ os).size
  rw [Array.size_append, Go.Sort.size_putRow]
  exact Nat.le_add_right _ _
section
variable {C : Type}
abbrev El (σ : Sig) (k : Nat) (encC : C → List D) := { p : C × List Value // p.2.length = k ∧ All2 (Rep σ) (encC p.1) p.2 }
set_option maxHeartbeats 1000000 in
theorem callA_sort {ρ : Ren} (L : SlLaysF0.n6 P ρ) (k b : Nat) (hk0 : 0 < k) (aE : ∀ w, (isAgg (ρ.t 24)).run P w = .ok true w) (zE : ∀ w, (Go.sizeOf (ρ.t 24)).run P w = .ok k w)
    (encC : C → List D) (hk : ∀ x, (encC x).length = k) (cf : C → C → Int) (h1 : ∀ x, ¬ cf x x < 0) (h2 : ∀ x y z, cf x y < 0 → cf y z < 0 → cf x z < 0) (h3 : ∀ x y z, ¬ cf x y < 0 → ¬ cf y z < 0 → ¬ cf x z < 0)
    (g : Nat) (hg : ∀ x y, CallA P g [.agg ((encC x).map .d), .agg ((encC y).map .d)] [] (.one (.d (.int .i64 (cf x y)))) [])
    (eg : ∀ args w, (callFunc g args).run P w = .ok (.enter g args) w)
    (hfn : ∃ fn, P.funcs[ρ.f 6]? = some fn ∧ (fn.name == "runtime.NumGoroutine") = false ∧ fn.body.isSome = true)
    (id : Nat) (cs ss : List C) (hu : ∀ l : List C, l.Perm cs → l.Pairwise (fun x y => ¬ cf y x < 0) → l = ss) :
    CallA P (ρ.f 6) [.one (.own id cs.length), .one (.d (.fn g []))] [(id, .row k b (cs.map encC))] (.tup []) [(id, .row k b (ss.map encC))] := by
  refine ⟨hfn, fun w σ φ vs hI hA => ?_⟩
  match vs, hA with
  | [v0, v1], hA =>
  obtain ⟨hv0, hv1, _⟩ := hA
  have ev1 : v1 = .func (.func g) #[] #[] := by
    have hv1 : RepC σ φ _ (.d (.fn g [])) v1 := hv1
    cases hv1.d_inv with
    | fn ws hl _ =>
      have : ws = [] := List.eq_nil_of_length_eq_zero (by simpa using hl)
      subst this; rfl
  subst ev1
  have hlook : look [(id, AObj.row k b (cs.map encC))] id = some (.row k b (cs.map encC)) := by simp [look]
  have hobj := hI.obj id _ hlook
  by_cases hn : cs = []
  · subst hn
    have hss : ss = [] := (hu [] (List.Perm.refl _) .nil).symm
    subst hss
    have ev0 : ∃ p c, v0 = .slice p 0 c := by
      have hv0 : RepC σ φ _ (.own id 0) v0 := hv0
      cases hv0 with
      | ownNil => exact ⟨_, _, rfl⟩
      | own => exact ⟨_, _, rfl⟩
      | dead hx => simp [acIn, hasK, look] at hx
    obtain ⟨p, c, rfl⟩ := ev0
    refine (AnyF.slices_SortFunc_none L p c _ w).mono ?_
    rintro e w' ⟨rfl, rfl⟩
    exact ⟨_, σ, φ, rfl, Sig.le_refl _, fun b hb => .inl hb, hI, ⟨[], rfl, trivial⟩, fun i e p h1 h2 => .inr ⟨i, e, p, h1, h2, rfl⟩, fun _ _ => rfl, ⟨rfl, rfl, rfl, Nat.le_refl _, Nat.le_refl _, fun _ _ _ => rfl⟩⟩
  · have hn0 : 0 < cs.length := List.length_pos_iff.2 hn
    have hv0 : RepC σ φ _ (.own id cs.length) v0 := hv0
    obtain ⟨B, cap0, rfl, hφ⟩ : ∃ B cap, v0 = .slice (some ⟨B, 0, none⟩) cs.length cap ∧ φ id = some (B, cap) := by
      revert hv0; generalize cs.length = m at hn0 ⊢; intro hv0
      cases hv0 with
      | ownNil => omega
      | own _ _ hp => exact ⟨_, _, rfl, hp⟩
      | dead hx => simp [acIn, hasK, look] at hx
    rcases hobj with ⟨he, _⟩ | ⟨B', cap, arr, t, vf, hφ', hheap, hsz, hle, h48, hb47, hlen, hcell, hrep, hσ⟩
    · simp at he; exact absurd he hn
    rw [hφ] at hφ'; cases hφ'
    simp only [List.length_map] at hle h48 hb47 hcell
    have hB : B < w.heap.size := (Array.getElem?_eq_some_iff.1 hheap).1
    have hel : ∀ i (hi : i < cs.length), ((List.range k).map (vf i)).length = k ∧ All2 (Rep σ) (encC cs[i]) ((List.range k).map (vf i)) := by
      intro i hi
      refine ⟨by simp, All2.of_get (by simp [hk]) fun j x v hx hv => ?_⟩
      have hj : j < k := by have := (List.getElem?_eq_some_iff.1 hx).1; rwa [hk] at this
      have hv' : v = vf i j := by
        rw [List.getElem?_map, List.getElem?_range hj] at hv; simpa using hv.symm
      subst hv'
      exact hrep i j _ _ (by rw [List.getElem?_map, List.getElem?_eq_getElem hi]; rfl) hx
    let mk : (i : Nat) → i < cs.length → El σ k encC := fun i hi => ⟨(cs[i], (List.range k).map (vf i)), hel i hi⟩
    haveI : Inhabited (El σ k encC) := ⟨mk 0 hn0⟩
    let d : Array (El σ k encC) := Array.ofFn (n := cs.length) fun i => mk i.1 i.2
    have hds : d.size = cs.length := by simp [d]
    have hdg : ∀ i (hi : i < cs.length), d[i]! = mk i hi := by
      intro i hi; rw [getElem!_pos d i (by omega)]; simp [d]
    have hdl : d.toList.map (fun x => x.1.1) = cs := by
      refine List.ext_getElem (by simp [hds]) fun i h4 h5 => ?_
      simp [d, mk]
    let enc : El σ k encC → List Value := fun x => x.1.2
    let cf' : El σ k encC → El σ k encC → Int := fun x y => cf x.1.1 y.1.1
    have hO : SWO (ltOf cf') :=
      ⟨fun x => by simpa [ltOf, cf'] using h1 x.1.1, fun x y z => by simpa [ltOf, cf'] using h2 x.1.1 y.1.1 z.1.1, fun x y z => by simpa [ltOf, cf'] using h3 x.1.1 y.1.1 z.1.1⟩
    have hHK : HoldsK enc k w B 0 d := by
      intro j hj
      rw [size_flatK, hds] at hj
      have hj1 : j / k < cs.length := Nat.div_lt_of_lt_mul (by rwa [Nat.mul_comm] at hj)
      have hj2 : j % k < k := Nat.mod_lt _ hk0
      have hc := hcell (j / k) (j % k) hj1 hj2
      rw [Nat.div_add_mod' j k] at hc
      rw [get_flatK enc k d j (by rw [hds]; exact hj), hdg _ hj1]
      have e : (enc (mk (j / k) hj1))[j % k]! = vf (j / k) (j % k) := by
        rw [getElem!_pos _ _ (by simp [enc, mk]; exact hj2)]; simp [enc, mk]
      rw [e]
      refine ⟨?_, ?_⟩
      · simp only [World.cell?, hheap, Nat.zero_add]
        simpa using hc
      · simp [World.frozen?, hheap]
    have hsig : ∀ (m : Nat) (os : Array Obj) (dk : Array (El σ k encC)), HInv σ φ [] (sortWorldK enc k w B 0 m dk os) := by
      intro m os dk
      refine ⟨fun b cs' hb => ?_, fun i e h => by simp [look] at h, fun i i' e e' p p' h => by simp [look] at h⟩
      obtain ⟨t', f', hh⟩ := hI.sig b cs' hb
      refine ⟨t', f', ?_⟩
      rw [heap_sort_other (Array.getElem?_eq_some_iff.1 hh).1 (by rintro rfl; rw [hσ] at hb; cases hb)]
      exact hh
    have hcmp : CmpLays P g #[] enc k cf' B 0 d.size w := by
      intro m os dk _ x y
      have hr := (hg x.1.1 y.1.1).run (sortWorldK enc k w B 0 m dk os) σ φ [.agg (enc x).toArray, .agg (enc y).toArray] (hsig m os dk) ⟨⟨_, rfl, all2_d x.2.2⟩, ⟨_, rfl, all2_d y.2.2⟩, trivial⟩
      refine Calls.mono hr ?_
      rintro e w' ⟨v, σ', φ', rfl, hret⟩
      obtain ⟨q, os', hq⟩ := kept_grow hret.kept (fun b hb => by obtain ⟨i, e, p, h, _⟩ := hb; simp [look] at h)
      have hv : v = .int .i64 (cf x.1.1 y.1.1) := by
        have h : RepC σ' φ' [] (.d (.int .i64 (cf x.1.1 y.1.1))) v := hret.rep
        cases h.d_inv; rfl
      exact ⟨by rw [hv], q, os', hq⟩
    have hS := AnyQ.slices_SortFunc L k aE zE enc (fun x => x.2.1) (fun x v hv => oneCell_of (all2_oneCell x.2.2 v hv)) cf' hO g #[] B 0 cap0 d w eg hcmp hHK hB (by omega)
    rw [hds] at hS
    refine Calls.mono hS ?_
    rintro e w' ⟨rfl, d', n', os, hperm, hsorted, rfl⟩
    have hd's : d'.size = cs.length := hperm.1.trans hds
    have hpl : d'.toList.Perm d.toList := by
      have h := hperm.2.2
      have e1 : d'.extract 0 cs.length = d' := by rw [← hd's]; simp
      have e2 : d.extract 0 cs.length = d := by rw [← hds]; simp
      rwa [e1, e2] at h
    have hl : d'.toList.map (fun x => x.1.1) = ss := by
      refine hu _ (hdl ▸ hpl.map _) ?_
      rw [List.pairwise_map, List.pairwise_iff_getElem]
      intro i j hi hj hij
      have h := hsorted i j (Nat.zero_le _) hij (by simpa [hd's] using hj)
      simp only [Array.length_toList] at hi hj
      rw [getElem!_pos d' i hi, getElem!_pos d' j hj] at h
      simpa [ltOf, cf'] using h
    have hssl : ss.length = cs.length := by rw [← hl]; simp [hd's]
    have hget : ∀ i (hi : i < cs.length) (x : C), ss[i]? = some x → d'[i]!.1.1 = x := by
      intro i hi x hx
      rw [← hl, List.getElem?_map, Array.getElem?_toList, Array.getElem?_eq_getElem (by omega)] at hx
      rw [getElem!_pos d' i (by omega)]
      simpa using hx
    have hmine : MOf φ [(id, AObj.row k b (cs.map encC))] B := ⟨id, _, _, hlook, hφ, rfl⟩
    refine ⟨_, σ, φ, rfl, Sig.le_refl _, fun b hb => .inl hb, ⟨fun b cs' hb => ?_, fun i e hi => ?_, fun i i' e e' p p' hi hi' hne => ?_⟩, ⟨[], rfl, trivial⟩, fun i e p hi hp => .inr ?_, fun _ _ => rfl, ⟨rfl, rfl, rfl, size_sort, Nat.le_add_right _ _, fun b hb hM => heap_sort_other hb (by rintro rfl; exact hM hmine)⟩⟩
    · obtain ⟨t', f', hh⟩ := hI.sig b cs' hb
      refine ⟨t', f', ?_⟩
      rw [heap_sort_other (Array.getElem?_eq_some_iff.1 hh).1 (by rintro rfl; rw [hσ] at hb; cases hb)]
      exact hh
    · rcases look_cons hi with ⟨rfl, rfl⟩ | ⟨_, hi⟩
      · refine .inr ⟨B, cap0, putCells _root_.id 0 (flatK enc k d') arr, t, fun i j => (enc d'[i]!)[j]!, hφ, heap_sort_row hheap, by simp [putCells, hsz], by simpa [hssl] using hle, by simpa [hssl] using h48, by simpa [hssl] using hb47, fun x hx => ?_, fun i j hi hj => ?_, fun i j x dd hx hdd => ?_, hσ⟩
        · obtain ⟨c, _, rfl⟩ := List.mem_map.1 hx; exact hk c
        · simp only [List.length_map, hssl] at hi
          have hlt : i * k + j < cs.length * k := by
            have := Nat.mul_le_mul_right k (show i + 1 ≤ cs.length from hi); rw [Nat.add_mul, Nat.one_mul] at this; omega
          have hc := hcell i j hi hj
          simp only [putCells, Array.getElem?_mapIdx, hc, Option.map_some, size_flatK, hd's, Nat.zero_le, true_and, Nat.zero_add, hlt, if_true, Nat.sub_zero]
          rw [get_flatK enc k d' _ (by rw [hd's]; exact hlt)]
          have e1 : (i * k + j) / k = i := (blk_iff k i _ hk0).1 ⟨by omega, by omega⟩
          have e2 : (i * k + j) % k = j := by rw [Nat.mod_eq_sub_div_mul, e1]; omega
          rw [e1, e2]; rfl
        · rw [List.getElem?_map] at hx
          cases hs : ss[i]? with
          | none => rw [hs] at hx; simp at hx
          | some c =>
            rw [hs] at hx; simp at hx; subst hx
            have hi : i < cs.length := by rw [← hssl]; exact (List.getElem?_eq_some_iff.1 hs).1
            have e1 := hget i hi c hs
            have ha := (d'[i]!).2.2
            rw [e1] at ha
            obtain ⟨v, hv, hr⟩ := ha.get hdd
            have : (enc d'[i]!)[j]! = v := by
              have hv2 := (List.getElem?_eq_some_iff.1 hv)
              exact (getElem!_pos (enc d'[i]!) j hv2.1).trans hv2.2
            show Rep σ dd ((enc d'[i]!)[j]!)
            rw [this]; exact hr
      · simp [look] at hi
    · rcases look_cons hi with ⟨rfl, _⟩ | ⟨_, hi⟩
      · rcases look_cons hi' with ⟨rfl, _⟩ | ⟨_, hi'⟩
        · exact absurd rfl hne
        · simp [look] at hi'
      · simp [look] at hi
    · rcases look_cons hi with ⟨rfl, _⟩ | ⟨_, hi⟩
      · rw [hφ] at hp; cases hp; exact hmine
      · simp [look] at hi
end
end Go.Abs
namespace Go.Proofs.YtpejdgkaapnekaaGreat
open Go Go.Proofs Go.Shelf
def sortC_ren : Go.Shelf.Ren := ⟨fun | 6 => 181 | 15 => 219 | 14 => 231 | 28 => 261 | 29 => 262 | 20 => 271 | 21 => 272 | 22 => 273 | 23 => 274 | 24 => 275 | 25 => 276 | 26 => 277 | 27 => 278 | 46 => 338 | 47 => 295 | 48 => 296 | 49 => 339 | 50 => 340 | 57 => 368 | n => n, fun | 22 => 24 | 24 => 56 | 25 => 172 | 3 => 3 | 39 => 192 | 0 => 0 | 53 => 251 | 55 => 253 | 4 => 4 | 46 => 244 | 45 => 243 | 50 => 119 | 5 => 5 | 9 => 9 | 66 => 278 | 70 => 282 | 76 => 302 | 77 => 303 | n => n, fun | n => n⟩
theorem sortC : Go.Proofs.SlLaysF0.n6 Tryz.prog sortC_ren := {
  mixed := by kernel_rfl
  f6 := ⟨Tryz.f181.name, by decide, Tryz.func181.trans (congrArg some (by kernel_rfl))⟩
  f14 := ⟨Tryz.f231.name, by decide, Tryz.func231.trans (congrArg some (by kernel_rfl))⟩
  f15 := Tryz.func219.trans (congrArg some (by kernel_rfl))
  f20 := ⟨Tryz.f271.name, by decide, Tryz.func271.trans (congrArg some (by kernel_rfl))⟩
  f21 := ⟨Tryz.f272.name, by decide, Tryz.func272.trans (congrArg some (by kernel_rfl))⟩
  f22 := ⟨Tryz.f273.name, by decide, Tryz.func273.trans (congrArg some (by kernel_rfl))⟩
  f23 := ⟨Tryz.f274.name, by decide, Tryz.func274.trans (congrArg some (by kernel_rfl))⟩
  f24 := ⟨Tryz.f275.name, by decide, Tryz.func275.trans (congrArg some (by kernel_rfl))⟩
  f25 := ⟨Tryz.f276.name, by decide, Tryz.func276.trans (congrArg some (by kernel_rfl))⟩
  f26 := ⟨Tryz.f277.name, by decide, Tryz.func277.trans (congrArg some (by kernel_rfl))⟩
  f27 := ⟨Tryz.f278.name, by decide, Tryz.func278.trans (congrArg some (by kernel_rfl))⟩
  f28 := Tryz.func261.trans (congrArg some (by kernel_rfl))
  f29 := Tryz.func262.trans (congrArg some (by kernel_rfl))
  f46 := ⟨Tryz.f338.name, by decide, Tryz.func338.trans (congrArg some (by kernel_rfl))⟩
  f47 := Tryz.func295.trans (congrArg some (by kernel_rfl))
  f48 := Tryz.func296.trans (congrArg some (by kernel_rfl))
  f49 := ⟨Tryz.f339.name, by decide, Tryz.func339.trans (congrArg some (by kernel_rfl))⟩
  f50 := ⟨Tryz.f340.name, by decide, Tryz.func340.trans (congrArg some (by kernel_rfl))⟩
  f57 := ⟨Tryz.f368.name, by decide, Tryz.func368.trans (congrArg some (by kernel_rfl))⟩
  t0 := Tryz.underlying0
  a0 := Tryz.isAgg0
  z0 := Tryz.sizeOf0
  v0 := Tryz.zeroValue0
  t3 := Tryz.underlying3
  a3 := Tryz.isAgg3
  z3 := Tryz.sizeOf3
  v3 := Tryz.zeroValue3
  t4 := Tryz.underlying4
  a4 := Tryz.isAgg4
  z4 := Tryz.sizeOf4
  v4 := Tryz.zeroValue4
  t5 := Tryz.underlying5
  a5 := Tryz.isAgg5
  z5 := Tryz.sizeOf5
  v5 := Tryz.zeroValue5
  t9 := Tryz.underlying9
  a9 := Tryz.isAgg9
  z9 := Tryz.sizeOf9
  v9 := Tryz.zeroValue9
  t22 := Tryz.underlying24
  a22 := Tryz.isAgg24
  z22 := Tryz.sizeOf24
  v22 := Tryz.zeroValue24
  t25 := Tryz.underlying172
  a25 := Tryz.isAgg172
  z25 := Tryz.sizeOf172
  v25 := Tryz.zeroValue172
  t39 := Tryz.underlying192
  a39 := Tryz.isAgg192
  z39 := Tryz.sizeOf192
  v39 := Tryz.zeroValue192
  t45 := Tryz.underlying243
  a45 := Tryz.isAgg243
  z45 := Tryz.sizeOf243
  v45 := Tryz.zeroValue243
  t46 := Tryz.underlying244
  a46 := Tryz.isAgg244
  z46 := Tryz.sizeOf244
  v46 := Tryz.zeroValue244
  t50 := Tryz.underlying119
  a50 := Tryz.isAgg119
  z50 := Tryz.sizeOf119
  v50 := Tryz.zeroValue119
  t53 := Tryz.underlying251
  a53 := Tryz.isAgg251
  z53 := Tryz.sizeOf251
  v53 := Tryz.zeroValue251
  t55 := Tryz.underlying253
  a55 := Tryz.isAgg253
  z55 := Tryz.sizeOf253
  v55 := Tryz.zeroValue253
  t66 := Tryz.underlying278
  a66 := Tryz.isAgg278
  z66 := Tryz.sizeOf278
  v66 := Tryz.zeroValue278
  t70 := Tryz.underlying282
  a70 := Tryz.isAgg282
  z70 := Tryz.sizeOf282
  v70 := Tryz.zeroValue282
  t76 := Tryz.underlying302
  a76 := Tryz.isAgg302
  z76 := Tryz.sizeOf302
  v76 := Tryz.zeroValue302
  t77 := Tryz.underlying303
  a77 := Tryz.isAgg303
  z77 := Tryz.sizeOf303
  v77 := Tryz.zeroValue303 }
end Go.Proofs.YtpejdgkaapnekaaGreat
namespace Go.Proofs.YtpejdgkaapnekaaGreat
open Go Go.Abs
attribute [local irreducible] OkOps OkC DRun thenQ blockQ RetQ
set_option maxRecDepth 10000
def cellC (x : Cell) : AV := .agg ((encCell x).map .d)
theorem c182 (x y : Cell) : CallA Tryz.prog 182 [cellC x, cellC y] [] (.one (.d (.int .i64 (cmpF x.at' y.at')))) [] := by
  unfold cellC encCell
  simp only [List.map_cons, List.map_nil]
  refine enter tabOk Tryz.func182 rfl (by decide +kernel) rfl fun hok w0 σ0 φ0 M => ?_
  clear hok
  repeat' (first | (show OkOps _ _ _ _ _ _; first | refine okops_nil ?_ | refine s_plain tabOk rfl rfl rfl rfl rfl ?_ | (show OkOps _ _ _ (Oper.mk _ (Op.call _) _ _ _ (_) :: _) _ _; first | refine s_callF rfl rfl rfl rfl rfl rfl rfl rfl (c35 _ _) rfl ?_ | fail) | (show OkOps _ _ _ (Oper.mk _ (Op.box _ _) _ _ _ (_) :: _) _ _; first | refine s_box 0 rfl rfl rfl rfl rfl rfl ?_ | refine s_box 1 rfl rfl rfl rfl rfl rfl ?_ | fail) | fail) | (show OkC _ _ _ _ _; first | refine ok_seq ?_ | refine ok_region ?_ | refine ok_ret ?_ | fail) | (show thenQ _ _ _ _; first | refine then_n ?_ | fail) | (show RetQ _ _ _ _ _ _; first | refine ret_leaf (.inl rfl) rfl rfl ?_ | fail) | fail)
  all_goals (try (((simp_all [at_drop, List.drop_eq_nil_of_le]) <;> first | omega | (rw [Bool.eq_iff_iff]; simp; omega) | grind); done))
theorem c181 (id : Nat) (cs ss : List Cell) (hu : ∀ l : List Cell, l.Perm cs → l.Pairwise (fun x y => ¬ cmpF y.at' x.at' < 0) → l = ss) :
    CallA Tryz.prog 181 [.one (.own id cs.length), .one (.d (.fn 182 []))] [(id, .row 2 48 (cs.map encCell))] (.tup []) [(id, .row 2 48 (ss.map encCell))] := by
  refine callA_sort sortC 2 48 (by omega) Tryz.isAgg56 Tryz.sizeOf56 encCell (fun _ => rfl) (fun x y => cmpF x.at' y.at') (fun x => by rw [cmpF_refl]; omega) (fun x y z h1 h2 => ?_) (fun x y z h1 h2 => ?_) 182 c182
    (enters_of Tryz.func182 (by kernel_rfl) rfl) ⟨Tryz.f181, Tryz.func181, by kernel_rfl, by kernel_rfl⟩ id cs ss hu
  · have := cmpF_le_trans x.at' y.at' z.at' (by omega) (by omega)
    omega
  · have h3 := cmpF_swap x.at' y.at'
    have h4 := cmpF_swap y.at' z.at'
    have h5 := cmpF_swap x.at' z.at'
    have := cmpF_le_trans z.at' y.at' x.at' (by omega) (by omega)
    omega
end Go.Proofs.YtpejdgkaapnekaaGreat
namespace Go.Proofs.YtpejdgkaapnekaaGreat
open Go Go.Abs
attribute [local irreducible] OkOps OkC DRun thenQ blockQ RetQ
set_option maxRecDepth 10000
theorem take_map_len {α β : Type} (f : α → β) (l : List α) : (l.map f).take l.length = l.map f := List.take_of_length_le (by simp)
theorem c95 (x : Cell) (ha : x.at'.length ≤ 1048576) (hv : x.vals.length ≤ 1048576) : CallA Tryz.prog 95 [cellC x] [] (cellC x) [] := by
  unfold cellC encCell
  simp only [List.map_cons, List.map_nil]
  refine enter tabOk Tryz.func95 rfl (by decide +kernel) rfl fun hok w0 σ0 φ0 M => ?_
  clear hok
  repeat' (first | (show OkOps _ _ _ _ _ _; first | refine okops_nil ?_ | (show OkOps _ _ _ (Oper.mk _ (Op.box _ _) _ _ _ (_) :: _) _ _; first | refine s_box 0 rfl rfl rfl rfl rfl rfl ?_ | fail) | (show OkOps _ _ _ (Oper.mk _ (Op.alloc _) _ _ _ (_) :: _) _ _; first | refine s_alloc tabOk 1 rfl rfl rfl rfl rfl ?_ | fail) | fail) | (show OkC _ _ _ _ _; first | refine okc_imp (imp_sealL (dl := [10, 11]) rfl) (ok_ret ?_) | refine ok_seq ?_ | refine ok_region ?_ | refine ok_regionD progOk.mo ?_ | fail) | (show thenQ _ _ _ _; first | refine then_n ?_ | fail) | (show RetQ _ _ _ _ _ _; first | refine ret_leaf (.inl rfl) rfl rfl ?_ | fail) | (show DRun _ _ _ _ _ _ _ _; first | (show DRun _ _ _ _ (Oper.mk _ (Op.call _) _ _ _ (_) :: _) _ _ _; first | refine d_new envOk 10 rfl rfl rfl (step3_append rfl rfl rfl rfl rfl rfl rfl rfl (by simp only [List.length_map, Nat.zero_add]; omega) (by simp only [List.length_map, Nat.zero_add]; omega)) rfl rfl ?_ | fail) | (show DRun _ _ _ _ (Oper.mk _ (Op.call _) _ _ _ (_) :: _) _ _ _; first | refine d_new envOk 11 rfl rfl rfl (step3_append rfl rfl rfl rfl rfl rfl rfl rfl (by simp only [List.length_map, Nat.zero_add]; omega) (by simp only [List.length_map, Nat.zero_add]; omega)) rfl rfl ?_ | fail) | refine d_nil (by kernel_rfl) ?_ | refine d_e envOk rfl rfl rfl (step3_plain rfl rfl) ?_ | refine d_new envOk 2 rfl rfl rfl rfl rfl rfl ?_ | refine d_new envOk 3 rfl rfl rfl rfl rfl rfl ?_ | refine d_store envOk rfl rfl rfl ?_ | fail) | fail)
  all_goals
    show AV.agg [.d (.sl 1 8 ((List.take 0 [] ++ List.map encInt x.at').take (0 + (List.map encInt x.at').length))), .d (.sl 4 40 ((List.take 0 [] ++ List.map encVal x.vals).take (0 + (List.map encVal x.vals).length)))] = _
    simp [encInts, encVals, take_map_len]
theorem c94 (ds : List Dim) (ats : List Attr) (hd : ds.length ≤ 1048576) (ha : ats.length ≤ 1048576) : CallA Tryz.prog 94 [.one (.d (encDims ds)), .one (.d (encAttrs ats))] [] (.agg [.d (encDims ds), .d (encAttrs ats), .d .nil]) [] := by
  refine enter tabOk Tryz.func94 rfl (by decide +kernel) rfl fun hok w0 σ0 φ0 M => ?_
  clear hok
  repeat' (first | (show OkOps _ _ _ _ _ _; first | (show OkOps _ _ _ (Oper.mk _ (Op.call _) _ _ _ (_) :: _) _ _; first | refine okops_append tabOk rfl rfl rfl rfl rfl (id := 1) rfl rfl rfl rfl rfl rfl rfl (by simp only [List.length_map, Nat.zero_add]; omega) (by simp only [List.length_map, Nat.zero_add]; omega) ?_ | fail) | (show OkOps _ _ _ (Oper.mk _ (Op.call _) _ _ _ (_) :: _) _ _; first | refine okops_append tabOk rfl rfl rfl rfl rfl (id := 2) rfl rfl rfl rfl rfl rfl rfl (by simp only [List.length_map, Nat.zero_add]; omega) (by simp only [List.length_map, Nat.zero_add]; omega) ?_ | fail) | refine okops_nil ?_ | refine s_plain tabOk rfl rfl rfl rfl rfl ?_ | (show OkOps _ _ _ (Oper.mk _ (Op.alloc _) _ _ _ (_) :: _) _ _; first | refine s_alloc tabOk 0 rfl rfl rfl rfl rfl ?_ | fail) | refine s_store envOk rfl rfl rfl ?_ | refine s_new envOk 1 rfl rfl rfl rfl rfl rfl ?_ | refine s_new envOk 2 rfl rfl rfl rfl rfl rfl ?_ | fail) | (show OkC _ _ _ _ _; first | refine okc_imp (imp_sealL (dl := [1, 2]) rfl) (ok_ret ?_) | refine ok_seq ?_ | refine ok_region ?_ | fail) | (show thenQ _ _ _ _; first | refine then_n ?_ | fail) | (show RetQ _ _ _ _ _ _; first | refine ret_leaf (.inl rfl) rfl rfl ?_ | fail) | fail)
  all_goals
    show AV.agg [.d (.sl 3 32 ((List.take 0 [] ++ List.map encDim ds).take (0 + (List.map encDim ds).length))), .d (.sl 2 24 ((List.take 0 [] ++ List.map encAttr ats).take (0 + (List.map encAttr ats).length))), .d .nil] = _
    simp [encDims, encAttrs, take_map_len]
end Go.Proofs.YtpejdgkaapnekaaGreat
namespace Go.Abs
open Go
variable {P : Program} {c : Ctx} {fr : List (Nat × AV)} {sto : Sto}
def nmA (b : Bool × Bool) : Nat := bif b.1 then 11 else 10
def qN (i : Nat) : Nat := bif Nat.beq i 11 then 10 else bif Nat.beq i 13 then 12 else i
theorem subL_app {α : Type} {f a b : List (Nat × α)} (h1 : SubL f a) (h2 : SubL f b) : SubL f (a ++ b) := by
  induction a with
  | nil => exact h2
  | cons p r ih => exact ⟨h1.1, ih h1.2⟩
theorem imp_sub {f f' : List (Nat × AV)} {s s' : Sto} (hf : SubL f f') (hs : SubL s s') : Imp c ⟨f, s⟩ ⟨f', s'⟩ := Imp.trans (imp_subL hf) (imp_subS hs)
theorem s_loopN {α : Type} {body : Code} {Q : Exit → St → Prop} (rg : Nat) (hrg : firstReg body = rg) {fr1 : List (Nat × AV)} {sto1 : Sto} (ha : Imp c ⟨fr, sto⟩ ⟨fr1, sto1⟩) (kept : List (Nat × AV)) (hk : SubL fr1 kept) (L : Bool × Bool → α → List (Nat × AV)) (S : Bool × Bool → α → Sto) (Inv : α → Prop) (μ : α → Nat) (x0 : α)
    (hL : SubL fr1 (L (false, false) x0)) (hS : SubL sto1 (S (false, false) x0)) (hq : ∀ b y, Imp c ⟨L b y ++ kept, S b y⟩ ⟨L (false, false) y ++ kept, S (false, false) y⟩) (h0 : Inv x0)
    (hround : ∀ x, Inv x → OkC P c body ⟨L (false, false) x ++ kept, S (false, false) x⟩ (thenQ (fun st' => ∃ y b, Inv y ∧ μ y < μ x ∧ SubL st'.sto (S b y) ∧ SubL st'.fr (L b y) ∧ SubL st'.fr kept) Q)) : OkC P c (.loop body) ⟨fr, sto⟩ Q := by
  refine okc_imp (st' := ⟨L (false, false) x0 ++ kept, S (false, false) x0⟩) (Imp.trans ha (imp_sub (subL_app hL hk) hS)) ?_
  refine ok_loop (fun n st => ∃ x, Inv x ∧ n = μ x ∧ st = ⟨L (false, false) x ++ kept, S (false, false) x⟩) (μ x0) ⟨x0, h0, rfl, rfl⟩ ?_
  rintro n st ⟨x, hx, rfl, rfl⟩
  refine ok_mono (hround x hx) fun e st h => ?_
  cases e with
  | normal =>
    obtain ⟨y, b, hy, hlt, hs, h1, h2⟩ := h
    obtain ⟨f, s⟩ := st
    simp only at hs h1 h2
    exact ⟨μ y, _, hlt, ⟨y, hy, rfl, rfl⟩, Imp.trans (imp_sub (subL_app h1 h2) hs) (hq b y)⟩
  | _ => exact h
section
variable {w0 : World} {σ0 : Sig} {φ0 : Pl} {M : Nat → Prop} {n : Nat} {rd : Option Nat} {mk : List Deferred} {ops : Array Oper} {o : Oper} {rest : List Oper} {K : St → Prop} {st0 : St} {acc : List Tr}
theorem s_callG (k : Nat) (dl : List Nat) {ss : St} {d : Nat} {fop : Operand} {args : Array Operand} {ats : Array TypeId} {f : FuncId} {caps : List D} {avs avs' : List AV} {rav rav' : AV}
    (ho : o.op = .call { callee := .value fop, args := args, argTypes := ats }) (hg : o.guard = none) (hdst : o.dst = some d) (hd : Nat.blt d n = true) (hss : sealL ⟨fr, sto⟩ dl = some ss) (hf : ev ss fop = some (.one (.d (.fn f caps))))
    (ha : evL ss args.toList = some avs) (hD : avsD avs = true) (hap : (avs ++ caps.map fun x => .one (.d x)) = avs') (hC : CallA P f avs' [] rav [])
    (hk : (keysOk [] [] && Nat.ble (k + 16) 1000000 && avIn [] rav && stoIn [] []) = true) (hfresh : freshRB k ⟨fr, delN dl sto⟩ = true) (hr : renV (rn k []) rav = rav')
    (h : OkOps P ⟨w0, σ0, φ0, M, n, rd, mk⟩ ops rest ⟨(d, rav') :: fr, delN dl sto⟩ K) : OkOps P ⟨w0, σ0, φ0, M, n, rd, mk⟩ ops (o :: rest) ⟨fr, sto⟩ K := by
  subst hap; subst hr
  exact okops_callX k dl ho hg (by rw [hdst]; exact hd) hss hf ha hD hC hk (freshRB_ok hfresh) (by rw [hdst]; exact h)
end
theorem step3_appendB {V : Env} {st : St} {o : Oper} {id i n k b k' b' : Nat} {t t2 : TypeId} {x y : Operand} {v : AV} {xs ys : List (List D)} {e : TypeId} {z : List D} {q : TypeId × Nat × Nat × List D}
    (ho : o.op = .call { callee := .builtin .append, args := ⟨[x, y]⟩, argTypes := ⟨[t, t2]⟩ }) (ht : sliceTy V.T t = some (e, k, b, z)) (ht2 : sliceTy V.T t2 = some q) (hx : ev st x = some (.one (.own i n))) (hl : look st.sto i = some (.row k' b' xs))
    (hkb : (Nat.beq k k' && Nat.beq b b') = true) (hy : ev st y = some v) (hs : srcOf st k v = some ys) (hn : n ≤ 100000000) (hys : ys.length ≤ 10000000) (hb : b ≤ 100) :
    step3 V st o id = some ⟨.one (.own id (n + ys.length)), [(id, some (.row k b (xs.take n ++ ys))), (i, none)], [id]⟩ :=
  step3_append ho ht ht2 hx hl hkb hy hs (by omega) (Nat.le_trans (Nat.mul_le_mul (show n + ys.length ≤ 110000000 by omega) hb) (by omega))
end Go.Abs
namespace Go.Proofs.YtpejdgkaapnekaaGreat
open Go Go.Abs
attribute [local irreducible] OkOps OkC DRun thenQ blockQ RetQ
set_option maxRecDepth 10000
theorem c139 (nm : List UInt8) (lo hi : Int) : CallA Tryz.prog 139 [.agg [.d (.str nm), .d (.int .i64 lo), .d (.int .i64 hi)]] [] (.one (.d (.str nm))) [] := by
  refine enter tabOk Tryz.func139 rfl (by decide +kernel) rfl fun hok w0 σ0 φ0 M => ?_
  repeat' (first | (show OkOps _ _ _ _ _ _; first | refine okops_nil ?_ | refine s_plain tabOk rfl rfl rfl rfl rfl ?_ | (show OkOps _ _ _ (Oper.mk _ (Op.box _ _) _ _ _ (_) :: _) _ _; first | refine s_box 0 rfl rfl rfl rfl rfl rfl ?_ | fail) | fail) | (show OkC _ _ _ _ _; first | refine ok_seq ?_ | refine ok_region ?_ | refine ok_ret ?_ | fail) | (show thenQ _ _ _ _; first | refine then_n ?_ | fail) | (show RetQ _ _ _ _ _ _; first | refine ret_leaf (.inl rfl) rfl rfl ?_ | fail) | fail)
  all_goals (try (((simp_all [at_drop, List.drop_eq_nil_of_le]) <;> first | omega | (rw [Bool.eq_iff_iff]; simp; omega) | grind); done))
theorem c151 (nm : List UInt8) (t : Int) : CallA Tryz.prog 151 [.agg [.d (.str nm), .d (.int .i64 t)]] [] (.one (.d (.str nm))) [] := by
  refine enter tabOk Tryz.func151 rfl (by decide +kernel) rfl fun hok w0 σ0 φ0 M => ?_
  repeat' (first | (show OkOps _ _ _ _ _ _; first | refine okops_nil ?_ | refine s_plain tabOk rfl rfl rfl rfl rfl ?_ | (show OkOps _ _ _ (Oper.mk _ (Op.box _ _) _ _ _ (_) :: _) _ _; first | refine s_box 0 rfl rfl rfl rfl rfl rfl ?_ | fail) | fail) | (show OkC _ _ _ _ _; first | refine ok_seq ?_ | refine ok_region ?_ | refine ok_ret ?_ | fail) | (show thenQ _ _ _ _; first | refine then_n ?_ | fail) | (show RetQ _ _ _ _ _ _; first | refine ret_leaf (.inl rfl) rfl rfl ?_ | fail) | fail)
  all_goals (try (((simp_all [at_drop, List.drop_eq_nil_of_le]) <;> first | omega | (rw [Bool.eq_iff_iff]; simp; omega) | grind); done))
theorem c245 (nm name : List UInt8) (lo hi : Int) : CallA Tryz.prog 245 [.agg [.d (.str nm), .d (.int .i64 lo), .d (.int .i64 hi)], .one (.d (.ptr [.fn 139 []])), .one (.d (.ptr [.str name]))] [] (.one (.d (.bool (nm == name)))) [] := by
  refine enter tabOk Tryz.func245 rfl (by decide +kernel) rfl fun hok w0 σ0 φ0 M => ?_
  repeat' (first | (show OkOps _ _ _ _ _ _; first | refine okops_nil ?_ | refine s_plain tabOk rfl rfl rfl rfl rfl ?_ | (show OkOps _ _ _ (Oper.mk _ (Op.box _ _) _ _ _ (_) :: _) _ _; first | refine s_box 0 rfl rfl rfl rfl rfl rfl ?_ | fail) | fail) | (show OkC _ _ _ _ _; first | refine ok_seq ?_ | refine ok_region ?_ | refine ok_ret ?_ | refine ok_regionD progOk.mo ?_ | fail) | (show thenQ _ _ _ _; first | refine then_n ?_ | fail) | (show RetQ _ _ _ _ _ _; first | refine ret_leaf (.inl rfl) rfl rfl ?_ | fail) | (show DRun _ _ _ _ _ _ _ _; first | refine d_nil (by kernel_rfl) ?_ | refine d_e envOk rfl rfl rfl (step3_plain rfl rfl) ?_ | (show DRun _ _ _ _ (Oper.mk _ (Op.call _) _ _ _ (_) :: _) _ _ _; first | refine d_l rfl rfl (loc_callF' rfl rfl rfl rfl rfl rfl (c139 _ _ _) rfl) ?_ | fail) | fail) | fail)
  all_goals (try (((simp_all [at_drop, List.drop_eq_nil_of_le]) <;> first | omega | (rw [Bool.eq_iff_iff]; simp; omega) | grind); done))
theorem c251 (nm name : List UInt8) (t : Int) : CallA Tryz.prog 251 [.agg [.d (.str nm), .d (.int .i64 t)], .one (.d (.ptr [.fn 151 []])), .one (.d (.ptr [.str name]))] [] (.one (.d (.bool (nm == name)))) [] := by
  refine enter tabOk Tryz.func251 rfl (by decide +kernel) rfl fun hok w0 σ0 φ0 M => ?_
  repeat' (first | (show OkOps _ _ _ _ _ _; first | refine okops_nil ?_ | refine s_plain tabOk rfl rfl rfl rfl rfl ?_ | (show OkOps _ _ _ (Oper.mk _ (Op.box _ _) _ _ _ (_) :: _) _ _; first | refine s_box 0 rfl rfl rfl rfl rfl rfl ?_ | fail) | fail) | (show OkC _ _ _ _ _; first | refine ok_seq ?_ | refine ok_region ?_ | refine ok_ret ?_ | refine ok_regionD progOk.mo ?_ | fail) | (show thenQ _ _ _ _; first | refine then_n ?_ | fail) | (show RetQ _ _ _ _ _ _; first | refine ret_leaf (.inl rfl) rfl rfl ?_ | fail) | (show DRun _ _ _ _ _ _ _ _; first | refine d_nil (by kernel_rfl) ?_ | refine d_e envOk rfl rfl rfl (step3_plain rfl rfl) ?_ | (show DRun _ _ _ _ (Oper.mk _ (Op.call _) _ _ _ (_) :: _) _ _ _; first | refine d_l rfl rfl (loc_callF' rfl rfl rfl rfl rfl rfl (c151 _ _) rfl) ?_ | fail) | fail) | fail)
  all_goals (try (((simp_all [at_drop, List.drop_eq_nil_of_le]) <;> first | omega | (rw [Bool.eq_iff_iff]; simp; omega) | grind); done))
theorem c244 (f : FuncId) (caps : List D) (p : Dim → Bool) (hp : ∀ d : Dim, CallA Tryz.prog f ([.agg [.d (.str d.name), .d (.int .i64 d.lo), .d (.int .i64 d.hi)]] ++ caps.map fun x => .one (.d x)) [] (.one (.d (.bool (p d)))) []) (l : List Dim) :
    CallA Tryz.prog 244 [.one (.d (encDims l)), .one (.d (.fn f caps))] [] (.one (.d (.int .i64 (idxGo p l 0)))) [] := by
  refine enter tabOk Tryz.func244 rfl (by decide +kernel) rfl fun hok w0 σ0 φ0 M => ?_
  have h1 := hok.1.sl; clear hok; simp only [List.length_map] at h1; replace h1 := h1.1
  repeat' (first | (show OkOps _ _ _ _ _ _; first | refine okops_nil ?_ | refine s_plain tabOk rfl rfl rfl rfl rfl ?_ | (show OkOps _ _ _ (Oper.mk _ (Op.binOp .add _ _ _ _) _ _ _ (_) :: _) _ _; first | refine s_e envOk rfl rfl rfl (step3_add rfl rfl rfl rfl (wrap64 (by omega) (by omega))) ?_ | fail) | (show OkOps _ _ _ (Oper.mk _ (Op.indexAddr _ _ _) _ _ _ (_) :: _) _ _; first | refine s_e envOk rfl rfl rfl (step3_idx rfl rfl rfl rfl rfl (by first | omega | ((try simp only [decide_eq_true_eq, decide_eq_false_iff_not, Bool.not_eq_true', Bool.not_true, Bool.not_false, List.length_map, List.length_set, bne_iff_ne, ne_eq, beq_iff_eq, bne_eq_false_iff_eq, beq_eq_false_iff_ne] at *); omega)) (at_map (by first | omega | ((try simp only [decide_eq_true_eq, decide_eq_false_iff_not, Bool.not_eq_true', Bool.not_true, Bool.not_false, List.length_map, List.length_set, bne_iff_ne, ne_eq, beq_iff_eq, bne_eq_false_iff_eq, beq_eq_false_iff_ne] at *); omega)))) ?_ | fail) | (show OkOps _ _ _ (Oper.mk _ (Op.call _) _ _ _ (_) :: _) _ _; first | refine s_callF rfl rfl rfl rfl rfl rfl rfl rfl (hp _) rfl ?_ | fail) | fail) | (show OkC _ _ _ _ _; first | refine ok_seq ?_ | refine ok_region ?_ | refine ok_block ?_ | refine ok_skip ?_ | refine ok_ret ?_ | refine ok_exit ?_ | refine ok_cond rfl (fun h => ?_) (fun h => ?_) | refine s_loop 2 rfl [(0, _), (1, _), (7, _)] (subL_cons rfl (subL_cons rfl (subL_cons rfl subL_nil))) (fun (k : Nat) => [(8, .one (.d (.int .i64 k)))]) (fun (k : Nat) => k ≤ l.length ∧ idxGo p l 0 = idxGo p (l.drop k) k) (fun (k : Nat) => l.length - k) 0 (subL_cons rfl subL_nil) ?_ (fun k ⟨hk, hs⟩ => ?_) | fail) | (show thenQ _ _ _ _; first | refine then_n ?_ | refine then_r ?_ | refine then_x ?_ | fail) | (show blockQ _ _ _ _; first | refine block_n ?_ | refine block_r ?_ | refine block_x rfl ?_ | fail) | (show RetQ _ _ _ _ _ _; first | refine ret_leaf (.inl rfl) rfl rfl ?_ | fail) | (show Exists _; first | refine Exists.intro (k + 1) ⟨?_, ?_, (by first | exact subL_nil | exact (subL_cons rfl subL_nil) | exact (subL_cons rfl (subL_cons rfl subL_nil)) | exact (subL_cons rfl (subL_cons rfl (subL_cons rfl subL_nil))) | exact (subL_cons rfl (subL_cons rfl (subL_cons rfl (subL_cons rfl subL_nil)))) | exact (subL_cons rfl (subL_cons rfl (subL_cons rfl (subL_cons rfl (subL_cons rfl subL_nil))))) | exact (subL_cons rfl (subL_cons rfl (subL_cons rfl (subL_cons rfl (subL_cons rfl (subL_cons rfl subL_nil)))))) | exact (subL_cons rfl (subL_cons rfl (subL_cons rfl (subL_cons rfl (subL_cons rfl (subL_cons rfl (subL_cons rfl subL_nil))))))) | exact (subL_cons rfl (subL_cons rfl (subL_cons rfl (subL_cons rfl (subL_cons rfl (subL_cons rfl (subL_cons rfl (subL_cons rfl subL_nil))))))))), (subL_cons rfl subL_nil), (subL_cons rfl (subL_cons rfl (subL_cons rfl subL_nil)))⟩ | fail) | fail)
  all_goals (try (((simp_all [idxGo, at_drop, List.drop_eq_nil_of_le]) <;> first | omega | (rw [Bool.eq_iff_iff]; simp; omega) | grind); done))
theorem c250 (f : FuncId) (caps : List D) (p : Attr → Bool) (hp : ∀ d : Attr, CallA Tryz.prog f ([.agg [.d (.str d.name), .d (.int .i64 d.type)]] ++ caps.map fun x => .one (.d x)) [] (.one (.d (.bool (p d)))) []) (l : List Attr) :
    CallA Tryz.prog 250 [.one (.d (encAttrs l)), .one (.d (.fn f caps))] [] (.one (.d (.int .i64 (idxGo p l 0)))) [] := by
  refine enter tabOk Tryz.func250 rfl (by decide +kernel) rfl fun hok w0 σ0 φ0 M => ?_
  have h1 := hok.1.sl; clear hok; simp only [List.length_map] at h1; replace h1 := h1.1
  repeat' (first | (show OkOps _ _ _ _ _ _; first | refine okops_nil ?_ | refine s_plain tabOk rfl rfl rfl rfl rfl ?_ | (show OkOps _ _ _ (Oper.mk _ (Op.binOp .add _ _ _ _) _ _ _ (_) :: _) _ _; first | refine s_e envOk rfl rfl rfl (step3_add rfl rfl rfl rfl (wrap64 (by omega) (by omega))) ?_ | fail) | (show OkOps _ _ _ (Oper.mk _ (Op.indexAddr _ _ _) _ _ _ (_) :: _) _ _; first | refine s_e envOk rfl rfl rfl (step3_idx rfl rfl rfl rfl rfl (by first | omega | ((try simp only [decide_eq_true_eq, decide_eq_false_iff_not, Bool.not_eq_true', Bool.not_true, Bool.not_false, List.length_map, List.length_set, bne_iff_ne, ne_eq, beq_iff_eq, bne_eq_false_iff_eq, beq_eq_false_iff_ne] at *); omega)) (at_map (by first | omega | ((try simp only [decide_eq_true_eq, decide_eq_false_iff_not, Bool.not_eq_true', Bool.not_true, Bool.not_false, List.length_map, List.length_set, bne_iff_ne, ne_eq, beq_iff_eq, bne_eq_false_iff_eq, beq_eq_false_iff_ne] at *); omega)))) ?_ | fail) | (show OkOps _ _ _ (Oper.mk _ (Op.call _) _ _ _ (_) :: _) _ _; first | refine s_callF rfl rfl rfl rfl rfl rfl rfl rfl (hp _) rfl ?_ | fail) | fail) | (show OkC _ _ _ _ _; first | refine ok_seq ?_ | refine ok_region ?_ | refine ok_block ?_ | refine ok_skip ?_ | refine ok_ret ?_ | refine ok_exit ?_ | refine ok_cond rfl (fun h => ?_) (fun h => ?_) | refine s_loop 2 rfl [(0, _), (1, _), (7, _)] (subL_cons rfl (subL_cons rfl (subL_cons rfl subL_nil))) (fun (k : Nat) => [(8, .one (.d (.int .i64 k)))]) (fun (k : Nat) => k ≤ l.length ∧ idxGo p l 0 = idxGo p (l.drop k) k) (fun (k : Nat) => l.length - k) 0 (subL_cons rfl subL_nil) ?_ (fun k ⟨hk, hs⟩ => ?_) | fail) | (show thenQ _ _ _ _; first | refine then_n ?_ | refine then_r ?_ | refine then_x ?_ | fail) | (show blockQ _ _ _ _; first | refine block_n ?_ | refine block_r ?_ | refine block_x rfl ?_ | fail) | (show RetQ _ _ _ _ _ _; first | refine ret_leaf (.inl rfl) rfl rfl ?_ | fail) | (show Exists _; first | refine Exists.intro (k + 1) ⟨?_, ?_, (by first | exact subL_nil | exact (subL_cons rfl subL_nil) | exact (subL_cons rfl (subL_cons rfl subL_nil)) | exact (subL_cons rfl (subL_cons rfl (subL_cons rfl subL_nil))) | exact (subL_cons rfl (subL_cons rfl (subL_cons rfl (subL_cons rfl subL_nil)))) | exact (subL_cons rfl (subL_cons rfl (subL_cons rfl (subL_cons rfl (subL_cons rfl subL_nil))))) | exact (subL_cons rfl (subL_cons rfl (subL_cons rfl (subL_cons rfl (subL_cons rfl (subL_cons rfl subL_nil)))))) | exact (subL_cons rfl (subL_cons rfl (subL_cons rfl (subL_cons rfl (subL_cons rfl (subL_cons rfl (subL_cons rfl subL_nil))))))) | exact (subL_cons rfl (subL_cons rfl (subL_cons rfl (subL_cons rfl (subL_cons rfl (subL_cons rfl (subL_cons rfl (subL_cons rfl subL_nil))))))))), (subL_cons rfl subL_nil), (subL_cons rfl (subL_cons rfl (subL_cons rfl subL_nil)))⟩ | fail) | fail)
  all_goals (try (((simp_all [idxGo, at_drop, List.drop_eq_nil_of_le]) <;> first | omega | (rw [Bool.eq_iff_iff]; simp; omega) | grind); done))
theorem c195 (l : List Dim) (name : List UInt8) : CallA Tryz.prog 195 [.one (.d (encDims l)), .one (.d (.str name)), .one (.d (.fn 139 []))] [] (.one (.d (.int .i64 (idxGo (fun a : Dim => a.name == name) l 0)))) [] := by
  refine enter tabOk Tryz.func195 rfl (by decide +kernel) rfl fun hok w0 σ0 φ0 M => ?_
  repeat' (first | (show OkOps _ _ _ _ _ _; first | refine okops_nil ?_ | refine s_plain tabOk rfl rfl rfl rfl rfl ?_ | (show OkOps _ _ _ (Oper.mk _ (Op.call _) _ _ _ (_) :: _) _ _; first | refine s_callF rfl rfl rfl rfl rfl rfl rfl rfl (c244 _ _ _ (fun d => c245 _ name _ _) _) rfl ?_ | fail) | (show OkOps _ _ _ (Oper.mk _ (Op.box _ _) _ _ _ (_) :: _) _ _; first | refine s_box 0 rfl rfl rfl rfl rfl rfl ?_ | refine s_box 1 rfl rfl rfl rfl rfl rfl ?_ | fail) | refine s_mkF envOk rfl rfl rfl rfl rfl ?_ | fail) | (show OkC _ _ _ _ _; first | refine ok_seq ?_ | refine ok_region ?_ | refine ok_ret ?_ | fail) | (show thenQ _ _ _ _; first | refine then_n ?_ | fail) | (show RetQ _ _ _ _ _ _; first | refine ret_leaf (.inl rfl) rfl rfl ?_ | fail) | fail)
  all_goals (try (((simp_all [at_drop, List.drop_eq_nil_of_le]) <;> first | omega | (rw [Bool.eq_iff_iff]; simp; omega) | grind); done))
theorem c207 (l : List Attr) (name : List UInt8) : CallA Tryz.prog 207 [.one (.d (encAttrs l)), .one (.d (.str name)), .one (.d (.fn 151 []))] [] (.one (.d (.int .i64 (idxGo (fun a : Attr => a.name == name) l 0)))) [] := by
  refine enter tabOk Tryz.func207 rfl (by decide +kernel) rfl fun hok w0 σ0 φ0 M => ?_
  repeat' (first | (show OkOps _ _ _ _ _ _; first | refine okops_nil ?_ | refine s_plain tabOk rfl rfl rfl rfl rfl ?_ | (show OkOps _ _ _ (Oper.mk _ (Op.call _) _ _ _ (_) :: _) _ _; first | refine s_callF rfl rfl rfl rfl rfl rfl rfl rfl (c250 _ _ _ (fun d => c251 _ name _) _) rfl ?_ | fail) | (show OkOps _ _ _ (Oper.mk _ (Op.box _ _) _ _ _ (_) :: _) _ _; first | refine s_box 0 rfl rfl rfl rfl rfl rfl ?_ | refine s_box 1 rfl rfl rfl rfl rfl rfl ?_ | fail) | refine s_mkF envOk rfl rfl rfl rfl rfl ?_ | fail) | (show OkC _ _ _ _ _; first | refine ok_seq ?_ | refine ok_region ?_ | refine ok_ret ?_ | fail) | (show thenQ _ _ _ _; first | refine then_n ?_ | fail) | (show RetQ _ _ _ _ _ _; first | refine ret_leaf (.inl rfl) rfl rfl ?_ | fail) | fail)
  all_goals (try (((simp_all [at_drop, List.drop_eq_nil_of_le]) <;> first | omega | (rw [Bool.eq_iff_iff]; simp; omega) | grind); done))
theorem c126 (ds : List Dim) (ats : List Attr) (cs : D) (name : List UInt8) : CallA Tryz.prog 126 [.agg [.d (encDims ds), .d (encAttrs ats), .d cs], .one (.d (.str name))] [] (.one (.d (.int .i64 (idxGo (fun a : Dim => a.name == name) ds 0)))) [] := by
  refine enter tabOk Tryz.func126 rfl (by decide +kernel) rfl fun hok w0 σ0 φ0 M => ?_
  repeat' (first | (show OkOps _ _ _ _ _ _; first | refine okops_nil ?_ | refine s_plain tabOk rfl rfl rfl rfl rfl ?_ | (show OkOps _ _ _ (Oper.mk _ (Op.call _) _ _ _ (_) :: _) _ _; first | refine s_callF rfl rfl rfl rfl rfl rfl rfl rfl (c195 _ _) rfl ?_ | fail) | (show OkOps _ _ _ (Oper.mk _ (Op.box _ _) _ _ _ (_) :: _) _ _; first | refine s_box 0 rfl rfl rfl rfl rfl rfl ?_ | fail) | fail) | (show OkC _ _ _ _ _; first | refine ok_seq ?_ | refine ok_region ?_ | refine ok_ret ?_ | fail) | (show thenQ _ _ _ _; first | refine then_n ?_ | fail) | (show RetQ _ _ _ _ _ _; first | refine ret_leaf (.inl rfl) rfl rfl ?_ | fail) | fail)
  all_goals (try (((simp_all [at_drop, List.drop_eq_nil_of_le]) <;> first | omega | (rw [Bool.eq_iff_iff]; simp; omega) | grind); done))
theorem c148 (ds : List Dim) (ats : List Attr) (cs : D) (name : List UInt8) : CallA Tryz.prog 148 [.agg [.d (encDims ds), .d (encAttrs ats), .d cs], .one (.d (.str name))] [] (.one (.d (.int .i64 (idxGo (fun a : Attr => a.name == name) ats 0)))) [] := by
  refine enter tabOk Tryz.func148 rfl (by decide +kernel) rfl fun hok w0 σ0 φ0 M => ?_
  repeat' (first | (show OkOps _ _ _ _ _ _; first | refine okops_nil ?_ | refine s_plain tabOk rfl rfl rfl rfl rfl ?_ | (show OkOps _ _ _ (Oper.mk _ (Op.call _) _ _ _ (_) :: _) _ _; first | refine s_callF rfl rfl rfl rfl rfl rfl rfl rfl (c207 _ _) rfl ?_ | fail) | (show OkOps _ _ _ (Oper.mk _ (Op.box _ _) _ _ _ (_) :: _) _ _; first | refine s_box 0 rfl rfl rfl rfl rfl rfl ?_ | fail) | fail) | (show OkC _ _ _ _ _; first | refine ok_seq ?_ | refine ok_region ?_ | refine ok_ret ?_ | fail) | (show thenQ _ _ _ _; first | refine then_n ?_ | fail) | (show RetQ _ _ _ _ _ _; first | refine ret_leaf (.inl rfl) rfl rfl ?_ | fail) | fail)
  all_goals (try (((simp_all [at_drop, List.drop_eq_nil_of_le]) <;> first | omega | (rw [Bool.eq_iff_iff]; simp; omega) | grind); done))
end Go.Proofs.YtpejdgkaapnekaaGreat
namespace Go.Proofs.YtpejdgkaapnekaaGreat
open Go Go.Abs
attribute [local irreducible] OkOps OkC DRun thenQ blockQ RetQ
set_option maxRecDepth 10000
def chkA (a : Arr) : Int := checkF a.dims a.attrs a.cells
theorem c180 (a : Arr) : CallA Tryz.prog 180 [aggA a] [] (.one (.d (.bool (chkA a != 0)))) [] := by
  unfold aggA
  refine enter tabOk Tryz.func180 rfl (by decide +kernel) rfl fun hok w0 σ0 φ0 M => ?_
  clear hok
  repeat' (first | (show OkOps _ _ _ _ _ _; first | refine okops_nil ?_ | refine s_plain tabOk rfl rfl rfl rfl rfl ?_ | (show OkOps _ _ _ (Oper.mk _ (Op.call _) _ _ _ (_) :: _) _ _; first | refine s_callF rfl rfl rfl rfl rfl rfl rfl rfl (c59 _ _ _) rfl ?_ | fail) | (show OkOps _ _ _ (Oper.mk _ (Op.box _ _) _ _ _ (_) :: _) _ _; first | refine s_box 0 rfl rfl rfl rfl rfl rfl ?_ | fail) | fail) | (show OkC _ _ _ _ _; first | refine ok_seq ?_ | refine ok_region ?_ | refine ok_ret ?_ | fail) | (show thenQ _ _ _ _; first | refine then_n ?_ | fail) | (show RetQ _ _ _ _ _ _; first | refine ret_leaf (.inl rfl) rfl rfl ?_ | fail) | fail)
  all_goals rfl
theorem c230 (l : List Arr) : CallA Tryz.prog 230 [.one (.d (encArrs l)), .one (.d (.fn 180 []))] [] (.one (.d (.int .i64 (idxGo (fun a => chkA a != 0) l 0)))) [] := by
  refine enter tabOk Tryz.func230 rfl (by decide +kernel) rfl fun hok w0 σ0 φ0 M => ?_
  have h1 := hok.1.sl; clear hok; simp only [List.length_map] at h1; replace h1 := h1.1
  repeat' (first | (show OkOps _ _ _ _ _ _; first | refine okops_nil ?_ | refine s_plain tabOk rfl rfl rfl rfl rfl ?_ | (show OkOps _ _ _ (Oper.mk _ (Op.binOp .add _ _ _ _) _ _ _ (_) :: _) _ _; first | refine s_e envOk rfl rfl rfl (step3_add rfl rfl rfl rfl (wrap64 (by omega) (by omega))) ?_ | fail) | (show OkOps _ _ _ (Oper.mk _ (Op.indexAddr _ _ _) _ _ _ (_) :: _) _ _; first | refine s_e envOk rfl rfl rfl (step3_idx rfl rfl rfl rfl rfl (by first | omega | ((try simp only [decide_eq_true_eq, decide_eq_false_iff_not, Bool.not_eq_true', Bool.not_true, Bool.not_false, List.length_map, List.length_set, bne_iff_ne, ne_eq, beq_iff_eq, bne_eq_false_iff_eq, beq_eq_false_iff_ne] at *); omega)) (at_map (by first | omega | ((try simp only [decide_eq_true_eq, decide_eq_false_iff_not, Bool.not_eq_true', Bool.not_true, Bool.not_false, List.length_map, List.length_set, bne_iff_ne, ne_eq, beq_iff_eq, bne_eq_false_iff_eq, beq_eq_false_iff_ne] at *); omega)))) ?_ | fail) | (show OkOps _ _ _ (Oper.mk _ (Op.call _) _ _ _ (_) :: _) _ _; first | refine s_callF rfl rfl rfl rfl rfl rfl rfl rfl (c180 _) rfl ?_ | fail) | fail) | (show OkC _ _ _ _ _; first | refine ok_seq ?_ | refine ok_region ?_ | refine ok_block ?_ | refine ok_skip ?_ | refine ok_ret ?_ | refine ok_exit ?_ | refine ok_cond rfl (fun h => ?_) (fun h => ?_) | refine s_loop 2 rfl [(0, _), (1, _), (7, _)] (subL_cons rfl (subL_cons rfl (subL_cons rfl subL_nil))) (fun (k : Nat) => [(8, .one (.d (.int .i64 k)))]) (fun (k : Nat) => k ≤ l.length ∧ idxGo (fun a => chkA a != 0) l 0 = idxGo (fun a => chkA a != 0) (l.drop k) k) (fun (k : Nat) => l.length - k) 0 (subL_cons rfl subL_nil) ?_ (fun k ⟨hk, hs⟩ => ?_) | fail) | (show thenQ _ _ _ _; first | refine then_n ?_ | refine then_r ?_ | refine then_x ?_ | fail) | (show blockQ _ _ _ _; first | refine block_n ?_ | refine block_r ?_ | refine block_x rfl ?_ | fail) | (show RetQ _ _ _ _ _ _; first | refine ret_leaf (.inl rfl) rfl rfl ?_ | fail) | (show Exists _; first | refine Exists.intro (k + 1) ⟨?_, ?_, (by first | exact subL_nil | exact (subL_cons rfl subL_nil) | exact (subL_cons rfl (subL_cons rfl subL_nil)) | exact (subL_cons rfl (subL_cons rfl (subL_cons rfl subL_nil))) | exact (subL_cons rfl (subL_cons rfl (subL_cons rfl (subL_cons rfl subL_nil)))) | exact (subL_cons rfl (subL_cons rfl (subL_cons rfl (subL_cons rfl (subL_cons rfl subL_nil))))) | exact (subL_cons rfl (subL_cons rfl (subL_cons rfl (subL_cons rfl (subL_cons rfl (subL_cons rfl subL_nil)))))) | exact (subL_cons rfl (subL_cons rfl (subL_cons rfl (subL_cons rfl (subL_cons rfl (subL_cons rfl (subL_cons rfl subL_nil))))))) | exact (subL_cons rfl (subL_cons rfl (subL_cons rfl (subL_cons rfl (subL_cons rfl (subL_cons rfl (subL_cons rfl (subL_cons rfl subL_nil))))))))), (subL_cons rfl subL_nil), (subL_cons rfl (subL_cons rfl (subL_cons rfl subL_nil)))⟩ | fail) | fail)
  all_goals (try (((simp_all [idxGo, at_drop, List.drop_eq_nil_of_le]) <;> first | omega | (rw [Bool.eq_iff_iff]; simp; omega) | grind); done))
theorem c179 (l : List Arr) : CallA Tryz.prog 179 [.one (.d (encArrs l)), .one (.d (.fn 180 []))] [] (.one (.d (.bool (!decide (idxGo (fun a => chkA a != 0) l 0 < 0))))) [] := by
  refine enter tabOk Tryz.func179 rfl (by decide +kernel) rfl fun hok w0 σ0 φ0 M => ?_
  clear hok
  repeat' (first | (show OkOps _ _ _ _ _ _; first | refine okops_nil ?_ | refine s_plain tabOk rfl rfl rfl rfl rfl ?_ | (show OkOps _ _ _ (Oper.mk _ (Op.call _) _ _ _ (_) :: _) _ _; first | refine s_callF rfl rfl rfl rfl rfl rfl rfl rfl (c230 _) rfl ?_ | fail) | fail) | (show OkC _ _ _ _ _; first | refine ok_seq ?_ | refine ok_region ?_ | refine ok_ret ?_ | fail) | (show thenQ _ _ _ _; first | refine then_n ?_ | fail) | (show RetQ _ _ _ _ _ _; first | refine ret_leaf (.inl rfl) rfl rfl ?_ | fail) | fail)
  all_goals (try (((simp_all [at_drop, List.drop_eq_nil_of_le]) <;> first | omega | (rw [Bool.eq_iff_iff]; simp; omega) | grind); done))
def validF (l : List Arr) : Bool := l.all fun a => chkA a == 0
theorem idx_valid' : ∀ (l : List Arr) (j : Nat), idxGo (fun a => chkA a != 0) l j < 0 ↔ validF l = true
  | [], j => by simp [idxGo, validF]
  | a :: l, j => by
    have ih := idx_valid' l (j + 1)
    simp only [idxGo, validF, List.all_cons, Bool.and_eq_true]
    by_cases h : chkA a = 0
    · rw [if_neg (by simp [h])]
      rw [ih]
      simp [h, validF]
    · rw [if_pos (by simp [h])]
      constructor
      · intro h1; omega
      · intro h1; simp [h] at h1
theorem idx_valid (l : List Arr) (j : Nat) : decide (idxGo (fun a => chkA a != 0) l j < 0) = validF l := by
  rw [Bool.eq_iff_iff, decide_eq_true_eq, idx_valid']
theorem c96 (l : List Arr) : CallA Tryz.prog 96 [.one (.d (encArrs l))] [] (.one (.d (.bool (validF l)))) [] := by
  refine enter tabOk Tryz.func96 rfl (by decide +kernel) rfl fun hok w0 σ0 φ0 M => ?_
  clear hok
  repeat' (first | (show OkOps _ _ _ _ _ _; first | refine okops_nil ?_ | refine s_plain tabOk rfl rfl rfl rfl rfl ?_ | (show OkOps _ _ _ (Oper.mk _ (Op.call _) _ _ _ (_) :: _) _ _; first | refine s_callF rfl rfl rfl rfl rfl rfl rfl rfl (c179 _) rfl ?_ | fail) | fail) | (show OkC _ _ _ _ _; first | refine ok_seq ?_ | refine ok_region ?_ | refine ok_ret ?_ | fail) | (show thenQ _ _ _ _; first | refine then_n ?_ | fail) | (show RetQ _ _ _ _ _ _; first | refine ret_leaf (.inl rfl) rfl rfl ?_ | fail) | fail)
  all_goals (try (((simp_all [idx_valid, at_drop, List.drop_eq_nil_of_le]) <;> first | omega | (rw [Bool.eq_iff_iff]; simp; omega) | grind); done))
theorem c98 (ds : List Dim) (at' : List Int) (hl : at'.length = ds.length) : CallA Tryz.prog 98 [.one (.d (encDims ds)), .one (.d (encInts at'))] [] (.one (.d (.bool (withinL ds at')))) [] := by
  refine enter tabOk Tryz.func98 rfl (by decide +kernel) rfl fun hok w0 σ0 φ0 M => ?_
  have h1 := hok.1.sl; have h2 := hok.2.1.sl; clear hok; simp only [List.length_map] at h1 h2; replace h1 := h1.1; replace h2 := h2.1
  repeat' (first | (show OkOps _ _ _ _ _ _; first | refine okops_nil ?_ | refine s_plain tabOk rfl rfl rfl rfl rfl ?_ | (show OkOps _ _ _ (Oper.mk _ (_) _ _ _ (some _) :: _) _ _; first | refine s_guard rfl rfl (by first | assumption | rfl) ?_ | refine s_out rfl rfl (by first | assumption | rfl) rfl rfl ?_ | refine s_split rfl rfl rfl rfl (fun h => ?_) (fun h => ?_) | fail) | (show OkOps _ _ _ (Oper.mk _ (Op.binOp .add _ _ _ _) _ _ _ (_) :: _) _ _; first | refine s_e envOk rfl rfl rfl (step3_add rfl rfl rfl rfl (wrap64 (by omega) (by omega))) ?_ | fail) | (show OkOps _ _ _ (Oper.mk _ (Op.pick _ _ _) _ _ _ (_) :: _) _ _; first | refine s_e envOk rfl rfl rfl (step3_pickT rfl rfl (by first | rfl | assumption) rfl) ?_ | refine s_e envOk rfl rfl rfl (step3_pickF rfl rfl (by first | rfl | assumption) rfl) ?_ | fail) | (show OkOps _ _ _ (Oper.mk _ (Op.indexAddr _ _ _) _ _ _ (_) :: _) _ _; first | refine s_e envOk rfl rfl rfl (step3_idx rfl rfl rfl rfl rfl (by first | omega | ((try simp only [decide_eq_true_eq, decide_eq_false_iff_not, Bool.not_eq_true', Bool.not_true, Bool.not_false, List.length_map, List.length_set, bne_iff_ne, ne_eq, beq_iff_eq, bne_eq_false_iff_eq, beq_eq_false_iff_ne] at *); omega)) (at_map (by first | omega | ((try simp only [decide_eq_true_eq, decide_eq_false_iff_not, Bool.not_eq_true', Bool.not_true, Bool.not_false, List.length_map, List.length_set, bne_iff_ne, ne_eq, beq_iff_eq, bne_eq_false_iff_eq, beq_eq_false_iff_ne] at *); omega)))) ?_ | fail) | fail) | (show OkC _ _ _ _ _; first | refine ok_seq ?_ | refine ok_region ?_ | refine ok_block ?_ | refine ok_skip ?_ | refine ok_ret ?_ | refine ok_exit ?_ | refine ok_condT rfl ?_ | refine ok_cond rfl (fun h => ?_) (fun h => ?_) | refine s_loop 2 rfl [(0, _), (7, _), (8, _)] (subL_cons rfl (subL_cons rfl (subL_cons rfl subL_nil))) (fun (k : Nat) => [(9, .one (.d (.int .i64 k)))]) (fun (k : Nat) => k ≤ at'.length ∧ at'.length = ds.length ∧ withinL ds at' = withinL (ds.drop k) (at'.drop k)) (fun (k : Nat) => ds.length - k) 0 (subL_cons rfl subL_nil) ?_ (fun k ⟨hk, hq, hs⟩ => ?_) | fail) | (show thenQ _ _ _ _; first | refine then_n ?_ | refine then_r ?_ | refine then_x ?_ | fail) | (show blockQ _ _ _ _; first | refine block_n ?_ | refine block_r ?_ | refine block_x rfl ?_ | fail) | (show RetQ _ _ _ _ _ _; first | refine ret_leaf (.inl rfl) rfl rfl ?_ | fail) | (show Exists _; first | refine Exists.intro (k + 1) ⟨?_, ?_, (by first | exact subL_nil | exact (subL_cons rfl subL_nil) | exact (subL_cons rfl (subL_cons rfl subL_nil)) | exact (subL_cons rfl (subL_cons rfl (subL_cons rfl subL_nil))) | exact (subL_cons rfl (subL_cons rfl (subL_cons rfl (subL_cons rfl subL_nil)))) | exact (subL_cons rfl (subL_cons rfl (subL_cons rfl (subL_cons rfl (subL_cons rfl subL_nil))))) | exact (subL_cons rfl (subL_cons rfl (subL_cons rfl (subL_cons rfl (subL_cons rfl (subL_cons rfl subL_nil)))))) | exact (subL_cons rfl (subL_cons rfl (subL_cons rfl (subL_cons rfl (subL_cons rfl (subL_cons rfl (subL_cons rfl subL_nil))))))) | exact (subL_cons rfl (subL_cons rfl (subL_cons rfl (subL_cons rfl (subL_cons rfl (subL_cons rfl (subL_cons rfl (subL_cons rfl subL_nil))))))))), (subL_cons rfl subL_nil), (subL_cons rfl (subL_cons rfl (subL_cons rfl subL_nil)))⟩ | fail) | fail)
  all_goals (try (((simp_all [withinL, lastF, at_drop, List.drop_eq_nil_of_le]) <;> first | omega | (rw [Bool.eq_iff_iff]; simp; omega) | grind); done))
end Go.Proofs.YtpejdgkaapnekaaGreat
namespace Go.Proofs.YtpejdgkaapnekaaGreat
open Go Go.Abs
attribute [local irreducible] OkOps OkC DRun thenQ blockQ RetQ
set_option maxRecDepth 10000
theorem c181e (id n : Nat) (cs : List Cell) (rows : List (List D)) (hr : rows = cs.map encCell) (hn : n = cs.length) (hd : cs.Pairwise diffC) :
    CallA Tryz.prog 181 [.one (.own id n), .one (.d (.fn 182 []))] [(id, .row 2 48 rows)] (.tup []) [(id, .row 2 48 ((sortF cs).map encCell))] := by
  subst hr; subst hn
  exact c181 id cs (sortF cs) (sort_uniq hd)
theorem s_sort {w0 : World} {σ0 : Sig} {φ0 : Pl} {M : Nat → Prop} {n : Nat} {rd : Option Nat} {mk : List Deferred} {ops : Array Oper} {o : Oper} {rest : List Oper} {fr : List (Nat × AV)} {sto : Sto} {K : St → Prop} {d m : Nat} {fop x y : Operand} {ats : Array TypeId} {rows : List (List D)} (id : Nat) (cs : List Cell)
    (ho : o.op = .call { callee := .value fop, args := ⟨[x, y]⟩, argTypes := ats }) (hg : o.guard = none) (hdst : o.dst = some d) (hdn : Nat.blt d n = true) (hf : ev ⟨fr, sto⟩ fop = some (.one (.d (.fn 181 [])))) (hx : ev ⟨fr, sto⟩ x = some (.one (.own id m))) (hy : ev ⟨fr, sto⟩ y = some (.one (.d (.fn 182 []))))
    (hl : Abs.look sto id = some (.row 2 48 rows)) (hr : rows = cs.map encCell) (hn : m = cs.length) (hd : cs.Pairwise diffC) (hfr : freshRB 16 ⟨fr, sto⟩ = true)
    (h : OkOps Tryz.prog ⟨w0, σ0, φ0, M, n, rd, mk⟩ ops rest ⟨(d, .tup []) :: fr, setS id (.row 2 48 ((sortF cs).map encCell)) (del id sto)⟩ K) : OkOps Tryz.prog ⟨w0, σ0, φ0, M, n, rd, mk⟩ ops (o :: rest) ⟨fr, sto⟩ K := by
  refine s_callM 16 [(1000000, id)] (rav' := .tup []) (sto' := setS id (.row 2 48 ((sortF cs).map encCell)) (del id sto)) (c181e 1000000 m cs rows hr hn hd) ho hg hdst hdn hf ?_ ⟨⟨id, rfl, hl⟩, trivial⟩ ⟨fun i e h1 h2 => ?_, trivial⟩ rfl hfr rfl rfl h
  · show evL ⟨fr, sto⟩ [x, y] = _
    simp only [evL, hx, hy]
    rfl
  · have e1 : some id = some i := h1
    cases e1
    rw [hl] at h2
    cases h2
    refine ⟨rfl, rfl, ?_⟩
    rw [hr, List.length_map, List.length_map, sortF_length]
    exact Nat.le_refl _
theorem row_next {α β : Type} [Inhabited α] (f : α → β) (l : List α) {k : Nat} (h : k < l.length) : ((l.take k).map f).take k ++ [f (at_ l k)] = (l.take (k + 1)).map f := by
  rw [List.take_succ_eq_append_getElem h, List.map_append, List.take_of_length_le (by simp; omega)]
  simp [at_, h]
def arrE : Option Arr × Int → AV
  | (none, e) => .tup [(true, [.d .nil, .d .nil, .d .nil]), (false, [.d (.int .i64 e)])]
  | (some a, e) => .tup [(true, [.d (encDims a.dims), .d (encAttrs a.attrs), .d (encCells a.cells)]), (false, [.d (.int .i64 e)])]
theorem take_all {α β : Type} (f : α → β) {l : List α} {k : Nat} (h : l.length ≤ k) : (l.take k).map f = l.map f := by rw [List.take_of_length_le h]
theorem c99 (ds : List Dim) (ats : List Attr) (cs : List Cell) (hd : cs.Pairwise diffC) : CallA Tryz.prog 99 [.one (.d (encDims ds)), .one (.d (encAttrs ats)), .one (.d (encCells cs))] [] (arrE (resF ds ats cs)) [] := by
  refine enter tabOk Tryz.func99 rfl (by decide +kernel) rfl fun hok w0 σ0 φ0 M => ?_
  have h1 := hok.2.2.1.sl; clear hok; simp only [List.length_map] at h1; replace h1 := h1.1
  by_cases h4 : 4096 < (cs.length : Int)
  · have hb : decide (4096 < ((cs.map encCell).length : Int)) = true := by simpa using h4
    simp only [resF, if_pos h4, arrE]
    repeat' (first | (show OkOps _ _ _ _ _ _; first | refine okops_nil ?_ | refine s_plain tabOk rfl rfl rfl rfl rfl ?_ | (show OkOps _ _ _ (Oper.mk _ (Op.alloc _) _ _ _ (_) :: _) _ _; first | refine s_alloc tabOk 0 rfl rfl rfl rfl rfl ?_ | fail) | refine s_store envOk rfl rfl rfl ?_ | fail) | (show OkC _ _ _ _ _; first | refine ok_seq ?_ | refine ok_region ?_ | refine ok_ret ?_ | refine ok_condKT rfl (by assumption) ?_ | fail) | (show thenQ _ _ _ _; first | refine then_n ?_ | refine then_r ?_ | fail) | (show RetQ _ _ _ _ _ _; first | refine ret_leaf (.inl rfl) rfl rfl ?_ | fail) | fail)
    all_goals rfl
  · have hb : decide (4096 < ((cs.map encCell).length : Int)) = false := by simpa using h4
    simp only [resF, if_neg h4, arrE]
    repeat' (first | (show OkOps _ _ _ _ _ _; first | (show OkOps _ _ _ (Oper.mk _ (Op.call _) _ _ _ (_) :: _) _ _; first | refine s_sort 10 cs rfl rfl rfl rfl rfl rfl rfl rfl (hr.trans (take_all _ (by first | omega | (simp only [decide_eq_true_eq, decide_eq_false_iff_not, List.length_map] at *; omega)))) (by first | omega | (simp only [decide_eq_true_eq, decide_eq_false_iff_not, List.length_map] at *; omega)) hd rfl ?_ | fail) | refine okops_nil ?_ | refine s_plain tabOk rfl rfl rfl rfl rfl ?_ | (show OkOps _ _ _ (Oper.mk _ (Op.binOp .add _ _ _ _) _ _ _ (_) :: _) _ _; first | refine s_e envOk rfl rfl rfl (step3_add rfl rfl rfl rfl (wrap64 (by omega) (by omega))) ?_ | fail) | (show OkOps _ _ _ (Oper.mk _ (Op.indexAddr _ _ _) _ _ _ (_) :: _) _ _; first | refine s_e envOk rfl rfl rfl (step3_idx rfl rfl rfl rfl rfl (by first | omega | ((try simp only [decide_eq_true_eq, decide_eq_false_iff_not, Bool.not_eq_true', Bool.not_true, Bool.not_false, List.length_map, List.length_set, bne_iff_ne, ne_eq, beq_iff_eq, bne_eq_false_iff_eq, beq_eq_false_iff_ne] at *); omega)) (at_map (by first | omega | ((try simp only [decide_eq_true_eq, decide_eq_false_iff_not, Bool.not_eq_true', Bool.not_true, Bool.not_false, List.length_map, List.length_set, bne_iff_ne, ne_eq, beq_iff_eq, bne_eq_false_iff_eq, beq_eq_false_iff_ne] at *); omega)))) ?_ | fail) | (show OkOps _ _ _ (Oper.mk _ (Op.call _) _ _ _ (_) :: _) _ _; first | refine s_callD 16 rfl rfl rfl rfl rfl rfl rfl rfl (c97 _) rfl rfl rfl ?_ | refine s_callD 16 rfl rfl rfl rfl rfl rfl rfl rfl (c145 _) rfl rfl rfl ?_ | fail) | (show OkOps _ _ _ (Oper.mk _ (Op.alloc _) _ _ _ (_) :: _) _ _; first | refine s_alloc tabOk 0 rfl rfl rfl rfl rfl ?_ | refine s_alloc tabOk 1 rfl rfl rfl rfl rfl ?_ | refine s_alloc tabOk 2 rfl rfl rfl rfl rfl ?_ | fail) | refine s_store envOk rfl rfl rfl ?_ | fail) | (show OkC _ _ _ _ _; first | refine okc_imp (imp_sealL (dl := [10]) rfl) (ok_ret ?_) | refine ok_seq ?_ | refine ok_region ?_ | refine ok_block ?_ | refine ok_skip ?_ | refine ok_exit ?_ | refine ok_condKF rfl (by assumption) ?_ | refine ok_cond rfl (fun h => ?_) (fun h => ?_) | refine ok_regionD progOk.mo ?_ | refine s_loopN 5 rfl (imp_adoptJ 1 2 10 (k := 2) (b := 48) rfl rfl (by kernel_rfl)) [(6, _), (8, _), (20, _), (21, _)] (subL_cons rfl (subL_cons rfl (subL_cons rfl (subL_cons rfl subL_nil)))) (fun (bN : Bool × Bool) (p : Nat × List (List D)) => [(22, .one (.d (.int .i64 (p.1 : Int))))]) (fun (bN : Bool × Bool) (p : Nat × List (List D)) => [(1, .box [.d (encDims ds), .d (encAttrs ats), .own (nmA bN) p.1]), ((nmA bN), .row 2 48 p.2), (0, .box [.d .nil, .d .nil, .d .nil])]) (fun (p : Nat × List (List D)) => p.1 ≤ cs.length ∧ p.2 = (cs.take p.1).map encCell) (fun (p : Nat × List (List D)) => cs.length - p.1) (0, []) (subL_cons rfl subL_nil) (by first | exact subL_nil | exact (subL_cons rfl subL_nil) | exact (subL_cons rfl (subL_cons rfl subL_nil)) | exact (subL_cons rfl (subL_cons rfl (subL_cons rfl subL_nil))) | exact (subL_cons rfl (subL_cons rfl (subL_cons rfl (subL_cons rfl subL_nil)))) | exact (subL_cons rfl (subL_cons rfl (subL_cons rfl (subL_cons rfl (subL_cons rfl subL_nil))))) | exact (subL_cons rfl (subL_cons rfl (subL_cons rfl (subL_cons rfl (subL_cons rfl (subL_cons rfl subL_nil)))))) | exact (subL_cons rfl (subL_cons rfl (subL_cons rfl (subL_cons rfl (subL_cons rfl (subL_cons rfl (subL_cons rfl subL_nil))))))) | exact (subL_cons rfl (subL_cons rfl (subL_cons rfl (subL_cons rfl (subL_cons rfl (subL_cons rfl (subL_cons rfl (subL_cons rfl subL_nil))))))))) (fun b y => by obtain ⟨b1, b2⟩ := b; cases b1 <;> cases b2 <;> first | exact Imp.refl _ | exact imp_ren qN (by kernel_rfl)) ?_ (fun p ⟨hk, hr⟩ => ?_) | fail) | (show thenQ _ _ _ _; first | refine then_n ?_ | refine then_x ?_ | fail) | (show blockQ _ _ _ _; first | refine block_n ?_ | refine block_x rfl ?_ | fail) | (show RetQ _ _ _ _ _ _; first | refine ret_leaf (.inl rfl) rfl rfl ?_ | fail) | (show DRun _ _ _ _ _ _ _ _; first | (show DRun _ _ _ _ (Oper.mk _ (Op.call _) _ _ _ (_) :: _) _ _ _; first | refine d_new envOk 11 rfl rfl rfl (step3_appendB (i := 10) rfl rfl rfl rfl rfl rfl rfl rfl (by first | omega | ((try simp only [decide_eq_true_eq, decide_eq_false_iff_not, List.length_map, List.length_cons, List.length_nil, List.length_append, List.length_take, List.length_drop, Int.toNat_natCast] at *); omega)) (by first | exact Nat.le_of_ble_eq_true rfl | omega | ((try simp only [decide_eq_true_eq, decide_eq_false_iff_not, List.length_map, List.length_cons, List.length_nil, List.length_append, List.length_take, List.length_drop, Int.toNat_natCast] at *); omega)) (Nat.le_of_ble_eq_true rfl)) rfl rfl ?_ | fail) | refine d_nil (by kernel_rfl) ?_ | refine d_e envOk rfl rfl rfl (step3_plain rfl rfl) ?_ | (show DRun _ _ _ _ (Oper.mk _ (Op.call _) _ _ _ (_) :: _) _ _ _; first | refine d_callD 16 rfl rfl rfl rfl rfl rfl rfl rfl (c129 _) rfl rfl ?_ | refine d_callD 16 rfl rfl rfl rfl rfl rfl rfl rfl (c144 _) rfl rfl ?_ | fail) | refine d_new envOk 3 rfl rfl rfl rfl rfl rfl ?_ | refine d_store envOk rfl rfl rfl ?_ | fail) | (show Exists _; first | refine Exists.intro ((p.1 + 1, p.2.take p.1 ++ [encCell (at_ cs p.1)])) (Exists.intro (true, false) ⟨?_, ?_, (by first | exact subL_nil | exact (subL_cons rfl subL_nil) | exact (subL_cons rfl (subL_cons rfl subL_nil)) | exact (subL_cons rfl (subL_cons rfl (subL_cons rfl subL_nil))) | exact (subL_cons rfl (subL_cons rfl (subL_cons rfl (subL_cons rfl subL_nil)))) | exact (subL_cons rfl (subL_cons rfl (subL_cons rfl (subL_cons rfl (subL_cons rfl subL_nil))))) | exact (subL_cons rfl (subL_cons rfl (subL_cons rfl (subL_cons rfl (subL_cons rfl (subL_cons rfl subL_nil)))))) | exact (subL_cons rfl (subL_cons rfl (subL_cons rfl (subL_cons rfl (subL_cons rfl (subL_cons rfl (subL_cons rfl subL_nil))))))) | exact (subL_cons rfl (subL_cons rfl (subL_cons rfl (subL_cons rfl (subL_cons rfl (subL_cons rfl (subL_cons rfl (subL_cons rfl subL_nil))))))))), (subL_cons rfl subL_nil), (subL_cons rfl (subL_cons rfl (subL_cons rfl (subL_cons rfl subL_nil))))⟩) | fail) | fail)
    · exact ⟨Nat.zero_le _, rfl⟩
    · have hlt : p.1 < cs.length := by simpa using h
      exact ⟨hlt, by show p.2.take p.1 ++ _ = _; rw [hr]; exact row_next _ _ hlt⟩
    · have hlt : p.1 < cs.length := by simpa using h
      show cs.length - (p.1 + 1) < cs.length - p.1
      omega
    · have hge : cs.length ≤ p.1 := by simpa using h
      show AV.tup [(true, [.d (encDims ds), .d (encAttrs ats), .d (.sl 2 48 (((sortF cs).map encCell).take p.1))]), _] = _
      rw [List.take_of_length_le (by simp only [List.length_map, sortF_length]; exact hge)]
      rfl
theorem c99e (ds : List Dim) (ats : List Attr) (cs : List Cell) (xs ys : List (List D)) (hd : cs.Pairwise diffC) (hx : xs = ds.map encDim) (hy : ys = cs.map encCell) : CallA Tryz.prog 99 [.one (.d (.sl 3 32 xs)), .one (.d (encAttrs ats)), .one (.d (.sl 2 48 ys))] [] (arrE (resF ds ats cs)) [] := by
  subst hx; subst hy; exact c99 ds ats cs hd
theorem c99k (ds : List Dim) (ats : List Attr) (cs : List Cell) (xs ys : List (List D)) (hd : cs.Pairwise diffC) (hf : cs.length ≤ 4096) (hx : xs = ds.map encDim) (hy : ys = cs.map encCell) : CallA Tryz.prog 99 [.one (.d (.sl 3 32 xs)), .one (.d (encAttrs ats)), .one (.d (.sl 2 48 ys))] [] (.tup [(true, [.d (encDims ds), .d (encAttrs ats), .d (encCells (sortF cs))]), (false, [.d (.int .i64 0)])]) [] := by
  have h := c99e ds ats cs xs ys hd hx hy
  unfold resF at h
  rw [if_neg (by omega)] at h
  exact h
end Go.Proofs.YtpejdgkaapnekaaGreat
namespace Go.Proofs.YtpejdgkaapnekaaGreat
open Go Go.Abs
attribute [local irreducible] OkOps OkC DRun thenQ blockQ RetQ
set_option maxRecDepth 10000
def smallA (a : Arr) : Prop := a.dims.length ≤ 1048576 ∧ a.attrs.length ≤ 1048576 ∧ a.cells.length ≤ 1048576 ∧ ∀ k, k < a.cells.length → (at_ a.cells k).at'.length ≤ 1048576 ∧ (at_ a.cells k).vals.length ≤ 1048576
theorem c22 (a : Arr) (hs : smallA a) : CallA Tryz.prog 22 [aggA a] [] (aggA a) [] := by
  have hcs := hs.2.2.1
  unfold aggA
  refine enter tabOk Tryz.func22 rfl (by decide +kernel) rfl fun hok w0 σ0 φ0 M => ?_
  clear hok
  repeat' (first | (show OkOps _ _ _ _ _ _; first | refine okops_nil ?_ | refine s_plain tabOk rfl rfl rfl rfl rfl ?_ | (show OkOps _ _ _ (Oper.mk _ (Op.binOp .add _ _ _ _) _ _ _ (_) :: _) _ _; first | refine s_e envOk rfl rfl rfl (step3_add rfl rfl rfl rfl (wrap64 (by omega) (by omega))) ?_ | fail) | (show OkOps _ _ _ (Oper.mk _ (Op.call _) _ _ _ (_) :: _) _ _; first | refine s_callD 16 rfl rfl rfl rfl rfl rfl rfl rfl (c94 _ _ hs.1 hs.2.1) rfl rfl rfl ?_ | fail) | (show OkOps _ _ _ (Oper.mk _ (Op.box _ _) _ _ _ (_) :: _) _ _; first | refine s_box 0 rfl rfl rfl rfl rfl rfl ?_ | fail) | (show OkOps _ _ _ (Oper.mk _ (Op.alloc _) _ _ _ (_) :: _) _ _; first | refine s_alloc tabOk 1 rfl rfl rfl rfl rfl ?_ | refine s_alloc tabOk 2 rfl rfl rfl rfl rfl ?_ | fail) | refine s_store envOk rfl rfl rfl ?_ | fail) | (show OkC _ _ _ _ _; first | refine okc_imp (imp_sealL (dl := [10]) rfl) (ok_ret ?_) | refine ok_seq ?_ | refine ok_region ?_ | refine ok_block ?_ | refine ok_skip ?_ | refine ok_exit ?_ | refine ok_cond rfl (fun h => ?_) (fun h => ?_) | refine ok_regionD progOk.mo ?_ | refine s_loopN 3 rfl (imp_adoptJ 2 2 10 (k := 2) (b := 48) rfl rfl (by kernel_rfl)) [(1, _), (2, _), (3, _)] (subL_cons rfl (subL_cons rfl (subL_cons rfl subL_nil))) (fun (bN : Bool × Bool) (p : Nat × List (List D)) => [(4, .one (.d (.int .i64 (p.1 : Int))))]) (fun (bN : Bool × Bool) (p : Nat × List (List D)) => [(2, .box [.d (encDims a.dims), .d (encAttrs a.attrs), .own (nmA bN) p.1]), ((nmA bN), .row 2 48 p.2), (1, .box [.d .nil, .d .nil, .d .nil]), (0, .box [.d (encDims a.dims), .d (encAttrs a.attrs), .d (encCells a.cells)])]) (fun (p : Nat × List (List D)) => p.1 ≤ a.cells.length ∧ p.2 = (a.cells.take p.1).map encCell) (fun (p : Nat × List (List D)) => a.cells.length - p.1) (0, []) (subL_cons rfl subL_nil) (by first | exact subL_nil | exact (subL_cons rfl subL_nil) | exact (subL_cons rfl (subL_cons rfl subL_nil)) | exact (subL_cons rfl (subL_cons rfl (subL_cons rfl subL_nil))) | exact (subL_cons rfl (subL_cons rfl (subL_cons rfl (subL_cons rfl subL_nil)))) | exact (subL_cons rfl (subL_cons rfl (subL_cons rfl (subL_cons rfl (subL_cons rfl subL_nil))))) | exact (subL_cons rfl (subL_cons rfl (subL_cons rfl (subL_cons rfl (subL_cons rfl (subL_cons rfl subL_nil)))))) | exact (subL_cons rfl (subL_cons rfl (subL_cons rfl (subL_cons rfl (subL_cons rfl (subL_cons rfl (subL_cons rfl subL_nil))))))) | exact (subL_cons rfl (subL_cons rfl (subL_cons rfl (subL_cons rfl (subL_cons rfl (subL_cons rfl (subL_cons rfl (subL_cons rfl subL_nil))))))))) (fun b y => by obtain ⟨b1, b2⟩ := b; cases b1 <;> cases b2 <;> first | exact Imp.refl _ | exact imp_ren qN (by kernel_rfl)) ?_ (fun p ⟨hk, hr⟩ => ?_) | fail) | (show thenQ _ _ _ _; first | refine then_n ?_ | refine then_x ?_ | fail) | (show blockQ _ _ _ _; first | refine block_n ?_ | refine block_x rfl ?_ | fail) | (show RetQ _ _ _ _ _ _; first | refine ret_leaf (.inl rfl) rfl rfl ?_ | fail) | (show DRun _ _ _ _ _ _ _ _; first | (show DRun _ _ _ _ (Oper.mk _ (Op.call _) _ _ _ (_) :: _) _ _ _; first | refine d_new envOk 11 rfl rfl rfl (step3_appendB (i := 10) rfl rfl rfl rfl rfl rfl rfl rfl (by first | omega | ((try simp only [decide_eq_true_eq, decide_eq_false_iff_not, List.length_map, List.length_cons, List.length_nil, List.length_append, List.length_take, List.length_drop, Int.toNat_natCast] at *); omega)) (by first | exact Nat.le_of_ble_eq_true rfl | omega | ((try simp only [decide_eq_true_eq, decide_eq_false_iff_not, List.length_map, List.length_cons, List.length_nil, List.length_append, List.length_take, List.length_drop, Int.toNat_natCast] at *); omega)) (Nat.le_of_ble_eq_true rfl)) rfl rfl ?_ | fail) | refine d_nil (by kernel_rfl) ?_ | refine d_e envOk rfl rfl rfl (step3_plain rfl rfl) ?_ | (show DRun _ _ _ _ (Oper.mk _ (Op.indexAddr _ _ _) _ _ _ (_) :: _) _ _ _; first | refine d_e envOk rfl rfl rfl (step3_idx rfl rfl rfl rfl rfl (by first | omega | ((try simp only [decide_eq_true_eq, decide_eq_false_iff_not, Bool.not_eq_true', Bool.not_true, Bool.not_false, List.length_map, List.length_set, bne_iff_ne, ne_eq, beq_iff_eq, bne_eq_false_iff_eq, beq_eq_false_iff_ne] at *); omega)) (at_map (by first | omega | ((try simp only [decide_eq_true_eq, decide_eq_false_iff_not, Bool.not_eq_true', Bool.not_true, Bool.not_false, List.length_map, List.length_set, bne_iff_ne, ne_eq, beq_iff_eq, bne_eq_false_iff_eq, beq_eq_false_iff_ne] at *); omega)))) ?_ | fail) | (show DRun _ _ _ _ (Oper.mk _ (Op.call _) _ _ _ (_) :: _) _ _ _; first | refine d_callD 16 rfl rfl rfl rfl rfl rfl rfl rfl (c95 _ (hs.2.2.2 _ (by first | omega | ((try simp only [decide_eq_true_eq, decide_eq_false_iff_not, Bool.not_eq_true', Bool.not_true, Bool.not_false, List.length_map, List.length_set, bne_iff_ne, ne_eq, beq_iff_eq, bne_eq_false_iff_eq, beq_eq_false_iff_ne] at *); omega))).1 (hs.2.2.2 _ (by first | omega | ((try simp only [decide_eq_true_eq, decide_eq_false_iff_not, Bool.not_eq_true', Bool.not_true, Bool.not_false, List.length_map, List.length_set, bne_iff_ne, ne_eq, beq_iff_eq, bne_eq_false_iff_eq, beq_eq_false_iff_ne] at *); omega))).2) rfl rfl ?_ | fail) | refine d_new envOk 3 rfl rfl rfl rfl rfl rfl ?_ | refine d_store envOk rfl rfl rfl ?_ | fail) | (show Exists _; first | refine Exists.intro ((p.1 + 1, p.2.take p.1 ++ [encCell (at_ a.cells p.1)])) (Exists.intro (true, false) ⟨?_, ?_, (by first | exact subL_nil | exact (subL_cons rfl subL_nil) | exact (subL_cons rfl (subL_cons rfl subL_nil)) | exact (subL_cons rfl (subL_cons rfl (subL_cons rfl subL_nil))) | exact (subL_cons rfl (subL_cons rfl (subL_cons rfl (subL_cons rfl subL_nil)))) | exact (subL_cons rfl (subL_cons rfl (subL_cons rfl (subL_cons rfl (subL_cons rfl subL_nil))))) | exact (subL_cons rfl (subL_cons rfl (subL_cons rfl (subL_cons rfl (subL_cons rfl (subL_cons rfl subL_nil)))))) | exact (subL_cons rfl (subL_cons rfl (subL_cons rfl (subL_cons rfl (subL_cons rfl (subL_cons rfl (subL_cons rfl subL_nil))))))) | exact (subL_cons rfl (subL_cons rfl (subL_cons rfl (subL_cons rfl (subL_cons rfl (subL_cons rfl (subL_cons rfl (subL_cons rfl subL_nil))))))))), (subL_cons rfl subL_nil), (subL_cons rfl (subL_cons rfl (subL_cons rfl subL_nil)))⟩) | fail) | fail)
  · exact ⟨Nat.zero_le _, rfl⟩
  · have hlt : p.1 < a.cells.length := by simpa using h
    exact ⟨hlt, by show p.2.take p.1 ++ _ = _; rw [hr]; exact row_next _ _ hlt⟩
  · have hlt : p.1 < a.cells.length := by simpa using h
    show a.cells.length - (p.1 + 1) < a.cells.length - p.1
    omega
  · have hge : a.cells.length ≤ p.1 := by simpa using h
    show AV.agg [.d (encDims a.dims), .d (encAttrs a.attrs), .d (.sl 2 48 (p.2.take p.1))] = _
    rw [hr, List.take_of_length_le (by simp; omega), List.take_of_length_le hge]
    rfl
end Go.Proofs.YtpejdgkaapnekaaGreat
namespace Go.Proofs.YtpejdgkaapnekaaGreat
open Go Go.Abs
theorem smallA_of {a : Arr} (h : fewA (1048571 + 3) a) : smallA a := by
  obtain ⟨h1, h2, h3, h4⟩ := h
  refine ⟨Nat.le_trans h1.1 (by omega), Nat.le_trans h2.1 (by omega), Nat.le_trans h3 (by omega), fun k hk => ?_⟩
  have := h4 _ (at_mem hk)
  exact ⟨Nat.le_trans this.1 (by omega), Nat.le_trans this.2 (by omega)⟩
end Go.Proofs.YtpejdgkaapnekaaGreat
namespace Go.Proofs.YtpejdgkaapnekaaGreat
open Go Go.Abs
def atX (ats : List Attr) (name : List UInt8) : Int := idxGo (fun a : Attr => a.name == name) ats 0
def srcF (ds : List Dim) (ats : List Attr) (name : List UInt8) : Int × Bool := if dimX ds name < 0 then (atX ats name, false) else (dimX ds name, true)
def srcT (ats : List Attr) (s : Int × Bool) : Int := bif s.2 then 2 else (at_ ats s.1.toNat).type
def ofS (s : Int × Bool) (c : Cell) : Val := bif s.2 then ⟨2, at_ c.at' s.1.toNat, 1, []⟩ else at_ c.vals s.1.toNat
def numsF (src : List (Int × Bool)) (c : Cell) : List Int := src.map fun s => (ofS s c).num
def movedF (src : List (Int × Bool)) (ds : List Dim) (c : Cell) : Option (List Int) :=
  if src.all (fun s => (ofS s c).kind == 2) then (if withinL ds (numsF src c) then some (numsF src c) else none) else none
def nextF (kept : List (Int × Bool)) (at' : List Int) (c : Cell) : Cell := ⟨at', kept.map fun s => ofS s c⟩
def hasAt (at' : List Int) (cs : List Cell) : Int := idxGo (fun x : Cell => x.at' == at') cs 0
def redStep (src kept : List (Int × Bool)) (ds : List Dim) (rule : Int) (cs : List Cell) (c : Cell) : Option (List Cell) :=
  match movedF src ds c with
  | none => some cs
  | some at' =>
    if hasAt at' cs < 0 then some (cs ++ [nextF kept at' c])
    else if rule = 1 then none
    else if rule = 3 then some (cs.set (hasAt at' cs).toNat (nextF kept at' c))
    else some cs
def redGo (src kept : List (Int × Bool)) (ds : List Dim) (rule : Int) : List Cell → List Cell → Option (List Cell)
  | cs, [] => some cs
  | cs, c :: r => match redStep src kept ds rule cs c with | none => none | some cs' => redGo src kept ds rule cs' r
def srcErr (a : Arr) : List Dim → Int
  | [] => 0
  | d :: r => if (srcF a.dims a.attrs d.name).1 < 0 then 11 else if !(srcF a.dims a.attrs d.name).2 && (at_ a.attrs (srcF a.dims a.attrs d.name).1.toNat).type != 2 then 12 else srcErr a r
def keptErr (a : Arr) : List (List UInt8) → Int
  | [] => 0
  | n :: r => if (srcF a.dims a.attrs n).1 < 0 then 11 else keptErr a r
def listF (a : Arr) (names : List (List UInt8)) : List Attr := names.map fun n => ⟨n, srcT a.attrs (srcF a.dims a.attrs n)⟩
def fromF (a : Arr) (ds : List Dim) : List (Int × Bool) := ds.map fun d => srcF a.dims a.attrs d.name
def keptF (a : Arr) (names : List (List UInt8)) : List (Int × Bool) := names.map fun n => srcF a.dims a.attrs n
def redErr (a : Arr) (ds : List Dim) (names : List (List UInt8)) : Int :=
  if srcErr a ds ≠ 0 then srcErr a ds else if keptErr a names ≠ 0 then keptErr a names else schemaF ds (listF a names)
def redF (a : Arr) (ds : List Dim) (names : List (List UInt8)) (rule : Int) : Option Arr × Int :=
  if checkF a.dims a.attrs a.cells ≠ 0 ∨ rule < 1 ∨ 3 < rule then (none, 2)
  else if redErr a ds names ≠ 0 then (none, redErr a ds names)
  else match redGo (fromF a ds) (keptF a names) ds rule [] a.cells with
    | none => (none, 19)
    | some cs => resF ds (listF a names) cs
end Go.Proofs.YtpejdgkaapnekaaGreat
namespace Go.Proofs.YtpejdgkaapnekaaGreat
open Go Go.Abs
theorem diff_keys {cs : List Cell} : cs.Pairwise diffC ↔ (cs.map Cell.at').Nodup := by
  unfold List.Nodup; rw [List.pairwise_map]; rfl
theorem idxGo_map {α β : Type} (f : α → β) (p : β → Bool) : ∀ (l : List α) (j : Nat), idxGo p (l.map f) j = idxGo (fun x => p (f x)) l j
  | [], _ => rfl
  | x :: l, j => by simp only [List.map_cons, idxGo, idxGo_map f p l (j + 1)]
theorem hasAt_keys {at' : List Int} {cs : List Cell} : hasAt at' cs = idxGo (fun k => k == at') (cs.map Cell.at') 0 := by
  unfold hasAt; rw [idxGo_map]
theorem idxGo_none {α : Type} {p : α → Bool} : ∀ {l : List α} {j : Nat}, idxGo p l j < 0 → ∀ x ∈ l, p x = false
  | [], _, _, _, h => by simp at h
  | x :: l, j, h, y, hy => by
    simp only [idxGo] at h
    split at h
    · omega
    · rename_i h1
      rcases List.mem_cons.1 hy with rfl | hy
      · simpa using h1
      · exact idxGo_none h y hy
theorem hasAt_none {at' : List Int} {cs : List Cell} (h : hasAt at' cs < 0) : ∀ x ∈ cs, x.at' ≠ at' := fun x hx => by
  have := idxGo_none h x hx
  simpa using this
theorem hasAt_some {at' : List Int} {cs : List Cell} (h : ¬ hasAt at' cs < 0) : ∃ k : Nat, hasAt at' cs = (k : Int) ∧ k < cs.length ∧ (at_ cs k).at' = at' := by
  obtain ⟨k, h1, h2, h3, _⟩ := idxGo_at h
  exact ⟨k, by unfold hasAt; rw [h1]; simp, h2, by simpa using h3⟩
theorem keys_set {cs : List Cell} {k : Nat} {y : Cell} (hk : k < cs.length) (h : (at_ cs k).at' = y.at') : (cs.set k y).map Cell.at' = cs.map Cell.at' := by
  refine at_ext (by simp) fun i hi => ?_
  simp only [List.length_map, List.length_set] at hi
  rw [at_mapN (by simpa using hi), at_mapN hi, at_set hi]
  split
  · rename_i e; subst e; exact h.symm
  · rfl
section
variable {src kept : List (Int × Bool)} {ds : List Dim} {rule : Int}
def keyStep (src : List (Int × Bool)) (ds : List Dim) (ks : List (List Int)) (c : Cell) : List (List Int) :=
  match movedF src ds c with
  | none => ks
  | some at' => if idxGo (fun k => k == at') ks 0 < 0 then ks ++ [at'] else ks
theorem step_keys {cs cs' : List Cell} {c : Cell} (h : redStep src kept ds rule cs c = some cs') : cs'.map Cell.at' = keyStep src ds (cs.map Cell.at') c := by
  cases e : movedF src ds c with
  | none => simp only [redStep, keyStep, e] at h ⊢; cases h; rfl
  | some at' =>
    simp only [redStep, keyStep, e] at h ⊢
    rw [← hasAt_keys]
    split at h
    · rename_i h1; cases h
      rw [if_pos h1]
      simp [nextF]
    · rename_i h1
      rw [if_neg h1]
      split at h
      · cases h
      split at h
      · cases h
        obtain ⟨k, h2, h3, h4⟩ := hasAt_some h1
        rw [h2, Int.toNat_natCast]
        exact keys_set h3 h4
      · cases h; rfl
theorem step_diff {cs cs' : List Cell} {c : Cell} (h : redStep src kept ds rule cs c = some cs') (hd : cs.Pairwise diffC) : cs'.Pairwise diffC := by
  rw [diff_keys] at hd ⊢
  rw [step_keys h]
  unfold keyStep
  split
  · exact hd
  · rename_i at' e
    split
    · rename_i h1
      refine List.nodup_append.2 ⟨hd, by simp, fun x hx y hy e2 => ?_⟩
      have := idxGo_none h1 x hx
      simp only [List.mem_singleton] at hy
      subst hy; subst e2
      simp at this
    · exact hd
theorem go_keys : ∀ {l cs cs' : List Cell}, redGo src kept ds rule cs l = some cs' → cs'.map Cell.at' = l.foldl (keyStep src ds) (cs.map Cell.at')
  | [], cs, cs', h => by cases h; rfl
  | c :: r, cs, cs', h => by
    simp only [redGo] at h
    split at h
    · cases h
    · rename_i cs1 h1
      rw [List.foldl_cons, ← step_keys h1]
      exact go_keys h
theorem keyStep_len {ks : List (List Int)} {c : Cell} : (keyStep src ds ks c).length ≤ ks.length + 1 := by
  unfold keyStep
  split
  · omega
  · split
    · simp
    · omega
theorem fold_len : ∀ {l : List Cell} {ks : List (List Int)}, (l.foldl (keyStep src ds) ks).length ≤ ks.length + l.length
  | [], ks => by simp
  | c :: l, ks => by
    rw [List.foldl_cons]
    have h1 := fold_len (l := l) (ks := keyStep src ds ks c)
    have h2 := keyStep_len (src := src) (ds := ds) (ks := ks) (c := c)
    simp only [List.length_cons]; omega
theorem go_len {l cs : List Cell} (h : redGo src kept ds rule [] l = some cs) : cs.length ≤ l.length := by
  have h1 := congrArg List.length (go_keys h)
  have h2 := fold_len (src := src) (ds := ds) (l := l) (ks := [])
  simp only [List.length_map, List.map_nil, List.length_nil] at h1 h2
  omega
end
theorem attrsGo_ok : ∀ {ats : List Attr} {met : List (List UInt8)}, attrsGo met ats = 0 → (∀ x ∈ ats, x.name ∉ met) ∧ (ats.map Attr.name).Nodup
  | [], _, _ => ⟨by simp, by simp⟩
  | x :: r, met, h => by
    simp only [attrsGo] at h
    split at h
    · omega
    split at h
    · omega
    rename_i h1 h2
    obtain ⟨i1, i2⟩ := attrsGo_ok h
    simp only [Bool.or_eq_true, Bool.not_eq_true', not_or, Bool.not_eq_false, Bool.not_eq_true, List.contains_eq_mem, decide_eq_true_eq, decide_eq_false_iff_not] at h1
    refine ⟨fun y hy => ?_, ?_⟩
    · rcases List.mem_cons.1 hy with rfl | hy
      · exact h1.2
      · exact fun hm => i1 y hy (List.mem_append.2 (.inl hm))
    · rw [List.map_cons, List.nodup_cons]
      refine ⟨fun hm => ?_, i2⟩
      obtain ⟨y, hy, he⟩ := List.mem_map.1 hm
      exact i1 y hy (by rw [he]; simp)
theorem srcF_ok {a : Arr} {name : List UInt8} (h : ¬ (srcF a.dims a.attrs name).1 < 0) : (∃ k : Nat, srcF a.dims a.attrs name = ((k : Int), true) ∧ k < a.dims.length ∧ (at_ a.dims k).name = name) ∨ ∃ k : Nat, srcF a.dims a.attrs name = ((k : Int), false) ∧ k < a.attrs.length ∧ (at_ a.attrs k).name = name := by
  unfold srcF at h ⊢
  by_cases h1 : dimX a.dims name < 0
  · rw [if_pos h1] at h ⊢
    obtain ⟨k, h2, h3, h4, _⟩ := idxGo_at h
    refine .inr ⟨k, ?_, h3, by simpa using h4⟩
    have : atX a.attrs name = (k : Int) := by unfold atX; rw [h2]; simp
    rw [this]
  · rw [if_neg h1]
    obtain ⟨k, h2, h3, h4, _⟩ := dimX_at h1
    exact .inl ⟨k, by rw [h2], h3, h4⟩
theorem keptErr_ok {a : Arr} : ∀ {names : List (List UInt8)}, keptErr a names = 0 → ∀ n ∈ names, ¬ (srcF a.dims a.attrs n).1 < 0
  | [], _, _, h => by simp at h
  | x :: r, h, n, hn => by
    simp only [keptErr] at h
    split at h
    · omega
    · rename_i h1
      rcases List.mem_cons.1 hn with rfl | hn
      · exact h1
      · exact keptErr_ok h n hn
theorem Attr.ext {a b : Attr} (h1 : a.name = b.name) (h2 : a.type = b.type) : a = b := by cases a; cases b; simp_all
end Go.Proofs.YtpejdgkaapnekaaGreat
namespace Go.Abs
open Go
variable {P : Program} {V : Env} {st : St} {o : Oper}
theorem step3_idxOwn {t e : TypeId} {x y : Operand} {id m k k' b b' : Nat} {ik : IntKind} {i : Int} {xs : List (List D)} {z : List D} (ho : o.op = .indexAddr t x y) (ht : sliceTy V.T t = some (e, k', b', z)) (hx : ev st x = some (.one (.own id m)))
    (hl : look st.sto id = some (.row k b xs)) (hk : Nat.beq k k' = true) (hy : ev st y = some (.one (.d (.int ik i)))) (h0 : 0 ≤ i) (hm : i < (m : Int)) : step3 V st o 0 = some ⟨.one (.rref id i.toNat 0), [], []⟩ := by
  simp only [step3, stepE, valF, ho, otherE, idxV, hx, hy, ht, hl, hk, h0, hm, decide_true, Bool.and_self, cond_true]
theorem step3_storeRow {t : TypeId} {x y : Operand} {id j off k b s : Nat} {g : Bool} {xs : List (List D)} {el el' ds : List D} {cs : List AC} {v : AV} (ho : o.op = .store t x y) (hd : o.dst = none) (hx : ev st x = some (.one (.rref id j off))) (hy : ev st y = some v) (hT : tySz V.T t = some (g, s))
    (hl : look st.sto id = some (.row k b xs)) (hc : cellsOf v = some cs) (hs : Nat.beq cs.length s = true) (ha : allD cs = some ds) (hj : xs[j]? = some el) (hsp : splice off ds el = some el') : step3 V st o 0 = some ⟨.any, [(id, some (.row k b (xs.set j el')))], []⟩ := by
  simp only [step3, stepE, valF, ho, otherE, hx, hy, hT, hl, hc, hs, ha, storeV, nth_eq, hj, hsp, cond_true]
  simp [hd, hasD]
theorem row_get {α : Type} [Inhabited α] {f : α → List D} {l : List α} {xs : List (List D)} {i : Nat} (h : xs = l.map f) (hi : i < xs.length) : xs[i]? = some (f (at_ l i)) := by
  subst h; exact at_map (by simpa using hi)
theorem step3_makeSlice {t e : TypeId} {x y : Operand} {id n k b d : Nat} {i j : Int} {z : List D} (ho : o.op = .makeSlice t x y) (hd : o.dst = some d) (ht : sliceTy V.T t = some (e, k, b, z)) (hx : ev st x = some (.one (.d (.int .i64 i)))) (hy : ev st y = some (.one (.d (.int .i64 j)))) (hi : i = (n : Int)) (hj : j = (n : Int)) (hn : n ≤ 1000) (hb : b ≤ 100) :
    step3 V st o id = some ⟨.one (.own id n), [(id, some (.row k b (List.replicate n z)))], [id]⟩ := by
  subst hi; subst hj
  have h1 : Nat.ble (n * b) 1000000 = true := Nat.ble_eq.mpr (Nat.le_trans (Nat.mul_le_mul hn hb) (by omega))
  have h2 : Nat.ble n 1000000 = true := Nat.ble_eq.mpr (by omega)
  have h3 : (0 : Int) ≤ (n : Int) := Int.natCast_nonneg n
  simp only [step3, stepE, valF, ho, otherE, newF, hx, hy, ht, hd, hasD, h3, decide_true, Int.toNat_natCast, h1, h2, Bool.and_self, cond_true]
end Go.Abs
namespace Go.Abs
open Go
def encPl (a : List Int) : List D := [.int .i64 (at_ a 0), .int .i64 (at_ a 1), .int .i64 (at_ a 2), .int .i64 (at_ a 3)]
theorem encPl_eq {a b : List Int} (h : a.length = b.length) (h4 : a.length ≤ 4) : eqDs (encPl a) (encPl b) = (a == b) := by
  have key : a = b ↔ at_ a 0 = at_ b 0 ∧ at_ a 1 = at_ b 1 ∧ at_ a 2 = at_ b 2 ∧ at_ a 3 = at_ b 3 := by
    constructor
    · rintro rfl; exact ⟨rfl, rfl, rfl, rfl⟩
    · rintro ⟨h0, h1, h2, h3⟩
      refine List.ext_getElem? fun i => ?_
      rcases Nat.lt_or_ge i a.length with hi | hi
      · rw [at_get hi, at_get (by omega)]
        have : i = 0 ∨ i = 1 ∨ i = 2 ∨ i = 3 := by omega
        rcases this with rfl | rfl | rfl | rfl
        · rw [h0]
        · rw [h1]
        · rw [h2]
        · rw [h3]
      · rw [List.getElem?_eq_none hi, List.getElem?_eq_none (by omega)]
  rw [Bool.eq_iff_iff]
  simp only [encPl, eqDs, eqD, Bool.and_true, Bool.and_eq_true, beq_iff_eq, key]
def encM (f : Nat → D) : List (List Int) → Nat → List (List D × List D)
  | [], _ => []
  | k :: r, i => (encPl k, [f i]) :: encM f r (i + 1)
def whereK (x : List Int) : List (List Int) → Nat → Option Nat
  | [], _ => none
  | k :: r, i => if k == x then some i else whereK x r (i + 1)
theorem findK_M {f : Nat → D} {x : List Int} (h4 : x.length ≤ 4) : ∀ {ks : List (List Int)} {n i : Nat}, (∀ k ∈ ks, k.length = x.length) →
    (whereK x ks n = none → findK (encPl x) (encM f ks n) i = none) ∧ ∀ j, whereK x ks n = some j → ∃ m, findK (encPl x) (encM f ks n) i = some (m, [f j])
  | [], n, i, _ => ⟨fun _ => rfl, fun j h => by cases h⟩
  | k :: r, n, i, h => by
    have hk := h k List.mem_cons_self
    have ih := findK_M (f := f) h4 (ks := r) (n := n + 1) (i := i + 1) fun y hy => h y (List.mem_cons_of_mem _ hy)
    have e := encPl_eq hk.symm h4
    have e2 : (k == x) = (x == k) := by rw [Bool.eq_iff_iff]; simp only [beq_iff_eq]; exact eq_comm
    simp only [whereK, encM, findK, e, e2]
    cases hb : (x == k) with
    | true => exact ⟨fun h => (by simp at h), fun j hj => ⟨i, by simp at hj; subst hj; rfl⟩⟩
    | false => simpa using ih
theorem updK_M {f : Nat → D} {x : List Int} (h4 : x.length ≤ 4) : ∀ {ks : List (List Int)} {n : Nat}, (∀ k ∈ ks, k.length = x.length) → whereK x ks n = none → updK (encPl x) [f (n + ks.length)] (encM f ks n) = encM f (ks ++ [x]) n
  | [], n, _, _ => rfl
  | k :: r, n, h, hw => by
    have hk := h k List.mem_cons_self
    have e := encPl_eq hk.symm h4
    have e2 : (k == x) = (x == k) := by rw [Bool.eq_iff_iff]; simp only [beq_iff_eq]; exact eq_comm
    simp only [whereK] at hw
    cases hb : (x == k) with
    | true => rw [e2, hb] at hw; simp at hw
    | false =>
      rw [e2, hb] at hw
      have ih := updK_M (f := f) h4 (ks := r) (n := n + 1) (fun y hy => h y (List.mem_cons_of_mem _ hy)) (by simpa using hw)
      have e3 : n + 1 + r.length = n + (k :: r).length := by simp only [List.length_cons]; omega
      rw [e3] at ih
      simp only [List.cons_append, encM, updK, e, hb, cond_false, ih]
def pk : List KK := [.int .i64, .int .i64, .int .i64, .int .i64]
theorem fitsAll_M {f : Nat → D} : ∀ {ks : List (List Int)} {n : Nat}, fitsAll pk (encM f ks n) = true
  | [], _ => rfl
  | k :: r, n => by
    simp only [encM, fitsAll, fitsAll_M (ks := r)]
    rfl
variable {V : Env} {st : St} {o : Oper}
def plAV (x : List Int) : AV := .agg [.d (.int .i64 (at_ x 0)), .d (.int .i64 (at_ x 1)), .d (.int .i64 (at_ x 2)), .d (.int .i64 (at_ x 3))]
theorem step3_lookM {t id : Nat} {m : MTy} {x y : Operand} {ok : Bool} {a : List Int} {f : Nat → D} {ks : List (List Int)} {v : AV} (ho : o.op = .lookup t x y ok) (hm : look V.M t = some m) (hms : m.ks = pk) (hk : m.kg = true) (hv : m.vg = false)
    (hx : ev st x = some (.one (.mapr id))) (hl : look st.sto id = some (.map true false (encM f ks 0))) (hy : ev st y = some (plAV a)) (h4 : a.length ≤ 4) (hks : ∀ k ∈ ks, k.length = a.length)
    (hr : (match whereK a ks 0 with | some j => outA false [f j] true ok | none => outA false m.z false ok) = some v) : step3 V st o 0 = some ⟨v, [], []⟩ := by
  have hd : dataOf true (plAV a) = some (encPl a) := rfl
  have hF := findK_M (f := f) h4 (ks := ks) (n := 0) (i := 0) hks
  have hlk : lookF m (encM f ks 0) (encPl a) ok = some v := by
    unfold lookF
    rw [hv]
    cases hw : whereK a ks 0 with
    | none => rw [hF.1 hw]; rw [hw] at hr; exact hr
    | some j =>
      obtain ⟨q, hq⟩ := hF.2 j hw
      rw [hq]; rw [hw] at hr; exact hr
  have e1 : stepE V.T st o 0 = none := by
    simp only [stepE, valF, ho, otherE, newF]
    cases o.dst <;> simp [hasD]
  simp only [step3, e1]
  rw [ho]
  simp only [hm, hx, hy, hl, hk, hd, hv, bEq, hms, fitsAll_M, hlk, cond_true]
  rfl
theorem step3_updM {t id : Nat} {m : MTy} {x y z : Operand} {a : List Int} {f : Nat → D} {ks : List (List Int)} {d : D} (ho : o.op = .mapUpdate t x y z) (hdst : o.dst = none) (hm : look V.M t = some m) (hms : m.ks = pk) (hk : m.kg = true) (hv : m.vg = false)
    (hx : ev st x = some (.one (.mapr id))) (hl : look st.sto id = some (.map true false (encM f ks 0))) (hy : ev st y = some (plAV a)) (hz : ev st z = some (.one (.d d))) (h4 : a.length ≤ 4) (hks : ∀ k ∈ ks, k.length = a.length)
    (hn : whereK a ks 0 = none) (hf : f ks.length = d) : step3 V st o 0 = some ⟨.any, [(id, some (.map true false (encM f (ks ++ [a]) 0)))], []⟩ := by
  have hd : dataOf true (plAV a) = some (encPl a) := rfl
  have hd2 : dataOf false (.one (.d d)) = some [d] := rfl
  have hU := updK_M (f := f) h4 (n := 0) hks hn
  rw [Nat.zero_add, hf] at hU
  have e1 : stepE V.T st o 0 = none := by
    simp only [stepE, valF, ho, otherE, newF, hdst]
    rfl
  simp only [step3, e1]
  rw [ho]
  simp only [hm, hx, hy, hz, hl, hk, hd, hd2, hv, bEq, hms, fitsAll_M, hU, hdst, cond_true]
  rfl
theorem step3_lookM0 {t id : Nat} {m : MTy} {x y : Operand} {a : List Int} {f : Nat → D} {ks : List (List Int)} (ho : o.op = .lookup t x y true) (hm : look V.M t = some m) (hms : m.ks = pk) (hk : m.kg = true) (hv : m.vg = false) (hz : m.z = [.int .i64 0])
    (hx : ev st x = some (.one (.mapr id))) (hl : look st.sto id = some (.map true false (encM f ks 0))) (hy : ev st y = some (plAV a)) (h4 : a.length ≤ 4) (hks : ∀ k ∈ ks, k.length = a.length)
    (hw : whereK a ks 0 = none) : step3 V st o 0 = some ⟨.tup [(false, [.d (.int .i64 0)]), (false, [.d (.bool false)])], [], []⟩ :=
  step3_lookM ho hm hms hk hv hx hl hy h4 hks (by rw [hw, hz]; rfl)
theorem step3_lookM1 {t id j : Nat} {m : MTy} {x y : Operand} {a : List Int} {f : Nat → D} {ks : List (List Int)} (ho : o.op = .lookup t x y true) (hm : look V.M t = some m) (hms : m.ks = pk) (hk : m.kg = true) (hv : m.vg = false)
    (hx : ev st x = some (.one (.mapr id))) (hl : look st.sto id = some (.map true false (encM f ks 0))) (hy : ev st y = some (plAV a)) (h4 : a.length ≤ 4) (hks : ∀ k ∈ ks, k.length = a.length)
    (hw : whereK a ks 0 = some j) : step3 V st o 0 = some ⟨.tup [(false, [.d (f j)]), (false, [.d (.bool true)])], [], []⟩ :=
  step3_lookM ho hm hms hk hv hx hl hy h4 hks (by rw [hw]; rfl)
theorem whereK_lt {x : List Int} : ∀ {ks : List (List Int)} {n j : Nat}, whereK x ks n = some j → n ≤ j ∧ j < n + ks.length
  | [], n, j, h => by cases h
  | k :: r, n, j, h => by
    simp only [whereK] at h
    split at h
    · cases h; simp only [List.length_cons]; omega
    · have := whereK_lt h
      simp only [List.length_cons]; omega
theorem whereK_ltI {x : List Int} {ks : List (List Int)} {j n : Nat} (h : whereK x ks 0 = some j) (hn : ks.length = n) : (j : Int) < (n : Int) := by have := whereK_lt h; omega
end Go.Abs
namespace Go.Proofs.YtpejdgkaapnekaaGreat
open Go Go.Abs
attribute [local irreducible] OkOps OkC DRun thenQ blockQ RetQ
set_option maxRecDepth 10000
def valC (v : Val) : AV := .agg [.d (.int .i64 v.kind), .d (.int .i64 v.num), .d (.int .i64 v.den), .d (.str v.str)]
def srcC (s : Int × Bool) : AV := .agg [.d (.int .i64 s.1), .d (.bool s.2)]
def encSrc (s : Int × Bool) : List D := [.int .i64 s.1, .bool s.2]
def encSrcs (l : List (Int × Bool)) : D := .sl 2 16 (l.map encSrc)
def okS (s : Int × Bool) (c : Cell) : Prop := 0 ≤ s.1 ∧ (s.2 = true → s.1.toNat < c.at'.length) ∧ (s.2 = false → s.1.toNat < c.vals.length)
theorem c185 (n : Int) : CallA Tryz.prog 185 [.one (.d (.int .i64 n))] [] (valC ⟨2, n, 1, []⟩) [] := by
  refine enter tabOk Tryz.func185 rfl (by decide +kernel) rfl fun hok w0 σ0 φ0 M => ?_
  clear hok
  repeat' (first | (show OkOps _ _ _ _ _ _; first | refine okops_nil ?_ | refine s_plain tabOk rfl rfl rfl rfl rfl ?_ | (show OkOps _ _ _ (Oper.mk _ (Op.alloc _) _ _ _ (_) :: _) _ _; first | refine s_alloc tabOk 0 rfl rfl rfl rfl rfl ?_ | fail) | refine s_store envOk rfl rfl rfl ?_ | fail) | (show OkC _ _ _ _ _; first | refine ok_seq ?_ | refine ok_region ?_ | refine ok_ret ?_ | fail) | (show thenQ _ _ _ _; first | refine then_n ?_ | fail) | (show RetQ _ _ _ _ _ _; first | refine ret_leaf (.inl rfl) rfl rfl ?_ | fail) | fail)
  all_goals rfl
theorem c110 (s : Int × Bool) (c : Cell) (h : okS s c) : CallA Tryz.prog 110 [srcC s, .agg [.d (encInts c.at'), .d (encVals c.vals)]] [] (valC (ofS s c)) [] := by
  obtain ⟨i, b⟩ := s
  obtain ⟨h0, h1, h2⟩ := h
  unfold srcC
  refine enter tabOk Tryz.func110 rfl (by decide +kernel) rfl fun hok w0 σ0 φ0 M => ?_
  clear hok
  dsimp only at h0 h1 h2
  cases b with
  | true =>
    replace h1 := h1 rfl
    clear h2
    repeat' (first | (show OkOps _ _ _ _ _ _; first | refine okops_nil ?_ | refine s_plain tabOk rfl rfl rfl rfl rfl ?_ | (show OkOps _ _ _ (Oper.mk _ (Op.indexAddr _ _ _) _ _ _ (_) :: _) _ _; first | refine s_e envOk rfl rfl rfl (step3_idx rfl rfl rfl rfl rfl (by omega) (at_map (by omega))) ?_ | fail) | (show OkOps _ _ _ (Oper.mk _ (Op.call _) _ _ _ (_) :: _) _ _; first | refine s_callF rfl rfl rfl rfl rfl rfl rfl rfl (c185 _) rfl ?_ | fail) | (show OkOps _ _ _ (Oper.mk _ (Op.box _ _) _ _ _ (_) :: _) _ _; first | refine s_box 0 rfl rfl rfl rfl rfl rfl ?_ | refine s_box 1 rfl rfl rfl rfl rfl rfl ?_ | fail) | (show OkOps _ _ _ (Oper.mk _ (Op.alloc _) _ _ _ (_) :: _) _ _; first | refine s_alloc tabOk 2 rfl rfl rfl rfl rfl ?_ | fail) | refine s_store envOk rfl rfl rfl ?_ | fail) | (show OkC _ _ _ _ _; first | refine ok_seq ?_ | refine ok_region ?_ | refine ok_ret ?_ | refine ok_condT rfl ?_ | fail) | (show thenQ _ _ _ _; first | refine then_n ?_ | refine then_r ?_ | fail) | (show RetQ _ _ _ _ _ _; first | refine ret_leaf (.inl rfl) rfl rfl ?_ | fail) | fail)
    all_goals rfl
  | false =>
    replace h2 := h2 rfl
    clear h1
    repeat' (first | (show OkOps _ _ _ _ _ _; first | refine okops_nil ?_ | refine s_plain tabOk rfl rfl rfl rfl rfl ?_ | (show OkOps _ _ _ (Oper.mk _ (Op.indexAddr _ _ _) _ _ _ (_) :: _) _ _; first | refine s_e envOk rfl rfl rfl (step3_idx rfl rfl rfl rfl rfl (by omega) (at_map (by omega))) ?_ | fail) | (show OkOps _ _ _ (Oper.mk _ (Op.box _ _) _ _ _ (_) :: _) _ _; first | refine s_box 0 rfl rfl rfl rfl rfl rfl ?_ | refine s_box 1 rfl rfl rfl rfl rfl rfl ?_ | fail) | (show OkOps _ _ _ (Oper.mk _ (Op.alloc _) _ _ _ (_) :: _) _ _; first | refine s_alloc tabOk 2 rfl rfl rfl rfl rfl ?_ | fail) | refine s_store envOk rfl rfl rfl ?_ | fail) | (show OkC _ _ _ _ _; first | refine ok_seq ?_ | refine ok_region ?_ | refine ok_skip ?_ | refine ok_ret ?_ | refine ok_condF rfl ?_ | fail) | (show thenQ _ _ _ _; first | refine then_n ?_ | fail) | (show RetQ _ _ _ _ _ _; first | refine ret_leaf (.inl rfl) rfl rfl ?_ | fail) | fail)
    all_goals rfl
theorem c107 (a : Arr) (name : List UInt8) : CallA Tryz.prog 107 [aggA a, .one (.d (.str name))] [] (.tup [(true, [.d (.int .i64 (srcF a.dims a.attrs name).1), .d (.bool (srcF a.dims a.attrs name).2)]), (false, [.d (.bool (decide (0 ≤ (srcF a.dims a.attrs name).1)))])]) [] := by
  unfold aggA
  refine enter tabOk Tryz.func107 rfl (by decide +kernel) rfl fun hok w0 σ0 φ0 M => ?_
  clear hok
  by_cases hd : dimX a.dims name < 0
  · have hb : decide (0 ≤ idxGo (fun a : Dim => a.name == name) a.dims 0) = false := by
      have h := hd
      unfold dimX at h
      simp; omega
    unfold srcF
    rw [if_pos hd]
    repeat' (first | (show OkOps _ _ _ _ _ _; first | refine okops_nil ?_ | refine s_plain tabOk rfl rfl rfl rfl rfl ?_ | (show OkOps _ _ _ (Oper.mk _ (Op.call _) _ _ _ (_) :: _) _ _; first | refine s_callF rfl rfl rfl rfl rfl rfl rfl rfl (c126 _ _ _ _) rfl ?_ | refine s_callF rfl rfl rfl rfl rfl rfl rfl rfl (c148 _ _ _ _) rfl ?_ | fail) | (show OkOps _ _ _ (Oper.mk _ (Op.box _ _) _ _ _ (_) :: _) _ _; first | refine s_box 0 rfl rfl rfl rfl rfl rfl ?_ | fail) | (show OkOps _ _ _ (Oper.mk _ (Op.alloc _) _ _ _ (_) :: _) _ _; first | refine s_alloc tabOk 1 rfl rfl rfl rfl rfl ?_ | fail) | refine s_store envOk rfl rfl rfl ?_ | fail) | (show OkC _ _ _ _ _; first | refine ok_seq ?_ | refine ok_region ?_ | refine ok_skip ?_ | refine ok_ret ?_ | refine ok_condKF rfl (by assumption) ?_ | fail) | (show thenQ _ _ _ _; first | refine then_n ?_ | fail) | (show RetQ _ _ _ _ _ _; first | refine ret_leaf (.inl rfl) rfl rfl ?_ | fail) | fail)
    all_goals rfl
  · have hb : decide (0 ≤ idxGo (fun a : Dim => a.name == name) a.dims 0) = true := by
      have h := hd
      unfold dimX at h
      simp; omega
    unfold srcF
    rw [if_neg hd]
    have hb' : decide (0 ≤ dimX a.dims name) = true := hb
    repeat' (first | (show OkOps _ _ _ _ _ _; first | refine okops_nil ?_ | refine s_plain tabOk rfl rfl rfl rfl rfl ?_ | (show OkOps _ _ _ (Oper.mk _ (Op.call _) _ _ _ (_) :: _) _ _; first | refine s_callF rfl rfl rfl rfl rfl rfl rfl rfl (c126 _ _ _ _) rfl ?_ | fail) | (show OkOps _ _ _ (Oper.mk _ (Op.box _ _) _ _ _ (_) :: _) _ _; first | refine s_box 0 rfl rfl rfl rfl rfl rfl ?_ | fail) | (show OkOps _ _ _ (Oper.mk _ (Op.alloc _) _ _ _ (_) :: _) _ _; first | refine s_alloc tabOk 1 rfl rfl rfl rfl rfl ?_ | fail) | refine s_store envOk rfl rfl rfl ?_ | fail) | (show OkC _ _ _ _ _; first | refine ok_seq ?_ | refine ok_region ?_ | refine ok_ret ?_ | refine ok_condKT rfl (by assumption) ?_ | fail) | (show thenQ _ _ _ _; first | refine then_n ?_ | refine then_r ?_ | fail) | (show RetQ _ _ _ _ _ _; first | refine ret_leaf (.inl rfl) rfl rfl ?_ | fail) | fail)
    show _ = AV.tup [(true, [.d (.int .i64 (dimX a.dims name)), .d (.bool true)]), (false, [.d (.bool (decide (0 ≤ dimX a.dims name)))])]
    rw [hb']
    rfl
theorem c111 (x : List Int) (h : x.length ≤ 4) : CallA Tryz.prog 111 [.one (.d (encInts x))] [] (plAV x) [] := by
  refine enter tabOk Tryz.func111 rfl (by decide +kernel) rfl fun hok w0 σ0 φ0 M => ?_
  clear hok
  match x, h with
  | [], _ =>
    repeat' (first | (show OkOps _ _ _ _ _ _; first | refine okops_nil ?_ | refine s_plain tabOk rfl rfl rfl rfl rfl ?_ | (show OkOps _ _ _ (Oper.mk _ (Op.alloc _) _ _ _ (_) :: _) _ _; first | refine s_alloc tabOk 0 rfl rfl rfl rfl rfl ?_ | refine s_alloc tabOk 1 rfl rfl rfl rfl rfl ?_ | fail) | refine s_store envOk rfl rfl rfl ?_ | refine s_e envOk rfl rfl rfl rfl ?_ | refine s_new envOk 0 rfl rfl rfl rfl rfl rfl ?_ | fail) | (show OkC _ _ _ _ _; first | refine ok_seq ?_ | refine ok_region ?_ | refine ok_ret ?_ | fail) | (show thenQ _ _ _ _; first | refine then_n ?_ | fail) | (show RetQ _ _ _ _ _ _; first | refine ret_leaf (.inl rfl) rfl rfl ?_ | fail) | fail)
    all_goals rfl
  | [a], _ =>
    repeat' (first | (show OkOps _ _ _ _ _ _; first | refine okops_nil ?_ | refine s_plain tabOk rfl rfl rfl rfl rfl ?_ | (show OkOps _ _ _ (Oper.mk _ (Op.alloc _) _ _ _ (_) :: _) _ _; first | refine s_alloc tabOk 0 rfl rfl rfl rfl rfl ?_ | refine s_alloc tabOk 1 rfl rfl rfl rfl rfl ?_ | fail) | refine s_store envOk rfl rfl rfl ?_ | refine s_e envOk rfl rfl rfl rfl ?_ | refine s_new envOk 0 rfl rfl rfl rfl rfl rfl ?_ | fail) | (show OkC _ _ _ _ _; first | refine ok_seq ?_ | refine ok_region ?_ | refine ok_ret ?_ | fail) | (show thenQ _ _ _ _; first | refine then_n ?_ | fail) | (show RetQ _ _ _ _ _ _; first | refine ret_leaf (.inl rfl) rfl rfl ?_ | fail) | fail)
    all_goals rfl
  | [a, b], _ =>
    repeat' (first | (show OkOps _ _ _ _ _ _; first | refine okops_nil ?_ | refine s_plain tabOk rfl rfl rfl rfl rfl ?_ | (show OkOps _ _ _ (Oper.mk _ (Op.alloc _) _ _ _ (_) :: _) _ _; first | refine s_alloc tabOk 0 rfl rfl rfl rfl rfl ?_ | refine s_alloc tabOk 1 rfl rfl rfl rfl rfl ?_ | fail) | refine s_store envOk rfl rfl rfl ?_ | refine s_e envOk rfl rfl rfl rfl ?_ | refine s_new envOk 0 rfl rfl rfl rfl rfl rfl ?_ | fail) | (show OkC _ _ _ _ _; first | refine ok_seq ?_ | refine ok_region ?_ | refine ok_ret ?_ | fail) | (show thenQ _ _ _ _; first | refine then_n ?_ | fail) | (show RetQ _ _ _ _ _ _; first | refine ret_leaf (.inl rfl) rfl rfl ?_ | fail) | fail)
    all_goals rfl
  | [a, b, c], _ =>
    repeat' (first | (show OkOps _ _ _ _ _ _; first | refine okops_nil ?_ | refine s_plain tabOk rfl rfl rfl rfl rfl ?_ | (show OkOps _ _ _ (Oper.mk _ (Op.alloc _) _ _ _ (_) :: _) _ _; first | refine s_alloc tabOk 0 rfl rfl rfl rfl rfl ?_ | refine s_alloc tabOk 1 rfl rfl rfl rfl rfl ?_ | fail) | refine s_store envOk rfl rfl rfl ?_ | refine s_e envOk rfl rfl rfl rfl ?_ | refine s_new envOk 0 rfl rfl rfl rfl rfl rfl ?_ | fail) | (show OkC _ _ _ _ _; first | refine ok_seq ?_ | refine ok_region ?_ | refine ok_ret ?_ | fail) | (show thenQ _ _ _ _; first | refine then_n ?_ | fail) | (show RetQ _ _ _ _ _ _; first | refine ret_leaf (.inl rfl) rfl rfl ?_ | fail) | fail)
    all_goals rfl
  | [a, b, c, d], _ =>
    repeat' (first | (show OkOps _ _ _ _ _ _; first | refine okops_nil ?_ | refine s_plain tabOk rfl rfl rfl rfl rfl ?_ | (show OkOps _ _ _ (Oper.mk _ (Op.alloc _) _ _ _ (_) :: _) _ _; first | refine s_alloc tabOk 0 rfl rfl rfl rfl rfl ?_ | refine s_alloc tabOk 1 rfl rfl rfl rfl rfl ?_ | fail) | refine s_store envOk rfl rfl rfl ?_ | refine s_e envOk rfl rfl rfl rfl ?_ | refine s_new envOk 0 rfl rfl rfl rfl rfl rfl ?_ | fail) | (show OkC _ _ _ _ _; first | refine ok_seq ?_ | refine ok_region ?_ | refine ok_ret ?_ | fail) | (show thenQ _ _ _ _; first | refine then_n ?_ | fail) | (show RetQ _ _ _ _ _ _; first | refine ret_leaf (.inl rfl) rfl rfl ?_ | fail) | fail)
    all_goals rfl
end Go.Proofs.YtpejdgkaapnekaaGreat
namespace Go.Proofs.YtpejdgkaapnekaaGreat
open Go Go.Abs
attribute [local irreducible] OkOps OkC DRun thenQ blockQ RetQ
set_option maxRecDepth 10000
def numMix (src : List (Int × Bool)) (c : Cell) (k : Nat) : List Int := (List.range src.length).map fun i => if i < k then (ofS (at_ src i) c).num else 0
section
variable {src : List (Int × Bool)} {c : Cell} {k : Nat}
theorem at_rng {n i : Nat} (h : i < n) : at_ (List.range n) i = i := by simp [at_, List.getD_eq_getElem?_getD, h]
theorem nmix_len : (numMix src c k).length = src.length := by simp [numMix]
theorem nmix_at {i : Nat} (h : i < src.length) : at_ (numMix src c k) i = if i < k then (ofS (at_ src i) c).num else 0 := by
  unfold numMix; rw [at_mapN (by simpa using h), at_rng h]
theorem nmix_zero : (numMix src c 0).map encInt = List.replicate src.length [.int .i64 0] := by
  refine at_ext (by simp [nmix_len]) fun i hi => ?_
  have hi' : i < src.length := by simpa [nmix_len] using hi
  rw [at_mapN (by rw [nmix_len]; exact hi'), nmix_at hi', if_neg (by omega)]
  simp [at_, List.getD_eq_getElem?_getD, hi', encInt]
theorem nmix_next (h : k < src.length) : ((numMix src c k).map encInt).set k (encInt (ofS (at_ src k) c).num) = (numMix src c (k + 1)).map encInt := by
  rw [← List.map_set]
  congr 1
  refine at_ext (by simp [nmix_len]) fun i hi => ?_
  have hi' : i < src.length := by simpa [nmix_len] using hi
  rw [at_set (by rw [nmix_len]; exact hi'), nmix_at hi', nmix_at hi']
  by_cases e : i = k
  · subst e; simp
  · by_cases h1 : i < k
    · rw [if_neg e, if_pos h1, if_pos (by omega)]
    · rw [if_neg e, if_neg h1, if_neg (by omega)]
theorem nmix_all : numMix src c src.length = numsF src c := by
  refine at_ext (by simp [nmix_len, numsF]) fun i hi => ?_
  rw [nmix_len] at hi
  rw [nmix_at hi, if_pos hi, numsF, at_mapN hi]
end
theorem c98g (ds : List Dim) (ys : List (List D)) (at' : List Int) (hy : ys = at'.map encInt) (hl : at'.length = ds.length) : CallA Tryz.prog 98 [.one (.d (encDims ds)), .one (.d (.sl 1 8 ys))] [] (.one (.d (.bool (withinL ds at')))) [] := by
  subst hy; exact c98 ds at' hl
def movedAV (src : List (Int × Bool)) (ds : List Dim) (c : Cell) : AV := if src.all (fun s => (ofS s c).kind == 2) then .tup [(false, [.d (encInts (numsF src c))]), (false, [.d (.bool (withinL ds (numsF src c)))])] else .tup [(false, [.d .nil]), (false, [.d (.bool false)])]
theorem c109 (c : Cell) (src : List (Int × Bool)) (ds : List Dim) (hl : src.length = ds.length) (h4 : src.length ≤ 1000) (hs : ∀ i, i < src.length → okS (at_ src i) c) : CallA Tryz.prog 109 [.agg [.d (encInts c.at'), .d (encVals c.vals)], .one (.d (encSrcs src)), .one (.d (encDims ds))] [] (movedAV src ds c) [] := by
  refine enter tabOk Tryz.func109 rfl (by decide +kernel) rfl fun hok w0 σ0 φ0 M => ?_
  clear hok
  have hnl : (numsF src c).length = ds.length := by simp [numsF, hl]
  repeat' (first | (show OkOps _ _ _ _ _ _; first | (show OkOps _ _ _ (Oper.mk _ (Op.makeSlice _ _ _) _ _ _ (_) :: _) _ _; first | refine s_new envOk 10 rfl rfl rfl (step3_makeSlice (n := src.length) rfl rfl rfl rfl rfl (by simp) (by simp) (by omega) (Nat.le_of_ble_eq_true rfl)) rfl rfl ?_ | fail) | (show OkOps _ _ _ (Oper.mk _ (Op.call _) _ _ _ (_) :: _) _ _; first | refine s_callF rfl rfl rfl rfl rfl rfl rfl rfl (c110 _ c (hs _ (by first | omega | ((try simp only [decide_eq_true_eq, decide_eq_false_iff_not, Bool.not_eq_true', Bool.not_true, Bool.not_false, List.length_map, List.length_set, bne_iff_ne, ne_eq, beq_iff_eq, bne_eq_false_iff_eq, beq_eq_false_iff_ne] at *); omega)))) rfl ?_ | fail) | (show OkOps _ _ _ (Oper.mk _ (Op.call _) _ _ _ (_) :: _) _ _; first | refine s_callFS [10] rfl rfl rfl rfl rfl rfl rfl rfl rfl (c98g ds _ (numsF src c) (by rw [List.take_of_length_le (by omega), hr, show p.1 = src.length from (by first | omega | ((try simp only [decide_eq_true_eq, decide_eq_false_iff_not, Bool.not_eq_true', Bool.not_true, Bool.not_false, List.length_map, List.length_set, bne_iff_ne, ne_eq, beq_iff_eq, bne_eq_false_iff_eq, beq_eq_false_iff_ne] at *); omega)), nmix_all]) hnl) rfl ?_ | fail) | refine okops_nil ?_ | refine s_plain tabOk rfl rfl rfl rfl rfl ?_ | (show OkOps _ _ _ (Oper.mk _ (Op.binOp .add _ _ _ _) _ _ _ (_) :: _) _ _; first | refine s_e envOk rfl rfl rfl (step3_add rfl rfl rfl rfl (wrap64 (by omega) (by omega))) ?_ | fail) | (show OkOps _ _ _ (Oper.mk _ (Op.indexAddr _ _ _) _ _ _ (_) :: _) _ _; first | refine s_e envOk rfl rfl rfl (step3_idxOwn rfl rfl rfl rfl rfl rfl (by first | omega | ((try simp only [decide_eq_true_eq, decide_eq_false_iff_not, Bool.not_eq_true', Bool.not_true, Bool.not_false, List.length_map, List.length_set, bne_iff_ne, ne_eq, beq_iff_eq, bne_eq_false_iff_eq, beq_eq_false_iff_ne] at *); omega)) (by first | omega | ((try simp only [decide_eq_true_eq, decide_eq_false_iff_not, Bool.not_eq_true', Bool.not_true, Bool.not_false, List.length_map, List.length_set, bne_iff_ne, ne_eq, beq_iff_eq, bne_eq_false_iff_eq, beq_eq_false_iff_ne] at *); omega))) ?_ | refine s_e envOk rfl rfl rfl (step3_idx rfl rfl rfl rfl rfl (by first | omega | ((try simp only [decide_eq_true_eq, decide_eq_false_iff_not, Bool.not_eq_true', Bool.not_true, Bool.not_false, List.length_map, List.length_set, bne_iff_ne, ne_eq, beq_iff_eq, bne_eq_false_iff_eq, beq_eq_false_iff_ne] at *); omega)) (at_map (by first | omega | ((try simp only [decide_eq_true_eq, decide_eq_false_iff_not, Bool.not_eq_true', Bool.not_true, Bool.not_false, List.length_map, List.length_set, bne_iff_ne, ne_eq, beq_iff_eq, bne_eq_false_iff_eq, beq_eq_false_iff_ne] at *); omega)))) ?_ | fail) | (show OkOps _ _ _ (Oper.mk _ (Op.box _ _) _ _ _ (_) :: _) _ _; first | refine s_box 0 rfl rfl rfl rfl rfl rfl ?_ | fail) | (show OkOps _ _ _ (Oper.mk _ (Op.alloc _) _ _ _ (_) :: _) _ _; first | refine s_alloc tabOk 1 rfl rfl rfl rfl rfl ?_ | refine s_alloc tabOk 2 rfl rfl rfl rfl rfl ?_ | fail) | refine s_store envOk rfl rfl (step3_storeRow rfl rfl rfl rfl rfl rfl rfl rfl rfl (row_get (by assumption) (by first | omega | ((try simp only [decide_eq_true_eq, decide_eq_false_iff_not, Bool.not_eq_true', Bool.not_true, Bool.not_false, List.length_map, List.length_set, bne_iff_ne, ne_eq, beq_iff_eq, bne_eq_false_iff_eq, beq_eq_false_iff_ne] at *); omega))) rfl) ?_ | refine s_store envOk rfl rfl rfl ?_ | fail) | (show OkC _ _ _ _ _; first | refine okc_imp (imp_sealL (dl := [10]) rfl) (ok_ret ?_) | refine ok_seq ?_ | refine ok_region ?_ | refine ok_block ?_ | refine ok_skip ?_ | refine ok_exit ?_ | refine ok_cond rfl (fun h => ?_) (fun h => ?_) | refine s_loopM 3 rfl [(2, _), (3, _), (8, _), (15, _), (16, _)] (subL_cons rfl (subL_cons rfl (subL_cons rfl (subL_cons rfl (subL_cons rfl subL_nil))))) (fun (p : Nat × List (List D)) => [(17, .one (.d (.int .i64 (p.1 : Int))))]) (fun (p : Nat × List (List D)) => [(10, .row 1 8 p.2), (0, .box [.d (encInts c.at'), .d (encVals c.vals)])]) (fun (p : Nat × List (List D)) => p.1 ≤ src.length ∧ p.2.length = src.length ∧ p.2 = (numMix src c p.1).map encInt ∧ (∀ i, i < p.1 → (ofS (at_ src i) c).kind = 2)) (fun (p : Nat × List (List D)) => src.length - p.1) (0, List.replicate src.length [.int .i64 0]) (subL_cons rfl subL_nil) (by first | exact subL_nil | exact (subL_cons rfl subL_nil) | exact (subL_cons rfl (subL_cons rfl subL_nil)) | exact (subL_cons rfl (subL_cons rfl (subL_cons rfl subL_nil))) | exact (subL_cons rfl (subL_cons rfl (subL_cons rfl (subL_cons rfl subL_nil)))) | exact (subL_cons rfl (subL_cons rfl (subL_cons rfl (subL_cons rfl (subL_cons rfl subL_nil))))) | exact (subL_cons rfl (subL_cons rfl (subL_cons rfl (subL_cons rfl (subL_cons rfl (subL_cons rfl subL_nil)))))) | exact (subL_cons rfl (subL_cons rfl (subL_cons rfl (subL_cons rfl (subL_cons rfl (subL_cons rfl (subL_cons rfl subL_nil))))))) | exact (subL_cons rfl (subL_cons rfl (subL_cons rfl (subL_cons rfl (subL_cons rfl (subL_cons rfl (subL_cons rfl (subL_cons rfl subL_nil))))))))) ?_ (fun p ⟨hk, hln, hr, ho⟩ => ?_) | fail) | (show thenQ _ _ _ _; first | refine then_n ?_ | refine then_r ?_ | refine then_x ?_ | fail) | (show blockQ _ _ _ _; first | refine block_n ?_ | refine block_r ?_ | refine block_x rfl ?_ | fail) | (show RetQ _ _ _ _ _ _; first | refine ret_leaf (.inl rfl) rfl rfl ?_ | fail) | (show Exists _; first | refine Exists.intro ((p.1 + 1, p.2.set p.1 [.int .i64 (ofS (at_ src p.1) c).num])) ⟨?_, ?_, (by first | exact subL_nil | exact (subL_cons rfl subL_nil) | exact (subL_cons rfl (subL_cons rfl subL_nil)) | exact (subL_cons rfl (subL_cons rfl (subL_cons rfl subL_nil))) | exact (subL_cons rfl (subL_cons rfl (subL_cons rfl (subL_cons rfl subL_nil)))) | exact (subL_cons rfl (subL_cons rfl (subL_cons rfl (subL_cons rfl (subL_cons rfl subL_nil))))) | exact (subL_cons rfl (subL_cons rfl (subL_cons rfl (subL_cons rfl (subL_cons rfl (subL_cons rfl subL_nil)))))) | exact (subL_cons rfl (subL_cons rfl (subL_cons rfl (subL_cons rfl (subL_cons rfl (subL_cons rfl (subL_cons rfl subL_nil))))))) | exact (subL_cons rfl (subL_cons rfl (subL_cons rfl (subL_cons rfl (subL_cons rfl (subL_cons rfl (subL_cons rfl (subL_cons rfl subL_nil))))))))), (subL_cons rfl subL_nil), (subL_cons rfl (subL_cons rfl (subL_cons rfl (subL_cons rfl (subL_cons rfl subL_nil)))))⟩ | fail) | fail)
  · exact ⟨Nat.zero_le _, by simp, nmix_zero.symm, fun i hi => absurd hi (Nat.not_lt_zero _)⟩
  · have hlt : p.1 < src.length := by simpa using ‹decide ((p.1 : Int) < ((src.map encSrc).length : Int)) = true›
    have hkd : ¬ (src.all (fun s => (ofS s c).kind == 2)) = true := by
      intro hall
      rw [List.all_eq_true] at hall
      have h2 := hall _ (at_mem hlt)
      have h3 : ((ofS (at_ src p.1) c).kind != 2) = true := h
      simp only [beq_iff_eq] at h2
      simp [h2] at h3
    unfold movedAV
    rw [if_neg hkd]
    rfl
  · have hlt : p.1 < src.length := by simpa using ‹decide ((p.1 : Int) < ((src.map encSrc).length : Int)) = true›
    have h3 : ((ofS (at_ src p.1) c).kind != 2) = false := h
    refine ⟨hlt, by simp [hln], ?_, fun i hi => ?_⟩
    · show p.2.set p.1 _ = _
      rw [hr]; exact nmix_next hlt
    · rcases Nat.lt_or_ge i p.1 with h5 | h5
      · exact ho i h5
      · have : i = p.1 := by have : i < p.1 + 1 := hi; omega
        rw [this]; simpa using h3
  · have hlt : p.1 < src.length := by simpa using ‹decide ((p.1 : Int) < ((src.map encSrc).length : Int)) = true›
    show src.length - (p.1 + 1) < src.length - p.1
    omega
  · have hpn : p.1 = src.length := by
      have : src.length ≤ p.1 := by simpa using h
      omega
    have hkd : (src.all (fun s => (ofS s c).kind == 2)) = true := by
      rw [List.all_eq_true]
      intro s hs'
      obtain ⟨i, hi, rfl⟩ := at_ofmem hs'
      have := ho i (by omega)
      simp [this]
    have e : p.2.take src.length = (numsF src c).map encInt := by rw [List.take_of_length_le (by omega), hr, hpn, nmix_all]
    unfold movedAV
    rw [if_pos hkd]
    show AV.tup [(false, [.d (.sl 1 8 (p.2.take src.length))]), _] = _
    rw [e]
    rfl
end Go.Proofs.YtpejdgkaapnekaaGreat
namespace Go.Proofs.YtpejdgkaapnekaaGreat
open Go Go.Abs
attribute [local irreducible] OkOps OkC DRun thenQ blockQ RetQ
set_option maxRecDepth 10000
def encName (s : List UInt8) : List D := [.str s]
def encNames (l : List (List UInt8)) : D := .sl 1 16 (l.map encName)
theorem srcA_pos {x : Int} (h : (!decide (0 ≤ x)) = false) : 0 ≤ x := by simpa using h
theorem srcA_lt {a : Arr} {n : List UInt8} (h : (!decide (0 ≤ (srcF a.dims a.attrs n).1)) = false) (h2 : (!(srcF a.dims a.attrs n).2) = true) : (srcF a.dims a.attrs n).1.toNat < a.attrs.length := by
  have h0 := srcA_pos h
  rcases srcF_ok (a := a) (name := n) (by omega) with ⟨k, e, _, _⟩ | ⟨k, e, h3, _⟩
  · rw [e] at h2; simp at h2
  · rw [e]; simpa using h3
theorem srcErr_step {a : Arr} {d : Dim} {r : List Dim} : srcErr a (d :: r) = if (srcF a.dims a.attrs d.name).1 < 0 then 11 else if !(srcF a.dims a.attrs d.name).2 && (at_ a.attrs (srcF a.dims a.attrs d.name).1.toNat).type != 2 then 12 else srcErr a r := rfl
theorem keptErr_step {a : Arr} {n : List UInt8} {r : List (List UInt8)} : keptErr a (n :: r) = if (srcF a.dims a.attrs n).1 < 0 then 11 else keptErr a r := rfl
theorem red_err {a : Arr} {ds : List Dim} {names : List (List UInt8)} {rule e : Int} (hc : chkA a = 0) (h1 : 1 ≤ rule) (h3 : rule ≤ 3) (he : redErr a ds names = e) (h0 : e ≠ 0) : redF a ds names rule = (none, e) := by
  unfold redF
  rw [if_neg (by unfold chkA at hc; omega), if_pos (by rw [he]; exact h0), he]
theorem srcErr_go {a : Arr} {d : Dim} {r : List Dim} (hf : 0 ≤ (srcF a.dims a.attrs d.name).1) (ht : (!(srcF a.dims a.attrs d.name).2 && (at_ a.attrs (srcF a.dims a.attrs d.name).1.toNat).type != 2) = false) : srcErr a (d :: r) = srcErr a r := by
  rw [srcErr_step, if_neg (by omega), if_neg (by rw [ht]; simp)]
theorem redErr_src {a : Arr} {ds : List Dim} {names : List (List UInt8)} {e : Int} (h : srcErr a ds = e) (h0 : e ≠ 0) : redErr a ds names = e := by
  unfold redErr; rw [if_pos (by rw [h]; exact h0), h]
theorem redErr_kept {a : Arr} {ds : List Dim} {names : List (List UInt8)} {e : Int} (h0 : srcErr a ds = 0) (h : keptErr a names = e) (h1 : e ≠ 0) : redErr a ds names = e := by
  unfold redErr; rw [if_neg (by rw [h0]; simp), if_pos (by rw [h]; exact h1), h]
theorem redErr_sch {a : Arr} {ds : List Dim} {names : List (List UInt8)} (h0 : srcErr a ds = 0) (h : keptErr a names = 0) : redErr a ds names = schemaF ds (listF a names) := by
  unfold redErr; rw [if_neg (by rw [h0]; simp), if_neg (by rw [h]; simp)]
theorem row_app {α : Type} [Inhabited α] (f : α → List D) (l : List α) {n : Nat} {r : List (List D)} (h : r = (l.take n).map f) (hlt : n < l.length) : r.take n ++ [f (at_ l n)] = (l.take (n + 1)).map f := by
  rw [h]; exact row_next f l hlt
theorem kept_row {a : Arr} {names : List (List UInt8)} {n : Nat} {r : List (List D)} (h : r = (names.take n).map (fun x => encSrc (srcF a.dims a.attrs x))) (hn : names.length ≤ n) : r.take n = (keptF a names).map encSrc := by
  rw [h, List.take_of_length_le (by simp; omega), List.take_of_length_le hn]; simp [keptF]
theorem list_row {a : Arr} {names : List (List UInt8)} {n : Nat} {r : List (List D)} (h : r = (names.take n).map (fun x => encAttr ⟨x, srcT a.attrs (srcF a.dims a.attrs x)⟩)) (hn : names.length ≤ n) : r.take n = (listF a names).map encAttr := by
  rw [h, List.take_of_length_le (by simp; omega), List.take_of_length_le hn]; simp [listF]
theorem src_okS {a : Arr} (hA : OkA a.dims a.attrs a.cells) {n : List UInt8} (h : ¬ (srcF a.dims a.attrs n).1 < 0) {c : Cell} (hc : c ∈ a.cells) : okS (srcF a.dims a.attrs n) c := by
  obtain ⟨e1, e2, e3, e4⟩ := cellF_ok.1 (hA.cel c hc)
  rcases srcF_ok h with ⟨k, h1, h2, h3⟩ | ⟨k, h1, h2, h3⟩
  · rw [h1]
    exact ⟨Int.natCast_nonneg _, fun _ => by show k < _; omega, fun h => by cases h⟩
  · rw [h1]
    exact ⟨Int.natCast_nonneg _, (fun h => by cases h), fun _ => by show k < _; omega⟩
theorem srcErr_ok {a : Arr} : ∀ {l : List Dim}, srcErr a l = 0 → ∀ d ∈ l, ¬ (srcF a.dims a.attrs d.name).1 < 0
  | [], _, _, h => by simp at h
  | x :: r, h, d, hd => by
    rw [srcErr_step] at h
    split at h
    · omega
    split at h
    · omega
    rename_i h1 h2
    rcases List.mem_cons.1 hd with rfl | hd
    · exact h1
    · exact srcErr_ok h d hd
section
variable {src kept : List (Int × Bool)} {ds : List Dim} {rule : Int} {c : Cell} {cs cs' l : List Cell} {x : List Int} {j : Nat}
theorem where_has {j : Nat} : whereK x (cs.map Cell.at') j = (if idxGo (fun c : Cell => c.at' == x) cs j < 0 then none else some (idxGo (fun c : Cell => c.at' == x) cs j).toNat) := by
  induction cs generalizing j with
  | nil => rfl
  | cons c r ih =>
    by_cases hb : (c.at' == x) = true
    · simp [whereK, idxGo, hb]
    · have hb' : (c.at' == x) = false := by simpa using hb
      simp only [List.map_cons, whereK, idxGo, hb', Bool.false_eq_true, if_false]
      exact ih
theorem opt_cases (o : Option Nat) : o = none ∨ ∃ j, o = some j := by cases o <;> simp
theorem hasAt_w0 (h : whereK x (cs.map Cell.at') 0 = none) : hasAt x cs < 0 := by
  rw [where_has] at h
  by_cases h1 : hasAt x cs < 0
  · exact h1
  · rw [if_neg (show ¬ idxGo (fun c : Cell => c.at' == x) cs 0 < 0 from h1)] at h; cases h
theorem hasAt_w1 (h : whereK x (cs.map Cell.at') 0 = some j) : hasAt x cs = (j : Int) := by
  rw [where_has] at h
  by_cases h1 : hasAt x cs < 0
  · rw [if_pos (show idxGo (fun c : Cell => c.at' == x) cs 0 < 0 from h1)] at h; cases h
  · rw [if_neg (show ¬ idxGo (fun c : Cell => c.at' == x) cs 0 < 0 from h1)] at h
    cases h
    have : hasAt x cs = idxGo (fun c : Cell => c.at' == x) cs 0 := rfl
    omega
theorem red_skip (hm : movedF src ds c = none) : redStep src kept ds rule cs c = some cs := by unfold redStep; rw [hm]
theorem red_new (hm : movedF src ds c = some x) (h : hasAt x cs < 0) : redStep src kept ds rule cs c = some (cs ++ [nextF kept x c]) := by
  unfold redStep; rw [hm]; exact if_pos h
theorem red_old1 (hm : movedF src ds c = some x) (h : hasAt x cs = (j : Int)) (h1 : rule = 1) : redStep src kept ds rule cs c = none := by
  unfold redStep; rw [hm]
  show (if _ then _ else if _ then _ else _) = _
  rw [if_neg (by omega), if_pos h1]
theorem red_old3 (hm : movedF src ds c = some x) (h : hasAt x cs = (j : Int)) (h3 : rule = 3) : redStep src kept ds rule cs c = some (cs.set j (nextF kept x c)) := by
  unfold redStep; rw [hm]
  show (if _ then _ else if _ then _ else if _ then _ else _) = _
  rw [if_neg (by omega), if_neg (by omega), if_pos h3, h, Int.toNat_natCast]
theorem red_old2 (hm : movedF src ds c = some x) (h : hasAt x cs = (j : Int)) (h1 : rule ≠ 1) (h3 : rule ≠ 3) : redStep src kept ds rule cs c = some cs := by
  unfold redStep; rw [hm]
  show (if _ then _ else if _ then _ else if _ then _ else _) = _
  rw [if_neg (by omega), if_neg h1, if_neg h3]
theorem go_step (h : redStep src kept ds rule cs c = some cs') : redGo src kept ds rule cs (c :: l) = redGo src kept ds rule cs' l := by simp only [redGo, h]
theorem go_stop (h : redStep src kept ds rule cs c = none) : redGo src kept ds rule cs (c :: l) = none := by simp only [redGo, h]
theorem moved_no (hm : ¬ src.all (fun s => (ofS s c).kind == 2) = true) : movedF src ds c = none := by unfold movedF; rw [if_neg hm]
theorem moved_out (hm : src.all (fun s => (ofS s c).kind == 2) = true) (hw : (!withinL ds (numsF src c)) = true) : movedF src ds c = none := by
  unfold movedF; rw [if_pos hm, if_neg (by simpa using hw)]
theorem moved_in (hm : src.all (fun s => (ofS s c).kind == 2) = true) (hw : (!withinL ds (numsF src c)) = false) : movedF src ds c = some (numsF src c) := by
  unfold movedF; rw [if_pos hm, if_pos (by simpa using hw)]
end
theorem redF_some {a : Arr} {ds : List Dim} {names : List (List UInt8)} {rule : Int} {cs : List Cell} (hc : chkA a = 0) (h1 : 1 ≤ rule) (h3 : rule ≤ 3) (hre : redErr a ds names = 0) (h : redGo (fromF a ds) (keptF a names) ds rule [] a.cells = some cs) (hl : cs.length ≤ 4096) : redF a ds names rule = (some ⟨ds, listF a names, sortF cs⟩, 0) := by
  unfold redF
  rw [if_neg (by unfold chkA at hc; omega), if_neg (by simp [hre]), h]
  simp only [resF]
  rw [if_neg (by omega)]
theorem redF_none {a : Arr} {ds : List Dim} {names : List (List UInt8)} {rule : Int} (hc : chkA a = 0) (h1 : 1 ≤ rule) (h3 : rule ≤ 3) (hre : redErr a ds names = 0) (h : redGo (fromF a ds) (keptF a names) ds rule [] a.cells = none) : redF a ds names rule = (none, 19) := by
  unfold redF
  rw [if_neg (by unfold chkA at hc; omega), if_neg (by simp [hre]), h]
theorem c109y (c : Cell) (src : List (Int × Bool)) (ds : List Dim) (hl : src.length = ds.length) (h4 : src.length ≤ 1000) (hs : ∀ i, i < src.length → okS (at_ src i) c) (hm : src.all (fun s => (ofS s c).kind == 2) = true) :
    CallA Tryz.prog 109 [.agg [.d (encInts c.at'), .d (encVals c.vals)], .one (.d (encSrcs src)), .one (.d (encDims ds))] [] (.tup [(false, [.d (encInts (numsF src c))]), (false, [.d (.bool (withinL ds (numsF src c)))])]) [] := by
  have h := c109 c src ds hl h4 hs
  unfold movedAV at h
  rw [if_pos hm] at h
  exact h
theorem c109n (c : Cell) (src : List (Int × Bool)) (ds : List Dim) (hl : src.length = ds.length) (h4 : src.length ≤ 1000) (hs : ∀ i, i < src.length → okS (at_ src i) c) (hm : ¬ src.all (fun s => (ofS s c).kind == 2) = true) :
    CallA Tryz.prog 109 [.agg [.d (encInts c.at'), .d (encVals c.vals)], .one (.d (encSrcs src)), .one (.d (encDims ds))] [] (.tup [(false, [.d .nil]), (false, [.d (.bool false)])]) [] := by
  have h := c109 c src ds hl h4 hs
  unfold movedAV at h
  rw [if_neg hm] at h
  exact h
set_option maxHeartbeats 8000000 in
theorem c29 (a : Arr) (ds : List Dim) (names : List (List UInt8)) (rule : Int) (hdl : ds.length ≤ 1048576) (hnames : names.length ≤ 1048576) : CallA Tryz.prog 29 [aggA a, .one (.d (encDims ds)), .one (.d (encNames names)), .one (.d (.int .i64 rule))] [] (arrE (redF a ds names rule)) [] := by
  unfold aggA
  refine enter tabOk Tryz.func29 rfl (by decide +kernel) rfl fun hok w0 σ0 φ0 M => ?_
  clear hok
  by_cases hg : chkA a = 0 ∧ 1 ≤ rule ∧ rule ≤ 3
  rotate_left
  · have e : redF a ds names rule = (none, 2) := by
      unfold redF
      rw [if_pos (by unfold chkA at hg; omega)]
    rw [e]
    by_cases hc : chkA a = 0
    · have hv : (!validF [a]) = false := by simp [validF, hc]
      by_cases h1 : rule < 1
      · have hb1 : decide (rule < 1) = true := by simp [h1]
        repeat' (first | (show OkOps _ _ _ _ _ _; first | (show OkOps _ _ _ (Oper.mk _ (Op.call _) _ _ _ (_) :: _) _ _; first | refine s_callFS [2] rfl rfl rfl rfl rfl rfl rfl rfl rfl (c96 [a]) rfl ?_ | fail) | refine okops_nil ?_ | refine s_plain tabOk rfl rfl rfl rfl rfl ?_ | (show OkOps _ _ _ (Oper.mk _ (_) _ _ _ (some _) :: _) _ _; first | refine s_guard rfl rfl (by first | assumption | rfl) ?_ | refine s_out rfl rfl (by first | assumption | rfl) rfl rfl ?_ | fail) | (show OkOps _ _ _ (Oper.mk _ (Op.pick _ _ _) _ _ _ (_) :: _) _ _; first | refine s_e envOk rfl rfl rfl (step3_pickT rfl rfl (by first | rfl | assumption) rfl) ?_ | refine s_e envOk rfl rfl rfl (step3_pickF rfl rfl (by first | rfl | assumption) rfl) ?_ | fail) | (show OkOps _ _ _ (Oper.mk _ (Op.box _ _) _ _ _ (_) :: _) _ _; first | refine s_box 0 rfl rfl rfl rfl rfl rfl ?_ | fail) | (show OkOps _ _ _ (Oper.mk _ (Op.alloc _) _ _ _ (_) :: _) _ _; first | refine s_alloc tabOk 1 rfl rfl rfl rfl rfl ?_ | fail) | refine s_store envOk rfl rfl rfl ?_ | refine s_new envOk 2 rfl rfl rfl rfl rfl rfl ?_ | fail) | (show OkC _ _ _ _ _; first | refine ok_seq ?_ | refine ok_region ?_ | refine ok_ret ?_ | refine ok_condT rfl ?_ | fail) | (show thenQ _ _ _ _; first | refine then_n ?_ | refine then_r ?_ | fail) | (show RetQ _ _ _ _ _ _; first | refine ret_leaf (.inl rfl) rfl rfl ?_ | fail) | fail)
        all_goals rfl
      · have hb1 : decide (rule < 1) = false := by simp [h1]
        have hb2 : decide (3 < rule) = true := by simp; omega
        repeat' (first | (show OkOps _ _ _ _ _ _; first | (show OkOps _ _ _ (Oper.mk _ (Op.call _) _ _ _ (_) :: _) _ _; first | refine s_callFS [2] rfl rfl rfl rfl rfl rfl rfl rfl rfl (c96 [a]) rfl ?_ | fail) | refine okops_nil ?_ | refine s_plain tabOk rfl rfl rfl rfl rfl ?_ | (show OkOps _ _ _ (Oper.mk _ (_) _ _ _ (some _) :: _) _ _; first | refine s_guard rfl rfl (by first | assumption | rfl) ?_ | fail) | (show OkOps _ _ _ (Oper.mk _ (Op.pick _ _ _) _ _ _ (_) :: _) _ _; first | refine s_e envOk rfl rfl rfl (step3_pickF rfl rfl (by first | rfl | assumption) rfl) ?_ | fail) | (show OkOps _ _ _ (Oper.mk _ (Op.box _ _) _ _ _ (_) :: _) _ _; first | refine s_box 0 rfl rfl rfl rfl rfl rfl ?_ | fail) | (show OkOps _ _ _ (Oper.mk _ (Op.alloc _) _ _ _ (_) :: _) _ _; first | refine s_alloc tabOk 1 rfl rfl rfl rfl rfl ?_ | fail) | refine s_store envOk rfl rfl rfl ?_ | refine s_new envOk 2 rfl rfl rfl rfl rfl rfl ?_ | fail) | (show OkC _ _ _ _ _; first | refine ok_seq ?_ | refine ok_region ?_ | refine ok_ret ?_ | refine ok_condKT rfl (by assumption) ?_ | fail) | (show thenQ _ _ _ _; first | refine then_n ?_ | refine then_r ?_ | fail) | (show RetQ _ _ _ _ _ _; first | refine ret_leaf (.inl rfl) rfl rfl ?_ | fail) | fail)
        all_goals rfl
    · have hv : (!validF [a]) = true := by simp [validF, hc]
      repeat' (first | (show OkOps _ _ _ _ _ _; first | (show OkOps _ _ _ (Oper.mk _ (Op.call _) _ _ _ (_) :: _) _ _; first | refine s_callFS [2] rfl rfl rfl rfl rfl rfl rfl rfl rfl (c96 [a]) rfl ?_ | fail) | refine okops_nil ?_ | refine s_plain tabOk rfl rfl rfl rfl rfl ?_ | (show OkOps _ _ _ (Oper.mk _ (_) _ _ _ (some _) :: _) _ _; first | refine s_out rfl rfl (by first | assumption | rfl) rfl rfl ?_ | fail) | (show OkOps _ _ _ (Oper.mk _ (Op.pick _ _ _) _ _ _ (_) :: _) _ _; first | refine s_e envOk rfl rfl rfl (step3_pickT rfl rfl (by first | rfl | assumption) rfl) ?_ | fail) | (show OkOps _ _ _ (Oper.mk _ (Op.box _ _) _ _ _ (_) :: _) _ _; first | refine s_box 0 rfl rfl rfl rfl rfl rfl ?_ | fail) | (show OkOps _ _ _ (Oper.mk _ (Op.alloc _) _ _ _ (_) :: _) _ _; first | refine s_alloc tabOk 1 rfl rfl rfl rfl rfl ?_ | fail) | refine s_store envOk rfl rfl rfl ?_ | refine s_new envOk 2 rfl rfl rfl rfl rfl rfl ?_ | fail) | (show OkC _ _ _ _ _; first | refine ok_seq ?_ | refine ok_region ?_ | refine ok_ret ?_ | refine ok_condT rfl ?_ | fail) | (show thenQ _ _ _ _; first | refine then_n ?_ | refine then_r ?_ | fail) | (show RetQ _ _ _ _ _ _; first | refine ret_leaf (.inl rfl) rfl rfl ?_ | fail) | fail)
      all_goals rfl
  obtain ⟨hc, h1, h3⟩ := hg
  have hv : (!validF [a]) = false := by simp [validF, hc]
  have hb1 : decide (rule < 1) = false := by simp; omega
  have hb2 : decide (3 < rule) = false := by simp; omega
  have hA := okA hc
  repeat' (first | (show OkOps _ _ _ _ _ _; first | (show OkOps _ _ _ (Oper.mk _ (Op.call _) _ _ _ (_) :: _) _ _; first | refine s_callFS [2] rfl rfl rfl rfl rfl rfl rfl rfl rfl (c96 [a]) rfl ?_ | fail) | (show OkOps _ _ _ (Oper.mk _ (Op.call _) _ _ _ (_) :: _) _ _; first | refine s_callF rfl rfl rfl rfl rfl rfl rfl rfl (c107 a _) rfl ?_ | fail) | (show OkOps _ _ _ (Oper.mk _ (Op.indexAddr _ _ _) _ _ _ (_) :: _) _ _; first | refine s_e envOk rfl rfl rfl (step3_idx rfl rfl rfl rfl rfl (srcA_pos (by assumption)) (at_map (srcA_lt (by assumption) (by assumption)))) ?_ | fail) | (show OkOps _ _ _ (Oper.mk _ (Op.call _) _ _ _ (_) :: _) _ _; first | refine s_append tabOk rfl rfl rfl rfl rfl rfl rfl rfl rfl rfl rfl rfl rfl (by first | omega | ((try simp only [decide_eq_true_eq, decide_eq_false_iff_not, List.length_map, List.length_cons, List.length_nil, List.length_append, List.length_take, List.length_drop, Int.toNat_natCast] at *); omega)) (by first | exact Nat.le_of_ble_eq_true rfl | omega | ((try simp only [decide_eq_true_eq, decide_eq_false_iff_not, List.length_map, List.length_cons, List.length_nil, List.length_append, List.length_take, List.length_drop, Int.toNat_natCast] at *); omega)) (Nat.le_of_ble_eq_true rfl) ?_ | fail) | refine okops_nil ?_ | refine s_plain tabOk rfl rfl rfl rfl rfl ?_ | (show OkOps _ _ _ (Oper.mk _ (_) _ _ _ (some _) :: _) _ _; first | refine s_guard rfl rfl (by first | assumption | rfl) ?_ | refine s_out rfl rfl (by first | assumption | rfl) rfl rfl ?_ | refine s_split rfl rfl rfl rfl (fun h => ?_) (fun h => ?_) | fail) | (show OkOps _ _ _ (Oper.mk _ (Op.binOp .add _ _ _ _) _ _ _ (_) :: _) _ _; first | refine s_e envOk rfl rfl rfl (step3_add rfl rfl rfl rfl (wrap64 (by omega) (by omega))) ?_ | fail) | (show OkOps _ _ _ (Oper.mk _ (Op.pick _ _ _) _ _ _ (_) :: _) _ _; first | refine s_e envOk rfl rfl rfl (step3_pickT rfl rfl (by first | rfl | assumption) rfl) ?_ | refine s_e envOk rfl rfl rfl (step3_pickF rfl rfl (by first | rfl | assumption) rfl) ?_ | fail) | (show OkOps _ _ _ (Oper.mk _ (Op.indexAddr _ _ _) _ _ _ (_) :: _) _ _; first | refine s_e envOk rfl rfl rfl (step3_idx rfl rfl rfl rfl rfl (by first | omega | ((try simp only [decide_eq_true_eq, decide_eq_false_iff_not, Bool.not_eq_true', Bool.not_true, Bool.not_false, List.length_map, List.length_set, bne_iff_ne, ne_eq, beq_iff_eq, bne_eq_false_iff_eq, beq_eq_false_iff_ne] at *); omega)) (at_map (by first | omega | ((try simp only [decide_eq_true_eq, decide_eq_false_iff_not, Bool.not_eq_true', Bool.not_true, Bool.not_false, List.length_map, List.length_set, bne_iff_ne, ne_eq, beq_iff_eq, bne_eq_false_iff_eq, beq_eq_false_iff_ne] at *); omega)))) ?_ | fail) | (show OkOps _ _ _ (Oper.mk _ (Op.box _ _) _ _ _ (_) :: _) _ _; first | refine s_box 0 rfl rfl rfl rfl rfl rfl ?_ | fail) | (show OkOps _ _ _ (Oper.mk _ (Op.alloc _) _ _ _ (_) :: _) _ _; first | refine s_alloc tabOk 1 rfl rfl rfl rfl rfl ?_ | refine s_alloc tabOk 2 rfl rfl rfl rfl rfl ?_ | refine s_alloc tabOk 3 rfl rfl rfl rfl rfl ?_ | fail) | refine s_store envOk rfl rfl rfl ?_ | refine s_new envOk 2 rfl rfl rfl rfl rfl rfl ?_ | refine s_new envOk 4 rfl rfl rfl rfl rfl rfl ?_ | fail) | (show OkC _ _ _ _ _; first | refine ok_seq ?_ | refine ok_region ?_ | refine ok_block ?_ | refine ok_skip ?_ | refine ok_ret ?_ | refine ok_exit ?_ | refine ok_condF rfl ?_ | refine ok_condKF rfl (by assumption) ?_ | refine ok_cond rfl (fun h => ?_) (fun h => ?_) | refine s_loopN 6 rfl (imp_adopt (s := 10) (id := 10) (k := 2) (b := 16) rfl rfl rfl rfl) [(1, _), (2, _), (3, _), (4, _), (8, _), (11, _), (12, _), (47, _), (48, _)] (subL_cons rfl (subL_cons rfl (subL_cons rfl (subL_cons rfl (subL_cons rfl (subL_cons rfl (subL_cons rfl (subL_cons rfl (subL_cons rfl subL_nil))))))))) (fun (bN : Bool × Bool) (p : Nat × List (List D)) => [(10, .one (.own 10 p.1)), (49, .one (.d (.int .i64 (p.1 : Int))))]) (fun (bN : Bool × Bool) (p : Nat × List (List D)) => [(10, .row 2 16 p.2), (0, .box [.d (encDims a.dims), .d (encAttrs a.attrs), .d (encCells a.cells)]), (1, .box [.d .nil, .d .nil, .d .nil])]) (fun (p : Nat × List (List D)) => p.1 ≤ ds.length ∧ p.2 = (ds.take p.1).map (fun d => encSrc (srcF a.dims a.attrs d.name)) ∧ srcErr a ds = srcErr a (ds.drop p.1)) (fun (p : Nat × List (List D)) => ds.length - p.1) (0, []) (subL_cons rfl (subL_cons rfl subL_nil)) (by first | exact subL_nil | exact (subL_cons rfl subL_nil) | exact (subL_cons rfl (subL_cons rfl subL_nil)) | exact (subL_cons rfl (subL_cons rfl (subL_cons rfl subL_nil))) | exact (subL_cons rfl (subL_cons rfl (subL_cons rfl (subL_cons rfl subL_nil)))) | exact (subL_cons rfl (subL_cons rfl (subL_cons rfl (subL_cons rfl (subL_cons rfl subL_nil))))) | exact (subL_cons rfl (subL_cons rfl (subL_cons rfl (subL_cons rfl (subL_cons rfl (subL_cons rfl subL_nil)))))) | exact (subL_cons rfl (subL_cons rfl (subL_cons rfl (subL_cons rfl (subL_cons rfl (subL_cons rfl (subL_cons rfl subL_nil))))))) | exact (subL_cons rfl (subL_cons rfl (subL_cons rfl (subL_cons rfl (subL_cons rfl (subL_cons rfl (subL_cons rfl (subL_cons rfl subL_nil))))))))) (fun b y => by obtain ⟨b1, b2⟩ := b; cases b1 <;> cases b2 <;> first | exact Imp.refl _ | exact imp_ren qN (by kernel_rfl)) ?_ (fun p ⟨hp1, hp2, hp3⟩ => ?_) | fail) | (show thenQ _ _ _ _; first | refine then_n ?_ | refine then_r ?_ | refine then_x ?_ | fail) | (show blockQ _ _ _ _; first | refine block_n ?_ | refine block_r ?_ | refine block_x rfl ?_ | fail) | (show RetQ _ _ _ _ _ _; first | refine ret_leaf (.inl rfl) rfl rfl ?_ | fail) | (show Exists _; first | refine Exists.intro ((p.1 + 1, p.2.take p.1 ++ [[.int .i64 (srcF a.dims a.attrs (at_ ds p.1).name).1, .bool (srcF a.dims a.attrs (at_ ds p.1).name).2]])) (Exists.intro (false, false) ⟨?_, ?_, (by first | exact subL_nil | exact (subL_cons rfl subL_nil) | exact (subL_cons rfl (subL_cons rfl subL_nil)) | exact (subL_cons rfl (subL_cons rfl (subL_cons rfl subL_nil))) | exact (subL_cons rfl (subL_cons rfl (subL_cons rfl (subL_cons rfl subL_nil)))) | exact (subL_cons rfl (subL_cons rfl (subL_cons rfl (subL_cons rfl (subL_cons rfl subL_nil))))) | exact (subL_cons rfl (subL_cons rfl (subL_cons rfl (subL_cons rfl (subL_cons rfl (subL_cons rfl subL_nil)))))) | exact (subL_cons rfl (subL_cons rfl (subL_cons rfl (subL_cons rfl (subL_cons rfl (subL_cons rfl (subL_cons rfl subL_nil))))))) | exact (subL_cons rfl (subL_cons rfl (subL_cons rfl (subL_cons rfl (subL_cons rfl (subL_cons rfl (subL_cons rfl (subL_cons rfl subL_nil))))))))), (subL_cons rfl (subL_cons rfl subL_nil)), (subL_cons rfl (subL_cons rfl (subL_cons rfl (subL_cons rfl (subL_cons rfl (subL_cons rfl (subL_cons rfl (subL_cons rfl (subL_cons rfl subL_nil)))))))))⟩) | fail) | fail)
  · exact ⟨Nat.zero_le _, rfl, rfl⟩
  · have hlt : p.1 < ds.length := by simpa using ‹decide ((p.1 : Int) < ((ds.map encDim).length : Int)) = true›
    have hs := srcErr_step (a := a) (d := at_ ds p.1) (r := ds.drop (p.1 + 1))
    rw [← at_drop hlt, ← hp3] at hs
    have h' : (!decide (0 ≤ (srcF a.dims a.attrs (at_ ds p.1).name).1)) = true := h
    rw [if_pos (by simp at h'; omega)] at hs
    rw [red_err hc h1 h3 (redErr_src hs (by decide)) (by decide)]
    rfl
  · have hlt : p.1 < ds.length := by simpa using ‹decide ((p.1 : Int) < ((ds.map encDim).length : Int)) = true›
    have hs := srcErr_step (a := a) (d := at_ ds p.1) (r := ds.drop (p.1 + 1))
    rw [← at_drop hlt, ← hp3] at hs
    have h4 : 0 ≤ (srcF a.dims a.attrs (at_ ds p.1).name).1 := srcA_pos (by assumption)
    have h5 : (!(srcF a.dims a.attrs (at_ ds p.1).name).2) = true := by assumption
    have h6 : ((at_ a.attrs (srcF a.dims a.attrs (at_ ds p.1).name).1.toNat).type != 2) = true := h
    rw [if_neg (by omega), if_pos (by rw [h5, h6]; rfl)] at hs
    rw [red_err hc h1 h3 (redErr_src hs (by decide)) (by decide)]
    rfl
  · have hlt : p.1 < ds.length := by simpa using ‹decide ((p.1 : Int) < ((ds.map encDim).length : Int)) = true›
    have h4 : 0 ≤ (srcF a.dims a.attrs (at_ ds p.1).name).1 := srcA_pos (by assumption)
    have h6 : ((at_ a.attrs (srcF a.dims a.attrs (at_ ds p.1).name).1.toNat).type != 2) = false := h
    refine ⟨hlt, row_app _ ds hp2 hlt, ?_⟩
    rw [hp3, at_drop hlt]
    exact srcErr_go h4 (by rw [h6, Bool.and_false])
  · have hlt : p.1 < ds.length := by simpa using ‹decide ((p.1 : Int) < ((ds.map encDim).length : Int)) = true›
    show ds.length - (p.1 + 1) < ds.length - p.1
    omega
  · have hlt : p.1 < ds.length := by simpa using ‹decide ((p.1 : Int) < ((ds.map encDim).length : Int)) = true›
    have h4 : 0 ≤ (srcF a.dims a.attrs (at_ ds p.1).name).1 := srcA_pos (by assumption)
    have h5 : (!(srcF a.dims a.attrs (at_ ds p.1).name).2) = false := h
    refine ⟨hlt, row_app _ ds hp2 hlt, ?_⟩
    rw [hp3, at_drop hlt]
    exact srcErr_go h4 (by rw [h5, Bool.false_and])
  · have hlt : p.1 < ds.length := by simpa using ‹decide ((p.1 : Int) < ((ds.map encDim).length : Int)) = true›
    show ds.length - (p.1 + 1) < ds.length - p.1
    omega
  have hpn : p.1 = ds.length := by
    have : ds.length ≤ p.1 := by simpa using h
    omega
  have hse : srcErr a ds = 0 := by rw [hp3, hpn, List.drop_length]; rfl
  have hfX : p.2.take p.1 = (fromF a ds).map encSrc := by
    rw [List.take_of_length_le (by rw [hp2]; simp; omega), hp2, hpn, List.take_length]
    simp [fromF]
  refine okc_imp (st' := ⟨[(1, .one (.d (encDims ds))), (3, .one (.d (.int .i64 rule))), (4, .one (.ref 0 0)), (8, .one (.ref 1 0)), (10, .one (.d (encSrcs (fromF a ds)))), (11, .one (.d .nil)), (12, .one (.d .nil)), (84, .one (.d (encNames names))), (85, .one (.d (.int .i64 ((names.map encName).length : Int)))), (86, .one (.d (.int .i64 0)))],
    [(0, .box [.d (encDims a.dims), .d (encAttrs a.attrs), .d (encCells a.cells)]), (1, .box [.d .nil, .d .nil, .d .nil])]⟩) (Imp.trans (imp_sealL (dl := [10]) rfl) (imp_sub (subL_cons rfl (subL_cons rfl (subL_cons rfl (subL_cons rfl (subL_cons (congrArg (fun x => some (AV.one (AC.d (D.sl 2 16 x)))) hfX) (subL_cons rfl (subL_cons rfl (subL_cons rfl (subL_cons rfl (subL_cons rfl subL_nil)))))))))) (subL_cons rfl (subL_cons rfl subL_nil)))) ?_
  clear h hp1 hp2 hp3 hpn hfX
  repeat' (first | (show OkOps _ _ _ _ _ _; first | (show OkOps _ _ _ (Oper.mk _ (Op.call _) _ _ _ (_) :: _) _ _; first | refine s_callF rfl rfl rfl rfl rfl rfl rfl rfl (c107 a _) rfl ?_ | fail) | (show OkOps _ _ _ (Oper.mk _ (Op.indexAddr _ _ _) _ _ _ (_) :: _) _ _; first | refine s_e envOk rfl rfl rfl (step3_idx rfl rfl rfl rfl rfl (srcA_pos (by assumption)) (at_map (srcA_lt (by assumption) (by assumption)))) ?_ | fail) | (show OkOps _ _ _ (Oper.mk _ (Op.makeMap _ _) _ _ _ (_) :: _) _ _; first | refine s_new envOk 14 rfl rfl rfl rfl rfl rfl ?_ | fail) | (show OkOps _ _ _ (Oper.mk _ (Op.call _) _ _ _ (_) :: _) _ _; first | refine s_append tabOk rfl rfl rfl rfl rfl rfl rfl rfl rfl rfl rfl rfl rfl (by first | omega | ((try simp only [decide_eq_true_eq, decide_eq_false_iff_not, List.length_map, List.length_cons, List.length_nil, List.length_append, List.length_take, List.length_drop, Int.toNat_natCast] at *); omega)) (by first | exact Nat.le_of_ble_eq_true rfl | omega | ((try simp only [decide_eq_true_eq, decide_eq_false_iff_not, List.length_map, List.length_cons, List.length_nil, List.length_append, List.length_take, List.length_drop, Int.toNat_natCast] at *); omega)) (Nat.le_of_ble_eq_true rfl) ?_ | fail) | refine okops_nil ?_ | refine s_plain tabOk rfl rfl rfl rfl rfl ?_ | (show OkOps _ _ _ (Oper.mk _ (Op.binOp .add _ _ _ _) _ _ _ (_) :: _) _ _; first | refine s_e envOk rfl rfl rfl (step3_add rfl rfl rfl rfl (wrap64 (by omega) (by omega))) ?_ | fail) | (show OkOps _ _ _ (Oper.mk _ (Op.indexAddr _ _ _) _ _ _ (_) :: _) _ _; first | refine s_e envOk rfl rfl rfl (step3_idx rfl rfl rfl rfl rfl (by first | omega | ((try simp only [decide_eq_true_eq, decide_eq_false_iff_not, Bool.not_eq_true', Bool.not_true, Bool.not_false, List.length_map, List.length_set, bne_iff_ne, ne_eq, beq_iff_eq, bne_eq_false_iff_eq, beq_eq_false_iff_ne] at *); omega)) (at_map (by first | omega | ((try simp only [decide_eq_true_eq, decide_eq_false_iff_not, Bool.not_eq_true', Bool.not_true, Bool.not_false, List.length_map, List.length_set, bne_iff_ne, ne_eq, beq_iff_eq, bne_eq_false_iff_eq, beq_eq_false_iff_ne] at *); omega)))) ?_ | fail) | (show OkOps _ _ _ (Oper.mk _ (Op.call _) _ _ _ (_) :: _) _ _; first | refine s_callF rfl rfl rfl rfl rfl rfl rfl rfl (c108 _ _) rfl ?_ | fail) | (show OkOps _ _ _ (Oper.mk _ (Op.alloc _) _ _ _ (_) :: _) _ _; first | refine s_alloc tabOk 2 rfl rfl rfl rfl rfl ?_ | fail) | refine s_store envOk rfl rfl rfl ?_ | refine s_new envOk 3 rfl rfl rfl rfl rfl rfl ?_ | refine s_new envOk 4 rfl rfl rfl rfl rfl rfl ?_ | fail) | (show OkC _ _ _ _ _; first | (show OkC _ _ (Code.region 26 _ _) _ _; refine okc_imp (st' := ⟨[(1, .one (.d (encDims ds))), (3, .one (.d (.int .i64 rule))), (4, .one (.ref 0 0)), (8, .one (.ref 1 0)), (10, .one (.d (encSrcs (fromF a ds)))), (11, .one (.d (encSrcs (keptF a names)))), (12, .one (.d (encAttrs (listF a names))))], [(0, .box [.d (encDims a.dims), .d (encAttrs a.attrs), .d (encCells a.cells)]), (1, .box [.d .nil, .d .nil, .d .nil])]⟩) (Imp.trans (imp_sealL (dl := [11, 12]) rfl) (imp_sub (subL_cons rfl (subL_cons rfl (subL_cons rfl (subL_cons rfl (subL_cons rfl (subL_cons (congrArg (fun x => some (AV.one (AC.d (D.sl 2 16 x)))) (kept_row hq2 (by first | omega | ((try simp only [decide_eq_true_eq, decide_eq_false_iff_not, Bool.not_eq_true', Bool.not_true, Bool.not_false, List.length_map, List.length_set, bne_iff_ne, ne_eq, beq_iff_eq, bne_eq_false_iff_eq, beq_eq_false_iff_ne] at *); omega)))) (subL_cons (congrArg (fun x => some (AV.one (AC.d (D.sl 2 24 x)))) (list_row hq3 (by first | omega | ((try simp only [decide_eq_true_eq, decide_eq_false_iff_not, Bool.not_eq_true', Bool.not_true, Bool.not_false, List.length_map, List.length_set, bne_iff_ne, ne_eq, beq_iff_eq, bne_eq_false_iff_eq, beq_eq_false_iff_ne] at *); omega)))) subL_nil))))))) (subL_cons rfl (subL_cons rfl subL_nil)))) ?_) | refine ok_seq ?_ | refine ok_region ?_ | refine ok_block ?_ | refine ok_skip ?_ | refine ok_ret ?_ | refine ok_exit ?_ | refine ok_cond rfl (fun h => ?_) (fun h => ?_) | refine s_loopN 16 rfl (Imp.trans (imp_adopt (s := 11) (id := 11) (k := 2) (b := 16) rfl rfl rfl rfl) (imp_adopt (s := 12) (id := 12) (k := 2) (b := 24) rfl rfl rfl rfl)) [(1, _), (3, _), (4, _), (8, _), (10, _), (84, _), (85, _)] (subL_cons rfl (subL_cons rfl (subL_cons rfl (subL_cons rfl (subL_cons rfl (subL_cons rfl (subL_cons rfl subL_nil))))))) (fun (bN : Bool × Bool) (q : Nat × List (List D) × List (List D)) => [(11, .one (.own 11 q.1)), (12, .one (.own 12 q.1)), (86, .one (.d (.int .i64 (q.1 : Int))))]) (fun (bN : Bool × Bool) (q : Nat × List (List D) × List (List D)) => [(11, .row 2 16 q.2.1), (12, .row 2 24 q.2.2), (0, .box [.d (encDims a.dims), .d (encAttrs a.attrs), .d (encCells a.cells)]), (1, .box [.d .nil, .d .nil, .d .nil])]) (fun (q : Nat × List (List D) × List (List D)) => q.1 ≤ names.length ∧ q.2.1 = (names.take q.1).map (fun n => encSrc (srcF a.dims a.attrs n)) ∧ q.2.2 = (names.take q.1).map (fun n => encAttr ⟨n, srcT a.attrs (srcF a.dims a.attrs n)⟩) ∧ keptErr a names = keptErr a (names.drop q.1)) (fun (q : Nat × List (List D) × List (List D)) => names.length - q.1) (0, [], []) (subL_cons rfl (subL_cons rfl (subL_cons rfl subL_nil))) (by first | exact subL_nil | exact (subL_cons rfl subL_nil) | exact (subL_cons rfl (subL_cons rfl subL_nil)) | exact (subL_cons rfl (subL_cons rfl (subL_cons rfl subL_nil))) | exact (subL_cons rfl (subL_cons rfl (subL_cons rfl (subL_cons rfl subL_nil)))) | exact (subL_cons rfl (subL_cons rfl (subL_cons rfl (subL_cons rfl (subL_cons rfl subL_nil))))) | exact (subL_cons rfl (subL_cons rfl (subL_cons rfl (subL_cons rfl (subL_cons rfl (subL_cons rfl subL_nil)))))) | exact (subL_cons rfl (subL_cons rfl (subL_cons rfl (subL_cons rfl (subL_cons rfl (subL_cons rfl (subL_cons rfl subL_nil))))))) | exact (subL_cons rfl (subL_cons rfl (subL_cons rfl (subL_cons rfl (subL_cons rfl (subL_cons rfl (subL_cons rfl (subL_cons rfl subL_nil))))))))) (fun b y => by obtain ⟨b1, b2⟩ := b; cases b1 <;> cases b2 <;> first | exact Imp.refl _ | exact imp_ren qN (by kernel_rfl)) ?_ (fun q ⟨hq1, hq2, hq3, hq4⟩ => ?_) | fail) | (show thenQ _ _ _ _; first | refine then_n ?_ | refine then_r ?_ | refine then_x ?_ | fail) | (show blockQ _ _ _ _; first | refine block_n ?_ | refine block_r ?_ | refine block_x rfl ?_ | fail) | (show RetQ _ _ _ _ _ _; first | refine ret_leaf (.inl rfl) rfl rfl ?_ | fail) | (show Exists _; first | refine Exists.intro ((q.1 + 1, q.2.1.take q.1 ++ [[.int .i64 (srcF a.dims a.attrs (at_ names q.1)).1, .bool (srcF a.dims a.attrs (at_ names q.1)).2]], q.2.2.take q.1 ++ [[.str (at_ names q.1), .int .i64 (at_ a.attrs (srcF a.dims a.attrs (at_ names q.1)).1.toNat).type]])) (Exists.intro (false, false) ⟨?_, ?_, (by first | exact subL_nil | exact (subL_cons rfl subL_nil) | exact (subL_cons rfl (subL_cons rfl subL_nil)) | exact (subL_cons rfl (subL_cons rfl (subL_cons rfl subL_nil))) | exact (subL_cons rfl (subL_cons rfl (subL_cons rfl (subL_cons rfl subL_nil)))) | exact (subL_cons rfl (subL_cons rfl (subL_cons rfl (subL_cons rfl (subL_cons rfl subL_nil))))) | exact (subL_cons rfl (subL_cons rfl (subL_cons rfl (subL_cons rfl (subL_cons rfl (subL_cons rfl subL_nil)))))) | exact (subL_cons rfl (subL_cons rfl (subL_cons rfl (subL_cons rfl (subL_cons rfl (subL_cons rfl (subL_cons rfl subL_nil))))))) | exact (subL_cons rfl (subL_cons rfl (subL_cons rfl (subL_cons rfl (subL_cons rfl (subL_cons rfl (subL_cons rfl (subL_cons rfl subL_nil))))))))), (subL_cons rfl (subL_cons rfl (subL_cons rfl subL_nil))), (subL_cons rfl (subL_cons rfl (subL_cons rfl (subL_cons rfl (subL_cons rfl (subL_cons rfl (subL_cons rfl subL_nil)))))))⟩) | refine Exists.intro ((q.1 + 1, q.2.1.take q.1 ++ [[.int .i64 (srcF a.dims a.attrs (at_ names q.1)).1, .bool (srcF a.dims a.attrs (at_ names q.1)).2]], q.2.2.take q.1 ++ [[.str (at_ names q.1), .int .i64 2]])) (Exists.intro (false, false) ⟨?_, ?_, (by first | exact subL_nil | exact (subL_cons rfl subL_nil) | exact (subL_cons rfl (subL_cons rfl subL_nil)) | exact (subL_cons rfl (subL_cons rfl (subL_cons rfl subL_nil))) | exact (subL_cons rfl (subL_cons rfl (subL_cons rfl (subL_cons rfl subL_nil)))) | exact (subL_cons rfl (subL_cons rfl (subL_cons rfl (subL_cons rfl (subL_cons rfl subL_nil))))) | exact (subL_cons rfl (subL_cons rfl (subL_cons rfl (subL_cons rfl (subL_cons rfl (subL_cons rfl subL_nil)))))) | exact (subL_cons rfl (subL_cons rfl (subL_cons rfl (subL_cons rfl (subL_cons rfl (subL_cons rfl (subL_cons rfl subL_nil))))))) | exact (subL_cons rfl (subL_cons rfl (subL_cons rfl (subL_cons rfl (subL_cons rfl (subL_cons rfl (subL_cons rfl (subL_cons rfl subL_nil))))))))), (subL_cons rfl (subL_cons rfl (subL_cons rfl subL_nil))), (subL_cons rfl (subL_cons rfl (subL_cons rfl (subL_cons rfl (subL_cons rfl (subL_cons rfl (subL_cons rfl subL_nil)))))))⟩) | fail) | fail)
  · exact ⟨Nat.zero_le _, rfl, rfl, rfl⟩
  · have hlt : q.1 < names.length := by simpa using ‹decide ((q.1 : Int) < ((names.map encName).length : Int)) = true›
    have hs := keptErr_step (a := a) (n := at_ names q.1) (r := names.drop (q.1 + 1))
    rw [← at_drop hlt, ← hq4] at hs
    have h' : (!decide (0 ≤ (srcF a.dims a.attrs (at_ names q.1)).1)) = true := h
    rw [if_pos (by simp at h'; omega)] at hs
    rw [red_err hc h1 h3 (redErr_kept hse hs (by decide)) (by decide)]
    rfl
  · have hlt : q.1 < names.length := by simpa using ‹decide ((q.1 : Int) < ((names.map encName).length : Int)) = true›
    have h4 : 0 ≤ (srcF a.dims a.attrs (at_ names q.1)).1 := srcA_pos (by assumption)
    have h5 : (!(srcF a.dims a.attrs (at_ names q.1)).2) = true := h
    have e : srcT a.attrs (srcF a.dims a.attrs (at_ names q.1)) = (at_ a.attrs (srcF a.dims a.attrs (at_ names q.1)).1.toNat).type := by
      unfold srcT
      rw [show (srcF a.dims a.attrs (at_ names q.1)).2 = false by simpa using h5]
      rfl
    refine ⟨hlt, row_app _ names hq2 hlt, ?_, ?_⟩
    · show q.2.2.take q.1 ++ [[.str _, .int .i64 _]] = _
      rw [← e]; exact row_app (fun x => encAttr ⟨x, srcT a.attrs (srcF a.dims a.attrs x)⟩) names hq3 hlt
    · rw [hq4, at_drop hlt, keptErr_step, if_neg (by omega)]
  · have hlt : q.1 < names.length := by simpa using ‹decide ((q.1 : Int) < ((names.map encName).length : Int)) = true›
    show names.length - (q.1 + 1) < names.length - q.1
    omega
  · have hlt : q.1 < names.length := by simpa using ‹decide ((q.1 : Int) < ((names.map encName).length : Int)) = true›
    have h4 : 0 ≤ (srcF a.dims a.attrs (at_ names q.1)).1 := srcA_pos (by assumption)
    have h5 : (!(srcF a.dims a.attrs (at_ names q.1)).2) = false := h
    have e : srcT a.attrs (srcF a.dims a.attrs (at_ names q.1)) = 2 := by
      unfold srcT
      rw [show (srcF a.dims a.attrs (at_ names q.1)).2 = true by simpa using h5]
      rfl
    refine ⟨hlt, row_app _ names hq2 hlt, ?_, ?_⟩
    · show q.2.2.take q.1 ++ [[.str _, .int .i64 _]] = _
      rw [← e]; exact row_app (fun x => encAttr ⟨x, srcT a.attrs (srcF a.dims a.attrs x)⟩) names hq3 hlt
    · rw [hq4, at_drop hlt, keptErr_step, if_neg (by omega)]
  · have hlt : q.1 < names.length := by simpa using ‹decide ((q.1 : Int) < ((names.map encName).length : Int)) = true›
    show names.length - (q.1 + 1) < names.length - q.1
    omega
  · have hqn : q.1 = names.length := by
      have : names.length ≤ q.1 := by simpa using ‹decide ((q.1 : Int) < ((names.map encName).length : Int)) = false›
      omega
    have hke : keptErr a names = 0 := by rw [hq4, hqn, List.drop_length]; rfl
    have hsn : schemaF ds (listF a names) ≠ 0 := by simpa using h
    rw [red_err hc h1 h3 (redErr_sch hse hke) hsn]
    rfl
  have hqn : q.1 = names.length := by
    have : names.length ≤ q.1 := by simpa using ‹decide ((q.1 : Int) < ((names.map encName).length : Int)) = false›
    omega
  have hke : keptErr a names = 0 := by rw [hq4, hqn, List.drop_length]; rfl
  have hsc : schemaF ds (listF a names) = 0 := by simpa using h
  have hre : redErr a ds names = 0 := (redErr_sch hse hke).trans hsc
  have hd4 : ds.length ≤ 4 := (dimsF_ok (schemaF_ok hsc).1).2.1
  have hfl : (fromF a ds).length = ds.length := by simp [fromF]
  have hnl : ∀ c, (numsF (fromF a ds) c).length = ds.length := fun c => by simp [numsF, fromF]
  have hn4 : ∀ c, (numsF (fromF a ds) c).length ≤ 4 := fun c => by rw [hnl]; exact hd4
  have hfs : ∀ j, j < a.cells.length → ∀ i, i < (fromF a ds).length → okS (at_ (fromF a ds) i) (at_ a.cells j) := fun j hj i hi => by
    have hi' : i < ds.length := by rw [← hfl]; exact hi
    rw [fromF, at_mapN hi']
    exact src_okS hA (srcErr_ok hse _ (at_mem hi')) (at_mem hj)
  have hks : ∀ i j, i < (keptF a names).length → j < a.cells.length → okS (at_ (keptF a names) i) (at_ a.cells j) := fun i j hi hj => by
    have hi' : i < names.length := by simpa [keptF] using hi
    rw [keptF, at_mapN hi']
    exact src_okS hA (keptErr_ok hke _ (at_mem hi')) (at_mem hj)
  have hcn : a.cells.length ≤ 4096 := hA.few
  have hkn : (keptF a names).length ≤ 6 := by have := (schemaF_ok hsc).2.2.1; simpa [keptF, listF] using this
  clear hq1 hq2 hq3 hq4 hqn
  repeat' (first | (show OkOps _ _ _ _ _ _; first | (show OkOps _ _ _ (Oper.mk _ (Op.call _) _ _ _ (_) :: _) _ _; first | refine s_callD 16 rfl rfl rfl rfl rfl rfl rfl rfl (c109y (at_ a.cells (p.1 : Int).toNat) (fromF a ds) ds hfl (by omega) (hfs _ (by first | omega | ((try simp only [decide_eq_true_eq, decide_eq_false_iff_not, Bool.not_eq_true', Bool.not_true, Bool.not_false, List.length_map, List.length_set, bne_iff_ne, ne_eq, beq_iff_eq, bne_eq_false_iff_eq, beq_eq_false_iff_ne] at *); omega))) (by assumption)) rfl rfl rfl ?_ | fail) | (show OkOps _ _ _ (Oper.mk _ (Op.call _) _ _ _ (_) :: _) _ _; first | refine s_callD 16 rfl rfl rfl rfl rfl rfl rfl rfl (c109n (at_ a.cells (p.1 : Int).toNat) (fromF a ds) ds hfl (by omega) (hfs _ (by first | omega | ((try simp only [decide_eq_true_eq, decide_eq_false_iff_not, Bool.not_eq_true', Bool.not_true, Bool.not_false, List.length_map, List.length_set, bne_iff_ne, ne_eq, beq_iff_eq, bne_eq_false_iff_eq, beq_eq_false_iff_ne] at *); omega))) (by assumption)) rfl rfl rfl ?_ | fail) | (show OkOps _ _ _ (Oper.mk _ (Op.call { callee := .value (.func 109), args := _, argTypes := _ }) _ _ _ (_) :: _) _ _; first | (fail_if_success (have := hmk)); by_cases hmk : ((fromF a ds).all fun s => (ofS s (at_ a.cells (p.1 : Int).toNat)).kind == 2) = true | fail) | (show OkOps _ _ _ (Oper.mk _ (Op.call _) _ _ _ (_) :: _) _ _; first | refine s_append tabOk rfl rfl rfl rfl rfl rfl rfl rfl rfl rfl rfl rfl rfl (by first | omega | ((try simp only [decide_eq_true_eq, decide_eq_false_iff_not, List.length_map, List.length_cons, List.length_nil, List.length_append, List.length_take, List.length_drop, Int.toNat_natCast] at *); omega)) (by first | exact Nat.le_of_ble_eq_true rfl | omega | ((try simp only [decide_eq_true_eq, decide_eq_false_iff_not, List.length_map, List.length_cons, List.length_nil, List.length_append, List.length_take, List.length_drop, Int.toNat_natCast] at *); omega)) (Nat.le_of_ble_eq_true rfl) ?_ | fail) | (show OkOps _ _ _ (Oper.mk _ (Op.lookup _ _ _ _) _ _ _ (_) :: _) _ _; first | refine s_e envOk rfl rfl rfl (step3_lookM0 rfl rfl rfl rfl rfl rfl rfl rfl rfl (hn4 _) (fun k hk => (hi6 k hk).trans (hnl _).symm) (by assumption)) ?_ | fail) | (show OkOps _ _ _ (Oper.mk _ (Op.lookup _ _ _ _) _ _ _ (_) :: _) _ _; first | refine s_e envOk rfl rfl rfl (step3_lookM1 rfl rfl rfl rfl rfl rfl rfl rfl (hn4 _) (fun k hk => (hi6 k hk).trans (hnl _).symm) (by assumption)) ?_ | fail) | (show OkOps _ _ _ (Oper.mk _ (Op.lookup _ _ _ _) _ _ _ (_) :: _) _ _; first | ((fail_if_success (have := hwk)); (rcases opt_cases (whereK (numsF (fromF a ds) (at_ a.cells (p.1 : Int).toNat)) p.2.2.2.1 0) with hwk | ⟨j, hwk⟩)) | fail) | (show OkOps _ _ _ (Oper.mk _ (Op.mapUpdate _ _ _ _) _ _ _ (_) :: _) _ _; first | refine s_store envOk rfl rfl (step3_updM rfl rfl rfl rfl rfl rfl rfl rfl rfl rfl (hn4 _) (fun k hk => (hi6 k hk).trans (hnl _).symm) (by assumption) (congrArg (fun n : Nat => D.int .i64 (n : Int)) hi7)) ?_ | fail) | (show OkOps _ _ _ (Oper.mk _ (Op.indexAddr _ _ _) _ _ _ (_) :: _) _ _; first | refine s_e envOk rfl rfl rfl (step3_idxOwn rfl rfl rfl rfl rfl rfl (Int.natCast_nonneg _) (whereK_ltI hwk hi7)) ?_ | fail) | (show OkOps _ _ _ (Oper.mk _ (Op.store _ _ _) _ _ _ (_) :: _) _ _; first | refine s_store envOk rfl rfl (step3_storeRow rfl rfl rfl rfl rfl rfl rfl rfl rfl (row_get hi4 (by have := whereK_ltI hwk hi7; simp only [Int.toNat_natCast]; omega)) rfl) ?_ | fail) | (show OkOps _ _ _ (Oper.mk _ (Op.call _) _ _ _ (_) :: _) _ _; first | refine s_callG 70 [15] rfl rfl rfl rfl rfl rfl rfl rfl rfl (c99k ds (listF a names) p.2.2.2.2 _ _ hi8 (by have := congrArg List.length hi4; simp only [List.length_map] at this; omega) rfl (by rw [List.take_of_length_le (by omega), hi4])) rfl rfl rfl ?_ | fail) | refine okops_nil ?_ | refine s_plain tabOk rfl rfl rfl rfl rfl ?_ | (show OkOps _ _ _ (Oper.mk _ (Op.binOp .add _ _ _ _) _ _ _ (_) :: _) _ _; first | refine s_e envOk rfl rfl rfl (step3_add rfl rfl rfl rfl (wrap64 (by omega) (by omega))) ?_ | fail) | (show OkOps _ _ _ (Oper.mk _ (Op.indexAddr _ _ _) _ _ _ (_) :: _) _ _; first | refine s_e envOk rfl rfl rfl (step3_idx rfl rfl rfl rfl rfl (by first | omega | ((try simp only [decide_eq_true_eq, decide_eq_false_iff_not, Bool.not_eq_true', Bool.not_true, Bool.not_false, List.length_map, List.length_set, bne_iff_ne, ne_eq, beq_iff_eq, bne_eq_false_iff_eq, beq_eq_false_iff_ne] at *); omega)) (at_map (by first | omega | ((try simp only [decide_eq_true_eq, decide_eq_false_iff_not, Bool.not_eq_true', Bool.not_true, Bool.not_false, List.length_map, List.length_set, bne_iff_ne, ne_eq, beq_iff_eq, bne_eq_false_iff_eq, beq_eq_false_iff_ne] at *); omega)))) ?_ | fail) | (show OkOps _ _ _ (Oper.mk _ (Op.call _) _ _ _ (_) :: _) _ _; first | refine s_callF rfl rfl rfl rfl rfl rfl rfl rfl (c111 _ (hn4 _)) rfl ?_ | fail) | (show OkOps _ _ _ (Oper.mk _ (Op.alloc _) _ _ _ (_) :: _) _ _; first | refine s_alloc tabOk 2 rfl rfl rfl rfl rfl ?_ | refine s_alloc tabOk 3 rfl rfl rfl rfl rfl ?_ | refine s_alloc tabOk 4 rfl rfl rfl rfl rfl ?_ | fail) | refine s_store envOk rfl rfl rfl ?_ | refine s_new envOk 4 rfl rfl rfl rfl rfl rfl ?_ | fail) | (show OkC _ _ _ _ _; first | (show OkC _ _ (Code.region 49 _ _) _ _; refine okc_imp (imp_sealL (dl := [10]) rfl) ?_) | refine ok_seq ?_ | refine ok_region ?_ | refine ok_block ?_ | refine ok_skip ?_ | refine ok_ret ?_ | refine ok_exit ?_ | refine ok_condT rfl ?_ | refine ok_condF rfl ?_ | refine ok_cond rfl (fun h => ?_) (fun h => ?_) | refine ok_regionD progOk.mo ?_ | refine s_loopN 38 rfl (imp_adoptJ 3 1 10 (k := 4) (b := 40) rfl rfl (by kernel_rfl)) [(1, _), (3, _), (8, _), (10, _), (11, _), (12, _), (23, _), (24, _), (26, _), (27, _), (29, _), (129, _), (130, _), (131, _), (146, _), (147, _)] (subL_cons rfl (subL_cons rfl (subL_cons rfl (subL_cons rfl (subL_cons rfl (subL_cons rfl (subL_cons rfl (subL_cons rfl (subL_cons rfl (subL_cons rfl (subL_cons rfl (subL_cons rfl (subL_cons rfl (subL_cons rfl (subL_cons rfl (subL_cons rfl subL_nil)))))))))))))))) (fun (bN : Bool × Bool) (r : Nat × List (List D)) => [(148, .one (.d (.int .i64 (r.1 : Int))))]) (fun (bN : Bool × Bool) (r : Nat × List (List D)) => [(3, .box [.d (encInts (numsF (fromF a ds) (at_ a.cells p.1))), .own (nmA bN) r.1]), ((nmA bN), .row 4 40 r.2), (2, .box [.d (encInts (at_ a.cells p.1).at'), .d (encVals (at_ a.cells p.1).vals)]), (15, .row 2 48 p.2.2.1), (14, .map true false (encM (fun i => .int .i64 (i : Int)) p.2.2.2.1 0)), (0, .box [.d (encDims a.dims), .d (encAttrs a.attrs), .d (encCells a.cells)]), (1, .box [.d .nil, .d .nil, .d .nil])]) (fun (r : Nat × List (List D)) => r.1 ≤ (keptF a names).length ∧ r.2 = ((keptF a names).take r.1).map (fun s => encVal (ofS s (at_ a.cells p.1)))) (fun (r : Nat × List (List D)) => (keptF a names).length - r.1) (0, []) (subL_cons rfl subL_nil) (by first | exact subL_nil | exact (subL_cons rfl subL_nil) | exact (subL_cons rfl (subL_cons rfl subL_nil)) | exact (subL_cons rfl (subL_cons rfl (subL_cons rfl subL_nil))) | exact (subL_cons rfl (subL_cons rfl (subL_cons rfl (subL_cons rfl subL_nil)))) | exact (subL_cons rfl (subL_cons rfl (subL_cons rfl (subL_cons rfl (subL_cons rfl subL_nil))))) | exact (subL_cons rfl (subL_cons rfl (subL_cons rfl (subL_cons rfl (subL_cons rfl (subL_cons rfl subL_nil)))))) | exact (subL_cons rfl (subL_cons rfl (subL_cons rfl (subL_cons rfl (subL_cons rfl (subL_cons rfl (subL_cons rfl subL_nil))))))) | exact (subL_cons rfl (subL_cons rfl (subL_cons rfl (subL_cons rfl (subL_cons rfl (subL_cons rfl (subL_cons rfl (subL_cons rfl subL_nil))))))))) (fun b y => by obtain ⟨b1, b2⟩ := b; cases b1 <;> cases b2 <;> first | exact Imp.refl _ | exact imp_ren qN (by kernel_rfl)) ?_ (fun r ⟨hr1, hr2⟩ => ?_) | refine s_loopN 32 rfl (imp_adopt (s := 24) (id := 15) (k := 2) (b := 48) rfl rfl rfl rfl) [(1, _), (3, _), (8, _), (10, _), (11, _), (12, _), (23, _), (129, _), (130, _)] (subL_cons rfl (subL_cons rfl (subL_cons rfl (subL_cons rfl (subL_cons rfl (subL_cons rfl (subL_cons rfl (subL_cons rfl (subL_cons rfl subL_nil))))))))) (fun (bN : Bool × Bool) (p : Nat × Nat × List (List D) × List (List Int) × List Cell) => [(24, .one (.own 15 p.2.1)), (131, .one (.d (.int .i64 (p.1 : Int))))]) (fun (bN : Bool × Bool) (p : Nat × Nat × List (List D) × List (List Int) × List Cell) => [(15, .row 2 48 p.2.2.1), (14, .map true false (encM (fun i => .int .i64 (i : Int)) p.2.2.2.1 0)), (0, .box [.d (encDims a.dims), .d (encAttrs a.attrs), .d (encCells a.cells)]), (1, .box [.d .nil, .d .nil, .d .nil])]) (fun (p : Nat × Nat × List (List D) × List (List Int) × List Cell) => p.1 ≤ a.cells.length ∧ p.2.1 = p.2.2.1.length ∧ p.2.1 ≤ p.1 ∧ p.2.2.1 = p.2.2.2.2.map encCell ∧ p.2.2.2.1 = p.2.2.2.2.map Cell.at' ∧ (∀ k ∈ p.2.2.2.1, k.length = ds.length) ∧ p.2.2.2.1.length = p.2.1 ∧ p.2.2.2.2.Pairwise diffC ∧ redGo (fromF a ds) (keptF a names) ds rule [] a.cells = redGo (fromF a ds) (keptF a names) ds rule p.2.2.2.2 (a.cells.drop p.1)) (fun (p : Nat × Nat × List (List D) × List (List Int) × List Cell) => a.cells.length - p.1) (0, 0, [], [], []) (subL_cons rfl (subL_cons rfl subL_nil)) (by first | exact subL_nil | exact (subL_cons rfl subL_nil) | exact (subL_cons rfl (subL_cons rfl subL_nil)) | exact (subL_cons rfl (subL_cons rfl (subL_cons rfl subL_nil))) | exact (subL_cons rfl (subL_cons rfl (subL_cons rfl (subL_cons rfl subL_nil)))) | exact (subL_cons rfl (subL_cons rfl (subL_cons rfl (subL_cons rfl (subL_cons rfl subL_nil))))) | exact (subL_cons rfl (subL_cons rfl (subL_cons rfl (subL_cons rfl (subL_cons rfl (subL_cons rfl subL_nil)))))) | exact (subL_cons rfl (subL_cons rfl (subL_cons rfl (subL_cons rfl (subL_cons rfl (subL_cons rfl (subL_cons rfl subL_nil))))))) | exact (subL_cons rfl (subL_cons rfl (subL_cons rfl (subL_cons rfl (subL_cons rfl (subL_cons rfl (subL_cons rfl (subL_cons rfl subL_nil))))))))) (fun b y => by obtain ⟨b1, b2⟩ := b; cases b1 <;> cases b2 <;> first | exact Imp.refl _ | exact imp_ren qN (by kernel_rfl)) ?_ (fun p ⟨hi1, hi2, hi3, hi4, hi5, hi6, hi7, hi8, hi9⟩ => ?_) | fail) | (show thenQ _ _ _ _; first | refine then_n ?_ | refine then_r ?_ | refine then_x ?_ | fail) | (show blockQ _ _ _ _; first | refine block_n ?_ | refine block_r ?_ | refine block_x rfl ?_ | fail) | (show RetQ _ _ _ _ _ _; first | refine ret_leaf (.inl rfl) rfl rfl ?_ | fail) | (show DRun _ _ _ _ _ _ _ _; first | (show DRun _ _ _ _ (Oper.mk _ (Op.call _) _ _ _ (_) :: _) _ _ _; first | refine d_l rfl rfl (loc_callF' rfl rfl rfl rfl rfl rfl (c110 (at_ (keptF a names) (r.1 : Int).toNat) (at_ a.cells (p.1 : Int).toNat) (hks _ _ (by first | omega | ((try simp only [decide_eq_true_eq, decide_eq_false_iff_not, Bool.not_eq_true', Bool.not_true, Bool.not_false, List.length_map, List.length_set, bne_iff_ne, ne_eq, beq_iff_eq, bne_eq_false_iff_eq, beq_eq_false_iff_ne] at *); omega)) (by first | omega | ((try simp only [decide_eq_true_eq, decide_eq_false_iff_not, Bool.not_eq_true', Bool.not_true, Bool.not_false, List.length_map, List.length_set, bne_iff_ne, ne_eq, beq_iff_eq, bne_eq_false_iff_eq, beq_eq_false_iff_ne] at *); omega)))) rfl) ?_ | fail) | (show DRun _ _ _ _ (Oper.mk _ (Op.call _) _ _ _ (_) :: _) _ _ _; first | refine d_new envOk 11 rfl rfl rfl (step3_appendB (i := 10) rfl rfl rfl rfl rfl rfl rfl rfl (by first | omega | ((try simp only [decide_eq_true_eq, decide_eq_false_iff_not, List.length_map, List.length_cons, List.length_nil, List.length_append, List.length_take, List.length_drop, Int.toNat_natCast] at *); omega)) (by first | exact Nat.le_of_ble_eq_true rfl | omega | ((try simp only [decide_eq_true_eq, decide_eq_false_iff_not, List.length_map, List.length_cons, List.length_nil, List.length_append, List.length_take, List.length_drop, Int.toNat_natCast] at *); omega)) (Nat.le_of_ble_eq_true rfl)) rfl rfl ?_ | fail) | refine d_nil (by kernel_rfl) ?_ | refine d_e envOk rfl rfl rfl (step3_plain rfl rfl) ?_ | refine d_new envOk 5 rfl rfl rfl rfl rfl rfl ?_ | refine d_store envOk rfl rfl rfl ?_ | fail) | (show Exists _; first | refine Exists.intro ((p.1 + 1, p.2.1 + 1, p.2.2.1.take p.2.1 ++ [[encInts (numsF (fromF a ds) (at_ a.cells p.1)), .sl 4 40 (List.take r.1 r.2)]], p.2.2.2.1 ++ [numsF (fromF a ds) (at_ a.cells p.1)], p.2.2.2.2 ++ [nextF (keptF a names) (numsF (fromF a ds) (at_ a.cells p.1)) (at_ a.cells p.1)])) (Exists.intro (false, false) ⟨?_, ?_, (by first | exact subL_nil | exact (subL_cons rfl subL_nil) | exact (subL_cons rfl (subL_cons rfl subL_nil)) | exact (subL_cons rfl (subL_cons rfl (subL_cons rfl subL_nil))) | exact (subL_cons rfl (subL_cons rfl (subL_cons rfl (subL_cons rfl subL_nil)))) | exact (subL_cons rfl (subL_cons rfl (subL_cons rfl (subL_cons rfl (subL_cons rfl subL_nil))))) | exact (subL_cons rfl (subL_cons rfl (subL_cons rfl (subL_cons rfl (subL_cons rfl (subL_cons rfl subL_nil)))))) | exact (subL_cons rfl (subL_cons rfl (subL_cons rfl (subL_cons rfl (subL_cons rfl (subL_cons rfl (subL_cons rfl subL_nil))))))) | exact (subL_cons rfl (subL_cons rfl (subL_cons rfl (subL_cons rfl (subL_cons rfl (subL_cons rfl (subL_cons rfl (subL_cons rfl subL_nil))))))))), (subL_cons rfl (subL_cons rfl subL_nil)), (subL_cons rfl (subL_cons rfl (subL_cons rfl (subL_cons rfl (subL_cons rfl (subL_cons rfl (subL_cons rfl (subL_cons rfl (subL_cons rfl subL_nil)))))))))⟩) | refine Exists.intro ((p.1 + 1, p.2.1, p.2.2.1.set j [encInts (numsF (fromF a ds) (at_ a.cells p.1)), .sl 4 40 (List.take r.1 r.2)], p.2.2.2.1, p.2.2.2.2.set j (nextF (keptF a names) (numsF (fromF a ds) (at_ a.cells p.1)) (at_ a.cells p.1)))) (Exists.intro (false, false) ⟨?_, ?_, (by first | exact subL_nil | exact (subL_cons rfl subL_nil) | exact (subL_cons rfl (subL_cons rfl subL_nil)) | exact (subL_cons rfl (subL_cons rfl (subL_cons rfl subL_nil))) | exact (subL_cons rfl (subL_cons rfl (subL_cons rfl (subL_cons rfl subL_nil)))) | exact (subL_cons rfl (subL_cons rfl (subL_cons rfl (subL_cons rfl (subL_cons rfl subL_nil))))) | exact (subL_cons rfl (subL_cons rfl (subL_cons rfl (subL_cons rfl (subL_cons rfl (subL_cons rfl subL_nil)))))) | exact (subL_cons rfl (subL_cons rfl (subL_cons rfl (subL_cons rfl (subL_cons rfl (subL_cons rfl (subL_cons rfl subL_nil))))))) | exact (subL_cons rfl (subL_cons rfl (subL_cons rfl (subL_cons rfl (subL_cons rfl (subL_cons rfl (subL_cons rfl (subL_cons rfl subL_nil))))))))), (subL_cons rfl (subL_cons rfl subL_nil)), (subL_cons rfl (subL_cons rfl (subL_cons rfl (subL_cons rfl (subL_cons rfl (subL_cons rfl (subL_cons rfl (subL_cons rfl (subL_cons rfl subL_nil)))))))))⟩) | refine Exists.intro ((p.1 + 1, p.2)) (Exists.intro (false, false) ⟨?_, ?_, (by first | exact subL_nil | exact (subL_cons rfl subL_nil) | exact (subL_cons rfl (subL_cons rfl subL_nil)) | exact (subL_cons rfl (subL_cons rfl (subL_cons rfl subL_nil))) | exact (subL_cons rfl (subL_cons rfl (subL_cons rfl (subL_cons rfl subL_nil)))) | exact (subL_cons rfl (subL_cons rfl (subL_cons rfl (subL_cons rfl (subL_cons rfl subL_nil))))) | exact (subL_cons rfl (subL_cons rfl (subL_cons rfl (subL_cons rfl (subL_cons rfl (subL_cons rfl subL_nil)))))) | exact (subL_cons rfl (subL_cons rfl (subL_cons rfl (subL_cons rfl (subL_cons rfl (subL_cons rfl (subL_cons rfl subL_nil))))))) | exact (subL_cons rfl (subL_cons rfl (subL_cons rfl (subL_cons rfl (subL_cons rfl (subL_cons rfl (subL_cons rfl (subL_cons rfl subL_nil))))))))), (subL_cons rfl (subL_cons rfl subL_nil)), (subL_cons rfl (subL_cons rfl (subL_cons rfl (subL_cons rfl (subL_cons rfl (subL_cons rfl (subL_cons rfl (subL_cons rfl (subL_cons rfl subL_nil)))))))))⟩) | refine Exists.intro ((r.1 + 1, r.2.take r.1 ++ [encVal (ofS (at_ (keptF a names) r.1) (at_ a.cells p.1))])) (Exists.intro (true, false) ⟨?_, ?_, (by first | exact subL_nil | exact (subL_cons rfl subL_nil) | exact (subL_cons rfl (subL_cons rfl subL_nil)) | exact (subL_cons rfl (subL_cons rfl (subL_cons rfl subL_nil))) | exact (subL_cons rfl (subL_cons rfl (subL_cons rfl (subL_cons rfl subL_nil)))) | exact (subL_cons rfl (subL_cons rfl (subL_cons rfl (subL_cons rfl (subL_cons rfl subL_nil))))) | exact (subL_cons rfl (subL_cons rfl (subL_cons rfl (subL_cons rfl (subL_cons rfl (subL_cons rfl subL_nil)))))) | exact (subL_cons rfl (subL_cons rfl (subL_cons rfl (subL_cons rfl (subL_cons rfl (subL_cons rfl (subL_cons rfl subL_nil))))))) | exact (subL_cons rfl (subL_cons rfl (subL_cons rfl (subL_cons rfl (subL_cons rfl (subL_cons rfl (subL_cons rfl (subL_cons rfl subL_nil))))))))), (subL_cons rfl subL_nil), (subL_cons rfl (subL_cons rfl (subL_cons rfl (subL_cons rfl (subL_cons rfl (subL_cons rfl (subL_cons rfl (subL_cons rfl (subL_cons rfl (subL_cons rfl (subL_cons rfl (subL_cons rfl (subL_cons rfl (subL_cons rfl (subL_cons rfl (subL_cons rfl subL_nil))))))))))))))))⟩) | fail) | fail)
  · exact ⟨Nat.zero_le _, rfl, Nat.le_refl _, rfl, rfl, (fun k hk => by cases hk), rfl, .nil, rfl⟩
  · have hlt : p.1 < a.cells.length := by simpa using ‹decide ((p.1 : Int) < ((a.cells.map encCell).length : Int)) = true›
    have hmk' : ((fromF a ds).all fun s => (ofS s (at_ a.cells p.1)).kind == 2) = true := hmk
    refine ⟨hlt, hi2, Nat.le_succ_of_le hi3, hi4, hi5, hi6, hi7, hi8, ?_⟩
    rw [hi9, at_drop hlt]
    exact go_step (red_skip (moved_out hmk' h))
  · have hlt : p.1 < a.cells.length := by simpa using ‹decide ((p.1 : Int) < ((a.cells.map encCell).length : Int)) = true›
    show a.cells.length - (p.1 + 1) < a.cells.length - p.1
    omega
  · exact ⟨Nat.zero_le _, rfl⟩
  · have hlr : r.1 < (keptF a names).length := by simpa using h
    exact ⟨hlr, row_app (fun s => encVal (ofS s (at_ a.cells p.1))) (keptF a names) hr2 hlr⟩
  · have hlr : r.1 < (keptF a names).length := by simpa using h
    show (keptF a names).length - (r.1 + 1) < (keptF a names).length - r.1
    omega
  · have hlt : p.1 < a.cells.length := by simpa using ‹decide ((p.1 : Int) < ((a.cells.map encCell).length : Int)) = true›
    have hmk' : ((fromF a ds).all fun s => (ofS s (at_ a.cells p.1)).kind == 2) = true := hmk
    have hw : (!withinL ds (numsF (fromF a ds) (at_ a.cells p.1))) = false := by assumption
    have hmv := moved_in hmk' hw
    have hrn : r.1 = (keptF a names).length := by
      have : (keptF a names).length ≤ r.1 := by simpa using ‹decide ((r.1 : Int) < (((keptF a names).map encSrc).length : Int)) = false›
      omega
    have hV : List.take r.1 r.2 = ((keptF a names).map fun s => ofS s (at_ a.cells p.1)).map encVal := by
      rw [List.take_of_length_le (by rw [hr2]; simp; omega), hr2, hrn, List.take_length, List.map_map]; rfl
    have hE : [encInts (numsF (fromF a ds) (at_ a.cells p.1)), D.sl 4 40 (List.take r.1 r.2)] = encCell (nextF (keptF a names) (numsF (fromF a ds) (at_ a.cells p.1)) (at_ a.cells p.1)) := by
      rw [hV]; rfl
    have hwk' : whereK (numsF (fromF a ds) (at_ a.cells p.1)) (p.2.2.2.2.map Cell.at') 0 = none := by rw [← hi5]; exact hwk
    have hstep := red_new (kept := keptF a names) (rule := rule) hmv (hasAt_w0 hwk')
    refine ⟨hlt, ?_, Nat.succ_le_succ hi3, ?_, ?_, fun k hk => ?_, ?_, step_diff hstep hi8, ?_⟩
    · show p.2.1 + 1 = (p.2.2.1.take p.2.1 ++ [_]).length
      rw [List.length_append, List.length_take]; simp [hi2]
    · show p.2.2.1.take p.2.1 ++ [_] = (p.2.2.2.2 ++ [_]).map encCell
      rw [List.take_of_length_le (by omega), hi4, List.map_append, hE]; rfl
    · show p.2.2.2.1 ++ [_] = (p.2.2.2.2 ++ [_]).map Cell.at'
      rw [List.map_append, ← hi5]; rfl
    · rcases List.mem_append.1 hk with h5 | h5
      · exact hi6 k h5
      · rw [List.mem_singleton.1 h5]; exact hnl _
    · show (p.2.2.2.1 ++ [_]).length = p.2.1 + 1
      rw [List.length_append, hi7]; rfl
    · rw [hi9, at_drop hlt]; exact go_step hstep
  · have hlt : p.1 < a.cells.length := by simpa using ‹decide ((p.1 : Int) < ((a.cells.map encCell).length : Int)) = true›
    show a.cells.length - (p.1 + 1) < a.cells.length - p.1
    omega
  · have hlt : p.1 < a.cells.length := by simpa using ‹decide ((p.1 : Int) < ((a.cells.map encCell).length : Int)) = true›
    have hmk' : ((fromF a ds).all fun s => (ofS s (at_ a.cells p.1)).kind == 2) = true := hmk
    have hw : (!withinL ds (numsF (fromF a ds) (at_ a.cells p.1))) = false := by assumption
    have hmv := moved_in hmk' hw
    have hrn : r.1 = (keptF a names).length := by
      have : (keptF a names).length ≤ r.1 := by simpa using ‹decide ((r.1 : Int) < (((keptF a names).map encSrc).length : Int)) = false›
      omega
    have hV : List.take r.1 r.2 = ((keptF a names).map fun s => ofS s (at_ a.cells p.1)).map encVal := by
      rw [List.take_of_length_le (by rw [hr2]; simp; omega), hr2, hrn, List.take_length, List.map_map]; rfl
    have hE : [encInts (numsF (fromF a ds) (at_ a.cells p.1)), D.sl 4 40 (List.take r.1 r.2)] = encCell (nextF (keptF a names) (numsF (fromF a ds) (at_ a.cells p.1)) (at_ a.cells p.1)) := by
      rw [hV]; rfl
    have hwk' : whereK (numsF (fromF a ds) (at_ a.cells p.1)) (p.2.2.2.2.map Cell.at') 0 = some j := by rw [← hi5]; exact hwk
    have hj := hasAt_w1 hwk'
    have hg : redGo (fromF a ds) (keptF a names) ds rule [] a.cells = none := by
      rw [hi9, at_drop hlt]; exact go_stop (red_old1 hmv hj (by simpa using h))
    rw [redF_none hc h1 h3 hre hg]
    rfl
  · have hlt : p.1 < a.cells.length := by simpa using ‹decide ((p.1 : Int) < ((a.cells.map encCell).length : Int)) = true›
    have hmk' : ((fromF a ds).all fun s => (ofS s (at_ a.cells p.1)).kind == 2) = true := hmk
    have hw : (!withinL ds (numsF (fromF a ds) (at_ a.cells p.1))) = false := by assumption
    have hmv := moved_in hmk' hw
    have hrn : r.1 = (keptF a names).length := by
      have : (keptF a names).length ≤ r.1 := by simpa using ‹decide ((r.1 : Int) < (((keptF a names).map encSrc).length : Int)) = false›
      omega
    have hV : List.take r.1 r.2 = ((keptF a names).map fun s => ofS s (at_ a.cells p.1)).map encVal := by
      rw [List.take_of_length_le (by rw [hr2]; simp; omega), hr2, hrn, List.take_length, List.map_map]; rfl
    have hE : [encInts (numsF (fromF a ds) (at_ a.cells p.1)), D.sl 4 40 (List.take r.1 r.2)] = encCell (nextF (keptF a names) (numsF (fromF a ds) (at_ a.cells p.1)) (at_ a.cells p.1)) := by
      rw [hV]; rfl
    have hwk' : whereK (numsF (fromF a ds) (at_ a.cells p.1)) (p.2.2.2.2.map Cell.at') 0 = some j := by rw [← hi5]; exact hwk
    have hj := hasAt_w1 hwk'
    have hstep := red_old3 (kept := keptF a names) (rule := rule) hmv hj (by simpa using h)
    obtain ⟨k, hk1, hk2, hk3⟩ := hasAt_some (at' := numsF (fromF a ds) (at_ a.cells p.1)) (cs := p.2.2.2.2) (by omega)
    have hkj : k = j := by omega
    subst hkj
    refine ⟨hlt, ?_, Nat.le_succ_of_le hi3, ?_, ?_, hi6, hi7, step_diff hstep hi8, ?_⟩
    · show p.2.1 = (p.2.2.1.set k _).length
      rw [List.length_set]; exact hi2
    · show p.2.2.1.set k _ = (p.2.2.2.2.set k _).map encCell
      rw [List.map_set, ← hi4, hE]
    · show p.2.2.2.1 = (p.2.2.2.2.set k _).map Cell.at'
      rw [keys_set hk2 hk3, hi5]
    · rw [hi9, at_drop hlt]; exact go_step hstep
  · have hlt : p.1 < a.cells.length := by simpa using ‹decide ((p.1 : Int) < ((a.cells.map encCell).length : Int)) = true›
    show a.cells.length - (p.1 + 1) < a.cells.length - p.1
    omega
  · have hlt : p.1 < a.cells.length := by simpa using ‹decide ((p.1 : Int) < ((a.cells.map encCell).length : Int)) = true›
    have hmk' : ((fromF a ds).all fun s => (ofS s (at_ a.cells p.1)).kind == 2) = true := hmk
    have hw : (!withinL ds (numsF (fromF a ds) (at_ a.cells p.1))) = false := by assumption
    have hmv := moved_in hmk' hw
    have hrn : r.1 = (keptF a names).length := by
      have : (keptF a names).length ≤ r.1 := by simpa using ‹decide ((r.1 : Int) < (((keptF a names).map encSrc).length : Int)) = false›
      omega
    have hV : List.take r.1 r.2 = ((keptF a names).map fun s => ofS s (at_ a.cells p.1)).map encVal := by
      rw [List.take_of_length_le (by rw [hr2]; simp; omega), hr2, hrn, List.take_length, List.map_map]; rfl
    have hE : [encInts (numsF (fromF a ds) (at_ a.cells p.1)), D.sl 4 40 (List.take r.1 r.2)] = encCell (nextF (keptF a names) (numsF (fromF a ds) (at_ a.cells p.1)) (at_ a.cells p.1)) := by
      rw [hV]; rfl
    have hwk' : whereK (numsF (fromF a ds) (at_ a.cells p.1)) (p.2.2.2.2.map Cell.at') 0 = some j := by rw [← hi5]; exact hwk
    have hj := hasAt_w1 hwk'
    refine ⟨hlt, hi2, Nat.le_succ_of_le hi3, hi4, hi5, hi6, hi7, hi8, ?_⟩
    rw [hi9, at_drop hlt]
    exact go_step (red_old2 hmv hj (by simpa using ‹(rule == 1) = false›) (by simpa using h))
  · have hlt : p.1 < a.cells.length := by simpa using ‹decide ((p.1 : Int) < ((a.cells.map encCell).length : Int)) = true›
    show a.cells.length - (p.1 + 1) < a.cells.length - p.1
    omega
  · have hlt : p.1 < a.cells.length := by simpa using ‹decide ((p.1 : Int) < ((a.cells.map encCell).length : Int)) = true›
    refine ⟨hlt, hi2, Nat.le_succ_of_le hi3, hi4, hi5, hi6, hi7, hi8, ?_⟩
    rw [hi9, at_drop hlt]
    exact go_step (red_skip (moved_no hmk))
  · have hlt : p.1 < a.cells.length := by simpa using ‹decide ((p.1 : Int) < ((a.cells.map encCell).length : Int)) = true›
    show a.cells.length - (p.1 + 1) < a.cells.length - p.1
    omega
  · have hpn : p.1 = a.cells.length := by
      have : a.cells.length ≤ p.1 := by simpa using h
      omega
    have hg : redGo (fromF a ds) (keptF a names) ds rule [] a.cells = some p.2.2.2.2 := by rw [hi9, hpn, List.drop_length]; rfl
    have hln : p.2.2.2.2.length ≤ 4096 := by have := congrArg List.length hi4; simp only [List.length_map] at this; omega
    rw [redF_some hc h1 h3 hre hg hln]
    rfl
end Go.Proofs.YtpejdgkaapnekaaGreat
namespace Go.Proofs.YtpejdgkaapnekaaGreat
open Go Go.Abs
def placeF (x : List Int) : List Cell → Nat
  | [] => 0
  | c :: r => if cmpF c.at' x < 0 then placeF x r + 1 else 0
def foundF (l : List Cell) (x : List Int) : Bool := decide (placeF x l < l.length) && (cmpF (at_ l (placeF x l)).at' x == 0)
def putF (l : List Cell) (c : Cell) : List Cell := if foundF l c.at' then l.set (placeF c.at' l) c else l.take (placeF c.at' l) ++ c :: l.drop (placeF c.at' l)
def putR (c : Cell) : List Cell → List Cell
  | [] => [c]
  | x :: r => if cmpF x.at' c.at' < 0 then x :: putR c r else if cmpF x.at' c.at' = 0 then c :: r else c :: x :: r
theorem place_le {x : List Int} : ∀ {l : List Cell}, placeF x l ≤ l.length
  | [] => by simp [placeF]
  | c :: r => by
    have := place_le (x := x) (l := r)
    simp only [placeF]
    split <;> simp only [List.length_cons] <;> omega
theorem place_lt {x : List Int} : ∀ {l : List Cell} {j : Nat}, j < placeF x l → cmpF (at_ l j).at' x < 0
  | [], j, h => by simp [placeF] at h
  | c :: r, j, h => by
    simp only [placeF] at h
    split at h
    · rename_i h1
      cases j with
      | zero => exact h1
      | succ j => exact place_lt (l := r) (by omega)
    · omega
theorem place_ge {x : List Int} : ∀ {l : List Cell} {j : Nat}, l.Pairwise ltC → placeF x l ≤ j → j < l.length → ¬ cmpF (at_ l j).at' x < 0
  | [], j, _, _, h => by simp at h
  | c :: r, j, hs, hp, hj => by
    rw [List.pairwise_cons] at hs
    simp only [placeF] at hp
    split at hp
    · rename_i h1
      cases j with
      | zero => omega
      | succ j => exact place_ge (l := r) hs.2 (by omega) (by simpa using hj)
    · rename_i h1
      cases j with
      | zero => exact h1
      | succ j =>
        intro h2
        have h3 : ltC c (at_ r j) := hs.1 _ (at_mem (by simpa using hj))
        exact h1 (ltC_trans (x := c) (y := at_ r j) (z := ⟨x, []⟩) h3 h2)
theorem place_eq {x : List Int} {l : List Cell} {k : Nat} (hs : l.Pairwise ltC) (hk : k ≤ l.length) (h1 : ∀ j, j < k → cmpF (at_ l j).at' x < 0) (h2 : ∀ j, k ≤ j → j < l.length → ¬ cmpF (at_ l j).at' x < 0) : placeF x l = k := by
  rcases Nat.lt_trichotomy (placeF x l) k with h | h | h
  · exact absurd (h1 _ h) (place_ge hs (Nat.le_refl _) (by omega))
  · exact h
  · exact absurd (place_lt h) (h2 _ (Nat.le_refl _) (by have := place_le (x := x) (l := l); omega))
theorem found_cons {x : List Int} {c : Cell} {r : List Cell} : foundF (c :: r) x = if cmpF c.at' x < 0 then foundF r x else cmpF c.at' x == 0 := by
  unfold foundF
  simp only [placeF]
  split
  · simp only [List.length_cons, Nat.add_lt_add_iff_right]; rfl
  · simp only [List.length_cons, Nat.zero_lt_succ, decide_true, Bool.true_and]; rfl
theorem putF_cons {c x : Cell} {r : List Cell} : putF (x :: r) c = if cmpF x.at' c.at' < 0 then x :: putF r c else if cmpF x.at' c.at' = 0 then c :: r else c :: x :: r := by
  unfold putF
  rw [found_cons]
  simp only [placeF]
  by_cases h : cmpF x.at' c.at' < 0
  · simp only [if_pos h]
    by_cases hf : foundF r c.at' = true
    · rw [if_pos hf, if_pos hf]; rfl
    · rw [if_neg hf, if_neg hf]; rfl
  · simp only [if_neg h]
    by_cases h0 : cmpF x.at' c.at' = 0
    · rw [if_pos (by simp [h0]), if_pos h0]; rfl
    · rw [if_neg (by simp [h0]), if_neg h0]; rfl
theorem putF_eq {c : Cell} : ∀ {l : List Cell}, putF l c = putR c l
  | [] => rfl
  | x :: r => by rw [putF_cons, putR, putF_eq (l := r)]
theorem putR_mem {c y : Cell} : ∀ {l : List Cell}, y ∈ putR c l → y = c ∨ y ∈ l
  | [], h => by simpa [putR] using h
  | x :: r, h => by
    simp only [putR] at h
    split at h
    · rcases List.mem_cons.1 h with h | h
      · exact .inr (h ▸ List.mem_cons_self)
      · rcases putR_mem h with h | h
        · exact .inl h
        · exact .inr (List.mem_cons_of_mem _ h)
    split at h
    · rcases List.mem_cons.1 h with h | h
      · exact .inl h
      · exact .inr (List.mem_cons_of_mem _ h)
    · rcases List.mem_cons.1 h with h | h
      · exact .inl h
      · exact .inr h
theorem putR_sorted {c : Cell} : ∀ {l : List Cell}, l.Pairwise ltC → (putR c l).Pairwise ltC
  | [], _ => by simp [putR]
  | x :: r, h => by
    rw [List.pairwise_cons] at h
    simp only [putR]
    split
    · rename_i h1
      refine List.pairwise_cons.2 ⟨fun y hy => ?_, putR_sorted h.2⟩
      rcases putR_mem hy with rfl | hy
      · exact h1
      · exact h.1 y hy
    split
    · rename_i h1 h2
      have e : x.at' = c.at' := cmpF_eq _ _ h2
      refine List.pairwise_cons.2 ⟨fun y hy => ?_, h.2⟩
      have := h.1 y hy
      unfold ltC at this ⊢
      rw [← e]; exact this
    · rename_i h1 h2
      have hcx : ltC c x := lt_of_le_diff h1 fun e => h2 (by rw [e, cmpF_refl])
      refine List.pairwise_cons.2 ⟨fun y hy => ?_, List.pairwise_cons.2 h⟩
      rcases List.mem_cons.1 hy with rfl | hy
      · exact hcx
      · exact ltC_trans hcx (h.1 y hy)
theorem putR_new {c : Cell} : ∀ {l : List Cell}, (∀ x ∈ l, x.at' ≠ c.at') → (putR c l).Perm (l ++ [c])
  | [], _ => by simp [putR]
  | x :: r, h => by
    have hx := h x List.mem_cons_self
    have ih := putR_new (c := c) (l := r) fun y hy => h y (List.mem_cons_of_mem _ hy)
    simp only [putR]
    split
    · exact ih.cons x
    · rw [if_neg fun e => hx (cmpF_eq _ _ e)]
      exact (List.perm_append_singleton c (x :: r)).symm
def swapC (c x : Cell) : Cell := if x.at' = c.at' then c else x
theorem map_swap_no {c : Cell} {l : List Cell} (h : ∀ x ∈ l, x.at' ≠ c.at') : l.map (swapC c) = l := by
  have : l.map (swapC c) = l.map id := List.map_congr_left fun x hx => by simp [swapC, h x hx]
  rw [this, List.map_id]
theorem putR_old {c : Cell} : ∀ {l : List Cell}, l.Pairwise ltC → (∃ x ∈ l, x.at' = c.at') → putR c l = l.map (swapC c)
  | [], _, ⟨x, h, _⟩ => by simp at h
  | x :: r, hs, ⟨y, hy, he⟩ => by
    rw [List.pairwise_cons] at hs
    simp only [putR, List.map_cons]
    by_cases h0 : x.at' = c.at'
    · have e : cmpF x.at' c.at' = 0 := by rw [h0, cmpF_refl]
      rw [if_neg (by omega), if_pos e]
      rw [map_swap_no fun z hz e => ltC_diff (hs.1 z hz) (h0.trans e.symm)]
      simp [swapC, h0]
    · have hyr : y ∈ r := by
        rcases List.mem_cons.1 hy with rfl | hy
        · exact absurd he h0
        · exact hy
      have hlt : cmpF x.at' c.at' < 0 := by have := hs.1 y hyr; unfold ltC at this; rwa [he] at this
      rw [if_pos hlt, putR_old hs.2 ⟨y, hyr, he⟩]
      simp [swapC, h0]
theorem set_swap {c : Cell} {cs : List Cell} {k : Nat} (hd : cs.Pairwise diffC) (hk : k < cs.length) (he : (at_ cs k).at' = c.at') : cs.set k c = cs.map (swapC c) := by
  refine at_ext (by simp) fun i hi => ?_
  have hi' : i < cs.length := by simpa using hi
  rw [at_set hi', at_mapN hi']
  unfold swapC
  split
  · rename_i e; subst e; rw [if_pos he]
  · rename_i hne
    rw [if_neg fun e => ?_]
    have e2 : at_ (cs.map Cell.at') i = at_ (cs.map Cell.at') k := by rw [at_mapN hi', at_mapN hk, e, he]
    have g1 := at_get (l := cs.map Cell.at') (i := i) (by simpa using hi')
    have g2 := at_get (l := cs.map Cell.at') (i := k) (by simpa using hk)
    rw [e2, ← g2] at g1
    exact hne ((List.getElem?_inj (by simpa using hi') (diff_keys.1 hd)).1 g1)
theorem sort_new {c : Cell} {cs : List Cell} (hd : cs.Pairwise diffC) (h : ∀ x ∈ cs, x.at' ≠ c.at') : sortF (cs ++ [c]) = putF (sortF cs) c := by
  rw [putF_eq]
  refine sorted_uniq ?_ (sortF_sorted ?_) (putR_sorted (sortF_sorted hd))
  · refine (sortF_perm _).trans (((sortF_perm cs).symm.append_right [c]).trans (putR_new fun x hx => h x ((sortF_perm cs).mem_iff.1 hx)).symm)
  · exact List.pairwise_append.2 ⟨hd, by simp, fun x hx y hy => by rw [List.mem_singleton.1 hy]; exact h x hx⟩
theorem sort_old {c : Cell} {cs : List Cell} {k : Nat} (hd : cs.Pairwise diffC) (hk : k < cs.length) (he : (at_ cs k).at' = c.at') : sortF (cs.set k c) = putF (sortF cs) c := by
  rw [putF_eq, putR_old (sortF_sorted hd) ⟨at_ cs k, (sortF_perm cs).mem_iff.2 (at_mem hk), he⟩]
  refine sorted_uniq ?_ (sortF_sorted ?_) ?_
  · rw [set_swap hd hk he]
    exact (sortF_perm _).trans ((sortF_perm cs).symm.map _)
  · rw [diff_keys, keys_set hk he, ← diff_keys]; exact hd
  · rw [← putR_old (sortF_sorted hd) ⟨at_ cs k, (sortF_perm cs).mem_iff.2 (at_mem hk), he⟩]
    exact putR_sorted (sortF_sorted hd)
theorem found_iff {x : List Int} : ∀ {l : List Cell}, l.Pairwise ltC → (foundF l x = true ↔ ∃ y ∈ l, y.at' = x)
  | [], _ => by simp [foundF]
  | c :: r, hs => by
    rw [List.pairwise_cons] at hs
    rw [found_cons]
    split
    · rename_i h1
      rw [found_iff hs.2]
      constructor
      · rintro ⟨y, hy, he⟩; exact ⟨y, List.mem_cons_of_mem _ hy, he⟩
      · rintro ⟨y, hy, he⟩
        rcases List.mem_cons.1 hy with rfl | hy
        · rw [he, cmpF_refl] at h1; omega
        · exact ⟨y, hy, he⟩
    · rename_i h1
      constructor
      · intro h; exact ⟨c, List.mem_cons_self, cmpF_eq _ _ (by simpa using h)⟩
      · rintro ⟨y, hy, he⟩
        rcases List.mem_cons.1 hy with rfl | hy
        · rw [he, cmpF_refl]; rfl
        · have := hs.1 y hy
          unfold ltC at this
          rw [he] at this
          exact absurd this h1
def refStep (src kept : List (Int × Bool)) (ds : List Dim) (rule : Int) (l : List Cell) (c : Cell) : Option (List Cell) :=
  match movedF src ds c with
  | none => some l
  | some x =>
    if foundF l x && rule == 1 then none
    else if foundF l x && rule == 2 then some l
    else some (putF l (nextF kept x c))
def refGo (src kept : List (Int × Bool)) (ds : List Dim) (rule : Int) : List Cell → List Cell → Option (List Cell)
  | l, [] => some l
  | l, c :: r => match refStep src kept ds rule l c with | none => none | some l' => refGo src kept ds rule l' r
theorem hasAt_found {cs : List Cell} {x : List Int} (hd : cs.Pairwise diffC) : foundF (sortF cs) x = !decide (hasAt x cs < 0) := by
  rw [Bool.eq_iff_iff, found_iff (sortF_sorted hd)]
  simp only [Bool.not_eq_true', decide_eq_false_iff_not]
  constructor
  · rintro ⟨y, hy, he⟩ h
    exact hasAt_none h y ((sortF_perm cs).mem_iff.1 hy) he
  · intro h
    obtain ⟨k, _, h2, h3⟩ := hasAt_some h
    exact ⟨_, (sortF_perm cs).mem_iff.2 (at_mem h2), h3⟩
theorem refStep_eq {src kept : List (Int × Bool)} {ds : List Dim} {rule : Int} (h1 : 1 ≤ rule) (h3 : rule ≤ 3) {cs : List Cell} (hd : cs.Pairwise diffC) (c : Cell) : refStep src kept ds rule (sortF cs) c = (redStep src kept ds rule cs c).map sortF := by
  cases e : movedF src ds c with
  | none => simp only [refStep, redStep, e]; rfl
  | some x =>
    simp only [refStep, redStep, e]
    rw [hasAt_found hd]
    by_cases h : hasAt x cs < 0
    · rw [if_pos h]
      simp only [h, decide_true, Bool.not_true, Bool.false_and]
      rw [if_neg (by simp), if_neg (by simp)]
      rw [Option.map_some, sort_new hd fun y hy => hasAt_none h y hy]
    · rw [if_neg h]
      simp only [h, decide_false, Bool.not_false, Bool.true_and]
      obtain ⟨k, hk1, hk2, hk3⟩ := hasAt_some h
      rw [hk1, Int.toNat_natCast]
      by_cases hr : rule = 1
      · subst hr; rfl
      · rw [if_neg (by simpa using hr), if_neg hr]
        by_cases hr3 : rule = 3
        · subst hr3
          rw [if_neg (by decide), if_pos rfl, Option.map_some, sort_old hd hk2 hk3]
        · have hr2 : rule = 2 := by omega
          subst hr2
          rfl
theorem refGo_eq {src kept : List (Int × Bool)} {ds : List Dim} {rule : Int} (h1 : 1 ≤ rule) (h3 : rule ≤ 3) : ∀ (l cs : List Cell), cs.Pairwise diffC → refGo src kept ds rule (sortF cs) l = (redGo src kept ds rule cs l).map sortF
  | [], cs, _ => rfl
  | c :: l, cs, hd => by
    simp only [refGo, redGo, refStep_eq h1 h3 hd c]
    cases h : redStep src kept ds rule cs c with
    | none => rfl
    | some cs' => exact refGo_eq h1 h3 l cs' (step_diff h hd)
end Go.Proofs.YtpejdgkaapnekaaGreat
namespace Go.Abs
open Go
variable {V : Env} {st : St} {o : Oper}
theorem step3_sliceDHi {t e : TypeId} {x y : Operand} {k k' b b' : Nat} {ik : IntKind} {h : Int} {xs : List (List D)} {z : List D} (ho : o.op = .slice t x none (some y) none) (ht : sliceTy V.T t = some (e, k', b', z)) (hx : ev st x = some (.one (.d (.sl k b xs)))) (hy : ev st y = some (.one (.d (.int ik h))))
    (hk : Nat.beq k k' = true) (h0 : 0 ≤ h) (hm : h.toNat ≤ xs.length) : step3 V st o 0 = some ⟨.one (.d (.sl k b (xs.take h.toNat))), [], []⟩ := by
  have e1 : Nat.ble h.toNat xs.length = true := Nat.ble_eq.mpr hm
  have e0 : Nat.ble 0 h.toNat = true := Nat.ble_eq.mpr (Nat.zero_le _)
  simp only [step3, stepE, valF, ho, otherE, bndF, hx, hy, h0, decide_true, cond_true, sliceV, ht, hk, e0, e1, Bool.and_self, List.drop_zero]
theorem step3_sliceDLo {t e : TypeId} {x y : Operand} {k k' b b' : Nat} {ik : IntKind} {h : Int} {xs : List (List D)} {z : List D} (ho : o.op = .slice t x (some y) none none) (ht : sliceTy V.T t = some (e, k', b', z)) (hx : ev st x = some (.one (.d (.sl k b xs)))) (hy : ev st y = some (.one (.d (.int ik h))))
    (hk : Nat.beq k k' = true) (h0 : 0 ≤ h) (hm : h.toNat ≤ xs.length) : step3 V st o 0 = some ⟨.one (.d (.sl k b (xs.drop h.toNat))), [], []⟩ := by
  have e1 : Nat.ble h.toNat xs.length = true := Nat.ble_eq.mpr hm
  have e2 : Nat.ble xs.length xs.length = true := Nat.ble_eq.mpr (Nat.le_refl _)
  simp only [step3, stepE, valF, ho, otherE, bndF, hx, hy, h0, decide_true, cond_true, sliceV, ht, hk, e1, e2, Bool.and_self, List.take_length]
end Go.Abs
namespace Go.Proofs.YtpejdgkaapnekaaGreat
open Go Go.Abs
attribute [local irreducible] OkOps OkC DRun thenQ blockQ RetQ
set_option maxRecDepth 10000
theorem c113 (ds : List Dim) (ats : List Attr) (cs : D) (name : List UInt8) : CallA Tryz.prog 113 [.agg [.d (encDims ds), .d (encAttrs ats), .d cs], .one (.d (.str name))] [] (.one (.d (.bool (decide (0 ≤ dimX ds name) || decide (0 ≤ atX ats name))))) [] := by
  refine enter tabOk Tryz.func113 rfl (by decide +kernel) rfl fun hok w0 σ0 φ0 M => ?_
  clear hok
  repeat' (first | (show OkOps _ _ _ _ _ _; first | refine okops_nil ?_ | refine s_plain tabOk rfl rfl rfl rfl rfl ?_ | (show OkOps _ _ _ (Oper.mk _ (_) _ _ _ (some _) :: _) _ _; first | refine s_guard rfl rfl (by first | assumption | rfl) ?_ | refine s_out rfl rfl (by first | assumption | rfl) rfl rfl ?_ | refine s_split rfl rfl rfl rfl (fun h => ?_) (fun h => ?_) | fail) | (show OkOps _ _ _ (Oper.mk _ (Op.pick _ _ _) _ _ _ (_) :: _) _ _; first | refine s_e envOk rfl rfl rfl (step3_pickT rfl rfl (by first | rfl | assumption) rfl) ?_ | refine s_e envOk rfl rfl rfl (step3_pickF rfl rfl (by first | rfl | assumption) rfl) ?_ | fail) | (show OkOps _ _ _ (Oper.mk _ (Op.call _) _ _ _ (_) :: _) _ _; first | refine s_callF rfl rfl rfl rfl rfl rfl rfl rfl (c118 _ _) rfl ?_ | refine s_callF rfl rfl rfl rfl rfl rfl rfl rfl (c114 _ _) rfl ?_ | fail) | (show OkOps _ _ _ (Oper.mk _ (Op.box _ _) _ _ _ (_) :: _) _ _; first | refine s_box 0 rfl rfl rfl rfl rfl rfl ?_ | fail) | fail) | (show OkC _ _ _ _ _; first | refine ok_seq ?_ | refine ok_region ?_ | refine ok_ret ?_ | fail) | (show thenQ _ _ _ _; first | refine then_n ?_ | fail) | (show RetQ _ _ _ _ _ _; first | refine ret_leaf (.inl rfl) rfl rfl ?_ | fail) | fail)
  all_goals (try (((simp_all [dimX, atX, at_drop, List.drop_eq_nil_of_le]) <;> first | omega | (rw [Bool.eq_iff_iff]; simp; omega) | grind); done))
theorem sorted_at {l : List Cell} (hs : l.Pairwise ltC) {i j : Nat} (hij : i < j) (hj : j < l.length) : ltC (at_ l i) (at_ l j) := by
  have h := List.pairwise_iff_getElem.1 hs i j (by omega) hj hij
  have e1 := at_get (l := l) (i := i) (by omega)
  have e2 := at_get (l := l) (i := j) hj
  rw [List.getElem?_eq_getElem (by omega)] at e1 e2
  rw [← Option.some.inj e1, ← Option.some.inj e2]
  exact h
theorem below_at {l : List Cell} (hs : l.Pairwise ltC) {x : List Int} {m j : Nat} (hm : m < l.length) (h : cmpF (at_ l m).at' x < 0) (hj : j ≤ m) : cmpF (at_ l j).at' x < 0 := by
  rcases Nat.lt_or_ge j m with h1 | h1
  · exact ltC_trans (x := at_ l j) (y := at_ l m) (z := ⟨x, []⟩) (sorted_at hs h1 hm) h
  · rw [show j = m by omega]; exact h
theorem above_at {l : List Cell} (hs : l.Pairwise ltC) {x : List Int} {m j : Nat} (h : ¬ cmpF (at_ l m).at' x < 0) (hj : m ≤ j) (hjl : j < l.length) : ¬ cmpF (at_ l j).at' x < 0 := fun h2 => h (below_at hs hjl h2 hj)
theorem c194 (l : List Cell) (x : List Int) (hs : l.Pairwise ltC) : CallA Tryz.prog 194 [.one (.d (encCells l)), .one (.d (encInts x))] [] (.one (.d (.int .i64 (placeF x l)))) [] := by
  refine enter tabOk Tryz.func194 rfl (by decide +kernel) rfl fun hok w0 σ0 φ0 M => ?_
  have h1 := hok.1.sl; clear hok; simp only [List.length_map] at h1; replace h1 := h1.1
  repeat' (first | (show OkOps _ _ _ _ _ _; first | refine okops_nil ?_ | refine s_plain tabOk rfl rfl rfl rfl rfl ?_ | (show OkOps _ _ _ (Oper.mk _ (Op.binOp .add _ _ _ _) _ _ _ (_) :: _) _ _; first | refine s_e envOk rfl rfl rfl (step3_add rfl rfl rfl rfl (wrap64 (by omega) (by omega))) ?_ | fail) | (show OkOps _ _ _ (Oper.mk _ (Op.binOp .quo _ _ _ _) _ _ _ (_) :: _) _ _; first | refine s_e envOk rfl rfl rfl (step3_quoE rfl rfl rfl rfl (by omega) (by omega) (wrap64 (by omega) (by omega))) ?_ | fail) | (show OkOps _ _ _ (Oper.mk _ (Op.indexAddr _ _ _) _ _ _ (_) :: _) _ _; first | refine s_e envOk rfl rfl rfl (step3_idx rfl rfl rfl rfl rfl (by first | omega | ((try simp only [decide_eq_true_eq, decide_eq_false_iff_not, Bool.not_eq_true', Bool.not_true, Bool.not_false, List.length_map, List.length_set, bne_iff_ne, ne_eq, beq_iff_eq, bne_eq_false_iff_eq, beq_eq_false_iff_ne] at *); omega)) (at_map (by first | omega | ((try simp only [decide_eq_true_eq, decide_eq_false_iff_not, Bool.not_eq_true', Bool.not_true, Bool.not_false, List.length_map, List.length_set, bne_iff_ne, ne_eq, beq_iff_eq, bne_eq_false_iff_eq, beq_eq_false_iff_ne] at *); omega)))) ?_ | fail) | (show OkOps _ _ _ (Oper.mk _ (Op.call _) _ _ _ (_) :: _) _ _; first | refine s_callF rfl rfl rfl rfl rfl rfl rfl rfl (c176 _ _) rfl ?_ | fail) | fail) | (show OkC _ _ _ _ _; first | refine ok_seq ?_ | refine ok_region ?_ | refine ok_block ?_ | refine ok_skip ?_ | refine ok_ret ?_ | refine ok_exit ?_ | refine ok_cond rfl (fun h => ?_) (fun h => ?_) | refine s_loop 2 rfl [(0, _), (1, _)] (subL_cons rfl (subL_cons rfl subL_nil)) (fun (p : Nat × Nat) => [(5, .one (.d (.int .i64 (p.1 : Int)))), (6, .one (.d (.int .i64 (p.2 : Int))))]) (fun (p : Nat × Nat) => p.1 ≤ p.2 ∧ p.2 ≤ l.length ∧ (∀ j, j < p.1 → cmpF (at_ l j).at' x < 0) ∧ (∀ j, p.2 ≤ j → j < l.length → ¬ cmpF (at_ l j).at' x < 0)) (fun (p : Nat × Nat) => p.2 - p.1) (0, (l.map encCell).length) (subL_cons rfl (subL_cons rfl subL_nil)) ?_ (fun p ⟨hp1, hp2, hp3, hp4⟩ => ?_) | fail) | (show thenQ _ _ _ _; first | refine then_n ?_ | refine then_x ?_ | fail) | (show blockQ _ _ _ _; first | refine block_n ?_ | refine block_x rfl ?_ | fail) | (show RetQ _ _ _ _ _ _; first | refine ret_leaf (.inl rfl) rfl rfl ?_ | fail) | (show Exists _; first | refine Exists.intro (((p.1 + p.2) / 2 + 1, p.2)) ⟨?_, ?_, (by first | exact subL_nil | exact (subL_cons rfl subL_nil) | exact (subL_cons rfl (subL_cons rfl subL_nil)) | exact (subL_cons rfl (subL_cons rfl (subL_cons rfl subL_nil))) | exact (subL_cons rfl (subL_cons rfl (subL_cons rfl (subL_cons rfl subL_nil)))) | exact (subL_cons rfl (subL_cons rfl (subL_cons rfl (subL_cons rfl (subL_cons rfl subL_nil))))) | exact (subL_cons rfl (subL_cons rfl (subL_cons rfl (subL_cons rfl (subL_cons rfl (subL_cons rfl subL_nil)))))) | exact (subL_cons rfl (subL_cons rfl (subL_cons rfl (subL_cons rfl (subL_cons rfl (subL_cons rfl (subL_cons rfl subL_nil))))))) | exact (subL_cons rfl (subL_cons rfl (subL_cons rfl (subL_cons rfl (subL_cons rfl (subL_cons rfl (subL_cons rfl (subL_cons rfl subL_nil))))))))), (subL_cons rfl (subL_cons rfl subL_nil)), (subL_cons rfl (subL_cons rfl subL_nil))⟩ | refine Exists.intro ((p.1, (p.1 + p.2) / 2)) ⟨?_, ?_, (by first | exact subL_nil | exact (subL_cons rfl subL_nil) | exact (subL_cons rfl (subL_cons rfl subL_nil)) | exact (subL_cons rfl (subL_cons rfl (subL_cons rfl subL_nil))) | exact (subL_cons rfl (subL_cons rfl (subL_cons rfl (subL_cons rfl subL_nil)))) | exact (subL_cons rfl (subL_cons rfl (subL_cons rfl (subL_cons rfl (subL_cons rfl subL_nil))))) | exact (subL_cons rfl (subL_cons rfl (subL_cons rfl (subL_cons rfl (subL_cons rfl (subL_cons rfl subL_nil)))))) | exact (subL_cons rfl (subL_cons rfl (subL_cons rfl (subL_cons rfl (subL_cons rfl (subL_cons rfl (subL_cons rfl subL_nil))))))) | exact (subL_cons rfl (subL_cons rfl (subL_cons rfl (subL_cons rfl (subL_cons rfl (subL_cons rfl (subL_cons rfl (subL_cons rfl subL_nil))))))))), (subL_cons rfl (subL_cons rfl subL_nil)), (subL_cons rfl (subL_cons rfl subL_nil))⟩ | fail) | fail)
  · exact ⟨Nat.zero_le _, by simp, fun j hj => absurd hj (Nat.not_lt_zero _), fun j h1 h2 => by simp at h1; omega⟩
  · have hlt : p.1 < p.2 := by simpa using ‹decide ((p.1 : Int) < (p.2 : Int)) = true›
    have hm : (((p.1 : Int) + (p.2 : Int)) / 2).toNat = (p.1 + p.2) / 2 := by omega
    have h' : cmpF (at_ l ((p.1 + p.2) / 2)).at' x < 0 := by have := of_decide_eq_true h; rwa [hm] at this
    refine ⟨by show (p.1 + p.2) / 2 + 1 ≤ p.2; omega, hp2, fun j hj => below_at hs (by omega) h' (by have : j < (p.1 + p.2) / 2 + 1 := hj; omega), hp4⟩
  · have hlt : p.1 < p.2 := by simpa using ‹decide ((p.1 : Int) < (p.2 : Int)) = true›
    show p.2 - ((p.1 + p.2) / 2 + 1) < p.2 - p.1
    omega
  · have hlt : p.1 < p.2 := by simpa using ‹decide ((p.1 : Int) < (p.2 : Int)) = true›
    have hm : (((p.1 : Int) + (p.2 : Int)) / 2).toNat = (p.1 + p.2) / 2 := by omega
    have h' : ¬ cmpF (at_ l ((p.1 + p.2) / 2)).at' x < 0 := by have := of_decide_eq_false h; rwa [hm] at this
    exact ⟨by show p.1 ≤ (p.1 + p.2) / 2; omega, by show (p.1 + p.2) / 2 ≤ l.length; omega, hp3, fun j h1 h2 => above_at hs h' h1 h2⟩
  · have hlt : p.1 < p.2 := by simpa using ‹decide ((p.1 : Int) < (p.2 : Int)) = true›
    show (p.1 + p.2) / 2 - p.1 < p.2 - p.1
    omega
  · have hge : p.2 ≤ p.1 := by simpa using h
    rw [place_eq hs (by omega) hp3 (fun j h1 h2 => hp4 j (by omega) h2)]
theorem c117 (l : List Cell) (x : List Int) (hs : l.Pairwise ltC) : CallA Tryz.prog 117 [.one (.d (encCells l)), .one (.d (encInts x))] [] (.one (.d (.int .i64 (if foundF l x then (placeF x l : Int) else -1)))) [] := by
  refine enter tabOk Tryz.func117 rfl (by decide +kernel) rfl fun hok w0 σ0 φ0 M => ?_
  have h1 := hok.1.sl; clear hok; simp only [List.length_map] at h1; replace h1 := h1.1
  repeat' (first | (show OkOps _ _ _ _ _ _; first | refine okops_nil ?_ | refine s_plain tabOk rfl rfl rfl rfl rfl ?_ | (show OkOps _ _ _ (Oper.mk _ (_) _ _ _ (some _) :: _) _ _; first | refine s_guard rfl rfl (by first | assumption | rfl) ?_ | refine s_out rfl rfl (by first | assumption | rfl) rfl rfl ?_ | refine s_split rfl rfl rfl rfl (fun h => ?_) (fun h => ?_) | fail) | (show OkOps _ _ _ (Oper.mk _ (Op.pick _ _ _) _ _ _ (_) :: _) _ _; first | refine s_e envOk rfl rfl rfl (step3_pickT rfl rfl (by first | rfl | assumption) rfl) ?_ | refine s_e envOk rfl rfl rfl (step3_pickF rfl rfl (by first | rfl | assumption) rfl) ?_ | fail) | (show OkOps _ _ _ (Oper.mk _ (Op.indexAddr _ _ _) _ _ _ (_) :: _) _ _; first | refine s_e envOk rfl rfl rfl (step3_idx rfl rfl rfl rfl rfl (by first | omega | ((try simp only [decide_eq_true_eq, decide_eq_false_iff_not, Bool.not_eq_true', Bool.not_true, Bool.not_false, List.length_map, List.length_set, bne_iff_ne, ne_eq, beq_iff_eq, bne_eq_false_iff_eq, beq_eq_false_iff_ne] at *); omega)) (at_map (by first | omega | ((try simp only [decide_eq_true_eq, decide_eq_false_iff_not, Bool.not_eq_true', Bool.not_true, Bool.not_false, List.length_map, List.length_set, bne_iff_ne, ne_eq, beq_iff_eq, bne_eq_false_iff_eq, beq_eq_false_iff_ne] at *); omega)))) ?_ | fail) | (show OkOps _ _ _ (Oper.mk _ (Op.call _) _ _ _ (_) :: _) _ _; first | refine s_callF rfl rfl rfl rfl rfl rfl rfl rfl (c194 _ _ hs) rfl ?_ | refine s_callF rfl rfl rfl rfl rfl rfl rfl rfl (c176 _ _) rfl ?_ | fail) | fail) | (show OkC _ _ _ _ _; first | refine ok_seq ?_ | refine ok_region ?_ | refine ok_skip ?_ | refine ok_ret ?_ | refine ok_condF rfl ?_ | refine ok_cond rfl (fun h => ?_) (fun h => ?_) | fail) | (show thenQ _ _ _ _; first | refine then_n ?_ | refine then_r ?_ | fail) | (show RetQ _ _ _ _ _ _; first | refine ret_leaf (.inl rfl) rfl rfl ?_ | fail) | fail)
  all_goals (try (((simp_all [foundF, at_drop, List.drop_eq_nil_of_le]) <;> first | omega | (rw [Bool.eq_iff_iff]; simp; omega) | grind); done))
theorem seal_own {k b n : Nat} {xs ys : List (List D)} (he : xs.take n = ys) : AV.one (sealC 1 (.row k b xs) (.own 1 n)) = .one (.d (.sl k b ys)) := by subst he; rfl
theorem put_row {l : List Cell} {c : Cell} {P : Nat} (hn : foundF l c.at' = false) (hP : P = placeF c.at' l) :
    List.take (0 + (List.take P (List.map encCell l)).length + (List.take 1 [encCell c]).length + (List.drop P (List.map encCell l)).length)
      (List.take (0 + (List.take P (List.map encCell l)).length + (List.take 1 [encCell c]).length) (List.take (0 + (List.take P (List.map encCell l)).length) (List.take 0 [] ++ List.take P (List.map encCell l)) ++ List.take 1 [encCell c]) ++ List.drop P (List.map encCell l)) = (putF l c).map encCell := by
  subst hP
  unfold putF
  rw [if_neg (by simp [hn])]
  simp only [List.take_zero, List.nil_append, Nat.zero_add, List.take_length, List.map_append, List.map_cons, List.map_take, List.map_drop]
  have hx : ∀ (a b : List (List D)), List.take (a.length + b.length) (a ++ b) = a ++ b := fun a b => by rw [← List.length_append, List.take_length]
  rw [show List.take 1 [encCell c] = [encCell c] from rfl, hx, ← List.length_append, hx, List.append_assoc]
  rfl
theorem set_row {l : List Cell} {c : Cell} {P : Nat} (hn : foundF l c.at' = true) (hP : P = placeF c.at' l) :
    List.take (0 + (List.map encCell l).length) ((List.take 0 [] ++ List.map encCell l).set P (encCell c)) = (putF l c).map encCell := by
  subst hP
  unfold putF
  rw [if_pos hn]
  simp only [List.take_zero, List.nil_append, Nat.zero_add]
  rw [List.take_of_length_le (by simp), List.map_set]
theorem c119 (l : List Cell) (c : Cell) (hs : l.Pairwise ltC) (hl : l.length ≤ 4096) : CallA Tryz.prog 119 [.one (.d (encCells l)), .agg [.d (encInts c.at'), .d (encVals c.vals)]] [] (.one (.d (encCells (putF l c)))) [] := by
  refine enter tabOk Tryz.func119 rfl (by decide +kernel) rfl fun hok w0 σ0 φ0 M => ?_
  clear hok
  repeat' (first | (show OkOps _ _ _ _ _ _; first | (show OkOps _ _ _ (Oper.mk _ (Op.slice _ _ none _ _) _ _ _ (_) :: _) _ _; first | refine s_e envOk rfl rfl rfl (step3_sliceDHi rfl rfl rfl rfl rfl (Int.natCast_nonneg _) (by simp only [List.length_map, Int.toNat_natCast]; exact place_le)) ?_ | fail) | (show OkOps _ _ _ (Oper.mk _ (Op.slice _ _ _ none _) _ _ _ (_) :: _) _ _; first | refine s_e envOk rfl rfl rfl (step3_sliceDLo rfl rfl rfl rfl rfl (Int.natCast_nonneg _) (by simp only [List.length_map, Int.toNat_natCast]; exact place_le)) ?_ | fail) | refine okops_nil ?_ | (show OkOps _ _ _ (Oper.mk _ (Op.call _) _ _ _ (_) :: _) _ _; first | refine s_append tabOk rfl rfl rfl rfl rfl rfl rfl rfl rfl rfl rfl rfl rfl (by first | omega | ((try simp only [decide_eq_true_eq, decide_eq_false_iff_not, List.length_map, List.length_cons, List.length_nil, List.length_append, List.length_take, List.length_drop, Int.toNat_natCast] at *); omega)) (by first | exact Nat.le_of_ble_eq_true rfl | omega | ((try simp only [decide_eq_true_eq, decide_eq_false_iff_not, List.length_map, List.length_cons, List.length_nil, List.length_append, List.length_take, List.length_drop, Int.toNat_natCast] at *); omega)) (Nat.le_of_ble_eq_true rfl) ?_ | fail) | refine s_plain tabOk rfl rfl rfl rfl rfl ?_ | (show OkOps _ _ _ (Oper.mk _ (Op.indexAddr _ _ _) _ _ _ (_) :: _) _ _; first | refine s_e envOk rfl rfl rfl (step3_idxOwn rfl rfl rfl rfl rfl rfl (by first | omega | ((try simp only [decide_eq_true_eq, decide_eq_false_iff_not, Bool.not_eq_true', Bool.not_true, Bool.not_false, List.length_map, List.length_set, bne_iff_ne, ne_eq, beq_iff_eq, bne_eq_false_iff_eq, beq_eq_false_iff_ne] at *); omega)) (by first | omega | ((try simp only [decide_eq_true_eq, decide_eq_false_iff_not, Bool.not_eq_true', Bool.not_true, Bool.not_false, List.length_map, List.length_set, bne_iff_ne, ne_eq, beq_iff_eq, bne_eq_false_iff_eq, beq_eq_false_iff_ne] at *); omega))) ?_ | fail) | (show OkOps _ _ _ (Oper.mk _ (Op.call _) _ _ _ (_) :: _) _ _; first | refine s_callF rfl rfl rfl rfl rfl rfl rfl rfl (c194 _ _ hs) rfl ?_ | fail) | (show OkOps _ _ _ (Oper.mk _ (Op.box _ _) _ _ _ (_) :: _) _ _; first | refine s_box 0 rfl rfl rfl rfl rfl rfl ?_ | fail) | refine s_store envOk rfl rfl (step3_storeRow rfl rfl rfl rfl rfl rfl rfl rfl rfl (at_map (by first | omega | ((try simp only [decide_eq_true_eq, decide_eq_false_iff_not, Bool.not_eq_true', Bool.not_true, Bool.not_false, List.length_map, List.length_set, bne_iff_ne, ne_eq, beq_iff_eq, bne_eq_false_iff_eq, beq_eq_false_iff_ne] at *); omega))) rfl) ?_ | refine s_new envOk 1 rfl rfl rfl rfl rfl rfl ?_ | refine s_new envOk 2 rfl rfl rfl rfl rfl rfl ?_ | fail) | (show OkC _ _ _ _ _; first | refine okc_imp (imp_sealL (dl := [1]) rfl) (ok_ret ?_) | refine ok_seq ?_ | refine ok_region ?_ | refine ok_skip ?_ | refine ok_condF rfl ?_ | refine ok_cond rfl (fun h => ?_) (fun h => ?_) | refine ok_regionD progOk.mo ?_ | fail) | (show thenQ _ _ _ _; first | refine then_n ?_ | refine then_r ?_ | fail) | (show RetQ _ _ _ _ _ _; first | refine ret_leaf (.inl rfl) rfl rfl ?_ | fail) | (show DRun _ _ _ _ _ _ _ _; first | refine d_nil (by kernel_rfl) ?_ | refine d_e envOk rfl rfl rfl (step3_plain rfl rfl) ?_ | (show DRun _ _ _ _ (Oper.mk _ (_) _ _ _ (some _) :: _) _ _ _; first | refine d_strip rfl rfl (by first | assumption | rfl) ?_ | refine d_out rfl rfl (by first | assumption | rfl) rfl rfl ?_ | refine d_split rfl rfl (fun h => ?_) (fun h => ?_) | fail) | (show DRun _ _ _ _ (Oper.mk _ (Op.pick _ _ _) _ _ _ (_) :: _) _ _ _; first | refine d_e envOk rfl rfl rfl (step3_pickT rfl rfl (by first | rfl | assumption) rfl) ?_ | refine d_e envOk rfl rfl rfl (step3_pickF rfl rfl (by first | rfl | assumption) rfl) ?_ | fail) | (show DRun _ _ _ _ (Oper.mk _ (Op.indexAddr _ _ _) _ _ _ (_) :: _) _ _ _; first | refine d_e envOk rfl rfl rfl (step3_idx rfl rfl rfl rfl rfl (by first | omega | ((try simp only [decide_eq_true_eq, decide_eq_false_iff_not, Bool.not_eq_true', Bool.not_true, Bool.not_false, List.length_map, List.length_set, bne_iff_ne, ne_eq, beq_iff_eq, bne_eq_false_iff_eq, beq_eq_false_iff_ne] at *); omega)) (at_map (by first | omega | ((try simp only [decide_eq_true_eq, decide_eq_false_iff_not, Bool.not_eq_true', Bool.not_true, Bool.not_false, List.length_map, List.length_set, bne_iff_ne, ne_eq, beq_iff_eq, bne_eq_false_iff_eq, beq_eq_false_iff_ne] at *); omega)))) ?_ | fail) | (show DRun _ _ _ _ (Oper.mk _ (Op.call _) _ _ _ (_) :: _) _ _ _; first | refine d_l rfl rfl (loc_callF' rfl rfl rfl rfl rfl rfl (c176 _ _) rfl) ?_ | fail) | fail) | fail)
  · rename_i hb
    refine seal_own (set_row ?_ (Int.toNat_natCast _))
    have hb' : placeF c.at' l < l.length := by simpa using hb
    have h' : (cmpF (at_ l (placeF c.at' l)).at' c.at' == 0) = true := by have := h; rwa [Int.toNat_natCast] at this
    unfold foundF; rw [h']; simp [hb']
  · refine seal_own (put_row ?_ (Int.toNat_natCast _))
    have h' : (cmpF (at_ l (placeF c.at' l)).at' c.at' == 0) = false := by have := h; rwa [Int.toNat_natCast] at this
    unfold foundF; rw [h']; simp
  · refine seal_own (put_row ?_ (Int.toNat_natCast _))
    have hb' : ¬ placeF c.at' l < l.length := by simpa using h
    unfold foundF; simp [hb']
end Go.Proofs.YtpejdgkaapnekaaGreat
namespace Go.Proofs.YtpejdgkaapnekaaGreat
open Go Go.Abs
attribute [local irreducible] OkOps OkC DRun thenQ blockQ RetQ
set_option maxRecDepth 10000
def mergeF : List Cell → List Cell → List Cell
  | [], b => b
  | x :: a, [] => x :: a
  | x :: a, y :: b => if cmpF y.at' x.at' < 0 then y :: mergeF (x :: a) b else x :: mergeF a (y :: b)
  termination_by a b => a.length + b.length
theorem merge_perm : ∀ {a b : List Cell}, (mergeF a b).Perm (a ++ b)
  | [], b => by simp [mergeF]
  | x :: a, [] => by simp [mergeF]
  | x :: a, y :: b => by
    rw [mergeF]
    split
    · exact ((merge_perm (a := x :: a) (b := b)).cons y).trans List.perm_middle.symm
    · exact (merge_perm (a := a) (b := y :: b)).cons x
  termination_by a b => a.length + b.length
theorem merge_mem {a b : List Cell} {z : Cell} (h : z ∈ mergeF a b) : z ∈ a ∨ z ∈ b := List.mem_append.1 (merge_perm.mem_iff.1 h)
theorem merge_sorted : ∀ {a b : List Cell}, a.Pairwise ltC → b.Pairwise ltC → (∀ x ∈ a, ∀ y ∈ b, diffC x y) → (mergeF a b).Pairwise ltC
  | [], b, _, hb, _ => by rw [mergeF]; exact hb
  | x :: a, [], ha, _, _ => by rw [mergeF]; exact ha
  | x :: a, y :: b, ha, hb, hd => by
    rw [mergeF]
    have ha' := List.pairwise_cons.1 ha
    have hb' := List.pairwise_cons.1 hb
    split
    · rename_i h
      refine List.pairwise_cons.2 ⟨fun z hz => ?_, merge_sorted ha hb'.2 fun u hu v hv => hd u hu v (List.mem_cons_of_mem _ hv)⟩
      rcases merge_mem hz with hz | hz
      · rcases List.mem_cons.1 hz with rfl | hz
        · exact h
        · exact ltC_trans h (ha'.1 z hz)
      · exact hb'.1 z hz
    · rename_i h
      have hxy : ltC x y := lt_of_le_diff h (hd x List.mem_cons_self y List.mem_cons_self)
      refine List.pairwise_cons.2 ⟨fun z hz => ?_, merge_sorted ha'.2 hb fun u hu v hv => hd u (List.mem_cons_of_mem _ hu) v hv⟩
      rcases merge_mem hz with hz | hz
      · exact ha'.1 z hz
      · rcases List.mem_cons.1 hz with rfl | hz
        · exact hxy
        · exact ltC_trans hxy (hb'.1 z hz)
  termination_by a b => a.length + b.length
theorem merge_sort {l : List Cell} {n : Nat} (hd : l.Pairwise diffC) : mergeF (sortF (l.take n)) (sortF (l.drop n)) = sortF l := by
  have hd' : (l.take n ++ l.drop n).Pairwise diffC := by rw [List.take_append_drop]; exact hd
  obtain ⟨h1, h2, h3⟩ := List.pairwise_append.1 hd'
  refine sorted_uniq ?_ (merge_sorted (sortF_sorted h1) (sortF_sorted h2) fun x hx y hy => h3 x ((sortF_perm _).mem_iff.1 hx) y ((sortF_perm _).mem_iff.1 hy)) (sortF_sorted hd)
  refine merge_perm.trans (((sortF_perm _).append (sortF_perm _)).trans ?_)
  rw [List.take_append_drop]
  exact (sortF_perm l).symm
theorem sort_short {l : List Cell} (h : l.length < 2) : sortF l = l := by
  match l, h with
  | [], _ => exact sortF_id (by simp)
  | [x], _ => exact sortF_id (by simp)
theorem merge_b {la lb : List Cell} (ha : 0 < la.length) (hb : 0 < lb.length) (h : cmpF (at_ lb 0).at' (at_ la 0).at' < 0) : mergeF la lb = at_ lb 0 :: mergeF la (lb.drop 1) := by
  obtain ⟨x, la', rfl⟩ := List.exists_cons_of_length_pos ha
  obtain ⟨y, lb', rfl⟩ := List.exists_cons_of_length_pos hb
  rw [mergeF]; exact if_pos h
theorem merge_a {la lb : List Cell} (ha : 0 < la.length) (hb : 0 < lb.length) (h : ¬ cmpF (at_ lb 0).at' (at_ la 0).at' < 0) : mergeF la lb = at_ la 0 :: mergeF (la.drop 1) lb := by
  obtain ⟨x, la', rfl⟩ := List.exists_cons_of_length_pos ha
  obtain ⟨y, lb', rfl⟩ := List.exists_cons_of_length_pos hb
  rw [mergeF]; exact if_neg h
theorem merge_e {la lb : List Cell} (h : la.length = 0 ∨ lb.length = 0) : mergeF la lb = la ++ lb := by
  rcases h with h | h
  · rw [List.length_eq_zero_iff.1 h, mergeF]; rfl
  · rw [List.length_eq_zero_iff.1 h]; cases la <;> simp [mergeF]
theorem map_snoc {r : List (List D)} {lo : List Cell} {c : Cell} {n : Nat} (hr : r = lo.map encCell) (hn : n = r.length) : r.take n ++ [encCell c] = (lo ++ [c]).map encCell := by
  subst hn; rw [List.take_length, hr, List.map_append]; rfl
theorem merge_fin {ra rb r : List (List D)} {a b la lb lo : List Cell} {n : Nat} (h1 : ra = la.map encCell) (h2 : rb = lb.map encCell) (h3 : r = lo.map encCell) (h4 : n = r.length) (h5 : mergeF a b = lo ++ mergeF la lb) (h : la.length = 0 ∨ lb.length = 0) :
    AV.one (sealC 10 (.row 2 48 (List.take (n + ra.length) (List.take n r ++ ra) ++ rb)) (.own 10 (n + ra.length + rb.length))) = .one (.d (encCells (mergeF a b))) := by
  show AV.one (.d (.sl 2 48 (List.take (n + ra.length + rb.length) (List.take (n + ra.length) (List.take n r ++ ra) ++ rb)))) = _
  subst h4
  rw [List.take_length, ← List.length_append, List.take_length, ← List.length_append, List.take_length, h5, merge_e h, h1, h2, h3, encCells, List.map_append, List.map_append, List.append_assoc]
theorem c232 (a b : List Cell) (hl : a.length + b.length ≤ 4096) : CallA Tryz.prog 232 [.one (.d (encCells a)), .one (.d (encCells b))] [] (.one (.d (encCells (mergeF a b)))) [] := by
  refine enter tabOk Tryz.func232 rfl (by decide +kernel) rfl fun hok w0 σ0 φ0 M => ?_
  clear hok
  repeat' (first | (show OkOps _ _ _ _ _ _; first | (show OkOps _ _ _ (Oper.mk _ (Op.indexAddr _ _ _) _ _ _ (_) :: _) _ _; first | refine s_e envOk rfl rfl rfl (step3_idx rfl rfl rfl rfl rfl (Int.le_refl _) (row_get hp1 (by first | omega | ((try simp only [decide_eq_true_eq, decide_eq_false_iff_not, Bool.not_eq_true', Bool.not_true, Bool.not_false, List.length_map, List.length_set, bne_iff_ne, ne_eq, beq_iff_eq, bne_eq_false_iff_eq, beq_eq_false_iff_ne] at *); omega)))) ?_ | fail) | (show OkOps _ _ _ (Oper.mk _ (Op.indexAddr _ _ _) _ _ _ (_) :: _) _ _; first | refine s_e envOk rfl rfl rfl (step3_idx rfl rfl rfl rfl rfl (Int.le_refl _) (row_get hp2 (by first | omega | ((try simp only [decide_eq_true_eq, decide_eq_false_iff_not, Bool.not_eq_true', Bool.not_true, Bool.not_false, List.length_map, List.length_set, bne_iff_ne, ne_eq, beq_iff_eq, bne_eq_false_iff_eq, beq_eq_false_iff_ne] at *); omega)))) ?_ | fail) | (show OkOps _ _ _ (Oper.mk _ (Op.slice _ _ _ none _) _ _ _ (_) :: _) _ _; first | refine s_e envOk rfl rfl rfl (step3_sliceDLo rfl rfl rfl rfl rfl (by omega) (by show 1 ≤ _; simp at *; omega)) ?_ | fail) | (show OkOps _ _ _ (Oper.mk _ (Op.call _) _ _ _ (_) :: _) _ _; first | refine s_append tabOk rfl rfl rfl rfl rfl rfl rfl rfl rfl rfl rfl rfl rfl (by first | omega | ((try simp only [decide_eq_true_eq, decide_eq_false_iff_not, List.length_map, List.length_cons, List.length_nil, List.length_append, List.length_take, List.length_drop, Int.toNat_natCast] at *); omega)) (by first | exact Nat.le_of_ble_eq_true rfl | omega | ((try simp only [decide_eq_true_eq, decide_eq_false_iff_not, List.length_map, List.length_cons, List.length_nil, List.length_append, List.length_take, List.length_drop, Int.toNat_natCast] at *); omega)) (Nat.le_of_ble_eq_true rfl) ?_ | fail) | refine okops_nil ?_ | refine s_plain tabOk rfl rfl rfl rfl rfl ?_ | (show OkOps _ _ _ (Oper.mk _ (_) _ _ _ (some _) :: _) _ _; first | refine s_guard rfl rfl (by first | assumption | rfl) ?_ | refine s_out rfl rfl (by first | assumption | rfl) rfl rfl ?_ | refine s_split rfl rfl rfl rfl (fun h => ?_) (fun h => ?_) | fail) | (show OkOps _ _ _ (Oper.mk _ (Op.pick _ _ _) _ _ _ (_) :: _) _ _; first | refine s_e envOk rfl rfl rfl (step3_pickT rfl rfl (by first | rfl | assumption) rfl) ?_ | refine s_e envOk rfl rfl rfl (step3_pickF rfl rfl (by first | rfl | assumption) rfl) ?_ | fail) | refine s_new envOk 0 rfl rfl rfl rfl rfl rfl ?_ | fail) | (show OkC _ _ _ _ _; first | refine okc_imp (imp_sealL (dl := [10]) rfl) (ok_ret ?_) | refine ok_seq ?_ | refine ok_region ?_ | refine ok_block ?_ | refine ok_skip ?_ | refine ok_exit ?_ | refine ok_condF rfl ?_ | refine ok_cond rfl (fun h => ?_) (fun h => ?_) | refine ok_regionD progOk.mo ?_ | refine s_loopN 2 rfl (imp_adopt (s := 5) (id := 10) (k := 2) (b := 48) rfl rfl rfl rfl) [] subL_nil (fun (bN : Bool × Bool) (p : List (List D) × List (List D) × Nat × List (List D) × List Cell × List Cell × List Cell) => [(0, .one (.d (.sl 2 48 p.1))), (1, .one (.d (.sl 2 48 p.2.1))), (5, .one (.own 10 p.2.2.1))]) (fun (bN : Bool × Bool) (p : List (List D) × List (List D) × Nat × List (List D) × List Cell × List Cell × List Cell) => [(10, .row 2 48 p.2.2.2.1)]) (fun (p : List (List D) × List (List D) × Nat × List (List D) × List Cell × List Cell × List Cell) => p.1 = p.2.2.2.2.1.map encCell ∧ p.2.1 = p.2.2.2.2.2.1.map encCell ∧ p.2.2.2.1 = p.2.2.2.2.2.2.map encCell ∧ p.2.2.1 = p.2.2.2.1.length ∧ mergeF a b = p.2.2.2.2.2.2 ++ mergeF p.2.2.2.2.1 p.2.2.2.2.2.1 ∧ p.2.2.1 + p.1.length + p.2.1.length = a.length + b.length) (fun (p : List (List D) × List (List D) × Nat × List (List D) × List Cell × List Cell × List Cell) => p.1.length + p.2.1.length) (a.map encCell, b.map encCell, 0, [], a, b, []) (subL_cons rfl (subL_cons rfl (subL_cons rfl subL_nil))) (by first | exact subL_nil | exact (subL_cons rfl subL_nil) | exact (subL_cons rfl (subL_cons rfl subL_nil)) | exact (subL_cons rfl (subL_cons rfl (subL_cons rfl subL_nil))) | exact (subL_cons rfl (subL_cons rfl (subL_cons rfl (subL_cons rfl subL_nil)))) | exact (subL_cons rfl (subL_cons rfl (subL_cons rfl (subL_cons rfl (subL_cons rfl subL_nil))))) | exact (subL_cons rfl (subL_cons rfl (subL_cons rfl (subL_cons rfl (subL_cons rfl (subL_cons rfl subL_nil)))))) | exact (subL_cons rfl (subL_cons rfl (subL_cons rfl (subL_cons rfl (subL_cons rfl (subL_cons rfl (subL_cons rfl subL_nil))))))) | exact (subL_cons rfl (subL_cons rfl (subL_cons rfl (subL_cons rfl (subL_cons rfl (subL_cons rfl (subL_cons rfl (subL_cons rfl subL_nil))))))))) (fun b y => by obtain ⟨b1, b2⟩ := b; cases b1 <;> cases b2 <;> first | exact Imp.refl _ | exact imp_ren qN (by kernel_rfl)) ?_ (fun p ⟨hp1, hp2, hp3, hp4, hp5, hp6⟩ => ?_) | fail) | (show thenQ _ _ _ _; first | refine then_n ?_ | refine then_x ?_ | fail) | (show blockQ _ _ _ _; first | refine block_n ?_ | refine block_x rfl ?_ | fail) | (show RetQ _ _ _ _ _ _; first | refine ret_leaf (.inl rfl) rfl rfl ?_ | fail) | (show DRun _ _ _ _ _ _ _ _; first | (show DRun _ _ _ _ (Oper.mk _ (Op.indexAddr _ _ _) _ _ _ (_) :: _) _ _ _; first | refine d_e envOk rfl rfl rfl (step3_idx rfl rfl rfl rfl rfl (Int.le_refl _) (row_get hp1 (by first | omega | ((try simp only [decide_eq_true_eq, decide_eq_false_iff_not, Bool.not_eq_true', Bool.not_true, Bool.not_false, List.length_map, List.length_set, bne_iff_ne, ne_eq, beq_iff_eq, bne_eq_false_iff_eq, beq_eq_false_iff_ne] at *); omega)))) ?_ | fail) | (show DRun _ _ _ _ (Oper.mk _ (Op.indexAddr _ _ _) _ _ _ (_) :: _) _ _ _; first | refine d_e envOk rfl rfl rfl (step3_idx rfl rfl rfl rfl rfl (Int.le_refl _) (row_get hp2 (by first | omega | ((try simp only [decide_eq_true_eq, decide_eq_false_iff_not, Bool.not_eq_true', Bool.not_true, Bool.not_false, List.length_map, List.length_set, bne_iff_ne, ne_eq, beq_iff_eq, bne_eq_false_iff_eq, beq_eq_false_iff_ne] at *); omega)))) ?_ | fail) | refine d_nil (by kernel_rfl) ?_ | refine d_e envOk rfl rfl rfl (step3_plain rfl rfl) ?_ | (show DRun _ _ _ _ (Oper.mk _ (Op.call _) _ _ _ (_) :: _) _ _ _; first | refine d_l rfl rfl (loc_callF' rfl rfl rfl rfl rfl rfl (c176 _ _) rfl) ?_ | fail) | fail) | (show Exists _; first | refine Exists.intro ((p.1, p.2.1.drop 1, p.2.2.1 + 1, p.2.2.2.1.take p.2.2.1 ++ [encCell (at_ p.2.2.2.2.2.1 0)], p.2.2.2.2.1, p.2.2.2.2.2.1.drop 1, p.2.2.2.2.2.2 ++ [at_ p.2.2.2.2.2.1 0])) (Exists.intro (false, false) ⟨?_, ?_, (by first | exact subL_nil | exact (subL_cons rfl subL_nil) | exact (subL_cons rfl (subL_cons rfl subL_nil)) | exact (subL_cons rfl (subL_cons rfl (subL_cons rfl subL_nil))) | exact (subL_cons rfl (subL_cons rfl (subL_cons rfl (subL_cons rfl subL_nil)))) | exact (subL_cons rfl (subL_cons rfl (subL_cons rfl (subL_cons rfl (subL_cons rfl subL_nil))))) | exact (subL_cons rfl (subL_cons rfl (subL_cons rfl (subL_cons rfl (subL_cons rfl (subL_cons rfl subL_nil)))))) | exact (subL_cons rfl (subL_cons rfl (subL_cons rfl (subL_cons rfl (subL_cons rfl (subL_cons rfl (subL_cons rfl subL_nil))))))) | exact (subL_cons rfl (subL_cons rfl (subL_cons rfl (subL_cons rfl (subL_cons rfl (subL_cons rfl (subL_cons rfl (subL_cons rfl subL_nil))))))))), (subL_cons rfl (subL_cons rfl (subL_cons rfl subL_nil))), subL_nil⟩) | refine Exists.intro ((p.1.drop 1, p.2.1, p.2.2.1 + 1, p.2.2.2.1.take p.2.2.1 ++ [encCell (at_ p.2.2.2.2.1 0)], p.2.2.2.2.1.drop 1, p.2.2.2.2.2.1, p.2.2.2.2.2.2 ++ [at_ p.2.2.2.2.1 0])) (Exists.intro (false, false) ⟨?_, ?_, (by first | exact subL_nil | exact (subL_cons rfl subL_nil) | exact (subL_cons rfl (subL_cons rfl subL_nil)) | exact (subL_cons rfl (subL_cons rfl (subL_cons rfl subL_nil))) | exact (subL_cons rfl (subL_cons rfl (subL_cons rfl (subL_cons rfl subL_nil)))) | exact (subL_cons rfl (subL_cons rfl (subL_cons rfl (subL_cons rfl (subL_cons rfl subL_nil))))) | exact (subL_cons rfl (subL_cons rfl (subL_cons rfl (subL_cons rfl (subL_cons rfl (subL_cons rfl subL_nil)))))) | exact (subL_cons rfl (subL_cons rfl (subL_cons rfl (subL_cons rfl (subL_cons rfl (subL_cons rfl (subL_cons rfl subL_nil))))))) | exact (subL_cons rfl (subL_cons rfl (subL_cons rfl (subL_cons rfl (subL_cons rfl (subL_cons rfl (subL_cons rfl (subL_cons rfl subL_nil))))))))), (subL_cons rfl (subL_cons rfl (subL_cons rfl subL_nil))), subL_nil⟩) | fail) | fail)
  · exact ⟨rfl, rfl, rfl, rfl, (List.nil_append _).symm, by simp⟩
  all_goals (obtain ⟨ra, rb, n, r, la, lb, lo⟩ := p; dsimp only at *)
  · have ha : 0 < la.length := by have := ‹decide (0 < (ra.length : Int)) = true›; rw [hp1] at this; simpa using this
    have hb : 0 < lb.length := by have := ‹decide (0 < (rb.length : Int)) = true›; rw [hp2] at this; simpa using this
    have hc := merge_b ha hb (of_decide_eq_true h)
    exact ⟨hp1, by rw [hp2, List.map_drop], map_snoc hp3 hp4, by simp [hp4], by rw [hp5, hc, List.append_assoc]; rfl, by rw [List.length_drop]; have : rb.length = lb.length := (by rw [hp2, List.length_map]); omega⟩
  · have hb : 0 < rb.length := by simpa using ‹decide (0 < (rb.length : Int)) = true›
    rw [List.length_drop]; omega
  · have ha : 0 < la.length := by have := ‹decide (0 < (ra.length : Int)) = true›; rw [hp1] at this; simpa using this
    have hb : 0 < lb.length := by have := ‹decide (0 < (rb.length : Int)) = true›; rw [hp2] at this; simpa using this
    have hc := merge_a ha hb (of_decide_eq_false h)
    exact ⟨by rw [hp1, List.map_drop], hp2, map_snoc hp3 hp4, by simp [hp4], by rw [hp5, hc, List.append_assoc]; rfl, by rw [List.length_drop]; have : ra.length = la.length := (by rw [hp1, List.length_map]); omega⟩
  · have hb : 0 < ra.length := by simpa using ‹decide (0 < (ra.length : Int)) = true›
    rw [List.length_drop]; omega
  · have hb : rb.length = 0 := by simpa using h
    exact merge_fin hp1 hp2 hp3 hp4 hp5 (Or.inr (by rw [hp2, List.length_map] at hb; exact hb))
  · have hb : ra.length = 0 := by simpa using h
    exact merge_fin hp1 hp2 hp3 hp4 hp5 (Or.inl (by rw [hp1, List.length_map] at hb; exact hb))
end Go.Proofs.YtpejdgkaapnekaaGreat
