import Derived.Shelf.SlSortCmp.WholeK
import Derived.Shelf.SlSortCmp.NoneTotal
import Derived.Test.YtpejdgkaapnekaaGreatP6
import Derived.Test.YtpejdgkaapnekaaGreatTab
set_option linter.unusedVariables false
set_option linter.unusedSimpArgs false
namespace Go.Abs
open Go
variable {P : Program} {c : Ctx} {T : Tab}
theorem okops_isNilS (hT : TabOk P T) {ops : Array Oper} {o : Oper} {rest : List Oper} {st : St} {K : St → Prop} {op : BinOp} {t ty : TypeId} {x y : Operand} {e : Bool} {k b : Nat} {xs : List (List D)}
    (ho : o.op = .binOp op t x y ty) (hop : isEql op = some e) (hg : o.guard = none) (hd : dstOk c.n o.dst = true) (ht : (isSliceT T t && isNilA (ev st y)) = true) (hx : ev st x = some (.one (.d (.sl k b xs))))
    (h : ∀ r : Bool, (r = true → xs = []) → OkOps P c ops rest ⟨putO o.dst (.one (.d (.bool (r == e)))) st.fr, st.sto⟩ K) : OkOps P c ops (o :: rest) st K :=
  okops_run hg fun a w σ φ hr => by
    rw [Bool.and_eq_true] at ht
    obtain ⟨el, hu⟩ := isSliceT_ok hT ht.1
    have hr1 : ∃ A n cap, a.eval x = .slice A n cap ∧ (A.isNone = true → xs = []) := by
      have h1 := RepC.d_inv (ev_rep hr hx)
      generalize a.eval x = u at h1
      cases h1 with
      | sl vs hc h48 hb hk hA hh =>
        refine ⟨_, _, _, rfl, fun hn => ?_⟩
        cases xs with
        | nil => rfl
        | cons z zs =>
          obtain ⟨B, o, cells, rfl, _⟩ := hA (by simp)
          simp at hn
    obtain ⟨A, n, cap, hx, hA⟩ := hr1
    have hy : a.eval y = .slice none 0 0 := by
      have h2 := ht.2
      unfold isNilA at h2
      split at h2
      · rename_i hy
        have h1 := RepC.d_inv (ev_rep hr hy)
        generalize a.eval y = u at h1
        cases h1; rfl
      · cases h2
    refine ⟨.bool (A.isNone == e), w, _, σ, φ, ?_, hr.put (v := .one (.d (.bool (A.isNone == e)))) hd (RepC.d .bool), h _ hA⟩
    cases op <;> simp only [isEql, Option.some.injEq, reduceCtorEq] at hop <;> subst hop
    · simp [execOp, ho, hx, hy, eqGuard_quiet, Lib.run_eql_slice_nil _ _ _ _ _ _ _ _ hu]
    · simp [execOp, ho, hx, hy, eqGuard_quiet, run_neq_slice_nil_any _ _ _ _ _ _ _ _ hu]
variable {w0 : World} {σ0 : Sig} {φ0 : Pl} {fr : List (Nat × AV)} {sto : Sto}
theorem imp_adoptJ (i j0 id : Nat) {k b : Nat} {cs : List AC} (hl : look sto i = some (.box cs)) (hc : cs[j0]? = some (.d .nil)) (hlt : (Nat.blt id 1000000 && (!frMen id fr && !stoMen id sto && !hasK sto id)) = true) : Imp c ⟨fr, sto⟩ ⟨fr, (id, .row k b []) :: setS i (.box (cs.set j0 (.own id 0))) sto⟩ := by
  simp only [Bool.and_eq_true, Bool.not_eq_true', Nat.blt_eq] at hlt
  obtain ⟨h1, ⟨h2, h3⟩, h4⟩ := hlt
  intro a w σ φ hr
  have hn := hr.nilRow (id := id) (k := k) (b := b) (by simpa using h1) h2 h3
  have hne : id ≠ i := by rintro rfl; simp [hasK, hl] at h4
  have hE : Ext (fun _ => False) (updP φ id none) (updP φ id none) ((id, .row k b []) :: sto) ((id, .row k b []) :: setS i (.box (cs.set j0 (.own id 0))) sto) := by
    intro j _
    cases hj : look ((id, AObj.row k b []) :: setS i (.box (cs.set j0 (.own id 0))) sto) j with
    | none => exact .inl rfl
    | some e =>
      refine .inr ?_
      rcases look_cons hj with ⟨rfl, rfl⟩ | ⟨hne2, hj2⟩
      · exact ⟨_, look_self, rfl, _, rfl, compat.refl _⟩
      · rw [look_setS] at hj2
        rcases look_cons hj2 with ⟨rfl, rfl⟩ | ⟨_, hj3⟩
        · exact ⟨.box cs, by rw [look_ne hne2]; exact hl, rfl, .box (cs.set j0 (.own id 0)), rfl, trivial⟩
        · exact ⟨_, by rw [look_ne hne2]; exact hj3, rfl, _, rfl, compat.refl _⟩
  have hold : ∀ {j e}, look ((id, AObj.row k b []) :: setS i (.box (cs.set j0 (.own id 0))) sto) j = some e → (j = i ∧ e = .box (cs.set j0 (.own id 0))) ∨ look ((id, AObj.row k b []) :: sto) j = some e := by
    intro j e hj
    rcases look_cons hj with ⟨rfl, rfl⟩ | ⟨hne2, hj2⟩
    · exact .inr look_self
    · rw [look_setS] at hj2
      rcases look_cons hj2 with ⟨rfl, rfl⟩ | ⟨_, hj3⟩
      · exact .inl ⟨rfl, rfl⟩
      · exact .inr (by rw [look_ne hne2]; exact hj3)
  have hi : look ((id, AObj.row k b []) :: sto) i = some (.box cs) := by rw [look_ne (fun e => hne e.symm)]; exact hl
  refine ⟨σ, _, hn.le, hn.fresh, ⟨hn.inv.sig, fun j e hj => ?_, fun j j' e e' p p' hj hj' hne2 hp hp' => ?_⟩, fun j e p hj hp => ?_, fun s v hv => ?_, hn.defers, hn.size, hn.fra, hn.pin⟩
  · rcases hold hj with ⟨rfl, rfl⟩ | hj2
    · obtain ⟨B, cc, vs, t, h5, h6, h7, h8⟩ := hn.inv.obj _ _ hi
      refine ⟨B, cc, vs, t, h5, h6, All2.of_get (by rw [List.length_set]; exact h7.length) fun m x u hx hu => ?_, h8⟩
      by_cases hm : j0 = m
      · subst hm
        have hlt : j0 < cs.length := (List.getElem?_eq_some_iff.1 hc).1
        rw [List.getElem?_set_self hlt] at hx
        cases hx
        obtain ⟨u', hu', hr9⟩ := h7.get hc
        rw [hu] at hu'; cases hu'
        replace hr9 := RepC.d_inv hr9
        cases hr9
        exact .ownNil look_self updP_self
      · rw [List.getElem?_set_ne hm] at hx
        obtain ⟨u', hu', hr9⟩ := h7.get hx
        rw [hu] at hu'; cases hu'
        exact hr9.ext (Sig.le_refl _) hE fun j hj => hj.elim
    · exact (hn.inv.obj _ _ hj2).ext (X := fun _ => False) (Sig.le_refl _) hE (fun j hj => hj.elim) rfl fun _ _ _ => ⟨rfl, rfl⟩
  · have h5 : ∀ {j e}, look ((id, AObj.row k b []) :: setS i (.box (cs.set j0 (.own id 0))) sto) j = some e → ∃ e0, look ((id, AObj.row k b []) :: sto) j = some e0 := by
      intro j e hj
      rcases hold hj with ⟨rfl, rfl⟩ | hj2
      · exact ⟨_, hi⟩
      · exact ⟨_, hj2⟩
    obtain ⟨_, h6⟩ := h5 hj
    obtain ⟨_, h7⟩ := h5 hj'
    exact hn.inv.inj _ _ _ _ _ _ h6 h7 hne2 hp hp'
  · rcases hold hj with ⟨rfl, rfl⟩ | hj2
    · exact hn.mine _ _ _ hi hp
    · exact hn.mine _ _ _ hj2 hp
  · obtain ⟨u, hu, hru⟩ := hn.slot s v hv
    exact ⟨u, hu, hru.ext (Sig.le_refl _) hE fun j hj => hj.elim⟩
theorem step3_append {V : Env} {st : St} {o : Oper} {id i n k b k' b' : Nat} {t t2 : TypeId} {x y : Operand} {v : AV} {xs ys : List (List D)} {e : TypeId} {z : List D} {q : TypeId × Nat × Nat × List D}
    (ho : o.op = .call { callee := .builtin .append, args := ⟨[x, y]⟩, argTypes := ⟨[t, t2]⟩ }) (ht : sliceTy V.T t = some (e, k, b, z)) (ht2 : sliceTy V.T t2 = some q) (hx : ev st x = some (.one (.own i n))) (hl : look st.sto i = some (.row k' b' xs))
    (hkb : (Nat.beq k k' && Nat.beq b b') = true) (hy : ev st y = some v) (hs : srcOf st k v = some ys) (h1 : n + ys.length ≤ 1000000000) (h2 : (n + ys.length) * b ≤ 100000000000) :
    step3 V st o id = some ⟨.one (.own id (n + ys.length)), [(id, some (.row k b (xs.take n ++ ys))), (i, none)], [id]⟩ := by
  obtain ⟨q1, q2, q3, q4⟩ := q
  have e1 : Nat.ble (n + ys.length) 1000000000 = true := by simpa using h1
  have e2 : Nat.ble ((n + ys.length) * b) 100000000000 = true := by simpa using h2
  simp only [step3, stepE, valF, ho, otherE, appV, hx, hy, ht, ht2, hl, hs, hkb, e1, e2, cond_true, Bool.and_self, builtinF, List.map_cons, List.map_nil]
end Go.Abs
namespace Go.Proofs.YtpejdgkaapnekaaGreat
open Go Go.Abs
attribute [local irreducible] OkOps OkC DRun thenQ blockQ RetQ
set_option maxRecDepth 10000
theorem c129 (l : List Int) : CallA Tryz.prog 129 [.one (.d (encInts l))] [] (.one (.d (encInts l))) [] := by
  refine enter tabOk Tryz.func129 rfl (by decide +kernel) rfl fun hok w0 σ0 φ0 M => ?_
  have h1 := hok.1.sl; clear hok; simp only [List.length_map] at h1
  repeat' (first | (show OkOps _ _ _ _ _ _; first | (show OkOps _ _ _ (Oper.mk _ (Op.binOp .eql _ _ _ _) _ _ _ (_) :: _) _ _; first | refine okops_isNilS tabOk rfl rfl rfl rfl rfl rfl (fun r hr => ?_) | fail) | (show OkOps _ _ _ (Oper.mk _ (Op.call _) _ _ _ (_) :: _) _ _; first | refine okops_append tabOk rfl rfl rfl rfl rfl (id := 0) rfl rfl rfl rfl rfl rfl rfl (by simp only [List.length_map, Nat.zero_add]; omega) (by simp only [List.length_map, Nat.zero_add]; omega) ?_ | fail) | refine okops_nil ?_ | refine s_plain tabOk rfl rfl rfl rfl rfl ?_ | refine s_new envOk 0 rfl rfl rfl rfl rfl rfl ?_ | fail) | (show OkC _ _ _ _ _; first | refine okc_imp (imp_sealL (dl := [0]) rfl) (ok_ret ?_) | refine okc_imp (imp_nil (s := 2) (k := 1) (b := 8) rfl) (ok_ret ?_) | refine ok_seq ?_ | refine ok_region ?_ | refine ok_skip ?_ | refine ok_cond rfl (fun h => ?_) (fun h => ?_) | fail) | (show thenQ _ _ _ _; first | refine then_n ?_ | refine then_r ?_ | fail) | (show RetQ _ _ _ _ _ _; first | refine ret_leaf (.inl rfl) rfl rfl ?_ | fail) | fail)
  · have e := hr (by simpa using h)
    simp only [encInts, e]
  · simp only [sealC, encInts, List.length_map, Nat.zero_add, List.take_nil, List.nil_append]
    exact congrArg (fun x => AV.one (AC.d (D.sl _ _ x))) (List.take_of_length_le (by simp))
theorem c144 (l : List Val) : CallA Tryz.prog 144 [.one (.d (encVals l))] [] (.one (.d (encVals l))) [] := by
  refine enter tabOk Tryz.func144 rfl (by decide +kernel) rfl fun hok w0 σ0 φ0 M => ?_
  have h1 := hok.1.sl; clear hok; simp only [List.length_map] at h1
  repeat' (first | (show OkOps _ _ _ _ _ _; first | (show OkOps _ _ _ (Oper.mk _ (Op.binOp .eql _ _ _ _) _ _ _ (_) :: _) _ _; first | refine okops_isNilS tabOk rfl rfl rfl rfl rfl rfl (fun r hr => ?_) | fail) | (show OkOps _ _ _ (Oper.mk _ (Op.call _) _ _ _ (_) :: _) _ _; first | refine okops_append tabOk rfl rfl rfl rfl rfl (id := 0) rfl rfl rfl rfl rfl rfl rfl (by simp only [List.length_map, Nat.zero_add]; omega) (by simp only [List.length_map, Nat.zero_add]; omega) ?_ | fail) | refine okops_nil ?_ | refine s_plain tabOk rfl rfl rfl rfl rfl ?_ | refine s_new envOk 0 rfl rfl rfl rfl rfl rfl ?_ | fail) | (show OkC _ _ _ _ _; first | refine okc_imp (imp_sealL (dl := [0]) rfl) (ok_ret ?_) | refine okc_imp (imp_nil (s := 2) (k := 4) (b := 40) rfl) (ok_ret ?_) | refine ok_seq ?_ | refine ok_region ?_ | refine ok_skip ?_ | refine ok_cond rfl (fun h => ?_) (fun h => ?_) | fail) | (show thenQ _ _ _ _; first | refine then_n ?_ | refine then_r ?_ | fail) | (show RetQ _ _ _ _ _ _; first | refine ret_leaf (.inl rfl) rfl rfl ?_ | fail) | fail)
  · have e := hr (by simpa using h)
    simp only [encVals, e]
  · simp only [sealC, encVals, List.length_map, Nat.zero_add, List.take_nil, List.nil_append]
    exact congrArg (fun x => AV.one (AC.d (D.sl _ _ x))) (List.take_of_length_le (by simp))
theorem c97 (l : List Dim) : CallA Tryz.prog 97 [.one (.d (encDims l))] [] (.one (.d (encDims l))) [] := by
  refine enter tabOk Tryz.func97 rfl (by decide +kernel) rfl fun hok w0 σ0 φ0 M => ?_
  have h1 := hok.1.sl; clear hok; simp only [List.length_map] at h1
  repeat' (first | (show OkOps _ _ _ _ _ _; first | (show OkOps _ _ _ (Oper.mk _ (Op.binOp .eql _ _ _ _) _ _ _ (_) :: _) _ _; first | refine okops_isNilS tabOk rfl rfl rfl rfl rfl rfl (fun r hr => ?_) | fail) | (show OkOps _ _ _ (Oper.mk _ (Op.call _) _ _ _ (_) :: _) _ _; first | refine okops_append tabOk rfl rfl rfl rfl rfl (id := 0) rfl rfl rfl rfl rfl rfl rfl (by simp only [List.length_map, Nat.zero_add]; omega) (by simp only [List.length_map, Nat.zero_add]; omega) ?_ | fail) | refine okops_nil ?_ | refine s_plain tabOk rfl rfl rfl rfl rfl ?_ | refine s_new envOk 0 rfl rfl rfl rfl rfl rfl ?_ | fail) | (show OkC _ _ _ _ _; first | refine okc_imp (imp_sealL (dl := [0]) rfl) (ok_ret ?_) | refine okc_imp (imp_nil (s := 2) (k := 3) (b := 32) rfl) (ok_ret ?_) | refine ok_seq ?_ | refine ok_region ?_ | refine ok_skip ?_ | refine ok_cond rfl (fun h => ?_) (fun h => ?_) | fail) | (show thenQ _ _ _ _; first | refine then_n ?_ | refine then_r ?_ | fail) | (show RetQ _ _ _ _ _ _; first | refine ret_leaf (.inl rfl) rfl rfl ?_ | fail) | fail)
  · have e := hr (by simpa using h)
    simp only [encDims, e]
  · simp only [sealC, encDims, List.length_map, Nat.zero_add, List.take_nil, List.nil_append]
    exact congrArg (fun x => AV.one (AC.d (D.sl _ _ x))) (List.take_of_length_le (by simp))
theorem c145 (l : List Attr) : CallA Tryz.prog 145 [.one (.d (encAttrs l))] [] (.one (.d (encAttrs l))) [] := by
  refine enter tabOk Tryz.func145 rfl (by decide +kernel) rfl fun hok w0 σ0 φ0 M => ?_
  have h1 := hok.1.sl; clear hok; simp only [List.length_map] at h1
  repeat' (first | (show OkOps _ _ _ _ _ _; first | (show OkOps _ _ _ (Oper.mk _ (Op.binOp .eql _ _ _ _) _ _ _ (_) :: _) _ _; first | refine okops_isNilS tabOk rfl rfl rfl rfl rfl rfl (fun r hr => ?_) | fail) | (show OkOps _ _ _ (Oper.mk _ (Op.call _) _ _ _ (_) :: _) _ _; first | refine okops_append tabOk rfl rfl rfl rfl rfl (id := 0) rfl rfl rfl rfl rfl rfl rfl (by simp only [List.length_map, Nat.zero_add]; omega) (by simp only [List.length_map, Nat.zero_add]; omega) ?_ | fail) | refine okops_nil ?_ | refine s_plain tabOk rfl rfl rfl rfl rfl ?_ | refine s_new envOk 0 rfl rfl rfl rfl rfl rfl ?_ | fail) | (show OkC _ _ _ _ _; first | refine okc_imp (imp_sealL (dl := [0]) rfl) (ok_ret ?_) | refine okc_imp (imp_nil (s := 2) (k := 2) (b := 24) rfl) (ok_ret ?_) | refine ok_seq ?_ | refine ok_region ?_ | refine ok_skip ?_ | refine ok_cond rfl (fun h => ?_) (fun h => ?_) | fail) | (show thenQ _ _ _ _; first | refine then_n ?_ | refine then_r ?_ | fail) | (show RetQ _ _ _ _ _ _; first | refine ret_leaf (.inl rfl) rfl rfl ?_ | fail) | fail)
  · have e := hr (by simpa using h)
    simp only [encAttrs, e]
  · simp only [sealC, encAttrs, List.length_map, Nat.zero_add, List.take_nil, List.nil_append]
    exact congrArg (fun x => AV.one (AC.d (D.sl _ _ x))) (List.take_of_length_le (by simp))
end Go.Proofs.YtpejdgkaapnekaaGreat
namespace Go.Abs
open Go Go.Shelf Go.RowKit Go.Lib Go.Sort Go.Proofs
variable {P : Program} {σ : Sig} {φ : Pl} {w : World}
theorem all2_d {σ : Sig} {φ : Pl} {sto : Sto} : ∀ {ds : List D} {vs : List Value}, All2 (Rep σ) ds vs → All2 (RepC σ φ sto) (ds.map AC.d) vs
  | [], [], _ => trivial
  | _ :: _, _ :: _, h => ⟨.d h.1, all2_d h.2⟩
  | [], _ :: _, h => h.elim
  | _ :: _, [], h => h.elim
theorem all2_oneCell : ∀ {ds : List D} {vs : List Value}, All2 (Rep σ) ds vs → ∀ v ∈ vs, v.oneCell = true
  | [], [], _, v, hv => by simp at hv
  | _ :: _, _ :: _, h, v, hv => by
    rcases List.mem_cons.1 hv with rfl | hv
    · exact h.1.oneCell
    · exact all2_oneCell h.2 v hv
  | [], _ :: _, h, _, _ => h.elim
  | _ :: _, [], h, _, _ => h.elim
theorem kept_grow {M : Nat → Prop} {w w' : World} (h : Kept M w w') (hM : ∀ b, ¬ M b) : ∃ q os, w' = grow (w.drewN q) os := by
  refine ⟨w'.drawn - w.drawn, w'.heap.extract w.heap.size w'.heap.size, ?_⟩
  have hh : w'.heap = w.heap ++ w'.heap.extract w.heap.size w'.heap.size := by
    refine Array.ext_getElem? fun i => ?_
    by_cases hi : i < w.heap.size
    · rw [Array.getElem?_append_left hi]; exact h.block i hi (hM i)
    · rw [Array.getElem?_append_right (by omega), Array.getElem?_extract]
      have := h.size
      by_cases hi2 : i < w'.heap.size
      · rw [if_pos (by omega)]; congr 1; omega
      · rw [if_neg (by omega)]; exact Array.getElem?_eq_none (by omega)
  have h1 := h.os; have h2 := h.tape; have h3 := h.output; have h4 := h.drawn
  cases w; cases w'
  simp only [grow, World.drewN] at *
  subst h1 h2 h3
  congr 1
  omega
theorem heap_putRow_other {enc : Value → Value} {w : World} {B off b : Nat} {d : Array Value} (h : b ≠ B) : (putRow enc w B off d).heap[b]? = w.heap[b]? := by
  simp only [putRow, mapBlock, Array.getElem?_modify, if_neg (Ne.symm h)]
theorem heap_sort_other {α : Type} [Inhabited α] {enc : α → List Value} {k : Nat} {w : World} {B off m b : Nat} {d : Array α} {os : Array Obj} (hb : b < w.heap.size) (h : b ≠ B) :
    (sortWorldK enc k w B off m d os).heap[b]? = w.heap[b]? := by
  unfold sortWorldK grow putRowK
  show ((putRow id (Sort.ahead w m) B off (flatK enc k d)).heap ++ os)[b]? = _
  rw [Array.getElem?_append_left (by rw [Go.Sort.size_putRow]; exact hb), heap_putRow_other h]
  rfl
theorem heap_sort_row {α : Type} [Inhabited α] {enc : α → List Value} {k : Nat} {w : World} {B off m : Nat} {d : Array α} {os : Array Obj} {arr : Array Value} {t : TypeId} {fr : Nat × Nat} (h : w.heap[B]? = some (.cells arr t fr)) :
    (sortWorldK enc k w B off m d os).heap[B]? = some (.cells (putCells id off (flatK enc k d) arr) t fr) := by
  unfold sortWorldK grow putRowK
  show ((putRow id (Sort.ahead w m) B off (flatK enc k d)).heap ++ os)[B]? = _
  have hB := (Array.getElem?_eq_some_iff.1 h).1
  rw [Array.getElem?_append_left (by rw [Go.Sort.size_putRow]; exact hB)]
  simp only [putRow, mapBlock, Array.getElem?_modify, if_true]
  show (w.heap[B]?).map _ = _
  rw [h]; rfl
theorem size_sort {α : Type} [Inhabited α] {enc : α → List Value} {k : Nat} {w : World} {B off m : Nat} {d : Array α} {os : Array Obj} :
    w.heap.size ≤ (sortWorldK enc k w B off m d os).heap.size := by
  unfold sortWorldK grow putRowK
  show w.heap.size ≤ ((putRow id (Sort.ahead w m) B off (flatK enc k d)).heap ++ os).size
  rw [Array.size_append, Go.Sort.size_putRow]
  exact Nat.le_add_right _ _
section
variable {C : Type}
abbrev El (σ : Sig) (k : Nat) (encC : C → List D) := { p : C × List Value // p.2.length = k ∧ All2 (Rep σ) (encC p.1) p.2 }
set_option maxHeartbeats 1000000 in
theorem callA_sort {ρ : Ren} (L : SlLaysF0.n6 P ρ) (k b : Nat) (hk0 : 0 < k) (aE : ∀ w, (isAgg (ρ.t 24)).run P w = .ok true w) (zE : ∀ w, (Go.sizeOf (ρ.t 24)).run P w = .ok k w)
    (encC : C → List D) (hk : ∀ x, (encC x).length = k) (cf : C → C → Int) (h1 : ∀ x, ¬ cf x x < 0) (h2 : ∀ x y z, cf x y < 0 → cf y z < 0 → cf x z < 0) (h3 : ∀ x y z, ¬ cf x y < 0 → ¬ cf y z < 0 → ¬ cf x z < 0)
    (g : Nat) (hg : ∀ x y, CallA P g [.agg ((encC x).map .d), .agg ((encC y).map .d)] [] (.one (.d (.int .i64 (cf x y)))) [])
    (eg : ∀ args w, (callFunc g args).run P w = .ok (.enter g args) w)
    (hfn : ∃ fn, P.funcs[ρ.f 6]? = some fn ∧ (fn.name == "runtime.NumGoroutine") = false ∧ fn.body.isSome = true)
    (id : Nat) (cs ss : List C) (hu : ∀ l : List C, l.Perm cs → l.Pairwise (fun x y => ¬ cf y x < 0) → l = ss) :
    CallA P (ρ.f 6) [.one (.own id cs.length), .one (.d (.fn g []))] [(id, .row k b (cs.map encC))] (.tup []) [(id, .row k b (ss.map encC))] := by
  refine ⟨hfn, fun w σ φ vs hI hA => ?_⟩
  match vs, hA with
  | [v0, v1], hA =>
  obtain ⟨hv0, hv1, _⟩ := hA
  have ev1 : v1 = .func (.func g) #[] #[] := by
    have hv1 : RepC σ φ _ (.d (.fn g [])) v1 := hv1
    cases hv1.d_inv with
    | fn ws hl _ =>
      have : ws = [] := List.eq_nil_of_length_eq_zero (by simpa using hl)
      subst this; rfl
  subst ev1
  have hlook : look [(id, AObj.row k b (cs.map encC))] id = some (.row k b (cs.map encC)) := by simp [look]
  have hobj := hI.obj id _ hlook
  by_cases hn : cs = []
  · subst hn
    have hss : ss = [] := (hu [] (List.Perm.refl _) .nil).symm
    subst hss
    have ev0 : ∃ p c, v0 = .slice p 0 c := by
      have hv0 : RepC σ φ _ (.own id 0) v0 := hv0
      cases hv0 with
      | ownNil => exact ⟨_, _, rfl⟩
      | own => exact ⟨_, _, rfl⟩
      | dead hx => simp [acIn, hasK, look] at hx
    obtain ⟨p, c, rfl⟩ := ev0
    refine (AnyF.slices_SortFunc_none L p c _ w).mono ?_
    rintro e w' ⟨rfl, rfl⟩
    exact ⟨_, σ, φ, rfl, Sig.le_refl _, fun b hb => .inl hb, hI, ⟨[], rfl, trivial⟩, fun i e p h1 h2 => .inr ⟨i, e, p, h1, h2, rfl⟩, fun _ _ => rfl, ⟨rfl, rfl, rfl, Nat.le_refl _, Nat.le_refl _, fun _ _ _ => rfl⟩⟩
  · have hn0 : 0 < cs.length := List.length_pos_iff.2 hn
    have hv0 : RepC σ φ _ (.own id cs.length) v0 := hv0
    obtain ⟨B, cap0, rfl, hφ⟩ : ∃ B cap, v0 = .slice (some ⟨B, 0, none⟩) cs.length cap ∧ φ id = some (B, cap) := by
      revert hv0; generalize cs.length = m at hn0 ⊢; intro hv0
      cases hv0 with
      | ownNil => omega
      | own _ _ hp => exact ⟨_, _, rfl, hp⟩
      | dead hx => simp [acIn, hasK, look] at hx
    rcases hobj with ⟨he, _⟩ | ⟨B', cap, arr, t, vf, hφ', hheap, hsz, hle, h48, hb47, hlen, hcell, hrep, hσ⟩
    · simp at he; exact absurd he hn
    rw [hφ] at hφ'; cases hφ'
    simp only [List.length_map] at hle h48 hb47 hcell
    have hB : B < w.heap.size := (Array.getElem?_eq_some_iff.1 hheap).1
    have hel : ∀ i (hi : i < cs.length), ((List.range k).map (vf i)).length = k ∧ All2 (Rep σ) (encC cs[i]) ((List.range k).map (vf i)) := by
      intro i hi
      refine ⟨by simp, All2.of_get (by simp [hk]) fun j x v hx hv => ?_⟩
      have hj : j < k := by have := (List.getElem?_eq_some_iff.1 hx).1; rwa [hk] at this
      have hv' : v = vf i j := by
        rw [List.getElem?_map, List.getElem?_range hj] at hv; simpa using hv.symm
      subst hv'
      exact hrep i j _ _ (by rw [List.getElem?_map, List.getElem?_eq_getElem hi]; rfl) hx
    let mk : (i : Nat) → i < cs.length → El σ k encC := fun i hi => ⟨(cs[i], (List.range k).map (vf i)), hel i hi⟩
    haveI : Inhabited (El σ k encC) := ⟨mk 0 hn0⟩
    let d : Array (El σ k encC) := Array.ofFn (n := cs.length) fun i => mk i.1 i.2
    have hds : d.size = cs.length := by simp [d]
    have hdg : ∀ i (hi : i < cs.length), d[i]! = mk i hi := by
      intro i hi; rw [getElem!_pos d i (by omega)]; simp [d]
    have hdl : d.toList.map (fun x => x.1.1) = cs := by
      refine List.ext_getElem (by simp [hds]) fun i h4 h5 => ?_
      simp [d, mk]
    let enc : El σ k encC → List Value := fun x => x.1.2
    let cf' : El σ k encC → El σ k encC → Int := fun x y => cf x.1.1 y.1.1
    have hO : SWO (ltOf cf') :=
      ⟨fun x => by simpa [ltOf, cf'] using h1 x.1.1, fun x y z => by simpa [ltOf, cf'] using h2 x.1.1 y.1.1 z.1.1, fun x y z => by simpa [ltOf, cf'] using h3 x.1.1 y.1.1 z.1.1⟩
    have hHK : HoldsK enc k w B 0 d := by
      intro j hj
      rw [size_flatK, hds] at hj
      have hj1 : j / k < cs.length := Nat.div_lt_of_lt_mul (by rwa [Nat.mul_comm] at hj)
      have hj2 : j % k < k := Nat.mod_lt _ hk0
      have hc := hcell (j / k) (j % k) hj1 hj2
      rw [Nat.div_add_mod' j k] at hc
      rw [get_flatK enc k d j (by rw [hds]; exact hj), hdg _ hj1]
      have e : (enc (mk (j / k) hj1))[j % k]! = vf (j / k) (j % k) := by
        rw [getElem!_pos _ _ (by simp [enc, mk]; exact hj2)]; simp [enc, mk]
      rw [e]
      refine ⟨?_, ?_⟩
      · simp only [World.cell?, hheap, Nat.zero_add]
        simpa using hc
      · simp [World.frozen?, hheap]
    have hsig : ∀ (m : Nat) (os : Array Obj) (dk : Array (El σ k encC)), HInv σ φ [] (sortWorldK enc k w B 0 m dk os) := by
      intro m os dk
      refine ⟨fun b cs' hb => ?_, fun i e h => by simp [look] at h, fun i i' e e' p p' h => by simp [look] at h⟩
      obtain ⟨t', f', hh⟩ := hI.sig b cs' hb
      refine ⟨t', f', ?_⟩
      rw [heap_sort_other (Array.getElem?_eq_some_iff.1 hh).1 (by rintro rfl; rw [hσ] at hb; cases hb)]
      exact hh
    have hcmp : CmpLays P g #[] enc k cf' B 0 d.size w := by
      intro m os dk _ x y
      have hr := (hg x.1.1 y.1.1).run (sortWorldK enc k w B 0 m dk os) σ φ [.agg (enc x).toArray, .agg (enc y).toArray] (hsig m os dk) ⟨⟨_, rfl, all2_d x.2.2⟩, ⟨_, rfl, all2_d y.2.2⟩, trivial⟩
      refine Calls.mono hr ?_
      rintro e w' ⟨v, σ', φ', rfl, hret⟩
      obtain ⟨q, os', hq⟩ := kept_grow hret.kept (fun b hb => by obtain ⟨i, e, p, h, _⟩ := hb; simp [look] at h)
      have hv : v = .int .i64 (cf x.1.1 y.1.1) := by
        have h : RepC σ' φ' [] (.d (.int .i64 (cf x.1.1 y.1.1))) v := hret.rep
        cases h.d_inv; rfl
      exact ⟨by rw [hv], q, os', hq⟩
    have hS := AnyQ.slices_SortFunc L k aE zE enc (fun x => x.2.1) (fun x v hv => oneCell_of (all2_oneCell x.2.2 v hv)) cf' hO g #[] B 0 cap0 d w eg hcmp hHK hB (by omega)
    rw [hds] at hS
    refine Calls.mono hS ?_
    rintro e w' ⟨rfl, d', n', os, hperm, hsorted, rfl⟩
    have hd's : d'.size = cs.length := hperm.1.trans hds
    have hpl : d'.toList.Perm d.toList := by
      have h := hperm.2.2
      have e1 : d'.extract 0 cs.length = d' := by rw [← hd's]; simp
      have e2 : d.extract 0 cs.length = d := by rw [← hds]; simp
      rwa [e1, e2] at h
    have hl : d'.toList.map (fun x => x.1.1) = ss := by
      refine hu _ (hdl ▸ hpl.map _) ?_
      rw [List.pairwise_map, List.pairwise_iff_getElem]
      intro i j hi hj hij
      have h := hsorted i j (Nat.zero_le _) hij (by simpa [hd's] using hj)
      simp only [Array.length_toList] at hi hj
      rw [getElem!_pos d' i hi, getElem!_pos d' j hj] at h
      simpa [ltOf, cf'] using h
    have hssl : ss.length = cs.length := by rw [← hl]; simp [hd's]
    have hget : ∀ i (hi : i < cs.length) (x : C), ss[i]? = some x → d'[i]!.1.1 = x := by
      intro i hi x hx
      rw [← hl, List.getElem?_map, Array.getElem?_toList, Array.getElem?_eq_getElem (by omega)] at hx
      rw [getElem!_pos d' i (by omega)]
      simpa using hx
    have hmine : MOf φ [(id, AObj.row k b (cs.map encC))] B := ⟨id, _, _, hlook, hφ, rfl⟩
    refine ⟨_, σ, φ, rfl, Sig.le_refl _, fun b hb => .inl hb, ⟨fun b cs' hb => ?_, fun i e hi => ?_, fun i i' e e' p p' hi hi' hne => ?_⟩, ⟨[], rfl, trivial⟩, fun i e p hi hp => .inr ?_, fun _ _ => rfl, ⟨rfl, rfl, rfl, size_sort, Nat.le_add_right _ _, fun b hb hM => heap_sort_other hb (by rintro rfl; exact hM hmine)⟩⟩
    · obtain ⟨t', f', hh⟩ := hI.sig b cs' hb
      refine ⟨t', f', ?_⟩
      rw [heap_sort_other (Array.getElem?_eq_some_iff.1 hh).1 (by rintro rfl; rw [hσ] at hb; cases hb)]
      exact hh
    · rcases look_cons hi with ⟨rfl, rfl⟩ | ⟨_, hi⟩
      · refine .inr ⟨B, cap0, putCells _root_.id 0 (flatK enc k d') arr, t, fun i j => (enc d'[i]!)[j]!, hφ, heap_sort_row hheap, by simp [putCells, hsz], by simpa [hssl] using hle, by simpa [hssl] using h48, by simpa [hssl] using hb47, fun x hx => ?_, fun i j hi hj => ?_, fun i j x dd hx hdd => ?_, hσ⟩
        · obtain ⟨c, _, rfl⟩ := List.mem_map.1 hx; exact hk c
        · simp only [List.length_map, hssl] at hi
          have hlt : i * k + j < cs.length * k := by
            have := Nat.mul_le_mul_right k (show i + 1 ≤ cs.length from hi); rw [Nat.add_mul, Nat.one_mul] at this; omega
          have hc := hcell i j hi hj
          simp only [putCells, Array.getElem?_mapIdx, hc, Option.map_some, size_flatK, hd's, Nat.zero_le, true_and, Nat.zero_add, hlt, if_true, Nat.sub_zero]
          rw [get_flatK enc k d' _ (by rw [hd's]; exact hlt)]
          have e1 : (i * k + j) / k = i := (blk_iff k i _ hk0).1 ⟨by omega, by omega⟩
          have e2 : (i * k + j) % k = j := by rw [Nat.mod_eq_sub_div_mul, e1]; omega
          rw [e1, e2]; rfl
        · rw [List.getElem?_map] at hx
          cases hs : ss[i]? with
          | none => rw [hs] at hx; simp at hx
          | some c =>
            rw [hs] at hx; simp at hx; subst hx
            have hi : i < cs.length := by rw [← hssl]; exact (List.getElem?_eq_some_iff.1 hs).1
            have e1 := hget i hi c hs
            have ha := (d'[i]!).2.2
            rw [e1] at ha
            obtain ⟨v, hv, hr⟩ := ha.get hdd
            have : (enc d'[i]!)[j]! = v := by
              have hv2 := (List.getElem?_eq_some_iff.1 hv)
              exact (getElem!_pos (enc d'[i]!) j hv2.1).trans hv2.2
            show Rep σ dd ((enc d'[i]!)[j]!)
            rw [this]; exact hr
      · simp [look] at hi
    · rcases look_cons hi with ⟨rfl, _⟩ | ⟨_, hi⟩
      · rcases look_cons hi' with ⟨rfl, _⟩ | ⟨_, hi'⟩
        · exact absurd rfl hne
        · simp [look] at hi'
      · simp [look] at hi
    · rcases look_cons hi with ⟨rfl, _⟩ | ⟨_, hi⟩
      · rw [hφ] at hp; cases hp; exact hmine
      · simp [look] at hi
end
end Go.Abs
namespace Go.Proofs.YtpejdgkaapnekaaGreat
open Go Go.Proofs Go.Shelf
def sortC_ren : Go.Shelf.Ren := ⟨fun | 6 => 181 | 15 => 219 | 14 => 231 | 28 => 261 | 29 => 262 | 20 => 271 | 21 => 272 | 22 => 273 | 23 => 274 | 24 => 275 | 25 => 276 | 26 => 277 | 27 => 278 | 46 => 338 | 47 => 295 | 48 => 296 | 49 => 339 | 50 => 340 | 57 => 368 | n => n, fun | 22 => 24 | 24 => 56 | 25 => 172 | 3 => 3 | 39 => 192 | 0 => 0 | 53 => 251 | 55 => 253 | 4 => 4 | 46 => 244 | 45 => 243 | 50 => 119 | 5 => 5 | 9 => 9 | 66 => 278 | 70 => 282 | 76 => 302 | 77 => 303 | n => n, fun | n => n⟩
theorem sortC : Go.Proofs.SlLaysF0.n6 Tryz.prog sortC_ren := {
  mixed := by kernel_rfl
  f6 := ⟨Tryz.f181.name, by decide, Tryz.func181.trans (congrArg some (by kernel_rfl))⟩
  f14 := ⟨Tryz.f231.name, by decide, Tryz.func231.trans (congrArg some (by kernel_rfl))⟩
  f15 := Tryz.func219.trans (congrArg some (by kernel_rfl))
  f20 := ⟨Tryz.f271.name, by decide, Tryz.func271.trans (congrArg some (by kernel_rfl))⟩
  f21 := ⟨Tryz.f272.name, by decide, Tryz.func272.trans (congrArg some (by kernel_rfl))⟩
  f22 := ⟨Tryz.f273.name, by decide, Tryz.func273.trans (congrArg some (by kernel_rfl))⟩
  f23 := ⟨Tryz.f274.name, by decide, Tryz.func274.trans (congrArg some (by kernel_rfl))⟩
  f24 := ⟨Tryz.f275.name, by decide, Tryz.func275.trans (congrArg some (by kernel_rfl))⟩
  f25 := ⟨Tryz.f276.name, by decide, Tryz.func276.trans (congrArg some (by kernel_rfl))⟩
  f26 := ⟨Tryz.f277.name, by decide, Tryz.func277.trans (congrArg some (by kernel_rfl))⟩
  f27 := ⟨Tryz.f278.name, by decide, Tryz.func278.trans (congrArg some (by kernel_rfl))⟩
  f28 := Tryz.func261.trans (congrArg some (by kernel_rfl))
  f29 := Tryz.func262.trans (congrArg some (by kernel_rfl))
  f46 := ⟨Tryz.f338.name, by decide, Tryz.func338.trans (congrArg some (by kernel_rfl))⟩
  f47 := Tryz.func295.trans (congrArg some (by kernel_rfl))
  f48 := Tryz.func296.trans (congrArg some (by kernel_rfl))
  f49 := ⟨Tryz.f339.name, by decide, Tryz.func339.trans (congrArg some (by kernel_rfl))⟩
  f50 := ⟨Tryz.f340.name, by decide, Tryz.func340.trans (congrArg some (by kernel_rfl))⟩
  f57 := ⟨Tryz.f368.name, by decide, Tryz.func368.trans (congrArg some (by kernel_rfl))⟩
  t0 := Tryz.underlying0
  a0 := Tryz.isAgg0
  z0 := Tryz.sizeOf0
  v0 := Tryz.zeroValue0
  t3 := Tryz.underlying3
  a3 := Tryz.isAgg3
  z3 := Tryz.sizeOf3
  v3 := Tryz.zeroValue3
  t4 := Tryz.underlying4
  a4 := Tryz.isAgg4
  z4 := Tryz.sizeOf4
  v4 := Tryz.zeroValue4
  t5 := Tryz.underlying5
  a5 := Tryz.isAgg5
  z5 := Tryz.sizeOf5
  v5 := Tryz.zeroValue5
  t9 := Tryz.underlying9
  a9 := Tryz.isAgg9
  z9 := Tryz.sizeOf9
  v9 := Tryz.zeroValue9
  t22 := Tryz.underlying24
  a22 := Tryz.isAgg24
  z22 := Tryz.sizeOf24
  v22 := Tryz.zeroValue24
  t25 := Tryz.underlying172
  a25 := Tryz.isAgg172
  z25 := Tryz.sizeOf172
  v25 := Tryz.zeroValue172
  t39 := Tryz.underlying192
  a39 := Tryz.isAgg192
  z39 := Tryz.sizeOf192
  v39 := Tryz.zeroValue192
  t45 := Tryz.underlying243
  a45 := Tryz.isAgg243
  z45 := Tryz.sizeOf243
  v45 := Tryz.zeroValue243
  t46 := Tryz.underlying244
  a46 := Tryz.isAgg244
  z46 := Tryz.sizeOf244
  v46 := Tryz.zeroValue244
  t50 := Tryz.underlying119
  a50 := Tryz.isAgg119
  z50 := Tryz.sizeOf119
  v50 := Tryz.zeroValue119
  t53 := Tryz.underlying251
  a53 := Tryz.isAgg251
  z53 := Tryz.sizeOf251
  v53 := Tryz.zeroValue251
  t55 := Tryz.underlying253
  a55 := Tryz.isAgg253
  z55 := Tryz.sizeOf253
  v55 := Tryz.zeroValue253
  t66 := Tryz.underlying278
  a66 := Tryz.isAgg278
  z66 := Tryz.sizeOf278
  v66 := Tryz.zeroValue278
  t70 := Tryz.underlying282
  a70 := Tryz.isAgg282
  z70 := Tryz.sizeOf282
  v70 := Tryz.zeroValue282
  t76 := Tryz.underlying302
  a76 := Tryz.isAgg302
  z76 := Tryz.sizeOf302
  v76 := Tryz.zeroValue302
  t77 := Tryz.underlying303
  a77 := Tryz.isAgg303
  z77 := Tryz.sizeOf303
  v77 := Tryz.zeroValue303 }
end Go.Proofs.YtpejdgkaapnekaaGreat
namespace Go.Proofs.YtpejdgkaapnekaaGreat
open Go Go.Abs
attribute [local irreducible] OkOps OkC DRun thenQ blockQ RetQ
set_option maxRecDepth 10000
def cellC (x : Cell) : AV := .agg ((encCell x).map .d)
theorem c182 (x y : Cell) : CallA Tryz.prog 182 [cellC x, cellC y] [] (.one (.d (.int .i64 (cmpF x.at' y.at')))) [] := by
  unfold cellC encCell
  simp only [List.map_cons, List.map_nil]
  refine enter tabOk Tryz.func182 rfl (by decide +kernel) rfl fun hok w0 σ0 φ0 M => ?_
  clear hok
  repeat' (first | (show OkOps _ _ _ _ _ _; first | refine okops_nil ?_ | refine s_plain tabOk rfl rfl rfl rfl rfl ?_ | (show OkOps _ _ _ (Oper.mk _ (Op.call _) _ _ _ (_) :: _) _ _; first | refine s_callF rfl rfl rfl rfl rfl rfl rfl rfl (c35 _ _) rfl ?_ | fail) | (show OkOps _ _ _ (Oper.mk _ (Op.box _ _) _ _ _ (_) :: _) _ _; first | refine s_box 0 rfl rfl rfl rfl rfl rfl ?_ | refine s_box 1 rfl rfl rfl rfl rfl rfl ?_ | fail) | fail) | (show OkC _ _ _ _ _; first | refine ok_seq ?_ | refine ok_region ?_ | refine ok_ret ?_ | fail) | (show thenQ _ _ _ _; first | refine then_n ?_ | fail) | (show RetQ _ _ _ _ _ _; first | refine ret_leaf (.inl rfl) rfl rfl ?_ | fail) | fail)
  all_goals (try (((simp_all [at_drop, List.drop_eq_nil_of_le]) <;> first | omega | (rw [Bool.eq_iff_iff]; simp; omega) | grind); done))
theorem c181 (id : Nat) (cs ss : List Cell) (hu : ∀ l : List Cell, l.Perm cs → l.Pairwise (fun x y => ¬ cmpF y.at' x.at' < 0) → l = ss) :
    CallA Tryz.prog 181 [.one (.own id cs.length), .one (.d (.fn 182 []))] [(id, .row 2 48 (cs.map encCell))] (.tup []) [(id, .row 2 48 (ss.map encCell))] := by
  refine callA_sort sortC 2 48 (by omega) Tryz.isAgg56 Tryz.sizeOf56 encCell (fun _ => rfl) (fun x y => cmpF x.at' y.at') (fun x => by rw [cmpF_refl]; omega) (fun x y z h1 h2 => ?_) (fun x y z h1 h2 => ?_) 182 c182
    (enters_of Tryz.func182 (by kernel_rfl) rfl) ⟨Tryz.f181, Tryz.func181, by kernel_rfl, by kernel_rfl⟩ id cs ss hu
  · have := cmpF_le_trans x.at' y.at' z.at' (by omega) (by omega)
    omega
  · have h3 := cmpF_swap x.at' y.at'
    have h4 := cmpF_swap y.at' z.at'
    have h5 := cmpF_swap x.at' z.at'
    have := cmpF_le_trans z.at' y.at' x.at' (by omega) (by omega)
    omega
end Go.Proofs.YtpejdgkaapnekaaGreat
namespace Go.Proofs.YtpejdgkaapnekaaGreat
open Go Go.Abs
attribute [local irreducible] OkOps OkC DRun thenQ blockQ RetQ
set_option maxRecDepth 10000
theorem take_map_len {α β : Type} (f : α → β) (l : List α) : (l.map f).take l.length = l.map f := List.take_of_length_le (by simp)
theorem c95 (x : Cell) (ha : x.at'.length ≤ 1048576) (hv : x.vals.length ≤ 1048576) : CallA Tryz.prog 95 [cellC x] [] (cellC x) [] := by
  unfold cellC encCell
  simp only [List.map_cons, List.map_nil]
  refine enter tabOk Tryz.func95 rfl (by decide +kernel) rfl fun hok w0 σ0 φ0 M => ?_
  clear hok
  repeat' (first | (show OkOps _ _ _ _ _ _; first | refine okops_nil ?_ | (show OkOps _ _ _ (Oper.mk _ (Op.box _ _) _ _ _ (_) :: _) _ _; first | refine s_box 0 rfl rfl rfl rfl rfl rfl ?_ | fail) | (show OkOps _ _ _ (Oper.mk _ (Op.alloc _) _ _ _ (_) :: _) _ _; first | refine s_alloc tabOk 1 rfl rfl rfl rfl rfl ?_ | fail) | fail) | (show OkC _ _ _ _ _; first | refine okc_imp (imp_sealL (dl := [10, 11]) rfl) (ok_ret ?_) | refine ok_seq ?_ | refine ok_region ?_ | refine ok_regionD progOk.mo ?_ | fail) | (show thenQ _ _ _ _; first | refine then_n ?_ | fail) | (show RetQ _ _ _ _ _ _; first | refine ret_leaf (.inl rfl) rfl rfl ?_ | fail) | (show DRun _ _ _ _ _ _ _ _; first | (show DRun _ _ _ _ (Oper.mk _ (Op.call _) _ _ _ (_) :: _) _ _ _; first | refine d_new envOk 10 rfl rfl rfl (step3_append rfl rfl rfl rfl rfl rfl rfl rfl (by simp only [List.length_map, Nat.zero_add]; omega) (by simp only [List.length_map, Nat.zero_add]; omega)) rfl rfl ?_ | fail) | (show DRun _ _ _ _ (Oper.mk _ (Op.call _) _ _ _ (_) :: _) _ _ _; first | refine d_new envOk 11 rfl rfl rfl (step3_append rfl rfl rfl rfl rfl rfl rfl rfl (by simp only [List.length_map, Nat.zero_add]; omega) (by simp only [List.length_map, Nat.zero_add]; omega)) rfl rfl ?_ | fail) | refine d_nil (by kernel_rfl) ?_ | refine d_e envOk rfl rfl rfl (step3_plain rfl rfl) ?_ | refine d_new envOk 2 rfl rfl rfl rfl rfl rfl ?_ | refine d_new envOk 3 rfl rfl rfl rfl rfl rfl ?_ | refine d_store envOk rfl rfl rfl ?_ | fail) | fail)
  all_goals
    show AV.agg [.d (.sl 1 8 ((List.take 0 [] ++ List.map encInt x.at').take (0 + (List.map encInt x.at').length))), .d (.sl 4 40 ((List.take 0 [] ++ List.map encVal x.vals).take (0 + (List.map encVal x.vals).length)))] = _
    simp [encInts, encVals, take_map_len]
theorem c94 (ds : List Dim) (ats : List Attr) (hd : ds.length ≤ 1048576) (ha : ats.length ≤ 1048576) : CallA Tryz.prog 94 [.one (.d (encDims ds)), .one (.d (encAttrs ats))] [] (.agg [.d (encDims ds), .d (encAttrs ats), .d .nil]) [] := by
  refine enter tabOk Tryz.func94 rfl (by decide +kernel) rfl fun hok w0 σ0 φ0 M => ?_
  clear hok
  repeat' (first | (show OkOps _ _ _ _ _ _; first | (show OkOps _ _ _ (Oper.mk _ (Op.call _) _ _ _ (_) :: _) _ _; first | refine okops_append tabOk rfl rfl rfl rfl rfl (id := 1) rfl rfl rfl rfl rfl rfl rfl (by simp only [List.length_map, Nat.zero_add]; omega) (by simp only [List.length_map, Nat.zero_add]; omega) ?_ | fail) | (show OkOps _ _ _ (Oper.mk _ (Op.call _) _ _ _ (_) :: _) _ _; first | refine okops_append tabOk rfl rfl rfl rfl rfl (id := 2) rfl rfl rfl rfl rfl rfl rfl (by simp only [List.length_map, Nat.zero_add]; omega) (by simp only [List.length_map, Nat.zero_add]; omega) ?_ | fail) | refine okops_nil ?_ | refine s_plain tabOk rfl rfl rfl rfl rfl ?_ | (show OkOps _ _ _ (Oper.mk _ (Op.alloc _) _ _ _ (_) :: _) _ _; first | refine s_alloc tabOk 0 rfl rfl rfl rfl rfl ?_ | fail) | refine s_store envOk rfl rfl rfl ?_ | refine s_new envOk 1 rfl rfl rfl rfl rfl rfl ?_ | refine s_new envOk 2 rfl rfl rfl rfl rfl rfl ?_ | fail) | (show OkC _ _ _ _ _; first | refine okc_imp (imp_sealL (dl := [1, 2]) rfl) (ok_ret ?_) | refine ok_seq ?_ | refine ok_region ?_ | fail) | (show thenQ _ _ _ _; first | refine then_n ?_ | fail) | (show RetQ _ _ _ _ _ _; first | refine ret_leaf (.inl rfl) rfl rfl ?_ | fail) | fail)
  all_goals
    show AV.agg [.d (.sl 3 32 ((List.take 0 [] ++ List.map encDim ds).take (0 + (List.map encDim ds).length))), .d (.sl 2 24 ((List.take 0 [] ++ List.map encAttr ats).take (0 + (List.map encAttr ats).length))), .d .nil] = _
    simp [encDims, encAttrs, take_map_len]
end Go.Proofs.YtpejdgkaapnekaaGreat
namespace Go.Abs
open Go
variable {P : Program} {c : Ctx} {fr : List (Nat × AV)} {sto : Sto}
def nmA (b : Bool × Bool) : Nat := bif b.1 then 11 else 10
def qN (i : Nat) : Nat := bif Nat.beq i 11 then 10 else bif Nat.beq i 13 then 12 else i
theorem subL_app {α : Type} {f a b : List (Nat × α)} (h1 : SubL f a) (h2 : SubL f b) : SubL f (a ++ b) := by
  induction a with
  | nil => exact h2
  | cons p r ih => exact ⟨h1.1, ih h1.2⟩
theorem imp_sub {f f' : List (Nat × AV)} {s s' : Sto} (hf : SubL f f') (hs : SubL s s') : Imp c ⟨f, s⟩ ⟨f', s'⟩ := Imp.trans (imp_subL hf) (imp_subS hs)
theorem s_loopN {α : Type} {body : Code} {Q : Exit → St → Prop} (rg : Nat) (hrg : firstReg body = rg) {fr1 : List (Nat × AV)} {sto1 : Sto} (ha : Imp c ⟨fr, sto⟩ ⟨fr1, sto1⟩) (kept : List (Nat × AV)) (hk : SubL fr1 kept) (L : Bool × Bool → α → List (Nat × AV)) (S : Bool × Bool → α → Sto) (Inv : α → Prop) (μ : α → Nat) (x0 : α)
    (hL : SubL fr1 (L (false, false) x0)) (hS : SubL sto1 (S (false, false) x0)) (hq : ∀ b y, Imp c ⟨L b y ++ kept, S b y⟩ ⟨L (false, false) y ++ kept, S (false, false) y⟩) (h0 : Inv x0)
    (hround : ∀ x, Inv x → OkC P c body ⟨L (false, false) x ++ kept, S (false, false) x⟩ (thenQ (fun st' => ∃ y b, Inv y ∧ μ y < μ x ∧ SubL st'.sto (S b y) ∧ SubL st'.fr (L b y) ∧ SubL st'.fr kept) Q)) : OkC P c (.loop body) ⟨fr, sto⟩ Q := by
  refine okc_imp (st' := ⟨L (false, false) x0 ++ kept, S (false, false) x0⟩) (Imp.trans ha (imp_sub (subL_app hL hk) hS)) ?_
  refine ok_loop (fun n st => ∃ x, Inv x ∧ n = μ x ∧ st = ⟨L (false, false) x ++ kept, S (false, false) x⟩) (μ x0) ⟨x0, h0, rfl, rfl⟩ ?_
  rintro n st ⟨x, hx, rfl, rfl⟩
  refine ok_mono (hround x hx) fun e st h => ?_
  cases e with
  | normal =>
    obtain ⟨y, b, hy, hlt, hs, h1, h2⟩ := h
    obtain ⟨f, s⟩ := st
    simp only at hs h1 h2
    exact ⟨μ y, _, hlt, ⟨y, hy, rfl, rfl⟩, Imp.trans (imp_sub (subL_app h1 h2) hs) (hq b y)⟩
  | _ => exact h
section
variable {w0 : World} {σ0 : Sig} {φ0 : Pl} {M : Nat → Prop} {n : Nat} {rd : Option Nat} {mk : List Deferred} {ops : Array Oper} {o : Oper} {rest : List Oper} {K : St → Prop} {st0 : St} {acc : List Tr}
theorem s_callG (k : Nat) (dl : List Nat) {ss : St} {d : Nat} {fop : Operand} {args : Array Operand} {ats : Array TypeId} {f : FuncId} {caps : List D} {avs avs' : List AV} {rav rav' : AV}
    (ho : o.op = .call { callee := .value fop, args := args, argTypes := ats }) (hg : o.guard = none) (hdst : o.dst = some d) (hd : Nat.blt d n = true) (hss : sealL ⟨fr, sto⟩ dl = some ss) (hf : ev ss fop = some (.one (.d (.fn f caps))))
    (ha : evL ss args.toList = some avs) (hD : avsD avs = true) (hap : (avs ++ caps.map fun x => .one (.d x)) = avs') (hC : CallA P f avs' [] rav [])
    (hk : (keysOk [] [] && Nat.ble (k + 16) 1000000 && avIn [] rav && stoIn [] []) = true) (hfresh : freshRB k ⟨fr, delN dl sto⟩ = true) (hr : renV (rn k []) rav = rav')
    (h : OkOps P ⟨w0, σ0, φ0, M, n, rd, mk⟩ ops rest ⟨(d, rav') :: fr, delN dl sto⟩ K) : OkOps P ⟨w0, σ0, φ0, M, n, rd, mk⟩ ops (o :: rest) ⟨fr, sto⟩ K := by
  subst hap; subst hr
  exact okops_callX k dl ho hg (by rw [hdst]; exact hd) hss hf ha hD hC hk (freshRB_ok hfresh) (by rw [hdst]; exact h)
theorem d_callG (k : Nat) (dl : List Nat) {os : List (Nat × AObj)} {d : Nat} {fop : Operand} {args : Array Operand} {ats : Array TypeId} {f : FuncId} {caps : List D} {avs avs' : List AV} {rav rav' : AV}
    (ho : o.op = .call { callee := .value fop, args := args, argTypes := ats }) (hg : o.guard = none) (hdst : o.dst = some d) (hd : Nat.blt d c.n = true) (hos : objsL sto dl = some os) (hf : evS os ⟨fr, sto⟩ fop = some (.one (.d (.fn f caps))))
    (ha : evLS os ⟨fr, sto⟩ args.toList = some avs) (hD : avsD avs = true) (hap : (avs ++ caps.map fun x => .one (.d x)) = avs') (hC : CallA P f avs' [] rav [])
    (hk : (keysOk [] [] && Nat.ble (k + 16) 1000000 && avIn [] rav && stoIn [] []) = true) (hr : renV (rn k []) rav = rav')
    (h : DRun P c ops st0 rest ⟨(d, rav') :: fr, appW (delW dl) sto⟩ (callTr k dl dl rav [] :: acc) K) : DRun P c ops st0 (o :: rest) ⟨fr, sto⟩ acc K := by
  subst hap; subst hr
  refine d_run hg (loc_callX k dl ho (by rw [hdst]; exact hd) hos hf ha hD hC hk) ?_
  rw [hdst]; exact h
end
theorem step3_appendB {V : Env} {st : St} {o : Oper} {id i n k b k' b' : Nat} {t t2 : TypeId} {x y : Operand} {v : AV} {xs ys : List (List D)} {e : TypeId} {z : List D} {q : TypeId × Nat × Nat × List D}
    (ho : o.op = .call { callee := .builtin .append, args := ⟨[x, y]⟩, argTypes := ⟨[t, t2]⟩ }) (ht : sliceTy V.T t = some (e, k, b, z)) (ht2 : sliceTy V.T t2 = some q) (hx : ev st x = some (.one (.own i n))) (hl : look st.sto i = some (.row k' b' xs))
    (hkb : (Nat.beq k k' && Nat.beq b b') = true) (hy : ev st y = some v) (hs : srcOf st k v = some ys) (hn : n ≤ 100000000) (hys : ys.length ≤ 10000000) (hb : b ≤ 100) :
    step3 V st o id = some ⟨.one (.own id (n + ys.length)), [(id, some (.row k b (xs.take n ++ ys))), (i, none)], [id]⟩ :=
  step3_append ho ht ht2 hx hl hkb hy hs (by omega) (Nat.le_trans (Nat.mul_le_mul (show n + ys.length ≤ 110000000 by omega) hb) (by omega))
end Go.Abs
namespace Go.Proofs.YtpejdgkaapnekaaGreat
open Go Go.Abs
attribute [local irreducible] OkOps OkC DRun thenQ blockQ RetQ
set_option maxRecDepth 10000
theorem c139 (nm : List UInt8) (lo hi : Int) : CallA Tryz.prog 139 [.agg [.d (.str nm), .d (.int .i64 lo), .d (.int .i64 hi)]] [] (.one (.d (.str nm))) [] := by
  refine enter tabOk Tryz.func139 rfl (by decide +kernel) rfl fun hok w0 σ0 φ0 M => ?_
  repeat' (first | (show OkOps _ _ _ _ _ _; first | refine okops_nil ?_ | refine s_plain tabOk rfl rfl rfl rfl rfl ?_ | (show OkOps _ _ _ (Oper.mk _ (Op.box _ _) _ _ _ (_) :: _) _ _; first | refine s_box 0 rfl rfl rfl rfl rfl rfl ?_ | fail) | fail) | (show OkC _ _ _ _ _; first | refine ok_seq ?_ | refine ok_region ?_ | refine ok_ret ?_ | fail) | (show thenQ _ _ _ _; first | refine then_n ?_ | fail) | (show RetQ _ _ _ _ _ _; first | refine ret_leaf (.inl rfl) rfl rfl ?_ | fail) | fail)
  all_goals (try (((simp_all [at_drop, List.drop_eq_nil_of_le]) <;> first | omega | (rw [Bool.eq_iff_iff]; simp; omega) | grind); done))
theorem c245 (nm name : List UInt8) (lo hi : Int) : CallA Tryz.prog 245 [.agg [.d (.str nm), .d (.int .i64 lo), .d (.int .i64 hi)], .one (.d (.ptr [.fn 139 []])), .one (.d (.ptr [.str name]))] [] (.one (.d (.bool (nm == name)))) [] := by
  refine enter tabOk Tryz.func245 rfl (by decide +kernel) rfl fun hok w0 σ0 φ0 M => ?_
  repeat' (first | (show OkOps _ _ _ _ _ _; first | refine okops_nil ?_ | refine s_plain tabOk rfl rfl rfl rfl rfl ?_ | (show OkOps _ _ _ (Oper.mk _ (Op.box _ _) _ _ _ (_) :: _) _ _; first | refine s_box 0 rfl rfl rfl rfl rfl rfl ?_ | fail) | fail) | (show OkC _ _ _ _ _; first | refine ok_seq ?_ | refine ok_region ?_ | refine ok_ret ?_ | refine ok_regionD progOk.mo ?_ | fail) | (show thenQ _ _ _ _; first | refine then_n ?_ | fail) | (show RetQ _ _ _ _ _ _; first | refine ret_leaf (.inl rfl) rfl rfl ?_ | fail) | (show DRun _ _ _ _ _ _ _ _; first | refine d_nil (by kernel_rfl) ?_ | refine d_e envOk rfl rfl rfl (step3_plain rfl rfl) ?_ | (show DRun _ _ _ _ (Oper.mk _ (Op.call _) _ _ _ (_) :: _) _ _ _; first | refine d_l rfl rfl (loc_callF' rfl rfl rfl rfl rfl rfl (c139 _ _ _) rfl) ?_ | fail) | fail) | fail)
  all_goals (try (((simp_all [at_drop, List.drop_eq_nil_of_le]) <;> first | omega | (rw [Bool.eq_iff_iff]; simp; omega) | grind); done))
theorem c244 (f : FuncId) (caps : List D) (p : Dim → Bool) (hp : ∀ d : Dim, CallA Tryz.prog f ([.agg [.d (.str d.name), .d (.int .i64 d.lo), .d (.int .i64 d.hi)]] ++ caps.map fun x => .one (.d x)) [] (.one (.d (.bool (p d)))) []) (l : List Dim) :
    CallA Tryz.prog 244 [.one (.d (encDims l)), .one (.d (.fn f caps))] [] (.one (.d (.int .i64 (idxGo p l 0)))) [] := by
  refine enter tabOk Tryz.func244 rfl (by decide +kernel) rfl fun hok w0 σ0 φ0 M => ?_
  have h1 := hok.1.sl; clear hok; simp only [List.length_map] at h1; replace h1 := h1.1
  repeat' (first | (show OkOps _ _ _ _ _ _; first | refine okops_nil ?_ | refine s_plain tabOk rfl rfl rfl rfl rfl ?_ | (show OkOps _ _ _ (Oper.mk _ (Op.binOp .add _ _ _ _) _ _ _ (_) :: _) _ _; first | refine s_e envOk rfl rfl rfl (step3_add rfl rfl rfl rfl (wrap64 (by omega) (by omega))) ?_ | fail) | (show OkOps _ _ _ (Oper.mk _ (Op.indexAddr _ _ _) _ _ _ (_) :: _) _ _; first | refine s_e envOk rfl rfl rfl (step3_idx rfl rfl rfl rfl rfl (by first | omega | ((try simp only [decide_eq_true_eq, decide_eq_false_iff_not, Bool.not_eq_true', Bool.not_true, Bool.not_false, List.length_map, List.length_set, bne_iff_ne, ne_eq, beq_iff_eq, bne_eq_false_iff_eq, beq_eq_false_iff_ne] at *); omega)) (at_map (by first | omega | ((try simp only [decide_eq_true_eq, decide_eq_false_iff_not, Bool.not_eq_true', Bool.not_true, Bool.not_false, List.length_map, List.length_set, bne_iff_ne, ne_eq, beq_iff_eq, bne_eq_false_iff_eq, beq_eq_false_iff_ne] at *); omega)))) ?_ | fail) | (show OkOps _ _ _ (Oper.mk _ (Op.call _) _ _ _ (_) :: _) _ _; first | refine s_callF rfl rfl rfl rfl rfl rfl rfl rfl (hp _) rfl ?_ | fail) | fail) | (show OkC _ _ _ _ _; first | refine ok_seq ?_ | refine ok_region ?_ | refine ok_block ?_ | refine ok_skip ?_ | refine ok_ret ?_ | refine ok_exit ?_ | refine ok_cond rfl (fun h => ?_) (fun h => ?_) | refine s_loop 2 rfl [(0, _), (1, _), (7, _)] (subL_cons rfl (subL_cons rfl (subL_cons rfl subL_nil))) (fun (k : Nat) => [(8, .one (.d (.int .i64 k)))]) (fun (k : Nat) => k ≤ l.length ∧ idxGo p l 0 = idxGo p (l.drop k) k) (fun (k : Nat) => l.length - k) 0 (subL_cons rfl subL_nil) ?_ (fun k ⟨hk, hs⟩ => ?_) | fail) | (show thenQ _ _ _ _; first | refine then_n ?_ | refine then_r ?_ | refine then_x ?_ | fail) | (show blockQ _ _ _ _; first | refine block_n ?_ | refine block_r ?_ | refine block_x rfl ?_ | fail) | (show RetQ _ _ _ _ _ _; first | refine ret_leaf (.inl rfl) rfl rfl ?_ | fail) | (show Exists _; first | refine Exists.intro (k + 1) ⟨?_, ?_, (by first | exact subL_nil | exact (subL_cons rfl subL_nil) | exact (subL_cons rfl (subL_cons rfl subL_nil)) | exact (subL_cons rfl (subL_cons rfl (subL_cons rfl subL_nil))) | exact (subL_cons rfl (subL_cons rfl (subL_cons rfl (subL_cons rfl subL_nil)))) | exact (subL_cons rfl (subL_cons rfl (subL_cons rfl (subL_cons rfl (subL_cons rfl subL_nil))))) | exact (subL_cons rfl (subL_cons rfl (subL_cons rfl (subL_cons rfl (subL_cons rfl (subL_cons rfl subL_nil)))))) | exact (subL_cons rfl (subL_cons rfl (subL_cons rfl (subL_cons rfl (subL_cons rfl (subL_cons rfl (subL_cons rfl subL_nil))))))) | exact (subL_cons rfl (subL_cons rfl (subL_cons rfl (subL_cons rfl (subL_cons rfl (subL_cons rfl (subL_cons rfl (subL_cons rfl subL_nil))))))))), (subL_cons rfl subL_nil), (subL_cons rfl (subL_cons rfl (subL_cons rfl subL_nil)))⟩ | fail) | fail)
  all_goals (try (((simp_all [idxGo, at_drop, List.drop_eq_nil_of_le]) <;> first | omega | (rw [Bool.eq_iff_iff]; simp; omega) | grind); done))
theorem c195 (l : List Dim) (name : List UInt8) : CallA Tryz.prog 195 [.one (.d (encDims l)), .one (.d (.str name)), .one (.d (.fn 139 []))] [] (.one (.d (.int .i64 (idxGo (fun a : Dim => a.name == name) l 0)))) [] := by
  refine enter tabOk Tryz.func195 rfl (by decide +kernel) rfl fun hok w0 σ0 φ0 M => ?_
  repeat' (first | (show OkOps _ _ _ _ _ _; first | refine okops_nil ?_ | refine s_plain tabOk rfl rfl rfl rfl rfl ?_ | (show OkOps _ _ _ (Oper.mk _ (Op.call _) _ _ _ (_) :: _) _ _; first | refine s_callF rfl rfl rfl rfl rfl rfl rfl rfl (c244 _ _ _ (fun d => c245 _ name _ _) _) rfl ?_ | fail) | (show OkOps _ _ _ (Oper.mk _ (Op.box _ _) _ _ _ (_) :: _) _ _; first | refine s_box 0 rfl rfl rfl rfl rfl rfl ?_ | refine s_box 1 rfl rfl rfl rfl rfl rfl ?_ | fail) | refine s_mkF envOk rfl rfl rfl rfl rfl ?_ | fail) | (show OkC _ _ _ _ _; first | refine ok_seq ?_ | refine ok_region ?_ | refine ok_ret ?_ | fail) | (show thenQ _ _ _ _; first | refine then_n ?_ | fail) | (show RetQ _ _ _ _ _ _; first | refine ret_leaf (.inl rfl) rfl rfl ?_ | fail) | fail)
  all_goals (try (((simp_all [at_drop, List.drop_eq_nil_of_le]) <;> first | omega | (rw [Bool.eq_iff_iff]; simp; omega) | grind); done))
end Go.Proofs.YtpejdgkaapnekaaGreat
namespace Go.Proofs.YtpejdgkaapnekaaGreat
open Go Go.Abs
attribute [local irreducible] OkOps OkC DRun thenQ blockQ RetQ
set_option maxRecDepth 10000
def chkA (a : Arr) : Int := checkF a.dims a.attrs a.cells
theorem c180 (a : Arr) : CallA Tryz.prog 180 [aggA a] [] (.one (.d (.bool (chkA a != 0)))) [] := by
  unfold aggA
  refine enter tabOk Tryz.func180 rfl (by decide +kernel) rfl fun hok w0 σ0 φ0 M => ?_
  clear hok
  repeat' (first | (show OkOps _ _ _ _ _ _; first | refine okops_nil ?_ | refine s_plain tabOk rfl rfl rfl rfl rfl ?_ | (show OkOps _ _ _ (Oper.mk _ (Op.call _) _ _ _ (_) :: _) _ _; first | refine s_callF rfl rfl rfl rfl rfl rfl rfl rfl (c59 _ _ _) rfl ?_ | fail) | (show OkOps _ _ _ (Oper.mk _ (Op.box _ _) _ _ _ (_) :: _) _ _; first | refine s_box 0 rfl rfl rfl rfl rfl rfl ?_ | fail) | fail) | (show OkC _ _ _ _ _; first | refine ok_seq ?_ | refine ok_region ?_ | refine ok_ret ?_ | fail) | (show thenQ _ _ _ _; first | refine then_n ?_ | fail) | (show RetQ _ _ _ _ _ _; first | refine ret_leaf (.inl rfl) rfl rfl ?_ | fail) | fail)
  all_goals rfl
theorem c230 (l : List Arr) : CallA Tryz.prog 230 [.one (.d (encArrs l)), .one (.d (.fn 180 []))] [] (.one (.d (.int .i64 (idxGo (fun a => chkA a != 0) l 0)))) [] := by
  refine enter tabOk Tryz.func230 rfl (by decide +kernel) rfl fun hok w0 σ0 φ0 M => ?_
  have h1 := hok.1.sl; clear hok; simp only [List.length_map] at h1; replace h1 := h1.1
  repeat' (first | (show OkOps _ _ _ _ _ _; first | refine okops_nil ?_ | refine s_plain tabOk rfl rfl rfl rfl rfl ?_ | (show OkOps _ _ _ (Oper.mk _ (Op.binOp .add _ _ _ _) _ _ _ (_) :: _) _ _; first | refine s_e envOk rfl rfl rfl (step3_add rfl rfl rfl rfl (wrap64 (by omega) (by omega))) ?_ | fail) | (show OkOps _ _ _ (Oper.mk _ (Op.indexAddr _ _ _) _ _ _ (_) :: _) _ _; first | refine s_e envOk rfl rfl rfl (step3_idx rfl rfl rfl rfl rfl (by first | omega | ((try simp only [decide_eq_true_eq, decide_eq_false_iff_not, Bool.not_eq_true', Bool.not_true, Bool.not_false, List.length_map, List.length_set, bne_iff_ne, ne_eq, beq_iff_eq, bne_eq_false_iff_eq, beq_eq_false_iff_ne] at *); omega)) (at_map (by first | omega | ((try simp only [decide_eq_true_eq, decide_eq_false_iff_not, Bool.not_eq_true', Bool.not_true, Bool.not_false, List.length_map, List.length_set, bne_iff_ne, ne_eq, beq_iff_eq, bne_eq_false_iff_eq, beq_eq_false_iff_ne] at *); omega)))) ?_ | fail) | (show OkOps _ _ _ (Oper.mk _ (Op.call _) _ _ _ (_) :: _) _ _; first | refine s_callF rfl rfl rfl rfl rfl rfl rfl rfl (c180 _) rfl ?_ | fail) | fail) | (show OkC _ _ _ _ _; first | refine ok_seq ?_ | refine ok_region ?_ | refine ok_block ?_ | refine ok_skip ?_ | refine ok_ret ?_ | refine ok_exit ?_ | refine ok_cond rfl (fun h => ?_) (fun h => ?_) | refine s_loop 2 rfl [(0, _), (1, _), (7, _)] (subL_cons rfl (subL_cons rfl (subL_cons rfl subL_nil))) (fun (k : Nat) => [(8, .one (.d (.int .i64 k)))]) (fun (k : Nat) => k ≤ l.length ∧ idxGo (fun a => chkA a != 0) l 0 = idxGo (fun a => chkA a != 0) (l.drop k) k) (fun (k : Nat) => l.length - k) 0 (subL_cons rfl subL_nil) ?_ (fun k ⟨hk, hs⟩ => ?_) | fail) | (show thenQ _ _ _ _; first | refine then_n ?_ | refine then_r ?_ | refine then_x ?_ | fail) | (show blockQ _ _ _ _; first | refine block_n ?_ | refine block_r ?_ | refine block_x rfl ?_ | fail) | (show RetQ _ _ _ _ _ _; first | refine ret_leaf (.inl rfl) rfl rfl ?_ | fail) | (show Exists _; first | refine Exists.intro (k + 1) ⟨?_, ?_, (by first | exact subL_nil | exact (subL_cons rfl subL_nil) | exact (subL_cons rfl (subL_cons rfl subL_nil)) | exact (subL_cons rfl (subL_cons rfl (subL_cons rfl subL_nil))) | exact (subL_cons rfl (subL_cons rfl (subL_cons rfl (subL_cons rfl subL_nil)))) | exact (subL_cons rfl (subL_cons rfl (subL_cons rfl (subL_cons rfl (subL_cons rfl subL_nil))))) | exact (subL_cons rfl (subL_cons rfl (subL_cons rfl (subL_cons rfl (subL_cons rfl (subL_cons rfl subL_nil)))))) | exact (subL_cons rfl (subL_cons rfl (subL_cons rfl (subL_cons rfl (subL_cons rfl (subL_cons rfl (subL_cons rfl subL_nil))))))) | exact (subL_cons rfl (subL_cons rfl (subL_cons rfl (subL_cons rfl (subL_cons rfl (subL_cons rfl (subL_cons rfl (subL_cons rfl subL_nil))))))))), (subL_cons rfl subL_nil), (subL_cons rfl (subL_cons rfl (subL_cons rfl subL_nil)))⟩ | fail) | fail)
  all_goals (try (((simp_all [idxGo, at_drop, List.drop_eq_nil_of_le]) <;> first | omega | (rw [Bool.eq_iff_iff]; simp; omega) | grind); done))
theorem c179 (l : List Arr) : CallA Tryz.prog 179 [.one (.d (encArrs l)), .one (.d (.fn 180 []))] [] (.one (.d (.bool (!decide (idxGo (fun a => chkA a != 0) l 0 < 0))))) [] := by
  refine enter tabOk Tryz.func179 rfl (by decide +kernel) rfl fun hok w0 σ0 φ0 M => ?_
  clear hok
  repeat' (first | (show OkOps _ _ _ _ _ _; first | refine okops_nil ?_ | refine s_plain tabOk rfl rfl rfl rfl rfl ?_ | (show OkOps _ _ _ (Oper.mk _ (Op.call _) _ _ _ (_) :: _) _ _; first | refine s_callF rfl rfl rfl rfl rfl rfl rfl rfl (c230 _) rfl ?_ | fail) | fail) | (show OkC _ _ _ _ _; first | refine ok_seq ?_ | refine ok_region ?_ | refine ok_ret ?_ | fail) | (show thenQ _ _ _ _; first | refine then_n ?_ | fail) | (show RetQ _ _ _ _ _ _; first | refine ret_leaf (.inl rfl) rfl rfl ?_ | fail) | fail)
  all_goals (try (((simp_all [at_drop, List.drop_eq_nil_of_le]) <;> first | omega | (rw [Bool.eq_iff_iff]; simp; omega) | grind); done))
def validF (l : List Arr) : Bool := l.all fun a => chkA a == 0
theorem idx_valid' : ∀ (l : List Arr) (j : Nat), idxGo (fun a => chkA a != 0) l j < 0 ↔ validF l = true
  | [], j => by simp [idxGo, validF]
  | a :: l, j => by
    have ih := idx_valid' l (j + 1)
    simp only [idxGo, validF, List.all_cons, Bool.and_eq_true]
    by_cases h : chkA a = 0
    · rw [if_neg (by simp [h])]
      rw [ih]
      simp [h, validF]
    · rw [if_pos (by simp [h])]
      constructor
      · intro h1; omega
      · intro h1; simp [h] at h1
theorem idx_valid (l : List Arr) (j : Nat) : decide (idxGo (fun a => chkA a != 0) l j < 0) = validF l := by
  rw [Bool.eq_iff_iff, decide_eq_true_eq, idx_valid']
theorem c96 (l : List Arr) : CallA Tryz.prog 96 [.one (.d (encArrs l))] [] (.one (.d (.bool (validF l)))) [] := by
  refine enter tabOk Tryz.func96 rfl (by decide +kernel) rfl fun hok w0 σ0 φ0 M => ?_
  clear hok
  repeat' (first | (show OkOps _ _ _ _ _ _; first | refine okops_nil ?_ | refine s_plain tabOk rfl rfl rfl rfl rfl ?_ | (show OkOps _ _ _ (Oper.mk _ (Op.call _) _ _ _ (_) :: _) _ _; first | refine s_callF rfl rfl rfl rfl rfl rfl rfl rfl (c179 _) rfl ?_ | fail) | fail) | (show OkC _ _ _ _ _; first | refine ok_seq ?_ | refine ok_region ?_ | refine ok_ret ?_ | fail) | (show thenQ _ _ _ _; first | refine then_n ?_ | fail) | (show RetQ _ _ _ _ _ _; first | refine ret_leaf (.inl rfl) rfl rfl ?_ | fail) | fail)
  all_goals (try (((simp_all [idx_valid, at_drop, List.drop_eq_nil_of_le]) <;> first | omega | (rw [Bool.eq_iff_iff]; simp; omega) | grind); done))
end Go.Proofs.YtpejdgkaapnekaaGreat
namespace Go.Proofs.YtpejdgkaapnekaaGreat
open Go Go.Abs
attribute [local irreducible] OkOps OkC DRun thenQ blockQ RetQ
set_option maxRecDepth 10000
theorem c181e (id n : Nat) (cs : List Cell) (rows : List (List D)) (hr : rows = cs.map encCell) (hn : n = cs.length) (hd : cs.Pairwise diffC) :
    CallA Tryz.prog 181 [.one (.own id n), .one (.d (.fn 182 []))] [(id, .row 2 48 rows)] (.tup []) [(id, .row 2 48 ((sortF cs).map encCell))] := by
  subst hr; subst hn
  exact c181 id cs (sortF cs) (sort_uniq hd)
theorem s_sort {w0 : World} {σ0 : Sig} {φ0 : Pl} {M : Nat → Prop} {n : Nat} {rd : Option Nat} {mk : List Deferred} {ops : Array Oper} {o : Oper} {rest : List Oper} {fr : List (Nat × AV)} {sto : Sto} {K : St → Prop} {d m : Nat} {fop x y : Operand} {ats : Array TypeId} {rows : List (List D)} (id : Nat) (cs : List Cell)
    (ho : o.op = .call { callee := .value fop, args := ⟨[x, y]⟩, argTypes := ats }) (hg : o.guard = none) (hdst : o.dst = some d) (hdn : Nat.blt d n = true) (hf : ev ⟨fr, sto⟩ fop = some (.one (.d (.fn 181 [])))) (hx : ev ⟨fr, sto⟩ x = some (.one (.own id m))) (hy : ev ⟨fr, sto⟩ y = some (.one (.d (.fn 182 []))))
    (hl : Abs.look sto id = some (.row 2 48 rows)) (hr : rows = cs.map encCell) (hn : m = cs.length) (hd : cs.Pairwise diffC) (hfr : freshRB 16 ⟨fr, sto⟩ = true)
    (h : OkOps Tryz.prog ⟨w0, σ0, φ0, M, n, rd, mk⟩ ops rest ⟨(d, .tup []) :: fr, setS id (.row 2 48 ((sortF cs).map encCell)) (del id sto)⟩ K) : OkOps Tryz.prog ⟨w0, σ0, φ0, M, n, rd, mk⟩ ops (o :: rest) ⟨fr, sto⟩ K := by
  refine s_callM 16 [(1000000, id)] (rav' := .tup []) (sto' := setS id (.row 2 48 ((sortF cs).map encCell)) (del id sto)) (c181e 1000000 m cs rows hr hn hd) ho hg hdst hdn hf ?_ ⟨⟨id, rfl, hl⟩, trivial⟩ ⟨fun i e h1 h2 => ?_, trivial⟩ rfl hfr rfl rfl h
  · show evL ⟨fr, sto⟩ [x, y] = _
    simp only [evL, hx, hy]
    rfl
  · have e1 : some id = some i := h1
    cases e1
    rw [hl] at h2
    cases h2
    refine ⟨rfl, rfl, ?_⟩
    rw [hr, List.length_map, List.length_map, sortF_length]
    exact Nat.le_refl _
theorem row_next {α β : Type} [Inhabited α] (f : α → β) (l : List α) {k : Nat} (h : k < l.length) : ((l.take k).map f).take k ++ [f (at_ l k)] = (l.take (k + 1)).map f := by
  rw [List.take_succ_eq_append_getElem h, List.map_append, List.take_of_length_le (by simp; omega)]
  simp [at_, h]
def arrE : Option Arr × Int → AV
  | (none, e) => .tup [(true, [.d .nil, .d .nil, .d .nil]), (false, [.d (.int .i64 e)])]
  | (some a, e) => .tup [(true, [.d (encDims a.dims), .d (encAttrs a.attrs), .d (encCells a.cells)]), (false, [.d (.int .i64 e)])]
theorem take_all {α β : Type} (f : α → β) {l : List α} {k : Nat} (h : l.length ≤ k) : (l.take k).map f = l.map f := by rw [List.take_of_length_le h]
theorem c99 (ds : List Dim) (ats : List Attr) (cs : List Cell) (hd : cs.Pairwise diffC) : CallA Tryz.prog 99 [.one (.d (encDims ds)), .one (.d (encAttrs ats)), .one (.d (encCells cs))] [] (arrE (resF ds ats cs)) [] := by
  refine enter tabOk Tryz.func99 rfl (by decide +kernel) rfl fun hok w0 σ0 φ0 M => ?_
  have h1 := hok.2.2.1.sl; clear hok; simp only [List.length_map] at h1; replace h1 := h1.1
  by_cases h4 : 4096 < (cs.length : Int)
  · have hb : decide (4096 < ((cs.map encCell).length : Int)) = true := by simpa using h4
    simp only [resF, if_pos h4, arrE]
    repeat' (first | (show OkOps _ _ _ _ _ _; first | refine okops_nil ?_ | refine s_plain tabOk rfl rfl rfl rfl rfl ?_ | (show OkOps _ _ _ (Oper.mk _ (Op.alloc _) _ _ _ (_) :: _) _ _; first | refine s_alloc tabOk 0 rfl rfl rfl rfl rfl ?_ | fail) | refine s_store envOk rfl rfl rfl ?_ | fail) | (show OkC _ _ _ _ _; first | refine ok_seq ?_ | refine ok_region ?_ | refine ok_ret ?_ | refine ok_condKT rfl (by assumption) ?_ | fail) | (show thenQ _ _ _ _; first | refine then_n ?_ | refine then_r ?_ | fail) | (show RetQ _ _ _ _ _ _; first | refine ret_leaf (.inl rfl) rfl rfl ?_ | fail) | fail)
    all_goals rfl
  · have hb : decide (4096 < ((cs.map encCell).length : Int)) = false := by simpa using h4
    simp only [resF, if_neg h4, arrE]
    repeat' (first | (show OkOps _ _ _ _ _ _; first | (show OkOps _ _ _ (Oper.mk _ (Op.call _) _ _ _ (_) :: _) _ _; first | refine s_sort 10 cs rfl rfl rfl rfl rfl rfl rfl rfl (hr.trans (take_all _ (by first | omega | (simp only [decide_eq_true_eq, decide_eq_false_iff_not, List.length_map] at *; omega)))) (by first | omega | (simp only [decide_eq_true_eq, decide_eq_false_iff_not, List.length_map] at *; omega)) hd rfl ?_ | fail) | refine okops_nil ?_ | refine s_plain tabOk rfl rfl rfl rfl rfl ?_ | (show OkOps _ _ _ (Oper.mk _ (Op.binOp .add _ _ _ _) _ _ _ (_) :: _) _ _; first | refine s_e envOk rfl rfl rfl (step3_add rfl rfl rfl rfl (wrap64 (by omega) (by omega))) ?_ | fail) | (show OkOps _ _ _ (Oper.mk _ (Op.indexAddr _ _ _) _ _ _ (_) :: _) _ _; first | refine s_e envOk rfl rfl rfl (step3_idx rfl rfl rfl rfl rfl (by first | omega | ((try simp only [decide_eq_true_eq, decide_eq_false_iff_not, Bool.not_eq_true', Bool.not_true, Bool.not_false, List.length_map, List.length_set, bne_iff_ne, ne_eq, beq_iff_eq, bne_eq_false_iff_eq, beq_eq_false_iff_ne] at *); omega)) (at_map (by first | omega | ((try simp only [decide_eq_true_eq, decide_eq_false_iff_not, Bool.not_eq_true', Bool.not_true, Bool.not_false, List.length_map, List.length_set, bne_iff_ne, ne_eq, beq_iff_eq, bne_eq_false_iff_eq, beq_eq_false_iff_ne] at *); omega)))) ?_ | fail) | (show OkOps _ _ _ (Oper.mk _ (Op.call _) _ _ _ (_) :: _) _ _; first | refine s_callD 16 rfl rfl rfl rfl rfl rfl rfl rfl (c97 _) rfl rfl rfl ?_ | refine s_callD 16 rfl rfl rfl rfl rfl rfl rfl rfl (c145 _) rfl rfl rfl ?_ | fail) | (show OkOps _ _ _ (Oper.mk _ (Op.alloc _) _ _ _ (_) :: _) _ _; first | refine s_alloc tabOk 0 rfl rfl rfl rfl rfl ?_ | refine s_alloc tabOk 1 rfl rfl rfl rfl rfl ?_ | refine s_alloc tabOk 2 rfl rfl rfl rfl rfl ?_ | fail) | refine s_store envOk rfl rfl rfl ?_ | fail) | (show OkC _ _ _ _ _; first | refine okc_imp (imp_sealL (dl := [10]) rfl) (ok_ret ?_) | refine ok_seq ?_ | refine ok_region ?_ | refine ok_block ?_ | refine ok_skip ?_ | refine ok_exit ?_ | refine ok_condKF rfl (by assumption) ?_ | refine ok_cond rfl (fun h => ?_) (fun h => ?_) | refine ok_regionD progOk.mo ?_ | refine s_loopN 5 rfl (imp_adoptJ 1 2 10 (k := 2) (b := 48) rfl rfl (by kernel_rfl)) [(6, _), (8, _), (20, _), (21, _)] (subL_cons rfl (subL_cons rfl (subL_cons rfl (subL_cons rfl subL_nil)))) (fun (bN : Bool × Bool) (p : Nat × List (List D)) => [(22, .one (.d (.int .i64 (p.1 : Int))))]) (fun (bN : Bool × Bool) (p : Nat × List (List D)) => [(1, .box [.d (encDims ds), .d (encAttrs ats), .own (nmA bN) p.1]), ((nmA bN), .row 2 48 p.2), (0, .box [.d .nil, .d .nil, .d .nil])]) (fun (p : Nat × List (List D)) => p.1 ≤ cs.length ∧ p.2 = (cs.take p.1).map encCell) (fun (p : Nat × List (List D)) => cs.length - p.1) (0, []) (subL_cons rfl subL_nil) (by first | exact subL_nil | exact (subL_cons rfl subL_nil) | exact (subL_cons rfl (subL_cons rfl subL_nil)) | exact (subL_cons rfl (subL_cons rfl (subL_cons rfl subL_nil))) | exact (subL_cons rfl (subL_cons rfl (subL_cons rfl (subL_cons rfl subL_nil)))) | exact (subL_cons rfl (subL_cons rfl (subL_cons rfl (subL_cons rfl (subL_cons rfl subL_nil))))) | exact (subL_cons rfl (subL_cons rfl (subL_cons rfl (subL_cons rfl (subL_cons rfl (subL_cons rfl subL_nil)))))) | exact (subL_cons rfl (subL_cons rfl (subL_cons rfl (subL_cons rfl (subL_cons rfl (subL_cons rfl (subL_cons rfl subL_nil))))))) | exact (subL_cons rfl (subL_cons rfl (subL_cons rfl (subL_cons rfl (subL_cons rfl (subL_cons rfl (subL_cons rfl (subL_cons rfl subL_nil))))))))) (fun b y => by obtain ⟨b1, b2⟩ := b; cases b1 <;> cases b2 <;> first | exact Imp.refl _ | exact imp_ren qN (by kernel_rfl)) ?_ (fun p ⟨hk, hr⟩ => ?_) | fail) | (show thenQ _ _ _ _; first | refine then_n ?_ | refine then_x ?_ | fail) | (show blockQ _ _ _ _; first | refine block_n ?_ | refine block_x rfl ?_ | fail) | (show RetQ _ _ _ _ _ _; first | refine ret_leaf (.inl rfl) rfl rfl ?_ | fail) | (show DRun _ _ _ _ _ _ _ _; first | (show DRun _ _ _ _ (Oper.mk _ (Op.call _) _ _ _ (_) :: _) _ _ _; first | refine d_new envOk 11 rfl rfl rfl (step3_appendB (i := 10) rfl rfl rfl rfl rfl rfl rfl rfl (by first | omega | ((try simp only [decide_eq_true_eq, decide_eq_false_iff_not, List.length_map, List.length_cons, List.length_nil, List.length_append, List.length_take, List.length_drop, Int.toNat_natCast] at *); omega)) (by first | exact Nat.le_of_ble_eq_true rfl | omega | ((try simp only [decide_eq_true_eq, decide_eq_false_iff_not, List.length_map, List.length_cons, List.length_nil, List.length_append, List.length_take, List.length_drop, Int.toNat_natCast] at *); omega)) (Nat.le_of_ble_eq_true rfl)) rfl rfl ?_ | fail) | refine d_nil (by kernel_rfl) ?_ | refine d_e envOk rfl rfl rfl (step3_plain rfl rfl) ?_ | (show DRun _ _ _ _ (Oper.mk _ (Op.call _) _ _ _ (_) :: _) _ _ _; first | refine d_callD 16 rfl rfl rfl rfl rfl rfl rfl rfl (c129 _) rfl rfl ?_ | refine d_callD 16 rfl rfl rfl rfl rfl rfl rfl rfl (c144 _) rfl rfl ?_ | fail) | refine d_new envOk 3 rfl rfl rfl rfl rfl rfl ?_ | refine d_store envOk rfl rfl rfl ?_ | fail) | (show Exists _; first | refine Exists.intro ((p.1 + 1, p.2.take p.1 ++ [encCell (at_ cs p.1)])) (Exists.intro (true, false) ⟨?_, ?_, (by first | exact subL_nil | exact (subL_cons rfl subL_nil) | exact (subL_cons rfl (subL_cons rfl subL_nil)) | exact (subL_cons rfl (subL_cons rfl (subL_cons rfl subL_nil))) | exact (subL_cons rfl (subL_cons rfl (subL_cons rfl (subL_cons rfl subL_nil)))) | exact (subL_cons rfl (subL_cons rfl (subL_cons rfl (subL_cons rfl (subL_cons rfl subL_nil))))) | exact (subL_cons rfl (subL_cons rfl (subL_cons rfl (subL_cons rfl (subL_cons rfl (subL_cons rfl subL_nil)))))) | exact (subL_cons rfl (subL_cons rfl (subL_cons rfl (subL_cons rfl (subL_cons rfl (subL_cons rfl (subL_cons rfl subL_nil))))))) | exact (subL_cons rfl (subL_cons rfl (subL_cons rfl (subL_cons rfl (subL_cons rfl (subL_cons rfl (subL_cons rfl (subL_cons rfl subL_nil))))))))), (subL_cons rfl subL_nil), (subL_cons rfl (subL_cons rfl (subL_cons rfl (subL_cons rfl subL_nil))))⟩) | fail) | fail)
    · exact ⟨Nat.zero_le _, rfl⟩
    · have hlt : p.1 < cs.length := by simpa using h
      exact ⟨hlt, by show p.2.take p.1 ++ _ = _; rw [hr]; exact row_next _ _ hlt⟩
    · have hlt : p.1 < cs.length := by simpa using h
      show cs.length - (p.1 + 1) < cs.length - p.1
      omega
    · have hge : cs.length ≤ p.1 := by simpa using h
      show AV.tup [(true, [.d (encDims ds), .d (encAttrs ats), .d (.sl 2 48 (((sortF cs).map encCell).take p.1))]), _] = _
      rw [List.take_of_length_le (by simp only [List.length_map, sortF_length]; exact hge)]
      rfl
theorem c99e (ds : List Dim) (ats : List Attr) (cs : List Cell) (xs ys : List (List D)) (hd : cs.Pairwise diffC) (hx : xs = ds.map encDim) (hy : ys = cs.map encCell) : CallA Tryz.prog 99 [.one (.d (.sl 3 32 xs)), .one (.d (encAttrs ats)), .one (.d (.sl 2 48 ys))] [] (arrE (resF ds ats cs)) [] := by
  subst hx; subst hy; exact c99 ds ats cs hd
theorem c99k (ds : List Dim) (ats : List Attr) (cs : List Cell) (xs ys : List (List D)) (hd : cs.Pairwise diffC) (hf : cs.length ≤ 4096) (hx : xs = ds.map encDim) (hy : ys = cs.map encCell) : CallA Tryz.prog 99 [.one (.d (.sl 3 32 xs)), .one (.d (encAttrs ats)), .one (.d (.sl 2 48 ys))] [] (.tup [(true, [.d (encDims ds), .d (encAttrs ats), .d (encCells (sortF cs))]), (false, [.d (.int .i64 0)])]) [] := by
  have h := c99e ds ats cs xs ys hd hx hy
  unfold resF at h
  rw [if_neg (by omega)] at h
  exact h
end Go.Proofs.YtpejdgkaapnekaaGreat
namespace Go.Proofs.YtpejdgkaapnekaaGreat
open Go Go.Abs
attribute [local irreducible] OkOps OkC DRun thenQ blockQ RetQ
set_option maxRecDepth 10000
def smallA (a : Arr) : Prop := a.dims.length ≤ 1048576 ∧ a.attrs.length ≤ 1048576 ∧ a.cells.length ≤ 1048576 ∧ ∀ k, k < a.cells.length → (at_ a.cells k).at'.length ≤ 1048576 ∧ (at_ a.cells k).vals.length ≤ 1048576
theorem c22 (a : Arr) (hs : smallA a) : CallA Tryz.prog 22 [aggA a] [] (aggA a) [] := by
  have hcs := hs.2.2.1
  unfold aggA
  refine enter tabOk Tryz.func22 rfl (by decide +kernel) rfl fun hok w0 σ0 φ0 M => ?_
  clear hok
  repeat' (first | (show OkOps _ _ _ _ _ _; first | refine okops_nil ?_ | refine s_plain tabOk rfl rfl rfl rfl rfl ?_ | (show OkOps _ _ _ (Oper.mk _ (Op.binOp .add _ _ _ _) _ _ _ (_) :: _) _ _; first | refine s_e envOk rfl rfl rfl (step3_add rfl rfl rfl rfl (wrap64 (by omega) (by omega))) ?_ | fail) | (show OkOps _ _ _ (Oper.mk _ (Op.call _) _ _ _ (_) :: _) _ _; first | refine s_callD 16 rfl rfl rfl rfl rfl rfl rfl rfl (c94 _ _ hs.1 hs.2.1) rfl rfl rfl ?_ | fail) | (show OkOps _ _ _ (Oper.mk _ (Op.box _ _) _ _ _ (_) :: _) _ _; first | refine s_box 0 rfl rfl rfl rfl rfl rfl ?_ | fail) | (show OkOps _ _ _ (Oper.mk _ (Op.alloc _) _ _ _ (_) :: _) _ _; first | refine s_alloc tabOk 1 rfl rfl rfl rfl rfl ?_ | refine s_alloc tabOk 2 rfl rfl rfl rfl rfl ?_ | fail) | refine s_store envOk rfl rfl rfl ?_ | fail) | (show OkC _ _ _ _ _; first | refine okc_imp (imp_sealL (dl := [10]) rfl) (ok_ret ?_) | refine ok_seq ?_ | refine ok_region ?_ | refine ok_block ?_ | refine ok_skip ?_ | refine ok_exit ?_ | refine ok_cond rfl (fun h => ?_) (fun h => ?_) | refine ok_regionD progOk.mo ?_ | refine s_loopN 3 rfl (imp_adoptJ 2 2 10 (k := 2) (b := 48) rfl rfl (by kernel_rfl)) [(1, _), (2, _), (3, _)] (subL_cons rfl (subL_cons rfl (subL_cons rfl subL_nil))) (fun (bN : Bool × Bool) (p : Nat × List (List D)) => [(4, .one (.d (.int .i64 (p.1 : Int))))]) (fun (bN : Bool × Bool) (p : Nat × List (List D)) => [(2, .box [.d (encDims a.dims), .d (encAttrs a.attrs), .own (nmA bN) p.1]), ((nmA bN), .row 2 48 p.2), (1, .box [.d .nil, .d .nil, .d .nil]), (0, .box [.d (encDims a.dims), .d (encAttrs a.attrs), .d (encCells a.cells)])]) (fun (p : Nat × List (List D)) => p.1 ≤ a.cells.length ∧ p.2 = (a.cells.take p.1).map encCell) (fun (p : Nat × List (List D)) => a.cells.length - p.1) (0, []) (subL_cons rfl subL_nil) (by first | exact subL_nil | exact (subL_cons rfl subL_nil) | exact (subL_cons rfl (subL_cons rfl subL_nil)) | exact (subL_cons rfl (subL_cons rfl (subL_cons rfl subL_nil))) | exact (subL_cons rfl (subL_cons rfl (subL_cons rfl (subL_cons rfl subL_nil)))) | exact (subL_cons rfl (subL_cons rfl (subL_cons rfl (subL_cons rfl (subL_cons rfl subL_nil))))) | exact (subL_cons rfl (subL_cons rfl (subL_cons rfl (subL_cons rfl (subL_cons rfl (subL_cons rfl subL_nil)))))) | exact (subL_cons rfl (subL_cons rfl (subL_cons rfl (subL_cons rfl (subL_cons rfl (subL_cons rfl (subL_cons rfl subL_nil))))))) | exact (subL_cons rfl (subL_cons rfl (subL_cons rfl (subL_cons rfl (subL_cons rfl (subL_cons rfl (subL_cons rfl (subL_cons rfl subL_nil))))))))) (fun b y => by obtain ⟨b1, b2⟩ := b; cases b1 <;> cases b2 <;> first | exact Imp.refl _ | exact imp_ren qN (by kernel_rfl)) ?_ (fun p ⟨hk, hr⟩ => ?_) | fail) | (show thenQ _ _ _ _; first | refine then_n ?_ | refine then_x ?_ | fail) | (show blockQ _ _ _ _; first | refine block_n ?_ | refine block_x rfl ?_ | fail) | (show RetQ _ _ _ _ _ _; first | refine ret_leaf (.inl rfl) rfl rfl ?_ | fail) | (show DRun _ _ _ _ _ _ _ _; first | (show DRun _ _ _ _ (Oper.mk _ (Op.call _) _ _ _ (_) :: _) _ _ _; first | refine d_new envOk 11 rfl rfl rfl (step3_appendB (i := 10) rfl rfl rfl rfl rfl rfl rfl rfl (by first | omega | ((try simp only [decide_eq_true_eq, decide_eq_false_iff_not, List.length_map, List.length_cons, List.length_nil, List.length_append, List.length_take, List.length_drop, Int.toNat_natCast] at *); omega)) (by first | exact Nat.le_of_ble_eq_true rfl | omega | ((try simp only [decide_eq_true_eq, decide_eq_false_iff_not, List.length_map, List.length_cons, List.length_nil, List.length_append, List.length_take, List.length_drop, Int.toNat_natCast] at *); omega)) (Nat.le_of_ble_eq_true rfl)) rfl rfl ?_ | fail) | refine d_nil (by kernel_rfl) ?_ | refine d_e envOk rfl rfl rfl (step3_plain rfl rfl) ?_ | (show DRun _ _ _ _ (Oper.mk _ (Op.indexAddr _ _ _) _ _ _ (_) :: _) _ _ _; first | refine d_e envOk rfl rfl rfl (step3_idx rfl rfl rfl rfl rfl (by first | omega | ((try simp only [decide_eq_true_eq, decide_eq_false_iff_not, Bool.not_eq_true', Bool.not_true, Bool.not_false, List.length_map, List.length_set, bne_iff_ne, ne_eq, beq_iff_eq, bne_eq_false_iff_eq, beq_eq_false_iff_ne] at *); omega)) (at_map (by first | omega | ((try simp only [decide_eq_true_eq, decide_eq_false_iff_not, Bool.not_eq_true', Bool.not_true, Bool.not_false, List.length_map, List.length_set, bne_iff_ne, ne_eq, beq_iff_eq, bne_eq_false_iff_eq, beq_eq_false_iff_ne] at *); omega)))) ?_ | fail) | (show DRun _ _ _ _ (Oper.mk _ (Op.call _) _ _ _ (_) :: _) _ _ _; first | refine d_callD 16 rfl rfl rfl rfl rfl rfl rfl rfl (c95 _ (hs.2.2.2 _ (by first | omega | ((try simp only [decide_eq_true_eq, decide_eq_false_iff_not, Bool.not_eq_true', Bool.not_true, Bool.not_false, List.length_map, List.length_set, bne_iff_ne, ne_eq, beq_iff_eq, bne_eq_false_iff_eq, beq_eq_false_iff_ne] at *); omega))).1 (hs.2.2.2 _ (by first | omega | ((try simp only [decide_eq_true_eq, decide_eq_false_iff_not, Bool.not_eq_true', Bool.not_true, Bool.not_false, List.length_map, List.length_set, bne_iff_ne, ne_eq, beq_iff_eq, bne_eq_false_iff_eq, beq_eq_false_iff_ne] at *); omega))).2) rfl rfl ?_ | fail) | refine d_new envOk 3 rfl rfl rfl rfl rfl rfl ?_ | refine d_store envOk rfl rfl rfl ?_ | fail) | (show Exists _; first | refine Exists.intro ((p.1 + 1, p.2.take p.1 ++ [encCell (at_ a.cells p.1)])) (Exists.intro (true, false) ⟨?_, ?_, (by first | exact subL_nil | exact (subL_cons rfl subL_nil) | exact (subL_cons rfl (subL_cons rfl subL_nil)) | exact (subL_cons rfl (subL_cons rfl (subL_cons rfl subL_nil))) | exact (subL_cons rfl (subL_cons rfl (subL_cons rfl (subL_cons rfl subL_nil)))) | exact (subL_cons rfl (subL_cons rfl (subL_cons rfl (subL_cons rfl (subL_cons rfl subL_nil))))) | exact (subL_cons rfl (subL_cons rfl (subL_cons rfl (subL_cons rfl (subL_cons rfl (subL_cons rfl subL_nil)))))) | exact (subL_cons rfl (subL_cons rfl (subL_cons rfl (subL_cons rfl (subL_cons rfl (subL_cons rfl (subL_cons rfl subL_nil))))))) | exact (subL_cons rfl (subL_cons rfl (subL_cons rfl (subL_cons rfl (subL_cons rfl (subL_cons rfl (subL_cons rfl (subL_cons rfl subL_nil))))))))), (subL_cons rfl subL_nil), (subL_cons rfl (subL_cons rfl (subL_cons rfl subL_nil)))⟩) | fail) | fail)
  · exact ⟨Nat.zero_le _, rfl⟩
  · have hlt : p.1 < a.cells.length := by simpa using h
    exact ⟨hlt, by show p.2.take p.1 ++ _ = _; rw [hr]; exact row_next _ _ hlt⟩
  · have hlt : p.1 < a.cells.length := by simpa using h
    show a.cells.length - (p.1 + 1) < a.cells.length - p.1
    omega
  · have hge : a.cells.length ≤ p.1 := by simpa using h
    show AV.agg [.d (encDims a.dims), .d (encAttrs a.attrs), .d (.sl 2 48 (p.2.take p.1))] = _
    rw [hr, List.take_of_length_le (by simp; omega), List.take_of_length_le hge]
    rfl
end Go.Proofs.YtpejdgkaapnekaaGreat
namespace Go.Proofs.YtpejdgkaapnekaaGreat
open Go Go.Abs
theorem smallA_of {a : Arr} (h : fewA (1048571 + 3) a) : smallA a := by
  obtain ⟨h1, h2, h3, h4⟩ := h
  refine ⟨Nat.le_trans h1.1 (by omega), Nat.le_trans h2.1 (by omega), Nat.le_trans h3 (by omega), fun k hk => ?_⟩
  have := h4 _ (at_mem hk)
  exact ⟨Nat.le_trans this.1 (by omega), Nat.le_trans this.2 (by omega)⟩
end Go.Proofs.YtpejdgkaapnekaaGreat
namespace Go.Proofs.YtpejdgkaapnekaaGreat
open Go Go.Abs
def atX (ats : List Attr) (name : List UInt8) : Int := idxGo (fun a : Attr => a.name == name) ats 0
end Go.Proofs.YtpejdgkaapnekaaGreat
namespace Go.Proofs.YtpejdgkaapnekaaGreat
open Go Go.Abs
theorem idxGo_none {α : Type} {p : α → Bool} : ∀ {l : List α} {j : Nat}, idxGo p l j < 0 → ∀ x ∈ l, p x = false
  | [], _, _, _, h => by simp at h
  | x :: l, j, h, y, hy => by
    simp only [idxGo] at h
    split at h
    · omega
    · rename_i h1
      rcases List.mem_cons.1 hy with rfl | hy
      · simpa using h1
      · exact idxGo_none h y hy
section
variable {src kept : List (Int × Bool)} {ds : List Dim} {rule : Int}
end
theorem Attr.ext {a b : Attr} (h1 : a.name = b.name) (h2 : a.type = b.type) : a = b := by cases a; cases b; simp_all
end Go.Proofs.YtpejdgkaapnekaaGreat
namespace Go.Abs
open Go
variable {P : Program} {V : Env} {st : St} {o : Oper}
theorem step3_idxOwn {t e : TypeId} {x y : Operand} {id m k k' b b' : Nat} {ik : IntKind} {i : Int} {xs : List (List D)} {z : List D} (ho : o.op = .indexAddr t x y) (ht : sliceTy V.T t = some (e, k', b', z)) (hx : ev st x = some (.one (.own id m)))
    (hl : look st.sto id = some (.row k b xs)) (hk : Nat.beq k k' = true) (hy : ev st y = some (.one (.d (.int ik i)))) (h0 : 0 ≤ i) (hm : i < (m : Int)) : step3 V st o 0 = some ⟨.one (.rref id i.toNat 0), [], []⟩ := by
  simp only [step3, stepE, valF, ho, otherE, idxV, hx, hy, ht, hl, hk, h0, hm, decide_true, Bool.and_self, cond_true]
theorem step3_storeRow {t : TypeId} {x y : Operand} {id j off k b s : Nat} {g : Bool} {xs : List (List D)} {el el' ds : List D} {cs : List AC} {v : AV} (ho : o.op = .store t x y) (hd : o.dst = none) (hx : ev st x = some (.one (.rref id j off))) (hy : ev st y = some v) (hT : tySz V.T t = some (g, s))
    (hl : look st.sto id = some (.row k b xs)) (hc : cellsOf v = some cs) (hs : Nat.beq cs.length s = true) (ha : allD cs = some ds) (hj : xs[j]? = some el) (hsp : splice off ds el = some el') : step3 V st o 0 = some ⟨.any, [(id, some (.row k b (xs.set j el')))], []⟩ := by
  simp only [step3, stepE, valF, ho, otherE, hx, hy, hT, hl, hc, hs, ha, storeV, nth_eq, hj, hsp, cond_true]
  simp [hd, hasD]
theorem row_get {α : Type} [Inhabited α] {f : α → List D} {l : List α} {xs : List (List D)} {i : Nat} (h : xs = l.map f) (hi : i < xs.length) : xs[i]? = some (f (at_ l i)) := by
  subst h; exact at_map (by simpa using hi)
theorem step3_makeSlice {t e : TypeId} {x y : Operand} {id n k b d : Nat} {i j : Int} {z : List D} (ho : o.op = .makeSlice t x y) (hd : o.dst = some d) (ht : sliceTy V.T t = some (e, k, b, z)) (hx : ev st x = some (.one (.d (.int .i64 i)))) (hy : ev st y = some (.one (.d (.int .i64 j)))) (hi : i = (n : Int)) (hj : j = (n : Int)) (hn : n ≤ 1000) (hb : b ≤ 100) :
    step3 V st o id = some ⟨.one (.own id n), [(id, some (.row k b (List.replicate n z)))], [id]⟩ := by
  subst hi; subst hj
  have h1 : Nat.ble (n * b) 1000000 = true := Nat.ble_eq.mpr (Nat.le_trans (Nat.mul_le_mul hn hb) (by omega))
  have h2 : Nat.ble n 1000000 = true := Nat.ble_eq.mpr (by omega)
  have h3 : (0 : Int) ≤ (n : Int) := Int.natCast_nonneg n
  simp only [step3, stepE, valF, ho, otherE, newF, hx, hy, ht, hd, hasD, h3, decide_true, Int.toNat_natCast, h1, h2, Bool.and_self, cond_true]
end Go.Abs
namespace Go.Abs
open Go
variable {V : Env} {st : St} {o : Oper}
end Go.Abs
namespace Go.Proofs.YtpejdgkaapnekaaGreat
open Go Go.Abs
attribute [local irreducible] OkOps OkC DRun thenQ blockQ RetQ
set_option maxRecDepth 10000
end Go.Proofs.YtpejdgkaapnekaaGreat
namespace Go.Proofs.YtpejdgkaapnekaaGreat
open Go Go.Abs
attribute [local irreducible] OkOps OkC DRun thenQ blockQ RetQ
set_option maxRecDepth 10000
section
variable {src : List (Int × Bool)} {c : Cell} {k : Nat}
end
end Go.Proofs.YtpejdgkaapnekaaGreat
namespace Go.Proofs.YtpejdgkaapnekaaGreat
open Go Go.Abs
attribute [local irreducible] OkOps OkC DRun thenQ blockQ RetQ
set_option maxRecDepth 10000
def encName (s : List UInt8) : List D := [.str s]
def encNames (l : List (List UInt8)) : D := .sl 1 16 (l.map encName)
theorem row_app {α : Type} [Inhabited α] (f : α → List D) (l : List α) {n : Nat} {r : List (List D)} (h : r = (l.take n).map f) (hlt : n < l.length) : r.take n ++ [f (at_ l n)] = (l.take (n + 1)).map f := by
  rw [h]; exact row_next f l hlt
section
variable {src kept : List (Int × Bool)} {ds : List Dim} {rule : Int} {c : Cell} {cs cs' l : List Cell} {x : List Int} {j : Nat}
end
end Go.Proofs.YtpejdgkaapnekaaGreat
namespace Go.Proofs.YtpejdgkaapnekaaGreat
open Go Go.Abs
def putR (c : Cell) : List Cell → List Cell
  | [] => [c]
  | x :: r => if cmpF x.at' c.at' < 0 then x :: putR c r else if cmpF x.at' c.at' = 0 then c :: r else c :: x :: r
end Go.Proofs.YtpejdgkaapnekaaGreat
namespace Go.Abs
open Go
variable {V : Env} {st : St} {o : Oper}
theorem step3_sliceDHi {t e : TypeId} {x y : Operand} {k k' b b' : Nat} {ik : IntKind} {h : Int} {xs : List (List D)} {z : List D} (ho : o.op = .slice t x none (some y) none) (ht : sliceTy V.T t = some (e, k', b', z)) (hx : ev st x = some (.one (.d (.sl k b xs)))) (hy : ev st y = some (.one (.d (.int ik h))))
    (hk : Nat.beq k k' = true) (h0 : 0 ≤ h) (hm : h.toNat ≤ xs.length) : step3 V st o 0 = some ⟨.one (.d (.sl k b (xs.take h.toNat))), [], []⟩ := by
  have e1 : Nat.ble h.toNat xs.length = true := Nat.ble_eq.mpr hm
  have e0 : Nat.ble 0 h.toNat = true := Nat.ble_eq.mpr (Nat.zero_le _)
  simp only [step3, stepE, valF, ho, otherE, bndF, hx, hy, h0, decide_true, cond_true, sliceV, ht, hk, e0, e1, Bool.and_self, List.drop_zero]
theorem step3_sliceDLo {t e : TypeId} {x y : Operand} {k k' b b' : Nat} {ik : IntKind} {h : Int} {xs : List (List D)} {z : List D} (ho : o.op = .slice t x (some y) none none) (ht : sliceTy V.T t = some (e, k', b', z)) (hx : ev st x = some (.one (.d (.sl k b xs)))) (hy : ev st y = some (.one (.d (.int ik h))))
    (hk : Nat.beq k k' = true) (h0 : 0 ≤ h) (hm : h.toNat ≤ xs.length) : step3 V st o 0 = some ⟨.one (.d (.sl k b (xs.drop h.toNat))), [], []⟩ := by
  have e1 : Nat.ble h.toNat xs.length = true := Nat.ble_eq.mpr hm
  have e2 : Nat.ble xs.length xs.length = true := Nat.ble_eq.mpr (Nat.le_refl _)
  simp only [step3, stepE, valF, ho, otherE, bndF, hx, hy, h0, decide_true, cond_true, sliceV, ht, hk, e1, e2, Bool.and_self, List.take_length]
end Go.Abs
namespace Go.Proofs.YtpejdgkaapnekaaGreat
open Go Go.Abs
attribute [local irreducible] OkOps OkC DRun thenQ blockQ RetQ
set_option maxRecDepth 10000
end Go.Proofs.YtpejdgkaapnekaaGreat
namespace Go.Proofs.YtpejdgkaapnekaaGreat
open Go Go.Abs
attribute [local irreducible] OkOps OkC DRun thenQ blockQ RetQ
set_option maxRecDepth 10000
def mergeF : List Cell → List Cell → List Cell
  | [], b => b
  | x :: a, [] => x :: a
  | x :: a, y :: b => if cmpF y.at' x.at' < 0 then y :: mergeF (x :: a) b else x :: mergeF a (y :: b)
  termination_by a b => a.length + b.length
theorem merge_perm : ∀ {a b : List Cell}, (mergeF a b).Perm (a ++ b)
  | [], b => by simp [mergeF]
  | x :: a, [] => by simp [mergeF]
  | x :: a, y :: b => by
    rw [mergeF]
    split
    · exact ((merge_perm (a := x :: a) (b := b)).cons y).trans List.perm_middle.symm
    · exact (merge_perm (a := a) (b := y :: b)).cons x
  termination_by a b => a.length + b.length
theorem merge_mem {a b : List Cell} {z : Cell} (h : z ∈ mergeF a b) : z ∈ a ∨ z ∈ b := List.mem_append.1 (merge_perm.mem_iff.1 h)
theorem merge_sorted : ∀ {a b : List Cell}, a.Pairwise ltC → b.Pairwise ltC → (∀ x ∈ a, ∀ y ∈ b, diffC x y) → (mergeF a b).Pairwise ltC
  | [], b, _, hb, _ => by rw [mergeF]; exact hb
  | x :: a, [], ha, _, _ => by rw [mergeF]; exact ha
  | x :: a, y :: b, ha, hb, hd => by
    rw [mergeF]
    have ha' := List.pairwise_cons.1 ha
    have hb' := List.pairwise_cons.1 hb
    split
    · rename_i h
      refine List.pairwise_cons.2 ⟨fun z hz => ?_, merge_sorted ha hb'.2 fun u hu v hv => hd u hu v (List.mem_cons_of_mem _ hv)⟩
      rcases merge_mem hz with hz | hz
      · rcases List.mem_cons.1 hz with rfl | hz
        · exact h
        · exact ltC_trans h (ha'.1 z hz)
      · exact hb'.1 z hz
    · rename_i h
      have hxy : ltC x y := lt_of_le_diff h (hd x List.mem_cons_self y List.mem_cons_self)
      refine List.pairwise_cons.2 ⟨fun z hz => ?_, merge_sorted ha'.2 hb fun u hu v hv => hd u (List.mem_cons_of_mem _ hu) v hv⟩
      rcases merge_mem hz with hz | hz
      · exact ha'.1 z hz
      · rcases List.mem_cons.1 hz with rfl | hz
        · exact hxy
        · exact ltC_trans hxy (hb'.1 z hz)
  termination_by a b => a.length + b.length
theorem merge_sort {l : List Cell} {n : Nat} (hd : l.Pairwise diffC) : mergeF (sortF (l.take n)) (sortF (l.drop n)) = sortF l := by
  have hd' : (l.take n ++ l.drop n).Pairwise diffC := by rw [List.take_append_drop]; exact hd
  obtain ⟨h1, h2, h3⟩ := List.pairwise_append.1 hd'
  refine sorted_uniq ?_ (merge_sorted (sortF_sorted h1) (sortF_sorted h2) fun x hx y hy => h3 x ((sortF_perm _).mem_iff.1 hx) y ((sortF_perm _).mem_iff.1 hy)) (sortF_sorted hd)
  refine merge_perm.trans (((sortF_perm _).append (sortF_perm _)).trans ?_)
  rw [List.take_append_drop]
  exact (sortF_perm l).symm
theorem sort_short {l : List Cell} (h : l.length < 2) : sortF l = l := by
  match l, h with
  | [], _ => exact sortF_id (by simp)
  | [x], _ => exact sortF_id (by simp)
theorem merge_b {la lb : List Cell} (ha : 0 < la.length) (hb : 0 < lb.length) (h : cmpF (at_ lb 0).at' (at_ la 0).at' < 0) : mergeF la lb = at_ lb 0 :: mergeF la (lb.drop 1) := by
  obtain ⟨x, la', rfl⟩ := List.exists_cons_of_length_pos ha
  obtain ⟨y, lb', rfl⟩ := List.exists_cons_of_length_pos hb
  rw [mergeF]; exact if_pos h
theorem merge_a {la lb : List Cell} (ha : 0 < la.length) (hb : 0 < lb.length) (h : ¬ cmpF (at_ lb 0).at' (at_ la 0).at' < 0) : mergeF la lb = at_ la 0 :: mergeF (la.drop 1) lb := by
  obtain ⟨x, la', rfl⟩ := List.exists_cons_of_length_pos ha
  obtain ⟨y, lb', rfl⟩ := List.exists_cons_of_length_pos hb
  rw [mergeF]; exact if_neg h
theorem merge_e {la lb : List Cell} (h : la.length = 0 ∨ lb.length = 0) : mergeF la lb = la ++ lb := by
  rcases h with h | h
  · rw [List.length_eq_zero_iff.1 h, mergeF]; rfl
  · rw [List.length_eq_zero_iff.1 h]; cases la <;> simp [mergeF]
theorem map_snoc {r : List (List D)} {lo : List Cell} {c : Cell} {n : Nat} (hr : r = lo.map encCell) (hn : n = r.length) : r.take n ++ [encCell c] = (lo ++ [c]).map encCell := by
  subst hn; rw [List.take_length, hr, List.map_append]; rfl
theorem merge_fin {ra rb r : List (List D)} {a b la lb lo : List Cell} {n : Nat} (h1 : ra = la.map encCell) (h2 : rb = lb.map encCell) (h3 : r = lo.map encCell) (h4 : n = r.length) (h5 : mergeF a b = lo ++ mergeF la lb) (h : la.length = 0 ∨ lb.length = 0) :
    AV.one (sealC 10 (.row 2 48 (List.take (n + ra.length) (List.take n r ++ ra) ++ rb)) (.own 10 (n + ra.length + rb.length))) = .one (.d (encCells (mergeF a b))) := by
  show AV.one (.d (.sl 2 48 (List.take (n + ra.length + rb.length) (List.take (n + ra.length) (List.take n r ++ ra) ++ rb)))) = _
  subst h4
  rw [List.take_length, ← List.length_append, List.take_length, ← List.length_append, List.take_length, h5, merge_e h, h1, h2, h3, encCells, List.map_append, List.map_append, List.append_assoc]
theorem c232 (a b : List Cell) (hl : a.length + b.length ≤ 4096) : CallA Tryz.prog 232 [.one (.d (encCells a)), .one (.d (encCells b))] [] (.one (.d (encCells (mergeF a b)))) [] := by
  refine enter tabOk Tryz.func232 rfl (by decide +kernel) rfl fun hok w0 σ0 φ0 M => ?_
  clear hok
  repeat' (first | (show OkOps _ _ _ _ _ _; first | (show OkOps _ _ _ (Oper.mk _ (Op.indexAddr _ _ _) _ _ _ (_) :: _) _ _; first | refine s_e envOk rfl rfl rfl (step3_idx rfl rfl rfl rfl rfl (Int.le_refl _) (row_get hp1 (by first | omega | ((try simp only [decide_eq_true_eq, decide_eq_false_iff_not, Bool.not_eq_true', Bool.not_true, Bool.not_false, List.length_map, List.length_set, bne_iff_ne, ne_eq, beq_iff_eq, bne_eq_false_iff_eq, beq_eq_false_iff_ne] at *); omega)))) ?_ | fail) | (show OkOps _ _ _ (Oper.mk _ (Op.indexAddr _ _ _) _ _ _ (_) :: _) _ _; first | refine s_e envOk rfl rfl rfl (step3_idx rfl rfl rfl rfl rfl (Int.le_refl _) (row_get hp2 (by first | omega | ((try simp only [decide_eq_true_eq, decide_eq_false_iff_not, Bool.not_eq_true', Bool.not_true, Bool.not_false, List.length_map, List.length_set, bne_iff_ne, ne_eq, beq_iff_eq, bne_eq_false_iff_eq, beq_eq_false_iff_ne] at *); omega)))) ?_ | fail) | (show OkOps _ _ _ (Oper.mk _ (Op.slice _ _ _ none _) _ _ _ (_) :: _) _ _; first | refine s_e envOk rfl rfl rfl (step3_sliceDLo rfl rfl rfl rfl rfl (by omega) (by show 1 ≤ _; simp at *; omega)) ?_ | fail) | (show OkOps _ _ _ (Oper.mk _ (Op.call _) _ _ _ (_) :: _) _ _; first | refine s_append tabOk rfl rfl rfl rfl rfl rfl rfl rfl rfl rfl rfl rfl rfl (by first | omega | ((try simp only [decide_eq_true_eq, decide_eq_false_iff_not, List.length_map, List.length_cons, List.length_nil, List.length_append, List.length_take, List.length_drop, Int.toNat_natCast] at *); omega)) (by first | exact Nat.le_of_ble_eq_true rfl | omega | ((try simp only [decide_eq_true_eq, decide_eq_false_iff_not, List.length_map, List.length_cons, List.length_nil, List.length_append, List.length_take, List.length_drop, Int.toNat_natCast] at *); omega)) (Nat.le_of_ble_eq_true rfl) ?_ | fail) | refine okops_nil ?_ | refine s_plain tabOk rfl rfl rfl rfl rfl ?_ | (show OkOps _ _ _ (Oper.mk _ (_) _ _ _ (some _) :: _) _ _; first | refine s_guard rfl rfl (by first | assumption | rfl) ?_ | refine s_out rfl rfl (by first | assumption | rfl) rfl rfl ?_ | refine s_split rfl rfl rfl rfl (fun h => ?_) (fun h => ?_) | fail) | (show OkOps _ _ _ (Oper.mk _ (Op.pick _ _ _) _ _ _ (_) :: _) _ _; first | refine s_e envOk rfl rfl rfl (step3_pickT rfl rfl (by first | rfl | assumption) rfl) ?_ | refine s_e envOk rfl rfl rfl (step3_pickF rfl rfl (by first | rfl | assumption) rfl) ?_ | fail) | refine s_new envOk 0 rfl rfl rfl rfl rfl rfl ?_ | fail) | (show OkC _ _ _ _ _; first | refine okc_imp (imp_sealL (dl := [10]) rfl) (ok_ret ?_) | refine ok_seq ?_ | refine ok_region ?_ | refine ok_block ?_ | refine ok_skip ?_ | refine ok_exit ?_ | refine ok_condF rfl ?_ | refine ok_cond rfl (fun h => ?_) (fun h => ?_) | refine ok_regionD progOk.mo ?_ | refine s_loopN 2 rfl (imp_adopt (s := 5) (id := 10) (k := 2) (b := 48) rfl rfl rfl rfl) [] subL_nil (fun (bN : Bool × Bool) (p : List (List D) × List (List D) × Nat × List (List D) × List Cell × List Cell × List Cell) => [(0, .one (.d (.sl 2 48 p.1))), (1, .one (.d (.sl 2 48 p.2.1))), (5, .one (.own 10 p.2.2.1))]) (fun (bN : Bool × Bool) (p : List (List D) × List (List D) × Nat × List (List D) × List Cell × List Cell × List Cell) => [(10, .row 2 48 p.2.2.2.1)]) (fun (p : List (List D) × List (List D) × Nat × List (List D) × List Cell × List Cell × List Cell) => p.1 = p.2.2.2.2.1.map encCell ∧ p.2.1 = p.2.2.2.2.2.1.map encCell ∧ p.2.2.2.1 = p.2.2.2.2.2.2.map encCell ∧ p.2.2.1 = p.2.2.2.1.length ∧ mergeF a b = p.2.2.2.2.2.2 ++ mergeF p.2.2.2.2.1 p.2.2.2.2.2.1 ∧ p.2.2.1 + p.1.length + p.2.1.length = a.length + b.length) (fun (p : List (List D) × List (List D) × Nat × List (List D) × List Cell × List Cell × List Cell) => p.1.length + p.2.1.length) (a.map encCell, b.map encCell, 0, [], a, b, []) (subL_cons rfl (subL_cons rfl (subL_cons rfl subL_nil))) (by first | exact subL_nil | exact (subL_cons rfl subL_nil) | exact (subL_cons rfl (subL_cons rfl subL_nil)) | exact (subL_cons rfl (subL_cons rfl (subL_cons rfl subL_nil))) | exact (subL_cons rfl (subL_cons rfl (subL_cons rfl (subL_cons rfl subL_nil)))) | exact (subL_cons rfl (subL_cons rfl (subL_cons rfl (subL_cons rfl (subL_cons rfl subL_nil))))) | exact (subL_cons rfl (subL_cons rfl (subL_cons rfl (subL_cons rfl (subL_cons rfl (subL_cons rfl subL_nil)))))) | exact (subL_cons rfl (subL_cons rfl (subL_cons rfl (subL_cons rfl (subL_cons rfl (subL_cons rfl (subL_cons rfl subL_nil))))))) | exact (subL_cons rfl (subL_cons rfl (subL_cons rfl (subL_cons rfl (subL_cons rfl (subL_cons rfl (subL_cons rfl (subL_cons rfl subL_nil))))))))) (fun b y => by obtain ⟨b1, b2⟩ := b; cases b1 <;> cases b2 <;> first | exact Imp.refl _ | exact imp_ren qN (by kernel_rfl)) ?_ (fun p ⟨hp1, hp2, hp3, hp4, hp5, hp6⟩ => ?_) | fail) | (show thenQ _ _ _ _; first | refine then_n ?_ | refine then_x ?_ | fail) | (show blockQ _ _ _ _; first | refine block_n ?_ | refine block_x rfl ?_ | fail) | (show RetQ _ _ _ _ _ _; first | refine ret_leaf (.inl rfl) rfl rfl ?_ | fail) | (show DRun _ _ _ _ _ _ _ _; first | (show DRun _ _ _ _ (Oper.mk _ (Op.indexAddr _ _ _) _ _ _ (_) :: _) _ _ _; first | refine d_e envOk rfl rfl rfl (step3_idx rfl rfl rfl rfl rfl (Int.le_refl _) (row_get hp1 (by first | omega | ((try simp only [decide_eq_true_eq, decide_eq_false_iff_not, Bool.not_eq_true', Bool.not_true, Bool.not_false, List.length_map, List.length_set, bne_iff_ne, ne_eq, beq_iff_eq, bne_eq_false_iff_eq, beq_eq_false_iff_ne] at *); omega)))) ?_ | fail) | (show DRun _ _ _ _ (Oper.mk _ (Op.indexAddr _ _ _) _ _ _ (_) :: _) _ _ _; first | refine d_e envOk rfl rfl rfl (step3_idx rfl rfl rfl rfl rfl (Int.le_refl _) (row_get hp2 (by first | omega | ((try simp only [decide_eq_true_eq, decide_eq_false_iff_not, Bool.not_eq_true', Bool.not_true, Bool.not_false, List.length_map, List.length_set, bne_iff_ne, ne_eq, beq_iff_eq, bne_eq_false_iff_eq, beq_eq_false_iff_ne] at *); omega)))) ?_ | fail) | refine d_nil (by kernel_rfl) ?_ | refine d_e envOk rfl rfl rfl (step3_plain rfl rfl) ?_ | (show DRun _ _ _ _ (Oper.mk _ (Op.call _) _ _ _ (_) :: _) _ _ _; first | refine d_l rfl rfl (loc_callF' rfl rfl rfl rfl rfl rfl (c176 _ _) rfl) ?_ | fail) | fail) | (show Exists _; first | refine Exists.intro ((p.1, p.2.1.drop 1, p.2.2.1 + 1, p.2.2.2.1.take p.2.2.1 ++ [encCell (at_ p.2.2.2.2.2.1 0)], p.2.2.2.2.1, p.2.2.2.2.2.1.drop 1, p.2.2.2.2.2.2 ++ [at_ p.2.2.2.2.2.1 0])) (Exists.intro (false, false) ⟨?_, ?_, (by first | exact subL_nil | exact (subL_cons rfl subL_nil) | exact (subL_cons rfl (subL_cons rfl subL_nil)) | exact (subL_cons rfl (subL_cons rfl (subL_cons rfl subL_nil))) | exact (subL_cons rfl (subL_cons rfl (subL_cons rfl (subL_cons rfl subL_nil)))) | exact (subL_cons rfl (subL_cons rfl (subL_cons rfl (subL_cons rfl (subL_cons rfl subL_nil))))) | exact (subL_cons rfl (subL_cons rfl (subL_cons rfl (subL_cons rfl (subL_cons rfl (subL_cons rfl subL_nil)))))) | exact (subL_cons rfl (subL_cons rfl (subL_cons rfl (subL_cons rfl (subL_cons rfl (subL_cons rfl (subL_cons rfl subL_nil))))))) | exact (subL_cons rfl (subL_cons rfl (subL_cons rfl (subL_cons rfl (subL_cons rfl (subL_cons rfl (subL_cons rfl (subL_cons rfl subL_nil))))))))), (subL_cons rfl (subL_cons rfl (subL_cons rfl subL_nil))), subL_nil⟩) | refine Exists.intro ((p.1.drop 1, p.2.1, p.2.2.1 + 1, p.2.2.2.1.take p.2.2.1 ++ [encCell (at_ p.2.2.2.2.1 0)], p.2.2.2.2.1.drop 1, p.2.2.2.2.2.1, p.2.2.2.2.2.2 ++ [at_ p.2.2.2.2.1 0])) (Exists.intro (false, false) ⟨?_, ?_, (by first | exact subL_nil | exact (subL_cons rfl subL_nil) | exact (subL_cons rfl (subL_cons rfl subL_nil)) | exact (subL_cons rfl (subL_cons rfl (subL_cons rfl subL_nil))) | exact (subL_cons rfl (subL_cons rfl (subL_cons rfl (subL_cons rfl subL_nil)))) | exact (subL_cons rfl (subL_cons rfl (subL_cons rfl (subL_cons rfl (subL_cons rfl subL_nil))))) | exact (subL_cons rfl (subL_cons rfl (subL_cons rfl (subL_cons rfl (subL_cons rfl (subL_cons rfl subL_nil)))))) | exact (subL_cons rfl (subL_cons rfl (subL_cons rfl (subL_cons rfl (subL_cons rfl (subL_cons rfl (subL_cons rfl subL_nil))))))) | exact (subL_cons rfl (subL_cons rfl (subL_cons rfl (subL_cons rfl (subL_cons rfl (subL_cons rfl (subL_cons rfl (subL_cons rfl subL_nil))))))))), (subL_cons rfl (subL_cons rfl (subL_cons rfl subL_nil))), subL_nil⟩) | fail) | fail)
  · exact ⟨rfl, rfl, rfl, rfl, (List.nil_append _).symm, by simp⟩
  all_goals (obtain ⟨ra, rb, n, r, la, lb, lo⟩ := p; dsimp only at *)
  · have ha : 0 < la.length := by have := ‹decide (0 < (ra.length : Int)) = true›; rw [hp1] at this; simpa using this
    have hb : 0 < lb.length := by have := ‹decide (0 < (rb.length : Int)) = true›; rw [hp2] at this; simpa using this
    have hc := merge_b ha hb (of_decide_eq_true h)
    exact ⟨hp1, by rw [hp2, List.map_drop], map_snoc hp3 hp4, by simp [hp4], by rw [hp5, hc, List.append_assoc]; rfl, by rw [List.length_drop]; have : rb.length = lb.length := (by rw [hp2, List.length_map]); omega⟩
  · have hb : 0 < rb.length := by simpa using ‹decide (0 < (rb.length : Int)) = true›
    rw [List.length_drop]; omega
  · have ha : 0 < la.length := by have := ‹decide (0 < (ra.length : Int)) = true›; rw [hp1] at this; simpa using this
    have hb : 0 < lb.length := by have := ‹decide (0 < (rb.length : Int)) = true›; rw [hp2] at this; simpa using this
    have hc := merge_a ha hb (of_decide_eq_false h)
    exact ⟨by rw [hp1, List.map_drop], hp2, map_snoc hp3 hp4, by simp [hp4], by rw [hp5, hc, List.append_assoc]; rfl, by rw [List.length_drop]; have : ra.length = la.length := (by rw [hp1, List.length_map]); omega⟩
  · have hb : 0 < ra.length := by simpa using ‹decide (0 < (ra.length : Int)) = true›
    rw [List.length_drop]; omega
  · have hb : rb.length = 0 := by simpa using h
    exact merge_fin hp1 hp2 hp3 hp4 hp5 (Or.inr (by rw [hp2, List.length_map] at hb; exact hb))
  · have hb : ra.length = 0 := by simpa using h
    exact merge_fin hp1 hp2 hp3 hp4 hp5 (Or.inl (by rw [hp1, List.length_map] at hb; exact hb))
end Go.Proofs.YtpejdgkaapnekaaGreat
namespace Go.Proofs.YtpejdgkaapnekaaGreat
open Go Go.Abs
attribute [local irreducible] OkOps OkC DRun thenQ blockQ RetQ
set_option maxRecDepth 10000
end Go.Proofs.YtpejdgkaapnekaaGreat
namespace Go.Proofs.YtpejdgkaapnekaaGreat
open Go Go.Abs
attribute [local irreducible] OkOps OkC DRun thenQ blockQ RetQ
set_option maxRecDepth 10000
end Go.Proofs.YtpejdgkaapnekaaGreat
namespace Go.Proofs.YtpejdgkaapnekaaGreat
open Go Go.Abs
attribute [local irreducible] OkOps OkC DRun thenQ blockQ RetQ
set_option maxRecDepth 10000
theorem half_take {l : List Cell} {h : Int} (hh : h.toNat = l.length / 2) : List.take h.toNat (List.map encCell l) = (l.take (l.length / 2)).map encCell := by rw [hh, List.map_take]
theorem half_drop {l : List Cell} {h : Int} (hh : h.toNat = l.length / 2) : List.drop h.toNat (List.map encCell l) = (l.drop (l.length / 2)).map encCell := by rw [hh, List.map_drop]
theorem sort_len {l : List Cell} : (sortF l).length = l.length := (sortF_perm l).length_eq
theorem seal_own0 {k b n : Nat} {xs ys : List (List D)} (he : xs.take n = ys) : AV.one (sealC 0 (.row k b xs) (.own 0 n)) = .one (.d (.sl k b ys)) := by subst he; rfl
theorem c184n (n : Nat) (ih : ∀ (ys : List (List D)) (l : List Cell), ys = l.map encCell → l.length < n → l.Pairwise diffC → l.length ≤ 4096 → CallA Tryz.prog 184 [.one (.d (.sl 2 48 ys))] [] (.one (.d (encCells (sortF l)))) [])
    (l : List Cell) (hn : l.length = n) (hd : l.Pairwise diffC) (hl : l.length ≤ 4096) : CallA Tryz.prog 184 [.one (.d (.sl 2 48 (l.map encCell)))] [] (.one (.d (encCells (sortF l)))) [] := by
  have hd1 : (l.take (l.length / 2)).Pairwise diffC := hd.sublist (List.take_sublist _ _)
  have hd2 : (l.drop (l.length / 2)).Pairwise diffC := hd.sublist (List.drop_sublist _ _)
  have e2 : ((((l.map encCell).length : Nat) : Int) / 2).toNat = l.length / 2 := by rw [List.length_map]; omega
  have hm1 : (l.take (l.length / 2)).length ≤ 4096 := by rw [List.length_take]; omega
  have hm2 : (l.drop (l.length / 2)).length ≤ 4096 := by rw [List.length_drop]; omega
  have hl3 : (sortF (l.take (l.length / 2))).length + (sortF (l.drop (l.length / 2))).length ≤ 4096 := by rw [sort_len, sort_len, List.length_take, List.length_drop]; omega
  refine enter tabOk Tryz.func184 rfl (by decide +kernel) rfl fun hok w0 σ0 φ0 M => ?_
  clear hok
  rcases Nat.lt_or_ge l.length 2 with h2 | h2
  · have hb : decide (((List.map encCell l).length : Int) < 2) = true := by simp; omega
    repeat' (first | (show OkOps _ _ _ _ _ _; first | refine okops_nil ?_ | (show OkOps _ _ _ (Oper.mk _ (Op.call _) _ _ _ (_) :: _) _ _; first | refine s_append tabOk rfl rfl rfl rfl rfl rfl rfl rfl rfl rfl rfl rfl rfl (by first | omega | ((try simp only [decide_eq_true_eq, decide_eq_false_iff_not, List.length_map, List.length_cons, List.length_nil, List.length_append, List.length_take, List.length_drop, Int.toNat_natCast] at *); omega)) (by first | exact Nat.le_of_ble_eq_true rfl | omega | ((try simp only [decide_eq_true_eq, decide_eq_false_iff_not, List.length_map, List.length_cons, List.length_nil, List.length_append, List.length_take, List.length_drop, Int.toNat_natCast] at *); omega)) (Nat.le_of_ble_eq_true rfl) ?_ | fail) | refine s_plain tabOk rfl rfl rfl rfl rfl ?_ | refine s_new envOk 0 rfl rfl rfl rfl rfl rfl ?_ | fail) | (show OkC _ _ _ _ _; first | refine okc_imp (imp_sealL (dl := [0]) rfl) (ok_ret ?_) | refine ok_seq ?_ | refine ok_region ?_ | refine ok_condKT rfl (by assumption) ?_ | fail) | (show thenQ _ _ _ _; first | refine then_n ?_ | refine then_r ?_ | fail) | (show RetQ _ _ _ _ _ _; first | refine ret_leaf (.inl rfl) rfl rfl ?_ | fail) | fail)
    refine seal_own0 ?_
    rw [sort_short h2, List.take_zero, List.nil_append, Nat.zero_add, List.take_length]
  · have hb : decide (((List.map encCell l).length : Int) < 2) = false := by simp; omega
    have hl1 : (l.take (l.length / 2)).length < n := by rw [List.length_take]; omega
    have hl2 : (l.drop (l.length / 2)).length < n := by rw [List.length_drop]; omega
    repeat' (first | (show OkOps _ _ _ _ _ _; first | refine okops_nil ?_ | refine s_plain tabOk rfl rfl rfl rfl rfl ?_ | (show OkOps _ _ _ (Oper.mk _ (Op.binOp .quo _ _ _ _) _ _ _ (_) :: _) _ _; first | refine s_e envOk rfl rfl rfl (step3_quoE rfl rfl rfl rfl (by omega) (by omega) (wrap64 (by omega) (by omega))) ?_ | fail) | fail) | (show OkC _ _ _ _ _; first | refine ok_seq ?_ | refine ok_region ?_ | refine ok_skip ?_ | refine ok_ret ?_ | refine ok_condKF rfl (by assumption) ?_ | refine ok_regionD progOk.mo ?_ | fail) | (show thenQ _ _ _ _; first | refine then_n ?_ | fail) | (show RetQ _ _ _ _ _ _; first | refine ret_leaf (.inl rfl) rfl rfl ?_ | fail) | (show DRun _ _ _ _ _ _ _ _; first | (show DRun _ _ _ _ (Oper.mk _ (Op.slice _ _ none _ _) _ _ _ (_) :: _) _ _ _; first | refine d_e envOk rfl rfl rfl (step3_sliceDHi rfl rfl rfl rfl rfl (by simp; omega) (by simp; omega)) ?_ | fail) | (show DRun _ _ _ _ (Oper.mk _ (Op.slice _ _ _ none _) _ _ _ (_) :: _) _ _ _; first | refine d_e envOk rfl rfl rfl (step3_sliceDLo rfl rfl rfl rfl rfl (by simp; omega) (by simp; omega)) ?_ | fail) | (show DRun _ _ _ _ (Oper.mk _ (Op.call _) _ _ _ (_) :: _) _ _ _; first | refine d_callD 16 rfl rfl rfl rfl rfl rfl rfl rfl (ih _ (l.take (l.length / 2)) (half_take e2) hl1 hd1 hm1) rfl rfl ?_ | fail) | (show DRun _ _ _ _ (Oper.mk _ (Op.call _) _ _ _ (_) :: _) _ _ _; first | refine d_callD 16 rfl rfl rfl rfl rfl rfl rfl rfl (ih _ (l.drop (l.length / 2)) (half_drop e2) hl2 hd2 hm2) rfl rfl ?_ | fail) | (show DRun _ _ _ _ (Oper.mk _ (Op.call _) _ _ _ (_) :: _) _ _ _; first | refine d_callD 16 rfl rfl rfl rfl rfl rfl rfl rfl (c232 _ _ hl3) rfl rfl ?_ | fail) | refine d_nil (by kernel_rfl) ?_ | refine d_e envOk rfl rfl rfl (step3_plain rfl rfl) ?_ | fail) | fail)
    rw [merge_sort hd]; rfl
theorem c184e : ∀ (n : Nat) (ys : List (List D)) (l : List Cell), ys = l.map encCell → l.length < n → l.Pairwise diffC → l.length ≤ 4096 → CallA Tryz.prog 184 [.one (.d (.sl 2 48 ys))] [] (.one (.d (encCells (sortF l)))) []
  | 0, _, _, _, h, _, _ => absurd h (Nat.not_lt_zero _)
  | n + 1, ys, l, hy, h, hd, hl => by
    subst hy
    exact c184n l.length (fun ys' l' hy' h' hd' hl' => c184e n ys' l' hy' (by omega) hd' hl') l rfl hd hl
theorem c184 (l : List Cell) (hd : l.Pairwise diffC) (hl : l.length ≤ 4096) : CallA Tryz.prog 184 [.one (.d (encCells l))] [] (.one (.d (encCells (sortF l)))) [] := c184e (l.length + 1) _ l rfl (Nat.lt_succ_self _) hd hl
end Go.Proofs.YtpejdgkaapnekaaGreat
namespace Go.Proofs.YtpejdgkaapnekaaGreat
open Go Go.Abs
attribute [local irreducible] OkOps OkC DRun thenQ blockQ RetQ
set_option maxRecDepth 10000
def smallC (c : Cell) : Prop := c.at'.length ≤ 1048576 ∧ c.vals.length ≤ 1048576
theorem small_of {ds : List Dim} {ats : List Attr} {l : List Cell} (h1 : ds.length ≤ 1048576) (h2 : ats.length ≤ 1048576) (h3 : ∀ c ∈ l, smallC c) (h4 : l.length ≤ 4096) : smallA ⟨ds, ats, sortF l⟩ := by
  have hn : (sortF l).length ≤ 4096 := by rw [sort_len]; exact h4
  exact ⟨h1, h2, by show (sortF l).length ≤ _; omega, fun k hk => h3 _ ((sortF_perm l).mem_iff.1 (at_mem hk))⟩
theorem c101 (ds : List Dim) (ats : List Attr) (l : List Cell) (hd : l.Pairwise diffC) (h1 : ds.length ≤ 1048576) (h2 : ats.length ≤ 1048576) (h3 : ∀ c ∈ l, smallC c) : CallA Tryz.prog 101 [.one (.d (encDims ds)), .one (.d (encAttrs ats)), .one (.d (encCells l))] [] (arrE (resF ds ats l)) [] := by
  refine enter tabOk Tryz.func101 rfl (by decide +kernel) rfl fun hok w0 σ0 φ0 M => ?_
  clear hok
  by_cases h4 : 4096 < (l.length : Int)
  · have hb : decide (4096 < ((l.map encCell).length : Int)) = true := by simpa using h4
    simp only [resF, if_pos h4, arrE]
    repeat' (first | (show OkOps _ _ _ _ _ _; first | refine okops_nil ?_ | refine s_plain tabOk rfl rfl rfl rfl rfl ?_ | (show OkOps _ _ _ (Oper.mk _ (Op.alloc _) _ _ _ (_) :: _) _ _; first | refine s_alloc tabOk 0 rfl rfl rfl rfl rfl ?_ | fail) | refine s_store envOk rfl rfl rfl ?_ | fail) | (show OkC _ _ _ _ _; first | refine ok_seq ?_ | refine ok_region ?_ | refine ok_ret ?_ | refine ok_condKT rfl (by assumption) ?_ | fail) | (show thenQ _ _ _ _; first | refine then_n ?_ | refine then_r ?_ | fail) | (show RetQ _ _ _ _ _ _; first | refine ret_leaf (.inl rfl) rfl rfl ?_ | fail) | fail)
    all_goals rfl
  · have hb : decide (4096 < ((l.map encCell).length : Int)) = false := by simpa using h4
    have hl : l.length ≤ 4096 := by omega
    have hsm := small_of h1 h2 h3 hl
    simp only [resF, if_neg h4, arrE]
    repeat' (first | (show OkOps _ _ _ _ _ _; first | refine okops_nil ?_ | refine s_plain tabOk rfl rfl rfl rfl rfl ?_ | (show OkOps _ _ _ (Oper.mk _ (Op.call _) _ _ _ (_) :: _) _ _; first | refine s_callD 16 rfl rfl rfl rfl rfl rfl rfl rfl (c184 _ hd hl) rfl rfl rfl ?_ | refine s_callD 16 rfl rfl rfl rfl rfl rfl rfl rfl (c22 ⟨ds, ats, sortF l⟩ hsm) rfl rfl rfl ?_ | fail) | (show OkOps _ _ _ (Oper.mk _ (Op.alloc _) _ _ _ (_) :: _) _ _; first | refine s_alloc tabOk 0 rfl rfl rfl rfl rfl ?_ | fail) | refine s_store envOk rfl rfl rfl ?_ | fail) | (show OkC _ _ _ _ _; first | refine ok_seq ?_ | refine ok_region ?_ | refine ok_skip ?_ | refine ok_ret ?_ | refine ok_condKF rfl (by assumption) ?_ | fail) | (show thenQ _ _ _ _; first | refine then_n ?_ | fail) | (show RetQ _ _ _ _ _ _; first | refine ret_leaf (.inl rfl) rfl rfl ?_ | fail) | fail)
    all_goals rfl
end Go.Proofs.YtpejdgkaapnekaaGreat
namespace Go.Proofs.YtpejdgkaapnekaaGreat
open Go Go.Abs
attribute [local irreducible] OkOps OkC DRun thenQ blockQ RetQ
set_option maxRecDepth 10000
def encDig (n : Int) : List D := [.int .u32 n]
def encDigs (l : List Int) : D := .sl 1 4 (l.map encDig)
def digs (z : Int) : List Int := if z = 0 then [] else if z < 1000000000 then [z] else [z % 1000000000, z / 1000000000]
theorem c342 (l : List Int) (i : Nat) (h : ∀ x ∈ l, 0 ≤ x ∧ x < 1000000000) : CallA Tryz.prog 342 [.one (.d (encDigs l)), .one (.d (.int .i64 i))] [] (.one (.d (.int .u64 (at_ l i)))) [] := by
  refine enter tabOk Tryz.func342 rfl (by decide +kernel) rfl fun hok w0 σ0 φ0 M => ?_
  clear hok
  have hb : i < l.length → 0 ≤ at_ l i ∧ at_ l i < 1000000000 := fun hi => h _ (at_mem hi)
  repeat' (first | (show OkOps _ _ _ _ _ _; first | refine okops_nil ?_ | refine s_plain tabOk rfl rfl rfl rfl rfl ?_ | (show OkOps _ _ _ (Oper.mk _ (Op.convert _ _ _) _ _ _ (_) :: _) _ _; first | refine s_val tabOk rfl rfl rfl rfl ?_ | fail) | (show OkOps _ _ _ (Oper.mk _ (Op.indexAddr _ _ _) _ _ _ (_) :: _) _ _; first | refine s_e envOk rfl rfl rfl (step3_idx rfl rfl rfl rfl rfl (by first | omega | ((try simp only [decide_eq_true_eq, decide_eq_false_iff_not, Bool.not_eq_true', Bool.not_true, Bool.not_false, List.length_map, List.length_set, bne_iff_ne, ne_eq, beq_iff_eq, bne_eq_false_iff_eq, beq_eq_false_iff_ne] at *); omega)) (at_map (by first | omega | ((try simp only [decide_eq_true_eq, decide_eq_false_iff_not, Bool.not_eq_true', Bool.not_true, Bool.not_false, List.length_map, List.length_set, bne_iff_ne, ne_eq, beq_iff_eq, bne_eq_false_iff_eq, beq_eq_false_iff_ne] at *); omega)))) ?_ | fail) | fail) | (show OkC _ _ _ _ _; first | refine ok_seq ?_ | refine ok_region ?_ | refine ok_skip ?_ | refine ok_ret ?_ | refine ok_cond rfl (fun h => ?_) (fun h => ?_) | fail) | (show thenQ _ _ _ _; first | refine then_n ?_ | refine then_r ?_ | fail) | (show RetQ _ _ _ _ _ _; first | refine ret_leaf (.inl rfl) rfl rfl ?_ | fail) | fail)
  · have hi : i < l.length := by simpa using h
    have := hb hi
    show AV.one (.d (.int .u64 (IntKind.u64.wrap (at_ l i)))) = _
    rw [wrapu64 (by omega) (by omega)]
  · have hi : l.length ≤ i := by simpa using h
    simp [at_, List.getD_eq_getElem?_getD, hi]
theorem c268 (z : Int) (h0 : 0 ≤ z) (h1 : z < 1000000000000000000) : CallA Tryz.prog 268 [.one (.d (.int .u64 z))] [] (.one (.d (encDigs (digs z)))) [] := by
  refine enter tabOk Tryz.func268 rfl (by decide +kernel) rfl fun hok w0 σ0 φ0 M => ?_
  clear hok
  repeat' (first | (show OkOps _ _ _ _ _ _; first | refine okops_nil ?_ | refine s_plain tabOk rfl rfl rfl rfl rfl ?_ | (show OkOps _ _ _ (Oper.mk _ (Op.binOp .rem _ _ _ _) _ _ _ (_) :: _) _ _; first | refine s_e envOk rfl rfl rfl (step3_remE rfl rfl rfl rfl (by omega) (by omega)) ?_ | fail) | (show OkOps _ _ _ (Oper.mk _ (Op.binOp .quo _ _ _ _) _ _ _ (_) :: _) _ _; first | refine s_e envOk rfl rfl rfl (step3_quoE rfl rfl rfl rfl (by omega) (by omega) (wrapu64 (by omega) (by omega))) ?_ | fail) | (show OkOps _ _ _ (Oper.mk _ (Op.convert _ _ _) _ _ _ (_) :: _) _ _; first | refine s_e envOk rfl rfl rfl (step3_conv rfl rfl rfl rfl (wrapu32 (by omega) (by omega))) ?_ | fail) | refine s_new envOk 0 rfl rfl rfl rfl rfl rfl ?_ | refine s_new envOk 1 rfl rfl rfl rfl rfl rfl ?_ | refine s_new envOk 2 rfl rfl rfl rfl rfl rfl ?_ | refine s_new envOk 3 rfl rfl rfl rfl rfl rfl ?_ | refine s_new envOk 4 rfl rfl rfl rfl rfl rfl ?_ | refine s_new envOk 5 rfl rfl rfl rfl rfl rfl ?_ | fail) | (show OkC _ _ _ _ _; first | refine okc_imp (imp_sealL (dl := [3]) rfl) (ok_ret ?_) | refine okc_imp (imp_sealL (dl := [1]) rfl) (ok_ret ?_) | refine okc_imp (imp_nil (s := 2) (k := 1) (b := 4) rfl) (ok_ret ?_) | refine ok_seq ?_ | refine ok_region ?_ | refine ok_block ?_ | refine ok_skip ?_ | refine ok_exit ?_ | refine ok_cond rfl (fun h => ?_) (fun h => ?_) | refine ok_rounds 2 rfl 3 ?_ | fail) | (show thenQ _ _ _ _; first | refine then_n ?_ | refine then_x ?_ | fail) | (show blockQ _ _ _ _; first | refine block_n ?_ | refine block_x rfl ?_ | fail) | (show RetQ _ _ _ _ _ _; first | refine ret_leaf (.inl rfl) rfl rfl ?_ | fail) | fail)
  all_goals (try simp only [decide_eq_true_eq, decide_eq_false_iff_not] at *)
  · omega
  · have e : digs z = [z % 1000000000, z / 1000000000 % 1000000000] := by
      have : z / 1000000000 % 1000000000 = z / 1000000000 := by omega
      rw [this]; unfold digs; rw [if_neg (by omega), if_neg (by omega)]
    rw [e]; rfl
  · have e : digs z = [z % 1000000000] := by
      have : z % 1000000000 = z := by omega
      rw [this]; unfold digs; rw [if_neg (by omega), if_pos (by omega)]
    rw [e]; rfl
  · have e : digs z = [] := by unfold digs; rw [if_pos (by omega)]
    rw [e]; rfl
end Go.Proofs.YtpejdgkaapnekaaGreat
namespace Go.Proofs.YtpejdgkaapnekaaGreat
open Go Go.Abs
attribute [local irreducible] OkOps OkC DRun thenQ blockQ RetQ
set_option maxRecDepth 10000
theorem digs_mem {z : Int} (h0 : 0 ≤ z) (h1 : z < 1000000000000000000) : ∀ x ∈ digs z, 0 ≤ x ∧ x < 1000000000 := by
  intro x hx
  unfold digs at hx
  split at hx
  · simp at hx
  · split at hx
    · simp at hx; omega
    · simp at hx; omega
theorem digs_at {z : Int} (h0 : 0 ≤ z) (h1 : z < 1000000000000000000) : at_ (digs z) 0 + 1000000000 * at_ (digs z) 1 = z ∧ 0 ≤ at_ (digs z) 0 ∧ at_ (digs z) 0 < 1000000000 ∧ 0 ≤ at_ (digs z) 1 ∧ at_ (digs z) 1 < 1000000000 := by
  unfold digs
  split
  · rename_i h; subst h; exact ⟨rfl, by decide, by decide, by decide, by decide⟩
  · split
    · show z + 1000000000 * 0 = z ∧ 0 ≤ z ∧ z < 1000000000 ∧ (0 : Int) ≤ 0 ∧ (0 : Int) < 1000000000
      omega
    · show z % 1000000000 + 1000000000 * (z / 1000000000) = z ∧ 0 ≤ z % 1000000000 ∧ z % 1000000000 < 1000000000 ∧ 0 ≤ z / 1000000000 ∧ z / 1000000000 < 1000000000
      omega
theorem digs_len {z : Int} : (digs z).length ≤ 2 := by
  unfold digs
  split
  · simp
  · split <;> simp
theorem digs_pos {z : Int} : 0 < (digs z).length ↔ z ≠ 0 := by
  unfold digs
  split
  · simp_all
  · split <;> simp_all
theorem c343 (z : Int) (h0 : 0 ≤ z) (h1 : z < 1000000000000000000) : CallA Tryz.prog 343 [.one (.d (encDigs (digs z)))] [] (.one (.d (.int .u64 z))) [] := by
  refine enter tabOk Tryz.func343 rfl (by decide +kernel) rfl fun hok w0 σ0 φ0 M => ?_
  clear hok
  have hm := digs_mem h0 h1
  obtain ⟨he, ha, hb, hc, hd⟩ := digs_at h0 h1
  repeat' (first | (show OkOps _ _ _ _ _ _; first | refine okops_nil ?_ | refine s_plain tabOk rfl rfl rfl rfl rfl ?_ | (show OkOps _ _ _ (Oper.mk _ (Op.binOp .add _ _ _ _) _ _ _ (_) :: _) _ _; first | refine s_e envOk rfl rfl rfl (step3_add rfl rfl rfl rfl (wrapu64 (by omega) (by omega))) ?_ | fail) | (show OkOps _ _ _ (Oper.mk _ (Op.binOp .mul _ _ _ _) _ _ _ (_) :: _) _ _; first | refine s_e envOk rfl rfl rfl (step3_mul rfl rfl rfl rfl (wrapu64 (by omega) (by omega))) ?_ | fail) | (show OkOps _ _ _ (Oper.mk _ (Op.call _) _ _ _ (_) :: _) _ _; first | refine s_callF rfl rfl rfl rfl rfl rfl rfl rfl (c342 _ 0 hm) rfl ?_ | refine s_callF rfl rfl rfl rfl rfl rfl rfl rfl (c342 _ 1 hm) rfl ?_ | fail) | fail) | (show OkC _ _ _ _ _; first | refine ok_seq ?_ | refine ok_region ?_ | refine ok_ret ?_ | fail) | (show thenQ _ _ _ _; first | refine then_n ?_ | fail) | (show RetQ _ _ _ _ _ _; first | refine ret_leaf (.inl rfl) rfl rfl ?_ | fail) | fail)
  all_goals (rw [he])
theorem wrap_neg {n : Int} (h0 : -1099511627776 ≤ n) (h : n < 0) : IntKind.u64.wrap (0 - IntKind.u64.wrap n) = -n := by
  simp only [IntKind.wrap, IntKind.signed, IntKind.bits, Bool.false_and, Bool.false_eq_true, if_false]
  omega
theorem c267 (n : Int) (h0 : -1099511627776 ≤ n) (h1 : n ≤ 1099511627776) : CallA Tryz.prog 267 [.one (.d (.int .i64 n))] [] (.one (.d (encDigs (digs (max n (-n)))))) [] := by
  refine enter tabOk Tryz.func267 rfl (by decide +kernel) rfl fun hok w0 σ0 φ0 M => ?_
  clear hok
  repeat' (first | (show OkOps _ _ _ _ _ _; first | refine okops_nil ?_ | refine s_plain tabOk rfl rfl rfl rfl rfl ?_ | (show OkOps _ _ _ (Oper.mk _ (Op.binOp .sub _ _ _ _) _ _ _ (_) :: _) _ _; first | refine s_val tabOk rfl rfl rfl rfl ?_ | fail) | (show OkOps _ _ _ (Oper.mk _ (Op.convert _ _ _) _ _ _ (_) :: _) _ _; first | refine s_e envOk rfl rfl rfl (step3_conv rfl rfl rfl rfl (wrapu64 (by first | omega | ((try simp only [decide_eq_true_eq, decide_eq_false_iff_not, Bool.not_eq_true', Bool.not_true, Bool.not_false, List.length_map, List.length_set, bne_iff_ne, ne_eq, beq_iff_eq, bne_eq_false_iff_eq, beq_eq_false_iff_ne] at *); omega)) (by first | omega | ((try simp only [decide_eq_true_eq, decide_eq_false_iff_not, Bool.not_eq_true', Bool.not_true, Bool.not_false, List.length_map, List.length_set, bne_iff_ne, ne_eq, beq_iff_eq, bne_eq_false_iff_eq, beq_eq_false_iff_ne] at *); omega)))) ?_ | refine s_val tabOk rfl rfl rfl rfl ?_ | fail) | fail) | (show OkC _ _ _ _ _; first | refine ok_seq ?_ | refine ok_region ?_ | refine ok_skip ?_ | refine ok_cond rfl (fun h => ?_) (fun h => ?_) | fail) | (show thenQ _ _ _ _; first | refine then_n ?_ | fail) | fail)
  · have hn : n < 0 := by simpa using h
    rw [wrap_neg h0 hn]
    refine s_callD 16 rfl rfl rfl rfl rfl rfl rfl rfl (c268 (-n) (by omega) (by omega)) rfl rfl (rav' := .one (.d (encDigs (digs (-n))))) rfl ?_
    repeat' (first | (show OkOps _ _ _ _ _ _; first | refine okops_nil ?_ | refine s_plain tabOk rfl rfl rfl rfl rfl ?_ | fail) | (show OkC _ _ _ _ _; first | refine ok_ret ?_ | fail) | (show thenQ _ _ _ _; first | refine then_n ?_ | refine then_r ?_ | fail) | (show RetQ _ _ _ _ _ _; first | refine ret_leaf (.inl rfl) rfl rfl ?_ | fail) | fail)
    rw [show max n (-n) = -n by omega]
  · have hn : 0 ≤ n := by simpa using h
    refine s_callD 16 rfl rfl rfl rfl rfl rfl rfl rfl (c268 n (by omega) (by omega)) rfl rfl (rav' := .one (.d (encDigs (digs n)))) rfl ?_
    repeat' (first | (show OkOps _ _ _ _ _ _; first | refine okops_nil ?_ | refine s_plain tabOk rfl rfl rfl rfl rfl ?_ | fail) | (show OkC _ _ _ _ _; first | refine ok_ret ?_ | fail) | (show thenQ _ _ _ _; first | refine then_n ?_ | fail) | (show RetQ _ _ _ _ _ _; first | refine ret_leaf (.inl rfl) rfl rfl ?_ | fail) | fail)
    rw [show max n (-n) = n by omega]
end Go.Proofs.YtpejdgkaapnekaaGreat
namespace Go.Proofs.YtpejdgkaapnekaaGreat
open Go Go.Abs
attribute [local irreducible] OkOps OkC DRun thenQ blockQ RetQ
set_option maxRecDepth 10000
theorem div_range {x y : Int} (hx : 0 ≤ x) (hx1 : x < 1000000000000000000) (hy : 0 < y) : 0 ≤ x / y ∧ x / y < 1000000000000000000 := by
  refine ⟨Int.ediv_nonneg hx (by omega), ?_⟩
  have h1 := Int.ediv_le_self y hx
  omega
theorem mod_range {x y : Int} (hx : 0 ≤ x) (hx1 : x < 1000000000000000000) (hy : 0 < y) : 0 ≤ x % y ∧ x % y < 1000000000000000000 := by
  refine ⟨Int.emod_nonneg x (by omega), ?_⟩
  have := emod_le_self hx hy
  omega
theorem c287 (x y : Int) (hx : 0 ≤ x) (hx1 : x < 1000000000000000000) (hy : 0 < y) (hy1 : y < 1000000000000000000) : CallA Tryz.prog 287 [.one (.d (encDigs (digs x))), .one (.d (encDigs (digs y)))] [] (.tup [(false, [.d (encDigs (digs (x / y)))]), (false, [.d (encDigs (digs (x % y)))])]) [] := by
  refine enter tabOk Tryz.func287 rfl (by decide +kernel) rfl fun hok w0 σ0 φ0 M => ?_
  clear hok
  have hl1 := digs_len (z := x); have hl2 := digs_len (z := y)
  have hd := div_range hx hx1 hy; have hm := mod_range hx hx1 hy
  repeat' (first | (show OkOps _ _ _ _ _ _; first | refine okops_nil ?_ | refine s_plain tabOk rfl rfl rfl rfl rfl ?_ | (show OkOps _ _ _ (Oper.mk _ (_) _ _ _ (some _) :: _) _ _; first | refine s_guard rfl rfl (by first | assumption | rfl) ?_ | refine s_out rfl rfl (by first | assumption | rfl) rfl rfl ?_ | refine s_split rfl rfl rfl rfl (fun h => ?_) (fun h => ?_) | fail) | (show OkOps _ _ _ (Oper.mk _ (Op.binOp .rem _ _ _ _) _ _ _ (_) :: _) _ _; first | refine s_e envOk rfl rfl rfl (step3_remE rfl rfl rfl rfl (by omega) (by omega)) ?_ | fail) | (show OkOps _ _ _ (Oper.mk _ (Op.binOp .quo _ _ _ _) _ _ _ (_) :: _) _ _; first | refine s_e envOk rfl rfl rfl (step3_quoE rfl rfl rfl rfl (by omega) (by omega) (wrapu64 (by omega) (by omega))) ?_ | fail) | (show OkOps _ _ _ (Oper.mk _ (Op.pick _ _ _) _ _ _ (_) :: _) _ _; first | refine s_e envOk rfl rfl rfl (step3_pickT rfl rfl (by first | rfl | assumption) rfl) ?_ | refine s_e envOk rfl rfl rfl (step3_pickF rfl rfl (by first | rfl | assumption) rfl) ?_ | fail) | (show OkOps _ _ _ (Oper.mk _ (Op.call _) _ _ _ (_) :: _) _ _; first | refine s_callF rfl rfl rfl rfl rfl rfl rfl rfl (c343 x (by omega) (by omega)) rfl ?_ | refine s_callF rfl rfl rfl rfl rfl rfl rfl rfl (c343 y (by omega) (by omega)) rfl ?_ | refine s_callD 16 rfl rfl rfl rfl rfl rfl rfl rfl (c268 (x / y) (by omega) (by omega)) rfl rfl rfl ?_ | refine s_callD 16 rfl rfl rfl rfl rfl rfl rfl rfl (c268 (x % y) (by omega) (by omega)) rfl rfl rfl ?_ | fail) | fail) | (show OkC _ _ _ _ _; first | refine ok_seq ?_ | refine ok_region ?_ | refine ok_skip ?_ | refine ok_ret ?_ | refine ok_condF rfl ?_ | refine ok_cond rfl (fun h => ?_) (fun h => ?_) | fail) | (show thenQ _ _ _ _; first | refine then_n ?_ | refine then_r ?_ | fail) | (show RetQ _ _ _ _ _ _; first | refine ret_leaf (.inl rfl) rfl rfl ?_ | fail) | fail)
  · rfl
  · exfalso; simp at h; omega
  · exfalso; simp at h; omega
theorem digs_zero {z : Int} : (digs z).length = 0 ↔ z = 0 := by
  have := digs_pos (z := z)
  omega
theorem c266 (x y : Int) (hx : 0 ≤ x) (hx1 : x < 1000000000000000000) (hy : 0 ≤ y) (hy1 : y < 1000000000000000000) : CallA Tryz.prog 266 [.one (.d (encDigs (digs x))), .one (.d (encDigs (digs y)))] [] (.one (.d (encDigs (digs (Int.gcd x y))))) [] := by
  refine enter tabOk Tryz.func266 rfl (by decide +kernel) rfl fun hok w0 σ0 φ0 M => ?_
  clear hok
  repeat' (first | (show OkOps _ _ _ _ _ _; first | refine okops_nil ?_ | refine s_plain tabOk rfl rfl rfl rfl rfl ?_ | (show OkOps _ _ _ (Oper.mk _ (Op.call _) _ _ _ (_) :: _) _ _; first | refine s_callD 16 rfl rfl rfl rfl rfl rfl rfl rfl (c287 p.1 p.2 (by first | omega | ((try simp only [decide_eq_true_eq, decide_eq_false_iff_not, Bool.not_eq_true', Bool.not_true, Bool.not_false, List.length_map, List.length_set, bne_iff_ne, ne_eq, beq_iff_eq, bne_eq_false_iff_eq, beq_eq_false_iff_ne] at *); omega)) (by first | omega | ((try simp only [decide_eq_true_eq, decide_eq_false_iff_not, Bool.not_eq_true', Bool.not_true, Bool.not_false, List.length_map, List.length_set, bne_iff_ne, ne_eq, beq_iff_eq, bne_eq_false_iff_eq, beq_eq_false_iff_ne] at *); omega)) (by first | omega | ((try simp only [decide_eq_true_eq, decide_eq_false_iff_not, Bool.not_eq_true', Bool.not_true, Bool.not_false, List.length_map, List.length_set, bne_iff_ne, ne_eq, beq_iff_eq, bne_eq_false_iff_eq, beq_eq_false_iff_ne] at *); omega)) (by first | omega | ((try simp only [decide_eq_true_eq, decide_eq_false_iff_not, Bool.not_eq_true', Bool.not_true, Bool.not_false, List.length_map, List.length_set, bne_iff_ne, ne_eq, beq_iff_eq, bne_eq_false_iff_eq, beq_eq_false_iff_ne] at *); omega))) rfl rfl rfl ?_ | fail) | fail) | (show OkC _ _ _ _ _; first | refine ok_seq ?_ | refine ok_region ?_ | refine ok_block ?_ | refine ok_skip ?_ | refine ok_ret ?_ | refine ok_exit ?_ | refine ok_cond rfl (fun h => ?_) (fun h => ?_) | refine s_loop 1 rfl [] subL_nil (fun (p : Int × Int) => [(0, .one (.d (encDigs (digs p.1)))), (1, .one (.d (encDigs (digs p.2))))]) (fun (p : Int × Int) => (0 ≤ p.1 ∧ p.1 < 1000000000000000000) ∧ (0 ≤ p.2 ∧ p.2 < 1000000000000000000) ∧ ((digs p.2).length = 0 ↔ p.2 = 0) ∧ Int.gcd p.1 p.2 = Int.gcd x y) (fun (p : Int × Int) => p.2.toNat) (x, y) (subL_cons rfl (subL_cons rfl subL_nil)) ?_ (fun p ⟨h1, h2, h3, h4⟩ => ?_) | fail) | (show thenQ _ _ _ _; first | refine then_n ?_ | refine then_x ?_ | fail) | (show blockQ _ _ _ _; first | refine block_n ?_ | refine block_x rfl ?_ | fail) | (show RetQ _ _ _ _ _ _; first | refine ret_leaf (.inl rfl) rfl rfl ?_ | fail) | (show Exists _; first | refine Exists.intro ((p.2, p.1 % p.2)) ⟨?_, ?_, (by first | exact subL_nil | exact (subL_cons rfl subL_nil) | exact (subL_cons rfl (subL_cons rfl subL_nil)) | exact (subL_cons rfl (subL_cons rfl (subL_cons rfl subL_nil))) | exact (subL_cons rfl (subL_cons rfl (subL_cons rfl (subL_cons rfl subL_nil)))) | exact (subL_cons rfl (subL_cons rfl (subL_cons rfl (subL_cons rfl (subL_cons rfl subL_nil))))) | exact (subL_cons rfl (subL_cons rfl (subL_cons rfl (subL_cons rfl (subL_cons rfl (subL_cons rfl subL_nil)))))) | exact (subL_cons rfl (subL_cons rfl (subL_cons rfl (subL_cons rfl (subL_cons rfl (subL_cons rfl (subL_cons rfl subL_nil))))))) | exact (subL_cons rfl (subL_cons rfl (subL_cons rfl (subL_cons rfl (subL_cons rfl (subL_cons rfl (subL_cons rfl (subL_cons rfl subL_nil))))))))), (subL_cons rfl (subL_cons rfl subL_nil)), subL_nil⟩ | fail) | fail)
  · exact ⟨⟨hx, hx1⟩, ⟨hy, hy1⟩, digs_zero, rfl⟩
  · have hp : p.2 ≠ 0 := by
      intro e
      have := h3.2 e
      simp [this] at h
    refine ⟨h2, mod_range h1.1 h1.2 (by omega), digs_zero, ?_⟩
    show Int.gcd p.2 (p.1 % p.2) = _
    rw [← h4]
    obtain ⟨a, ha⟩ := Int.eq_ofNat_of_zero_le h1.1
    obtain ⟨b, hb⟩ := Int.eq_ofNat_of_zero_le h2.1
    rw [ha, hb]
    show Nat.gcd b (a % b) = Nat.gcd a b
    rw [Nat.gcd_comm, ← Nat.gcd_rec, Nat.gcd_comm]
  · have hp : p.2 ≠ 0 := by
      intro e
      have := h3.2 e
      simp [this] at h
    have h5 := Int.emod_lt_of_pos p.1 (show 0 < p.2 by omega)
    have h6 := Int.emod_nonneg p.1 hp
    show (p.1 % p.2).toNat < p.2.toNat
    omega
  · have hp : p.2 = 0 := h3.1 (by simpa using h)
    rw [hp] at h4
    have : ((Int.gcd p.1 0 : Nat) : Int) = p.1 := by
      rw [Int.gcd_zero_right]; omega
    rw [← h4, this]
end Go.Proofs.YtpejdgkaapnekaaGreat
namespace Go.Proofs.YtpejdgkaapnekaaGreat
open Go Go.Abs
attribute [local irreducible] OkOps OkC DRun thenQ blockQ RetQ
set_option maxRecDepth 10000
def cmp1 (l : List Int) : Int := if (l.length : Int) < 1 then -1 else if 1 < (l.length : Int) then 1 else if at_ l 0 < 1 then -1 else if 1 < at_ l 0 then 1 else 0
theorem c265 (l : List Int) : CallA Tryz.prog 265 [.one (.d (encDigs l)), .one (.d (encDigs [1]))] [] (.one (.d (.int .i64 (cmp1 l)))) [] := by
  refine enter tabOk Tryz.func265 rfl (by decide +kernel) rfl fun hok w0 σ0 φ0 M => ?_
  have h1 := hok.1.sl.1; clear hok; simp only [List.length_map] at h1
  repeat' (first | (show OkOps _ _ _ _ _ _; first | refine okops_nil ?_ | refine s_plain tabOk rfl rfl rfl rfl rfl ?_ | (show OkOps _ _ _ (Oper.mk _ (Op.binOp .sub _ _ _ _) _ _ _ (_) :: _) _ _; first | refine s_e envOk rfl rfl rfl (step3_sub rfl rfl rfl rfl (wrap64 (by first | omega | ((try simp only [decide_eq_true_eq, decide_eq_false_iff_not, Bool.not_eq_true', Bool.not_true, Bool.not_false, List.length_map, List.length_set, bne_iff_ne, ne_eq, beq_iff_eq, bne_eq_false_iff_eq, beq_eq_false_iff_ne] at *); omega)) (by first | omega | ((try simp only [decide_eq_true_eq, decide_eq_false_iff_not, Bool.not_eq_true', Bool.not_true, Bool.not_false, List.length_map, List.length_set, bne_iff_ne, ne_eq, beq_iff_eq, bne_eq_false_iff_eq, beq_eq_false_iff_ne] at *); omega)))) ?_ | fail) | fail) | (show OkC _ _ _ _ _; first | refine ok_seq ?_ | refine ok_region ?_ | refine ok_block ?_ | refine ok_skip ?_ | refine ok_ret ?_ | refine ok_exit ?_ | refine ok_cond rfl (fun h => ?_) (fun h => ?_) | refine ok_regionD progOk.mo ?_ | refine ok_rounds 6 rfl 3 ?_ | fail) | (show thenQ _ _ _ _; first | refine then_n ?_ | refine then_r ?_ | refine then_x ?_ | fail) | (show blockQ _ _ _ _; first | refine block_n ?_ | refine block_r ?_ | refine block_x rfl ?_ | fail) | (show RetQ _ _ _ _ _ _; first | refine ret_leaf (.inl rfl) rfl rfl ?_ | fail) | (show DRun _ _ _ _ _ _ _ _; first | refine d_nil (by kernel_rfl) ?_ | refine d_e envOk rfl rfl rfl (step3_plain rfl rfl) ?_ | (show DRun _ _ _ _ (Oper.mk _ (Op.indexAddr _ _ _) _ _ _ (_) :: _) _ _ _; first | refine d_e envOk rfl rfl rfl (step3_idx rfl rfl rfl rfl rfl (by first | omega | ((try simp only [decide_eq_true_eq, decide_eq_false_iff_not, Bool.not_eq_true', Bool.not_true, Bool.not_false, List.length_map, List.length_set, bne_iff_ne, ne_eq, beq_iff_eq, bne_eq_false_iff_eq, beq_eq_false_iff_ne] at *); omega)) (at_map (by first | omega | ((try simp only [decide_eq_true_eq, decide_eq_false_iff_not, Bool.not_eq_true', Bool.not_true, Bool.not_false, List.length_map, List.length_set, bne_iff_ne, ne_eq, beq_iff_eq, bne_eq_false_iff_eq, beq_eq_false_iff_ne] at *); omega)))) ?_ | fail) | fail) | fail)
  all_goals (try (((simp_all [cmp1, at_drop, List.drop_eq_nil_of_le]) <;> first | omega | (rw [Bool.eq_iff_iff]; simp; omega) | grind); done))
  all_goals (try simp only [decide_eq_true_eq, decide_eq_false_iff_not, bne_eq_false_iff_eq, List.length_map, List.length_cons, List.length_nil] at *)
  all_goals (have hl : l.length = 1 := by omega)
  all_goals (obtain ⟨a, rfl⟩ := List.length_eq_one_iff.1 hl)
  all_goals (simp [cmp1, at_] at *; try omega)
end Go.Proofs.YtpejdgkaapnekaaGreat
namespace Go.Proofs.YtpejdgkaapnekaaGreat
open Go Go.Abs
attribute [local irreducible] OkOps OkC DRun thenQ blockQ RetQ
set_option maxRecDepth 10000
theorem cmp1_iff {g : Int} (h0 : 0 ≤ g) : (cmp1 (digs g) == 0) = (g == 1) := by
  unfold digs
  split
  · rename_i h; subst h; rfl
  · split
    · rename_i h1 h2
      simp [cmp1, at_]
      rw [Bool.eq_iff_iff]; simp
      split <;> (try split) <;> omega
    · rename_i h1 h2
      have : (g == 1) = false := by simp; omega
      rw [this]; simp [cmp1]
theorem gcd_eq {n d : Int} (hd : 1 ≤ d) : Int.gcd (max n (-n)) (max d (-d)) = Nat.gcd n.natAbs d.toNat := by
  unfold Int.gcd
  congr 1 <;> omega
theorem c268one : CallA Tryz.prog 268 [.one (.d (.int .u64 1))] [] (.one (.d (encDigs [1]))) [] := c268 1 (by omega) (by omega)
theorem c227 (k' n d : Int) (s : List UInt8) : CallA Tryz.prog 227 [.agg [.d (.int .i64 k'), .d (.int .i64 n), .d (.int .i64 d), .d (.str s)]] [] (.one (.d (.int .i64 (if rightF k' n d s then 0 else 2)))) [] := by
  refine enter tabOk Tryz.func227 rfl (by decide +kernel) rfl fun hok w0 σ0 φ0 M => ?_
  have hl := (hok.1 (.d (.str s)) (by simp)); replace hl := OkD.str hl; clear hok
  repeat' (first | (show OkOps _ _ _ _ _ _; first | refine okops_nil ?_ | refine s_plain tabOk rfl rfl rfl rfl rfl ?_ | (show OkOps _ _ _ (Oper.mk _ (_) _ _ _ (some _) :: _) _ _; first | refine s_guard rfl rfl (by first | assumption | rfl) ?_ | refine s_out rfl rfl (by first | assumption | rfl) rfl rfl ?_ | refine s_split rfl rfl rfl rfl (fun h => ?_) (fun h => ?_) | fail) | (show OkOps _ _ _ (Oper.mk _ (Op.binOp .add _ _ _ _) _ _ _ (_) :: _) _ _; first | refine s_e envOk rfl rfl rfl (step3_add rfl rfl rfl rfl (wrap64 (by omega) (by omega))) ?_ | fail) | (show OkOps _ _ _ (Oper.mk _ (Op.pick _ _ _) _ _ _ (_) :: _) _ _; first | refine s_e envOk rfl rfl rfl (step3_pickT rfl rfl (by first | rfl | assumption) rfl) ?_ | refine s_e envOk rfl rfl rfl (step3_pickF rfl rfl (by first | rfl | assumption) rfl) ?_ | fail) | (show OkOps _ _ _ (Oper.mk _ (Op.index _ _ _) _ _ _ (_) :: _) _ _; first | refine s_e envOk rfl rfl rfl (step3_idxStr rfl rfl rfl rfl (by first | omega | ((try simp only [decide_eq_true_eq, decide_eq_false_iff_not, Bool.not_eq_true', Bool.not_true, Bool.not_false, List.length_map, List.length_set, bne_iff_ne, ne_eq, beq_iff_eq, bne_eq_false_iff_eq, beq_eq_false_iff_ne] at *); omega)) (at_get (by first | omega | ((try simp only [decide_eq_true_eq, decide_eq_false_iff_not, Bool.not_eq_true', Bool.not_true, Bool.not_false, List.length_map, List.length_set, bne_iff_ne, ne_eq, beq_iff_eq, bne_eq_false_iff_eq, beq_eq_false_iff_ne] at *); omega)))) ?_ | fail) | (show OkOps _ _ _ (Oper.mk _ (Op.box _ _) _ _ _ (_) :: _) _ _; first | refine s_box 0 rfl rfl rfl rfl rfl rfl ?_ | fail) | fail) | (show OkC _ _ _ _ _; first | refine ok_seq ?_ | refine ok_region ?_ | refine ok_block ?_ | refine ok_skip ?_ | refine ok_ret ?_ | refine ok_exit ?_ | refine ok_condF rfl ?_ | refine ok_cond rfl (fun h => ?_) (fun h => ?_) | refine ok_regionD progOk.mo ?_ | refine s_loop 12 rfl [(1, _)] (subL_cons rfl subL_nil) (fun (p : Nat × Bool) => [(4, .one (.d (.int .i64 (p.1 : Int)))), (3, .one (.d (.bool p.2)))]) (fun (p : Nat × Bool) => p.1 ≤ s.length ∧ p.2 = ((n == 0 && (d == 0 && decide ((s.length : Int) ≤ 16))) && (s.take p.1).all okByte)) (fun (p : Nat × Bool) => s.length - p.1) (0, _) (subL_cons rfl (subL_cons rfl subL_nil)) ?_ (fun p ⟨hk, hp⟩ => ?_) | fail) | (show thenQ _ _ _ _; first | refine then_n ?_ | refine then_r ?_ | refine then_x ?_ | fail) | (show blockQ _ _ _ _; first | refine block_n ?_ | refine block_x rfl ?_ | fail) | (show RetQ _ _ _ _ _ _; first | refine ret_leaf (.inl rfl) rfl rfl ?_ | fail) | (show DRun _ _ _ _ _ _ _ _; first | refine d_nil (by kernel_rfl) ?_ | refine d_e envOk rfl rfl rfl (step3_plain rfl rfl) ?_ | (show DRun _ _ _ _ (Oper.mk _ (_) _ _ _ (some _) :: _) _ _ _; first | refine d_strip rfl rfl (by first | assumption | rfl) ?_ | refine d_out rfl rfl (by first | assumption | rfl) rfl rfl ?_ | refine d_split rfl rfl (fun h => ?_) (fun h => ?_) | fail) | (show DRun _ _ _ _ (Oper.mk _ (Op.pick _ _ _) _ _ _ (_) :: _) _ _ _; first | refine d_e envOk rfl rfl rfl (step3_pickT rfl rfl (by first | rfl | assumption) rfl) ?_ | refine d_e envOk rfl rfl rfl (step3_pickF rfl rfl (by first | rfl | assumption) rfl) ?_ | fail) | (show DRun _ _ _ _ (Oper.mk _ (Op.call _) _ _ _ (_) :: _) _ _ _; first | refine d_l rfl rfl (loc_callF' rfl rfl rfl rfl rfl rfl (c265 _) rfl) ?_ | refine d_callD 16 rfl rfl rfl rfl rfl rfl rfl rfl (c267 _ (by first | omega | ((try simp only [decide_eq_true_eq, decide_eq_false_iff_not, Bool.not_eq_true', Bool.not_true, Bool.not_false, List.length_map, List.length_set, bne_iff_ne, ne_eq, beq_iff_eq, bne_eq_false_iff_eq, beq_eq_false_iff_ne] at *); omega)) (by first | omega | ((try simp only [decide_eq_true_eq, decide_eq_false_iff_not, Bool.not_eq_true', Bool.not_true, Bool.not_false, List.length_map, List.length_set, bne_iff_ne, ne_eq, beq_iff_eq, bne_eq_false_iff_eq, beq_eq_false_iff_ne] at *); omega))) rfl rfl ?_ | refine d_callD 16 rfl rfl rfl rfl rfl rfl rfl rfl (c266 _ _ (by first | omega | ((try simp only [decide_eq_true_eq, decide_eq_false_iff_not, Bool.not_eq_true', Bool.not_true, Bool.not_false, List.length_map, List.length_set, bne_iff_ne, ne_eq, beq_iff_eq, bne_eq_false_iff_eq, beq_eq_false_iff_ne] at *); omega)) (by first | omega | ((try simp only [decide_eq_true_eq, decide_eq_false_iff_not, Bool.not_eq_true', Bool.not_true, Bool.not_false, List.length_map, List.length_set, bne_iff_ne, ne_eq, beq_iff_eq, bne_eq_false_iff_eq, beq_eq_false_iff_ne] at *); omega)) (by first | omega | ((try simp only [decide_eq_true_eq, decide_eq_false_iff_not, Bool.not_eq_true', Bool.not_true, Bool.not_false, List.length_map, List.length_set, bne_iff_ne, ne_eq, beq_iff_eq, bne_eq_false_iff_eq, beq_eq_false_iff_ne] at *); omega)) (by first | omega | ((try simp only [decide_eq_true_eq, decide_eq_false_iff_not, Bool.not_eq_true', Bool.not_true, Bool.not_false, List.length_map, List.length_set, bne_iff_ne, ne_eq, beq_iff_eq, bne_eq_false_iff_eq, beq_eq_false_iff_ne] at *); omega))) rfl rfl ?_ | refine d_callD 16 rfl rfl rfl rfl rfl rfl rfl rfl (c268one) rfl rfl ?_ | fail) | fail) | (show Exists _; first | refine Exists.intro ((p.1 + 1, _)) ⟨?_, ?_, (by first | exact subL_nil | exact (subL_cons rfl subL_nil) | exact (subL_cons rfl (subL_cons rfl subL_nil)) | exact (subL_cons rfl (subL_cons rfl (subL_cons rfl subL_nil))) | exact (subL_cons rfl (subL_cons rfl (subL_cons rfl (subL_cons rfl subL_nil)))) | exact (subL_cons rfl (subL_cons rfl (subL_cons rfl (subL_cons rfl (subL_cons rfl subL_nil))))) | exact (subL_cons rfl (subL_cons rfl (subL_cons rfl (subL_cons rfl (subL_cons rfl (subL_cons rfl subL_nil)))))) | exact (subL_cons rfl (subL_cons rfl (subL_cons rfl (subL_cons rfl (subL_cons rfl (subL_cons rfl (subL_cons rfl subL_nil))))))) | exact (subL_cons rfl (subL_cons rfl (subL_cons rfl (subL_cons rfl (subL_cons rfl (subL_cons rfl (subL_cons rfl (subL_cons rfl subL_nil))))))))), (subL_cons rfl (subL_cons rfl subL_nil)), (subL_cons rfl subL_nil)⟩ | fail) | fail)
  all_goals (try (((simp_all [rightF, plainF, at_take, okByte, at_drop, List.drop_eq_nil_of_le]) <;> first | omega | (rw [Bool.eq_iff_iff]; simp; omega) | grind); done))
  · rename_i a1 a2 a3 a4 a5 a6 a7 a8
    rw [gcd_eq (by simpa using a4), cmp1_iff (by omega)] at h
    simp_all [rightF]
  · rename_i a1 a2 a3 a4 a5 a6 a7 a8
    rw [gcd_eq (by simpa using a4), cmp1_iff (by omega)] at h
    simp_all [rightF]
  · refine ⟨Nat.zero_le _, ?_⟩
    change decide ((s.length : Int) ≤ 16) = _
    simp_all
  · rename_i a1 a2 a3 a4 a5 a6 a7 a8
    have hk' : p.1 < s.length := by simpa using a7
    refine ⟨by show p.1 + 1 ≤ _; omega, ?_⟩
    change decide (((at_ s p.1).toNat : Int) ≤ 126) = (n == 0 && (d == 0 && decide ((s.length : Int) ≤ 16)) && (List.take (p.1 + 1) s).all okByte)
    rw [at_take hk', List.all_append, ← Bool.and_assoc, ← hp, a8]
    have h2 : (32 : Int) ≤ ((at_ s p.1).toNat : Int) := by simpa using h
    have h' : 32 ≤ (at_ s p.1).toNat := by omega
    simp [okByte, h']
    try omega
end Go.Proofs.YtpejdgkaapnekaaGreat
namespace Go.Proofs.YtpejdgkaapnekaaGreat
open Go Go.Abs
attribute [local irreducible] OkOps OkC DRun thenQ blockQ RetQ
set_option maxRecDepth 10000
theorem c199 (k n d : Int) (s : List UInt8) (t : Int) : CallA Tryz.prog 199 [.agg [.d (.int .i64 k), .d (.int .i64 n), .d (.int .i64 d), .d (.str s)], .one (.d (.int .i64 t))] [] (.one (.d (.bool (fitsF k n d s t)))) [] := by
  refine enter tabOk Tryz.func199 rfl (by decide +kernel) rfl fun hok w0 σ0 φ0 M => ?_
  clear hok
  repeat' (first | (show OkOps _ _ _ _ _ _; first | refine okops_nil ?_ | refine s_plain tabOk rfl rfl rfl rfl rfl ?_ | (show OkOps _ _ _ (Oper.mk _ (_) _ _ _ (some _) :: _) _ _; first | refine s_guard rfl rfl (by first | assumption | rfl) ?_ | refine s_out rfl rfl (by first | assumption | rfl) rfl rfl ?_ | refine s_outN rfl rfl rfl rfl ?_ | refine s_split rfl rfl rfl rfl (fun h => ?_) (fun h => ?_) | fail) | (show OkOps _ _ _ (Oper.mk _ (Op.pick _ _ _) _ _ _ (_) :: _) _ _; first | refine s_e envOk rfl rfl rfl (step3_pickT rfl rfl (by first | rfl | assumption) rfl) ?_ | refine s_e envOk rfl rfl rfl (step3_pickF rfl rfl (by first | rfl | assumption) rfl) ?_ | fail) | (show OkOps _ _ _ (Oper.mk _ (Op.call _) _ _ _ (_) :: _) _ _; first | refine s_callF rfl rfl rfl rfl rfl rfl rfl rfl (c227 _ _ _ _) rfl ?_ | fail) | (show OkOps _ _ _ (Oper.mk _ (Op.box _ _) _ _ _ (_) :: _) _ _; first | refine s_box 0 rfl rfl rfl rfl rfl rfl ?_ | fail) | fail) | (show OkC _ _ _ _ _; first | refine ok_seq ?_ | refine ok_region ?_ | refine ok_block ?_ | refine ok_skip ?_ | refine ok_ret ?_ | refine ok_condT rfl ?_ | refine ok_cond rfl (fun h => ?_) (fun h => ?_) | fail) | (show thenQ _ _ _ _; first | refine then_n ?_ | refine then_r ?_ | fail) | (show blockQ _ _ _ _; first | refine block_n ?_ | refine block_r ?_ | fail) | (show RetQ _ _ _ _ _ _; first | refine ret_leaf (.inl rfl) rfl rfl ?_ | fail) | fail)
  all_goals (try (((simp_all [fitsF, at_drop, List.drop_eq_nil_of_le]) <;> first | omega | (rw [Bool.eq_iff_iff]; simp; omega) | grind); done))
  all_goals (by_cases hk : k = 3 <;> simp_all [fitsF, rightF])
end Go.Proofs.YtpejdgkaapnekaaGreat
namespace Go.Proofs.YtpejdgkaapnekaaGreat
open Go Go.Abs
attribute [local irreducible] OkOps OkC DRun thenQ blockQ RetQ
set_option maxRecDepth 10000
theorem c131 (ds : List Dim) (ats : List Attr) (at' : List Int) (vs : List Val) : CallA Tryz.prog 131 [.one (.d (encDims ds)), .one (.d (encAttrs ats)), .agg [.d (encInts at'), .d (encVals vs)]] [] (.one (.d (.int .i64 (cellF ds ats at' vs)))) [] := by
  refine enter tabOk Tryz.func131 rfl (by decide +kernel) rfl fun hok w0 σ0 φ0 M => ?_
  have h1 := hok.1.sl.1; have h2 := hok.2.1.sl.1; have h3 := OkD.sl (hok.2.2.1 (.d (encInts at')) (by simp)); have h4 := OkD.sl (hok.2.2.1 (.d (encVals vs)) (by simp)); clear hok
  replace h3 := h3.1; replace h4 := h4.1; simp only [List.length_map] at h1 h2 h3 h4
  repeat' (first | (show OkOps _ _ _ _ _ _; first | refine okops_nil ?_ | refine s_plain tabOk rfl rfl rfl rfl rfl ?_ | (show OkOps _ _ _ (Oper.mk _ (_) _ _ _ (some _) :: _) _ _; first | refine s_guard rfl rfl (by first | assumption | rfl) ?_ | refine s_out rfl rfl (by first | assumption | rfl) rfl rfl ?_ | refine s_split rfl rfl rfl rfl (fun h => ?_) (fun h => ?_) | fail) | (show OkOps _ _ _ (Oper.mk _ (Op.binOp .add _ _ _ _) _ _ _ (_) :: _) _ _; first | refine s_e envOk rfl rfl rfl (step3_add rfl rfl rfl rfl (wrap64 (by omega) (by omega))) ?_ | fail) | (show OkOps _ _ _ (Oper.mk _ (Op.pick _ _ _) _ _ _ (_) :: _) _ _; first | refine s_e envOk rfl rfl rfl (step3_pickT rfl rfl (by first | rfl | assumption) rfl) ?_ | refine s_e envOk rfl rfl rfl (step3_pickF rfl rfl (by first | rfl | assumption) rfl) ?_ | fail) | (show OkOps _ _ _ (Oper.mk _ (Op.call _) _ _ _ (_) :: _) _ _; first | refine s_callF rfl rfl rfl rfl rfl rfl rfl rfl (c100 _ _) rfl ?_ | fail) | (show OkOps _ _ _ (Oper.mk _ (Op.box _ _) _ _ _ (_) :: _) _ _; first | refine s_box 0 rfl rfl rfl rfl rfl rfl ?_ | fail) | fail) | (show OkC _ _ _ _ _; first | refine ok_seq ?_ | refine ok_region ?_ | refine ok_block ?_ | refine ok_skip ?_ | refine ok_ret ?_ | refine ok_exit ?_ | refine ok_condT rfl ?_ | refine ok_cond rfl (fun h => ?_) (fun h => ?_) | refine ok_regionD progOk.mo ?_ | refine s_loop 6 rfl [(1, _), (5, _)] (subL_cons rfl (subL_cons rfl subL_nil)) (fun (k : Nat) => [(7, .one (.d (.int .i64 k)))]) (fun (k : Nat) => k ≤ ats.length ∧ at'.length = ds.length ∧ vs.length = ats.length ∧ ofF ds at' = true ∧ cellF ds ats at' vs = valsGo (ats.drop k) (vs.drop k)) (fun (k : Nat) => ats.length - k) 0 (subL_cons rfl subL_nil) ?_ (fun k ⟨hk, hq, hq2, hof, hs⟩ => ?_) | fail) | (show thenQ _ _ _ _; first | refine then_n ?_ | refine then_r ?_ | refine then_x ?_ | fail) | (show blockQ _ _ _ _; first | refine block_n ?_ | refine block_r ?_ | refine block_x rfl ?_ | fail) | (show RetQ _ _ _ _ _ _; first | refine ret_leaf (.inl rfl) rfl rfl ?_ | fail) | (show DRun _ _ _ _ _ _ _ _; first | refine d_nil (by kernel_rfl) ?_ | refine d_e envOk rfl rfl rfl (step3_plain rfl rfl) ?_ | (show DRun _ _ _ _ (Oper.mk _ (Op.indexAddr _ _ _) _ _ _ (_) :: _) _ _ _; first | refine d_e envOk rfl rfl rfl (step3_idx rfl rfl rfl rfl rfl (by first | omega | ((try simp only [decide_eq_true_eq, decide_eq_false_iff_not, Bool.not_eq_true', Bool.not_true, Bool.not_false, List.length_map, List.length_set, bne_iff_ne, ne_eq, beq_iff_eq, bne_eq_false_iff_eq, beq_eq_false_iff_ne] at *); omega)) (at_map (by first | omega | ((try simp only [decide_eq_true_eq, decide_eq_false_iff_not, Bool.not_eq_true', Bool.not_true, Bool.not_false, List.length_map, List.length_set, bne_iff_ne, ne_eq, beq_iff_eq, bne_eq_false_iff_eq, beq_eq_false_iff_ne] at *); omega)))) ?_ | fail) | (show DRun _ _ _ _ (Oper.mk _ (Op.call _) _ _ _ (_) :: _) _ _ _; first | refine d_l rfl rfl (loc_callF' rfl rfl rfl rfl rfl rfl (c199 _ _ _ _ _) rfl) ?_ | fail) | fail) | (show Exists _; first | refine Exists.intro (k + 1) ⟨?_, ?_, (by first | exact subL_nil | exact (subL_cons rfl subL_nil) | exact (subL_cons rfl (subL_cons rfl subL_nil)) | exact (subL_cons rfl (subL_cons rfl (subL_cons rfl subL_nil))) | exact (subL_cons rfl (subL_cons rfl (subL_cons rfl (subL_cons rfl subL_nil)))) | exact (subL_cons rfl (subL_cons rfl (subL_cons rfl (subL_cons rfl (subL_cons rfl subL_nil))))) | exact (subL_cons rfl (subL_cons rfl (subL_cons rfl (subL_cons rfl (subL_cons rfl (subL_cons rfl subL_nil)))))) | exact (subL_cons rfl (subL_cons rfl (subL_cons rfl (subL_cons rfl (subL_cons rfl (subL_cons rfl (subL_cons rfl subL_nil))))))) | exact (subL_cons rfl (subL_cons rfl (subL_cons rfl (subL_cons rfl (subL_cons rfl (subL_cons rfl (subL_cons rfl (subL_cons rfl subL_nil))))))))), (subL_cons rfl subL_nil), (subL_cons rfl (subL_cons rfl subL_nil))⟩ | fail) | fail)
  all_goals (try (((simp_all [cellF, valsGo, at_drop, List.drop_eq_nil_of_le]) <;> first | omega | (rw [Bool.eq_iff_iff]; simp; omega) | grind); done))
end Go.Proofs.YtpejdgkaapnekaaGreat
namespace Go.Proofs.YtpejdgkaapnekaaGreat
open Go Go.Abs
attribute [local irreducible] OkOps OkC DRun thenQ blockQ RetQ
set_option maxRecDepth 10000
theorem c89 (ds : List Dim) (ats : List Attr) (cs : List Cell) : CallA Tryz.prog 89 [.agg [.d (encDims ds), .d (encAttrs ats), .d (encCells cs)]] [] (.one (.d (.int .i64 (checkF ds ats cs)))) [] := by
  refine enter tabOk Tryz.func89 rfl (by decide +kernel) rfl fun hok w0 σ0 φ0 M => ?_
  have h1 := (OkD.sl (hok.1 (.d (encCells cs)) (by simp))).1; clear hok; simp only [List.length_map] at h1
  repeat' (first | (show OkOps _ _ _ _ _ _; first | refine okops_nil ?_ | refine s_plain tabOk rfl rfl rfl rfl rfl ?_ | (show OkOps _ _ _ (Oper.mk _ (Op.binOp .add _ _ _ _) _ _ _ (_) :: _) _ _; first | refine s_e envOk rfl rfl rfl (step3_add rfl rfl rfl rfl (wrap64 (by omega) (by omega))) ?_ | fail) | (show OkOps _ _ _ (Oper.mk _ (Op.call _) _ _ _ (_) :: _) _ _; first | refine s_callF rfl rfl rfl rfl rfl rfl rfl rfl (c115 _ _) rfl ?_ | fail) | (show OkOps _ _ _ (Oper.mk _ (Op.box _ _) _ _ _ (_) :: _) _ _; first | refine s_box 0 rfl rfl rfl rfl rfl rfl ?_ | fail) | fail) | (show OkC _ _ _ _ _; first | refine ok_seq ?_ | refine ok_region ?_ | refine ok_block ?_ | refine ok_skip ?_ | refine ok_ret ?_ | refine ok_exit ?_ | refine ok_cond rfl (fun h => ?_) (fun h => ?_) | refine ok_regionD progOk.mo ?_ | refine s_loop 7 rfl [(1, _)] (subL_cons rfl subL_nil) (fun (k : Nat) => [(4, .one (.d (.int .i64 k)))]) (fun (k : Nat) => k ≤ cs.length ∧ schemaF ds ats = 0 ∧ (cs.length : Int) ≤ 4096 ∧ checkF ds ats cs = cellsGo ds ats (pv cs k) (cs.drop k)) (fun (k : Nat) => cs.length - k) 0 (subL_cons rfl subL_nil) ?_ (fun k ⟨hk, hsc, hq, hs⟩ => ?_) | fail) | (show thenQ _ _ _ _; first | refine then_n ?_ | refine then_r ?_ | refine then_x ?_ | fail) | (show blockQ _ _ _ _; first | refine block_n ?_ | refine block_r ?_ | refine block_x rfl ?_ | fail) | (show RetQ _ _ _ _ _ _; first | refine ret_leaf (.inl rfl) rfl rfl ?_ | fail) | (show DRun _ _ _ _ _ _ _ _; first | refine d_nil (by kernel_rfl) ?_ | refine d_e envOk rfl rfl rfl (step3_plain rfl rfl) ?_ | (show DRun _ _ _ _ (Oper.mk _ (Op.binOp .sub _ _ _ _) _ _ _ (_) :: _) _ _ _; first | refine d_e envOk rfl rfl rfl (step3_sub rfl rfl rfl rfl (wrap64 (by omega) (by omega))) ?_ | fail) | (show DRun _ _ _ _ (Oper.mk _ (Op.indexAddr _ _ _) _ _ _ (_) :: _) _ _ _; first | refine d_e envOk rfl rfl rfl (step3_idx rfl rfl rfl rfl rfl (by first | omega | ((try simp only [decide_eq_true_eq, decide_eq_false_iff_not, Bool.not_eq_true', Bool.not_true, Bool.not_false, List.length_map, List.length_set, bne_iff_ne, ne_eq, beq_iff_eq, bne_eq_false_iff_eq, beq_eq_false_iff_ne] at *); omega)) (at_map (by first | omega | ((try simp only [decide_eq_true_eq, decide_eq_false_iff_not, Bool.not_eq_true', Bool.not_true, Bool.not_false, List.length_map, List.length_set, bne_iff_ne, ne_eq, beq_iff_eq, bne_eq_false_iff_eq, beq_eq_false_iff_ne] at *); omega)))) ?_ | fail) | (show DRun _ _ _ _ (Oper.mk _ (Op.call _) _ _ _ (_) :: _) _ _ _; first | refine d_l rfl rfl (loc_callF' rfl rfl rfl rfl rfl rfl (c131 _ _ _ _) rfl) ?_ | refine d_l rfl rfl (loc_callF' rfl rfl rfl rfl rfl rfl (c176 _ _) rfl) ?_ | fail) | fail) | (show Exists _; first | refine Exists.intro (k + 1) ⟨?_, ?_, (by first | exact subL_nil | exact (subL_cons rfl subL_nil) | exact (subL_cons rfl (subL_cons rfl subL_nil)) | exact (subL_cons rfl (subL_cons rfl (subL_cons rfl subL_nil))) | exact (subL_cons rfl (subL_cons rfl (subL_cons rfl (subL_cons rfl subL_nil)))) | exact (subL_cons rfl (subL_cons rfl (subL_cons rfl (subL_cons rfl (subL_cons rfl subL_nil))))) | exact (subL_cons rfl (subL_cons rfl (subL_cons rfl (subL_cons rfl (subL_cons rfl (subL_cons rfl subL_nil)))))) | exact (subL_cons rfl (subL_cons rfl (subL_cons rfl (subL_cons rfl (subL_cons rfl (subL_cons rfl (subL_cons rfl subL_nil))))))) | exact (subL_cons rfl (subL_cons rfl (subL_cons rfl (subL_cons rfl (subL_cons rfl (subL_cons rfl (subL_cons rfl (subL_cons rfl subL_nil))))))))), (subL_cons rfl subL_nil), (subL_cons rfl subL_nil)⟩ | fail) | fail)
  all_goals (try (((simp_all [checkF, cellsGo, pv_zero, pv_pos, pv_succ, cmpF_pos, at_drop, List.drop_eq_nil_of_le]) <;> first | omega | (rw [Bool.eq_iff_iff]; simp; omega) | grind); done))
  · rename_i hlt
    have hk' : k < cs.length := by simpa using hlt
    have hb : cellF ds ats (at_ cs k).at' (at_ cs k).vals ≠ 0 := by simpa using h
    rw [hs, at_drop hk', cellsGo_bad hb]; simp
  · rename_i hlt hc
    have hk' : k < cs.length := by simpa using hlt
    have hk0 : k = 0 := by simpa using h
    have hb : cellF ds ats (at_ cs k).at' (at_ cs k).vals = 0 := by simpa using hc
    refine ⟨by omega, hsc, hq, ?_⟩
    rw [hs, at_drop hk', pv_succ]
    subst hk0
    simp [cellsGo, hb, pv_zero]
end Go.Proofs.YtpejdgkaapnekaaGreat
namespace Go.Proofs.YtpejdgkaapnekaaGreat
open Go Go.Abs
attribute [local irreducible] OkOps OkC DRun thenQ blockQ RetQ
set_option maxRecDepth 10000
section
variable {src kept : List (Int × Bool)} {ds : List Dim} {rule : Int} {l l' r : List Cell} {c : Cell}
end
end Go.Proofs.YtpejdgkaapnekaaGreat
