import Derived.Laws.RangeAny
import Derived.Test.YtpejdgkaapnekaaGreatP6
import Derived.Test.YtpejdgkaapnekaaGreatE1
set_option linter.unusedVariables false
set_option linter.unusedSimpArgs false
-- SymM
namespace Go.Proofs.YtpejdgkaapnekaaGreat
open Go Go.Abs
attribute [local irreducible] OkOps OkC DRun thenQ blockQ RetQ
set_option maxRecDepth 10000
set_option linter.unusedVariables false
set_option linter.unusedSimpArgs false
def okType (t : Int) : Bool := decide (1 ≤ t) && decide (t ≤ 4)
/-- the type of a result, or the error -/
def exTypeF (op : Int) (l : List Int) : Int × Int :=
  if l.all okType then (if typedF op (at_ l 0) (at_ l 1) (at_ l 2) = 0 then (0, 12) else (typedF op (at_ l 0) (at_ l 1) (at_ l 2), 0)) else (0, 2)
def ie (p : Int × Int) : AV := .tup [(false, [.d (.int .i64 p.1)]), (false, [.d (.int .i64 p.2)])]
theorem c178 (op : Int) (l : List Int) (hop : 4 ≤ op ∧ op ≤ 22) (hl : (l.length : Int) = arity op) : CallA Tryz.prog 178 [.one (.d (.int .i64 op)), .one (.d (encInts l))] [] (ie (exTypeF op l)) [] := by
  have ha : (arity op == 0) = false := by unfold arity; simp; omega
  have hn : (((l.map encInt).length : Int) != arity op) = false := by simp [hl]
  refine enter tabOk Tryz.func178 rfl (by decide +kernel) rfl fun hok w0 σ0 φ0 M => ?_
  have h1 := hok.2.1.sl.1; clear hok; simp only [List.length_map] at h1
  repeat' (first | (show OkOps _ _ _ _ _ _; first | refine okops_nil ?_ | refine s_plain tabOk rfl rfl rfl rfl rfl ?_ | (show OkOps _ _ _ (Oper.mk _ (_) _ _ _ (some _) :: _) _ _; first | refine s_guard rfl rfl (by first | assumption | rfl) ?_ | refine s_out rfl rfl (by first | assumption | rfl) rfl rfl ?_ | refine s_split rfl rfl rfl rfl (fun h => ?_) (fun h => ?_) | fail) | (show OkOps _ _ _ (Oper.mk _ (Op.binOp .add _ _ _ _) _ _ _ (_) :: _) _ _; first | refine s_e envOk rfl rfl rfl (step3_add rfl rfl rfl rfl (wrap64 (by omega) (by omega))) ?_ | fail) | (show OkOps _ _ _ (Oper.mk _ (Op.pick _ _ _) _ _ _ (_) :: _) _ _; first | refine s_e envOk rfl rfl rfl (step3_pickT rfl rfl (by first | rfl | assumption) rfl) ?_ | refine s_e envOk rfl rfl rfl (step3_pickF rfl rfl (by first | rfl | assumption) rfl) ?_ | fail) | (show OkOps _ _ _ (Oper.mk _ (Op.indexAddr _ _ _) _ _ _ (_) :: _) _ _; first | refine s_e envOk rfl rfl rfl (step3_idx rfl rfl rfl rfl rfl (by first | omega | ((try simp only [decide_eq_true_eq, decide_eq_false_iff_not, Bool.not_eq_true', Bool.not_true, Bool.not_false, List.length_map, bne_iff_ne, ne_eq, beq_iff_eq, bne_eq_false_iff_eq, beq_eq_false_iff_ne] at *); omega)) (at_map (by first | omega | ((try simp only [decide_eq_true_eq, decide_eq_false_iff_not, Bool.not_eq_true', Bool.not_true, Bool.not_false, List.length_map, bne_iff_ne, ne_eq, beq_iff_eq, bne_eq_false_iff_eq, beq_eq_false_iff_ne] at *); omega)))) ?_ | fail) | (show OkOps _ _ _ (Oper.mk _ (Op.call _) _ _ _ (_) :: _) _ _; first | refine s_callF rfl rfl rfl rfl rfl rfl rfl rfl (c228 _) rfl ?_ | refine s_callF rfl rfl rfl rfl rfl rfl rfl rfl (c229 _ _ hop hl) rfl ?_ | fail) | fail) | (show OkC _ _ _ _ _; first | refine ok_seq ?_ | refine ok_region ?_ | refine ok_block ?_ | refine ok_skip ?_ | refine ok_ret ?_ | refine ok_exit ?_ | refine ok_condT rfl ?_ | refine ok_condKF rfl (by assumption) ?_ | refine ok_cond rfl (fun h => ?_) (fun h => ?_) | refine s_loop 4 rfl [(0, _), (1, _)] (subL_cons rfl (subL_cons rfl subL_nil)) (fun (k : Nat) => [(6, .one (.d (.int .i64 k)))]) (fun k => k ≤ l.length ∧ l.all okType = (l.drop k).all okType) (fun k => l.length - k) 0 (subL_cons rfl subL_nil) ?_ (fun k ⟨hk, hs⟩ => ?_) | fail) | (show thenQ _ _ _ _; first | refine then_n ?_ | refine then_r ?_ | refine then_x ?_ | fail) | (show blockQ _ _ _ _; first | refine block_n ?_ | refine block_r ?_ | refine block_x rfl ?_ | fail) | (show RetQ _ _ _ _ _ _; first | refine ret_leaf (.inl rfl) rfl rfl ?_ | fail) | (show Exists _; first | refine Exists.intro (k + 1) ⟨?_, ?_, (by first | exact subL_nil | exact (subL_cons rfl subL_nil) | exact (subL_cons rfl (subL_cons rfl subL_nil)) | exact (subL_cons rfl (subL_cons rfl (subL_cons rfl subL_nil)))), (subL_cons rfl subL_nil), (subL_cons rfl (subL_cons rfl subL_nil))⟩ | fail) | fail)
  all_goals clear ha hn hl hop
  all_goals (try (((simp_all [exTypeF, okType, ie, at_drop, List.drop_eq_nil_of_le]) <;> first | omega | (rw [Bool.eq_iff_iff]; simp; omega) | grind); done))
theorem c175' (op : Int) (l : List Int) (n : Int) (k d : D) (f : FuncId) (caps : List D) (b : Bool)
    (h226 : CallA Tryz.prog 226 [.one (.d (.int .i64 op)), .one (.d (.int .i64 (l.map encInt).length))] [] (.tup [(true, [.d (.int .i64 n), .d k, .d (.fn f caps), .d (.bool b), .d d]), (false, [.d (.bool true)])]) [])
    (hf : CallA Tryz.prog f (.one (.d (encInts l)) :: caps.map fun x => .one (.d x)) [] (.one (.d (.int .i64 (typedF op (at_ l 0) (at_ l 1) (at_ l 2))))) []) :
    CallA Tryz.prog 175 [.one (.d (.int .i64 op)), .one (.d (encInts l))] [] (ie (exTypeF op l)) [] := by
  refine enter tabOk Tryz.func175 rfl (by decide +kernel) rfl fun hok w0 σ0 φ0 M => ?_
  have h1 := hok.2.1.sl.1; clear hok; simp only [List.length_map] at h1
  repeat' (first | (show OkOps _ _ _ _ _ _; first | refine okops_nil ?_ | refine s_plain tabOk rfl rfl rfl rfl rfl ?_ | (show OkOps _ _ _ (Oper.mk _ (_) _ _ _ (some _) :: _) _ _; first | refine s_guard rfl rfl (by first | assumption | rfl) ?_ | refine s_out rfl rfl (by first | assumption | rfl) rfl rfl ?_ | refine s_split rfl rfl rfl rfl (fun h => ?_) (fun h => ?_) | fail) | (show OkOps _ _ _ (Oper.mk _ (Op.binOp .add _ _ _ _) _ _ _ (_) :: _) _ _; first | refine s_e envOk rfl rfl rfl (step3_add rfl rfl rfl rfl (wrap64 (by omega) (by omega))) ?_ | fail) | (show OkOps _ _ _ (Oper.mk _ (Op.pick _ _ _) _ _ _ (_) :: _) _ _; first | refine s_e envOk rfl rfl rfl (step3_pickT rfl rfl (by first | rfl | assumption) rfl) ?_ | refine s_e envOk rfl rfl rfl (step3_pickF rfl rfl (by first | rfl | assumption) rfl) ?_ | fail) | (show OkOps _ _ _ (Oper.mk _ (Op.indexAddr _ _ _) _ _ _ (_) :: _) _ _; first | refine s_e envOk rfl rfl rfl (step3_idx rfl rfl rfl rfl rfl (by first | omega | ((try simp only [decide_eq_true_eq, decide_eq_false_iff_not, Bool.not_eq_true', Bool.not_true, Bool.not_false, List.length_map, bne_iff_ne, ne_eq, beq_iff_eq, bne_eq_false_iff_eq, beq_eq_false_iff_ne] at *); omega)) (at_map (by first | omega | ((try simp only [decide_eq_true_eq, decide_eq_false_iff_not, Bool.not_eq_true', Bool.not_true, Bool.not_false, List.length_map, bne_iff_ne, ne_eq, beq_iff_eq, bne_eq_false_iff_eq, beq_eq_false_iff_ne] at *); omega)))) ?_ | fail) | (show OkOps _ _ _ (Oper.mk _ (Op.call _) _ _ _ (_) :: _) _ _; first | refine s_callF rfl rfl rfl rfl rfl rfl rfl rfl (hf) rfl ?_ | refine s_callD 16 rfl rfl rfl rfl rfl rfl rfl rfl (h226) rfl rfl rfl ?_ | fail) | (show OkOps _ _ _ (Oper.mk _ (Op.alloc _) _ _ _ (_) :: _) _ _; first | refine s_alloc tabOk 0 rfl rfl rfl rfl rfl ?_ | fail) | refine s_store envOk rfl rfl rfl ?_ | fail) | (show OkC _ _ _ _ _; first | refine ok_seq ?_ | refine ok_region ?_ | refine ok_block ?_ | refine ok_skip ?_ | refine ok_ret ?_ | refine ok_exit ?_ | refine ok_condT rfl ?_ | refine ok_condF rfl ?_ | refine ok_cond rfl (fun h => ?_) (fun h => ?_) | refine s_loop 5 rfl [(1, _), (6, _), (20, _), (21, _)] (subL_cons rfl (subL_cons rfl (subL_cons rfl (subL_cons rfl subL_nil)))) (fun (k : Nat) => [(22, .one (.d (.int .i64 k)))]) (fun k => k ≤ l.length ∧ l.all okType = (l.drop k).all okType) (fun k => l.length - k) 0 (subL_cons rfl subL_nil) ?_ (fun k ⟨hk, hs⟩ => ?_) | fail) | (show thenQ _ _ _ _; first | refine then_n ?_ | refine then_r ?_ | refine then_x ?_ | fail) | (show blockQ _ _ _ _; first | refine block_n ?_ | refine block_r ?_ | refine block_x rfl ?_ | fail) | (show RetQ _ _ _ _ _ _; first | refine ret_leaf (.inl rfl) rfl rfl ?_ | fail) | (show Exists _; first | refine Exists.intro (k + 1) ⟨?_, ?_, (by first | exact subL_nil | exact (subL_cons rfl subL_nil) | exact (subL_cons rfl (subL_cons rfl subL_nil)) | exact (subL_cons rfl (subL_cons rfl (subL_cons rfl subL_nil)))), (subL_cons rfl subL_nil), (subL_cons rfl (subL_cons rfl (subL_cons rfl (subL_cons rfl subL_nil))))⟩ | fail) | fail)
  all_goals (try (((simp_all [exTypeF, okType, ie, at_drop, List.drop_eq_nil_of_le]) <;> first | omega | (rw [Bool.eq_iff_iff]; simp; omega) | grind); done))
end Go.Proofs.YtpejdgkaapnekaaGreat
namespace Go.Proofs.YtpejdgkaapnekaaGreat
open Go Go.Abs
set_option linter.unusedVariables false
set_option linter.unusedSimpArgs false
theorem len_two {l : List Int} (h : (l.length : Int) = 2) : ((l.length : Int) - 2).toNat = 0 ∧ ((l.length : Int) - 1).toNat = 1 := by omega
theorem len_three {l : List Int} (h : (l.length : Int) = 3) : ((l.length : Int) - 2).toNat = 1 ∧ ((l.length : Int) - 1).toNat = 2 := by omega
theorem numF_eq {a b : Int} (h : a = b) : numF a = numF b := by rw [h]
theorem shared_arith {a b : Int} : (if numF a = true then sharedF a b else 0) = if numF a = true ∧ numF b = true then sharedF a b else 0 := by
  unfold sharedF
  by_cases ha : numF a = true <;> by_cases hb : numF b = true <;> simp [ha, hb]
  intro h; subst h; exact absurd ha hb
theorem shared_pos {a b : Int} (ha : numF a = true) (hb : numF b = true) : sharedF a b ≠ 0 := by
  have h0 : a ≠ 0 := by rintro rfl; simp [numF] at ha
  unfold sharedF; split
  · exact h0
  · simp [ha, hb]
theorem c175 (op : Int) (l : List Int) (hop : 4 ≤ op ∧ op ≤ 22) (hl : (l.length : Int) = arity op) : CallA Tryz.prog 175 [.one (.d (.int .i64 op)), .one (.d (encInts l))] [] (ie (exTypeF op l)) [] := by
  have hlen : ∀ n : Int, (l.length : Int) = n → (((l.map encInt).length : Nat) : Int) = n := by intro n h; simpa using h
  have go : ∀ {f : FuncId} {caps : List D} {t t' : Int}, CallA Tryz.prog f (.one (.d (encInts l)) :: caps.map fun x => .one (.d x)) [] (.one (.d (.int .i64 t))) [] → t = t' → CallA Tryz.prog f (.one (.d (encInts l)) :: caps.map fun x => .one (.d x)) [] (.one (.d (.int .i64 t'))) [] := by
    intro f caps t t' h e; rwa [e] at h
  rcases op_cases hop with rfl | rfl | rfl | rfl | rfl | rfl | rfl | rfl | rfl | rfl | rfl | rfl | rfl | rfl | rfl | rfl | rfl | rfl | rfl <;> simp [arity] at hl
  · exact c175' _ _ _ _ _ _ _ _ (by rw [hlen 1 (by omega)]; exact c226_4) (go (caps := []) (c303 l (by omega)) (by simp [typedF]))
  · exact c175' _ _ _ _ _ _ _ _ (by rw [hlen 1 (by omega)]; exact c226_5) (go (caps := []) (c300 l (by omega)) (by simp [typedF]))
  · exact c175' _ _ _ _ _ _ _ _ (by rw [hlen 1 (by omega)]; exact c226_6) (go (caps := [.ptr [.fn 300 []]]) (c302 l (by omega)) (by
      simp only [typedF]
      by_cases h : numF (at_ l 0) = true
      · simp [h]
        simp [numF] at h
        omega
      · simp [h]; rfl))
  · exact c175' _ _ _ _ _ _ _ _ (by rw [hlen 1 (by omega)]; exact c226_7) (go (caps := [.ptr [.int .i64 1]]) (c357 (encInts l) 1) (by simp [typedF]))
  · exact c175' _ _ _ _ _ _ _ _ (by rw [hlen 1 (by omega)]; exact c226_8) (go (caps := [.ptr [.int .i64 2]]) (c357 (encInts l) 2) (by simp [typedF]))
  · exact c175' _ _ _ _ _ _ _ _ (by rw [hlen 2 (by omega)]; exact c226_9) (go (caps := []) (c305 l (by omega)) (by rw [(len_two hl).1, (len_two hl).2, shared_arith]; simp [typedF]))
  · exact c175' _ _ _ _ _ _ _ _ (by rw [hlen 2 (by omega)]; exact c226_10) (go (caps := []) (c305 l (by omega)) (by rw [(len_two hl).1, (len_two hl).2, shared_arith]; simp [typedF]))
  · exact c175' _ _ _ _ _ _ _ _ (by rw [hlen 2 (by omega)]; exact c226_11) (go (caps := []) (c305 l (by omega)) (by rw [(len_two hl).1, (len_two hl).2, shared_arith]; simp [typedF]))
  · exact c175' _ _ _ _ _ _ _ _ (by rw [hlen 2 (by omega)]; exact c226_12) (go (caps := []) (c304 l (by omega)) (by
      rw [(len_two hl).1, (len_two hl).2, shared_arith]
      by_cases h : numF (at_ l 0) = true ∧ numF (at_ l 1) = true
      · rw [if_pos h, if_neg (shared_pos h.1 h.2)]; simp [typedF, h]
      · rw [if_neg h]; simp [typedF]; intro a; cases hb : numF (at_ l 1) with | false => rfl | true => exact absurd ⟨a, hb⟩ h))
  · exact c175' _ _ _ _ _ _ _ _ (by rw [hlen 2 (by omega)]; exact c226_13) (go (caps := []) (c363 l (by omega)) (by rw [(len_two hl).1, (len_two hl).2]; simp [typedF]))
  · exact c175' _ _ _ _ _ _ _ _ (by rw [hlen 2 (by omega)]; exact c226_14) (go (caps := []) (c363 l (by omega)) (by rw [(len_two hl).1, (len_two hl).2]; simp [typedF]))
  · exact c175' _ _ _ _ _ _ _ _ (by rw [hlen 2 (by omega)]; exact c226_15) (go (caps := []) (c363 l (by omega)) (by rw [(len_two hl).1, (len_two hl).2]; simp [typedF]))
  · exact c175' _ _ _ _ _ _ _ _ (by rw [hlen 2 (by omega)]; exact c226_16) (go (caps := []) (c363 l (by omega)) (by rw [(len_two hl).1, (len_two hl).2]; simp [typedF]))
  · exact c175' _ _ _ _ _ _ _ _ (by rw [hlen 2 (by omega)]; exact c226_17) (go (caps := []) (c363 l (by omega)) (by rw [(len_two hl).1, (len_two hl).2]; simp [typedF]))
  · exact c175' _ _ _ _ _ _ _ _ (by rw [hlen 2 (by omega)]; exact c226_18) (go (caps := []) (c363 l (by omega)) (by rw [(len_two hl).1, (len_two hl).2]; simp [typedF]))
  · exact c175' _ _ _ _ _ _ _ _ (by rw [hlen 2 (by omega)]; exact c226_19) (go (caps := []) (c366 l (by omega)) (by
      rw [(len_two hl).1, (len_two hl).2]
      by_cases h : at_ l 0 = 1 <;> by_cases h2 : at_ l 1 = 1 <;> simp [typedF, sharedF, h, h2, numF]
      intro e; omega))
  · exact c175' _ _ _ _ _ _ _ _ (by rw [hlen 2 (by omega)]; exact c226_20) (go (caps := []) (c366 l (by omega)) (by
      rw [(len_two hl).1, (len_two hl).2]
      by_cases h : at_ l 0 = 1 <;> by_cases h2 : at_ l 1 = 1 <;> simp [typedF, sharedF, h, h2, numF]
      intro e; omega))
  · exact c175' _ _ _ _ _ _ _ _ (by rw [hlen 2 (by omega)]; exact c226_21) (go (caps := []) (c307 l (by omega)) (by rw [(len_two hl).1, (len_two hl).2]; simp [typedF]))
  · exact c175' _ _ _ _ _ _ _ _ (by rw [hlen 3 (by omega)]; exact c226_22) (go (caps := []) (c306 l (by omega)) (by rw [(len_three hl).1, (len_three hl).2]; simp [typedF]))
end Go.Proofs.YtpejdgkaapnekaaGreat
namespace Go.Abs
open Go
variable {P : Program} {V : Env} {T : Tab} {c : Ctx} {st st0 : St} {σ σ' : Sig} {φ φ' : Pl} {w w' : World}
/-! ### a range over a string -/
theorem wl_run {ops : Array Oper} {o : Oper} {rest : List Oper} {a : Act} {Q : Exit → Act → World → Prop} {u : Value} (hg : o.guard = none) (hrun : (execOp a.eval o).run P w = .ok (.value u) w') (h : wpListIn (fnc c) 0 P ops Q rest (a.put o.dst u) w') : wpListIn (fnc c) 0 P ops Q (o :: rest) a w := by
  refine wpListIn_plain hg fun K' hK => ⟨fun f _ => fnc_fn c f, ?_⟩
  rw [semAt_run (by simp) hrun]
  exact hK _ _ h
theorem run_next_over {s : ByteArray} {pos r : Nat} {ty : TypeId} (hh : w.heap[r]? = some (.stringIter s pos)) (h : ¬ pos < s.size) : (Instr.next (.pointer (some ⟨r, 0, none⟩)) true ty).run P w = .ok (.tuple #[.bool false]) w := by
  simp [Instr.next, getObj, Sem.run, hh, Result.andThen, h]
theorem run_next_more {s : ByteArray} {pos r : Nat} {ty : TypeId} (hh : w.heap[r]? = some (.stringIter s pos)) (h : pos < s.size) : (Instr.next (.pointer (some ⟨r, 0, none⟩)) true ty).run P w =
    .ok (.tuple #[.bool true, .int .i64 pos, .int .i32 (Utf8.decode s pos).1]) { w with heap := w.heap.setIfInBounds r (.stringIter s (pos + (Utf8.decode s pos).2)) } := by
  simp [Instr.next, getObj, setObj, Sem.run, hh, Result.andThen, h, goInt]
theorem decode_wide (s : ByteArray) (pos : Nat) (h : pos < s.size) : 1 ≤ (Utf8.decode s pos).2 := by
  by_cases ha : (s[pos]'h).toNat < 128
  · rw [decode_ascii s pos h ha]; exact Nat.le_refl _
  · exact (decode_high s pos h (by omega)).2
/-- the iterator moves on -/
theorem Rel.iter {fr : List (Nat × AV)} {a : Act} {r : Nat} {s : ByteArray} {p q : Nat} (hr : Rel c ⟨fr, []⟩ a w σ φ) (hh : w.heap[r]? = some (.stringIter s p)) (hn : c.w0.heap.size ≤ r) :
    Rel c ⟨fr, []⟩ a { w with heap := w.heap.setIfInBounds r (.stringIter s q) } σ φ := by
  refine ⟨hr.le, hr.fresh, ⟨fun b cs hb => ?_, fun i e hi => by simp [look] at hi, fun i i' e e' p p' hi => by simp [look] at hi⟩, fun i e p hi => by simp [look] at hi, hr.slot, hr.defers, hr.size, ⟨hr.fra.os, hr.fra.tape, hr.fra.output, ?_, fun b hb hm => ?_⟩, hr.pin⟩
  · obtain ⟨t, f, h1⟩ := hr.inv.sig b cs hb
    refine ⟨t, f, ?_⟩
    have hne : r ≠ b := by rintro rfl; rw [hh] at h1; cases h1
    simp only [Array.getElem?_setIfInBounds_ne hne]; exact h1
  · simp only [Array.size_setIfInBounds]; exact hr.fra.size
  · have hne : r ≠ b := by omega
    simp only [Array.getElem?_setIfInBounds_ne hne]; exact hr.fra.block b hb hm
def runeOf (s : List UInt8) (k : Nat) : Int := ((Utf8.decode ⟨s.toArray⟩ k).1 : Nat)
def widthOf (s : List UInt8) (k : Nat) : Nat := (Utf8.decode ⟨s.toArray⟩ k).2
theorem rune_ascii {s : List UInt8} {k : Nat} {b : UInt8} (h : s[k]? = some b) (hb : b.toNat < 128) : runeOf s k = b.toNat ∧ widthOf s k = 1 := by
  obtain ⟨hl, he⟩ := List.getElem?_eq_some_iff.1 h
  have hk : k < (⟨s.toArray⟩ : ByteArray).size := by simpa [ByteArray.size] using hl
  have hg : (⟨s.toArray⟩ : ByteArray)[k]'hk = b := by
    show s.toArray[k]'(by simpa using hl) = b
    simpa using he
  have := decode_ascii ⟨s.toArray⟩ k hk (by rw [hg]; exact hb)
  unfold runeOf widthOf
  rw [this, hg]
  exact ⟨rfl, rfl⟩
theorem rune_high {s : List UInt8} {k : Nat} {b : UInt8} (h : s[k]? = some b) (hb : ¬ b.toNat < 128) : 128 ≤ runeOf s k := by
  obtain ⟨hl, he⟩ := List.getElem?_eq_some_iff.1 h
  have hk : k < (⟨s.toArray⟩ : ByteArray).size := by simpa [ByteArray.size] using hl
  have hg : (⟨s.toArray⟩ : ByteArray)[k]'hk = b := by
    show s.toArray[k]'(by simpa using hl) = b
    simpa using he
  have := (decode_high ⟨s.toArray⟩ k hk (by rw [hg]; omega)).1
  unfold runeOf; omega

theorem subL_skip {α : Type} {d : Nat} {v : α} {l : List (Nat × α)} : ∀ {kept : List (Nat × α)}, look kept d = none → SubL l kept → SubL ((d, v) :: l) kept
  | [], _, _ => trivial
  | (t, x) :: r, h, hs => by
    simp only [look] at h
    cases hb : Nat.beq t d with
    | true => rw [hb] at h; simp at h
    | false =>
      rw [hb] at h
      simp only [cond_false] at h
      refine ⟨?_, subL_skip h hs.2⟩
      have : Nat.beq d t = false := by
        cases hc : Nat.beq d t with
        | false => rfl
        | true => have := Nat.eq_of_beq_eq_true hc; subst this; rw [Nat.beq_refl] at hb; cases hb
      simp only [look, this, cond_false]
      exact hs.1
/-- back out of a context that begins later -/
theorem RelE.back {fr : List (Nat × AV)} {st' : St} {a a' : Act} {e : Exit} (hmk : c.mks = []) (hr : Rel c ⟨fr, []⟩ a w σ φ) (h : RelE ⟨w, σ, φ, MOf φ [], c.n, c.rd, []⟩ e st' a' w' σ' φ') : RelE c e st' a' w' σ' φ' := by
  rcases h with h | ⟨he, r, h1, h2, h3, h4⟩
  · have hb := Rel.back (rd := c.rd) (mk := []) hr h
    have hd : a'.defers = [] := h.defers
    have : ({ a' with defers := c.mks } : Act) = a' := by rw [hmk, ← hd]
    rw [this] at hb
    exact .inl hb
  · have hb := Rel.back (rd := c.rd) (mk := []) hr h4
    rw [hmk] at hb
    exact .inr ⟨he, r, h1, h2, Nat.le_trans hr.fra.size h3, hb⟩
/-- what a round over a string comes to -/
def strQ (bl : Nat) (Q : Exit → St → Prop) (I : Prop) (kept : List (Nat × AV)) (e : Exit) (st : St) : Prop := (e = .normal ∧ I ∧ SubL st.fr kept) ∨ (e ≠ .normal ∧ blockQ bl Q e st)
def overQ (bl : Nat) (Q : Exit → St → Prop) (e : Exit) (st : St) : Prop := e ≠ .normal ∧ blockQ bl Q e st
theorem strQ_n {bl : Nat} {Q : Exit → St → Prop} {I : Prop} {kept : List (Nat × AV)} (h : I) (hs : SubL st.fr kept) : strQ bl Q I kept .normal st := .inl ⟨rfl, h, hs⟩
theorem strQ_x {bl : Nat} {Q : Exit → St → Prop} {I : Prop} {kept : List (Nat × AV)} {e : Exit} (he : e ≠ .normal) (h : blockQ bl Q e st) : strQ bl Q I kept e st := .inr ⟨he, h⟩
theorem overQ_x {bl : Nat} {Q : Exit → St → Prop} {e : Exit} (he : e ≠ .normal) (h : blockQ bl Q e st) : overQ bl Q e st := ⟨he, h⟩
theorem ok_rangeStr {id1 id2 bl : Nat} {o0 o1 o2 : Oper} {l2 : List Oper} {body2 : Code} {fr kept : List (Nat × AV)} {Q : Exit → St → Prop} {d0 d1 d2 : Nat} {t : TypeId} {x0 : Operand} {s : List UInt8}
    (hmk : c.mks = []) (h0 : o0.op = .move x0) (hg0 : o0.guard = none) (hd0 : o0.dst = some d0) (hb0 : Nat.blt d0 c.n = true) (hx : ev ⟨fr, []⟩ x0 = some (.one (.d (.str s))))
    (h1 : o1.op = .range t (.tmp d0)) (hg1 : o1.guard = none) (hd1 : o1.dst = some d1) (hb1 : Nat.blt d1 c.n = true) (ht : P.underlying t = some .string)
    (h2 : o2.op = .next (.tmp d1) true) (hg2 : o2.guard = none) (hd2 : o2.dst = some d2) (hb2 : Nat.blt d2 c.n = true) (hne : Nat.beq d0 d1 = false)
    (hk : SubL fr kept) (hkd : look kept d0 = none) (hkd1 : look kept d1 = none) (hkd2 : look kept d2 = none) (Inv : Nat → Prop) (hi : Inv 0)
    (hmore : ∀ k, Inv k → k < s.length → ∀ (c2 : Ctx), c2.n = c.n → c2.rd = c.rd → c2.mks = [] → ∀ raw, OkOps P c2 (o2 :: l2).toArray l2 ⟨(d2, .tup [(false, [.d (.bool true)]), (false, [.d (.int .i64 k)]), (false, [.d (.int .i32 (runeOf s k))])]) :: (d1, .one (.d (.raw raw))) :: kept, []⟩
      (fun st' => OkC P c2 body2 st' (strQ bl Q (Inv (k + widthOf s k)) ((d1, .one (.d (.raw raw))) :: kept))))
    (hover : ∀ k, Inv k → s.length ≤ k → ∀ (c2 : Ctx), c2.n = c.n → c2.rd = c.rd → c2.mks = [] → ∀ raw, OkOps P c2 (o2 :: l2).toArray l2 ⟨(d2, .tup [(false, [.d (.bool false)])]) :: (d1, .one (.d (.raw raw))) :: kept, []⟩
      (fun st' => OkC P c2 body2 st' (overQ bl Q))) :
    OkC P c (.seq (.region id1 ⟨[o0, o1]⟩ false) (.block bl (.loop (.seq (.region id2 ⟨o2 :: l2⟩ false) body2)))) ⟨fr, []⟩ Q := by
  intro a w σ φ hr
  refine wpIn_seq (wpIn_region_list ?_)
  have hs := ev_rep hr hx
  replace hs := RepC.d_inv hs
  generalize hv : a.eval x0 = v at hs
  cases hs with
  | str hlen =>
  have hrun0 : (execOp a.eval o0).run P w = .ok (.value (.string ⟨s.toArray⟩)) w := by
    rw [← hv]; simp [execOp, h0]
  refine wl_run hg0 hrun0 ?_
  have hr1 : Rel c ⟨(d0, .one (.d (.str s))) :: fr, []⟩ (a.put o0.dst (.string ⟨s.toArray⟩)) w σ φ := by
    have := hr.putTo (dst := o0.dst) (v := .one (.d (.str s))) (u := .string ⟨s.toArray⟩) (st' := ⟨fr, []⟩) (by rw [hd0]; exact hb0) hr.le hr.fresh hr.inv hr.mine hr.fra hr.pin (fun _ => RepC.d (.str hlen)) (fun s x _ hx => ⟨x, hx, fun z hz => hz⟩)
    rw [hd0] at this ⊢; exact this
  generalize ha1 : a.put o0.dst (.string ⟨s.toArray⟩) = a1 at hr1
  have hv1 : a1.eval (.tmp d0) = .string ⟨s.toArray⟩ := by
    have h3 := ev_rep hr1 (x := .tmp d0) (v := .one (.d (.str s))) (by simp [ev, look])
    replace h3 := RepC.d_inv h3
    generalize a1.eval (.tmp d0) = v1 at h3
    cases h3; rfl
  let ptr : Value := .pointer (some ⟨w.heap.size, 0, none⟩)
  have hrun1 : (execOp a1.eval o1).run P w = .ok (.value ptr) (w.alloc (.stringIter ⟨s.toArray⟩ 0)) := by
    have h4 := run_range_string (P := P) w t ⟨s.toArray⟩ ht
    simp only [execOp, h1, hv1]
    simp only [Sem.run_bind, h4, Result.andThen_ok, Sem.run_pure]
    rfl
  refine wl_run hg1 hrun1 (wpListIn_nil ?_)
  have hrA := hr1.alien (.stringIter ⟨s.toArray⟩ 0)
  have hr2 : Rel c ⟨(d1, .one (.d (.raw ptr))) :: (d0, .one (.d (.str s))) :: fr, []⟩ (a1.put o1.dst ptr) (w.alloc (.stringIter ⟨s.toArray⟩ 0)) σ φ := by
    have := hrA.putTo (dst := o1.dst) (v := .one (.d (.raw ptr))) (u := ptr) (st' := ⟨(d0, .one (.d (.str s))) :: fr, []⟩) (by rw [hd1]; exact hb1) hrA.le hrA.fresh hrA.inv hrA.mine hrA.fra hrA.pin (fun _ => RepC.d (.raw rfl)) (fun s x _ hx => ⟨x, hx, fun z hz => hz⟩)
    rw [hd1] at this ⊢; exact this
  generalize a1.put o1.dst ptr = a2 at hr2
  have hold : c.w0.heap.size ≤ w.heap.size := hr.fra.size
  let r := w.heap.size
  have hr3 : Rel c ⟨(d1, .one (.d (.raw ptr))) :: kept, []⟩ a2 (w.alloc (.stringIter ⟨s.toArray⟩ 0)) σ φ :=
    ⟨hr2.le, hr2.fresh, hr2.inv, hr2.mine, fun s v hv => hr2.slot s v (SubL.look (l' := (d1, .one (.d (.raw ptr))) :: kept) ⟨by simp [look], subL_skip hkd1 (subL_skip hkd hk)⟩ hv), hr2.defers, hr2.size, hr2.fra, hr2.pin⟩
  refine wpIn_block (wpIn_loop (fun a w => ∃ k σ φ, Inv k ∧ Rel c ⟨(d1, .one (.d (.raw ptr))) :: kept, []⟩ a w σ φ ∧ w.heap[r]? = some (.stringIter ⟨s.toArray⟩ k)) (fun _ w => match w.heap[r]? with | some (.stringIter _ p) => s.length - p | _ => 0)
    ⟨0, σ, φ, hi, hr3, alloc_heap_new _ _⟩ ?_)
  clear hr3 hr2 hrA hr1 hrun1 hrun0 hv1 ha1 a1 a2
  rintro a w1 ⟨k, σ1, φ1, hI, hr4, hh⟩
  refine wpIn_seq (wpIn_region_list ?_)
  have hp : a.eval (.tmp d1) = ptr := by
    have h3 := ev_rep hr4 (x := .tmp d1) (v := .one (.d (.raw ptr))) (by simp [ev, look])
    replace h3 := RepC.d_inv h3
    generalize a.eval (.tmp d1) = v1 at h3
    cases h3; rfl
  have hsz : (⟨s.toArray⟩ : ByteArray).size = s.length := by simp [ByteArray.size]
  have fin : ∀ {w2 : World} {st2 : St} {a2 : Act} (hr5 : Rel c ⟨st2.fr, []⟩ a2 w2 σ1 φ1) (hst : st2.sto = []) {R : St → Prop} {K : Exit → St → Prop} (_ : ∀ st', R st' → OkC P ⟨w2, σ1, φ1, MOf φ1 [], c.n, c.rd, []⟩ body2 st' K)
      (_ : OkOps P ⟨w2, σ1, φ1, MOf φ1 [], c.n, c.rd, []⟩ (o2 :: l2).toArray l2 st2 R) {Z : Exit → Act → World → Prop}
      (_ : ∀ e a5 w5 st5 σ5 φ5, K e st5 → RelE ⟨w2, σ1, φ1, MOf φ1 [], c.n, c.rd, []⟩ e st5 a5 w5 σ5 φ5 → Z e a5 w5), wpListIn (fnc c) 0 P (o2 :: l2).toArray (Exit.then (body2.wpIn (fnc c) 0 P Z) Z) l2 a2 w2 := by
    intro w2 st2 a2 hr5 hst R K hR hO Z hZ
    have hd0 : a2.defers = [] := hr5.defers.trans hmk
    have hd : ({ a2 with defers := [] } : Act) = a2 := by rw [← hd0]
    have hr6 := hr5.anew [] c.rd
    rw [hd] at hr6
    obtain ⟨f2, s2⟩ := st2
    simp only at hst hr6
    subst hst
    refine hO a2 w2 σ1 φ1 _ hr6 fun a4 w4 σ4 φ4 st4 hK hr7 => ?_
    exact wpIn_mono (hR st4 hK a4 w4 σ4 φ4 hr7) fun e a5 w5 ⟨st5, σ5, φ5, hq, hre⟩ => hZ e a5 w5 st5 σ5 φ5 hq hre
  have leave : ∀ {e : Exit} {a5 : Act} {w5 : World} {st5 : St} {σ5 : Sig} {φ5 : Pl}, blockQ bl Q e st5 → RelE c e st5 a5 w5 σ5 φ5 → e ≠ .normal → Exit.inBlock bl (fun e a' w' => ∃ st' σ' φ', Q e st' ∧ RelE c e st' a' w' σ' φ') e a5 w5 := by
    intro e a5 w5 st5 σ5 φ5 hq hre hne
    cases e with
    | normal => exact absurd rfl hne
    | exit i =>
      simp only [blockQ] at hq
      cases hb : Nat.beq i bl with
      | true =>
        have hi := Nat.eq_of_beq_eq_true hb
        rw [hb] at hq
        simp only [Exit.inBlock]
        rw [if_pos hi]
        exact ⟨st5, σ5, φ5, hq, .inl (hre.rel (by simp))⟩
      | false =>
        have hi : i ≠ bl := by rintro rfl; rw [Nat.beq_refl] at hb; cases hb
        rw [hb] at hq
        simp only [Exit.inBlock]
        rw [if_neg hi]
        exact ⟨st5, σ5, φ5, hq, hre⟩
    | _ => exact ⟨st5, σ5, φ5, hq, hre⟩
  by_cases hlt : k < s.length
  · have hrun2 := run_next_more (P := P) (ty := o2.type) hh (by rw [hsz]; exact hlt)
    have hrun : (execOp a.eval o2).run P w1 = .ok (.value (.tuple #[.bool true, .int .i64 k, .int .i32 (Utf8.decode ⟨s.toArray⟩ k).1])) { w1 with heap := w1.heap.setIfInBounds r (.stringIter ⟨s.toArray⟩ (k + (Utf8.decode ⟨s.toArray⟩ k).2)) } := by
      simp only [execOp, h2, hp]
      simp only [Sem.run_bind, ptr]
      rw [show (⟨w.heap.size, 0, none⟩ : Addr) = ⟨r, 0, none⟩ from rfl, hrun2]
      rfl
    refine wl_run hg2 hrun ?_
    have hri := hr4.iter (q := k + (Utf8.decode ⟨s.toArray⟩ k).2) hh hold
    have hrl := decode_le ⟨s.toArray⟩ k
    have hr5 := hri.putTo (dst := o2.dst) (v := .tup [(false, [.d (.bool true)]), (false, [.d (.int .i64 k)]), (false, [.d (.int .i32 (runeOf s k))])]) (u := .tuple #[.bool true, .int .i64 k, .int .i32 (Utf8.decode ⟨s.toArray⟩ k).1]) (st' := ⟨(d1, .one (.d (.raw ptr))) :: kept, []⟩) (by rw [hd2]; exact hb2) hri.le hri.fresh hri.inv hri.mine hri.fra hri.pin
      (fun _ => ⟨[_, _, _], rfl, ⟨⟨.d .bool, trivial⟩, ⟨⟨.d (.int (by
        simp only [inR, IntKind.min, IntKind.max, IntKind.signed, IntKind.bits, if_true]; omega)), trivial⟩, ⟨⟨.d (.int (by
        simp only [inR, runeOf, IntKind.min, IntKind.max, IntKind.signed, IntKind.bits, if_true]; omega)), trivial⟩, trivial⟩⟩⟩⟩) (fun s x _ hx => ⟨x, hx, fun z hz => hz⟩)
    rw [hd2] at hr5 ⊢
    refine fin (st2 := ⟨_, []⟩) hr5 rfl (fun st' h => h) (hmore k hI hlt ⟨_, σ1, φ1, MOf φ1 [], c.n, c.rd, []⟩ rfl rfl rfl ptr) ?_
    rintro e a5 w5 st5 σ5 φ5 hq hre
    have hbk := RelE.back hmk hri hre
    rcases hq with ⟨rfl, hI', hsub⟩ | ⟨hne', hq⟩
    · have h6 := hbk.rel (by simp)
      have h7 := hre.rel (by simp)
      have hlt1 : r < w1.heap.size := (Array.getElem?_eq_some_iff.1 hh).1
      have h8 : w5.heap[r]? = some (.stringIter ⟨s.toArray⟩ (k + widthOf s k)) := by
        rw [h7.fra.block r (by simp only [Array.size_setIfInBounds]; exact hlt1) (by rintro ⟨id, e, p, h, _⟩; simp [look] at h)]
        simp [hlt1, widthOf]
      have h9 := h6.dropTo (s' := []) (by simp [look])
      refine ⟨⟨_, σ5, φ5, hI', ⟨h9.le, h9.fresh, h9.inv, h9.mine, fun s v hv => h9.slot s v (hsub.look hv), h9.defers, h9.size, h9.fra, h9.pin⟩, h8⟩, ?_⟩
      · simp only [h8, hh]
        have := decode_wide ⟨s.toArray⟩ k (by rw [hsz]; exact hlt)
        simp only [widthOf]
        omega
    · have := leave hq hbk hne'
      cases e <;> first | exact absurd rfl hne' | exact this
  · have hrun2 := run_next_over (P := P) (ty := o2.type) hh (by rw [hsz]; exact hlt)
    have hrun : (execOp a.eval o2).run P w1 = .ok (.value (.tuple #[.bool false])) w1 := by
      simp only [execOp, h2, hp]
      simp only [Sem.run_bind, ptr]
      rw [show (⟨w.heap.size, 0, none⟩ : Addr) = ⟨r, 0, none⟩ from rfl, hrun2]
      rfl
    refine wl_run hg2 hrun ?_
    have hr5 := hr4.putTo (dst := o2.dst) (v := .tup [(false, [.d (.bool false)])]) (u := .tuple #[.bool false]) (st' := ⟨(d1, .one (.d (.raw ptr))) :: kept, []⟩) (by rw [hd2]; exact hb2) hr4.le hr4.fresh hr4.inv hr4.mine hr4.fra hr4.pin
      (fun _ => ⟨[_], rfl, ⟨⟨.d .bool, trivial⟩, trivial⟩⟩) (fun s x _ hx => ⟨x, hx, fun z hz => hz⟩)
    rw [hd2] at hr5 ⊢
    refine fin (st2 := ⟨_, []⟩) hr5 rfl (fun st' h => h) (hover k hI (by omega) ⟨_, σ1, φ1, MOf φ1 [], c.n, c.rd, []⟩ rfl rfl rfl ptr) ?_
    rintro e a5 w5 st5 σ5 φ5 ⟨hne', hq⟩ hre
    have := leave hq (RelE.back hmk hr4 hre) hne'
    cases e <;> first | exact absurd rfl hne' | exact this
end Go.Abs
-- Sym2
namespace Go.Proofs.YtpejdgkaapnekaaGreat
open Go Go.Abs
attribute [local irreducible] OkOps OkC DRun thenQ blockQ RetQ strQ overQ
set_option maxRecDepth 10000
set_option linter.unusedVariables false
set_option linter.unusedSimpArgs false
/-! ### strings.IndexFunc -/
theorem under9 : Tryz.prog.underlying 9 = some .string := by kernel_rfl
theorem odd_byte {s : List UInt8} {k : Nat} (h : k < s.length) : (decide (runeOf s k < 32) || decide (126 < runeOf s k)) = !okByte (at_ s k) := by
  have hb := at_get h
  by_cases ha : (at_ s k).toNat < 128
  · rw [(rune_ascii hb ha).1, Bool.eq_iff_iff]
    simp [okByte]
    omega
  · have := rune_high hb ha
    rw [Bool.eq_iff_iff]
    simp [okByte]
    omega
theorem ok_width {s : List UInt8} {k : Nat} (h : k < s.length) (hb : okByte (at_ s k) = true) : widthOf s k = 1 := by
  simp [okByte] at hb
  exact (rune_ascii (at_get h) (by omega)).2
theorem c341 (s : List UInt8) : CallA Tryz.prog 341 [.one (.d (.str s)), .one (.d (.fn 281 [])), .one (.d (.bool true))] [] (.one (.d (.int .i64 (idxGo (fun c => !okByte c) s 0)))) [] := by
  refine enter tabOk Tryz.func341 rfl (by decide +kernel) rfl fun hok w0 σ0 φ0 M => ?_
  have hl := hok.1.str; clear hok
  repeat' (first | (show OkOps _ _ _ _ _ _; first | refine okops_nil ?_ | refine s_plain tabOk rfl rfl rfl rfl rfl ?_ | fail) | (show OkC _ _ _ _ _; first | refine ok_rangeStr (kept := [(1, _), (2, _)]) rfl rfl rfl rfl rfl rfl rfl rfl rfl rfl under9 rfl rfl rfl rfl rfl (subL_cons rfl (subL_cons rfl subL_nil)) rfl rfl rfl (fun k => k ≤ s.length ∧ idxGo (fun c => !okByte c) s 0 = idxGo (fun c => !okByte c) (s.drop k) k) ⟨Nat.zero_le _, rfl⟩ ?_ ?_ | refine ok_seq ?_ | refine ok_region ?_ | fail) | (show thenQ _ _ _ _; first | refine then_n ?_ | fail) | fail)
  · rintro k ⟨hk, hi⟩ hlt ⟨w1, σ1, φ1, M1, n1, rd1, mk1⟩ hn hrd hmk raw
    dsimp only at hn hrd hmk
    subst hn hrd hmk
    repeat' (first | (show OkOps _ _ _ _ _ _; first | refine okops_nil ?_ | refine s_plain tabOk rfl rfl rfl rfl rfl ?_ | (show OkOps _ _ _ (Oper.mk _ (Op.call _) _ _ _ (_) :: _) _ _; first | refine s_callF rfl rfl rfl rfl rfl rfl rfl rfl (c281 _) rfl ?_ | fail) | fail) | (show OkC _ _ _ _ _; first | refine ok_seq ?_ | refine ok_region ?_ | refine ok_block ?_ | refine ok_skip ?_ | refine ok_ret ?_ | refine ok_condT rfl ?_ | refine ok_cond rfl (fun h => ?_) (fun h => ?_) | fail) | (show thenQ _ _ _ _; first | refine then_n ?_ | refine then_r ?_ | fail) | (show blockQ _ _ _ _; first | refine block_n ?_ | refine block_r ?_ | fail) | (show RetQ _ _ _ _ _ _; first | refine ret_leaf (.inl rfl) rfl rfl ?_ | fail) | (show strQ _ _ _ _ _ _; first | refine strQ_n ?_ (by first | exact subL_nil | exact (subL_cons rfl subL_nil) | exact (subL_cons rfl (subL_cons rfl subL_nil)) | exact (subL_cons rfl (subL_cons rfl (subL_cons rfl subL_nil))) | exact (subL_cons rfl (subL_cons rfl (subL_cons rfl (subL_cons rfl subL_nil)))) | exact (subL_cons rfl (subL_cons rfl (subL_cons rfl (subL_cons rfl (subL_cons rfl subL_nil))))) | exact (subL_cons rfl (subL_cons rfl (subL_cons rfl (subL_cons rfl (subL_cons rfl (subL_cons rfl subL_nil)))))) | exact (subL_cons rfl (subL_cons rfl (subL_cons rfl (subL_cons rfl (subL_cons rfl (subL_cons rfl (subL_cons rfl subL_nil)))))))) | refine strQ_x (by simp) ?_ | fail) | fail)
    · rw [odd_byte hlt] at h
      rw [hi, at_drop hlt]
      simp at h
      simp [idxGo, h]
    · rw [odd_byte hlt] at h
      have hb : okByte (at_ s k) = true := by simpa using h
      rw [ok_width hlt hb]
      refine ⟨by omega, ?_⟩
      rw [hi, at_drop hlt]
      simp [idxGo, hb]
  · rintro k ⟨hk, hi⟩ hge ⟨w1, σ1, φ1, M1, n1, rd1, mk1⟩ hn hrd hmk raw
    dsimp only at hn hrd hmk
    subst hn hrd hmk
    repeat' (first | (show OkOps _ _ _ _ _ _; first | refine okops_nil ?_ | refine s_plain tabOk rfl rfl rfl rfl rfl ?_ | fail) | (show OkC _ _ _ _ _; first | refine ok_seq ?_ | refine ok_region ?_ | refine ok_ret ?_ | refine ok_exit ?_ | refine ok_condF rfl ?_ | fail) | (show thenQ _ _ _ _; first | refine then_n ?_ | refine then_x ?_ | fail) | (show blockQ _ _ _ _; first | refine block_x rfl ?_ | fail) | (show RetQ _ _ _ _ _ _; first | refine ret_leaf (.inl rfl) rfl rfl ?_ | fail) | (show overQ _ _ _ _; first | refine overQ_x (by simp) ?_ | fail) | fail)
    rw [hi, List.drop_eq_nil_of_le hge]
    rfl
theorem c282 (s : List UInt8) : CallA Tryz.prog 282 [.one (.d (.str s)), .one (.d (.fn 281 []))] [] (.one (.d (.int .i64 (idxGo (fun c => !okByte c) s 0)))) [] := by
  refine enter tabOk Tryz.func282 rfl (by decide +kernel) rfl fun hok w0 σ0 φ0 M => ?_
  clear hok
  repeat' (first | (show OkOps _ _ _ _ _ _; first | refine okops_nil ?_ | refine s_plain tabOk rfl rfl rfl rfl rfl ?_ | (show OkOps _ _ _ (Oper.mk _ (Op.call _) _ _ _ (_) :: _) _ _; first | refine s_callF rfl rfl rfl rfl rfl rfl rfl rfl (c341 _) rfl ?_ | fail) | fail) | (show OkC _ _ _ _ _; first | refine ok_seq ?_ | refine ok_region ?_ | refine ok_ret ?_ | fail) | (show thenQ _ _ _ _; first | refine then_n ?_ | fail) | (show RetQ _ _ _ _ _ _; first | refine ret_leaf (.inl rfl) rfl rfl ?_ | fail) | fail)
  all_goals rfl
end Go.Proofs.YtpejdgkaapnekaaGreat
namespace Go.Proofs.YtpejdgkaapnekaaGreat
open Go Go.Abs
attribute [local irreducible] OkOps OkC DRun thenQ blockQ RetQ
set_option maxRecDepth 10000
set_option linter.unusedVariables false
set_option linter.unusedSimpArgs false
theorem c280' (a b : Int) (ha : 0 ≤ a) (hb : 0 ≤ b) : CallA Tryz.prog 280 [.one (.d (.int .i64 a)), .one (.d (.int .i64 b))] [] (.one (.d (.int .i64 ((Nat.gcd a.toNat b.toNat : Nat) : Int)))) [] := by
  have := c280 a.toNat b.toNat
  rwa [Int.toNat_of_nonneg ha, Int.toNat_of_nonneg hb] at this
theorem idx_all {s : List UInt8} : ∀ (k : Nat), (decide (idxGo (fun c => !okByte c) s k < 0)) = s.all okByte := by
  induction s with
  | nil => intro k; simp [idxGo]
  | cons c r ih =>
    intro k
    simp only [idxGo, List.all_cons, ← ih (k + 1)]
    rw [Bool.eq_iff_iff]
    by_cases hc : okByte c = true <;> simp [hc]
theorem c233 (k n d : Int) (s : List UInt8) : CallA Tryz.prog 233 [.agg [.d (.int .i64 k), .d (.int .i64 n), .d (.int .i64 d), .d (.str s)]] [] (.one (.d (.bool (rightF k n d s)))) [] := by
  refine enter tabOk Tryz.func233 rfl (by decide +kernel) rfl fun hok w0 σ0 φ0 M => ?_
  have h1 := (hok.1 (.d (.int .i64 n)) (by simp)); replace h1 := OkD.i64 h1; clear hok
  repeat' (first | (show OkOps _ _ _ _ _ _; first | refine okops_nil ?_ | refine s_plain tabOk rfl rfl rfl rfl rfl ?_ | (show OkOps _ _ _ (Oper.mk _ (_) _ _ _ (some _) :: _) _ _; first | refine s_guard rfl rfl (by first | assumption | rfl) ?_ | refine s_out rfl rfl (by first | assumption | rfl) rfl rfl ?_ | refine s_outN rfl rfl rfl rfl ?_ | refine s_split rfl rfl rfl rfl (fun h => ?_) (fun h => ?_) | fail) | (show OkOps _ _ _ (Oper.mk _ (Op.unOp .neg _ _) _ _ _ (_) :: _) _ _; first | refine s_e envOk rfl rfl rfl (step3_neg rfl rfl (wrap64 (by first | omega | ((try simp only [decide_eq_true_eq, decide_eq_false_iff_not, Bool.not_eq_true', Bool.not_true, Bool.not_false, List.length_map, bne_iff_ne, ne_eq, beq_iff_eq, bne_eq_false_iff_eq, beq_eq_false_iff_ne] at *); omega)) (by first | omega | ((try simp only [decide_eq_true_eq, decide_eq_false_iff_not, Bool.not_eq_true', Bool.not_true, Bool.not_false, List.length_map, bne_iff_ne, ne_eq, beq_iff_eq, bne_eq_false_iff_eq, beq_eq_false_iff_ne] at *); omega)))) ?_ | fail) | (show OkOps _ _ _ (Oper.mk _ (Op.pick _ _ _) _ _ _ (_) :: _) _ _; first | refine s_e envOk rfl rfl rfl (step3_pickT rfl rfl (by first | rfl | assumption) rfl) ?_ | refine s_e envOk rfl rfl rfl (step3_pickF rfl rfl (by first | rfl | assumption) rfl) ?_ | fail) | (show OkOps _ _ _ (Oper.mk _ (Op.call _) _ _ _ (_) :: _) _ _; first | refine s_callF rfl rfl rfl rfl rfl rfl rfl rfl (c279 _ _ _ _) rfl ?_ | refine s_callF rfl rfl rfl rfl rfl rfl rfl rfl (c280' _ _ (by first | omega | ((try simp only [decide_eq_true_eq, decide_eq_false_iff_not, Bool.not_eq_true', Bool.not_true, Bool.not_false, List.length_map, bne_iff_ne, ne_eq, beq_iff_eq, bne_eq_false_iff_eq, beq_eq_false_iff_ne] at *); omega)) (by first | omega | ((try simp only [decide_eq_true_eq, decide_eq_false_iff_not, Bool.not_eq_true', Bool.not_true, Bool.not_false, List.length_map, bne_iff_ne, ne_eq, beq_iff_eq, bne_eq_false_iff_eq, beq_eq_false_iff_ne] at *); omega))) rfl ?_ | refine s_callF rfl rfl rfl rfl rfl rfl rfl rfl (c282 _) rfl ?_ | fail) | (show OkOps _ _ _ (Oper.mk _ (Op.box _ _) _ _ _ (_) :: _) _ _; first | refine s_box 0 rfl rfl rfl rfl rfl rfl ?_ | fail) | fail) | (show OkC _ _ _ _ _; first | refine ok_seq ?_ | refine ok_region ?_ | refine ok_block ?_ | refine ok_skip ?_ | refine ok_ret ?_ | refine ok_cond rfl (fun h => ?_) (fun h => ?_) | fail) | (show thenQ _ _ _ _; first | refine then_n ?_ | refine then_r ?_ | fail) | (show blockQ _ _ _ _; first | refine block_n ?_ | refine block_r ?_ | fail) | (show RetQ _ _ _ _ _ _; first | refine ret_leaf (.inl rfl) rfl rfl ?_ | fail) | fail)
  all_goals (try (((simp_all [rightF, ← idx_all 0, at_drop, List.drop_eq_nil_of_le]) <;> first | omega | (rw [Bool.eq_iff_iff]; simp; omega) | grind); done))
end Go.Proofs.YtpejdgkaapnekaaGreat
namespace Go.Proofs.YtpejdgkaapnekaaGreat
open Go Go.Abs
attribute [local irreducible] OkOps OkC DRun thenQ blockQ RetQ
set_option maxRecDepth 10000
set_option linter.unusedVariables false
set_option linter.unusedSimpArgs false
theorem c225 (k n d : Int) (s : List UInt8) : CallA Tryz.prog 225 [.agg [.d (.int .i64 k), .d (.int .i64 n), .d (.int .i64 d), .d (.str s)]] [] (.one (.d (.int .i64 (if rightF k n d s then 0 else 2)))) [] := by
  refine enter tabOk Tryz.func225 rfl (by decide +kernel) rfl fun hok w0 σ0 φ0 M => ?_
  repeat' (first | (show OkOps _ _ _ _ _ _; first | refine okops_nil ?_ | refine s_plain tabOk rfl rfl rfl rfl rfl ?_ | (show OkOps _ _ _ (Oper.mk _ (Op.call _) _ _ _ (_) :: _) _ _; first | refine s_callF rfl rfl rfl rfl rfl rfl rfl rfl (c233 _ _ _ _) rfl ?_ | fail) | (show OkOps _ _ _ (Oper.mk _ (Op.box _ _) _ _ _ (_) :: _) _ _; first | refine s_box 0 rfl rfl rfl rfl rfl rfl ?_ | fail) | fail) | (show OkC _ _ _ _ _; first | refine ok_seq ?_ | refine ok_region ?_ | refine ok_skip ?_ | refine ok_ret ?_ | refine ok_cond rfl (fun h => ?_) (fun h => ?_) | fail) | (show thenQ _ _ _ _; first | refine then_n ?_ | refine then_r ?_ | fail) | (show RetQ _ _ _ _ _ _; first | refine ret_leaf (.inl rfl) rfl rfl ?_ | fail) | fail)
  all_goals (try (((simp_all [at_drop, List.drop_eq_nil_of_le]) <;> first | omega | (rw [Bool.eq_iff_iff]; simp; omega) | grind); done))
theorem c215 (k n d : Int) (s : List UInt8) (t : Int) : CallA Tryz.prog 215 [.agg [.d (.int .i64 k), .d (.int .i64 n), .d (.int .i64 d), .d (.str s)], .one (.d (.int .i64 t))] [] (.one (.d (.bool (fitsF k n d s t)))) [] := by
  refine enter tabOk Tryz.func215 rfl (by decide +kernel) rfl fun hok w0 σ0 φ0 M => ?_
  clear hok
  repeat' (first | (show OkOps _ _ _ _ _ _; first | refine okops_nil ?_ | refine s_plain tabOk rfl rfl rfl rfl rfl ?_ | (show OkOps _ _ _ (Oper.mk _ (_) _ _ _ (some _) :: _) _ _; first | refine s_guard rfl rfl (by first | assumption | rfl) ?_ | refine s_out rfl rfl (by first | assumption | rfl) rfl rfl ?_ | refine s_outN rfl rfl rfl rfl ?_ | refine s_split rfl rfl rfl rfl (fun h => ?_) (fun h => ?_) | fail) | (show OkOps _ _ _ (Oper.mk _ (Op.pick _ _ _) _ _ _ (_) :: _) _ _; first | refine s_e envOk rfl rfl rfl (step3_pickT rfl rfl (by first | rfl | assumption) rfl) ?_ | refine s_e envOk rfl rfl rfl (step3_pickF rfl rfl (by first | rfl | assumption) rfl) ?_ | fail) | (show OkOps _ _ _ (Oper.mk _ (Op.call _) _ _ _ (_) :: _) _ _; first | refine s_callF rfl rfl rfl rfl rfl rfl rfl rfl (c233 _ _ _ _) rfl ?_ | fail) | (show OkOps _ _ _ (Oper.mk _ (Op.box _ _) _ _ _ (_) :: _) _ _; first | refine s_box 0 rfl rfl rfl rfl rfl rfl ?_ | fail) | fail) | (show OkC _ _ _ _ _; first | refine ok_seq ?_ | refine ok_region ?_ | refine ok_block ?_ | refine ok_skip ?_ | refine ok_ret ?_ | refine ok_condT rfl ?_ | refine ok_cond rfl (fun h => ?_) (fun h => ?_) | fail) | (show thenQ _ _ _ _; first | refine then_n ?_ | refine then_r ?_ | fail) | (show blockQ _ _ _ _; first | refine block_n ?_ | refine block_r ?_ | fail) | (show RetQ _ _ _ _ _ _; first | refine ret_leaf (.inl rfl) rfl rfl ?_ | fail) | fail)
  all_goals (try (((simp_all [fitsF, at_drop, List.drop_eq_nil_of_le]) <;> first | omega | (rw [Bool.eq_iff_iff]; simp; omega) | grind); done))
  all_goals (by_cases hk : k = 0 <;> simp_all [fitsF, rightF])
  all_goals omega
end Go.Proofs.YtpejdgkaapnekaaGreat
namespace Go.Proofs.YtpejdgkaapnekaaGreat
open Go Go.Abs
attribute [local irreducible] OkOps OkC DRun thenQ blockQ RetQ
set_option maxRecDepth 10000
set_option linter.unusedVariables false
set_option linter.unusedSimpArgs false
def typeOfF (k n d : Int) (s : List UInt8) : Int := if fitsF k n d s 1 then 1 else if fitsF k n d s 2 then 2 else if fitsF k n d s 3 then 3 else 4
theorem c174 (k n d : Int) (s : List UInt8) : CallA Tryz.prog 174 [.agg [.d (.int .i64 k), .d (.int .i64 n), .d (.int .i64 d), .d (.str s)]] [] (.one (.d (.int .i64 (typeOfF k n d s)))) [] := by
  refine enter tabOk Tryz.func174 rfl (by decide +kernel) rfl fun hok w0 σ0 φ0 M => ?_
  clear hok
  repeat' (first | (show OkOps _ _ _ _ _ _; first | refine okops_nil ?_ | refine s_plain tabOk rfl rfl rfl rfl rfl ?_ | (show OkOps _ _ _ (Oper.mk _ (Op.binOp .add _ _ _ _) _ _ _ (_) :: _) _ _; first | refine s_e envOk rfl rfl rfl (step3_add rfl rfl rfl rfl (wrap64 (by omega) (by omega))) ?_ | fail) | (show OkOps _ _ _ (Oper.mk _ (Op.call _) _ _ _ (_) :: _) _ _; first | refine s_callF rfl rfl rfl rfl rfl rfl rfl rfl (c215 _ _ _ _ _) rfl ?_ | fail) | (show OkOps _ _ _ (Oper.mk _ (Op.box _ _) _ _ _ (_) :: _) _ _; first | refine s_box 0 rfl rfl rfl rfl rfl rfl ?_ | fail) | refine s_e envOk rfl rfl rfl rfl ?_ | refine s_new envOk 1 rfl rfl rfl rfl rfl rfl ?_ | fail) | (show OkC _ _ _ _ _; first | refine ok_seq ?_ | refine ok_region ?_ | refine ok_block ?_ | refine ok_skip ?_ | refine ok_ret ?_ | refine ok_exit ?_ | refine ok_condT rfl ?_ | refine ok_condF rfl ?_ | refine ok_cond rfl (fun h => ?_) (fun h => ?_) | refine ok_rounds 2 rfl 4 ?_ | fail) | (show thenQ _ _ _ _; first | refine then_n ?_ | refine then_r ?_ | refine then_x ?_ | fail) | (show blockQ _ _ _ _; first | refine block_n ?_ | refine block_r ?_ | refine block_x rfl ?_ | fail) | (show RetQ _ _ _ _ _ _; first | refine ret_leaf (.inl rfl) rfl rfl ?_ | fail) | fail)
  all_goals (try (((simp_all [typeOfF, at_drop, List.drop_eq_nil_of_le]) <;> first | omega | (rw [Bool.eq_iff_iff]; simp; omega) | grind); done))
end Go.Proofs.YtpejdgkaapnekaaGreat
namespace Go.Proofs.YtpejdgkaapnekaaGreat
open Go Go.Abs
set_option linter.unusedVariables false
set_option linter.unusedSimpArgs false
/-! ### types of scalars, plainly -/
def atI (ats : List Attr) (name : List UInt8) : Int := idxGo (fun a : Attr => a.name == name) ats 0
def dimI (ds : List Dim) (name : List UInt8) : Int := idxGo (fun a : Dim => a.name == name) ds 0
def tyAttr (ats : List Attr) (name : List UInt8) : Int × Int := if atI ats name < 0 then (0, 11) else ((at_ ats (atI ats name).toNat).type, 0)
def tyDim (ds : List Dim) (name : List UInt8) : Int × Int := if dimI ds name < 0 then (0, 11) else (2, 0)
mutual
def typR (cst : Val → Int) (ds : List Dim) (ats : List Attr) : Scalar → Int × Int
  | .mk o n v a => if o = 1 then (cst v, 0) else if o = 2 then tyAttr ats n else if o = 3 then tyDim ds n else
    match typRs cst ds ats a with
    | .inl e => (0, e)
    | .inr l => exTypeF o l
def typRs (cst : Val → Int) (ds : List Dim) (ats : List Attr) : List Scalar → Sum Int (List Int)
  | [] => .inr []
  | x :: r => if (typR cst ds ats x).2 ≠ 0 then .inl (typR cst ds ats x).2 else
    match typRs cst ds ats r with
    | .inl e => .inl e
    | .inr l => .inr ((typR cst ds ats x).1 :: l)
end
theorem typR_eq {cst : Val → Int} {ds : List Dim} {ats : List Attr} : ∀ {s : Scalar}, typR cst ds ats s = if s.op = 1 then (cst s.val, 0) else if s.op = 2 then tyAttr ats s.name else if s.op = 3 then tyDim ds s.name else
    match typRs cst ds ats s.args with
    | .inl e => (0, e)
    | .inr l => exTypeF s.op l
  | .mk _ _ _ _ => by simp only [typR, Scalar.op, Scalar.name, Scalar.val, Scalar.args]; rfl
theorem typRs_len {cst : Val → Int} {ds : List Dim} {ats : List Attr} : ∀ {a : List Scalar} {l : List Int}, typRs cst ds ats a = .inr l → l.length = a.length
  | [], l, h => by simp [typRs] at h; subst h; rfl
  | x :: r, l, h => by
    simp only [typRs] at h
    split at h
    · cases h
    · split at h
      · cases h
      · rename_i l2 h2
        cases h
        simp [typRs_len h2]
/-- the constants' types, as the program and as the reference find them -/
def cstP (v : Val) : Int := typeOfF v.kind v.num v.den v.str
def cstR (v : Val) : Int := if v.kind = 1 then 1 else if v.kind = 3 then 4 else if v.den = 1 then 2 else 3
theorem cst_eq {v : Val} (h : rightF v.kind v.num v.den v.str = true) (h0 : v.kind ≠ 0) : cstP v = cstR v := by
  have hf : ∀ t, fitsF v.kind v.num v.den v.str t = (decide (1 ≤ t) && (decide (t ≤ 4) && (if v.kind = 0 then true else if v.kind = 1 then t == 1 else if v.kind = 2 then t == 3 || t == 2 && v.den == 1 else t == 4))) := by
    intro t; unfold fitsF; rw [h, Bool.true_and]
  have hk : v.kind = 1 ∨ v.kind = 2 ∨ v.kind = 3 := by
    unfold rightF at h
    by_cases h1 : v.kind = 1
    · exact .inl h1
    · by_cases h2 : v.kind = 2
      · exact .inr (.inl h2)
      · by_cases h3 : v.kind = 3
        · exact .inr (.inr h3)
        · simp [h0, h1, h2, h3] at h
  unfold cstP cstR typeOfF
  rw [hf, hf, hf]
  rcases hk with hk | hk | hk <;> rw [hk] <;> simp
  all_goals (by_cases hd : v.den = 1 <;> simp [hd])
theorem typRs_cst {f g : Val → Int} {ds : List Dim} {ats : List Attr} : ∀ {l : List Scalar}, (∀ x ∈ l, typR f ds ats x = typR g ds ats x) → typRs f ds ats l = typRs g ds ats l
  | [], _ => rfl
  | x :: r, h => by
    simp only [typRs, h x (by simp), typRs_cst fun y hy => h y (List.mem_cons_of_mem _ hy)]
theorem partsL_mem : ∀ {l : List Scalar}, partsL l = true → ∀ x ∈ l, partsF x = true
  | [], _, x, h => by simp at h
  | y :: r, h, x, hx => by
    simp only [partsL, Bool.and_eq_true] at h
    rcases List.mem_cons.1 hx with rfl | hx
    · exact h.1
    · exact partsL_mem h.2 x hx
theorem part_const {s : Scalar} (h : partF s = true) (ho : s.op = 1) : rightF s.val.kind s.val.num s.val.den s.val.str = true ∧ s.val.kind ≠ 0 := by
  unfold partF at h
  rw [if_pos ho] at h
  simp only [Bool.and_eq_true, Bool.not_eq_true', beq_eq_false_iff_ne] at h
  exact ⟨h.1, h.2.1⟩
theorem typ_same {ds : List Dim} {ats : List Attr} (s : Scalar) : partsF s = true → typR cstP ds ats s = typR cstR ds ats s := by
  induction s using Scalar.ind with
  | h s ih =>
    intro h
    rw [partsF_eq, Bool.and_eq_true] at h
    rw [typR_eq, typR_eq, typRs_cst (f := cstP) (g := cstR) fun x hx => ih x hx (partsL_mem h.2 x hx)]
    by_cases ho : s.op = 1
    · rw [if_pos ho, if_pos ho]
      obtain ⟨h1, h2⟩ := part_const h.1 ho
      rw [cst_eq h1 h2]
    · rw [if_neg ho, if_neg ho]
theorem part_args {s : Scalar} (h : partF s = true) (h1 : s.op ≠ 1) (h2 : s.op ≠ 2) (h3 : s.op ≠ 3) : (4 ≤ s.op ∧ s.op ≤ 22) ∧ (s.args.length : Int) = arity s.op := by
  unfold partF at h
  rw [if_neg h1, if_neg (by rintro (h | h); exact h2 h; exact h3 h)] at h
  simp only [Bool.and_eq_true, decide_eq_true_eq, beq_iff_eq] at h
  refine ⟨?_, h.2.2.2⟩
  have := h.1
  unfold arity at this
  omega
/-- the machine of the program: a stack, whether it is over, and the error -/
def F88 (ds : List Dim) (ats : List Attr) (a : List Int × Bool × Int) (x : Scalar) : Bool × (List Int × Bool × Int) :=
  let push := fun (l : List Int) (p : Int × Int) => if p.2 ≠ 0 then (false, (a.1, true, p.2)) else (true, (l ++ [p.1], false, (0 : Int)))
  if x.op = 1 then push a.1 (cstP x.val, 0) else if x.op = 2 then push a.1 (tyAttr ats x.name) else if x.op = 3 then push a.1 (tyDim ds x.name) else
    push (a.1.take (a.1.length - x.args.length)) (exTypeF x.op (a.1.drop (a.1.length - x.args.length)))
def ok88 (a : List Int × Bool × Int) (x : Scalar) : Prop := a.2.1 = false ∧ a.2.2 = 0 ∧ partF x = true ∧ a.1.length ≤ 64 ∧ (4 ≤ x.op → x.args.length ≤ a.1.length)
theorem okRun_of_app {ds : List Dim} {ats : List Attr} : ∀ {l m : List Scalar} {a : List Int × Bool × Int}, OkRun (F88 ds ats) ok88 l a → ((runF (F88 ds ats) l a).1 = true → OkRun (F88 ds ats) ok88 m (runF (F88 ds ats) l a).2) → OkRun (F88 ds ats) ok88 (l ++ m) a
    | [], _, _, _, h => h rfl
    | x :: l, m, a, h1, h2 => by
      simp only [List.cons_append, OkRun] at h1 ⊢
      refine ⟨h1.1, fun hx => okRun_of_app (h1.2 hx) fun h => ?_⟩
      have e : runF (F88 ds ats) (x :: l) a = runF (F88 ds ats) l (F88 ds ats a x).2 := by simp only [runF]; rw [if_pos hx]
      rw [e] at h2; exact h2 h
theorem mach_list {ds : List Dim} {ats : List Attr} : ∀ {r : List Scalar},
    (∀ x ∈ r, ∀ l : List Int, l.length + (postL x).length ≤ 65 → OkRun (F88 ds ats) ok88 (postL x) (l, false, 0) ∧ (if (typR cstP ds ats x).2 = 0 then runF (F88 ds ats) (postL x) (l, false, 0) = (true, (l ++ [(typR cstP ds ats x).1], false, 0)) else ∃ l', runF (F88 ds ats) (postL x) (l, false, 0) = (false, (l', true, (typR cstP ds ats x).2)))) →
    ∀ l : List Int, l.length + (postLs r).length ≤ 65 → OkRun (F88 ds ats) ok88 (postLs r) (l, false, 0) ∧ (match typRs cstP ds ats r with
      | .inr ts => runF (F88 ds ats) (postLs r) (l, false, 0) = (true, (l ++ ts, false, 0))
      | .inl e => e ≠ 0 ∧ ∃ l', runF (F88 ds ats) (postLs r) (l, false, 0) = (false, (l', true, e)))
  | [], _, l, hl => ⟨trivial, by simp [typRs, postLs, runF]⟩
  | x :: r, h, l, hl => by
    have hp : 1 ≤ (postL x).length := by rw [postL_eq]; simp
    simp only [postLs, List.length_append] at hl
    obtain ⟨h1, h2⟩ := h x (by simp) l (by omega)
    simp only [postLs, typRs]
    by_cases hz : (typR cstP ds ats x).2 = 0
    · rw [if_pos hz] at h2
      have ih := mach_list (r := r) (fun y hy => h y (List.mem_cons_of_mem _ hy)) (l ++ [(typR cstP ds ats x).1]) (by simp; omega)
      rw [runF_app, h2]
      simp only [if_true, hz, ne_eq, not_true_eq_false, if_false]
      refine ⟨okRun_of_app h1 (fun _ => by rw [h2]; exact ih.1), ?_⟩
      have ih2 := ih.2
      cases ht : typRs cstP ds ats r with
      | inl e => rw [ht] at ih2; exact ih2
      | inr ts => rw [ht] at ih2; simpa using ih2
    · rw [if_neg hz] at h2
      obtain ⟨l', h2⟩ := h2
      rw [runF_app, h2]
      simp only [Bool.false_eq_true, if_false, hz, ne_eq, not_false_eq_true, if_true]
      exact ⟨okRun_of_app h1 (fun h => by rw [h2] at h; cases h), trivial, l', rfl⟩
theorem postLs_len : ∀ {r : List Scalar}, r.length ≤ (postLs r).length
  | [] => Nat.le_refl _
  | x :: r => by
    have := postLs_len (r := r)
    have hp : 1 ≤ (postL x).length := by rw [postL_eq]; simp
    simp only [postLs, List.length_append, List.length_cons]; omega
theorem part_nil {s : Scalar} (h : partF s = true) (h3 : s.op = 1 ∨ s.op = 2 ∨ s.op = 3) : s.args = [] := by
  have : s.args.length = 0 := by
    unfold partF at h
    by_cases h1 : s.op = 1
    · rw [if_pos h1] at h
      simp only [Bool.and_eq_true, beq_iff_eq] at h
      omega
    · rw [if_neg h1, if_pos (by omega)] at h
      simp only [Bool.and_eq_true, beq_iff_eq] at h
      omega
  exact List.length_eq_zero_iff.1 this
theorem mach {ds : List Dim} {ats : List Attr} (s : Scalar) : partsF s = true → ∀ l : List Int, l.length + (postL s).length ≤ 65 → OkRun (F88 ds ats) ok88 (postL s) (l, false, 0) ∧
    (if (typR cstP ds ats s).2 = 0 then runF (F88 ds ats) (postL s) (l, false, 0) = (true, (l ++ [(typR cstP ds ats s).1], false, 0)) else ∃ l', runF (F88 ds ats) (postL s) (l, false, 0) = (false, (l', true, (typR cstP ds ats s).2))) := by
  induction s using Scalar.ind with
  | h s ih =>
    intro hp l hl
    rw [partsF_eq, Bool.and_eq_true] at hp
    have hL := mach_list (ds := ds) (ats := ats) (r := s.args) (fun x hx l hl => ih x hx (partsL_mem hp.2 x hx) l hl)
    rw [postL_eq] at hl ⊢
    simp only [List.length_append, List.length_cons, List.length_nil] at hl
    by_cases h3 : s.op = 1 ∨ s.op = 2 ∨ s.op = 3
    · have ha : s.args = [] := part_nil hp.1 h3
      have hok : ok88 (l, false, 0) s := ⟨rfl, rfl, hp.1, by show l.length ≤ 64; omega, fun h => by omega⟩
      have hF : F88 ds ats (l, false, 0) s = if (typR cstP ds ats s).2 ≠ 0 then (false, (l, true, (typR cstP ds ats s).2)) else (true, (l ++ [(typR cstP ds ats s).1], false, 0)) := by
        rw [typR_eq]; simp only [F88]
        rcases h3 with h3 | h3 | h3 <;> simp [h3]
      rw [ha]
      simp only [postLs, List.nil_append, OkRun, runF]
      rw [hF]
      refine ⟨⟨hok, fun _ => trivial⟩, ?_⟩
      by_cases hz : (typR cstP ds ats s).2 = 0
      · rw [if_pos hz]; simp [hz]
      · rw [if_neg hz]; exact ⟨l, by simp [hz]⟩
    · obtain ⟨hop, hlen⟩ := part_args hp.1 (fun h => h3 (.inl h)) (fun h => h3 (.inr (.inl h))) (fun h => h3 (.inr (.inr h)))
      obtain ⟨h4, h5⟩ := hL l (by omega)
      rw [typR_eq, if_neg (fun h => h3 (.inl h)), if_neg (fun h => h3 (.inr (.inl h))), if_neg (fun h => h3 (.inr (.inr h)))]
      cases ht : typRs cstP ds ats s.args with
      | inl e =>
        rw [ht] at h5
        obtain ⟨he, l', h5⟩ := h5
        refine ⟨okRun_of_app h4 (fun h => by rw [h5] at h; cases h), ?_⟩
        simp only
        rw [if_neg he, runF_app, h5]
        exact ⟨l', by simp⟩
      | inr ts =>
        rw [ht] at h5
        simp only at h5
        have hts := typRs_len ht
        have hle := postLs_len (r := s.args)
        have hF : F88 ds ats (l ++ ts, false, 0) s = if (exTypeF s.op ts).2 ≠ 0 then (false, (l ++ ts, true, (exTypeF s.op ts).2)) else (true, (l ++ [(exTypeF s.op ts).1], false, 0)) := by
          have hd : (l ++ ts).length - s.args.length = l.length := by simp [hts]
          simp only [F88]
          rw [if_neg (fun h => h3 (.inl h)), if_neg (fun h => h3 (.inr (.inl h))), if_neg (fun h => h3 (.inr (.inr h))), hd]
          simp
        refine ⟨okRun_of_app h4 (fun _ => ?_), ?_⟩
        · rw [h5]
          exact ⟨⟨rfl, rfl, hp.1, by simp; omega, fun _ => by simp [hts]⟩, fun _ => trivial⟩
        · simp only
          rw [runF_app, h5]
          simp only [if_true, runF, hF]
          by_cases hz : (exTypeF s.op ts).2 = 0
          · rw [if_pos hz]; simp [hz]
          · rw [if_neg hz]; exact ⟨l ++ ts, by simp [hz]⟩
theorem idxGo_range {α : Type} {p : α → Bool} : ∀ {l : List α} {k : Nat}, 0 ≤ idxGo p l k → (k : Int) ≤ idxGo p l k ∧ idxGo p l k < k + l.length
  | [], k, h => by simp [idxGo] at h
  | x :: r, k, h => by
    simp only [idxGo] at h ⊢
    split at h
    · rename_i hx; rw [if_pos hx]; simp only [List.length_cons]; omega
    · rename_i hx; rw [if_neg hx]
      have := idxGo_range (l := r) (k := k + 1) h
      simp only [List.length_cons]; omega
theorem exType_err {o : Int} {l : List Int} (h : (exTypeF o l).2 ≠ 0) : (exTypeF o l).1 = 0 := by
  unfold exTypeF at h ⊢
  by_cases h4 : l.all okType = true
  · rw [if_pos h4] at h ⊢
    by_cases h5 : typedF o (at_ l 0) (at_ l 1) (at_ l 2) = 0
    · rw [if_pos h5]
    · rw [if_neg h5] at h; simp at h
  · rw [if_neg h4]
theorem typR_err {cst : Val → Int} {ds : List Dim} {ats : List Attr} {s : Scalar} (h : (typR cst ds ats s).2 ≠ 0) : (typR cst ds ats s).1 = 0 := by
  rw [typR_eq] at h ⊢
  split
  · rename_i h1; rw [if_pos h1] at h; simp at h
  · rename_i h1; rw [if_neg h1] at h
    split
    · rename_i h2; rw [if_pos h2] at h; unfold tyAttr at h ⊢; split <;> simp_all
    · rename_i h2; rw [if_neg h2] at h
      split
      · rename_i h3; rw [if_pos h3] at h; unfold tyDim at h ⊢; split <;> simp_all
      · rename_i h3; rw [if_neg h3] at h
        cases ht : typRs cst ds ats s.args with
        | inl e => rfl
        | inr l => rw [ht] at h; exact exType_err h
end Go.Proofs.YtpejdgkaapnekaaGreat
-- SymM
namespace Go.Proofs.YtpejdgkaapnekaaGreat
open Go Go.Abs
attribute [local irreducible] OkOps OkC DRun thenQ blockQ RetQ
set_option maxRecDepth 10000
set_option linter.unusedVariables false
set_option linter.unusedSimpArgs false
theorem op_cases22 {op : Int} (h : 1 ≤ op ∧ op ≤ 22) : op = 1 ∨ op = 2 ∨ op = 3 ∨ op = 4 ∨ op = 5 ∨ op = 6 ∨ op = 7 ∨ op = 8 ∨ op = 9 ∨ op = 10 ∨ op = 11 ∨ op = 12 ∨ op = 13 ∨ op = 14 ∨ op = 15 ∨ op = 16 ∨ op = 17 ∨ op = 18 ∨ op = 19 ∨ op = 20 ∨ op = 21 ∨ op = 22 := by omega
theorem needAt {op : Int} (h : 1 ≤ op ∧ op ≤ 22) : idxA env.T 208 (some (.one (.d (.int .i64 op)))) (some (.agg needsL)) = some (.agg [.d (.int .i64 (arity op)), .d (.bool (decide (op = 2) || decide (op = 3))), .d (.bool (decide (op = 1)))]) := by
  rcases op_cases22 h with rfl | rfl | rfl | rfl | rfl | rfl | rfl | rfl | rfl | rfl | rfl | rfl | rfl | rfl | rfl | rfl | rfl | rfl | rfl | rfl | rfl | rfl <;> rfl
theorem arity_sc {op : Int} : (op = 1 ∨ op = 2 ∨ op = 3) → arity op = 0 := by
  rintro (rfl | rfl | rfl) <;> rfl
theorem c173 (s : Scalar) : CallA Tryz.prog 173 [aggS s] [] (.one (.d (.bool (partF s)))) [] := by
  refine enter tabOk Tryz.func173 rfl (by decide +kernel) rfl fun hok w0 σ0 φ0 M => ?_
  clear hok
  repeat' (first | (show OkOps _ _ _ _ _ _; first | refine okops_nil ?_ | refine s_plain tabOk rfl rfl rfl rfl rfl ?_ | (show OkOps _ _ _ (Oper.mk _ (_) _ _ _ (some _) :: _) _ _; first | refine s_guard rfl rfl (by first | assumption | rfl) ?_ | refine s_out rfl rfl (by first | assumption | rfl) rfl rfl ?_ | refine s_outN rfl rfl rfl rfl ?_ | refine s_split rfl rfl rfl rfl (fun h => ?_) (fun h => ?_) | fail) | (show OkOps _ _ _ (Oper.mk _ (Op.pick _ _ _) _ _ _ (_) :: _) _ _; first | refine s_e envOk rfl rfl rfl (step3_pickT rfl rfl (by first | rfl | assumption) rfl) ?_ | refine s_e envOk rfl rfl rfl (step3_pickF rfl rfl (by first | rfl | assumption) rfl) ?_ | fail) | (show OkOps _ _ _ (Oper.mk _ (Op.call _) _ _ _ (_) :: _) _ _; first | refine s_callF rfl rfl rfl rfl rfl rfl rfl rfl (c225 _ _ _ _) rfl ?_ | fail) | (show OkOps _ _ _ (Oper.mk _ (Op.box _ _) _ _ _ (_) :: _) _ _; first | refine s_box 0 rfl rfl rfl rfl rfl rfl ?_ | fail) | refine s_e envOk rfl rfl rfl rfl ?_ | fail) | (show OkC _ _ _ _ _; first | refine ok_seq ?_ | refine ok_region ?_ | refine ok_skip ?_ | refine ok_ret ?_ | refine ok_condT rfl ?_ | refine ok_cond rfl (fun h => ?_) (fun h => ?_) | refine ok_regionD progOk.mo ?_ | fail) | (show thenQ _ _ _ _; first | refine then_n ?_ | refine then_r ?_ | fail) | (show RetQ _ _ _ _ _ _; first | refine ret_leaf (.inl rfl) rfl rfl ?_ | fail) | (show DRun _ _ _ _ _ _ _ _; first | refine d_nil (by kernel_rfl) ?_ | refine d_e envOk rfl rfl rfl (step3_plain rfl rfl) ?_ | (show DRun _ _ _ _ (Oper.mk _ (Op.index _ _ _) _ _ _ (_) :: _) _ _ _; first | refine d_e envOk rfl rfl rfl (step3_idxArr rfl rfl rfl rfl (needAt (by first | omega | ((try simp only [decide_eq_true_eq, decide_eq_false_iff_not, Bool.not_eq_true', Bool.not_true, Bool.not_false, List.length_map, bne_iff_ne, ne_eq, beq_iff_eq, bne_eq_false_iff_eq, beq_eq_false_iff_ne] at *); omega)))) ?_ | fail) | (show DRun _ _ _ _ (Oper.mk _ (Op.call _) _ _ _ (_) :: _) _ _ _; first | refine d_l rfl rfl (loc_callF' rfl rfl rfl rfl rfl rfl (c224) rfl) ?_ | fail) | refine d_new envOk 1 rfl rfl rfl rfl rfl rfl ?_ | refine d_store envOk rfl rfl rfl ?_ | fail) | fail)
  all_goals (try rw [zeroV_eq] at *)
  all_goals (try (((simp_all [partF, arity, zeroV_eq, at_drop, List.drop_eq_nil_of_le]) <;> first | omega | (rw [Bool.eq_iff_iff]; simp; omega) | grind); done))
end Go.Proofs.YtpejdgkaapnekaaGreat
-- Sym2
-- SymM
namespace Go.Proofs.YtpejdgkaapnekaaGreat
open Go Go.Abs
attribute [local irreducible] OkOps OkC DRun thenQ blockQ RetQ OkR normQ RoundQ AssignQ retQ
set_option maxRecDepth 10000
set_option linter.unusedVariables false
set_option linter.unusedSimpArgs false
/-! ### checkScalar -/
def st87 (d : Bool) : LoopState := if d then .done else .ready
def pe87 (d : Bool) : Option Code := if d then some .ret else none
def sto87 (li : LI) (fr : List (Nat × AV)) (a : Int × Bool × Bool) : Sto :=
  [(1000000, .loop li fr (st87 a.2.2) (pe87 a.2.2)), (1000001, .box [.d (.int .i64 (if a.2.2 then 9 else 0))]), (1000002, .box [.d (.int .i64 a.1)]), (1000003, .box [.d (.bool a.2.1)])]
def F87 (a : Int × Bool × Bool) (x : Scalar) : Bool × (Int × Bool × Bool) := if 64 < a.1 + 1 then (false, (a.1 + 1, a.2.1, true)) else (true, (a.1 + 1, a.2.1 && partF x, false))
def ok87 (a : Int × Bool × Bool) (x : Scalar) : Prop := a.2.2 = false ∧ 0 ≤ a.1 ∧ a.1 ≤ 64
theorem form_run : ∀ (l : List Scalar) (n : Int) (r : Bool), 0 ≤ n → n ≤ 64 → OkRun F87 ok87 l (n, r, false) ∧ formGo l n r = (if (runF F87 l (n, r, false)).2.2.2 = true then 9 else if (runF F87 l (n, r, false)).2.2.1 = true then 0 else 2)
  | [], n, r, h0, h1 => ⟨trivial, rfl⟩
  | x :: l, n, r, h0, h1 => by
    simp only [OkRun, runF, formGo, F87, ok87]
    by_cases h : 64 < n + 1
    · simp only [h, if_true]
      exact ⟨⟨⟨trivial, h0, h1⟩, fun h => by cases h⟩, rfl⟩
    · have ih := form_run l (n + 1) (r && partF x) (by omega) (by omega)
      simp only [h, if_false, if_true]
      exact ⟨⟨⟨trivial, h0, h1⟩, fun _ => ih.1⟩, ih.2⟩
theorem fam87 (li : LI) (fr : List (Nat × AV)) (hf : ∀ a, frIn (sto87 li fr a) fr = true) : FamW (sto87 li fr) := by
  refine ⟨fun a i e h => ?_, fun a => ?_, fun a => ⟨li, fr, st87 a.2.2, pe87 a.2.2, rfl⟩, fun a => rfl⟩
  · unfold sto87 at h
    rcases look_cons h with ⟨rfl, _⟩ | ⟨_, h⟩
    · omega
    rcases look_cons h with ⟨rfl, _⟩ | ⟨_, h⟩
    · omega
    rcases look_cons h with ⟨rfl, _⟩ | ⟨_, h⟩
    · omega
    rcases look_cons h with ⟨rfl, _⟩ | ⟨_, h⟩
    · omega
    · exact nomatch h
  · show (frIn (sto87 li fr a) fr && _) = true
    rw [hf a]; rfl
theorem y87 {li : LI} {fr : List (Nat × AV)} (a : Int × Bool × Bool) (x : Scalar) (hok : ok87 a x)
    (hps : (allBlt li.n li.params.toList && Nat.beq li.params.toList.length 1) = true)
    (h : ∀ (n : Int) (r : Bool), 0 ≤ n → n ≤ 64 → ∀ (w0 : World) (σ0 : Sig) (φ0 : Pl) (M : Nat → Prop) (B : Nat), OkC Tryz.prog ⟨w0, σ0, φ0, M, li.n, some B, []⟩ li.assign ⟨roundFr li.params.toList [aggS x] fr, sto87 li fr (n, r, false)⟩
      (AssignQ Tryz.prog 1000000 ⟨w0, σ0, φ0, M, li.n, some B, []⟩ li.body (.one (.d (.bool (F87 (n, r, false) x).1))) (sto87 li fr (F87 (n, r, false) x).2))) :
    YieldA Tryz.prog 1000000 [aggS x] (sto87 li fr a) (.one (.d (.bool (F87 a x).1))) (sto87 li fr (F87 a x).2) := by
  obtain ⟨n, r, d⟩ := a
  obtain ⟨rfl, h0, h1⟩ : d = false ∧ 0 ≤ n ∧ n ≤ 64 := hok
  exact yieldA_ok ⟨by omega, by omega⟩ rfl hps (h n r h0 h1)
theorem c87 (s : Scalar) : CallA Tryz.prog 87 [aggS s] [] (.one (.d (.int .i64 (formF s)))) [] := by
  obtain ⟨h0, hform⟩ := form_run (postL s) 0 true (by omega) (by omega)
  obtain ⟨⟨n', r', d'⟩, hR⟩ : ∃ a, (runF F87 (postL s) (0, true, false)).2 = a := ⟨_, rfl⟩
  rw [hR] at hform
  refine enter tabOk Tryz.func87 rfl (by decide +kernel) rfl fun hok w0 σ0 φ0 M => ?_
  clear hok
  repeat' (first | (show OkOps _ _ _ _ _ _; first | refine okops_nil ?_ | refine s_plain tabOk rfl rfl rfl rfl rfl ?_ | (show OkOps _ _ _ (Oper.mk _ (Op.call _) _ _ _ (_) :: _) _ _; first | refine s_callF rfl rfl rfl rfl rfl rfl rfl rfl (c172 12 s 12 rfl (by omega)) rfl ?_ | refine s_callD 16 rfl rfl rfl rfl rfl rfl rfl rfl (c162 _) rfl rfl rfl ?_ | fail) | (show OkOps _ _ _ (Oper.mk _ (Op.box _ _) _ _ _ (_) :: _) _ _; first | refine s_box 0 rfl rfl rfl rfl rfl rfl ?_ | fail) | (show OkOps _ _ _ (Oper.mk _ (Op.alloc _) _ _ _ (_) :: _) _ _; first | refine s_alloc tabOk 1 rfl rfl rfl rfl rfl ?_ | refine s_alloc tabOk 2 rfl rfl rfl rfl rfl ?_ | refine s_alloc tabOk 3 rfl rfl rfl rfl rfl ?_ | fail) | refine s_store envOk rfl rfl rfl ?_ | fail) | (show OkC _ _ _ _ _; first | refine ok_stopR2 ?_ | refine ok_seq ?_ | refine ok_region ?_ | refine ok_skip ?_ | refine ok_ret ?_ | refine ok_cond rfl (fun h => ?_) (fun h => ?_) | fail) | (show thenQ _ _ _ _; first | refine then_n ?_ | refine then_r ?_ | fail) | (show RetQ _ _ _ _ _ _; first | refine ret_leaf (.inl rfl) rfl rfl ?_ | fail) | (show normQ _ _ _; first | refine norm_n ?_ | fail) | fail)
  · simp [formF, h]
  · have hC := fun li fr hf hY => c216 (sto87 li fr) (fam87 li fr hf) F87 ok87 hY s (0, true, false) h0
    rw [hR] at hC
    refine ok_rangeS (f := 216) (caps := [.ptr (rowS s)]) (os := [(1, .box [.d (.int .i64 0)]), (2, .box [.d (.int .i64 0)]), (3, .box [.d (.bool true)])]) (rav := .tup []) [1, 2, 3] 10 rfl rfl rfl rfl (hC _ _ (fun a => ?_) (fun a x hok => ?_)) (by cases d' <;> rfl) (fun h => ?_) (fun h => ?_)
    · rfl
    · refine y87 a x hok rfl fun n r hn0 hn1 w0 σ0 φ0 M B => ?_
      clear hC hform hok a
      by_cases hb : 64 < n + 1
      · have e : F87 (n, r, false) x = (false, (n + 1, r, true)) := by simp [F87, hb]
        have hd : decide (64 < n + 1) = true := by simp [hb]
        rw [e]
        repeat' (first | (show OkOps _ _ _ _ _ _; first | refine okops_nil ?_ | refine s_plain tabOk rfl rfl rfl rfl rfl ?_ | (show OkOps _ _ _ (Oper.mk _ (Op.binOp .add _ _ _ _) _ _ _ (_) :: _) _ _; first | refine s_e envOk rfl rfl rfl (step3_add rfl rfl rfl rfl (wrap64 (by omega) (by omega))) ?_ | fail) | (show OkOps _ _ _ (Oper.mk _ (Op.alloc _) _ _ _ (_) :: _) _ _; first | refine s_alloc tabOk 0 rfl rfl rfl rfl rfl ?_ | fail) | refine s_store envOk rfl rfl rfl ?_ | fail) | (show OkC _ _ _ _ _; first | refine ok_seq ?_ | refine ok_region ?_ | refine ok_block ?_ | refine ok_ret ?_ | refine ok_condKT rfl (by assumption) ?_ | fail) | (show thenQ _ _ _ _; first | refine then_n ?_ | refine then_r ?_ | fail) | (show blockQ _ _ _ _; first | refine block_r ?_ | fail) | (show RoundQ _ _ _ _ _; first | refine round_j rfl rfl ?_ ?_ | fail) | (show AssignQ _ _ _ _ _ _ _ _; first | refine assign_n rfl ?_ | fail) | fail)
        · rfl
        · exact subL_cons rfl (subL_cons rfl (subL_cons rfl (subL_cons rfl subL_nil)))
      · have e : F87 (n, r, false) x = (true, (n + 1, r && partF x, false)) := by simp [F87, hb]
        have hd : decide (64 < n + 1) = false := by simp [hb]
        rw [e]
        cases r
        all_goals
          repeat' (first | (show OkOps _ _ _ _ _ _; first | refine okops_nil ?_ | refine s_plain tabOk rfl rfl rfl rfl rfl ?_ | (show OkOps _ _ _ (Oper.mk _ (_) _ _ _ (some _) :: _) _ _; first | refine s_guard rfl rfl (by first | assumption | rfl) ?_ | refine s_out rfl rfl (by first | assumption | rfl) rfl rfl ?_ | fail) | (show OkOps _ _ _ (Oper.mk _ (Op.binOp .add _ _ _ _) _ _ _ (_) :: _) _ _; first | refine s_e envOk rfl rfl rfl (step3_add rfl rfl rfl rfl (wrap64 (by omega) (by omega))) ?_ | fail) | (show OkOps _ _ _ (Oper.mk _ (Op.pick _ _ _) _ _ _ (_) :: _) _ _; first | refine s_e envOk rfl rfl rfl (step3_pickT rfl rfl (by first | rfl | assumption) rfl) ?_ | refine s_e envOk rfl rfl rfl (step3_pickF rfl rfl (by first | rfl | assumption) rfl) ?_ | fail) | (show OkOps _ _ _ (Oper.mk _ (Op.call _) _ _ _ (_) :: _) _ _; first | refine s_callF rfl rfl rfl rfl rfl rfl rfl rfl (c173 _) rfl ?_ | fail) | (show OkOps _ _ _ (Oper.mk _ (Op.alloc _) _ _ _ (_) :: _) _ _; first | refine s_alloc tabOk 0 rfl rfl rfl rfl rfl ?_ | fail) | refine s_store envOk rfl rfl rfl ?_ | fail) | (show OkC _ _ _ _ _; first | refine ok_seq ?_ | refine ok_region ?_ | refine ok_block ?_ | refine ok_skip ?_ | refine ok_condKF rfl (by assumption) ?_ | fail) | (show thenQ _ _ _ _; first | refine then_n ?_ | fail) | (show blockQ _ _ _ _; first | refine block_n ?_ | fail) | (show RoundQ _ _ _ _ _; first | refine round_n rfl ?_ ?_ | fail) | (show AssignQ _ _ _ _ _ _ _ _; first | refine assign_n rfl ?_ | fail) | fail)
          all_goals first | rfl | refine subL_cons ?_ (subL_cons ?_ (subL_cons ?_ (subL_cons ?_ subL_nil)))
          all_goals rfl
    · have : d' = false := by cases d' <;> simp [pe87] at h ⊢
      subst this
      rintro ⟨w1, σ1, φ1, M1, n1, rd1, mk1⟩ ⟨hn, hrd, _⟩
      dsimp only at hn hrd
      subst hn hrd
      repeat' (first | (show OkOps _ _ _ _ _ _; first | refine okops_nil ?_ | refine s_plain tabOk rfl rfl rfl rfl rfl ?_ | refine s_store envOk rfl rfl rfl ?_ | fail) | (show OkC _ _ _ _ _; first | refine ok_seq ?_ | refine ok_region ?_ | refine ok_skip ?_ | refine ok_ret ?_ | refine ok_cond rfl (fun h => ?_) (fun h => ?_) | fail) | (show thenQ _ _ _ _; first | refine then_n ?_ | refine then_r ?_ | fail) | (show RetQ _ _ _ _ _ _; first | refine ret_leaf (.inl rfl) rfl rfl ?_ | fail) | (show retQ _ _ _; first | refine retq_n ?_ | fail) | fail)
      all_goals simp_all [formF]
    · have : d' = true := by cases d' <;> simp [pe87] at h ⊢
      subst this
      repeat' (first | (show RetQ _ _ _ _ _ _; first | refine ret_leaf (.inl rfl) rfl rfl ?_ | fail) | fail)
      have hf : formF s = 9 := by rw [formF, hform]; simp_all
      rw [hf]; rfl
end Go.Proofs.YtpejdgkaapnekaaGreat
namespace Go.Abs
open Go
variable {P : Program} {c : Ctx} {σ σ' : Sig} {φ φ' : Pl} {w w' : World}
/-! ### a contract under other names -/
theorem HInv.ren {S : Sto} (r : Nat → Nat) (h : HInv σ φ S w) (hk : (nodupL (keysL S) && nodupL (mapN r (keysL S)) && fitG r (keysL S) && stoIn S S) = true) :
    ∃ φ', HInv σ φ' (renS r S) w ∧ (∀ j o, look S j = some o → look (renS r S) (r j) = some (renO r o) ∧ φ' (r j) = φ j) ∧ (∀ t e, look (renS r S) t = some e → ∃ j o, t = r j ∧ look S j = some o ∧ e = renO r o) ∧ ∀ t, Pin t → φ' t = φ t := by
  simp only [Bool.and_eq_true] at hk
  obtain ⟨⟨⟨h1, h2⟩, h3⟩, h4⟩ := hk
  classical
  let φ' : Pl := fun t => if h : ∃ i, i ∈ keysL S ∧ r i = t then φ h.choose else φ t
  have hφ : ∀ {i : Nat}, i ∈ keysL S → φ' (r i) = φ i := by
    intro i hi
    have hex : ∃ j, j ∈ keysL S ∧ r j = r i := ⟨i, hi, rfl⟩
    show (if h : ∃ j, j ∈ keysL S ∧ r j = r i then φ h.choose else φ (r i)) = φ i
    rw [dif_pos hex]
    have := hex.choose_spec
    rw [nodup_inj h2 this.1 hi this.2]
  have hR : ∀ j o, look S j = some o → look (renS r S) (r j) = some (renO r o) ∧ φ' (r j) = φ j := fun j o hj => ⟨renS_look h2 hj, hφ (look_key hj)⟩
  refine ⟨φ', ⟨h.sig, fun t e ht => ?_, fun t t' e e' p p' ht ht' hne hp hp' => ?_⟩, hR, fun t e ht => look_renS h1 ht, fun t ht => ?_⟩
  · obtain ⟨i, o, rfl, hi, rfl⟩ := look_renS h1 ht
    exact reObj hR hi (stoIn_look h4 hi) (h.obj _ _ hi)
  · obtain ⟨i, o, rfl, hi, rfl⟩ := look_renS h1 ht
    obtain ⟨i', o', rfl, hi', rfl⟩ := look_renS h1 ht'
    rw [(hR _ _ hi).2] at hp
    rw [(hR _ _ hi').2] at hp'
    exact h.inj _ _ _ _ _ _ hi hi' (fun e => hne (by rw [e])) hp hp'
  · show (if h : ∃ j, j ∈ keysL S ∧ r j = t then φ h.choose else φ t) = _
    split
    · rename_i hex
      have hs := hex.choose_spec
      have := fitG_ok h3 hs.1 (by rw [hs.2]; exact ht)
      rw [hs.2] at this
      rw [← this]
    · rfl
theorem repL_ren {S : Sto} {r : Nat → Nat} (hR : ∀ j o, look S j = some o → look (renS r S) (r j) = some (renO r o) ∧ φ' (r j) = φ j) : ∀ {avs : List AV} {vs : List Value}, avsIn S avs = true → All2 (RepV σ φ S) avs vs → All2 (RepV σ φ' (renS r S)) (renL r avs) vs
  | [], [], _, _ => trivial
  | x :: l, v :: vs, h, ha => by
    simp only [avsIn, Bool.and_eq_true] at h
    exact ⟨reV hR h.1 ha.1, repL_ren hR h.2 ha.2⟩
  | [], _ :: _, _, ha => ha.elim
  | _ :: _, [], _, ha => ha.elim
theorem callA_ren {f : FuncId} {avs avs0 : List AV} {s s0 s' s1 : Sto} {rav : AV} (q q' : Nat → Nat) (hC : CallA P f avs s rav s') (hs : renS q s0 = s) (ha : renL q avs0 = avs) (hs' : renS q' s' = s1) (hai : avsIn s0 avs0 = true) (hfl : flatV rav = true)
    (hk : (nodupL (keysL s0) && nodupL (mapN q (keysL s0)) && fitG q (keysL s0) && stoIn s0 s0) = true) (hk' : (nodupL (keysL s') && nodupL (mapN q' (keysL s')) && fitG q' (keysL s') && stoIn s' s') = true) : CallA P f avs0 s0 rav s1 := by
  subst hs; subst ha; subst hs'
  refine ⟨hC.fn, fun w σ φ vs hinv hargs => ?_⟩
  obtain ⟨φ1, h1, hR, hL, hp⟩ := hinv.ren q hk
  refine (hC.run w σ φ1 vs h1 (repL_ren hR hai hargs)).mono ?_
  rintro e w' ⟨v, σ', φ', rfl, hret⟩
  obtain ⟨φ2, h2, hR2, hL2, hp2⟩ := hret.inv.ren q' hk'
  have hM : ∀ b, MOf φ1 (renS q s0) b → MOf φ s0 b := by
    rintro b ⟨t, e, p, h3, h4, h5⟩
    obtain ⟨j, o, rfl, h6, rfl⟩ := hL t e h3
    rw [(hR _ _ h6).2] at h4
    exact ⟨j, o, p, h6, h4, h5⟩
  refine ⟨v, σ', φ2, rfl, hret.le, fun b hb => ?_, h2, flatV_rep hfl hret.rep, fun i e p hi hpi => ?_, fun t ht => (hp2 t ht).trans ((hret.pin t ht).trans (hp t ht)), ⟨hret.kept.os, hret.kept.tape, hret.kept.output, hret.kept.size, fun b hb hm => hret.kept.block b hb fun h => hm (hM b h)⟩⟩
  · rcases hret.fresh b hb with h | h | h
    · exact .inl h
    · exact .inr (.inl h)
    · exact .inr (.inr (hM b h))
  · obtain ⟨j, o, rfl, h6, rfl⟩ := hL2 i e hi
    rw [(hR2 _ _ h6).2] at hpi
    rcases hret.mine _ _ _ h6 hpi with h | h
    · exact .inl h
    · exact .inr (hM _ h)

/-! ### rows that grow -/
variable {V : Env} {T : Tab} {w0 : World} {σ0 : Sig} {φ0 : Pl} {M : Nat → Prop} {n : Nat} {rd : Option Nat} {mk : List Deferred} {ops : Array Oper} {o : Oper} {rest : List Oper} {fr : List (Nat × AV)} {sto : Sto} {K : St → Prop} {st st0 : St} {acc : List Tr}
/-- a nil slice in a box, seen as an own row that has nothing in it yet -/
theorem imp_adoptB (i id : Nat) {k b : Nat} (hl : look sto i = some (.box [.d .nil])) (hlt : (Nat.blt id 1000000 && (!frMen id fr && !stoMen id sto && !hasK sto id)) = true) : Imp c ⟨fr, sto⟩ ⟨fr, (id, .row k b []) :: setS i (.box [.own id 0]) sto⟩ := by
  simp only [Bool.and_eq_true, Bool.not_eq_true', Nat.blt_eq] at hlt
  obtain ⟨h1, ⟨h2, h3⟩, h4⟩ := hlt
  intro a w σ φ hr
  have hn := hr.nilRow (id := id) (k := k) (b := b) (by simpa using h1) h2 h3
  have hne : id ≠ i := by rintro rfl; simp [hasK, hl] at h4
  have hE : Ext (fun _ => False) (updP φ id none) (updP φ id none) ((id, .row k b []) :: sto) ((id, .row k b []) :: setS i (.box [.own id 0]) sto) := by
    intro j _
    cases hj : look ((id, AObj.row k b []) :: setS i (.box [.own id 0]) sto) j with
    | none => exact .inl rfl
    | some e =>
      refine .inr ?_
      rcases look_cons hj with ⟨rfl, rfl⟩ | ⟨hne2, hj2⟩
      · exact ⟨_, look_self, rfl, _, rfl, compat.refl _⟩
      · rw [look_setS] at hj2
        rcases look_cons hj2 with ⟨rfl, rfl⟩ | ⟨_, hj3⟩
        · exact ⟨.box [.d .nil], by rw [look_ne hne2]; exact hl, rfl, .box [.own id 0], rfl, trivial⟩
        · exact ⟨_, by rw [look_ne hne2]; exact hj3, rfl, _, rfl, compat.refl _⟩
  have hold : ∀ {j e}, look ((id, AObj.row k b []) :: setS i (.box [.own id 0]) sto) j = some e → (j = i ∧ e = .box [.own id 0]) ∨ look ((id, AObj.row k b []) :: sto) j = some e := by
    intro j e hj
    rcases look_cons hj with ⟨rfl, rfl⟩ | ⟨hne2, hj2⟩
    · exact .inr look_self
    · rw [look_setS] at hj2
      rcases look_cons hj2 with ⟨rfl, rfl⟩ | ⟨_, hj3⟩
      · exact .inl ⟨rfl, rfl⟩
      · exact .inr (by rw [look_ne hne2]; exact hj3)
  have hi : look ((id, AObj.row k b []) :: sto) i = some (.box [.d .nil]) := by rw [look_ne (fun e => hne e.symm)]; exact hl
  refine ⟨σ, _, hn.le, hn.fresh, ⟨hn.inv.sig, fun j e hj => ?_, fun j j' e e' p p' hj hj' hne2 hp hp' => ?_⟩, fun j e p hj hp => ?_, fun s v hv => ?_, hn.defers, hn.size, hn.fra, hn.pin⟩
  · rcases hold hj with ⟨rfl, rfl⟩ | hj2
    · obtain ⟨B, cc, vs, t, h5, h6, h7, h8⟩ := hn.inv.obj _ _ hi
      refine ⟨B, cc, vs, t, h5, h6, ?_, h8⟩
      cases vs with
      | nil => exact h7.elim
      | cons v vs =>
        obtain ⟨h9, h10⟩ := h7
        cases vs with
        | cons _ _ => exact h10.elim
        | nil =>
          replace h9 := RepC.d_inv h9
          cases h9
          exact ⟨.ownNil look_self updP_self, trivial⟩
    · exact (hn.inv.obj _ _ hj2).ext (X := fun _ => False) (Sig.le_refl _) hE (fun j hj => hj.elim) rfl fun _ _ _ => ⟨rfl, rfl⟩
  · have h5 : ∀ {j e}, look ((id, AObj.row k b []) :: setS i (.box [.own id 0]) sto) j = some e → ∃ e0, look ((id, AObj.row k b []) :: sto) j = some e0 := by
      intro j e hj
      rcases hold hj with ⟨rfl, rfl⟩ | hj2
      · exact ⟨_, hi⟩
      · exact ⟨_, hj2⟩
    obtain ⟨_, h6⟩ := h5 hj
    obtain ⟨_, h7⟩ := h5 hj'
    exact hn.inv.inj _ _ _ _ _ _ h6 h7 hne2 hp hp'
  · rcases hold hj with ⟨rfl, rfl⟩ | hj2
    · exact hn.mine _ _ _ hi hp
    · exact hn.mine _ _ _ hj2 hp
  · obtain ⟨u, hu, hru⟩ := hn.slot s v hv
    exact ⟨u, hu, hru.ext (Sig.le_refl _) hE fun j hj => hj.elim⟩
theorem step3_sliceHi {t e : TypeId} {x y : Operand} {id m k k' b b' : Nat} {ik : IntKind} {h : Int} {xs : List (List D)} {z : List D} (ho : o.op = .slice t x none (some y) none) (ht : sliceTy V.T t = some (e, k', b', z)) (hx : ev st x = some (.one (.own id m))) (hy : ev st y = some (.one (.d (.int ik h))))
    (hl : look st.sto id = some (.row k b xs)) (hk : Nat.beq k k' = true) (h0 : 0 ≤ h) (hm : h.toNat ≤ m) (hxs : m ≤ xs.length) : step3 V st o 0 = some ⟨.one (.own id h.toNat), [], []⟩ := by
  have e1 : Nat.ble h.toNat xs.length = true := Nat.ble_eq.mpr (by omega)
  have e2 : Nat.ble h.toNat m = true := Nat.ble_eq.mpr hm
  have e0 : Nat.ble 0 h.toNat = true := Nat.ble_eq.mpr (Nat.zero_le _)
  simp only [step3, stepE, valF, ho, otherE, bndF, hx, hy, h0, decide_true, cond_true, sliceV, ht, hl, hk, e0, e1, e2, Bool.and_self, Bool.or_true, Nat.beq_refl]
theorem step3_sliceLo0 {t e : TypeId} {x y : Operand} {id m k k' b b' : Nat} {ik : IntKind} {xs : List (List D)} {z : List D} (ho : o.op = .slice t x (some y) none none) (ht : sliceTy V.T t = some (e, k', b', z)) (hx : ev st x = some (.one (.own id m))) (hy : ev st y = some (.one (.d (.int ik 0))))
    (hl : look st.sto id = some (.row k b xs)) (hk : Nat.beq k k' = true) (hxs : m ≤ xs.length) : step3 V st o 0 = some ⟨.one (.own id m), [], []⟩ := by
  have e1 : Nat.ble m xs.length = true := Nat.ble_eq.mpr hxs
  have e2 : Nat.ble m m = true := Nat.ble_eq.mpr (Nat.le_refl _)
  have e0 : Nat.ble 0 m = true := Nat.ble_eq.mpr (Nat.zero_le _)
  have e4 : (0 : Int) ≤ 0 := Int.le_refl _
  simp only [step3, stepE, valF, ho, otherE, bndF, hx, hy, e4, decide_true, cond_true, sliceV, ht, hl, hk, Int.toNat_zero, e0, e1, e2, Bool.and_self, Bool.or_true, Nat.beq_refl]
theorem step3_sliceLo {t e : TypeId} {x y : Operand} {id m k k' b b' : Nat} {ik : IntKind} {h : Int} {xs : List (List D)} {z : List D} (ho : o.op = .slice t x (some y) none none) (ht : sliceTy V.T t = some (e, k', b', z)) (hx : ev st x = some (.one (.own id m))) (hy : ev st y = some (.one (.d (.int ik h))))
    (hl : look st.sto id = some (.row k b xs)) (hk : Nat.beq k k' = true) (h0 : 0 < h) (hm : h.toNat ≤ m) (hxs : m ≤ xs.length) : step3 V st o 0 = some ⟨.one (.sub id h.toNat (m - h.toNat)), [], []⟩ := by
  have e1 : Nat.ble m xs.length = true := Nat.ble_eq.mpr hxs
  have e2 : Nat.ble h.toNat m = true := Nat.ble_eq.mpr hm
  have e3 : Nat.beq h.toNat 0 = false := by
    cases hb : Nat.beq h.toNat 0 with
    | false => rfl
    | true => have := Nat.eq_of_beq_eq_true hb; omega
  have e4 : (0 : Int) ≤ h := by omega
  simp only [step3, stepE, valF, ho, otherE, bndF, hx, hy, e4, decide_true, cond_true, sliceV, ht, hl, hk, e1, e2, e3, Bool.and_self, Bool.false_and, cond_false]
/-- append, to a row whose name may stay -/
theorem s_append (hT : TabOk P T) {d : Nat} {t t2 e e2 k b k2 b2 k' b' id m : Nat} {z z2 : List D} {x y : Operand} {v : AV} {xs ys zs : List (List D)}
    (ho : o.op = .call { callee := .builtin .append, args := #[x, y], argTypes := #[t, t2] }) (hg : o.guard = none) (hdst : o.dst = some d) (hd : Nat.blt d n = true) (ht : sliceTy T t = some (e, k, b, z)) (ht2 : sliceTy T t2 = some (e2, k2, b2, z2))
    (hlt : (Nat.blt id 1000000 || Nat.ble 2000000 id) = true) (hx : ev ⟨fr, sto⟩ x = some (.one (.own id m))) (hl : look sto id = some (.row k' b' xs)) (hkb : (Nat.beq k k' && Nat.beq b b') = true) (hy : ev ⟨fr, sto⟩ y = some v) (hs : srcOf ⟨fr, sto⟩ k v = some ys) (hzs : zs = xs.take m ++ ys)
    (hm : m ≤ 100000000) (hys : ys.length ≤ 100000) (hb : b ≤ 100)
    (h : OkOps P ⟨w0, σ0, φ0, M, n, rd, mk⟩ ops rest ⟨(d, .one (.own id (m + ys.length))) :: purFr id fr, setS id (.row k b zs) (purSto id sto)⟩ K) : OkOps P ⟨w0, σ0, φ0, M, n, rd, mk⟩ ops (o :: rest) ⟨fr, sto⟩ K := by
  have h47 : (m + ys.length) * b ≤ 2 ^ 47 := Nat.le_trans (Nat.mul_le_mul (show m + ys.length ≤ 200000000 by omega) hb) (by omega)
  exact okops_append hT ho hg (by rw [hdst]; exact hd) ht ht2 hlt hx hl hkb hy hs hzs (by omega) h47 (by rw [hdst]; exact h)
/-- a call that only looks at what is own, in a region that is drawn -/
theorem d_callF {d : Nat} {fop : Operand} {args : Array Operand} {ats : Array TypeId} {f : FuncId} {caps : List D} {avs avs' : List AV} {rav : AV} {rsto : Sto} {os : List (Nat × AObj)} (dl : List Nat)
    (ho : o.op = .call { callee := .value fop, args := args, argTypes := ats }) (hg : o.guard = none) (hdst : o.dst = some d) (hd : Nat.blt d c.n = true) (hos : objsL sto dl = some os) (hf : evS os ⟨fr, sto⟩ fop = some (.one (.d (.fn f caps))))
    (ha : evLS os ⟨fr, sto⟩ args.toList = some avs) (hD : avsD avs = true) (hap : (avs ++ caps.map fun x => .one (.d x)) = avs') (hC : CallA P f avs' [] rav rsto) (hfl : flatV rav = true)
    (k : DRun P c ops st0 rest ⟨(d, rav) :: fr, sto⟩ (⟨rav, [], dl, []⟩ :: acc) K) : DRun P c ops st0 (o :: rest) ⟨fr, sto⟩ acc K := by
  subst hap
  exact d_run hg (loc_callF dl ho (by rw [hdst]; exact hd) hos hf ha hD hC hfl) (by rw [hdst]; exact k)
theorem okR_imp {bl : Nat} {g : Operand} {ps : Array Nat} {assign body code : Code} {Q : Exit → St → Prop} {st' : St} (hi : Imp c st st') (h : OkR P c bl g ps assign body code st' Q) : OkR P c bl g ps assign body code st Q := fun a w σ φ hr => by
  obtain ⟨σ', φ', hr'⟩ := hi a w σ φ hr
  exact h a w σ' φ' hr'
theorem imp_subS {s' : Sto} (h : SubL sto s') : Imp c ⟨fr, sto⟩ ⟨fr, s'⟩ := fun a w σ φ hr => ⟨σ, φ, hr.dropTo fun i e hi => h.look hi⟩
/-- a call that only looks at what is own -/
theorem s_callFS (dl : List Nat) {d : Nat} {fop : Operand} {args : Array Operand} {ats : Array TypeId} {f : FuncId} {caps : List D} {avs avs' : List AV} {rav : AV} {rsto : Sto} {os : List (Nat × AObj)}
    (ho : o.op = .call { callee := .value fop, args := args, argTypes := ats }) (hg : o.guard = none) (hdst : o.dst = some d) (hd : Nat.blt d n = true) (hos : objsL sto dl = some os) (hf : evS os ⟨fr, sto⟩ fop = some (.one (.d (.fn f caps))))
    (ha : evLS os ⟨fr, sto⟩ args.toList = some avs) (hD : avsD avs = true) (hap : (avs ++ caps.map fun x => .one (.d x)) = avs') (hC : CallA P f avs' [] rav rsto) (hfl : flatV rav = true)
    (h : OkOps P ⟨w0, σ0, φ0, M, n, rd, mk⟩ ops rest ⟨(d, rav) :: fr, sto⟩ K) : OkOps P ⟨w0, σ0, φ0, M, n, rd, mk⟩ ops (o :: rest) ⟨fr, sto⟩ K := by
  subst hap
  obtain ⟨ss, h1, h2⟩ := sealL_objs (st := ⟨fr, sto⟩) hos
  exact okops_callF ho hg (by rw [hdst]; exact hd) (imp_sealL h1) (by rw [h2]; exact hf) (by rw [evL_evLS h2]; exact ha) hD hC hfl (by rw [hdst]; exact h)
end Go.Abs
-- SymM Sym2
namespace Go.Proofs.YtpejdgkaapnekaaGreat
open Go Go.Abs
attribute [local irreducible] OkOps OkC DRun thenQ blockQ RetQ OkR normQ RoundQ AssignQ retQ
set_option maxRecDepth 10000
set_option linter.unusedVariables false
set_option linter.unusedSimpArgs false
/-! ### typed, of the program -/
def sto88 (li : LI) (fr : List (Nat × AV)) (A : List D) (r : Nat) (a : List Int × Bool × Int) : Sto :=
  [(1000000, .loop li fr (st87 a.2.1) (pe87 a.2.1)), (1000001, .box (A.map .d)), (1000002, .box [.d (.int .i64 0)]), (1000003, .box [.d (.int .i64 a.2.2)]), (1000004, .box [.own r a.1.length]), (r, .row 1 8 (a.1.map encInt))]
theorem acsIn_ds {s : Sto} : ∀ {A : List D}, acsIn s (A.map .d) = true
  | [] => rfl
  | x :: r => by simp only [List.map_cons, acsIn, acIn, acsIn_ds (A := r), Bool.and_self]
theorem fam88 (li : LI) (fr : List (Nat × AV)) (A : List D) (hf : ∀ a, frIn (sto88 li fr A 2000000 a) fr = true) : FamW (sto88 li fr A 2000000) := by
  refine ⟨fun a i e h => ?_, fun a => ?_, fun a => ⟨li, fr, st87 a.2.1, pe87 a.2.1, rfl⟩, fun a => rfl⟩
  · unfold sto88 at h
    rcases look_cons h with ⟨rfl, _⟩ | ⟨_, h⟩
    · omega
    rcases look_cons h with ⟨rfl, _⟩ | ⟨_, h⟩
    · omega
    rcases look_cons h with ⟨rfl, _⟩ | ⟨_, h⟩
    · omega
    rcases look_cons h with ⟨rfl, _⟩ | ⟨_, h⟩
    · omega
    rcases look_cons h with ⟨rfl, _⟩ | ⟨_, h⟩
    · omega
    rcases look_cons h with ⟨rfl, _⟩ | ⟨_, h⟩
    · omega
    · exact nomatch h
  · show (frIn (sto88 li fr A 2000000 a) fr && (acsIn (sto88 li fr A 2000000 a) (A.map .d) && _)) = true
    rw [hf a, acsIn_ds]; rfl
theorem y88 {li : LI} {fr : List (Nat × AV)} {A : List D} (ds : List Dim) (ats : List Attr) (a : List Int × Bool × Int) (x : Scalar) (hok : ok88 a x)
    (hps : (allBlt li.n li.params.toList && Nat.beq li.params.toList.length 1) = true)
    (h : ∀ (l : List Int), l.length ≤ 64 → (4 ≤ x.op → x.args.length ≤ l.length) → partF x = true → ∀ (w0 : World) (σ0 : Sig) (φ0 : Pl) (M : Nat → Prop) (B : Nat), OkC Tryz.prog ⟨w0, σ0, φ0, M, li.n, some B, []⟩ li.assign ⟨roundFr li.params.toList [aggS x] fr, sto88 li fr A 2000000 (l, false, 0)⟩
      (AssignQ Tryz.prog 1000000 ⟨w0, σ0, φ0, M, li.n, some B, []⟩ li.body (.one (.d (.bool (F88 ds ats (l, false, 0) x).1))) (sto88 li fr A 2000000 (F88 ds ats (l, false, 0) x).2))) :
    YieldA Tryz.prog 1000000 [aggS x] (sto88 li fr A 2000000 a) (.one (.d (.bool (F88 ds ats a x).1))) (sto88 li fr A 2000000 (F88 ds ats a x).2) := by
  obtain ⟨l, d, e⟩ := a
  obtain ⟨rfl, rfl, hp, h64, hargs⟩ : d = false ∧ e = 0 ∧ partF x = true ∧ l.length ≤ 64 ∧ (4 ≤ x.op → x.args.length ≤ l.length) := hok
  exact yieldA_ok ⟨by omega, by omega⟩ rfl hps (h l h64 hargs hp)
def q88 (i : Nat) : Nat := bif Nat.beq i 1000005 then 2000000 else i
def p88 (i : Nat) : Nat := bif Nat.beq i 2000000 then 5 else i
theorem leaf88 {sto : Sto} {li : LI} {fr : List (Nat × AV)} {A : List D} {l : List Int} {t : Int} {m : Nat} (hm : m ≤ l.length) (h1 : Abs.look sto 1000000 = some (.loop li fr .ready none)) (h2 : Abs.look sto 1000001 = some (.box (A.map .d))) (h3 : Abs.look sto 1000002 = some (.box [.d (.int .i64 0)]))
    (h4 : Abs.look sto 1000003 = some (.box [.d (.int .i64 0)])) (h5 : Abs.look sto 1000004 = some (.box [.own 2000000 (m + 1)])) (h6 : Abs.look sto 2000000 = some (.row 1 8 ((l.map encInt).take m ++ [[.int .i64 t]]))) : SubL sto (sto88 li fr A 2000000 (l.take m ++ [t], false, 0)) := by
  refine ⟨h1, h2, h3, h4, ?_, ?_, trivial⟩
  · rw [h5]; simp [Nat.min_eq_left hm]
  · rw [h6]; simp [encInt, List.map_take]
theorem leafN {sto : Sto} {li : LI} {fr : List (Nat × AV)} {A : List D} {l : List Int} {t : Int} (h1 : Abs.look sto 1000000 = some (.loop li fr .ready none)) (h2 : Abs.look sto 1000001 = some (.box (A.map .d))) (h3 : Abs.look sto 1000002 = some (.box [.d (.int .i64 0)]))
    (h4 : Abs.look sto 1000003 = some (.box [.d (.int .i64 0)])) (h5 : Abs.look sto 1000004 = some (.box [.own 2000000 (l.length + 1)])) (h6 : Abs.look sto 2000000 = some (.row 1 8 ((l.map encInt).take l.length ++ [[.int .i64 t]]))) : SubL sto (sto88 li fr A 2000000 (l ++ [t], false, 0)) := by
  have := leaf88 (Nat.le_refl _) h1 h2 h3 h4 h5 h6
  rwa [List.take_length] at this
set_option maxHeartbeats 4000000 in
theorem c88 (ds : List Dim) (ats : List Attr) (cs : D) (s : Scalar) (hp : partsF s = true) (hsz : (postL s).length ≤ 64) : CallA Tryz.prog 88 [.agg [.d (encDims ds), .d (encAttrs ats), .d cs], aggS s] [] (ie (typR cstP ds ats s)) [] := by
  obtain ⟨h0, hrun⟩ := mach (ds := ds) (ats := ats) s hp [] (by simp; omega)
  obtain ⟨⟨l', d', e'⟩, hR⟩ : ∃ a, (runF (F88 ds ats) (postL s) ([], false, 0)).2 = a := ⟨_, rfl⟩
  have hend : (d' = true ∧ e' = (typR cstP ds ats s).2 ∧ e' ≠ 0) ∨ (d' = false ∧ e' = 0 ∧ (typR cstP ds ats s).2 = 0 ∧ l' = [(typR cstP ds ats s).1]) := by
    by_cases hz : (typR cstP ds ats s).2 = 0
    · rw [if_pos hz] at hrun
      rw [hrun] at hR
      cases hR
      exact .inr ⟨rfl, rfl, hz, rfl⟩
    · rw [if_neg hz] at hrun
      obtain ⟨l2, hrun⟩ := hrun
      rw [hrun] at hR
      cases hR
      exact .inl ⟨rfl, rfl, hz⟩
  refine enter tabOk Tryz.func88 rfl (by decide +kernel) rfl fun hok w0 σ0 φ0 M => ?_
  have hats : ats.length < 281474976710656 := by
    have := (OkD.sl (hok.1 (.d (encAttrs ats)) (by simp))).1; simpa using this
  clear hok
  repeat' (first | (show OkOps _ _ _ _ _ _; first | refine okops_nil ?_ | refine s_plain tabOk rfl rfl rfl rfl rfl ?_ | (show OkOps _ _ _ (Oper.mk _ (Op.call _) _ _ _ (_) :: _) _ _; first | refine s_callD 16 rfl rfl rfl rfl rfl rfl rfl rfl (c162 _) rfl rfl rfl ?_ | fail) | (show OkOps _ _ _ (Oper.mk _ (Op.box _ _) _ _ _ (_) :: _) _ _; first | refine s_box 0 rfl rfl rfl rfl rfl rfl ?_ | refine s_box 1 rfl rfl rfl rfl rfl rfl ?_ | fail) | (show OkOps _ _ _ (Oper.mk _ (Op.alloc _) _ _ _ (_) :: _) _ _; first | refine s_alloc tabOk 2 rfl rfl rfl rfl rfl ?_ | refine s_alloc tabOk 3 rfl rfl rfl rfl rfl ?_ | refine s_alloc tabOk 4 rfl rfl rfl rfl rfl ?_ | fail) | fail) | (show OkC _ _ _ _ _; first | refine ok_stopR2 ?_ | refine ok_seq ?_ | refine ok_region ?_ | fail) | (show thenQ _ _ _ _; first | refine then_n ?_ | fail) | (show normQ _ _ _; first | refine norm_n ?_ | fail) | fail)
  · have hC := fun li fr hf hY => c216 (sto88 li fr [encDims ds, encAttrs ats, cs] 2000000) (fam88 li fr _ hf) (F88 ds ats) ok88 hY s ([], false, 0) h0
    rw [hR] at hC
    refine okR_imp (imp_adoptB 4 5 (k := 1) (b := 8) rfl rfl) ?_
    refine ok_rangeS (f := 216) (caps := [.ptr (rowS s)]) (rav := .tup []) [0, 2, 3, 4, 5] 10 rfl rfl rfl rfl (callA_ren q88 p88 (hC _ _ (fun a => ?_) (fun a x hok => ?_)) rfl rfl rfl rfl rfl rfl rfl) (by cases d' <;> rfl) (fun h => ?_) (fun h => ?_)
    · rfl
    · refine y88 ds ats a x hok rfl fun l h64 hargs hpx w0 σ0 φ0 M B => ?_
      clear hC hend hR hrun h0 hok a
      by_cases h1 : x.op = 1
      · have e : F88 ds ats (l, false, 0) x = (true, (l ++ [cstP x.val], false, 0)) := by simp [F88, h1]
        have hb1 : (x.op == 1) = true := by simp [h1]
        rw [e]
        repeat' (first | (show OkOps _ _ _ _ _ _; first | (show OkOps _ _ _ (Oper.mk _ (Op.call _) _ _ _ (_) :: _) _ _; first | refine s_append tabOk rfl rfl rfl rfl rfl rfl rfl rfl rfl rfl rfl rfl rfl (by show List.length l ≤ 100000000; omega) (Nat.le_of_ble_eq_true rfl) (Nat.le_of_ble_eq_true rfl) ?_ | fail) | refine okops_nil ?_ | refine s_plain tabOk rfl rfl rfl rfl rfl ?_ | (show OkOps _ _ _ (Oper.mk _ (Op.call _) _ _ _ (_) :: _) _ _; first | refine s_callF rfl rfl rfl rfl rfl rfl rfl rfl (c174 _ _ _ _) rfl ?_ | fail) | (show OkOps _ _ _ (Oper.mk _ (Op.alloc _) _ _ _ (_) :: _) _ _; first | refine s_alloc tabOk 0 rfl rfl rfl rfl rfl ?_ | fail) | refine s_store envOk rfl rfl rfl ?_ | refine s_new envOk 1 rfl rfl rfl rfl rfl rfl ?_ | fail) | (show OkC _ _ _ _ _; first | refine ok_seq ?_ | refine ok_region ?_ | refine ok_block ?_ | refine ok_condKT rfl (by assumption) ?_ | fail) | (show thenQ _ _ _ _; first | refine then_n ?_ | fail) | (show blockQ _ _ _ _; first | refine block_n ?_ | fail) | (show RoundQ _ _ _ _ _; first | refine round_n rfl ?_ ?_ | fail) | (show AssignQ _ _ _ _ _ _ _ _; first | refine assign_n rfl ?_ | fail) | fail)
        · rfl
        · exact leafN (by kernel_rfl) (by kernel_rfl) (by kernel_rfl) (by kernel_rfl) (by kernel_rfl) (by kernel_rfl)
      have hb1 : (x.op == 1) = false := by simp [h1]
      by_cases h2 : x.op = 2
      · have hb2 : (x.op == 2) = true := by simp [h2]
        by_cases hi : atI ats x.name < 0
        · have e : F88 ds ats (l, false, 0) x = (false, (l, true, 11)) := by simp [F88, h2, tyAttr, hi]
          have hd : decide (idxGo (fun a : Attr => a.name == x.name) ats 0 < 0) = true := by simpa [atI] using hi
          rw [e]
          repeat' (first | (show OkOps _ _ _ _ _ _; first | refine okops_nil ?_ | refine s_plain tabOk rfl rfl rfl rfl rfl ?_ | (show OkOps _ _ _ (Oper.mk _ (Op.call _) _ _ _ (_) :: _) _ _; first | refine s_callF rfl rfl rfl rfl rfl rfl rfl rfl (c148 _ _ _ _) rfl ?_ | fail) | (show OkOps _ _ _ (Oper.mk _ (Op.alloc _) _ _ _ (_) :: _) _ _; first | refine s_alloc tabOk 0 rfl rfl rfl rfl rfl ?_ | fail) | refine s_store envOk rfl rfl rfl ?_ | fail) | (show OkC _ _ _ _ _; first | refine ok_seq ?_ | refine ok_region ?_ | refine ok_block ?_ | refine ok_ret ?_ | refine ok_condKT rfl (by assumption) ?_ | refine ok_condKF rfl (by assumption) ?_ | fail) | (show thenQ _ _ _ _; first | refine then_n ?_ | refine then_r ?_ | fail) | (show blockQ _ _ _ _; first | refine block_r ?_ | fail) | (show RoundQ _ _ _ _ _; first | refine round_j rfl rfl ?_ ?_ | fail) | (show AssignQ _ _ _ _ _ _ _ _; first | refine assign_n rfl ?_ | fail) | fail)
          · rfl
          · exact subL_cons (by kernel_rfl) (subL_cons (by kernel_rfl) (subL_cons (by kernel_rfl) (subL_cons (by kernel_rfl) (subL_cons (by kernel_rfl) (subL_cons (by kernel_rfl) subL_nil)))))
        · have e : F88 ds ats (l, false, 0) x = (true, (l ++ [(at_ ats (atI ats x.name).toNat).type], false, 0)) := by simp [F88, h2, tyAttr, hi]
          have hd : decide (idxGo (fun a : Attr => a.name == x.name) ats 0 < 0) = false := by simpa [atI] using hi
          have hr := idxGo_range (p := fun a : Attr => a.name == x.name) (l := ats) (k := 0) (by simpa [atI] using hi)
          obtain ⟨hr1, hr2⟩ := hr
          rw [e]
          repeat' (first | (show OkOps _ _ _ _ _ _; first | (show OkOps _ _ _ (Oper.mk _ (Op.call _) _ _ _ (_) :: _) _ _; first | refine s_append tabOk rfl rfl rfl rfl rfl rfl rfl rfl rfl rfl rfl rfl rfl (by show List.length l ≤ 100000000; omega) (Nat.le_of_ble_eq_true rfl) (Nat.le_of_ble_eq_true rfl) ?_ | fail) | refine okops_nil ?_ | refine s_plain tabOk rfl rfl rfl rfl rfl ?_ | (show OkOps _ _ _ (Oper.mk _ (Op.indexAddr _ _ _) _ _ _ (_) :: _) _ _; first | refine s_e envOk rfl rfl rfl (step3_idx rfl rfl rfl rfl rfl (by omega) (at_map (by omega))) ?_ | fail) | (show OkOps _ _ _ (Oper.mk _ (Op.call _) _ _ _ (_) :: _) _ _; first | refine s_callF rfl rfl rfl rfl rfl rfl rfl rfl (c148 _ _ _ _) rfl ?_ | fail) | (show OkOps _ _ _ (Oper.mk _ (Op.alloc _) _ _ _ (_) :: _) _ _; first | refine s_alloc tabOk 0 rfl rfl rfl rfl rfl ?_ | fail) | refine s_store envOk rfl rfl rfl ?_ | refine s_new envOk 1 rfl rfl rfl rfl rfl rfl ?_ | fail) | (show OkC _ _ _ _ _; first | refine ok_seq ?_ | refine ok_region ?_ | refine ok_block ?_ | refine ok_skip ?_ | refine ok_condKT rfl (by assumption) ?_ | refine ok_condKF rfl (by assumption) ?_ | fail) | (show thenQ _ _ _ _; first | refine then_n ?_ | fail) | (show blockQ _ _ _ _; first | refine block_n ?_ | fail) | (show RoundQ _ _ _ _ _; first | refine round_n rfl ?_ ?_ | fail) | (show AssignQ _ _ _ _ _ _ _ _; first | refine assign_n rfl ?_ | fail) | fail)
          · rfl
          · exact leafN (by kernel_rfl) (by kernel_rfl) (by kernel_rfl) (by kernel_rfl) (by kernel_rfl) (by kernel_rfl)
      have hb2 : (x.op == 2) = false := by simp [h2]
      by_cases h3 : x.op = 3
      · have hb3 : (x.op == 3) = true := by simp [h3]
        by_cases hi : dimI ds x.name < 0
        · have e : F88 ds ats (l, false, 0) x = (false, (l, true, 11)) := by simp [F88, h3, tyDim, hi]
          have hd : decide (idxGo (fun a : Dim => a.name == x.name) ds 0 < 0) = true := by simpa [dimI] using hi
          rw [e]
          repeat' (first | (show OkOps _ _ _ _ _ _; first | refine okops_nil ?_ | refine s_plain tabOk rfl rfl rfl rfl rfl ?_ | (show OkOps _ _ _ (Oper.mk _ (Op.call _) _ _ _ (_) :: _) _ _; first | refine s_callF rfl rfl rfl rfl rfl rfl rfl rfl (c126 _ _ _ _) rfl ?_ | fail) | (show OkOps _ _ _ (Oper.mk _ (Op.alloc _) _ _ _ (_) :: _) _ _; first | refine s_alloc tabOk 0 rfl rfl rfl rfl rfl ?_ | fail) | refine s_store envOk rfl rfl rfl ?_ | fail) | (show OkC _ _ _ _ _; first | refine ok_seq ?_ | refine ok_region ?_ | refine ok_block ?_ | refine ok_ret ?_ | refine ok_condKT rfl (by assumption) ?_ | refine ok_condKF rfl (by assumption) ?_ | fail) | (show thenQ _ _ _ _; first | refine then_n ?_ | refine then_r ?_ | fail) | (show blockQ _ _ _ _; first | refine block_r ?_ | fail) | (show RoundQ _ _ _ _ _; first | refine round_j rfl rfl ?_ ?_ | fail) | (show AssignQ _ _ _ _ _ _ _ _; first | refine assign_n rfl ?_ | fail) | fail)
          · rfl
          · exact subL_cons (by kernel_rfl) (subL_cons (by kernel_rfl) (subL_cons (by kernel_rfl) (subL_cons (by kernel_rfl) (subL_cons (by kernel_rfl) (subL_cons (by kernel_rfl) subL_nil)))))
        · have e : F88 ds ats (l, false, 0) x = (true, (l ++ [2], false, 0)) := by simp [F88, h3, tyDim, hi]
          have hd : decide (idxGo (fun a : Dim => a.name == x.name) ds 0 < 0) = false := by simpa [dimI] using hi
          rw [e]
          repeat' (first | (show OkOps _ _ _ _ _ _; first | (show OkOps _ _ _ (Oper.mk _ (Op.call _) _ _ _ (_) :: _) _ _; first | refine s_append tabOk rfl rfl rfl rfl rfl rfl rfl rfl rfl rfl rfl rfl rfl (by show List.length l ≤ 100000000; omega) (Nat.le_of_ble_eq_true rfl) (Nat.le_of_ble_eq_true rfl) ?_ | fail) | refine okops_nil ?_ | refine s_plain tabOk rfl rfl rfl rfl rfl ?_ | (show OkOps _ _ _ (Oper.mk _ (Op.call _) _ _ _ (_) :: _) _ _; first | refine s_callF rfl rfl rfl rfl rfl rfl rfl rfl (c126 _ _ _ _) rfl ?_ | fail) | (show OkOps _ _ _ (Oper.mk _ (Op.alloc _) _ _ _ (_) :: _) _ _; first | refine s_alloc tabOk 0 rfl rfl rfl rfl rfl ?_ | fail) | refine s_store envOk rfl rfl rfl ?_ | refine s_new envOk 1 rfl rfl rfl rfl rfl rfl ?_ | fail) | (show OkC _ _ _ _ _; first | refine ok_seq ?_ | refine ok_region ?_ | refine ok_block ?_ | refine ok_skip ?_ | refine ok_condKT rfl (by assumption) ?_ | refine ok_condKF rfl (by assumption) ?_ | fail) | (show thenQ _ _ _ _; first | refine then_n ?_ | fail) | (show blockQ _ _ _ _; first | refine block_n ?_ | fail) | (show RoundQ _ _ _ _ _; first | refine round_n rfl ?_ ?_ | fail) | (show AssignQ _ _ _ _ _ _ _ _; first | refine assign_n rfl ?_ | fail) | fail)
          · rfl
          · exact leafN (by kernel_rfl) (by kernel_rfl) (by kernel_rfl) (by kernel_rfl) (by kernel_rfl) (by kernel_rfl)
      have hb3 : (x.op == 3) = false := by simp [h3]
      obtain ⟨hop, hlen⟩ := part_args hpx h1 h2 h3
      have hal := hargs hop.1
      obtain ⟨m, hm⟩ : ∃ m : Nat, l.length = m + x.args.length := ⟨l.length - x.args.length, by omega⟩
      have hml : l.length - x.args.length = m := by omega
      have hsub : ((l.length : Int) - (x.args.length : Int)) = (m : Int) := by omega
      have hC := c175 x.op (l.drop m) hop (by simp; omega)
      repeat' (first | (show OkOps _ _ _ _ _ _; first | refine okops_nil ?_ | refine s_plain tabOk rfl rfl rfl rfl rfl ?_ | (show OkOps _ _ _ (Oper.mk _ (Op.binOp .sub _ _ _ _) _ _ _ (_) :: _) _ _; first | refine s_e envOk rfl rfl rfl (step3_sub rfl rfl rfl rfl (wrap64 (by first | omega | ((try simp only [decide_eq_true_eq, decide_eq_false_iff_not, Bool.not_eq_true', Bool.not_true, Bool.not_false, List.length_map, bne_iff_ne, ne_eq, beq_iff_eq, bne_eq_false_iff_eq, beq_eq_false_iff_ne] at *); omega)) (by first | omega | ((try simp only [decide_eq_true_eq, decide_eq_false_iff_not, Bool.not_eq_true', Bool.not_true, Bool.not_false, List.length_map, bne_iff_ne, ne_eq, beq_iff_eq, bne_eq_false_iff_eq, beq_eq_false_iff_ne] at *); omega)))) ?_ | fail) | (show OkOps _ _ _ (Oper.mk _ (Op.alloc _) _ _ _ (_) :: _) _ _; first | refine s_alloc tabOk 0 rfl rfl rfl rfl rfl ?_ | fail) | refine s_store envOk rfl rfl rfl ?_ | fail) | (show OkC _ _ _ _ _; first | refine ok_seq ?_ | refine ok_region ?_ | refine ok_block ?_ | refine ok_condKF rfl (by assumption) ?_ | refine ok_regionD progOk.mo ?_ | fail) | (show thenQ _ _ _ _; first | refine then_n ?_ | fail) | (show DRun _ _ _ _ _ _ _ _; first | refine d_e envOk rfl rfl rfl (step3_plain rfl rfl) ?_ | fail) | (show AssignQ _ _ _ _ _ _ _ _; first | refine assign_n rfl ?_ | fail) | fail)
      simp only [List.length_map]
      rw [hsub]
      rcases Nat.eq_zero_or_pos m with h0 | h0
      · have hC' : CallA Tryz.prog 175 [.one (.d (.int .i64 x.op)), .one (.d (.sl 1 8 ((l.map encInt).take l.length)))] [] (ie (exTypeF x.op (l.drop m))) [] := by
          have e1 : encInts (l.drop m) = .sl 1 8 ((l.map encInt).take l.length) := by rw [List.take_of_length_le (by simp)]; simp [encInts, h0]
          rw [e1] at hC; exact hC
        refine d_e envOk rfl rfl rfl (step3_sliceLo0 rfl rfl rfl (by rw [h0]; rfl) rfl rfl (by simp)) ?_
        refine d_callF [2000000] rfl rfl rfl rfl rfl rfl rfl rfl rfl hC' rfl ?_
        · by_cases hz : (exTypeF x.op (l.drop m)).2 = 0
          · have hbz : ((exTypeF x.op (l.drop m)).2 != 0) = false := by simp [hz]
            have e : F88 ds ats (l, false, 0) x = (true, (l.take m ++ [(exTypeF x.op (l.drop m)).1], false, 0)) := by
              simp only [F88]; rw [if_neg h1, if_neg h2, if_neg h3, hml]; simp [hz]
            rw [e]
            repeat' (first | (show OkOps _ _ _ _ _ _; first | refine okops_nil ?_ | refine s_plain tabOk rfl rfl rfl rfl rfl ?_ | fail) | (show OkC _ _ _ _ _; first | refine ok_seq ?_ | refine ok_region ?_ | refine ok_skip ?_ | refine ok_condKF rfl (by assumption) ?_ | refine ok_regionD progOk.mo ?_ | fail) | (show thenQ _ _ _ _; first | refine then_n ?_ | fail) | (show DRun _ _ _ _ _ _ _ _; first | refine d_nil (by kernel_rfl) ?_ | refine d_e envOk rfl rfl rfl (step3_plain rfl rfl) ?_ | fail) | fail)
            refine d_e envOk rfl rfl rfl (step3_sliceHi rfl rfl rfl rfl rfl rfl (by omega) (by show Int.toNat (m : Int) ≤ List.length l; omega) (by simp)) ?_
            repeat' (first | (show OkOps _ _ _ _ _ _; first | (show OkOps _ _ _ (Oper.mk _ (Op.call _) _ _ _ (_) :: _) _ _; first | refine s_append tabOk rfl rfl rfl rfl rfl rfl rfl rfl rfl rfl rfl rfl rfl (by show Int.toNat (m : Int) ≤ 100000000; omega) (Nat.le_of_ble_eq_true rfl) (Nat.le_of_ble_eq_true rfl) ?_ | fail) | refine okops_nil ?_ | refine s_plain tabOk rfl rfl rfl rfl rfl ?_ | refine s_store envOk rfl rfl rfl ?_ | refine s_new envOk 1 rfl rfl rfl rfl rfl rfl ?_ | fail) | (show OkC _ _ _ _ _; first | refine ok_region ?_ | fail) | (show thenQ _ _ _ _; first | refine then_n ?_ | fail) | (show blockQ _ _ _ _; first | refine block_n ?_ | fail) | (show DRun _ _ _ _ _ _ _ _; first | refine d_nil (by kernel_rfl) ?_ | refine d_e envOk rfl rfl rfl (step3_plain rfl rfl) ?_ | refine d_store envOk rfl rfl rfl ?_ | fail) | (show RoundQ _ _ _ _ _; first | refine round_n rfl ?_ ?_ | fail) | fail)
            · rfl
            · exact leaf88 (by omega) (by kernel_rfl) (by kernel_rfl) (by kernel_rfl) (by kernel_rfl) (by kernel_rfl) (by kernel_rfl)
          · have hbz : ((exTypeF x.op (l.drop m)).2 != 0) = true := by simp [hz]
            have e : F88 ds ats (l, false, 0) x = (false, (l, true, (exTypeF x.op (l.drop m)).2)) := by
              simp only [F88]; rw [if_neg h1, if_neg h2, if_neg h3, hml]; simp [hz]
            rw [e]
            repeat' (first | (show OkOps _ _ _ _ _ _; first | refine okops_nil ?_ | refine s_plain tabOk rfl rfl rfl rfl rfl ?_ | refine s_store envOk rfl rfl rfl ?_ | fail) | (show OkC _ _ _ _ _; first | refine ok_seq ?_ | refine ok_region ?_ | refine ok_ret ?_ | refine ok_condKT rfl (by assumption) ?_ | fail) | (show thenQ _ _ _ _; first | refine then_n ?_ | refine then_r ?_ | fail) | (show blockQ _ _ _ _; first | refine block_r ?_ | fail) | (show DRun _ _ _ _ _ _ _ _; first | refine d_nil (by kernel_rfl) ?_ | refine d_e envOk rfl rfl rfl (step3_plain rfl rfl) ?_ | fail) | (show RoundQ _ _ _ _ _; first | refine round_j rfl rfl ?_ ?_ | fail) | fail)
            · rfl
            · exact subL_cons (by kernel_rfl) (subL_cons (by kernel_rfl) (subL_cons (by kernel_rfl) (subL_cons (by kernel_rfl) (subL_cons (by kernel_rfl) (subL_cons (by kernel_rfl) subL_nil)))))
      · have hC' : CallA Tryz.prog 175 [.one (.d (.int .i64 x.op)), .one (.d (.sl 1 8 (((l.map encInt).drop m).take (l.length - m))))] [] (ie (exTypeF x.op (l.drop m))) [] := by
          have e1 : encInts (l.drop m) = .sl 1 8 (((l.map encInt).drop m).take (l.length - m)) := by
            rw [List.take_of_length_le (by simp)]; simp [encInts, List.map_drop]
          rw [e1] at hC; exact hC
        refine d_e envOk rfl rfl rfl (step3_sliceLo rfl rfl rfl rfl rfl rfl (by omega) (by show Int.toNat (m : Int) ≤ List.length l; omega) (by simp)) ?_
        refine d_callF [2000000] rfl rfl rfl rfl rfl rfl rfl rfl rfl hC' rfl ?_
        · by_cases hz : (exTypeF x.op (l.drop m)).2 = 0
          · have hbz : ((exTypeF x.op (l.drop m)).2 != 0) = false := by simp [hz]
            have e : F88 ds ats (l, false, 0) x = (true, (l.take m ++ [(exTypeF x.op (l.drop m)).1], false, 0)) := by
              simp only [F88]; rw [if_neg h1, if_neg h2, if_neg h3, hml]; simp [hz]
            rw [e]
            repeat' (first | (show OkOps _ _ _ _ _ _; first | refine okops_nil ?_ | refine s_plain tabOk rfl rfl rfl rfl rfl ?_ | fail) | (show OkC _ _ _ _ _; first | refine ok_seq ?_ | refine ok_region ?_ | refine ok_skip ?_ | refine ok_condKF rfl (by assumption) ?_ | refine ok_regionD progOk.mo ?_ | fail) | (show thenQ _ _ _ _; first | refine then_n ?_ | fail) | (show DRun _ _ _ _ _ _ _ _; first | refine d_nil (by kernel_rfl) ?_ | refine d_e envOk rfl rfl rfl (step3_plain rfl rfl) ?_ | fail) | fail)
            refine d_e envOk rfl rfl rfl (step3_sliceHi rfl rfl rfl rfl rfl rfl (by omega) (by show Int.toNat (m : Int) ≤ List.length l; omega) (by simp)) ?_
            repeat' (first | (show OkOps _ _ _ _ _ _; first | (show OkOps _ _ _ (Oper.mk _ (Op.call _) _ _ _ (_) :: _) _ _; first | refine s_append tabOk rfl rfl rfl rfl rfl rfl rfl rfl rfl rfl rfl rfl rfl (by show Int.toNat (m : Int) ≤ 100000000; omega) (Nat.le_of_ble_eq_true rfl) (Nat.le_of_ble_eq_true rfl) ?_ | fail) | refine okops_nil ?_ | refine s_plain tabOk rfl rfl rfl rfl rfl ?_ | refine s_store envOk rfl rfl rfl ?_ | refine s_new envOk 1 rfl rfl rfl rfl rfl rfl ?_ | fail) | (show OkC _ _ _ _ _; first | refine ok_region ?_ | fail) | (show thenQ _ _ _ _; first | refine then_n ?_ | fail) | (show blockQ _ _ _ _; first | refine block_n ?_ | fail) | (show DRun _ _ _ _ _ _ _ _; first | refine d_nil (by kernel_rfl) ?_ | refine d_e envOk rfl rfl rfl (step3_plain rfl rfl) ?_ | refine d_store envOk rfl rfl rfl ?_ | fail) | (show RoundQ _ _ _ _ _; first | refine round_n rfl ?_ ?_ | fail) | fail)
            · rfl
            · exact leaf88 (by omega) (by kernel_rfl) (by kernel_rfl) (by kernel_rfl) (by kernel_rfl) (by kernel_rfl) (by kernel_rfl)
          · have hbz : ((exTypeF x.op (l.drop m)).2 != 0) = true := by simp [hz]
            have e : F88 ds ats (l, false, 0) x = (false, (l, true, (exTypeF x.op (l.drop m)).2)) := by
              simp only [F88]; rw [if_neg h1, if_neg h2, if_neg h3, hml]; simp [hz]
            rw [e]
            repeat' (first | (show OkOps _ _ _ _ _ _; first | refine okops_nil ?_ | refine s_plain tabOk rfl rfl rfl rfl rfl ?_ | refine s_store envOk rfl rfl rfl ?_ | fail) | (show OkC _ _ _ _ _; first | refine ok_seq ?_ | refine ok_region ?_ | refine ok_ret ?_ | refine ok_condKT rfl (by assumption) ?_ | fail) | (show thenQ _ _ _ _; first | refine then_n ?_ | refine then_r ?_ | fail) | (show blockQ _ _ _ _; first | refine block_r ?_ | fail) | (show DRun _ _ _ _ _ _ _ _; first | refine d_nil (by kernel_rfl) ?_ | refine d_e envOk rfl rfl rfl (step3_plain rfl rfl) ?_ | fail) | (show RoundQ _ _ _ _ _; first | refine round_j rfl rfl ?_ ?_ | fail) | fail)
            · rfl
            · exact subL_cons (by kernel_rfl) (subL_cons (by kernel_rfl) (subL_cons (by kernel_rfl) (subL_cons (by kernel_rfl) (subL_cons (by kernel_rfl) (subL_cons (by kernel_rfl) subL_nil)))))
    · rcases hend with ⟨rfl, _⟩ | ⟨rfl, rfl, hz, rfl⟩
      · exact nomatch h
      rintro ⟨w1, σ1, φ1, M1, n1, rd1, mk1⟩ ⟨hn, hrd, _⟩
      dsimp only at hn hrd
      subst hn hrd
      refine okc_imp (imp_subS (s' := [(2, .box [.d (.int .i64 0)]), (3, .box [.d (.int .i64 0)]), (4, .box [.own 16 1]), (16, .row 1 8 [[.int .i64 (typR cstP ds ats s).1]])]) (subL_cons (by kernel_rfl) (subL_cons (by kernel_rfl) (subL_cons (by kernel_rfl) (subL_cons (by kernel_rfl) subL_nil))))) ?_
      repeat' (first | (show OkOps _ _ _ _ _ _; first | refine okops_nil ?_ | refine s_plain tabOk rfl rfl rfl rfl rfl ?_ | refine s_store envOk rfl rfl rfl ?_ | refine s_e envOk rfl rfl rfl rfl ?_ | fail) | (show OkC _ _ _ _ _; first | refine ok_seq ?_ | refine ok_region ?_ | refine ok_ret ?_ | fail) | (show thenQ _ _ _ _; first | refine then_n ?_ | fail) | (show RetQ _ _ _ _ _ _; first | refine ret_leaf (.inl rfl) rfl rfl ?_ | fail) | (show retQ _ _ _; first | refine retq_n ?_ | fail) | fail)
      simp [ie, hz]
    · rcases hend with ⟨rfl, rfl, hz⟩ | ⟨rfl, _⟩
      · repeat' (first | (show RetQ _ _ _ _ _ _; first | refine ret_leaf (.inl rfl) rfl rfl ?_ | fail) | fail)
        show AV.tup [(false, [.d (.int .i64 0)]), (false, [.d (.int .i64 (typR cstP ds ats s).2)])] = _
        simp [ie, typR_err hz]
      · exact nomatch h
end Go.Proofs.YtpejdgkaapnekaaGreat
-- SymM Sym2
namespace Go.Proofs.YtpejdgkaapnekaaGreat
open Go Go.Abs
attribute [local irreducible] OkOps OkC DRun thenQ blockQ RetQ
set_option maxRecDepth 10000
set_option linter.unusedVariables false
set_option linter.unusedSimpArgs false
/-! ### typed, of the reference -/
theorem postLs_mem : ∀ {l : List Scalar} {x : Scalar}, x ∈ l → (postL x).length ≤ (postLs l).length
  | [], x, h => by simp at h
  | y :: r, x, h => by
    simp only [postLs, List.length_append]
    rcases List.mem_cons.1 h with rfl | h
    · omega
    · have := postLs_mem h; omega
def comb (l : List Int) : Sum Int (List Int) → Sum Int (List Int)
  | .inl e => .inl e
  | .inr t => .inr (l ++ t)
theorem comb_app {l m : List Int} : ∀ {x : Sum Int (List Int)}, comb (l ++ m) x = comb l (comb m x)
  | .inl _ => rfl
  | .inr t => by simp [comb]
def typSum (o : Int) : Sum Int (List Int) → Int × Int
  | .inl e => (0, e)
  | .inr l => exTypeF o l
theorem typR_sum {cst : Val → Int} {ds : List Dim} {ats : List Attr} {s : Scalar} : typR cst ds ats s = if s.op = 1 then (cst s.val, 0) else if s.op = 2 then tyAttr ats s.name else if s.op = 3 then tyDim ds s.name else typSum s.op (typRs cst ds ats s.args) := by
  rw [typR_eq]
  cases typRs cst ds ats s.args <;> rfl
theorem rowN {sto : Sto} {l : List Int} {t : Int} (h : Abs.look sto 5 = some (.row 1 8 ((l.map encInt).take l.length ++ [[.int .i64 t]]))) : Abs.look sto 5 = some (.row 1 8 ((l ++ [t]).map encInt)) := by
  rw [h, List.take_of_length_le (by simp)]; simp [encInt]
theorem ownN {fr : List (Nat × AV)} {l : List Int} {t : Int} (h : Abs.look fr 7 = some (.one (.own 5 (l.length + 1)))) : Abs.look fr 7 = some (.one (.own 5 (l ++ [t]).length)) := by
  rw [h]; simp
set_option maxHeartbeats 4000000 in
theorem c93 (ds : List Dim) (ats : List Attr) (cs : D) (s : Scalar) : partsF s = true → (postL s).length ≤ 64 → CallA Tryz.prog 93 [.agg [.d (encDims ds), .d (encAttrs ats), .d cs], aggS s] [] (ie (typR cstR ds ats s)) [] := by
  induction s using Scalar.ind with
  | h s ih =>
    intro hp hsz
    rw [partsF_eq, Bool.and_eq_true] at hp
    have hps := partsL_mem hp.2
    rw [postL_eq, List.length_append, List.length_cons, List.length_nil] at hsz
    have hlen := postLs_len (r := s.args)
    have hsz2 : ∀ x ∈ s.args, (postL x).length ≤ 64 := fun x hx => by have := postLs_mem hx; omega
    rw [typR_sum]
    refine enter tabOk Tryz.func93 rfl (by decide +kernel) rfl fun hok w0 σ0 φ0 M => ?_
    have hats : ats.length < 281474976710656 := by
      have := (OkD.sl (hok.1 (.d (encAttrs ats)) (by simp))).1; simpa using this
    clear hok
    by_cases h1 : s.op = 1
    · have hb1 : (s.op == 1) = true := by simp [h1]
      rw [if_pos h1]
      repeat' (first | (show OkOps _ _ _ _ _ _; first | refine okops_nil ?_ | refine s_plain tabOk rfl rfl rfl rfl rfl ?_ | (show OkOps _ _ _ (Oper.mk _ (Op.box _ _) _ _ _ (_) :: _) _ _; first | refine s_box 0 rfl rfl rfl rfl rfl rfl ?_ | refine s_box 1 rfl rfl rfl rfl rfl rfl ?_ | fail) | fail) | (show OkC _ _ _ _ _; first | refine ok_seq ?_ | refine ok_region ?_ | refine ok_block ?_ | refine ok_skip ?_ | refine ok_ret ?_ | refine ok_condKT rfl (by assumption) ?_ | refine ok_cond rfl (fun h => ?_) (fun h => ?_) | fail) | (show thenQ _ _ _ _; first | refine then_n ?_ | refine then_r ?_ | fail) | (show blockQ _ _ _ _; first | refine block_n ?_ | refine block_r ?_ | fail) | (show RetQ _ _ _ _ _ _; first | refine ret_leaf (.inl rfl) rfl rfl ?_ | fail) | fail)
      all_goals simp_all [cstR, ie]
    have hb1 : (s.op == 1) = false := by simp [h1]
    rw [if_neg h1]
    by_cases h2 : s.op = 2
    · have hb2 : (s.op == 2) = true := by simp [h2]
      rw [if_pos h2]
      by_cases hi : atI ats s.name < 0
      · have hd : decide (idxGo (fun a : Attr => a.name == s.name) ats 0 < 0) = true := by simpa [atI] using hi
        repeat' (first | (show OkOps _ _ _ _ _ _; first | refine okops_nil ?_ | refine s_plain tabOk rfl rfl rfl rfl rfl ?_ | (show OkOps _ _ _ (Oper.mk _ (Op.call _) _ _ _ (_) :: _) _ _; first | refine s_callF rfl rfl rfl rfl rfl rfl rfl rfl (c114 _ _) rfl ?_ | fail) | (show OkOps _ _ _ (Oper.mk _ (Op.box _ _) _ _ _ (_) :: _) _ _; first | refine s_box 0 rfl rfl rfl rfl rfl rfl ?_ | refine s_box 1 rfl rfl rfl rfl rfl rfl ?_ | fail) | fail) | (show OkC _ _ _ _ _; first | refine ok_seq ?_ | refine ok_region ?_ | refine ok_block ?_ | refine ok_ret ?_ | refine ok_condKT rfl (by assumption) ?_ | refine ok_condKF rfl (by assumption) ?_ | fail) | (show thenQ _ _ _ _; first | refine then_n ?_ | refine then_r ?_ | fail) | (show blockQ _ _ _ _; first | refine block_r ?_ | fail) | (show RetQ _ _ _ _ _ _; first | refine ret_leaf (.inl rfl) rfl rfl ?_ | fail) | fail)
        simp [tyAttr, hi, ie]
      · have hd : decide (idxGo (fun a : Attr => a.name == s.name) ats 0 < 0) = false := by simpa [atI] using hi
        obtain ⟨hr1, hr2⟩ := idxGo_range (p := fun a : Attr => a.name == s.name) (l := ats) (k := 0) (by simpa [atI] using hi)
        repeat' (first | (show OkOps _ _ _ _ _ _; first | refine okops_nil ?_ | refine s_plain tabOk rfl rfl rfl rfl rfl ?_ | (show OkOps _ _ _ (Oper.mk _ (Op.indexAddr _ _ _) _ _ _ (_) :: _) _ _; first | refine s_e envOk rfl rfl rfl (step3_idx rfl rfl rfl rfl rfl (by omega) (at_map (by omega))) ?_ | fail) | (show OkOps _ _ _ (Oper.mk _ (Op.call _) _ _ _ (_) :: _) _ _; first | refine s_callF rfl rfl rfl rfl rfl rfl rfl rfl (c114 _ _) rfl ?_ | fail) | (show OkOps _ _ _ (Oper.mk _ (Op.box _ _) _ _ _ (_) :: _) _ _; first | refine s_box 0 rfl rfl rfl rfl rfl rfl ?_ | refine s_box 1 rfl rfl rfl rfl rfl rfl ?_ | fail) | fail) | (show OkC _ _ _ _ _; first | refine ok_seq ?_ | refine ok_region ?_ | refine ok_block ?_ | refine ok_skip ?_ | refine ok_ret ?_ | refine ok_condKT rfl (by assumption) ?_ | refine ok_condKF rfl (by assumption) ?_ | fail) | (show thenQ _ _ _ _; first | refine then_n ?_ | refine then_r ?_ | fail) | (show blockQ _ _ _ _; first | refine block_r ?_ | fail) | (show RetQ _ _ _ _ _ _; first | refine ret_leaf (.inl rfl) rfl rfl ?_ | fail) | fail)
        simp [tyAttr, hi, ie]
        rfl
    have hb2 : (s.op == 2) = false := by simp [h2]
    rw [if_neg h2]
    by_cases h3 : s.op = 3
    · have hb3 : (s.op == 3) = true := by simp [h3]
      rw [if_pos h3]
      by_cases hi : dimI ds s.name < 0
      · have hd : decide (idxGo (fun a : Dim => a.name == s.name) ds 0 < 0) = true := by simpa [dimI] using hi
        repeat' (first | (show OkOps _ _ _ _ _ _; first | refine okops_nil ?_ | refine s_plain tabOk rfl rfl rfl rfl rfl ?_ | (show OkOps _ _ _ (Oper.mk _ (Op.call _) _ _ _ (_) :: _) _ _; first | refine s_callF rfl rfl rfl rfl rfl rfl rfl rfl (c118 _ _) rfl ?_ | fail) | (show OkOps _ _ _ (Oper.mk _ (Op.box _ _) _ _ _ (_) :: _) _ _; first | refine s_box 0 rfl rfl rfl rfl rfl rfl ?_ | refine s_box 1 rfl rfl rfl rfl rfl rfl ?_ | fail) | fail) | (show OkC _ _ _ _ _; first | refine ok_seq ?_ | refine ok_region ?_ | refine ok_block ?_ | refine ok_ret ?_ | refine ok_condKT rfl (by assumption) ?_ | refine ok_condKF rfl (by assumption) ?_ | fail) | (show thenQ _ _ _ _; first | refine then_n ?_ | refine then_r ?_ | fail) | (show blockQ _ _ _ _; first | refine block_r ?_ | fail) | (show RetQ _ _ _ _ _ _; first | refine ret_leaf (.inl rfl) rfl rfl ?_ | fail) | fail)
        simp [tyDim, hi, ie]
      · have hd : decide (idxGo (fun a : Dim => a.name == s.name) ds 0 < 0) = false := by simpa [dimI] using hi
        repeat' (first | (show OkOps _ _ _ _ _ _; first | refine okops_nil ?_ | refine s_plain tabOk rfl rfl rfl rfl rfl ?_ | (show OkOps _ _ _ (Oper.mk _ (Op.call _) _ _ _ (_) :: _) _ _; first | refine s_callF rfl rfl rfl rfl rfl rfl rfl rfl (c118 _ _) rfl ?_ | fail) | (show OkOps _ _ _ (Oper.mk _ (Op.box _ _) _ _ _ (_) :: _) _ _; first | refine s_box 0 rfl rfl rfl rfl rfl rfl ?_ | refine s_box 1 rfl rfl rfl rfl rfl rfl ?_ | fail) | fail) | (show OkC _ _ _ _ _; first | refine ok_seq ?_ | refine ok_region ?_ | refine ok_block ?_ | refine ok_skip ?_ | refine ok_ret ?_ | refine ok_condKT rfl (by assumption) ?_ | refine ok_condKF rfl (by assumption) ?_ | fail) | (show thenQ _ _ _ _; first | refine then_n ?_ | refine then_r ?_ | fail) | (show blockQ _ _ _ _; first | refine block_r ?_ | fail) | (show RetQ _ _ _ _ _ _; first | refine ret_leaf (.inl rfl) rfl rfl ?_ | fail) | fail)
        simp [tyDim, hi, ie]
    have hb3 : (s.op == 3) = false := by simp [h3]
    rw [if_neg h3]
    obtain ⟨hop, hal⟩ := part_args hp.1 h1 h2 h3
    clear hats
    repeat' (first | (show OkOps _ _ _ _ _ _; first | refine okops_nil ?_ | refine s_plain tabOk rfl rfl rfl rfl rfl ?_ | (show OkOps _ _ _ (Oper.mk _ (Op.box _ _) _ _ _ (_) :: _) _ _; first | refine s_box 0 rfl rfl rfl rfl rfl rfl ?_ | refine s_box 1 rfl rfl rfl rfl rfl rfl ?_ | fail) | fail) | (show OkC _ _ _ _ _; first | refine ok_seq ?_ | refine ok_region ?_ | refine ok_block ?_ | refine ok_skip ?_ | refine ok_condKF rfl (by assumption) ?_ | fail) | (show thenQ _ _ _ _; first | refine then_n ?_ | fail) | (show blockQ _ _ _ _; first | refine block_n ?_ | fail) | fail)
    refine okc_imp (imp_adopt (s := 7) (id := 5) (k := 1) (b := 8) rfl rfl rfl rfl) ?_
    refine s_loopM 21 rfl [(2, _), (3, _)] (subL_cons rfl (subL_cons rfl subL_nil)) (fun (p : Nat × List Int) => [(7, .one (.own 5 p.2.length)), (8, .one (.d (.int .i64 (p.1 : Int))))])
      (fun p => [(0, .box [.d (encDims ds), .d (encAttrs ats), .d cs]), (1, .box [.d (.int .i64 s.op), .d (.str s.name), .d (.int .i64 s.val.kind), .d (.int .i64 s.val.num), .d (.int .i64 s.val.den), .d (.str s.val.str), .d (encScalars s.args)]), (5, .row 1 8 (p.2.map encInt))])
      (fun p => p.1 ≤ s.args.length ∧ p.2.length = p.1 ∧ typRs cstR ds ats s.args = comb p.2 (typRs cstR ds ats (s.args.drop p.1))) (fun p => s.args.length - p.1) (0, [])
      (subL_cons rfl (subL_cons rfl subL_nil)) (subL_cons rfl (subL_cons rfl (subL_cons rfl subL_nil))) ?_ (fun p ⟨hk, hl, hs⟩ => ?_)
    · refine ⟨Nat.zero_le _, rfl, ?_⟩
      show _ = comb [] (typRs cstR ds ats (s.args.drop 0))
      simp only [List.drop_zero]
      cases typRs cstR ds ats s.args <;> rfl
    · by_cases hk' : p.1 < s.args.length
      · have hd : decide ((p.1 : Int) < ((s.args.map encS).length : Int)) = true := by simpa using hk'
        repeat' (first | (show OkOps _ _ _ _ _ _; first | (show OkOps _ _ _ (Oper.mk _ (Op.call _) _ _ _ (_) :: _) _ _; first | refine s_append tabOk rfl rfl rfl rfl rfl rfl rfl rfl rfl rfl rfl rfl rfl (by show List.length p.2 ≤ 100000000; omega) (Nat.le_of_ble_eq_true rfl) (Nat.le_of_ble_eq_true rfl) ?_ | fail) | refine okops_nil ?_ | refine s_plain tabOk rfl rfl rfl rfl rfl ?_ | (show OkOps _ _ _ (Oper.mk _ (Op.binOp .add _ _ _ _) _ _ _ (_) :: _) _ _; first | refine s_e envOk rfl rfl rfl (step3_add rfl rfl rfl rfl (wrap64 (by omega) (by omega))) ?_ | fail) | refine s_new envOk 2 rfl rfl rfl rfl rfl rfl ?_ | fail) | (show OkC _ _ _ _ _; first | refine ok_seq ?_ | refine ok_region ?_ | refine ok_block ?_ | refine ok_skip ?_ | refine ok_ret ?_ | refine ok_condKT rfl (by assumption) ?_ | refine ok_cond rfl (fun h => ?_) (fun h => ?_) | refine ok_regionD progOk.mo ?_ | fail) | (show thenQ _ _ _ _; first | refine then_n ?_ | refine then_r ?_ | fail) | (show blockQ _ _ _ _; first | refine block_n ?_ | refine block_r ?_ | fail) | (show RetQ _ _ _ _ _ _; first | refine ret_leaf (.inl rfl) rfl rfl ?_ | fail) | (show DRun _ _ _ _ _ _ _ _; first | refine d_nil (by kernel_rfl) ?_ | refine d_e envOk rfl rfl rfl (step3_plain rfl rfl) ?_ | (show DRun _ _ _ _ (Oper.mk _ (Op.indexAddr _ _ _) _ _ _ (_) :: _) _ _ _; first | refine d_e envOk rfl rfl rfl (step3_idx rfl rfl rfl rfl rfl (by omega) (at_mapS (by omega))) ?_ | fail) | (show DRun _ _ _ _ (Oper.mk _ (Op.call _) _ _ _ (_) :: _) _ _ _; first | refine d_l rfl rfl (loc_callF' rfl rfl rfl rfl rfl rfl (ih (at_ s.args p.1) (at_mem (by omega)) (hps _ (at_mem (by omega))) (hsz2 _ (at_mem (by omega)))) rfl) ?_ | fail) | fail) | fail)
        · have hb : ¬ (typR cstR ds ats (at_ s.args p.1)).2 = 0 := by simpa using h
          rw [hs, at_drop hk']
          simp [typRs, hb, comb, typSum, ie]
        have hb : (typR cstR ds ats (at_ s.args p.1)).2 = 0 := by simpa using h
        refine ⟨(p.1 + 1, p.2 ++ [(typR cstR ds ats (at_ s.args p.1)).1]), ⟨by show p.1 + 1 ≤ _; omega, by show (p.2 ++ [_]).length = _; simp [hl], ?_⟩, by show s.args.length - (p.1 + 1) < s.args.length - p.1; omega,
          subL_cons rfl (subL_cons rfl ⟨rowN (by kernel_rfl), trivial⟩), ⟨ownN (by kernel_rfl), subL_cons rfl subL_nil⟩, subL_cons rfl (subL_cons rfl subL_nil)⟩
        show typRs cstR ds ats s.args = comb (p.2 ++ [_]) (typRs cstR ds ats (s.args.drop (p.1 + 1)))
        rw [hs, at_drop hk', comb_app]
        simp only [typRs, hb, ne_eq, not_true_eq_false, if_false]
        cases typRs cstR ds ats (s.args.drop (p.1 + 1)) <;> rfl
      · have hd : decide ((p.1 : Int) < ((s.args.map encS).length : Int)) = false := by simpa using hk'
        replace hk' : p.1 = s.args.length := by omega
        have hts : typRs cstR ds ats s.args = .inr p.2 := by
          rw [hs, hk', List.drop_length]; simp [typRs, comb]
        have hC' : CallA Tryz.prog 178 [.one (.d (.int .i64 s.op)), .one (.d (.sl 1 8 ((p.2.map encInt).take p.2.length)))] [] (ie (exTypeF s.op p.2)) [] := by
          have := c178 s.op p.2 hop (by omega)
          have e1 : encInts p.2 = .sl 1 8 ((p.2.map encInt).take p.2.length) := by rw [List.take_of_length_le (by simp)]; rfl
          rw [e1] at this; exact this
        rw [hts]
        repeat' (first | (show OkOps _ _ _ _ _ _; first | refine okops_nil ?_ | refine s_plain tabOk rfl rfl rfl rfl rfl ?_ | fail) | (show OkC _ _ _ _ _; first | refine ok_seq ?_ | refine ok_region ?_ | refine ok_exit ?_ | refine ok_condKF rfl (by assumption) ?_ | fail) | (show thenQ _ _ _ _; first | refine then_n ?_ | refine then_x ?_ | fail) | (show blockQ _ _ _ _; first | refine block_x rfl ?_ | fail) | fail)
        refine s_callFS [5] rfl rfl rfl rfl rfl rfl rfl rfl rfl hC' rfl ?_
        repeat' (first | (show OkOps _ _ _ _ _ _; first | refine okops_nil ?_ | refine s_plain tabOk rfl rfl rfl rfl rfl ?_ | fail) | (show OkC _ _ _ _ _; first | refine ok_ret ?_ | fail) | (show thenQ _ _ _ _; first | refine then_n ?_ | fail) | (show RetQ _ _ _ _ _ _; first | refine ret_leaf (.inl rfl) rfl rfl ?_ | fail) | fail)
        all_goals rfl
end Go.Proofs.YtpejdgkaapnekaaGreat
namespace Go.Proofs.YtpejdgkaapnekaaGreat
open Go Go.Abs
attribute [local irreducible] OkOps OkC DRun thenQ blockQ RetQ
set_option maxRecDepth 10000
set_option linter.unusedVariables false
set_option linter.unusedSimpArgs false
structure Cell where
  at' : List Int
  vals : List Val
  deriving Inhabited
def encCell (c : Cell) : List D := [encInts c.at', encVals c.vals]
def encCells (l : List Cell) : D := .sl 2 48 (l.map encCell)
def valsGo : List Attr → List Val → Int
  | a :: ats, v :: vs => if !fitsF v.kind v.num v.den v.str a.type then 12 else valsGo ats vs
  | _, _ => 0
def cellF (ds : List Dim) (ats : List Attr) (at' : List Int) (vs : List Val) : Int :=
  if (at'.length : Int) ≠ ds.length ∨ (vs.length : Int) ≠ ats.length then 13 else if !ofF ds at' then 3 else valsGo ats vs
theorem c161 (ds : List Dim) (ats : List Attr) (at' : List Int) (vs : List Val) : CallA Tryz.prog 161 [.one (.d (encDims ds)), .one (.d (encAttrs ats)), .agg [.d (encInts at'), .d (encVals vs)]] [] (.one (.d (.int .i64 (cellF ds ats at' vs)))) [] := by
  refine enter tabOk Tryz.func161 rfl (by decide +kernel) rfl fun hok w0 σ0 φ0 M => ?_
  have h1 := hok.1.sl.1; have h2 := hok.2.1.sl.1; have h3 := OkD.sl (hok.2.2.1 (.d (encInts at')) (by simp)); have h4 := OkD.sl (hok.2.2.1 (.d (encVals vs)) (by simp)); clear hok
  replace h3 := h3.1; replace h4 := h4.1; simp only [List.length_map] at h1 h2 h3 h4
  repeat' (first | (show OkOps _ _ _ _ _ _; first | refine okops_nil ?_ | refine s_plain tabOk rfl rfl rfl rfl rfl ?_ | (show OkOps _ _ _ (Oper.mk _ (_) _ _ _ (some _) :: _) _ _; first | refine s_guard rfl rfl (by first | assumption | rfl) ?_ | refine s_out rfl rfl (by first | assumption | rfl) rfl rfl ?_ | refine s_split rfl rfl rfl rfl (fun h => ?_) (fun h => ?_) | fail) | (show OkOps _ _ _ (Oper.mk _ (Op.binOp .add _ _ _ _) _ _ _ (_) :: _) _ _; first | refine s_e envOk rfl rfl rfl (step3_add rfl rfl rfl rfl (wrap64 (by omega) (by omega))) ?_ | fail) | (show OkOps _ _ _ (Oper.mk _ (Op.pick _ _ _) _ _ _ (_) :: _) _ _; first | refine s_e envOk rfl rfl rfl (step3_pickT rfl rfl (by first | rfl | assumption) rfl) ?_ | refine s_e envOk rfl rfl rfl (step3_pickF rfl rfl (by first | rfl | assumption) rfl) ?_ | fail) | (show OkOps _ _ _ (Oper.mk _ (Op.indexAddr _ _ _) _ _ _ (_) :: _) _ _; first | refine s_e envOk rfl rfl rfl (step3_idx rfl rfl rfl rfl rfl (by first | omega | ((try simp only [decide_eq_true_eq, decide_eq_false_iff_not, Bool.not_eq_true', Bool.not_true, Bool.not_false, List.length_map, bne_iff_ne, ne_eq, beq_iff_eq, bne_eq_false_iff_eq, beq_eq_false_iff_ne] at *); omega)) (at_map (by first | omega | ((try simp only [decide_eq_true_eq, decide_eq_false_iff_not, Bool.not_eq_true', Bool.not_true, Bool.not_false, List.length_map, bne_iff_ne, ne_eq, beq_iff_eq, bne_eq_false_iff_eq, beq_eq_false_iff_ne] at *); omega)))) ?_ | fail) | (show OkOps _ _ _ (Oper.mk _ (Op.call _) _ _ _ (_) :: _) _ _; first | refine s_callF rfl rfl rfl rfl rfl rfl rfl rfl (c204 _ _) rfl ?_ | fail) | (show OkOps _ _ _ (Oper.mk _ (Op.box _ _) _ _ _ (_) :: _) _ _; first | refine s_box 0 rfl rfl rfl rfl rfl rfl ?_ | fail) | (show OkOps _ _ _ (Oper.mk _ (Op.alloc _) _ _ _ (_) :: _) _ _; first | refine s_alloc tabOk 1 rfl rfl rfl rfl rfl ?_ | fail) | refine s_store envOk rfl rfl rfl ?_ | fail) | (show OkC _ _ _ _ _; first | refine ok_seq ?_ | refine ok_region ?_ | refine ok_block ?_ | refine ok_skip ?_ | refine ok_ret ?_ | refine ok_exit ?_ | refine ok_condT rfl ?_ | refine ok_cond rfl (fun h => ?_) (fun h => ?_) | refine ok_regionD progOk.mo ?_ | refine s_loop 6 rfl [(1, _), (29, _), (30, _)] (subL_cons rfl (subL_cons rfl (subL_cons rfl subL_nil))) (fun (k : Nat) => [(31, .one (.d (.int .i64 k)))]) (fun k => k ≤ vs.length ∧ at'.length = ds.length ∧ vs.length = ats.length ∧ ofF ds at' = true ∧ cellF ds ats at' vs = valsGo (ats.drop k) (vs.drop k)) (fun k => vs.length - k) 0 (subL_cons rfl subL_nil) ?_ (fun k ⟨hk, hq, hq2, hof, hs⟩ => ?_) | fail) | (show thenQ _ _ _ _; first | refine then_n ?_ | refine then_r ?_ | refine then_x ?_ | fail) | (show blockQ _ _ _ _; first | refine block_n ?_ | refine block_r ?_ | refine block_x rfl ?_ | fail) | (show RetQ _ _ _ _ _ _; first | refine ret_leaf (.inl rfl) rfl rfl ?_ | fail) | (show DRun _ _ _ _ _ _ _ _; first | refine d_nil (by kernel_rfl) ?_ | refine d_e envOk rfl rfl rfl (step3_plain rfl rfl) ?_ | (show DRun _ _ _ _ (Oper.mk _ (Op.indexAddr _ _ _) _ _ _ (_) :: _) _ _ _; first | refine d_e envOk rfl rfl rfl (step3_idx rfl rfl rfl rfl rfl (by first | omega | ((try simp only [decide_eq_true_eq, decide_eq_false_iff_not, Bool.not_eq_true', Bool.not_true, Bool.not_false, List.length_map, bne_iff_ne, ne_eq, beq_iff_eq, bne_eq_false_iff_eq, beq_eq_false_iff_ne] at *); omega)) (at_map (by first | omega | ((try simp only [decide_eq_true_eq, decide_eq_false_iff_not, Bool.not_eq_true', Bool.not_true, Bool.not_false, List.length_map, bne_iff_ne, ne_eq, beq_iff_eq, bne_eq_false_iff_eq, beq_eq_false_iff_ne] at *); omega)))) ?_ | fail) | (show DRun _ _ _ _ (Oper.mk _ (Op.call _) _ _ _ (_) :: _) _ _ _; first | refine d_l rfl rfl (loc_callF' rfl rfl rfl rfl rfl rfl (c215 _ _ _ _ _) rfl) ?_ | fail) | fail) | (show Exists _; first | refine Exists.intro (k + 1) ⟨?_, ?_, (by first | exact subL_nil | exact (subL_cons rfl subL_nil) | exact (subL_cons rfl (subL_cons rfl subL_nil)) | exact (subL_cons rfl (subL_cons rfl (subL_cons rfl subL_nil)))), (subL_cons rfl subL_nil), (subL_cons rfl (subL_cons rfl (subL_cons rfl subL_nil)))⟩ | fail) | fail)
  all_goals (try (((simp_all [cellF, valsGo, at_drop, List.drop_eq_nil_of_le]) <;> first | omega | (rw [Bool.eq_iff_iff]; simp; omega) | grind); done))
end Go.Proofs.YtpejdgkaapnekaaGreat
namespace Go.Proofs.YtpejdgkaapnekaaGreat
open Go Go.Abs
attribute [local irreducible] OkOps OkC DRun thenQ blockQ RetQ
set_option maxRecDepth 10000
set_option linter.unusedVariables false
set_option linter.unusedSimpArgs false
def cellsGo (ds : List Dim) (ats : List Attr) : Option (List Int) → List Cell → Int
  | _, [] => 0
  | none, c :: r => if cellF ds ats c.at' c.vals ≠ 0 then cellF ds ats c.at' c.vals else cellsGo ds ats (some c.at') r
  | some p, c :: r => if cellF ds ats c.at' c.vals ≠ 0 then cellF ds ats c.at' c.vals else if cmpF p c.at' = 0 then 5 else if 0 < cmpF p c.at' then 2 else cellsGo ds ats (some c.at') r
def checkF (ds : List Dim) (ats : List Attr) (cs : List Cell) : Int := if schemaF ds ats ≠ 0 then schemaF ds ats else if 4096 < (cs.length : Int) then 9 else cellsGo ds ats none cs
def pv (cs : List Cell) (k : Nat) : Option (List Int) := if k = 0 then none else some (at_ cs ((k : Int) - 1).toNat).at'
theorem pv_zero {cs : List Cell} : pv cs 0 = none := rfl
theorem pv_pos {cs : List Cell} {k : Nat} (h : ¬ k = 0) : pv cs k = some (at_ cs ((k : Int) - 1).toNat).at' := by simp [pv, h]
theorem pv_succ {cs : List Cell} {k : Nat} : pv cs (k + 1) = some (at_ cs k).at' := by
  have : (((k + 1 : Nat) : Int) - 1).toNat = k := by omega
  rw [pv_pos (by omega), this]
theorem cellsGo_bad {ds : List Dim} {ats : List Attr} {p : Option (List Int)} {c : Cell} {r : List Cell} (h : cellF ds ats c.at' c.vals ≠ 0) : cellsGo ds ats p (c :: r) = cellF ds ats c.at' c.vals := by cases p <;> simp [cellsGo, h]
theorem cmpF_range : ∀ {a b : List Int}, cmpF a b = 0 ∨ cmpF a b = 1 ∨ cmpF a b = -1
  | [], [] => by simp [cmpF]
  | [], _ :: _ => by simp [cmpF]
  | _ :: _, [] => by simp [cmpF]
  | x :: xs, y :: ys => by
    simp only [cmpF]
    split
    · simp
    · split
      · simp
      · exact cmpF_range
theorem cmpF_pos {a b : List Int} : 0 < cmpF a b ↔ cmpF a b = 1 := by
  rcases cmpF_range (a := a) (b := b) with h | h | h <;> simp [h]
end Go.Proofs.YtpejdgkaapnekaaGreat
namespace Go.Proofs.YtpejdgkaapnekaaGreat
open Go Go.Abs
attribute [local irreducible] OkOps OkC DRun thenQ blockQ RetQ
set_option maxRecDepth 10000
set_option linter.unusedVariables false
set_option linter.unusedSimpArgs false
theorem nameF_iff {s : List UInt8} : nameF s = true ↔ (1 ≤ s.length ∧ s.length ≤ 12) ∧ letterF (at_ s 0).toNat = true ∧ ∀ j, j < s.length → furtherF (at_ s j).toNat = true := by
  simp only [nameF, Bool.and_eq_true, decide_eq_true_eq, List.all_eq_true, and_assoc]
  refine and_congr_right fun _ => and_congr_right fun _ => and_congr_right fun _ => ⟨fun h j hj => h _ (at_mem hj), fun h x hx => ?_⟩
  obtain ⟨j, hj⟩ := List.getElem?_of_mem hx
  have hl := (List.getElem?_eq_some_iff.1 hj).1
  rw [at_get hl] at hj
  rw [← Option.some.inj hj]; exact h j hl
theorem c142 (s : List UInt8) : CallA Tryz.prog 142 [.one (.d (.str s))] [] (.one (.d (.bool (nameF s)))) [] := by
  refine enter tabOk Tryz.func142 rfl (by decide +kernel) rfl fun hok w0 σ0 φ0 M => ?_
  have h1 := hok.1.str; clear hok
  repeat' (first | (show OkOps _ _ _ _ _ _; first | refine okops_nil ?_ | refine s_plain tabOk rfl rfl rfl rfl rfl ?_ | (show OkOps _ _ _ (Oper.mk _ (_) _ _ _ (some _) :: _) _ _; first | refine s_guard rfl rfl (by first | assumption | rfl) ?_ | refine s_out rfl rfl (by first | assumption | rfl) rfl rfl ?_ | refine s_outN rfl rfl rfl rfl ?_ | refine s_split rfl rfl rfl rfl (fun h => ?_) (fun h => ?_) | fail) | (show OkOps _ _ _ (Oper.mk _ (Op.convert _ _ _) _ _ _ (_) :: _) _ _; first | refine s_bytes tabOk rfl rfl rfl rfl rfl rfl (by first | omega | ((try simp only [decide_eq_true_eq, decide_eq_false_iff_not, Bool.not_eq_true', Bool.not_true, Bool.not_false, List.length_map, bne_iff_ne, ne_eq, beq_iff_eq, bne_eq_false_iff_eq, beq_eq_false_iff_ne] at *); omega)) ?_ | fail) | (show OkOps _ _ _ (Oper.mk _ (Op.binOp .add _ _ _ _) _ _ _ (_) :: _) _ _; first | refine s_e envOk rfl rfl rfl (step3_add rfl rfl rfl rfl (wrap64 (by omega) (by omega))) ?_ | fail) | (show OkOps _ _ _ (Oper.mk _ (Op.pick _ _ _) _ _ _ (_) :: _) _ _; first | refine s_e envOk rfl rfl rfl (step3_pickT rfl rfl (by first | rfl | assumption) rfl) ?_ | refine s_e envOk rfl rfl rfl (step3_pickF rfl rfl (by first | rfl | assumption) rfl) ?_ | fail) | (show OkOps _ _ _ (Oper.mk _ (Op.indexAddr _ _ _) _ _ _ (_) :: _) _ _; first | refine s_e envOk rfl rfl rfl (step3_idx rfl rfl rfl rfl rfl (by first | omega | ((try simp only [decide_eq_true_eq, decide_eq_false_iff_not, Bool.not_eq_true', Bool.not_true, Bool.not_false, List.length_map, bne_iff_ne, ne_eq, beq_iff_eq, bne_eq_false_iff_eq, beq_eq_false_iff_ne] at *); omega)) (at_map (by first | omega | ((try simp only [decide_eq_true_eq, decide_eq_false_iff_not, Bool.not_eq_true', Bool.not_true, Bool.not_false, List.length_map, bne_iff_ne, ne_eq, beq_iff_eq, bne_eq_false_iff_eq, beq_eq_false_iff_ne] at *); omega)))) ?_ | fail) | fail) | (show OkC _ _ _ _ _; first | refine ok_seq ?_ | refine ok_region ?_ | refine ok_block ?_ | refine ok_skip ?_ | refine ok_ret ?_ | refine ok_exit ?_ | refine ok_condT rfl ?_ | refine ok_condF rfl ?_ | refine ok_cond rfl (fun h => ?_) (fun h => ?_) | refine s_loop 4 rfl [(15, _), (16, _)] (subL_cons rfl (subL_cons rfl subL_nil)) (fun (k : Nat) => [(17, .one (.d (.int .i64 k)))]) (fun k => k ≤ s.length ∧ 1 ≤ s.length ∧ s.length ≤ 12 ∧ (0 < k → letterF (at_ s 0).toNat = true) ∧ (∀ j, j < k → furtherF (at_ s j).toNat = true)) (fun k => s.length - k) 0 (subL_cons rfl subL_nil) ?_ (fun k ⟨hk, hq, hq2, hf, hs⟩ => ?_) | fail) | (show thenQ _ _ _ _; first | refine then_n ?_ | refine then_r ?_ | refine then_x ?_ | fail) | (show blockQ _ _ _ _; first | refine block_n ?_ | refine block_r ?_ | refine block_x rfl ?_ | fail) | (show RetQ _ _ _ _ _ _; first | refine ret_leaf (.inl rfl) rfl rfl ?_ | fail) | (show Exists _; first | refine Exists.intro (k + 1) ⟨?_, ?_, (by first | exact subL_nil | exact (subL_cons rfl subL_nil) | exact (subL_cons rfl (subL_cons rfl subL_nil)) | exact (subL_cons rfl (subL_cons rfl (subL_cons rfl subL_nil)))), (subL_cons rfl subL_nil), (subL_cons rfl (subL_cons rfl subL_nil))⟩ | fail) | fail)
  all_goals (try simp only [decide_eq_true_eq, decide_eq_false_iff_not, Bool.not_eq_true', Bool.not_eq_false', Bool.not_true, Bool.not_false, List.length_map, bne_iff_ne, ne_eq, beq_iff_eq, bne_eq_false_iff_eq, beq_eq_false_iff_ne, Int.toNat_natCast] at *)
  all_goals first
    | omega
    | (refine ⟨by omega, by omega, by omega, ?_, ?_⟩
       · intro hk0
         by_cases h0 : 0 < k
         · exact hf h0
         · have hk0' : k = 0 := by omega
           subst hk0'
           simp only [letterF, Bool.and_eq_true, decide_eq_true_eq]; omega
       · intro j hj
         rcases Nat.lt_or_ge j k with hjk | hjk
         · exact hs j hjk
         · have hje : j = k := by omega
           subst hje
           simp only [furtherF, letterF, Bool.or_eq_true, Bool.and_eq_true, decide_eq_true_eq]; omega)
    | (congr 3; symm; rw [Bool.eq_false_iff, ne_eq, nameF_iff]; rintro ⟨hlen, h0, hj⟩
       first
         | omega
         | (have hjk := hj k (by omega)
            simp only [furtherF, letterF, Bool.or_eq_true, Bool.and_eq_true, decide_eq_true_eq] at hjk h0
            by_cases hk0 : k = 0
            · subst hk0; omega
            · omega))
    | (congr 3; symm; rw [nameF_iff]; exact ⟨⟨hq, hq2⟩, hf (by omega), fun j hj => hs j (by omega)⟩)
    | (refine ⟨by omega, by omega, by omega, fun h => by omega, fun j hj => by omega⟩)
end Go.Proofs.YtpejdgkaapnekaaGreat
namespace Go.Proofs.YtpejdgkaapnekaaGreat
open Go Go.Abs
attribute [local irreducible] OkOps OkC DRun thenQ blockQ RetQ
set_option maxRecDepth 10000
set_option linter.unusedVariables false
set_option linter.unusedSimpArgs false
theorem c190a (ds : List Dim) (hne : dimsF ds ≠ 0) : CallA Tryz.prog 190 [.one (.d (encDims ds)), .one (.mapr 1000000)] [(1000000, .map false false (encMet []))] (.one (.d (.int .i64 (dimsF ds)))) [] := by
  refine enter tabOk Tryz.func190 rfl (by decide +kernel) rfl fun hok w0 σ0 φ0 M => ?_
  have h1 := hok.1.sl.1; clear hok; simp only [List.length_map] at h1
  repeat' (first | (show OkOps _ _ _ _ _ _; first | refine okops_nil ?_ | refine s_plain tabOk rfl rfl rfl rfl rfl ?_ | (show OkOps _ _ _ (Oper.mk _ (_) _ _ _ (some _) :: _) _ _; first | refine s_guard rfl rfl (by first | assumption | rfl) ?_ | refine s_out rfl rfl (by first | assumption | rfl) rfl rfl ?_ | refine s_split rfl rfl rfl rfl (fun h => ?_) (fun h => ?_) | fail) | (show OkOps _ _ _ (Oper.mk _ (Op.binOp .add _ _ _ _) _ _ _ (_) :: _) _ _; first | refine s_e envOk rfl rfl rfl (step3_add rfl rfl rfl rfl (wrap64 (by omega) (by omega))) ?_ | fail) | (show OkOps _ _ _ (Oper.mk _ (Op.pick _ _ _) _ _ _ (_) :: _) _ _; first | refine s_e envOk rfl rfl rfl (step3_pickT rfl rfl (by first | rfl | assumption) rfl) ?_ | refine s_e envOk rfl rfl rfl (step3_pickF rfl rfl (by first | rfl | assumption) rfl) ?_ | fail) | (show OkOps _ _ _ (Oper.mk _ (Op.indexAddr _ _ _) _ _ _ (_) :: _) _ _; first | refine s_e envOk rfl rfl rfl (step3_idx rfl rfl rfl rfl rfl (by first | omega | ((try simp only [decide_eq_true_eq, decide_eq_false_iff_not, Bool.not_eq_true', Bool.not_true, Bool.not_false, List.length_map, bne_iff_ne, ne_eq, beq_iff_eq, bne_eq_false_iff_eq, beq_eq_false_iff_ne] at *); omega)) (at_map (by first | omega | ((try simp only [decide_eq_true_eq, decide_eq_false_iff_not, Bool.not_eq_true', Bool.not_true, Bool.not_false, List.length_map, bne_iff_ne, ne_eq, beq_iff_eq, bne_eq_false_iff_eq, beq_eq_false_iff_ne] at *); omega)))) ?_ | fail) | (show OkOps _ _ _ (Oper.mk _ (Op.call _) _ _ _ (_) :: _) _ _; first | refine s_callF rfl rfl rfl rfl rfl rfl rfl rfl (c142 _) rfl ?_ | fail) | (show OkOps _ _ _ (Oper.mk _ (Op.alloc _) _ _ _ (_) :: _) _ _; first | refine s_alloc tabOk 0 rfl rfl rfl rfl rfl ?_ | fail) | refine s_store envOk rfl rfl rfl ?_ | refine s_lookMet envOk rfl rfl rfl rfl rfl rfl rfl rfl rfl rfl rfl rfl ?_ | refine s_updMet envOk rfl rfl rfl rfl rfl rfl rfl rfl rfl rfl rfl (by assumption) ?_ | fail) | (show OkC _ _ _ _ _; first | refine ok_seq ?_ | refine ok_region ?_ | refine ok_block ?_ | refine ok_skip ?_ | refine ok_ret ?_ | refine ok_exit ?_ | refine ok_condT rfl ?_ | refine ok_cond rfl (fun h => ?_) (fun h => ?_) | refine s_loopM 4 rfl [(1, _), (15, _), (16, _)] (subL_cons rfl (subL_cons rfl (subL_cons rfl subL_nil))) (fun (p : Nat × List (List UInt8)) => [(17, .one (.d (.int .i64 (p.1 : Int))))]) (fun (p : Nat × List (List UInt8)) => [(1000000, .map false false (encMet p.2))]) (fun p => p.1 ≤ ds.length ∧ (1 : Int) ≤ ds.length ∧ (ds.length : Int) ≤ 4 ∧ dimsF ds = dimsGo p.2 (ds.drop p.1)) (fun p => ds.length - p.1) (0, []) (subL_cons rfl subL_nil) (by first | exact subL_nil | exact (subL_cons rfl subL_nil) | exact (subL_cons rfl (subL_cons rfl subL_nil)) | exact (subL_cons rfl (subL_cons rfl (subL_cons rfl subL_nil)))) ?_ (fun p ⟨hk, hq, hq2, hs⟩ => ?_) | fail) | (show thenQ _ _ _ _; first | refine then_n ?_ | refine then_r ?_ | refine then_x ?_ | fail) | (show blockQ _ _ _ _; first | refine block_n ?_ | refine block_r ?_ | refine block_x rfl ?_ | fail) | (show RetQ _ _ _ _ _ _; first | refine ret_leaf (.inl rfl) rfl rfl ?_ | fail) | (show Exists _; first | refine Exists.intro ((p.1 + 1, p.2 ++ [(at_ ds p.1).name])) ⟨?_, ?_, (by first | exact subL_nil | exact (subL_cons rfl subL_nil) | exact (subL_cons rfl (subL_cons rfl subL_nil)) | exact (subL_cons rfl (subL_cons rfl (subL_cons rfl subL_nil)))), (subL_cons rfl subL_nil), (subL_cons rfl (subL_cons rfl (subL_cons rfl subL_nil)))⟩ | fail) | fail)
  all_goals (try (((simp_all [dimsF, dimsGo, boundsF, at_drop, List.drop_eq_nil_of_le]) <;> first | omega | (rw [Bool.eq_iff_iff]; simp; omega) | grind); done))
theorem c190b (ds : List Dim) (he : dimsF ds = 0) : CallA Tryz.prog 190 [.one (.d (encDims ds)), .one (.mapr 1000000)] [(1000000, .map false false (encMet []))] (.one (.d (.int .i64 0))) [(1000000, .map false false (encMet (ds.map Dim.name)))] := by
  refine enter tabOk Tryz.func190 rfl (by decide +kernel) rfl fun hok w0 σ0 φ0 M => ?_
  have h1 := hok.1.sl.1; clear hok; simp only [List.length_map] at h1
  repeat' (first | (show OkOps _ _ _ _ _ _; first | refine okops_nil ?_ | refine s_plain tabOk rfl rfl rfl rfl rfl ?_ | (show OkOps _ _ _ (Oper.mk _ (_) _ _ _ (some _) :: _) _ _; first | refine s_guard rfl rfl (by first | assumption | rfl) ?_ | refine s_out rfl rfl (by first | assumption | rfl) rfl rfl ?_ | refine s_split rfl rfl rfl rfl (fun h => ?_) (fun h => ?_) | fail) | (show OkOps _ _ _ (Oper.mk _ (Op.binOp .add _ _ _ _) _ _ _ (_) :: _) _ _; first | refine s_e envOk rfl rfl rfl (step3_add rfl rfl rfl rfl (wrap64 (by omega) (by omega))) ?_ | fail) | (show OkOps _ _ _ (Oper.mk _ (Op.pick _ _ _) _ _ _ (_) :: _) _ _; first | refine s_e envOk rfl rfl rfl (step3_pickT rfl rfl (by first | rfl | assumption) rfl) ?_ | refine s_e envOk rfl rfl rfl (step3_pickF rfl rfl (by first | rfl | assumption) rfl) ?_ | fail) | (show OkOps _ _ _ (Oper.mk _ (Op.indexAddr _ _ _) _ _ _ (_) :: _) _ _; first | refine s_e envOk rfl rfl rfl (step3_idx rfl rfl rfl rfl rfl (by first | omega | ((try simp only [decide_eq_true_eq, decide_eq_false_iff_not, Bool.not_eq_true', Bool.not_true, Bool.not_false, List.length_map, bne_iff_ne, ne_eq, beq_iff_eq, bne_eq_false_iff_eq, beq_eq_false_iff_ne] at *); omega)) (at_map (by first | omega | ((try simp only [decide_eq_true_eq, decide_eq_false_iff_not, Bool.not_eq_true', Bool.not_true, Bool.not_false, List.length_map, bne_iff_ne, ne_eq, beq_iff_eq, bne_eq_false_iff_eq, beq_eq_false_iff_ne] at *); omega)))) ?_ | fail) | (show OkOps _ _ _ (Oper.mk _ (Op.call _) _ _ _ (_) :: _) _ _; first | refine s_callF rfl rfl rfl rfl rfl rfl rfl rfl (c142 _) rfl ?_ | fail) | (show OkOps _ _ _ (Oper.mk _ (Op.alloc _) _ _ _ (_) :: _) _ _; first | refine s_alloc tabOk 0 rfl rfl rfl rfl rfl ?_ | fail) | refine s_store envOk rfl rfl rfl ?_ | refine s_lookMet envOk rfl rfl rfl rfl rfl rfl rfl rfl rfl rfl rfl rfl ?_ | refine s_updMet envOk rfl rfl rfl rfl rfl rfl rfl rfl rfl rfl rfl (by assumption) ?_ | fail) | (show OkC _ _ _ _ _; first | refine ok_seq ?_ | refine ok_region ?_ | refine ok_block ?_ | refine ok_skip ?_ | refine ok_ret ?_ | refine ok_exit ?_ | refine ok_condT rfl ?_ | refine ok_cond rfl (fun h => ?_) (fun h => ?_) | refine s_loopM 4 rfl [(1, _), (15, _), (16, _)] (subL_cons rfl (subL_cons rfl (subL_cons rfl subL_nil))) (fun (p : Nat × List (List UInt8)) => [(17, .one (.d (.int .i64 (p.1 : Int))))]) (fun (p : Nat × List (List UInt8)) => [(1000000, .map false false (encMet p.2))]) (fun p => p.1 ≤ ds.length ∧ dimsGo p.2 (ds.drop p.1) = 0 ∧ p.2 = (ds.take p.1).map Dim.name) (fun p => ds.length - p.1) (0, []) (subL_cons rfl subL_nil) (by first | exact subL_nil | exact (subL_cons rfl subL_nil) | exact (subL_cons rfl (subL_cons rfl subL_nil)) | exact (subL_cons rfl (subL_cons rfl (subL_cons rfl subL_nil)))) ?_ (fun p ⟨hk, hs, hm⟩ => ?_) | fail) | (show thenQ _ _ _ _; first | refine then_n ?_ | refine then_r ?_ | refine then_x ?_ | fail) | (show blockQ _ _ _ _; first | refine block_n ?_ | refine block_r ?_ | refine block_x rfl ?_ | fail) | (show Exists _; first | refine Exists.intro ((p.1 + 1, p.2 ++ [(at_ ds p.1).name])) ⟨?_, ?_, (by first | exact subL_nil | exact (subL_cons rfl subL_nil) | exact (subL_cons rfl (subL_cons rfl subL_nil)) | exact (subL_cons rfl (subL_cons rfl (subL_cons rfl subL_nil)))), (subL_cons rfl subL_nil), (subL_cons rfl (subL_cons rfl (subL_cons rfl subL_nil)))⟩ | fail) | fail)
  all_goals (try (((simp_all [dimsF, dimsGo, boundsF, at_take, at_drop, List.drop_eq_nil_of_le]) <;> first | omega | (rw [Bool.eq_iff_iff]; simp; omega) | grind); done))
  · have hl : ds.length ≤ p.1 := by simpa using h
    have hp : p.2 = ds.map Dim.name := by rw [hm, List.take_of_length_le hl]
    rw [hp]
    exact ret_leafS (.inl rfl) rfl rfl rfl (subL_cons rfl subL_nil)
end Go.Proofs.YtpejdgkaapnekaaGreat
-- SymM
namespace Go.Proofs.YtpejdgkaapnekaaGreat
open Go Go.Abs
attribute [local irreducible] OkOps OkC DRun thenQ blockQ RetQ
set_option maxRecDepth 10000
set_option linter.unusedVariables false
set_option linter.unusedSimpArgs false
theorem c108a (ds : List Dim) (ats : List Attr) (hne : dimsF ds ≠ 0) : CallA Tryz.prog 108 [.one (.d (encDims ds)), .one (.d (encAttrs ats))] [] (.one (.d (.int .i64 (schemaF ds ats)))) [] := by
  refine enter tabOk Tryz.func108 rfl (by decide +kernel) rfl fun hok w0 σ0 φ0 M => ?_
  clear hok
  repeat' (first | (show OkOps _ _ _ _ _ _; first | refine okops_nil ?_ | refine s_plain tabOk rfl rfl rfl rfl rfl ?_ | refine s_new envOk 0 rfl rfl rfl rfl rfl rfl ?_ | fail) | (show OkC _ _ _ _ _; first | refine ok_seq ?_ | refine ok_region ?_ | fail) | (show thenQ _ _ _ _; first | refine then_n ?_ | fail) | fail)
  refine s_callM 16 [(1000000, 0)] (rav' := .one (.d (.int .i64 (dimsF ds)))) (c190a ds hne) rfl rfl rfl rfl rfl rfl ⟨⟨0, rfl, rfl⟩, trivial⟩ trivial rfl rfl rfl rfl ?_
  repeat' (first | (show OkOps _ _ _ _ _ _; first | refine okops_nil ?_ | refine s_plain tabOk rfl rfl rfl rfl rfl ?_ | (show OkOps _ _ _ (Oper.mk _ (_) _ _ _ (some _) :: _) _ _; first | refine s_guard rfl rfl (by first | assumption | rfl) ?_ | refine s_out rfl rfl (by first | assumption | rfl) rfl rfl ?_ | refine s_split rfl rfl rfl rfl (fun h => ?_) (fun h => ?_) | fail) | (show OkOps _ _ _ (Oper.mk _ (Op.pick _ _ _) _ _ _ (_) :: _) _ _; first | refine s_e envOk rfl rfl rfl (step3_pickT rfl rfl (by first | rfl | assumption) rfl) ?_ | refine s_e envOk rfl rfl rfl (step3_pickF rfl rfl (by first | rfl | assumption) rfl) ?_ | fail) | fail) | (show OkC _ _ _ _ _; first | refine ok_seq ?_ | refine ok_region ?_ | refine ok_block ?_ | refine ok_skip ?_ | refine ok_ret ?_ | refine ok_condT rfl ?_ | refine ok_cond rfl (fun h => ?_) (fun h => ?_) | fail) | (show thenQ _ _ _ _; first | refine then_n ?_ | refine then_r ?_ | fail) | (show RetQ _ _ _ _ _ _; first | refine ret_leaf (.inl rfl) rfl rfl ?_ | fail) | fail)
  all_goals (try (((simp_all [schemaF, at_drop, List.drop_eq_nil_of_le]) <;> first | omega | (rw [Bool.eq_iff_iff]; simp; omega) | grind); done))
theorem c108b (ds : List Dim) (ats : List Attr) (he : dimsF ds = 0) : CallA Tryz.prog 108 [.one (.d (encDims ds)), .one (.d (encAttrs ats))] [] (.one (.d (.int .i64 (schemaF ds ats)))) [] := by
  refine enter tabOk Tryz.func108 rfl (by decide +kernel) rfl fun hok w0 σ0 φ0 M => ?_
  have h1 := hok.2.1.sl.1; clear hok; simp only [List.length_map] at h1
  repeat' (first | (show OkOps _ _ _ _ _ _; first | refine okops_nil ?_ | refine s_plain tabOk rfl rfl rfl rfl rfl ?_ | refine s_new envOk 0 rfl rfl rfl rfl rfl rfl ?_ | fail) | (show OkC _ _ _ _ _; first | refine ok_seq ?_ | refine ok_region ?_ | fail) | (show thenQ _ _ _ _; first | refine then_n ?_ | fail) | fail)
  refine s_callM 16 [(1000000, 0)] (rav' := .one (.d (.int .i64 0))) (c190b ds he) rfl rfl rfl rfl rfl rfl ⟨⟨0, rfl, rfl⟩, trivial⟩ ⟨fun i e h1 h2 => ?_, trivial⟩ rfl rfl rfl rfl ?_
  · have h1' : some 0 = some i := h1
    cases h1'
    have h2' : some (AObj.map false false (encMet [])) = some e := h2
    cases h2'
    exact ⟨rfl, rfl⟩
  repeat' (first | (show OkOps _ _ _ _ _ _; first | refine okops_nil ?_ | refine s_plain tabOk rfl rfl rfl rfl rfl ?_ | (show OkOps _ _ _ (Oper.mk _ (_) _ _ _ (some _) :: _) _ _; first | refine s_guard rfl rfl (by first | assumption | rfl) ?_ | refine s_out rfl rfl (by first | assumption | rfl) rfl rfl ?_ | refine s_split rfl rfl rfl rfl (fun h => ?_) (fun h => ?_) | fail) | (show OkOps _ _ _ (Oper.mk _ (Op.binOp .add _ _ _ _) _ _ _ (_) :: _) _ _; first | refine s_e envOk rfl rfl rfl (step3_add rfl rfl rfl rfl (wrap64 (by omega) (by omega))) ?_ | fail) | (show OkOps _ _ _ (Oper.mk _ (Op.pick _ _ _) _ _ _ (_) :: _) _ _; first | refine s_e envOk rfl rfl rfl (step3_pickT rfl rfl (by first | rfl | assumption) rfl) ?_ | refine s_e envOk rfl rfl rfl (step3_pickF rfl rfl (by first | rfl | assumption) rfl) ?_ | fail) | (show OkOps _ _ _ (Oper.mk _ (Op.indexAddr _ _ _) _ _ _ (_) :: _) _ _; first | refine s_e envOk rfl rfl rfl (step3_idx rfl rfl rfl rfl rfl (by first | omega | ((try simp only [decide_eq_true_eq, decide_eq_false_iff_not, Bool.not_eq_true', Bool.not_true, Bool.not_false, List.length_map, bne_iff_ne, ne_eq, beq_iff_eq, bne_eq_false_iff_eq, beq_eq_false_iff_ne] at *); omega)) (at_map (by first | omega | ((try simp only [decide_eq_true_eq, decide_eq_false_iff_not, Bool.not_eq_true', Bool.not_true, Bool.not_false, List.length_map, bne_iff_ne, ne_eq, beq_iff_eq, bne_eq_false_iff_eq, beq_eq_false_iff_ne] at *); omega)))) ?_ | fail) | (show OkOps _ _ _ (Oper.mk _ (Op.call _) _ _ _ (_) :: _) _ _; first | refine s_callF rfl rfl rfl rfl rfl rfl rfl rfl (c142 _) rfl ?_ | fail) | (show OkOps _ _ _ (Oper.mk _ (Op.alloc _) _ _ _ (_) :: _) _ _; first | refine s_alloc tabOk 1 rfl rfl rfl rfl rfl ?_ | fail) | refine s_store envOk rfl rfl rfl ?_ | refine s_lookMet envOk rfl rfl rfl rfl rfl rfl rfl rfl rfl rfl rfl rfl ?_ | refine s_updMet envOk rfl rfl rfl rfl rfl rfl rfl rfl rfl rfl rfl (by assumption) ?_ | fail) | (show OkC _ _ _ _ _; first | refine ok_seq ?_ | refine ok_region ?_ | refine ok_block ?_ | refine ok_skip ?_ | refine ok_ret ?_ | refine ok_exit ?_ | refine ok_condT rfl ?_ | refine ok_condF rfl ?_ | refine ok_cond rfl (fun h => ?_) (fun h => ?_) | refine s_loopM 8 rfl [(5, _), (24, _), (25, _)] (subL_cons rfl (subL_cons rfl (subL_cons rfl subL_nil))) (fun (p : Nat × List (List UInt8)) => [(26, .one (.d (.int .i64 (p.1 : Int))))]) (fun (p : Nat × List (List UInt8)) => [(0, .map false false (encMet p.2))]) (fun p => p.1 ≤ ats.length ∧ dimsF ds = 0 ∧ (1 : Int) ≤ ats.length ∧ (ats.length : Int) ≤ 6 ∧ schemaF ds ats = attrsGo p.2 (ats.drop p.1)) (fun p => ats.length - p.1) (0, ds.map Dim.name) (subL_cons rfl subL_nil) (by first | exact subL_nil | exact (subL_cons rfl subL_nil) | exact (subL_cons rfl (subL_cons rfl subL_nil)) | exact (subL_cons rfl (subL_cons rfl (subL_cons rfl subL_nil)))) ?_ (fun p ⟨hk, hd, hq, hq2, hs⟩ => ?_) | fail) | (show thenQ _ _ _ _; first | refine then_n ?_ | refine then_r ?_ | refine then_x ?_ | fail) | (show blockQ _ _ _ _; first | refine block_n ?_ | refine block_r ?_ | refine block_x rfl ?_ | fail) | (show RetQ _ _ _ _ _ _; first | refine ret_leaf (.inl rfl) rfl rfl ?_ | fail) | (show Exists _; first | refine Exists.intro ((p.1 + 1, p.2 ++ [(at_ ats p.1).name])) ⟨?_, ?_, (by first | exact subL_nil | exact (subL_cons rfl subL_nil) | exact (subL_cons rfl (subL_cons rfl subL_nil)) | exact (subL_cons rfl (subL_cons rfl (subL_cons rfl subL_nil)))), (subL_cons rfl subL_nil), (subL_cons rfl (subL_cons rfl (subL_cons rfl subL_nil)))⟩ | fail) | fail)
  all_goals (try (((simp_all [schemaF, attrsGo, at_drop, List.drop_eq_nil_of_le]) <;> first | omega | (rw [Bool.eq_iff_iff]; simp; omega) | grind); done))
theorem c108 (ds : List Dim) (ats : List Attr) : CallA Tryz.prog 108 [.one (.d (encDims ds)), .one (.d (encAttrs ats))] [] (.one (.d (.int .i64 (schemaF ds ats)))) [] := by
  by_cases h : dimsF ds = 0
  · exact c108b ds ats h
  · exact c108a ds ats h
end Go.Proofs.YtpejdgkaapnekaaGreat
namespace Go.Proofs.YtpejdgkaapnekaaGreat
open Go Go.Abs
attribute [local irreducible] OkOps OkC DRun thenQ blockQ RetQ
set_option maxRecDepth 10000
set_option linter.unusedVariables false
set_option linter.unusedSimpArgs false
theorem c59 (ds : List Dim) (ats : List Attr) (cs : List Cell) : CallA Tryz.prog 59 [.agg [.d (encDims ds), .d (encAttrs ats), .d (encCells cs)]] [] (.one (.d (.int .i64 (checkF ds ats cs)))) [] := by
  refine enter tabOk Tryz.func59 rfl (by decide +kernel) rfl fun hok w0 σ0 φ0 M => ?_
  have h1 := (OkD.sl (hok.1 (.d (encCells cs)) (by simp))).1; clear hok; simp only [List.length_map] at h1
  repeat' (first | (show OkOps _ _ _ _ _ _; first | refine okops_nil ?_ | refine s_plain tabOk rfl rfl rfl rfl rfl ?_ | (show OkOps _ _ _ (Oper.mk _ (Op.binOp .add _ _ _ _) _ _ _ (_) :: _) _ _; first | refine s_e envOk rfl rfl rfl (step3_add rfl rfl rfl rfl (wrap64 (by omega) (by omega))) ?_ | fail) | (show OkOps _ _ _ (Oper.mk _ (Op.indexAddr _ _ _) _ _ _ (_) :: _) _ _; first | refine s_e envOk rfl rfl rfl (step3_idx rfl rfl rfl rfl rfl (by first | omega | ((try simp only [decide_eq_true_eq, decide_eq_false_iff_not, Bool.not_eq_true', Bool.not_true, Bool.not_false, List.length_map, bne_iff_ne, ne_eq, beq_iff_eq, bne_eq_false_iff_eq, beq_eq_false_iff_ne] at *); omega)) (at_map (by first | omega | ((try simp only [decide_eq_true_eq, decide_eq_false_iff_not, Bool.not_eq_true', Bool.not_true, Bool.not_false, List.length_map, bne_iff_ne, ne_eq, beq_iff_eq, bne_eq_false_iff_eq, beq_eq_false_iff_ne] at *); omega)))) ?_ | fail) | (show OkOps _ _ _ (Oper.mk _ (Op.call _) _ _ _ (_) :: _) _ _; first | refine s_callF rfl rfl rfl rfl rfl rfl rfl rfl (c108 _ _) rfl ?_ | refine s_callF rfl rfl rfl rfl rfl rfl rfl rfl (c161 _ _ _ _) rfl ?_ | fail) | (show OkOps _ _ _ (Oper.mk _ (Op.box _ _) _ _ _ (_) :: _) _ _; first | refine s_box 0 rfl rfl rfl rfl rfl rfl ?_ | fail) | (show OkOps _ _ _ (Oper.mk _ (Op.alloc _) _ _ _ (_) :: _) _ _; first | refine s_alloc tabOk 1 rfl rfl rfl rfl rfl ?_ | fail) | refine s_store envOk rfl rfl rfl ?_ | fail) | (show OkC _ _ _ _ _; first | refine ok_seq ?_ | refine ok_region ?_ | refine ok_block ?_ | refine ok_skip ?_ | refine ok_ret ?_ | refine ok_exit ?_ | refine ok_cond rfl (fun h => ?_) (fun h => ?_) | refine ok_regionD progOk.mo ?_ | refine s_loop 7 rfl [(1, _), (20, _), (21, _)] (subL_cons rfl (subL_cons rfl (subL_cons rfl subL_nil))) (fun (k : Nat) => [(22, .one (.d (.int .i64 k)))]) (fun k => k ≤ cs.length ∧ schemaF ds ats = 0 ∧ (cs.length : Int) ≤ 4096 ∧ checkF ds ats cs = cellsGo ds ats (pv cs k) (cs.drop k)) (fun k => cs.length - k) 0 (subL_cons rfl subL_nil) ?_ (fun k ⟨hk, hsc, hq, hs⟩ => ?_) | fail) | (show thenQ _ _ _ _; first | refine then_n ?_ | refine then_r ?_ | refine then_x ?_ | fail) | (show blockQ _ _ _ _; first | refine block_n ?_ | refine block_r ?_ | refine block_x rfl ?_ | fail) | (show RetQ _ _ _ _ _ _; first | refine ret_leaf (.inl rfl) rfl rfl ?_ | fail) | (show DRun _ _ _ _ _ _ _ _; first | refine d_nil (by kernel_rfl) ?_ | refine d_e envOk rfl rfl rfl (step3_plain rfl rfl) ?_ | (show DRun _ _ _ _ (Oper.mk _ (Op.binOp .sub _ _ _ _) _ _ _ (_) :: _) _ _ _; first | refine d_e envOk rfl rfl rfl (step3_sub rfl rfl rfl rfl (wrap64 (by omega) (by omega))) ?_ | fail) | (show DRun _ _ _ _ (Oper.mk _ (Op.indexAddr _ _ _) _ _ _ (_) :: _) _ _ _; first | refine d_e envOk rfl rfl rfl (step3_idx rfl rfl rfl rfl rfl (by first | omega | ((try simp only [decide_eq_true_eq, decide_eq_false_iff_not, Bool.not_eq_true', Bool.not_true, Bool.not_false, List.length_map, bne_iff_ne, ne_eq, beq_iff_eq, bne_eq_false_iff_eq, beq_eq_false_iff_ne] at *); omega)) (at_map (by first | omega | ((try simp only [decide_eq_true_eq, decide_eq_false_iff_not, Bool.not_eq_true', Bool.not_true, Bool.not_false, List.length_map, bne_iff_ne, ne_eq, beq_iff_eq, bne_eq_false_iff_eq, beq_eq_false_iff_ne] at *); omega)))) ?_ | fail) | (show DRun _ _ _ _ (Oper.mk _ (Op.call _) _ _ _ (_) :: _) _ _ _; first | refine d_l rfl rfl (loc_callF' rfl rfl rfl rfl rfl rfl (c35 _ _) rfl) ?_ | fail) | fail) | (show Exists _; first | refine Exists.intro (k + 1) ⟨?_, ?_, (by first | exact subL_nil | exact (subL_cons rfl subL_nil) | exact (subL_cons rfl (subL_cons rfl subL_nil)) | exact (subL_cons rfl (subL_cons rfl (subL_cons rfl subL_nil)))), (subL_cons rfl subL_nil), (subL_cons rfl (subL_cons rfl (subL_cons rfl subL_nil)))⟩ | fail) | fail)
  all_goals (try (((simp_all [checkF, cellsGo, pv_zero, pv_pos, pv_succ, cmpF_pos, at_drop, List.drop_eq_nil_of_le]) <;> first | omega | (rw [Bool.eq_iff_iff]; simp; omega) | grind); done))
  · rename_i hlt
    have hk' : k < cs.length := by simpa using hlt
    have hb : cellF ds ats (at_ cs k).at' (at_ cs k).vals ≠ 0 := by simpa using h
    rw [hs, at_drop hk', cellsGo_bad hb]; simp
  · rename_i hlt hc
    have hk' : k < cs.length := by simpa using hlt
    have hk0 : k = 0 := by simpa using h
    have hb : cellF ds ats (at_ cs k).at' (at_ cs k).vals = 0 := by simpa using hc
    refine ⟨by omega, hsc, hq, ?_⟩
    rw [hs, at_drop hk', pv_succ]
    subst hk0
    simp [cellsGo, hb, pv_zero]
end Go.Proofs.YtpejdgkaapnekaaGreat
namespace Go.Proofs.YtpejdgkaapnekaaGreat
open Go Go.Abs
attribute [local irreducible] OkOps OkC DRun thenQ blockQ RetQ
set_option maxRecDepth 10000
set_option linter.unusedVariables false
set_option linter.unusedSimpArgs false
theorem c131 (ds : List Dim) (ats : List Attr) (at' : List Int) (vs : List Val) : CallA Tryz.prog 131 [.one (.d (encDims ds)), .one (.d (encAttrs ats)), .agg [.d (encInts at'), .d (encVals vs)]] [] (.one (.d (.int .i64 (cellF ds ats at' vs)))) [] := by
  refine enter tabOk Tryz.func131 rfl (by decide +kernel) rfl fun hok w0 σ0 φ0 M => ?_
  have h1 := hok.1.sl.1; have h2 := hok.2.1.sl.1; have h3 := OkD.sl (hok.2.2.1 (.d (encInts at')) (by simp)); have h4 := OkD.sl (hok.2.2.1 (.d (encVals vs)) (by simp)); clear hok
  replace h3 := h3.1; replace h4 := h4.1; simp only [List.length_map] at h1 h2 h3 h4
  repeat' (first | (show OkOps _ _ _ _ _ _; first | refine okops_nil ?_ | refine s_plain tabOk rfl rfl rfl rfl rfl ?_ | (show OkOps _ _ _ (Oper.mk _ (_) _ _ _ (some _) :: _) _ _; first | refine s_guard rfl rfl (by first | assumption | rfl) ?_ | refine s_out rfl rfl (by first | assumption | rfl) rfl rfl ?_ | refine s_split rfl rfl rfl rfl (fun h => ?_) (fun h => ?_) | fail) | (show OkOps _ _ _ (Oper.mk _ (Op.binOp .add _ _ _ _) _ _ _ (_) :: _) _ _; first | refine s_e envOk rfl rfl rfl (step3_add rfl rfl rfl rfl (wrap64 (by omega) (by omega))) ?_ | fail) | (show OkOps _ _ _ (Oper.mk _ (Op.pick _ _ _) _ _ _ (_) :: _) _ _; first | refine s_e envOk rfl rfl rfl (step3_pickT rfl rfl (by first | rfl | assumption) rfl) ?_ | refine s_e envOk rfl rfl rfl (step3_pickF rfl rfl (by first | rfl | assumption) rfl) ?_ | fail) | (show OkOps _ _ _ (Oper.mk _ (Op.call _) _ _ _ (_) :: _) _ _; first | refine s_callF rfl rfl rfl rfl rfl rfl rfl rfl (c100 _ _) rfl ?_ | fail) | (show OkOps _ _ _ (Oper.mk _ (Op.box _ _) _ _ _ (_) :: _) _ _; first | refine s_box 0 rfl rfl rfl rfl rfl rfl ?_ | fail) | fail) | (show OkC _ _ _ _ _; first | refine ok_seq ?_ | refine ok_region ?_ | refine ok_block ?_ | refine ok_skip ?_ | refine ok_ret ?_ | refine ok_exit ?_ | refine ok_condT rfl ?_ | refine ok_cond rfl (fun h => ?_) (fun h => ?_) | refine ok_regionD progOk.mo ?_ | refine s_loop 6 rfl [(1, _), (5, _)] (subL_cons rfl (subL_cons rfl subL_nil)) (fun (k : Nat) => [(7, .one (.d (.int .i64 k)))]) (fun k => k ≤ ats.length ∧ at'.length = ds.length ∧ vs.length = ats.length ∧ ofF ds at' = true ∧ cellF ds ats at' vs = valsGo (ats.drop k) (vs.drop k)) (fun k => ats.length - k) 0 (subL_cons rfl subL_nil) ?_ (fun k ⟨hk, hq, hq2, hof, hs⟩ => ?_) | fail) | (show thenQ _ _ _ _; first | refine then_n ?_ | refine then_r ?_ | refine then_x ?_ | fail) | (show blockQ _ _ _ _; first | refine block_n ?_ | refine block_r ?_ | refine block_x rfl ?_ | fail) | (show RetQ _ _ _ _ _ _; first | refine ret_leaf (.inl rfl) rfl rfl ?_ | fail) | (show DRun _ _ _ _ _ _ _ _; first | refine d_nil (by kernel_rfl) ?_ | refine d_e envOk rfl rfl rfl (step3_plain rfl rfl) ?_ | (show DRun _ _ _ _ (Oper.mk _ (Op.indexAddr _ _ _) _ _ _ (_) :: _) _ _ _; first | refine d_e envOk rfl rfl rfl (step3_idx rfl rfl rfl rfl rfl (by first | omega | ((try simp only [decide_eq_true_eq, decide_eq_false_iff_not, Bool.not_eq_true', Bool.not_true, Bool.not_false, List.length_map, bne_iff_ne, ne_eq, beq_iff_eq, bne_eq_false_iff_eq, beq_eq_false_iff_ne] at *); omega)) (at_map (by first | omega | ((try simp only [decide_eq_true_eq, decide_eq_false_iff_not, Bool.not_eq_true', Bool.not_true, Bool.not_false, List.length_map, bne_iff_ne, ne_eq, beq_iff_eq, bne_eq_false_iff_eq, beq_eq_false_iff_ne] at *); omega)))) ?_ | fail) | (show DRun _ _ _ _ (Oper.mk _ (Op.call _) _ _ _ (_) :: _) _ _ _; first | refine d_l rfl rfl (loc_callF' rfl rfl rfl rfl rfl rfl (c199 _ _ _ _ _) rfl) ?_ | fail) | fail) | (show Exists _; first | refine Exists.intro (k + 1) ⟨?_, ?_, (by first | exact subL_nil | exact (subL_cons rfl subL_nil) | exact (subL_cons rfl (subL_cons rfl subL_nil)) | exact (subL_cons rfl (subL_cons rfl (subL_cons rfl subL_nil)))), (subL_cons rfl subL_nil), (subL_cons rfl (subL_cons rfl subL_nil))⟩ | fail) | fail)
  all_goals (try (((simp_all [cellF, valsGo, at_drop, List.drop_eq_nil_of_le]) <;> first | omega | (rw [Bool.eq_iff_iff]; simp; omega) | grind); done))
end Go.Proofs.YtpejdgkaapnekaaGreat
namespace Go.Proofs.YtpejdgkaapnekaaGreat
open Go Go.Abs
attribute [local irreducible] OkOps OkC DRun thenQ blockQ RetQ
set_option maxRecDepth 10000
set_option linter.unusedVariables false
set_option linter.unusedSimpArgs false
theorem c89 (ds : List Dim) (ats : List Attr) (cs : List Cell) : CallA Tryz.prog 89 [.agg [.d (encDims ds), .d (encAttrs ats), .d (encCells cs)]] [] (.one (.d (.int .i64 (checkF ds ats cs)))) [] := by
  refine enter tabOk Tryz.func89 rfl (by decide +kernel) rfl fun hok w0 σ0 φ0 M => ?_
  have h1 := (OkD.sl (hok.1 (.d (encCells cs)) (by simp))).1; clear hok; simp only [List.length_map] at h1
  repeat' (first | (show OkOps _ _ _ _ _ _; first | refine okops_nil ?_ | refine s_plain tabOk rfl rfl rfl rfl rfl ?_ | (show OkOps _ _ _ (Oper.mk _ (Op.binOp .add _ _ _ _) _ _ _ (_) :: _) _ _; first | refine s_e envOk rfl rfl rfl (step3_add rfl rfl rfl rfl (wrap64 (by omega) (by omega))) ?_ | fail) | (show OkOps _ _ _ (Oper.mk _ (Op.call _) _ _ _ (_) :: _) _ _; first | refine s_callF rfl rfl rfl rfl rfl rfl rfl rfl (c115 _ _) rfl ?_ | fail) | (show OkOps _ _ _ (Oper.mk _ (Op.box _ _) _ _ _ (_) :: _) _ _; first | refine s_box 0 rfl rfl rfl rfl rfl rfl ?_ | fail) | fail) | (show OkC _ _ _ _ _; first | refine ok_seq ?_ | refine ok_region ?_ | refine ok_block ?_ | refine ok_skip ?_ | refine ok_ret ?_ | refine ok_exit ?_ | refine ok_cond rfl (fun h => ?_) (fun h => ?_) | refine ok_regionD progOk.mo ?_ | refine s_loop 7 rfl [(1, _)] (subL_cons rfl subL_nil) (fun (k : Nat) => [(4, .one (.d (.int .i64 k)))]) (fun k => k ≤ cs.length ∧ schemaF ds ats = 0 ∧ (cs.length : Int) ≤ 4096 ∧ checkF ds ats cs = cellsGo ds ats (pv cs k) (cs.drop k)) (fun k => cs.length - k) 0 (subL_cons rfl subL_nil) ?_ (fun k ⟨hk, hsc, hq, hs⟩ => ?_) | fail) | (show thenQ _ _ _ _; first | refine then_n ?_ | refine then_r ?_ | refine then_x ?_ | fail) | (show blockQ _ _ _ _; first | refine block_n ?_ | refine block_r ?_ | refine block_x rfl ?_ | fail) | (show RetQ _ _ _ _ _ _; first | refine ret_leaf (.inl rfl) rfl rfl ?_ | fail) | (show DRun _ _ _ _ _ _ _ _; first | refine d_nil (by kernel_rfl) ?_ | refine d_e envOk rfl rfl rfl (step3_plain rfl rfl) ?_ | (show DRun _ _ _ _ (Oper.mk _ (Op.binOp .sub _ _ _ _) _ _ _ (_) :: _) _ _ _; first | refine d_e envOk rfl rfl rfl (step3_sub rfl rfl rfl rfl (wrap64 (by omega) (by omega))) ?_ | fail) | (show DRun _ _ _ _ (Oper.mk _ (Op.indexAddr _ _ _) _ _ _ (_) :: _) _ _ _; first | refine d_e envOk rfl rfl rfl (step3_idx rfl rfl rfl rfl rfl (by first | omega | ((try simp only [decide_eq_true_eq, decide_eq_false_iff_not, Bool.not_eq_true', Bool.not_true, Bool.not_false, List.length_map, bne_iff_ne, ne_eq, beq_iff_eq, bne_eq_false_iff_eq, beq_eq_false_iff_ne] at *); omega)) (at_map (by first | omega | ((try simp only [decide_eq_true_eq, decide_eq_false_iff_not, Bool.not_eq_true', Bool.not_true, Bool.not_false, List.length_map, bne_iff_ne, ne_eq, beq_iff_eq, bne_eq_false_iff_eq, beq_eq_false_iff_ne] at *); omega)))) ?_ | fail) | (show DRun _ _ _ _ (Oper.mk _ (Op.call _) _ _ _ (_) :: _) _ _ _; first | refine d_l rfl rfl (loc_callF' rfl rfl rfl rfl rfl rfl (c131 _ _ _ _) rfl) ?_ | refine d_l rfl rfl (loc_callF' rfl rfl rfl rfl rfl rfl (c176 _ _) rfl) ?_ | fail) | fail) | (show Exists _; first | refine Exists.intro (k + 1) ⟨?_, ?_, (by first | exact subL_nil | exact (subL_cons rfl subL_nil) | exact (subL_cons rfl (subL_cons rfl subL_nil)) | exact (subL_cons rfl (subL_cons rfl (subL_cons rfl subL_nil)))), (subL_cons rfl subL_nil), (subL_cons rfl subL_nil)⟩ | fail) | fail)
  all_goals (try (((simp_all [checkF, cellsGo, pv_zero, pv_pos, pv_succ, cmpF_pos, at_drop, List.drop_eq_nil_of_le]) <;> first | omega | (rw [Bool.eq_iff_iff]; simp; omega) | grind); done))
  · rename_i hlt
    have hk' : k < cs.length := by simpa using hlt
    have hb : cellF ds ats (at_ cs k).at' (at_ cs k).vals ≠ 0 := by simpa using h
    rw [hs, at_drop hk', cellsGo_bad hb]; simp
  · rename_i hlt hc
    have hk' : k < cs.length := by simpa using hlt
    have hk0 : k = 0 := by simpa using h
    have hb : cellF ds ats (at_ cs k).at' (at_ cs k).vals = 0 := by simpa using hc
    refine ⟨by omega, hsc, hq, ?_⟩
    rw [hs, at_drop hk', pv_succ]
    subst hk0
    simp [cellsGo, hb, pv_zero]
end Go.Proofs.YtpejdgkaapnekaaGreat
