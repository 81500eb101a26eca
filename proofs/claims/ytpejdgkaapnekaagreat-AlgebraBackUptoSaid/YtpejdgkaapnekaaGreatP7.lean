import Derived.Test.YtpejdgkaapnekaaGreatP6
set_option linter.unusedVariables false
set_option linter.unusedSimpArgs false
namespace Go.Proofs.YtpejdgkaapnekaaGreat
open Go Go.Abs
attribute [local irreducible] OkOps OkC DRun thenQ blockQ RetQ
set_option maxRecDepth 10000
def chkA (a : Arr) : Int := checkF a.dims a.attrs a.cells
theorem c180 (a : Arr) : CallA Tryz.prog 180 [aggA a] [] (.one (.d (.bool (chkA a != 0)))) [] := by
  unfold aggA
  refine enter tabOk Tryz.func180 rfl (by decide +kernel) rfl fun hok w0 σ0 φ0 M => ?_
  clear hok
  repeat' (first | (show OkOps _ _ _ _ _ _; first | refine okops_nil ?_ | refine s_plain tabOk rfl rfl rfl rfl rfl ?_ | (show OkOps _ _ _ (Oper.mk _ (Op.call _) _ _ _ (_) :: _) _ _; first | refine s_callF rfl rfl rfl rfl rfl rfl rfl rfl (c59 _ _ _) rfl ?_ | fail) | (show OkOps _ _ _ (Oper.mk _ (Op.box _ _) _ _ _ (_) :: _) _ _; first | refine s_box 0 rfl rfl rfl rfl rfl rfl ?_ | fail) | fail) | (show OkC _ _ _ _ _; first | refine ok_seq ?_ | refine ok_region ?_ | refine ok_ret ?_ | fail) | (show thenQ _ _ _ _; first | refine then_n ?_ | fail) | (show RetQ _ _ _ _ _ _; first | refine ret_leaf (.inl rfl) rfl rfl ?_ | fail) | fail)
  all_goals rfl
theorem c31 (a : Arr) (m : Int) : CallA Tryz.prog 31 [aggA a, .one (.d (.int .i64 m))] [] (.one (.d (.bool (decide (m < (a.cells.length : Int)) || chkA a != 0)))) [] := by
  unfold aggA
  refine enter tabOk Tryz.func31 rfl (by decide +kernel) rfl fun hok w0 σ0 φ0 M => ?_
  have h1 := (OkD.sl (hok.1 (.d (encCells a.cells)) (by simp))).1; clear hok; simp only [List.length_map] at h1
  repeat' (first | (show OkOps _ _ _ _ _ _; first | refine okops_nil ?_ | refine s_plain tabOk rfl rfl rfl rfl rfl ?_ | (show OkOps _ _ _ (Oper.mk _ (_) _ _ _ (some _) :: _) _ _; first | refine s_guard rfl rfl (by first | assumption | rfl) ?_ | refine s_out rfl rfl (by first | assumption | rfl) rfl rfl ?_ | refine s_split rfl rfl rfl rfl (fun h => ?_) (fun h => ?_) | fail) | (show OkOps _ _ _ (Oper.mk _ (Op.pick _ _ _) _ _ _ (_) :: _) _ _; first | refine s_e envOk rfl rfl rfl (step3_pickT rfl rfl (by first | rfl | assumption) rfl) ?_ | refine s_e envOk rfl rfl rfl (step3_pickF rfl rfl (by first | rfl | assumption) rfl) ?_ | fail) | (show OkOps _ _ _ (Oper.mk _ (Op.call _) _ _ _ (_) :: _) _ _; first | refine s_callF rfl rfl rfl rfl rfl rfl rfl rfl (c59 _ _ _) rfl ?_ | fail) | (show OkOps _ _ _ (Oper.mk _ (Op.box _ _) _ _ _ (_) :: _) _ _; first | refine s_box 0 rfl rfl rfl rfl rfl rfl ?_ | fail) | fail) | (show OkC _ _ _ _ _; first | refine ok_seq ?_ | refine ok_region ?_ | refine ok_ret ?_ | fail) | (show thenQ _ _ _ _; first | refine then_n ?_ | fail) | (show RetQ _ _ _ _ _ _; first | refine ret_leaf (.inl rfl) rfl rfl ?_ | fail) | fail)
  all_goals (try (((simp_all [chkA, at_drop, List.drop_eq_nil_of_le]) <;> first | omega | (rw [Bool.eq_iff_iff]; simp; omega) | grind); done))
theorem c230 (l : List Arr) : CallA Tryz.prog 230 [.one (.d (encArrs l)), .one (.d (.fn 180 []))] [] (.one (.d (.int .i64 (idxGo (fun a => chkA a != 0) l 0)))) [] := by
  refine enter tabOk Tryz.func230 rfl (by decide +kernel) rfl fun hok w0 σ0 φ0 M => ?_
  have h1 := hok.1.sl; clear hok; simp only [List.length_map] at h1; replace h1 := h1.1
  repeat' (first | (show OkOps _ _ _ _ _ _; first | refine okops_nil ?_ | refine s_plain tabOk rfl rfl rfl rfl rfl ?_ | (show OkOps _ _ _ (Oper.mk _ (Op.binOp .add _ _ _ _) _ _ _ (_) :: _) _ _; first | refine s_e envOk rfl rfl rfl (step3_add rfl rfl rfl rfl (wrap64 (by omega) (by omega))) ?_ | fail) | (show OkOps _ _ _ (Oper.mk _ (Op.indexAddr _ _ _) _ _ _ (_) :: _) _ _; first | refine s_e envOk rfl rfl rfl (step3_idx rfl rfl rfl rfl rfl (by first | omega | ((try simp only [decide_eq_true_eq, decide_eq_false_iff_not, Bool.not_eq_true', Bool.not_true, Bool.not_false, List.length_map, List.length_set, bne_iff_ne, ne_eq, beq_iff_eq, bne_eq_false_iff_eq, beq_eq_false_iff_ne] at *); omega)) (at_map (by first | omega | ((try simp only [decide_eq_true_eq, decide_eq_false_iff_not, Bool.not_eq_true', Bool.not_true, Bool.not_false, List.length_map, List.length_set, bne_iff_ne, ne_eq, beq_iff_eq, bne_eq_false_iff_eq, beq_eq_false_iff_ne] at *); omega)))) ?_ | fail) | (show OkOps _ _ _ (Oper.mk _ (Op.call _) _ _ _ (_) :: _) _ _; first | refine s_callF rfl rfl rfl rfl rfl rfl rfl rfl (c180 _) rfl ?_ | fail) | fail) | (show OkC _ _ _ _ _; first | refine ok_seq ?_ | refine ok_region ?_ | refine ok_block ?_ | refine ok_skip ?_ | refine ok_ret ?_ | refine ok_exit ?_ | refine ok_cond rfl (fun h => ?_) (fun h => ?_) | refine s_loop 2 rfl [(0, _), (1, _), (7, _)] (subL_cons rfl (subL_cons rfl (subL_cons rfl subL_nil))) (fun (k : Nat) => [(8, .one (.d (.int .i64 k)))]) (fun (k : Nat) => k ≤ l.length ∧ idxGo (fun a => chkA a != 0) l 0 = idxGo (fun a => chkA a != 0) (l.drop k) k) (fun (k : Nat) => l.length - k) 0 (subL_cons rfl subL_nil) ?_ (fun k ⟨hk, hs⟩ => ?_) | fail) | (show thenQ _ _ _ _; first | refine then_n ?_ | refine then_r ?_ | refine then_x ?_ | fail) | (show blockQ _ _ _ _; first | refine block_n ?_ | refine block_r ?_ | refine block_x rfl ?_ | fail) | (show RetQ _ _ _ _ _ _; first | refine ret_leaf (.inl rfl) rfl rfl ?_ | fail) | (show Exists _; first | refine Exists.intro (k + 1) ⟨?_, ?_, (by first | exact subL_nil | exact (subL_cons rfl subL_nil) | exact (subL_cons rfl (subL_cons rfl subL_nil)) | exact (subL_cons rfl (subL_cons rfl (subL_cons rfl subL_nil))) | exact (subL_cons rfl (subL_cons rfl (subL_cons rfl (subL_cons rfl subL_nil)))) | exact (subL_cons rfl (subL_cons rfl (subL_cons rfl (subL_cons rfl (subL_cons rfl subL_nil))))) | exact (subL_cons rfl (subL_cons rfl (subL_cons rfl (subL_cons rfl (subL_cons rfl (subL_cons rfl subL_nil)))))) | exact (subL_cons rfl (subL_cons rfl (subL_cons rfl (subL_cons rfl (subL_cons rfl (subL_cons rfl (subL_cons rfl subL_nil))))))) | exact (subL_cons rfl (subL_cons rfl (subL_cons rfl (subL_cons rfl (subL_cons rfl (subL_cons rfl (subL_cons rfl (subL_cons rfl subL_nil))))))))), (subL_cons rfl subL_nil), (subL_cons rfl (subL_cons rfl (subL_cons rfl subL_nil)))⟩ | fail) | fail)
  all_goals (try (((simp_all [idxGo, at_drop, List.drop_eq_nil_of_le]) <;> first | omega | (rw [Bool.eq_iff_iff]; simp; omega) | grind); done))
theorem c179 (l : List Arr) : CallA Tryz.prog 179 [.one (.d (encArrs l)), .one (.d (.fn 180 []))] [] (.one (.d (.bool (!decide (idxGo (fun a => chkA a != 0) l 0 < 0))))) [] := by
  refine enter tabOk Tryz.func179 rfl (by decide +kernel) rfl fun hok w0 σ0 φ0 M => ?_
  clear hok
  repeat' (first | (show OkOps _ _ _ _ _ _; first | refine okops_nil ?_ | refine s_plain tabOk rfl rfl rfl rfl rfl ?_ | (show OkOps _ _ _ (Oper.mk _ (Op.call _) _ _ _ (_) :: _) _ _; first | refine s_callF rfl rfl rfl rfl rfl rfl rfl rfl (c230 _) rfl ?_ | fail) | fail) | (show OkC _ _ _ _ _; first | refine ok_seq ?_ | refine ok_region ?_ | refine ok_ret ?_ | fail) | (show thenQ _ _ _ _; first | refine then_n ?_ | fail) | (show RetQ _ _ _ _ _ _; first | refine ret_leaf (.inl rfl) rfl rfl ?_ | fail) | fail)
  all_goals (try (((simp_all [at_drop, List.drop_eq_nil_of_le]) <;> first | omega | (rw [Bool.eq_iff_iff]; simp; omega) | grind); done))
def validF (l : List Arr) : Bool := l.all fun a => chkA a == 0
theorem idx_valid' : ∀ (l : List Arr) (j : Nat), idxGo (fun a => chkA a != 0) l j < 0 ↔ validF l = true
  | [], j => by simp [idxGo, validF]
  | a :: l, j => by
    have ih := idx_valid' l (j + 1)
    simp only [idxGo, validF, List.all_cons, Bool.and_eq_true]
    by_cases h : chkA a = 0
    · rw [if_neg (by simp [h])]
      rw [ih]
      simp [h, validF]
    · rw [if_pos (by simp [h])]
      constructor
      · intro h1; omega
      · intro h1; simp [h] at h1
theorem idx_valid (l : List Arr) (j : Nat) : decide (idxGo (fun a => chkA a != 0) l j < 0) = validF l := by
  rw [Bool.eq_iff_iff, decide_eq_true_eq, idx_valid']
theorem c96 (l : List Arr) : CallA Tryz.prog 96 [.one (.d (encArrs l))] [] (.one (.d (.bool (validF l)))) [] := by
  refine enter tabOk Tryz.func96 rfl (by decide +kernel) rfl fun hok w0 σ0 φ0 M => ?_
  clear hok
  repeat' (first | (show OkOps _ _ _ _ _ _; first | refine okops_nil ?_ | refine s_plain tabOk rfl rfl rfl rfl rfl ?_ | (show OkOps _ _ _ (Oper.mk _ (Op.call _) _ _ _ (_) :: _) _ _; first | refine s_callF rfl rfl rfl rfl rfl rfl rfl rfl (c179 _) rfl ?_ | fail) | fail) | (show OkC _ _ _ _ _; first | refine ok_seq ?_ | refine ok_region ?_ | refine ok_ret ?_ | fail) | (show thenQ _ _ _ _; first | refine then_n ?_ | fail) | (show RetQ _ _ _ _ _ _; first | refine ret_leaf (.inl rfl) rfl rfl ?_ | fail) | fail)
  all_goals (try (((simp_all [idx_valid, at_drop, List.drop_eq_nil_of_le]) <;> first | omega | (rw [Bool.eq_iff_iff]; simp; omega) | grind); done))
theorem c120 (a b : List Dim) : CallA Tryz.prog 120 [.one (.d (encDims a)), .one (.d (encDims b))] [] (.one (.d (.bool (sameF eqDim a b)))) [] := by
  refine enter tabOk Tryz.func120 rfl (by decide +kernel) rfl fun hok w0 σ0 φ0 M => ?_
  have h1 := hok.1.sl; have h2 := hok.2.1.sl; clear hok; simp only [List.length_map] at h1 h2; replace h1 := h1.1; replace h2 := h2.1
  repeat' (first | (show OkOps _ _ _ _ _ _; first | refine okops_nil ?_ | refine s_plain tabOk rfl rfl rfl rfl rfl ?_ | (show OkOps _ _ _ (Oper.mk _ (Op.binOp .add _ _ _ _) _ _ _ (_) :: _) _ _; first | refine s_e envOk rfl rfl rfl (step3_add rfl rfl rfl rfl (wrap64 (by omega) (by omega))) ?_ | fail) | fail) | (show OkC _ _ _ _ _; first | refine ok_seq ?_ | refine ok_region ?_ | refine ok_block ?_ | refine ok_skip ?_ | refine ok_ret ?_ | refine ok_exit ?_ | refine ok_cond rfl (fun h => ?_) (fun h => ?_) | refine ok_regionD progOk.mo ?_ | refine s_loop 4 rfl [(0, _), (1, _), (12, _)] (subL_cons rfl (subL_cons rfl (subL_cons rfl subL_nil))) (fun (k : Nat) => [(13, .one (.d (.int .i64 k)))]) (fun (k : Nat) => k ≤ a.length ∧ a.length = b.length ∧ sameF eqDim a b = sameGo eqDim (a.drop k) (b.drop k)) (fun (k : Nat) => a.length - k) 0 (subL_cons rfl subL_nil) ?_ (fun k ⟨hk, hq, hs⟩ => ?_) | fail) | (show thenQ _ _ _ _; first | refine then_n ?_ | refine then_r ?_ | refine then_x ?_ | fail) | (show blockQ _ _ _ _; first | refine block_n ?_ | refine block_r ?_ | refine block_x rfl ?_ | fail) | (show RetQ _ _ _ _ _ _; first | refine ret_leaf (.inl rfl) rfl rfl ?_ | fail) | (show DRun _ _ _ _ _ _ _ _; first | refine d_nil (by kernel_rfl) ?_ | refine d_e envOk rfl rfl rfl (step3_plain rfl rfl) ?_ | (show DRun _ _ _ _ (Oper.mk _ (Op.indexAddr _ _ _) _ _ _ (_) :: _) _ _ _; first | refine d_e envOk rfl rfl rfl (step3_idx rfl rfl rfl rfl rfl (by first | omega | ((try simp only [decide_eq_true_eq, decide_eq_false_iff_not, Bool.not_eq_true', Bool.not_true, Bool.not_false, List.length_map, List.length_set, bne_iff_ne, ne_eq, beq_iff_eq, bne_eq_false_iff_eq, beq_eq_false_iff_ne] at *); omega)) (at_map (by first | omega | ((try simp only [decide_eq_true_eq, decide_eq_false_iff_not, Bool.not_eq_true', Bool.not_true, Bool.not_false, List.length_map, List.length_set, bne_iff_ne, ne_eq, beq_iff_eq, bne_eq_false_iff_eq, beq_eq_false_iff_ne] at *); omega)))) ?_ | fail) | refine d_e envOk rfl rfl rfl rfl ?_ | fail) | (show Exists _; first | refine Exists.intro (k + 1) ⟨?_, ?_, (by first | exact subL_nil | exact (subL_cons rfl subL_nil) | exact (subL_cons rfl (subL_cons rfl subL_nil)) | exact (subL_cons rfl (subL_cons rfl (subL_cons rfl subL_nil))) | exact (subL_cons rfl (subL_cons rfl (subL_cons rfl (subL_cons rfl subL_nil)))) | exact (subL_cons rfl (subL_cons rfl (subL_cons rfl (subL_cons rfl (subL_cons rfl subL_nil))))) | exact (subL_cons rfl (subL_cons rfl (subL_cons rfl (subL_cons rfl (subL_cons rfl (subL_cons rfl subL_nil)))))) | exact (subL_cons rfl (subL_cons rfl (subL_cons rfl (subL_cons rfl (subL_cons rfl (subL_cons rfl (subL_cons rfl subL_nil))))))) | exact (subL_cons rfl (subL_cons rfl (subL_cons rfl (subL_cons rfl (subL_cons rfl (subL_cons rfl (subL_cons rfl (subL_cons rfl subL_nil))))))))), (subL_cons rfl subL_nil), (subL_cons rfl (subL_cons rfl (subL_cons rfl subL_nil)))⟩ | fail) | fail)
  all_goals (try (((simp_all [sameF, sameGo, eqDim, encDim, eqDs, eqD, at_drop, List.drop_eq_nil_of_le]) <;> first | omega | (rw [Bool.eq_iff_iff]; simp; omega) | grind); done))
theorem c121 (a b : List Attr) : CallA Tryz.prog 121 [.one (.d (encAttrs a)), .one (.d (encAttrs b))] [] (.one (.d (.bool (sameF eqAttr a b)))) [] := by
  refine enter tabOk Tryz.func121 rfl (by decide +kernel) rfl fun hok w0 σ0 φ0 M => ?_
  have h1 := hok.1.sl; have h2 := hok.2.1.sl; clear hok; simp only [List.length_map] at h1 h2; replace h1 := h1.1; replace h2 := h2.1
  repeat' (first | (show OkOps _ _ _ _ _ _; first | refine okops_nil ?_ | refine s_plain tabOk rfl rfl rfl rfl rfl ?_ | (show OkOps _ _ _ (Oper.mk _ (Op.binOp .add _ _ _ _) _ _ _ (_) :: _) _ _; first | refine s_e envOk rfl rfl rfl (step3_add rfl rfl rfl rfl (wrap64 (by omega) (by omega))) ?_ | fail) | fail) | (show OkC _ _ _ _ _; first | refine ok_seq ?_ | refine ok_region ?_ | refine ok_block ?_ | refine ok_skip ?_ | refine ok_ret ?_ | refine ok_exit ?_ | refine ok_cond rfl (fun h => ?_) (fun h => ?_) | refine ok_regionD progOk.mo ?_ | refine s_loop 4 rfl [(0, _), (1, _), (12, _)] (subL_cons rfl (subL_cons rfl (subL_cons rfl subL_nil))) (fun (k : Nat) => [(13, .one (.d (.int .i64 k)))]) (fun (k : Nat) => k ≤ a.length ∧ a.length = b.length ∧ sameF eqAttr a b = sameGo eqAttr (a.drop k) (b.drop k)) (fun (k : Nat) => a.length - k) 0 (subL_cons rfl subL_nil) ?_ (fun k ⟨hk, hq, hs⟩ => ?_) | fail) | (show thenQ _ _ _ _; first | refine then_n ?_ | refine then_r ?_ | refine then_x ?_ | fail) | (show blockQ _ _ _ _; first | refine block_n ?_ | refine block_r ?_ | refine block_x rfl ?_ | fail) | (show RetQ _ _ _ _ _ _; first | refine ret_leaf (.inl rfl) rfl rfl ?_ | fail) | (show DRun _ _ _ _ _ _ _ _; first | refine d_nil (by kernel_rfl) ?_ | refine d_e envOk rfl rfl rfl (step3_plain rfl rfl) ?_ | (show DRun _ _ _ _ (Oper.mk _ (Op.indexAddr _ _ _) _ _ _ (_) :: _) _ _ _; first | refine d_e envOk rfl rfl rfl (step3_idx rfl rfl rfl rfl rfl (by first | omega | ((try simp only [decide_eq_true_eq, decide_eq_false_iff_not, Bool.not_eq_true', Bool.not_true, Bool.not_false, List.length_map, List.length_set, bne_iff_ne, ne_eq, beq_iff_eq, bne_eq_false_iff_eq, beq_eq_false_iff_ne] at *); omega)) (at_map (by first | omega | ((try simp only [decide_eq_true_eq, decide_eq_false_iff_not, Bool.not_eq_true', Bool.not_true, Bool.not_false, List.length_map, List.length_set, bne_iff_ne, ne_eq, beq_iff_eq, bne_eq_false_iff_eq, beq_eq_false_iff_ne] at *); omega)))) ?_ | fail) | refine d_e envOk rfl rfl rfl rfl ?_ | fail) | (show Exists _; first | refine Exists.intro (k + 1) ⟨?_, ?_, (by first | exact subL_nil | exact (subL_cons rfl subL_nil) | exact (subL_cons rfl (subL_cons rfl subL_nil)) | exact (subL_cons rfl (subL_cons rfl (subL_cons rfl subL_nil))) | exact (subL_cons rfl (subL_cons rfl (subL_cons rfl (subL_cons rfl subL_nil)))) | exact (subL_cons rfl (subL_cons rfl (subL_cons rfl (subL_cons rfl (subL_cons rfl subL_nil))))) | exact (subL_cons rfl (subL_cons rfl (subL_cons rfl (subL_cons rfl (subL_cons rfl (subL_cons rfl subL_nil)))))) | exact (subL_cons rfl (subL_cons rfl (subL_cons rfl (subL_cons rfl (subL_cons rfl (subL_cons rfl (subL_cons rfl subL_nil))))))) | exact (subL_cons rfl (subL_cons rfl (subL_cons rfl (subL_cons rfl (subL_cons rfl (subL_cons rfl (subL_cons rfl (subL_cons rfl subL_nil))))))))), (subL_cons rfl subL_nil), (subL_cons rfl (subL_cons rfl (subL_cons rfl subL_nil)))⟩ | fail) | fail)
  all_goals (try (((simp_all [sameF, sameGo, eqAttr, encAttr, eqDs, eqD, at_drop, List.drop_eq_nil_of_le]) <;> first | omega | (rw [Bool.eq_iff_iff]; simp; omega) | grind); done))
theorem c124 (a b : List Int) : CallA Tryz.prog 124 [.one (.d (encInts a)), .one (.d (encInts b))] [] (.one (.d (.bool (sameF (fun x y => x == y) a b)))) [] := by
  refine enter tabOk Tryz.func124 rfl (by decide +kernel) rfl fun hok w0 σ0 φ0 M => ?_
  have h1 := hok.1.sl; have h2 := hok.2.1.sl; clear hok; simp only [List.length_map] at h1 h2; replace h1 := h1.1; replace h2 := h2.1
  repeat' (first | (show OkOps _ _ _ _ _ _; first | refine okops_nil ?_ | refine s_plain tabOk rfl rfl rfl rfl rfl ?_ | (show OkOps _ _ _ (Oper.mk _ (Op.binOp .add _ _ _ _) _ _ _ (_) :: _) _ _; first | refine s_e envOk rfl rfl rfl (step3_add rfl rfl rfl rfl (wrap64 (by omega) (by omega))) ?_ | fail) | fail) | (show OkC _ _ _ _ _; first | refine ok_seq ?_ | refine ok_region ?_ | refine ok_block ?_ | refine ok_skip ?_ | refine ok_ret ?_ | refine ok_exit ?_ | refine ok_cond rfl (fun h => ?_) (fun h => ?_) | refine ok_regionD progOk.mo ?_ | refine s_loop 4 rfl [(0, _), (1, _), (12, _)] (subL_cons rfl (subL_cons rfl (subL_cons rfl subL_nil))) (fun (k : Nat) => [(13, .one (.d (.int .i64 k)))]) (fun (k : Nat) => k ≤ a.length ∧ a.length = b.length ∧ sameF (fun x y => x == y) a b = sameGo (fun x y => x == y) (a.drop k) (b.drop k)) (fun (k : Nat) => a.length - k) 0 (subL_cons rfl subL_nil) ?_ (fun k ⟨hk, hq, hs⟩ => ?_) | fail) | (show thenQ _ _ _ _; first | refine then_n ?_ | refine then_r ?_ | refine then_x ?_ | fail) | (show blockQ _ _ _ _; first | refine block_n ?_ | refine block_r ?_ | refine block_x rfl ?_ | fail) | (show RetQ _ _ _ _ _ _; first | refine ret_leaf (.inl rfl) rfl rfl ?_ | fail) | (show DRun _ _ _ _ _ _ _ _; first | refine d_nil (by kernel_rfl) ?_ | refine d_e envOk rfl rfl rfl (step3_plain rfl rfl) ?_ | (show DRun _ _ _ _ (Oper.mk _ (Op.indexAddr _ _ _) _ _ _ (_) :: _) _ _ _; first | refine d_e envOk rfl rfl rfl (step3_idx rfl rfl rfl rfl rfl (by first | omega | ((try simp only [decide_eq_true_eq, decide_eq_false_iff_not, Bool.not_eq_true', Bool.not_true, Bool.not_false, List.length_map, List.length_set, bne_iff_ne, ne_eq, beq_iff_eq, bne_eq_false_iff_eq, beq_eq_false_iff_ne] at *); omega)) (at_map (by first | omega | ((try simp only [decide_eq_true_eq, decide_eq_false_iff_not, Bool.not_eq_true', Bool.not_true, Bool.not_false, List.length_map, List.length_set, bne_iff_ne, ne_eq, beq_iff_eq, bne_eq_false_iff_eq, beq_eq_false_iff_ne] at *); omega)))) ?_ | fail) | fail) | (show Exists _; first | refine Exists.intro (k + 1) ⟨?_, ?_, (by first | exact subL_nil | exact (subL_cons rfl subL_nil) | exact (subL_cons rfl (subL_cons rfl subL_nil)) | exact (subL_cons rfl (subL_cons rfl (subL_cons rfl subL_nil))) | exact (subL_cons rfl (subL_cons rfl (subL_cons rfl (subL_cons rfl subL_nil)))) | exact (subL_cons rfl (subL_cons rfl (subL_cons rfl (subL_cons rfl (subL_cons rfl subL_nil))))) | exact (subL_cons rfl (subL_cons rfl (subL_cons rfl (subL_cons rfl (subL_cons rfl (subL_cons rfl subL_nil)))))) | exact (subL_cons rfl (subL_cons rfl (subL_cons rfl (subL_cons rfl (subL_cons rfl (subL_cons rfl (subL_cons rfl subL_nil))))))) | exact (subL_cons rfl (subL_cons rfl (subL_cons rfl (subL_cons rfl (subL_cons rfl (subL_cons rfl (subL_cons rfl (subL_cons rfl subL_nil))))))))), (subL_cons rfl subL_nil), (subL_cons rfl (subL_cons rfl (subL_cons rfl subL_nil)))⟩ | fail) | fail)
  all_goals (try (((simp_all [sameF, sameGo, at_drop, List.drop_eq_nil_of_le]) <;> first | omega | (rw [Bool.eq_iff_iff]; simp; omega) | grind); done))
theorem c125 (a b : List Val) : CallA Tryz.prog 125 [.one (.d (encVals a)), .one (.d (encVals b))] [] (.one (.d (.bool (sameF eqVal a b)))) [] := by
  refine enter tabOk Tryz.func125 rfl (by decide +kernel) rfl fun hok w0 σ0 φ0 M => ?_
  have h1 := hok.1.sl; have h2 := hok.2.1.sl; clear hok; simp only [List.length_map] at h1 h2; replace h1 := h1.1; replace h2 := h2.1
  repeat' (first | (show OkOps _ _ _ _ _ _; first | refine okops_nil ?_ | refine s_plain tabOk rfl rfl rfl rfl rfl ?_ | (show OkOps _ _ _ (Oper.mk _ (Op.binOp .add _ _ _ _) _ _ _ (_) :: _) _ _; first | refine s_e envOk rfl rfl rfl (step3_add rfl rfl rfl rfl (wrap64 (by omega) (by omega))) ?_ | fail) | fail) | (show OkC _ _ _ _ _; first | refine ok_seq ?_ | refine ok_region ?_ | refine ok_block ?_ | refine ok_skip ?_ | refine ok_ret ?_ | refine ok_exit ?_ | refine ok_cond rfl (fun h => ?_) (fun h => ?_) | refine ok_regionD progOk.mo ?_ | refine s_loop 4 rfl [(0, _), (1, _), (12, _)] (subL_cons rfl (subL_cons rfl (subL_cons rfl subL_nil))) (fun (k : Nat) => [(13, .one (.d (.int .i64 k)))]) (fun (k : Nat) => k ≤ a.length ∧ a.length = b.length ∧ sameF eqVal a b = sameGo eqVal (a.drop k) (b.drop k)) (fun (k : Nat) => a.length - k) 0 (subL_cons rfl subL_nil) ?_ (fun k ⟨hk, hq, hs⟩ => ?_) | fail) | (show thenQ _ _ _ _; first | refine then_n ?_ | refine then_r ?_ | refine then_x ?_ | fail) | (show blockQ _ _ _ _; first | refine block_n ?_ | refine block_r ?_ | refine block_x rfl ?_ | fail) | (show RetQ _ _ _ _ _ _; first | refine ret_leaf (.inl rfl) rfl rfl ?_ | fail) | (show DRun _ _ _ _ _ _ _ _; first | refine d_nil (by kernel_rfl) ?_ | refine d_e envOk rfl rfl rfl (step3_plain rfl rfl) ?_ | (show DRun _ _ _ _ (Oper.mk _ (Op.indexAddr _ _ _) _ _ _ (_) :: _) _ _ _; first | refine d_e envOk rfl rfl rfl (step3_idx rfl rfl rfl rfl rfl (by first | omega | ((try simp only [decide_eq_true_eq, decide_eq_false_iff_not, Bool.not_eq_true', Bool.not_true, Bool.not_false, List.length_map, List.length_set, bne_iff_ne, ne_eq, beq_iff_eq, bne_eq_false_iff_eq, beq_eq_false_iff_ne] at *); omega)) (at_map (by first | omega | ((try simp only [decide_eq_true_eq, decide_eq_false_iff_not, Bool.not_eq_true', Bool.not_true, Bool.not_false, List.length_map, List.length_set, bne_iff_ne, ne_eq, beq_iff_eq, bne_eq_false_iff_eq, beq_eq_false_iff_ne] at *); omega)))) ?_ | fail) | refine d_e envOk rfl rfl rfl rfl ?_ | fail) | (show Exists _; first | refine Exists.intro (k + 1) ⟨?_, ?_, (by first | exact subL_nil | exact (subL_cons rfl subL_nil) | exact (subL_cons rfl (subL_cons rfl subL_nil)) | exact (subL_cons rfl (subL_cons rfl (subL_cons rfl subL_nil))) | exact (subL_cons rfl (subL_cons rfl (subL_cons rfl (subL_cons rfl subL_nil)))) | exact (subL_cons rfl (subL_cons rfl (subL_cons rfl (subL_cons rfl (subL_cons rfl subL_nil))))) | exact (subL_cons rfl (subL_cons rfl (subL_cons rfl (subL_cons rfl (subL_cons rfl (subL_cons rfl subL_nil)))))) | exact (subL_cons rfl (subL_cons rfl (subL_cons rfl (subL_cons rfl (subL_cons rfl (subL_cons rfl (subL_cons rfl subL_nil))))))) | exact (subL_cons rfl (subL_cons rfl (subL_cons rfl (subL_cons rfl (subL_cons rfl (subL_cons rfl (subL_cons rfl (subL_cons rfl subL_nil))))))))), (subL_cons rfl subL_nil), (subL_cons rfl (subL_cons rfl (subL_cons rfl subL_nil)))⟩ | fail) | fail)
  all_goals (try (((simp_all [sameF, sameGo, eqVal, encVal, eqDs, eqD, at_drop, List.drop_eq_nil_of_le]) <;> first | omega | (rw [Bool.eq_iff_iff]; simp; omega) | grind); done))
theorem c123 (x y : Cell) : CallA Tryz.prog 123 [.agg [.d (encInts x.at'), .d (encVals x.vals)], .agg [.d (encInts y.at'), .d (encVals y.vals)]] [] (.one (.d (.bool (eqCell x y)))) [] := by
  refine enter tabOk Tryz.func123 rfl (by decide +kernel) rfl fun hok w0 σ0 φ0 M => ?_
  clear hok
  repeat' (first | (show OkOps _ _ _ _ _ _; first | refine okops_nil ?_ | refine s_plain tabOk rfl rfl rfl rfl rfl ?_ | (show OkOps _ _ _ (Oper.mk _ (_) _ _ _ (some _) :: _) _ _; first | refine s_guard rfl rfl (by first | assumption | rfl) ?_ | refine s_out rfl rfl (by first | assumption | rfl) rfl rfl ?_ | refine s_split rfl rfl rfl rfl (fun h => ?_) (fun h => ?_) | fail) | (show OkOps _ _ _ (Oper.mk _ (Op.pick _ _ _) _ _ _ (_) :: _) _ _; first | refine s_e envOk rfl rfl rfl (step3_pickT rfl rfl (by first | rfl | assumption) rfl) ?_ | refine s_e envOk rfl rfl rfl (step3_pickF rfl rfl (by first | rfl | assumption) rfl) ?_ | fail) | (show OkOps _ _ _ (Oper.mk _ (Op.call _) _ _ _ (_) :: _) _ _; first | refine s_callF rfl rfl rfl rfl rfl rfl rfl rfl (c124 _ _) rfl ?_ | refine s_callF rfl rfl rfl rfl rfl rfl rfl rfl (c125 _ _) rfl ?_ | fail) | (show OkOps _ _ _ (Oper.mk _ (Op.box _ _) _ _ _ (_) :: _) _ _; first | refine s_box 0 rfl rfl rfl rfl rfl rfl ?_ | refine s_box 1 rfl rfl rfl rfl rfl rfl ?_ | fail) | fail) | (show OkC _ _ _ _ _; first | refine ok_seq ?_ | refine ok_region ?_ | refine ok_ret ?_ | fail) | (show thenQ _ _ _ _; first | refine then_n ?_ | fail) | (show RetQ _ _ _ _ _ _; first | refine ret_leaf (.inl rfl) rfl rfl ?_ | fail) | fail)
  all_goals (try (((simp_all [eqCell, at_drop, List.drop_eq_nil_of_le]) <;> first | omega | (rw [Bool.eq_iff_iff]; simp; omega) | grind); done))
theorem c122 (a b : List Cell) : CallA Tryz.prog 122 [.one (.d (encCells a)), .one (.d (encCells b)), .one (.d (.fn 123 []))] [] (.one (.d (.bool (sameF eqCell a b)))) [] := by
  refine enter tabOk Tryz.func122 rfl (by decide +kernel) rfl fun hok w0 σ0 φ0 M => ?_
  have h1 := hok.1.sl; have h2 := hok.2.1.sl; clear hok; simp only [List.length_map] at h1 h2; replace h1 := h1.1; replace h2 := h2.1
  repeat' (first | (show OkOps _ _ _ _ _ _; first | refine okops_nil ?_ | refine s_plain tabOk rfl rfl rfl rfl rfl ?_ | (show OkOps _ _ _ (Oper.mk _ (Op.binOp .add _ _ _ _) _ _ _ (_) :: _) _ _; first | refine s_e envOk rfl rfl rfl (step3_add rfl rfl rfl rfl (wrap64 (by omega) (by omega))) ?_ | fail) | (show OkOps _ _ _ (Oper.mk _ (Op.indexAddr _ _ _) _ _ _ (_) :: _) _ _; first | refine s_e envOk rfl rfl rfl (step3_idx rfl rfl rfl rfl rfl (by first | omega | ((try simp only [decide_eq_true_eq, decide_eq_false_iff_not, Bool.not_eq_true', Bool.not_true, Bool.not_false, List.length_map, List.length_set, bne_iff_ne, ne_eq, beq_iff_eq, bne_eq_false_iff_eq, beq_eq_false_iff_ne] at *); omega)) (at_map (by first | omega | ((try simp only [decide_eq_true_eq, decide_eq_false_iff_not, Bool.not_eq_true', Bool.not_true, Bool.not_false, List.length_map, List.length_set, bne_iff_ne, ne_eq, beq_iff_eq, bne_eq_false_iff_eq, beq_eq_false_iff_ne] at *); omega)))) ?_ | fail) | (show OkOps _ _ _ (Oper.mk _ (Op.call _) _ _ _ (_) :: _) _ _; first | refine s_callF rfl rfl rfl rfl rfl rfl rfl rfl (c123 _ _) rfl ?_ | fail) | (show OkOps _ _ _ (Oper.mk _ (Op.alloc _) _ _ _ (_) :: _) _ _; first | refine s_alloc tabOk 0 rfl rfl rfl rfl rfl ?_ | refine s_alloc tabOk 1 rfl rfl rfl rfl rfl ?_ | fail) | refine s_store envOk rfl rfl rfl ?_ | fail) | (show OkC _ _ _ _ _; first | refine ok_seq ?_ | refine ok_region ?_ | refine ok_block ?_ | refine ok_skip ?_ | refine ok_ret ?_ | refine ok_exit ?_ | refine ok_cond rfl (fun h => ?_) (fun h => ?_) | refine s_loop 4 rfl [(1, _), (2, _), (15, _), (16, _)] (subL_cons rfl (subL_cons rfl (subL_cons rfl (subL_cons rfl subL_nil)))) (fun (k : Nat) => [(17, .one (.d (.int .i64 k)))]) (fun (k : Nat) => k ≤ a.length ∧ a.length = b.length ∧ sameF eqCell a b = sameGo eqCell (a.drop k) (b.drop k)) (fun (k : Nat) => a.length - k) 0 (subL_cons rfl subL_nil) ?_ (fun k ⟨hk, hq, hs⟩ => ?_) | fail) | (show thenQ _ _ _ _; first | refine then_n ?_ | refine then_r ?_ | refine then_x ?_ | fail) | (show blockQ _ _ _ _; first | refine block_n ?_ | refine block_r ?_ | refine block_x rfl ?_ | fail) | (show RetQ _ _ _ _ _ _; first | refine ret_leaf (.inl rfl) rfl rfl ?_ | fail) | (show Exists _; first | refine Exists.intro (k + 1) ⟨?_, ?_, (by first | exact subL_nil | exact (subL_cons rfl subL_nil) | exact (subL_cons rfl (subL_cons rfl subL_nil)) | exact (subL_cons rfl (subL_cons rfl (subL_cons rfl subL_nil))) | exact (subL_cons rfl (subL_cons rfl (subL_cons rfl (subL_cons rfl subL_nil)))) | exact (subL_cons rfl (subL_cons rfl (subL_cons rfl (subL_cons rfl (subL_cons rfl subL_nil))))) | exact (subL_cons rfl (subL_cons rfl (subL_cons rfl (subL_cons rfl (subL_cons rfl (subL_cons rfl subL_nil)))))) | exact (subL_cons rfl (subL_cons rfl (subL_cons rfl (subL_cons rfl (subL_cons rfl (subL_cons rfl (subL_cons rfl subL_nil))))))) | exact (subL_cons rfl (subL_cons rfl (subL_cons rfl (subL_cons rfl (subL_cons rfl (subL_cons rfl (subL_cons rfl (subL_cons rfl subL_nil))))))))), (subL_cons rfl subL_nil), (subL_cons rfl (subL_cons rfl (subL_cons rfl (subL_cons rfl subL_nil))))⟩ | fail) | fail)
  all_goals (try (((simp_all [sameF, sameGo, at_drop, List.drop_eq_nil_of_le]) <;> first | omega | (rw [Bool.eq_iff_iff]; simp; omega) | grind); done))
def spSame (a b : Arr) : Bool := chkA a == 0 && (chkA b == 0 && (sameF eqDim a.dims b.dims && (sameF eqAttr a.attrs b.attrs && sameF eqCell a.cells b.cells)))
theorem c32 (a b : Arr) : CallA Tryz.prog 32 [aggA a, aggA b] [] (.one (.d (.bool (spSame a b)))) [] := by
  unfold aggA
  refine enter tabOk Tryz.func32 rfl (by decide +kernel) rfl fun hok w0 σ0 φ0 M => ?_
  clear hok
  repeat' (first | (show OkOps _ _ _ _ _ _; first | refine okops_nil ?_ | refine s_plain tabOk rfl rfl rfl rfl rfl ?_ | (show OkOps _ _ _ (Oper.mk _ (_) _ _ _ (some _) :: _) _ _; first | refine s_guard rfl rfl (by first | assumption | rfl) ?_ | refine s_out rfl rfl (by first | assumption | rfl) rfl rfl ?_ | refine s_split rfl rfl rfl rfl (fun h => ?_) (fun h => ?_) | fail) | (show OkOps _ _ _ (Oper.mk _ (Op.pick _ _ _) _ _ _ (_) :: _) _ _; first | refine s_e envOk rfl rfl rfl (step3_pickT rfl rfl (by first | rfl | assumption) rfl) ?_ | refine s_e envOk rfl rfl rfl (step3_pickF rfl rfl (by first | rfl | assumption) rfl) ?_ | fail) | (show OkOps _ _ _ (Oper.mk _ (Op.call _) _ _ _ (_) :: _) _ _; first | refine s_callF rfl rfl rfl rfl rfl rfl rfl rfl (c59 _ _ _) rfl ?_ | refine s_callF rfl rfl rfl rfl rfl rfl rfl rfl (c120 _ _) rfl ?_ | refine s_callF rfl rfl rfl rfl rfl rfl rfl rfl (c121 _ _) rfl ?_ | refine s_callF rfl rfl rfl rfl rfl rfl rfl rfl (c122 _ _) rfl ?_ | fail) | (show OkOps _ _ _ (Oper.mk _ (Op.box _ _) _ _ _ (_) :: _) _ _; first | refine s_box 0 rfl rfl rfl rfl rfl rfl ?_ | refine s_box 1 rfl rfl rfl rfl rfl rfl ?_ | fail) | fail) | (show OkC _ _ _ _ _; first | refine ok_seq ?_ | refine ok_region ?_ | refine ok_skip ?_ | refine ok_ret ?_ | refine ok_condT rfl ?_ | refine ok_cond rfl (fun h => ?_) (fun h => ?_) | fail) | (show thenQ _ _ _ _; first | refine then_n ?_ | refine then_r ?_ | fail) | (show RetQ _ _ _ _ _ _; first | refine ret_leaf (.inl rfl) rfl rfl ?_ | fail) | fail)
  all_goals (try (((simp_all [spSame, chkA, at_drop, List.drop_eq_nil_of_le]) <;> first | omega | (rw [Bool.eq_iff_iff]; simp; omega) | grind); done))
end Go.Proofs.YtpejdgkaapnekaaGreat
namespace Go.Proofs.YtpejdgkaapnekaaGreat
open Go Go.Abs
attribute [local irreducible] OkOps OkC DRun thenQ blockQ RetQ
set_option maxRecDepth 10000
theorem c181e (id n : Nat) (cs : List Cell) (rows : List (List D)) (hr : rows = cs.map encCell) (hn : n = cs.length) (hd : cs.Pairwise diffC) :
    CallA Tryz.prog 181 [.one (.own id n), .one (.d (.fn 182 []))] [(id, .row 2 48 rows)] (.tup []) [(id, .row 2 48 ((sortF cs).map encCell))] := by
  subst hr; subst hn
  exact c181 id cs (sortF cs) (sort_uniq hd)
theorem s_sort {w0 : World} {σ0 : Sig} {φ0 : Pl} {M : Nat → Prop} {n : Nat} {rd : Option Nat} {mk : List Deferred} {ops : Array Oper} {o : Oper} {rest : List Oper} {fr : List (Nat × AV)} {sto : Sto} {K : St → Prop} {d m : Nat} {fop x y : Operand} {ats : Array TypeId} {rows : List (List D)} (id : Nat) (cs : List Cell)
    (ho : o.op = .call { callee := .value fop, args := ⟨[x, y]⟩, argTypes := ats }) (hg : o.guard = none) (hdst : o.dst = some d) (hdn : Nat.blt d n = true) (hf : ev ⟨fr, sto⟩ fop = some (.one (.d (.fn 181 [])))) (hx : ev ⟨fr, sto⟩ x = some (.one (.own id m))) (hy : ev ⟨fr, sto⟩ y = some (.one (.d (.fn 182 []))))
    (hl : Abs.look sto id = some (.row 2 48 rows)) (hr : rows = cs.map encCell) (hn : m = cs.length) (hd : cs.Pairwise diffC) (hfr : freshRB 16 ⟨fr, sto⟩ = true)
    (h : OkOps Tryz.prog ⟨w0, σ0, φ0, M, n, rd, mk⟩ ops rest ⟨(d, .tup []) :: fr, setS id (.row 2 48 ((sortF cs).map encCell)) (del id sto)⟩ K) : OkOps Tryz.prog ⟨w0, σ0, φ0, M, n, rd, mk⟩ ops (o :: rest) ⟨fr, sto⟩ K := by
  refine s_callM 16 [(1000000, id)] (rav' := .tup []) (sto' := setS id (.row 2 48 ((sortF cs).map encCell)) (del id sto)) (c181e 1000000 m cs rows hr hn hd) ho hg hdst hdn hf ?_ ⟨⟨id, rfl, hl⟩, trivial⟩ ⟨fun i e h1 h2 => ?_, trivial⟩ rfl hfr rfl rfl h
  · show evL ⟨fr, sto⟩ [x, y] = _
    simp only [evL, hx, hy]
    rfl
  · have e1 : some id = some i := h1
    cases e1
    rw [hl] at h2
    cases h2
    refine ⟨rfl, rfl, ?_⟩
    rw [hr, List.length_map, List.length_map, sortF_length]
    exact Nat.le_refl _
theorem row_next {α β : Type} [Inhabited α] (f : α → β) (l : List α) {k : Nat} (h : k < l.length) : ((l.take k).map f).take k ++ [f (at_ l k)] = (l.take (k + 1)).map f := by
  rw [List.take_succ_eq_append_getElem h, List.map_append, List.take_of_length_le (by simp; omega)]
  simp [at_, h]
def arrE : Option Arr × Int → AV
  | (none, e) => .tup [(true, [.d .nil, .d .nil, .d .nil]), (false, [.d (.int .i64 e)])]
  | (some a, e) => .tup [(true, [.d (encDims a.dims), .d (encAttrs a.attrs), .d (encCells a.cells)]), (false, [.d (.int .i64 e)])]
theorem take_all {α β : Type} (f : α → β) {l : List α} {k : Nat} (h : l.length ≤ k) : (l.take k).map f = l.map f := by rw [List.take_of_length_le h]
theorem c99 (ds : List Dim) (ats : List Attr) (cs : List Cell) (hd : cs.Pairwise diffC) : CallA Tryz.prog 99 [.one (.d (encDims ds)), .one (.d (encAttrs ats)), .one (.d (encCells cs))] [] (arrE (resF ds ats cs)) [] := by
  refine enter tabOk Tryz.func99 rfl (by decide +kernel) rfl fun hok w0 σ0 φ0 M => ?_
  have h1 := hok.2.2.1.sl; clear hok; simp only [List.length_map] at h1; replace h1 := h1.1
  by_cases h4 : 4096 < (cs.length : Int)
  · have hb : decide (4096 < ((cs.map encCell).length : Int)) = true := by simpa using h4
    simp only [resF, if_pos h4, arrE]
    repeat' (first | (show OkOps _ _ _ _ _ _; first | refine okops_nil ?_ | refine s_plain tabOk rfl rfl rfl rfl rfl ?_ | (show OkOps _ _ _ (Oper.mk _ (Op.alloc _) _ _ _ (_) :: _) _ _; first | refine s_alloc tabOk 0 rfl rfl rfl rfl rfl ?_ | fail) | refine s_store envOk rfl rfl rfl ?_ | fail) | (show OkC _ _ _ _ _; first | refine ok_seq ?_ | refine ok_region ?_ | refine ok_ret ?_ | refine ok_condKT rfl (by assumption) ?_ | fail) | (show thenQ _ _ _ _; first | refine then_n ?_ | refine then_r ?_ | fail) | (show RetQ _ _ _ _ _ _; first | refine ret_leaf (.inl rfl) rfl rfl ?_ | fail) | fail)
    all_goals rfl
  · have hb : decide (4096 < ((cs.map encCell).length : Int)) = false := by simpa using h4
    simp only [resF, if_neg h4, arrE]
    repeat' (first | (show OkOps _ _ _ _ _ _; first | (show OkOps _ _ _ (Oper.mk _ (Op.call _) _ _ _ (_) :: _) _ _; first | refine s_sort 10 cs rfl rfl rfl rfl rfl rfl rfl rfl (hr.trans (take_all _ (by first | omega | (simp only [decide_eq_true_eq, decide_eq_false_iff_not, List.length_map] at *; omega)))) (by first | omega | (simp only [decide_eq_true_eq, decide_eq_false_iff_not, List.length_map] at *; omega)) hd rfl ?_ | fail) | refine okops_nil ?_ | refine s_plain tabOk rfl rfl rfl rfl rfl ?_ | (show OkOps _ _ _ (Oper.mk _ (Op.binOp .add _ _ _ _) _ _ _ (_) :: _) _ _; first | refine s_e envOk rfl rfl rfl (step3_add rfl rfl rfl rfl (wrap64 (by omega) (by omega))) ?_ | fail) | (show OkOps _ _ _ (Oper.mk _ (Op.indexAddr _ _ _) _ _ _ (_) :: _) _ _; first | refine s_e envOk rfl rfl rfl (step3_idx rfl rfl rfl rfl rfl (by first | omega | ((try simp only [decide_eq_true_eq, decide_eq_false_iff_not, Bool.not_eq_true', Bool.not_true, Bool.not_false, List.length_map, List.length_set, bne_iff_ne, ne_eq, beq_iff_eq, bne_eq_false_iff_eq, beq_eq_false_iff_ne] at *); omega)) (at_map (by first | omega | ((try simp only [decide_eq_true_eq, decide_eq_false_iff_not, Bool.not_eq_true', Bool.not_true, Bool.not_false, List.length_map, List.length_set, bne_iff_ne, ne_eq, beq_iff_eq, bne_eq_false_iff_eq, beq_eq_false_iff_ne] at *); omega)))) ?_ | fail) | (show OkOps _ _ _ (Oper.mk _ (Op.call _) _ _ _ (_) :: _) _ _; first | refine s_callD 16 rfl rfl rfl rfl rfl rfl rfl rfl (c97 _) rfl rfl rfl ?_ | refine s_callD 16 rfl rfl rfl rfl rfl rfl rfl rfl (c145 _) rfl rfl rfl ?_ | fail) | (show OkOps _ _ _ (Oper.mk _ (Op.alloc _) _ _ _ (_) :: _) _ _; first | refine s_alloc tabOk 0 rfl rfl rfl rfl rfl ?_ | refine s_alloc tabOk 1 rfl rfl rfl rfl rfl ?_ | refine s_alloc tabOk 2 rfl rfl rfl rfl rfl ?_ | fail) | refine s_store envOk rfl rfl rfl ?_ | fail) | (show OkC _ _ _ _ _; first | refine okc_imp (imp_sealL (dl := [10]) rfl) (ok_ret ?_) | refine ok_seq ?_ | refine ok_region ?_ | refine ok_block ?_ | refine ok_skip ?_ | refine ok_exit ?_ | refine ok_condKF rfl (by assumption) ?_ | refine ok_cond rfl (fun h => ?_) (fun h => ?_) | refine ok_regionD progOk.mo ?_ | refine s_loopN 5 rfl (imp_adoptJ 1 2 10 (k := 2) (b := 48) rfl rfl (by kernel_rfl)) [(6, _), (8, _), (20, _), (21, _)] (subL_cons rfl (subL_cons rfl (subL_cons rfl (subL_cons rfl subL_nil)))) (fun (bN : Bool × Bool) (p : Nat × List (List D)) => [(22, .one (.d (.int .i64 (p.1 : Int))))]) (fun (bN : Bool × Bool) (p : Nat × List (List D)) => [(1, .box [.d (encDims ds), .d (encAttrs ats), .own (nmA bN) p.1]), ((nmA bN), .row 2 48 p.2), (0, .box [.d .nil, .d .nil, .d .nil])]) (fun (p : Nat × List (List D)) => p.1 ≤ cs.length ∧ p.2 = (cs.take p.1).map encCell) (fun (p : Nat × List (List D)) => cs.length - p.1) (0, []) (subL_cons rfl subL_nil) (by first | exact subL_nil | exact (subL_cons rfl subL_nil) | exact (subL_cons rfl (subL_cons rfl subL_nil)) | exact (subL_cons rfl (subL_cons rfl (subL_cons rfl subL_nil))) | exact (subL_cons rfl (subL_cons rfl (subL_cons rfl (subL_cons rfl subL_nil)))) | exact (subL_cons rfl (subL_cons rfl (subL_cons rfl (subL_cons rfl (subL_cons rfl subL_nil))))) | exact (subL_cons rfl (subL_cons rfl (subL_cons rfl (subL_cons rfl (subL_cons rfl (subL_cons rfl subL_nil)))))) | exact (subL_cons rfl (subL_cons rfl (subL_cons rfl (subL_cons rfl (subL_cons rfl (subL_cons rfl (subL_cons rfl subL_nil))))))) | exact (subL_cons rfl (subL_cons rfl (subL_cons rfl (subL_cons rfl (subL_cons rfl (subL_cons rfl (subL_cons rfl (subL_cons rfl subL_nil))))))))) (fun b y => by obtain ⟨b1, b2⟩ := b; cases b1 <;> cases b2 <;> first | exact Imp.refl _ | exact imp_ren qN (by kernel_rfl)) ?_ (fun p ⟨hk, hr⟩ => ?_) | fail) | (show thenQ _ _ _ _; first | refine then_n ?_ | refine then_x ?_ | fail) | (show blockQ _ _ _ _; first | refine block_n ?_ | refine block_x rfl ?_ | fail) | (show RetQ _ _ _ _ _ _; first | refine ret_leaf (.inl rfl) rfl rfl ?_ | fail) | (show DRun _ _ _ _ _ _ _ _; first | (show DRun _ _ _ _ (Oper.mk _ (Op.call _) _ _ _ (_) :: _) _ _ _; first | refine d_new envOk 11 rfl rfl rfl (step3_appendB (i := 10) rfl rfl rfl rfl rfl rfl rfl rfl (by first | omega | ((try simp only [decide_eq_true_eq, decide_eq_false_iff_not, List.length_map, List.length_cons, List.length_nil, List.length_append, List.length_take, List.length_drop, Int.toNat_natCast] at *); omega)) (by first | exact Nat.le_of_ble_eq_true rfl | omega | ((try simp only [decide_eq_true_eq, decide_eq_false_iff_not, List.length_map, List.length_cons, List.length_nil, List.length_append, List.length_take, List.length_drop, Int.toNat_natCast] at *); omega)) (Nat.le_of_ble_eq_true rfl)) rfl rfl ?_ | fail) | refine d_nil (by kernel_rfl) ?_ | refine d_e envOk rfl rfl rfl (step3_plain rfl rfl) ?_ | (show DRun _ _ _ _ (Oper.mk _ (Op.call _) _ _ _ (_) :: _) _ _ _; first | refine d_callD 16 rfl rfl rfl rfl rfl rfl rfl rfl (c129 _) rfl rfl ?_ | refine d_callD 16 rfl rfl rfl rfl rfl rfl rfl rfl (c144 _) rfl rfl ?_ | fail) | refine d_new envOk 3 rfl rfl rfl rfl rfl rfl ?_ | refine d_store envOk rfl rfl rfl ?_ | fail) | (show Exists _; first | refine Exists.intro ((p.1 + 1, p.2.take p.1 ++ [encCell (at_ cs p.1)])) (Exists.intro (true, false) ⟨?_, ?_, (by first | exact subL_nil | exact (subL_cons rfl subL_nil) | exact (subL_cons rfl (subL_cons rfl subL_nil)) | exact (subL_cons rfl (subL_cons rfl (subL_cons rfl subL_nil))) | exact (subL_cons rfl (subL_cons rfl (subL_cons rfl (subL_cons rfl subL_nil)))) | exact (subL_cons rfl (subL_cons rfl (subL_cons rfl (subL_cons rfl (subL_cons rfl subL_nil))))) | exact (subL_cons rfl (subL_cons rfl (subL_cons rfl (subL_cons rfl (subL_cons rfl (subL_cons rfl subL_nil)))))) | exact (subL_cons rfl (subL_cons rfl (subL_cons rfl (subL_cons rfl (subL_cons rfl (subL_cons rfl (subL_cons rfl subL_nil))))))) | exact (subL_cons rfl (subL_cons rfl (subL_cons rfl (subL_cons rfl (subL_cons rfl (subL_cons rfl (subL_cons rfl (subL_cons rfl subL_nil))))))))), (subL_cons rfl subL_nil), (subL_cons rfl (subL_cons rfl (subL_cons rfl (subL_cons rfl subL_nil))))⟩) | fail) | fail)
    · exact ⟨Nat.zero_le _, rfl⟩
    · have hlt : p.1 < cs.length := by simpa using h
      exact ⟨hlt, by show p.2.take p.1 ++ _ = _; rw [hr]; exact row_next _ _ hlt⟩
    · have hlt : p.1 < cs.length := by simpa using h
      show cs.length - (p.1 + 1) < cs.length - p.1
      omega
    · have hge : cs.length ≤ p.1 := by simpa using h
      show AV.tup [(true, [.d (encDims ds), .d (encAttrs ats), .d (.sl 2 48 (((sortF cs).map encCell).take p.1))]), _] = _
      rw [List.take_of_length_le (by simp only [List.length_map, sortF_length]; exact hge)]
      rfl
theorem c97o (l : List Dim) (hne : 0 < l.length) : CallA Tryz.prog 97 [.one (.d (encDims l))] [] (.one (.own 0 l.length)) [(0, .row 3 32 (l.map encDim))] := by
  refine enter tabOk Tryz.func97 rfl (by decide +kernel) rfl fun hok w0 σ0 φ0 M => ?_
  have h1 := hok.1.sl; clear hok; simp only [List.length_map] at h1
  repeat' (first | (show OkOps _ _ _ _ _ _; first | (show OkOps _ _ _ (Oper.mk _ (Op.binOp .eql _ _ _ _) _ _ _ (_) :: _) _ _; first | refine okops_isNilS tabOk rfl rfl rfl rfl rfl rfl (fun r hr => ?_) | fail) | (show OkOps _ _ _ (Oper.mk _ (Op.call _) _ _ _ (_) :: _) _ _; first | refine okops_append tabOk rfl rfl rfl rfl rfl (id := 0) rfl rfl rfl rfl rfl rfl rfl (by simp only [List.length_map, Nat.zero_add]; omega) (by simp only [List.length_map, Nat.zero_add]; omega) ?_ | fail) | refine okops_nil ?_ | refine s_plain tabOk rfl rfl rfl rfl rfl ?_ | refine s_new envOk 0 rfl rfl rfl rfl rfl rfl ?_ | fail) | (show OkC _ _ _ _ _; first | refine ok_seq ?_ | refine ok_region ?_ | refine ok_skip ?_ | refine ok_ret ?_ | refine ok_cond rfl (fun h => ?_) (fun h => ?_) | fail) | (show thenQ _ _ _ _; first | refine then_n ?_ | refine then_r ?_ | fail) | (show RetQ _ _ _ _ _ _; first | refine ret_leafS (.inl rfl) rfl rfl ?_ (by first | exact (subL_cons rfl subL_nil) | exact (subL_cons rfl (subL_cons rfl subL_nil))) | fail) | fail)
  · have e := hr (by simpa using h)
    simp only [List.map_eq_nil_iff] at e
    subst e; simp at hne
  · simp
theorem c99e (ds : List Dim) (ats : List Attr) (cs : List Cell) (xs ys : List (List D)) (hd : cs.Pairwise diffC) (hx : xs = ds.map encDim) (hy : ys = cs.map encCell) : CallA Tryz.prog 99 [.one (.d (.sl 3 32 xs)), .one (.d (encAttrs ats)), .one (.d (.sl 2 48 ys))] [] (arrE (resF ds ats cs)) [] := by
  subst hx; subst hy; exact c99 ds ats cs hd
theorem c99k (ds : List Dim) (ats : List Attr) (cs : List Cell) (xs ys : List (List D)) (hd : cs.Pairwise diffC) (hf : cs.length ≤ 4096) (hx : xs = ds.map encDim) (hy : ys = cs.map encCell) : CallA Tryz.prog 99 [.one (.d (.sl 3 32 xs)), .one (.d (encAttrs ats)), .one (.d (.sl 2 48 ys))] [] (.tup [(true, [.d (encDims ds), .d (encAttrs ats), .d (encCells (sortF cs))]), (false, [.d (.int .i64 0)])]) [] := by
  have h := c99e ds ats cs xs ys hd hx hy
  unfold resF at h
  rw [if_neg (by omega)] at h
  exact h
end Go.Proofs.YtpejdgkaapnekaaGreat
namespace Go.Proofs.YtpejdgkaapnekaaGreat
open Go Go.Abs
def movI (k : Nat) (d : Int) (x : List Int) : List Int := x.set k (at_ x k + d)
def shiftC (k : Nat) (d : Int) (c : Cell) : Cell := ⟨movI k d c.at', c.vals⟩
theorem cmpF_mov : ∀ {k : Nat} {d : Int} {x y : List Int}, k < x.length → x.length = y.length → cmpF (movI k d x) (movI k d y) = cmpF x y
  | _, d, [], _, h, _ => by simp at h
  | _, d, _ :: _, [], _, h => by simp at h
  | 0, d, a :: x, b :: y, _, _ => by
    show cmpF ((a + d) :: x) ((b + d) :: y) = _
    simp only [cmpF]
    by_cases h1 : a < b
    · rw [if_pos h1, if_pos (by omega)]
    · rw [if_neg h1, if_neg (by omega)]
      by_cases h2 : b < a
      · rw [if_pos h2, if_pos (by omega)]
      · rw [if_neg h2, if_neg (by omega)]
  | k + 1, d, a :: x, b :: y, h, h' => by
    have ih := cmpF_mov (k := k) (d := d) (x := x) (y := y) (by simpa using h) (by simpa using h')
    show cmpF (a :: movI k d x) (b :: movI k d y) = _
    simp only [cmpF, ih]
theorem mov_len {k : Nat} {d : Int} {x : List Int} : (movI k d x).length = x.length := by simp [movI]
theorem at_mov {k : Nat} {d : Int} {x : List Int} {i : Nat} (h : i < x.length) : at_ (movI k d x) i = if i = k then at_ x k + d else at_ x i := at_set h
def cutD (d : Dim) (b : Int × Int) : Dim := ⟨d.name, max d.lo b.1, min d.hi b.2⟩
def cutDs (ds : List Dim) (lo hi : List Int) : List Dim := ds.zipWith cutD (lo.zip hi)
def okD (d : Dim) : Bool := !decide (lastF d.hi < d.lo)
def subF (a : Arr) (lo hi : List Int) : Option Arr × Int :=
  if checkF a.dims a.attrs a.cells ≠ 0 then (none, 2)
  else if (lo.length : Int) ≠ a.dims.length ∨ (hi.length : Int) ≠ a.dims.length then (none, 13)
  else if !(cutDs a.dims lo hi).all okD then (none, 3)
  else resF (cutDs a.dims lo hi) a.attrs (a.cells.filter fun c => withinL (cutDs a.dims lo hi) c.at')
def byF (a b : Arr) (k : Nat) : Int := (at_ a.dims k).hi - (at_ b.dims k).lo + 1
def catDim (a b : Arr) (k : Nat) : Dim := ⟨(at_ b.dims k).name, (at_ a.dims k).lo, (at_ b.dims k).hi + byF a b k⟩
structure Cat (a b : Arr) (name : List UInt8) (k : Nat) : Prop where
  oka : OkA a.dims a.attrs a.cells
  okb : OkA b.dims b.attrs b.cells
  hk : k < a.dims.length
  nm : (at_ a.dims k).name = name
  bef : ∀ i, i < k → (at_ a.dims i).name ≠ name
  len : a.dims.length = b.dims.length
  nms : ∀ i, i < a.dims.length → (at_ a.dims i).name = (at_ b.dims i).name
  oth : ∀ i, i < a.dims.length → i ≠ k → at_ a.dims i = at_ b.dims i
  ha : (at_ a.dims k).hi ≤ 1073741824
  hb : (at_ b.dims k).hi ≤ 1073741824
  att : a.attrs = b.attrs
  hc : (catDim a b k).hi ≤ 1073741824
section
variable {a b : Arr} {name : List UInt8} {k : Nat}
def catA (a b : Arr) (k : Nat) : Arr := ⟨a.dims.set k (catDim a b k), a.attrs, sortF (a.cells ++ b.cells.map (shiftC k (byF a b k)))⟩
theorem lastF_le {h : Int} (hh : h ≤ 1073741824) : lastF h = h := by unfold lastF; omega
theorem Cat.bounds (h : Cat a b name k) : (at_ a.dims k).lo ≤ (at_ a.dims k).hi ∧ (at_ b.dims k).lo ≤ (at_ b.dims k).hi ∧ -1073741824 ≤ (at_ a.dims k).lo ∧ -1073741824 ≤ (at_ b.dims k).lo := by
  have h1 := (h.oka.dims.2.2.1 k h.hk).1
  have h2 := (h.okb.dims.2.2.1 k (by rw [← h.len]; exact h.hk)).1
  omega
theorem Cat.acell (h : Cat a b name k) {c : Cell} (hc : c ∈ a.cells) : c.at'.length = a.dims.length ∧ c.vals.length = a.attrs.length ∧ valsGo a.attrs c.vals = 0 ∧ ∀ i, i < a.dims.length → (at_ a.dims i).lo ≤ at_ c.at' i ∧ at_ c.at' i ≤ lastF (at_ a.dims i).hi := by
  obtain ⟨h1, h2, h3, h4⟩ := cellF_ok.1 (h.oka.cel c hc)
  exact ⟨h1, h2, h4, (withinL_iff h1).1 h3⟩
theorem Cat.bcell (h : Cat a b name k) {c : Cell} (hc : c ∈ b.cells) : c.at'.length = a.dims.length ∧ c.vals.length = a.attrs.length ∧ valsGo a.attrs c.vals = 0 ∧ ∀ i, i < a.dims.length → (at_ b.dims i).lo ≤ at_ c.at' i ∧ at_ c.at' i ≤ lastF (at_ b.dims i).hi := by
  obtain ⟨h1, h2, h3, h4⟩ := cellF_ok.1 (h.okb.cel c hc)
  rw [h.att, h.len]
  exact ⟨h1, h2, h4, (withinL_iff h1).1 h3⟩
theorem Cat.moved (h : Cat a b name k) {c : Cell} (hc : c ∈ b.cells) {i : Nat} (hi : i < a.dims.length) : at_ (shiftC k (byF a b k) c).at' i = if i = k then at_ c.at' k + byF a b k else at_ c.at' i :=
  at_mov (by rw [(h.bcell hc).1]; exact hi)
theorem Cat.far (h : Cat a b name k) {c : Cell} (hc : c ∈ b.cells) : (at_ a.dims k).hi + 1 ≤ at_ (shiftC k (byF a b k) c).at' k ∧ at_ (shiftC k (byF a b k) c).at' k ≤ (catDim a b k).hi := by
  rw [h.moved hc h.hk, if_pos rfl]
  have h1 := (h.bcell hc).2.2.2 k h.hk
  rw [lastF_le h.hb] at h1
  unfold byF catDim byF at *
  dsimp only
  omega
theorem Cat.near (h : Cat a b name k) {c : Cell} (hc : c ∈ a.cells) : at_ c.at' k ≤ (at_ a.dims k).hi := by
  have h1 := (h.acell hc).2.2.2 k h.hk
  rw [lastF_le h.ha] at h1
  exact h1.2
theorem Cat.bsrt (h : Cat a b name k) : (b.cells.map (shiftC k (byF a b k))).Pairwise ltC := by
  rw [List.pairwise_map]
  refine List.Pairwise.imp_of_mem (fun {x y} hx hy hxy => ?_) h.okb.srt
  have h1 := (h.bcell hx).1
  have h2 := (h.bcell hy).1
  unfold ltC at hxy ⊢
  show cmpF (movI k _ x.at') (movI k _ y.at') < 0
  rw [cmpF_mov (by rw [h1]; exact h.hk) (by rw [h1, h2])]
  exact hxy
theorem Cat.diff (h : Cat a b name k) : (a.cells ++ b.cells.map (shiftC k (byF a b k))).Pairwise diffC := by
  refine List.pairwise_append.2 ⟨diff_of_sorted h.oka.srt, diff_of_sorted h.bsrt, fun x hx y hy e => ?_⟩
  obtain ⟨c, hc, rfl⟩ := List.mem_map.1 hy
  have h1 := h.near hx
  have h2 := (h.far hc).1
  rw [e] at h1
  omega
theorem Cat.cdim (h : Cat a b name k) {i : Nat} (hi : i < a.dims.length) : at_ (catA a b k).dims i = if i = k then catDim a b k else at_ a.dims i := at_set hi
theorem dimsGo_mk : ∀ {ds : List Dim} {met : List (List UInt8)}, (∀ d ∈ ds, boundsF d.lo d.hi = true ∧ nameF d.name = true ∧ d.name ∉ met) → (ds.map Dim.name).Nodup → dimsGo met ds = 0
  | [], met, _, _ => rfl
  | d :: r, met, h, hn => by
    obtain ⟨h1, h2, h3⟩ := h d List.mem_cons_self
    rw [List.map_cons, List.nodup_cons] at hn
    simp only [dimsGo, h1, h2]
    rw [if_neg (by simp [h3]), if_neg (by simp)]
    refine dimsGo_mk (fun x hx => ?_) hn.2
    obtain ⟨j1, j2, j3⟩ := h x (List.mem_cons_of_mem _ hx)
    refine ⟨j1, j2, fun hm => ?_⟩
    rcases List.mem_append.1 hm with hm | hm
    · exact j3 hm
    · have e : x.name = d.name := by simpa using hm
      exact hn.1 (List.mem_map.2 ⟨x, hx, e⟩)
theorem schemaF_mk {ds : List Dim} {ats : List Attr} (h1 : 1 ≤ ds.length) (h2 : ds.length ≤ 4) (h3 : ∀ d ∈ ds, boundsF d.lo d.hi = true ∧ nameF d.name = true) (h4 : (ds.map Dim.name).Nodup) (h5 : 1 ≤ ats.length) (h6 : ats.length ≤ 6) (h7 : attrsGo (ds.map Dim.name) ats = 0) : schemaF ds ats = 0 := by
  have hd : dimsF ds = 0 := by
    unfold dimsF
    rw [if_neg (by omega)]
    exact dimsGo_mk (fun d hd => ⟨(h3 d hd).1, (h3 d hd).2, by simp⟩) h4
  unfold schemaF
  rw [if_neg (by simp [hd]), if_neg (by omega)]
  exact h7
theorem Cat.cnames (h : Cat a b name k) : (catA a b k).dims.map Dim.name = a.dims.map Dim.name := by
  refine at_ext (by simp [catA]) fun i hi => ?_
  have hi' : i < a.dims.length := by simpa [catA] using hi
  rw [at_mapN (by simpa [catA] using hi), at_mapN hi', h.cdim hi']
  split
  · rename_i e; subst e; exact (h.nms i hi').symm
  · rfl
theorem Cat.okc (h : Cat a b name k) (hl : a.cells.length + b.cells.length ≤ 4096) : OkA (catA a b k).dims (catA a b k).attrs (catA a b k).cells := by
  obtain ⟨d1, d2, d3, d4⟩ := h.oka.dims
  obtain ⟨s1, s2, s3, s4⟩ := schemaF_ok h.oka.sch
  have hcl : (catA a b k).dims.length = a.dims.length := by simp [catA]
  have hbn := h.bounds
  refine ⟨schemaF_mk (by omega) (by omega) (fun d hd => ?_) (by rw [h.cnames]; exact d4) s2 s3 (by rw [h.cnames]; exact s4), ?_, sortF_sorted h.diff, fun c hc => ?_⟩
  · obtain ⟨i, hi, rfl⟩ := at_ofmem hd
    rw [hcl] at hi
    have hh := h.hc
    obtain ⟨e1, e2⟩ := d3 i hi
    rw [h.cdim hi]
    split
    · rename_i e; subst e
      refine ⟨boundsF_ok.2 ?_, ?_⟩
      · unfold catDim byF at *; dsimp only at *; omega
      · show nameF (at_ b.dims i).name = true
        rw [← h.nms i hi]; exact e2
    · exact ⟨boundsF_ok.2 e1, e2⟩
  · show (sortF _).length ≤ 4096
    rw [sortF_length, List.length_append, List.length_map]; exact hl
  · have hc' := (sortF_perm _).mem_iff.1 hc
    rcases List.mem_append.1 hc' with hc' | hc'
    · obtain ⟨e1, e2, e3, e4⟩ := h.acell hc'
      refine cellF_ok.2 ⟨by rw [hcl]; exact e1, e2, (withinL_iff (by rw [hcl]; exact e1)).2 fun i hi => ?_, e3⟩
      rw [hcl] at hi
      rw [h.cdim hi]
      have e5 := e4 i hi
      split
      · rename_i e; subst e
        rw [lastF_le h.ha] at e5
        rw [lastF_le h.hc]
        unfold catDim byF; dsimp only; omega
      · exact e5
    · obtain ⟨c0, hc0, rfl⟩ := List.mem_map.1 hc'
      obtain ⟨e1, e2, e3, e4⟩ := h.bcell hc0
      have hlen : (shiftC k (byF a b k) c0).at'.length = a.dims.length := by rw [← e1]; exact mov_len
      refine cellF_ok.2 ⟨by rw [hcl]; exact hlen, e2, (withinL_iff (by rw [hcl]; exact hlen)).2 fun i hi => ?_, e3⟩
      rw [hcl] at hi
      rw [h.cdim hi]
      split
      · rename_i e; subst e
        have hf := h.far hc0
        rw [lastF_le h.hc]
        refine ⟨?_, hf.2⟩
        show (at_ a.dims i).lo ≤ _
        omega
      · rename_i e
        rw [h.moved hc0 hi, if_neg e, h.oth i hi e]
        exact e4 i hi
theorem Cat.first (h : Cat a b name k) (hl : a.cells.length + b.cells.length ≤ 4096) (h2 : a.cells.length ≤ 4096) :
    subF (catA a b k) ((catA a b k).dims.map Dim.lo) (((catA a b k).dims.map Dim.hi).set k (at_ a.dims k).hi) = (some a, 0) := by
  have hcl : (catA a b k).dims.length = a.dims.length := by simp [catA]
  obtain ⟨d1, d2, d3, d4⟩ := h.oka.dims
  have hbn := h.bounds
  have hcut : cutDs (catA a b k).dims ((catA a b k).dims.map Dim.lo) (((catA a b k).dims.map Dim.hi).set k (at_ a.dims k).hi) = a.dims := by
    refine at_ext (by simp [cutDs, hcl]) fun i hi => ?_
    have hi' : i < a.dims.length := by simp [cutDs, hcl] at hi; exact hi
    have hi2 : i < (catA a b k).dims.length := by rw [hcl]; exact hi'
    unfold cutDs
    rw [at_zip hi2 (by simp [hcl, hi']), List.zip, at_zip (by simp [hcl, hi']) (by simp [hcl, hi']), at_mapN hi2, at_set (by simp [hcl, hi']), at_mapN hi2, h.cdim hi']
    unfold cutD
    by_cases e : i = k
    · subst e
      rw [if_pos rfl, if_pos rfl]
      refine Dim.ext ?_ ?_ ?_
      · exact (h.nms i hi').symm
      · show max (at_ a.dims i).lo (at_ a.dims i).lo = _; omega
      · show min ((at_ b.dims i).hi + byF a b i) (at_ a.dims i).hi = _; unfold byF; omega
    · rw [if_neg e, if_neg e]
      refine Dim.ext rfl ?_ ?_
      · show max _ _ = _; omega
      · show min _ _ = _; omega
  unfold subF
  rw [if_neg (by rw [okA_check (h.okc hl)]; simp), if_neg (by simp), hcut, if_neg ?_]
  · have hf : (catA a b k).cells.filter (fun c => withinL a.dims c.at') = a.cells := by
      refine sortF_filter _ h.diff h.oka.srt ?_
      rw [List.filter_append, List.filter_eq_self.2 fun c hc => (withinL_iff (h.acell hc).1).2 (h.acell hc).2.2.2, List.filter_eq_nil_iff.2, List.append_nil]
      · intro c hc hw
        obtain ⟨c0, hc0, rfl⟩ := List.mem_map.1 hc
        have hlen : (shiftC k (byF a b k) c0).at'.length = a.dims.length := by rw [← (h.bcell hc0).1]; exact mov_len
        have h3 := (withinL_iff hlen).1 hw k h.hk
        have h4 := (h.far hc0).1
        rw [lastF_le h.ha] at h3
        omega
    rw [hf]
    unfold resF
    rw [if_neg (by omega), sortF_id h.oka.srt]
    rfl
  · simp only [Bool.not_eq_true', Bool.not_eq_false, List.all_eq_true, okD, decide_eq_false_iff_not]
    intro d hd
    obtain ⟨i, hi, rfl⟩ := at_ofmem hd
    have := (d3 i hi).1
    unfold lastF; omega
end
end Go.Proofs.YtpejdgkaapnekaaGreat
namespace Go.Proofs.YtpejdgkaapnekaaGreat
open Go Go.Abs
def hullD (d e : Dim) : Dim := ⟨d.name, min d.lo e.lo, max d.hi e.hi⟩
def hullDs (a b : List Dim) : List Dim := a.zipWith hullD b
def newC (l : List Cell) (c : Cell) : Bool := !(l.any fun x => x.at' == c.at')
def mrgA (a b : Arr) : Arr := ⟨hullDs a.dims b.dims, a.attrs, sortF (a.cells ++ b.cells.filter (newC a.cells))⟩
def hasC (l : List Cell) (t : List Int) : Prop := ∃ y ∈ l, y.at' = t
theorem newC_iff {l : List Cell} {c : Cell} : newC l c = true ↔ ¬ hasC l c.at' := by
  simp [newC, hasC]
theorem sorted_mem_eq : ∀ {l m : List Cell}, l.Pairwise ltC → m.Pairwise ltC → (∀ x, x ∈ l ↔ x ∈ m) → l = m
  | [], [], _, _, _ => rfl
  | [], y :: m, _, _, h => by have := (h y).2 List.mem_cons_self; simp at this
  | x :: l, [], _, _, h => by have := (h x).1 List.mem_cons_self; simp at this
  | x :: l, y :: m, h1, h2, h => by
    have h1' := List.pairwise_cons.1 h1
    have h2' := List.pairwise_cons.1 h2
    have hxy : x = y := by
      rcases List.mem_cons.1 ((h x).1 List.mem_cons_self) with e | hx
      · exact e
      rcases List.mem_cons.1 ((h y).2 List.mem_cons_self) with e | hy
      · exact e.symm
      exact (ltC_irrefl (ltC_trans (h1'.1 y hy) (h2'.1 x hx))).elim
    subst hxy
    rw [sorted_mem_eq h1'.2 h2'.2 fun z => ?_]
    constructor
    · intro hz
      rcases List.mem_cons.1 ((h z).1 (List.mem_cons_of_mem _ hz)) with e | hz'
      · subst e; exact (ltC_irrefl (h1'.1 _ hz)).elim
      · exact hz'
    · intro hz
      rcases List.mem_cons.1 ((h z).2 (List.mem_cons_of_mem _ hz)) with e | hz'
      · subst e; exact (ltC_irrefl (h2'.1 _ hz)).elim
      · exact hz'
structure Mrg (a b : Arr) : Prop where
  oka : OkA a.dims a.attrs a.cells
  okb : OkA b.dims b.attrs b.cells
  names : a.dims.map Dim.name = b.dims.map Dim.name
  attrs : a.attrs = b.attrs
section
variable {a b c : Arr}
theorem hull_len (h : Mrg a b) : (hullDs a.dims b.dims).length = a.dims.length := by
  have : a.dims.length = b.dims.length := by simpa using congrArg List.length h.names
  simp [hullDs]; omega
theorem Mrg.len (h : Mrg a b) : a.dims.length = b.dims.length := by simpa using congrArg List.length h.names
theorem hull_at (h : Mrg a b) {i : Nat} (hi : i < a.dims.length) : at_ (hullDs a.dims b.dims) i = hullD (at_ a.dims i) (at_ b.dims i) := at_zip hi (by rw [← h.len]; exact hi)
theorem hull_names (h : Mrg a b) : (hullDs a.dims b.dims).map Dim.name = a.dims.map Dim.name := by
  refine at_ext (by simp [hull_len h]) fun i hi => ?_
  have hi' : i < a.dims.length := by simpa [hull_len h] using hi
  rw [at_mapN (by rw [hull_len h]; exact hi'), at_mapN hi', hull_at h hi']
  rfl
theorem mrg_mem {x : Cell} : x ∈ (mrgA a b).cells ↔ x ∈ a.cells ∨ (x ∈ b.cells ∧ ¬ hasC a.cells x.at') := by
  show x ∈ sortF _ ↔ _
  rw [(sortF_perm _).mem_iff, List.mem_append, List.mem_filter, newC_iff]
theorem mrg_diff (h : Mrg a b) : (a.cells ++ b.cells.filter (newC a.cells)).Pairwise diffC := by
  refine List.pairwise_append.2 ⟨diff_of_sorted h.oka.srt, (diff_of_sorted h.okb.srt).filter _, fun x hx y hy e => ?_⟩
  exact newC_iff.1 (List.mem_filter.1 hy).2 ⟨x, hx, e⟩
theorem mrg_sorted (h : Mrg a b) : (mrgA a b).cells.Pairwise ltC := sortF_sorted (mrg_diff h)
theorem mrg_len : (mrgA a b).cells.length ≤ a.cells.length + b.cells.length := by
  show (sortF _).length ≤ _
  rw [sortF_length, List.length_append]
  have := List.length_filter_le (newC a.cells) b.cells
  omega
theorem cell_hull (h : Mrg a b) {x : Cell} {ds : List Dim} (hl : ds.length = a.dims.length) (hx : cellF ds a.attrs x.at' x.vals = 0)
    (hd : ∀ i, i < a.dims.length → (hullD (at_ a.dims i) (at_ b.dims i)).lo ≤ (at_ ds i).lo ∧ (at_ ds i).hi ≤ (hullD (at_ a.dims i) (at_ b.dims i)).hi) : cellF (hullDs a.dims b.dims) a.attrs x.at' x.vals = 0 := by
  obtain ⟨h1, h2, h3, h4⟩ := cellF_ok.1 hx
  refine cellF_ok.2 ⟨by rw [hull_len h]; omega, h2, ?_, h4⟩
  rw [withinL_iff h1] at h3
  rw [withinL_iff (by rw [hull_len h]; omega)]
  intro i hi
  rw [hull_len h] at hi
  rw [hull_at h hi]
  have e1 := h3 i (by omega)
  have e2 := hd i hi
  unfold lastF at *
  omega
theorem mrg_ok (h : Mrg a b) (hn : (mrgA a b).cells.length ≤ 4096) : OkA (mrgA a b).dims (mrgA a b).attrs (mrgA a b).cells := by
  obtain ⟨a1, a2, a3, a4⟩ := h.oka.dims
  obtain ⟨b1, b2, b3, b4⟩ := h.okb.dims
  have hs := schemaF_ok h.oka.sch
  refine ⟨?_, hn, mrg_sorted h, fun x hx => ?_⟩
  · refine schemaF_mk (by show _ ≤ (hullDs _ _).length; rw [hull_len h]; exact a1) (by show (hullDs _ _).length ≤ _; rw [hull_len h]; exact a2) (fun d hd => ?_) (by show ((hullDs _ _).map _).Nodup; rw [hull_names h]; exact a4) hs.2.1 hs.2.2.1 (by show attrsGo ((hullDs _ _).map _) _ = 0; rw [hull_names h]; exact hs.2.2.2)
    obtain ⟨i, hi, rfl⟩ := at_ofmem hd
    have hi' : i < a.dims.length := by rw [← hull_len h]; exact hi
    show boundsF (at_ (hullDs a.dims b.dims) i).lo (at_ (hullDs a.dims b.dims) i).hi = true ∧ nameF (at_ (hullDs a.dims b.dims) i).name = true
    rw [hull_at h hi']
    obtain ⟨e1, e2⟩ := a3 i hi'
    obtain ⟨e3, _⟩ := b3 i (by rw [← h.len]; exact hi')
    refine ⟨boundsF_ok.2 ?_, e2⟩
    simp only [hullD]
    omega
  · show cellF (hullDs a.dims b.dims) a.attrs _ _ = 0
    rcases mrg_mem.1 hx with hx | ⟨hx, _⟩
    · exact cell_hull h rfl (h.oka.cel x hx) fun i hi => by simp only [hullD]; omega
    · refine cell_hull h h.len.symm (by rw [h.attrs]; exact h.okb.cel x hx) fun i hi => by simp only [hullD]; omega
theorem Mrg.symm (h : Mrg a b) : Mrg b a := ⟨h.okb, h.oka, h.names.symm, h.attrs.symm⟩
theorem Mrg.left (h : Mrg a b) (h' : Mrg b c) (hn : a.cells.length + b.cells.length ≤ 4096) : Mrg (mrgA a b) c :=
  ⟨mrg_ok h (Nat.le_trans mrg_len hn), h'.okb, (hull_names h).trans (h.names.trans h'.names), h.attrs.trans h'.attrs⟩
theorem Arr.ext {x y : Arr} (h1 : x.dims = y.dims) (h2 : x.attrs = y.attrs) (h3 : x.cells = y.cells) : x = y := by cases x; cases y; simp_all
end
end Go.Proofs.YtpejdgkaapnekaaGreat
namespace Go.Proofs.YtpejdgkaapnekaaGreat
open Go Go.Abs
def extF (d : Dim) : Int := d.hi - d.lo + 1
def volGo : Int → List Dim → Int × Int
  | n, [] => (n, 0)
  | n, d :: r => if (4611686018427387904 : Int) / extF d < n then (0, 14) else volGo (n * extF d) r
def volF (ds : List Dim) : Int × Int := if dimsF ds ≠ 0 then (0, dimsF ds) else if ds.any (fun d => d.hi == 1073741825) then (0, 3) else volGo 1 ds
def rowGo : Int → List Dim → List Int → Int
  | n, d :: ds, x :: xs => rowGo (n * extF d + x - d.lo) ds xs
  | n, _, _ => n
def indexF (ds : List Dim) (x : List Int) : Int × Int := if (volF ds).2 ≠ 0 then (0, (volF ds).2) else if (x.length : Int) ≠ ds.length then (0, 13) else if !ofF ds x then (0, 3) else (rowGo 0 ds x, 0)
def unG : List Dim → Int → List Int × Int
  | [], k => ([], k)
  | d :: r, k => ((d.lo + (unG r k).2 % extF d) :: (unG r k).1, (unG r k).2 / extF d)
def coordF (ds : List Dim) (k : Int) : Option (List Int) × Int := if (volF ds).2 ≠ 0 then (none, (volF ds).2) else if k < 0 ∨ (volF ds).1 ≤ k then (none, 3) else (some (unG ds k).1, 0)
def reshC (ds es : List Dim) (c : Cell) : Cell := ⟨(unG es (rowGo 0 ds c.at')).1, c.vals⟩
def reshF (a : Arr) (es : List Dim) : Option Arr × Int :=
  if chkA a ≠ 0 then (none, 2)
  else if schemaF es a.attrs ≠ 0 then (none, schemaF es a.attrs)
  else if (volF a.dims).2 ≠ 0 then (none, (volF a.dims).2)
  else if (volF es).2 ≠ 0 then (none, (volF es).2)
  else if (volF a.dims).1 ≠ (volF es).1 then (none, 13)
  else resF es a.attrs (a.cells.map (reshC a.dims es))
theorem un_len : ∀ {ds : List Dim} {k : Int}, (unG ds k).1.length = ds.length
  | [], k => rfl
  | d :: r, k => by simp [unG, un_len (ds := r) (k := k)]
def prodF : List Dim → Int
  | [] => 1
  | d :: r => extF d * prodF r
theorem ext_pos {d : Dim} (h : boundsF d.lo d.hi = true) : 0 < extF d := by
  have := boundsF_ok.1 h
  unfold extF; omega
theorem prod_pos : ∀ {ds : List Dim}, (∀ d ∈ ds, 0 < extF d) → 0 < prodF ds
  | [], _ => by simp [prodF]
  | d :: r, h => Int.mul_pos (h d List.mem_cons_self) (prod_pos fun x hx => h x (List.mem_cons_of_mem _ hx))
theorem un_row : ∀ {ds : List Dim} {xs : List Int} {n : Int}, xs.length = ds.length → (∀ i, i < ds.length → (at_ ds i).lo ≤ at_ xs i ∧ at_ xs i ≤ (at_ ds i).hi) → unG ds (rowGo n ds xs) = (xs, n)
  | [], [], n, _, _ => rfl
  | d :: ds, x :: xs, n, h, hb => by
    have h0 := hb 0 (by simp)
    have h0' : d.lo ≤ x ∧ x ≤ d.hi := h0
    have ih := un_row (ds := ds) (xs := xs) (n := n * extF d + x - d.lo) (by simpa using h) fun i hi => hb (i + 1) (by simpa using hi)
    show ((d.lo + (unG ds (rowGo (n * extF d + x - d.lo) ds xs)).2 % extF d) :: (unG ds (rowGo (n * extF d + x - d.lo) ds xs)).1, (unG ds (rowGo (n * extF d + x - d.lo) ds xs)).2 / extF d) = _
    rw [ih]
    have e : n * extF d + x - d.lo = (x - d.lo) + extF d * n := by rw [Int.mul_comm]; omega
    have hx : 0 ≤ x - d.lo ∧ x - d.lo < extF d := by unfold extF; omega
    have hp : extF d ≠ 0 := by omega
    simp only [e]
    rw [Int.add_mul_emod_self_left, Int.add_mul_ediv_left _ _ hp, Int.emod_eq_of_lt hx.1 hx.2, Int.ediv_eq_zero_of_lt hx.1 hx.2]
    congr 1
    · congr 1; omega
    · omega
  | [], _ :: _, _, h, _ => by simp at h
  | _ :: _, [], _, h, _ => by simp at h
theorem row_un : ∀ {ds : List Dim} {k : Int}, rowGo (unG ds k).2 ds (unG ds k).1 = k
  | [], k => rfl
  | d :: r, k => by
    show rowGo ((unG r k).2 / extF d * extF d + (d.lo + (unG r k).2 % extF d) - d.lo) r (unG r k).1 = k
    have e : (unG r k).2 / extF d * extF d + (d.lo + (unG r k).2 % extF d) - d.lo = (unG r k).2 := by
      have := Int.emod_add_mul_ediv (unG r k).2 (extF d)
      rw [Int.mul_comm] at this
      omega
    rw [e]
    exact row_un
theorem un_quot : ∀ {ds : List Dim} {k : Int}, (∀ d ∈ ds, 0 < extF d) → (unG ds k).2 = k / prodF ds
  | [], k, _ => by simp [unG, prodF]
  | d :: r, k, h => by
    have ih := un_quot (ds := r) (k := k) fun x hx => h x (List.mem_cons_of_mem _ hx)
    show (unG r k).2 / extF d = k / (extF d * prodF r)
    rw [ih, Int.mul_comm, Int.ediv_ediv_of_nonneg (Int.le_of_lt (prod_pos fun x hx => h x (List.mem_cons_of_mem _ hx)))]
theorem un_in : ∀ {ds : List Dim} {k : Int}, (∀ d ∈ ds, 0 < extF d) → ∀ i, i < ds.length → (at_ ds i).lo ≤ at_ (unG ds k).1 i ∧ at_ (unG ds k).1 i ≤ (at_ ds i).hi
  | d :: r, k, h, 0, _ => by
    have hp := h d List.mem_cons_self
    have h1 := Int.emod_nonneg (unG r k).2 (b := extF d) (by omega)
    have h2 := Int.emod_lt_of_pos (unG r k).2 hp
    show d.lo ≤ d.lo + (unG r k).2 % extF d ∧ d.lo + (unG r k).2 % extF d ≤ d.hi
    unfold extF at *
    omega
  | d :: r, k, h, i + 1, hi => un_in (ds := r) (k := k) (fun x hx => h x (List.mem_cons_of_mem _ hx)) i (by simpa using hi)
theorem volGo_ok : ∀ {ds : List Dim} {n : Int}, (volGo n ds).2 = 0 → (volGo n ds).1 = n * prodF ds
  | [], n, _ => by simp [volGo, prodF]
  | d :: r, n, h => by
    simp only [volGo] at h ⊢
    split at h
    · simp at h
    · rename_i h1
      rw [if_neg h1, volGo_ok h]
      simp only [prodF, Int.mul_assoc]
theorem row_bound : ∀ {ds : List Dim} {xs : List Int} {n : Int}, xs.length = ds.length → (∀ i, i < ds.length → (at_ ds i).lo ≤ at_ xs i ∧ at_ xs i ≤ (at_ ds i).hi) → 0 ≤ n → n * prodF ds ≤ rowGo n ds xs ∧ rowGo n ds xs < (n + 1) * prodF ds
  | [], [], n, _, _, _ => by simp only [rowGo, prodF]; omega
  | d :: ds, x :: xs, n, h, hb, hn => by
    have h0 : d.lo ≤ x ∧ x ≤ d.hi := hb 0 (by simp)
    have he : 0 < extF d := by unfold extF; omega
    have hm : 0 ≤ n * extF d := Int.mul_nonneg hn (by omega)
    have hp : ∀ y ∈ ds, 0 < extF y := fun y hy => by
      obtain ⟨i, hi, rfl⟩ := at_ofmem hy
      have : (at_ ds i).lo ≤ at_ xs i ∧ at_ xs i ≤ (at_ ds i).hi := hb (i + 1) (by simpa using hi)
      unfold extF; omega
    have hpp := prod_pos hp
    obtain ⟨i1, i2⟩ := row_bound (ds := ds) (xs := xs) (n := n * extF d + x - d.lo) (by simpa using h) (fun i hi => hb (i + 1) (by simpa using hi)) (by omega)
    show n * (extF d * prodF ds) ≤ rowGo (n * extF d + x - d.lo) ds xs ∧ rowGo (n * extF d + x - d.lo) ds xs < (n + 1) * (extF d * prodF ds)
    constructor
    · refine Int.le_trans ?_ i1
      rw [← Int.mul_assoc]
      exact Int.mul_le_mul_of_nonneg_right (by omega) (by omega)
    · refine Int.lt_of_lt_of_le i2 ?_
      rw [← Int.mul_assoc]
      refine Int.mul_le_mul_of_nonneg_right ?_ (by omega)
      rw [Int.add_mul]
      unfold extF at *
      omega
  | [], _ :: _, _, h, _, _ => by simp at h
  | _ :: _, [], _, h, _, _ => by simp at h
structure Resh (a : Arr) (es : List Dim) : Prop where
  oka : OkA a.dims a.attrs a.cells
  sch : schemaF es a.attrs = 0
  fin : ∀ i, i < a.dims.length → (at_ a.dims i).hi ≤ 1073741824
  fin' : ∀ i, i < es.length → (at_ es i).hi ≤ 1073741824
  same : prodF a.dims = prodF es
def reshA (a : Arr) (es : List Dim) : Arr := ⟨es, a.attrs, sortF (a.cells.map (reshC a.dims es))⟩
theorem vol_ok {ds : List Dim} (h : (volF ds).2 = 0) : dimsF ds = 0 ∧ (∀ i, i < ds.length → (at_ ds i).hi ≤ 1073741824) ∧ (volF ds).1 = prodF ds := by
  unfold volF at h ⊢
  split at h
  · rename_i h1; exact absurd h h1
  split at h
  · simp at h
  rename_i h1 h2
  have hd : dimsF ds = 0 := by simpa using h1
  rw [if_neg h1, if_neg h2]
  refine ⟨hd, fun i hi => ?_, by rw [volGo_ok h]; omega⟩
  have hb := boundsF_ok.1 ((dimsF_ok hd).2.2.1 _ (at_mem hi)).1
  have : ¬ (at_ ds i).hi = 1073741825 := fun e => h2 (List.any_eq_true.2 ⟨_, at_mem hi, by simp [e]⟩)
  omega
theorem reshF_cases (a : Arr) (es : List Dim) (hc : chkA a = 0) : (∃ e, e ≠ 0 ∧ reshF a es = (none, e)) ∨ (Resh a es ∧ (volF a.dims).2 = 0 ∧ (volF es).2 = 0 ∧ (volF a.dims).1 = (volF es).1 ∧ reshF a es = (some (reshA a es), 0)) := by
  have hA := okA hc
  unfold reshF
  rw [if_neg (by simp [hc])]
  by_cases h1 : schemaF es a.attrs = 0
  · rw [if_neg (by simp [h1])]
    by_cases h2 : (volF a.dims).2 = 0
    · rw [if_neg (by simp [h2])]
      by_cases h3 : (volF es).2 = 0
      · rw [if_neg (by simp [h3])]
        by_cases h4 : (volF a.dims).1 = (volF es).1
        · rw [if_neg (by simp [h4])]
          obtain ⟨_, f1, f2⟩ := vol_ok h2
          obtain ⟨_, g1, g2⟩ := vol_ok h3
          refine .inr ⟨⟨hA, h1, f1, g1, by rw [← f2, ← g2, h4]⟩, h2, h3, h4, ?_⟩
          unfold resF
          rw [if_neg (by rw [List.length_map]; have := hA.few; omega)]
          rfl
        · rw [if_pos (by simp [h4])]; exact .inl ⟨13, by decide, rfl⟩
      · rw [if_pos (by simp [h3])]; exact .inl ⟨_, h3, rfl⟩
    · rw [if_pos (by simp [h2])]; exact .inl ⟨_, h2, rfl⟩
  · rw [if_pos (by simp [h1])]; exact .inl ⟨_, h1, rfl⟩
section
variable {a : Arr} {es : List Dim}
theorem Resh.ext (h : Resh a es) : (∀ d ∈ a.dims, 0 < extF d) ∧ ∀ d ∈ es, 0 < extF d :=
  ⟨fun d hd => ext_pos ((dimsF_ok (schemaF_ok h.oka.sch).1).2.2.1 d hd).1, fun d hd => ext_pos ((dimsF_ok (schemaF_ok h.sch).1).2.2.1 d hd).1⟩
theorem Resh.cell (h : Resh a es) {c : Cell} (hc : c ∈ a.cells) : c.at'.length = a.dims.length ∧ ∀ i, i < a.dims.length → (at_ a.dims i).lo ≤ at_ c.at' i ∧ at_ c.at' i ≤ (at_ a.dims i).hi := by
  obtain ⟨h1, h2, h3, h4⟩ := cellF_ok.1 (h.oka.cel c hc)
  rw [withinL_iff h1] at h3
  refine ⟨h1, fun i hi => ?_⟩
  have := h3 i hi
  unfold lastF at this
  omega
theorem resh_back (h : Resh a es) {c : Cell} (hc : c ∈ a.cells) : reshC es a.dims (reshC a.dims es c) = c := by
  obtain ⟨h1, h2⟩ := h.cell hc
  obtain ⟨b1, b2⟩ := row_bound (n := 0) h1 h2 (by omega)
  have hq : (unG es (rowGo 0 a.dims c.at')).2 = 0 := by
    rw [un_quot h.ext.2]
    exact Int.ediv_eq_zero_of_lt (by omega) (by rw [← h.same]; omega)
  have e1 : rowGo 0 es (unG es (rowGo 0 a.dims c.at')).1 = rowGo 0 a.dims c.at' := by
    have := row_un (ds := es) (k := rowGo 0 a.dims c.at')
    rwa [hq] at this
  show Cell.mk (unG a.dims (rowGo 0 es (unG es (rowGo 0 a.dims c.at')).1)).1 c.vals = c
  rw [e1, un_row h1 h2]
theorem resh_diff (h : Resh a es) : (a.cells.map (reshC a.dims es)).Pairwise diffC := by
  rw [List.pairwise_map]
  refine List.Pairwise.imp_of_mem ?_ (diff_of_sorted h.oka.srt)
  intro x y hx hy hd e
  apply hd
  have e1 := resh_back h hx
  have e2 := resh_back h hy
  have : (reshC es a.dims (reshC a.dims es x)).at' = (reshC es a.dims (reshC a.dims es y)).at' := by
    show (unG a.dims (rowGo 0 es (reshC a.dims es x).at')).1 = (unG a.dims (rowGo 0 es (reshC a.dims es y).at')).1
    rw [e]
  rwa [e1, e2] at this
theorem resh_ok (h : Resh a es) : OkA (reshA a es).dims (reshA a es).attrs (reshA a es).cells := by
  refine ⟨h.sch, by show (sortF _).length ≤ _; rw [sortF_length, List.length_map]; exact h.oka.few, sortF_sorted (resh_diff h), fun x hx => ?_⟩
  obtain ⟨c, hc, rfl⟩ := List.mem_map.1 ((sortF_perm _).mem_iff.1 hx)
  obtain ⟨h1, h2, h3, h4⟩ := cellF_ok.1 (h.oka.cel c hc)
  refine cellF_ok.2 ⟨un_len, h2, ?_, h4⟩
  show withinL es (unG es (rowGo 0 a.dims c.at')).1 = true
  rw [withinL_iff un_len]
  intro i hi
  have := un_in (k := rowGo 0 a.dims c.at') h.ext.2 i hi
  have h5 := h.fin' i hi
  show (at_ es i).lo ≤ at_ (unG es (rowGo 0 a.dims c.at')).1 i ∧ at_ (unG es (rowGo 0 a.dims c.at')).1 i ≤ lastF (at_ es i).hi
  unfold lastF
  omega
theorem resh_two (h : Resh a es) : Resh (reshA a es) a.dims := ⟨resh_ok h, h.oka.sch, h.fin', h.fin, h.same.symm⟩
theorem resh_twice (h : Resh a es) : reshA (reshA a es) a.dims = a := by
  refine Arr.ext rfl rfl (sorted_mem_eq (sortF_sorted (resh_diff (resh_two h))) h.oka.srt fun x => ?_)
  show x ∈ sortF ((sortF _).map (reshC es a.dims)) ↔ _
  rw [(sortF_perm _).mem_iff]
  constructor
  · intro hx
    obtain ⟨y, hy, rfl⟩ := List.mem_map.1 hx
    obtain ⟨c, hc, rfl⟩ := List.mem_map.1 ((sortF_perm _).mem_iff.1 hy)
    rw [resh_back h hc]; exact hc
  · intro hx
    exact List.mem_map.2 ⟨reshC a.dims es x, (sortF_perm _).mem_iff.2 (List.mem_map.2 ⟨x, hx, rfl⟩), resh_back h hx⟩
theorem reshF_back (h : Resh a es) (h2 : (volF a.dims).2 = 0) (h3 : (volF es).2 = 0) (h4 : (volF a.dims).1 = (volF es).1) : reshF (reshA a es) a.dims = (some a, 0) := by
  unfold reshF
  rw [if_neg (by unfold chkA; rw [okA_check (resh_ok h)]; simp), if_neg (by show ¬ schemaF a.dims a.attrs ≠ 0; rw [h.oka.sch]; simp), if_neg (by show ¬ (volF es).2 ≠ 0; rw [h3]; simp), if_neg (by rw [h2]; simp), if_neg (by show ¬ (volF es).1 ≠ (volF a.dims).1; rw [h4]; simp)]
  unfold resF
  rw [if_neg (by rw [List.length_map]; have := (resh_ok h).few; omega)]
  show (some (reshA (reshA a es) a.dims), (0 : Int)) = _
  rw [resh_twice h]
theorem resh_cells (h : Resh a es) : (reshA a es).cells.length = a.cells.length := by
  show (sortF _).length = _
  rw [sortF_length, List.length_map]
end
end Go.Proofs.YtpejdgkaapnekaaGreat
namespace Go.Proofs.YtpejdgkaapnekaaGreat
open Go Go.Abs
def atX (ats : List Attr) (name : List UInt8) : Int := idxGo (fun a : Attr => a.name == name) ats 0
end Go.Proofs.YtpejdgkaapnekaaGreat
namespace Go.Proofs.YtpejdgkaapnekaaGreat
open Go Go.Abs
theorem idxGo_none {α : Type} {p : α → Bool} : ∀ {l : List α} {j : Nat}, idxGo p l j < 0 → ∀ x ∈ l, p x = false
  | [], _, _, _, h => by simp at h
  | x :: l, j, h, y, hy => by
    simp only [idxGo] at h
    split at h
    · omega
    · rename_i h1
      rcases List.mem_cons.1 hy with rfl | hy
      · simpa using h1
      · exact idxGo_none h y hy
section
variable {src kept : List (Int × Bool)} {ds : List Dim} {rule : Int}
end
theorem valsGo_iff : ∀ {ats : List Attr} {vs : List Val}, vs.length = ats.length → (valsGo ats vs = 0 ↔ ∀ i, i < ats.length → fitsF (at_ vs i).kind (at_ vs i).num (at_ vs i).den (at_ vs i).str (at_ ats i).type = true)
  | [], [], _ => by simp [valsGo]
  | x :: ats, v :: vs, h => by
    have ih := valsGo_iff (ats := ats) (vs := vs) (by simpa using h)
    simp only [valsGo]
    constructor
    · intro h1 i hi
      split at h1
      · omega
      · rename_i h2
        cases i with
        | zero =>
          have h3 : fitsF v.kind v.num v.den v.str x.type = true := by simpa using h2
          exact h3
        | succ i => exact ih.1 h1 i (by simpa using hi)
    · intro h1
      have h0 : fitsF v.kind v.num v.den v.str x.type = true := h1 0 (by simp)
      rw [if_neg (by simp [h0])]
      exact ih.2 fun i hi => h1 (i + 1) (by simpa using hi)
  | [], _ :: _, h => by simp at h
  | _ :: _, [], h => by simp at h
theorem Attr.ext {a b : Attr} (h1 : a.name = b.name) (h2 : a.type = b.type) : a = b := by cases a; cases b; simp_all
end Go.Proofs.YtpejdgkaapnekaaGreat
namespace Go.Proofs.YtpejdgkaapnekaaGreat
open Go Go.Abs
def pickF {α : Type} [Inhabited α] (l : List α) (ks : List Int) : List α := ks.map fun k => at_ l k.toNat
def selGo (ds : List Dim) : List Int → List (List UInt8) → Option (List Int)
  | acc, [] => some acc
  | acc, n :: r => if dimX ds n < 0 then none else if acc.contains (dimX ds n) then none else selGo ds (acc ++ [dimX ds n]) r
def permC (ks : List Int) (c : Cell) : Cell := ⟨pickF c.at' ks, c.vals⟩
def transF (a : Arr) (names : List (List UInt8)) : Option Arr × Int :=
  if chkA a ≠ 0 then (none, 2)
  else if (names.length : Int) ≠ a.dims.length then (none, 13)
  else match selGo a.dims [] names with
    | none => (none, 11)
    | some ks => resF (pickF a.dims ks) a.attrs (a.cells.map (permC ks))
theorem sel_ok {ds : List Dim} : ∀ {names : List (List UInt8)} {acc ks : List Int}, selGo ds acc names = some ks → ks = acc ++ names.map (dimX ds) ∧ (∀ n ∈ names, ¬ dimX ds n < 0) ∧ (acc.Nodup → ks.Nodup)
  | [], acc, ks, h => by
    simp only [selGo, Option.some.injEq] at h
    subst h; simp
  | n :: r, acc, ks, h => by
    simp only [selGo] at h
    split at h
    · cases h
    split at h
    · cases h
    rename_i h1 h2
    obtain ⟨e1, e2, e3⟩ := sel_ok h
    refine ⟨by rw [e1]; simp, fun x hx => ?_, fun hn => e3 ?_⟩
    · rcases List.mem_cons.1 hx with rfl | hx
      · exact h1
      · exact e2 x hx
    · have h3 : dimX ds n ∉ acc := by simpa using h2
      rw [List.nodup_append]
      exact ⟨hn, by simp, fun a ha b hb => by rw [List.mem_singleton.1 hb]; rintro rfl; exact h3 ha⟩
theorem sel_mk {ds : List Dim} : ∀ {names : List (List UInt8)} {acc : List Int}, (∀ n ∈ names, ¬ dimX ds n < 0) → (acc ++ names.map (dimX ds)).Nodup → selGo ds acc names = some (acc ++ names.map (dimX ds))
  | [], acc, _, _ => by simp [selGo]
  | n :: r, acc, h1, h2 => by
    have h3 : dimX ds n ∉ acc := fun hm => by
      rw [List.nodup_append] at h2
      exact h2.2.2 _ hm _ (by simp) rfl
    rw [selGo, if_neg (h1 n List.mem_cons_self), if_neg (by simpa using h3), sel_mk (fun x hx => h1 x (List.mem_cons_of_mem _ hx)) (by simpa using h2)]
    simp
theorem len_le : ∀ {m : Nat} {l : List Nat}, l.Nodup → (∀ x ∈ l, x < m) → l.length ≤ m
  | 0, l, _, h => by
    cases l with
    | nil => simp
    | cons x r => exact absurd (h x List.mem_cons_self) (Nat.not_lt_zero _)
  | m + 1, l, hn, h => by
    by_cases hm : m ∈ l
    · have h1 := len_le (m := m) (l := l.erase m) (hn.erase m) fun x hx => by
        have h2 := (hn.mem_erase_iff).1 hx
        have := h x h2.2
        omega
      rw [List.length_erase_of_mem hm] at h1
      omega
    · have h1 := len_le (m := m) (l := l) hn fun x hx => by
        have := h x hx
        have : x ≠ m := fun e => hm (e ▸ hx)
        omega
      omega
theorem pigeon {l : List Nat} {n : Nat} (hn : l.Nodup) (hl : l.length = n) (h : ∀ x ∈ l, x < n) {i : Nat} (hi : i < n) : i ∈ l := by
  by_cases hm : i ∈ l
  · exact hm
  · have h1 := len_le (m := n) (l := i :: l) (List.nodup_cons.2 ⟨hm, hn⟩) fun x hx => by
      rcases List.mem_cons.1 hx with rfl | hx
      · exact hi
      · exact h x hx
    simp only [List.length_cons] at h1
    omega
structure Tran (a : Arr) (names : List (List UInt8)) : Prop where
  oka : OkA a.dims a.attrs a.cells
  len : names.length = a.dims.length
  all : ∀ n ∈ names, ¬ dimX a.dims n < 0
  nd : (names.map (dimX a.dims)).Nodup
def ixs (ds : List Dim) (names : List (List UInt8)) : List Int := names.map (dimX ds)
def tranA (a : Arr) (names : List (List UInt8)) : Arr := ⟨pickF a.dims (ixs a.dims names), a.attrs, sortF (a.cells.map (permC (ixs a.dims names)))⟩
theorem transF_cases (a : Arr) (names : List (List UInt8)) (hc : chkA a = 0) : (∃ e, e ≠ 0 ∧ transF a names = (none, e)) ∨ (Tran a names ∧ transF a names = (some (tranA a names), 0)) := by
  unfold transF
  rw [if_neg (by simp [hc])]
  by_cases h1 : names.length = a.dims.length
  · rw [if_neg (by simp [h1])]
    cases hs : selGo a.dims [] names with
    | none => exact .inl ⟨11, by decide, rfl⟩
    | some ks =>
      obtain ⟨e1, e2, e3⟩ := sel_ok hs
      simp only [List.nil_append] at e1
      refine .inr ⟨⟨okA hc, h1, e2, e1 ▸ e3 (by simp)⟩, ?_⟩
      subst e1
      show resF _ _ _ = _
      unfold resF
      rw [if_neg (by rw [List.length_map]; have := (okA hc).few; omega)]
      rfl
  · rw [if_pos (by omega)]
    exact .inl ⟨13, by decide, rfl⟩
theorem pick_at {α : Type} [Inhabited α] {l : List α} {ks : List Int} {i : Nat} (h : i < ks.length) : at_ (pickF l ks) i = at_ l (at_ ks i).toNat := by
  unfold pickF; rw [at_mapN h]
theorem pick_len {α : Type} [Inhabited α] {l : List α} {ks : List Int} : (pickF l ks).length = ks.length := by simp [pickF]
theorem dimX_one {ds : List Dim} (hn : (ds.map Dim.name).Nodup) {j : Nat} (hj : j < ds.length) {n : List UInt8} (h : (at_ ds j).name = n) : dimX ds n = (j : Int) := by
  have h0 : ¬ dimX ds n < 0 := fun hx => by
    have := idxGo_none hx _ (at_mem hj)
    simp [h] at this
  obtain ⟨k, h1, h2, h3, _⟩ := dimX_at h0
  have := names_nd hn h2 hj (h3.trans h.symm)
  rw [h1, this]
section
variable {a : Arr} {names : List (List UInt8)}
theorem Tran.ix (h : Tran a names) {i : Nat} (hi : i < names.length) : ∃ k : Nat, at_ (ixs a.dims names) i = (k : Int) ∧ k < a.dims.length ∧ (at_ a.dims k).name = at_ names i := by
  obtain ⟨k, h1, h2, h3, _⟩ := dimX_at (h.all _ (at_mem hi))
  exact ⟨k, by unfold ixs; rw [at_mapN hi, h1], h2, h3⟩
theorem ix_len : (ixs a.dims names).length = names.length := by simp [ixs]
theorem Tran.nms (h : Tran a names) : (tranA a names).dims.map Dim.name = names := by
  refine at_ext (by simp [tranA, pickF, ixs]) fun i hi => ?_
  have hi' : i < names.length := by simpa [tranA, pickF, ixs] using hi
  obtain ⟨k, h1, h2, h3⟩ := h.ix hi'
  rw [at_mapN (by show i < (pickF _ _).length; rw [pick_len, ix_len]; exact hi')]
  show (at_ (pickF a.dims (ixs a.dims names)) i).name = _
  rw [pick_at (by rw [ix_len]; exact hi'), h1]
  exact h3
theorem Tran.namesNd (h : Tran a names) : names.Nodup := by
  have := h.nd
  rw [List.Nodup, List.pairwise_map] at this
  exact this.imp fun hne e => hne (by rw [e])
theorem Tran.onto (h : Tran a names) {i : Nat} (hi : i < a.dims.length) : ∃ j, j < names.length ∧ at_ (ixs a.dims names) j = (i : Int) := by
  have hlt : ∀ x ∈ (ixs a.dims names).map Int.toNat, x < a.dims.length := fun x hx => by
    obtain ⟨y, hy, rfl⟩ := List.mem_map.1 hx
    obtain ⟨j, hj, rfl⟩ := at_ofmem hy
    rw [ix_len] at hj
    obtain ⟨k, h1, h2, _⟩ := h.ix hj
    rw [h1]; simpa using h2
  have hnd : ((ixs a.dims names).map Int.toNat).Nodup := by
    rw [List.Nodup, List.pairwise_map]
    refine List.Pairwise.imp_of_mem ?_ h.nd
    intro x y hx hy hne e
    apply hne
    obtain ⟨j, hj, rfl⟩ := at_ofmem (l := ixs a.dims names) hx
    obtain ⟨j', hj', rfl⟩ := at_ofmem (l := ixs a.dims names) hy
    rw [ix_len] at hj hj'
    obtain ⟨k, h1, _⟩ := h.ix hj
    obtain ⟨k', h1', _⟩ := h.ix hj'
    rw [h1, h1'] at e ⊢
    have e' : k = k' := by simpa using e
    rw [e']
  have := pigeon hnd (by rw [List.length_map, ix_len]; exact h.len) hlt hi
  obtain ⟨y, hy, e⟩ := List.mem_map.1 this
  obtain ⟨j, hj, rfl⟩ := at_ofmem hy
  rw [ix_len] at hj
  obtain ⟨k, h1, _⟩ := h.ix hj
  exact ⟨j, hj, by rw [h1] at e ⊢; simp at e; rw [e]⟩
theorem Tran.cell (h : Tran a names) {c : Cell} (hc : c ∈ a.cells) : c.at'.length = a.dims.length := (cellF_ok.1 (h.oka.cel c hc)).1
theorem attrsGo_congr : ∀ {ats : List Attr} {m m' : List (List UInt8)}, (∀ x, x ∈ m ↔ x ∈ m') → attrsGo m ats = attrsGo m' ats
  | [], _, _, _ => rfl
  | x :: r, m, m', h => by
    have e : m.contains x.name = m'.contains x.name := by
      rw [Bool.eq_iff_iff]; simp [h]
    simp only [attrsGo, e]
    rw [attrsGo_congr (m := m ++ [x.name]) (m' := m' ++ [x.name]) fun y => by simp [h]]
theorem Tran.old (h : Tran a names) {i : Nat} (hi : i < a.dims.length) : ∃ j : Nat, j < names.length ∧ dimX (tranA a names).dims (at_ a.dims i).name = (j : Int) ∧ at_ (ixs a.dims names) j = (i : Int) := by
  obtain ⟨j, hj, he⟩ := h.onto hi
  refine ⟨j, hj, dimX_one (by rw [h.nms]; exact h.namesNd) (by show j < (pickF _ _).length; rw [pick_len, ix_len]; exact hj) ?_, he⟩
  show (at_ (pickF a.dims (ixs a.dims names)) j).name = _
  rw [pick_at (by rw [ix_len]; exact hj), he]
  rfl
theorem Tran.ixold (h : Tran a names) {i : Nat} (hi : i < a.dims.length) : ∃ j : Nat, j < names.length ∧ at_ (ixs (tranA a names).dims (a.dims.map Dim.name)) i = (j : Int) ∧ at_ (ixs a.dims names) j = (i : Int) := by
  obtain ⟨j, h1, h2, h3⟩ := h.old hi
  refine ⟨j, h1, ?_, h3⟩
  unfold ixs
  rw [at_mapN (by simpa using hi), at_mapN hi]
  exact h2
theorem perm_back (h : Tran a names) {α : Type} [Inhabited α] {l : List α} (hl : l.length = a.dims.length) : pickF (pickF l (ixs a.dims names)) (ixs (tranA a names).dims (a.dims.map Dim.name)) = l := by
  refine at_ext (by rw [pick_len]; simp [ixs, hl]) fun i hi => ?_
  have hi' : i < a.dims.length := by simpa [pick_len, ixs] using hi
  obtain ⟨j, h1, h2, h3⟩ := h.ixold hi'
  rw [pick_at (by simp [ixs]; exact hi'), h2]
  show at_ (pickF l (ixs a.dims names)) j = _
  rw [pick_at (by rw [ix_len]; exact h1), h3]
  rfl
theorem permC_back (h : Tran a names) {c : Cell} (hc : c ∈ a.cells) : permC (ixs (tranA a names).dims (a.dims.map Dim.name)) (permC (ixs a.dims names) c) = c := by
  show Cell.mk (pickF (pickF c.at' _) _) c.vals = c
  rw [perm_back h (h.cell hc)]
theorem tran_diff (h : Tran a names) : (a.cells.map (permC (ixs a.dims names))).Pairwise diffC := by
  rw [List.pairwise_map]
  refine List.Pairwise.imp_of_mem ?_ (diff_of_sorted h.oka.srt)
  intro x y hx hy hd e
  apply hd
  have e1 := perm_back h (h.cell hx)
  have e2 := perm_back h (h.cell hy)
  have e' : pickF x.at' (ixs a.dims names) = pickF y.at' (ixs a.dims names) := e
  rw [e', e2] at e1
  exact e1.symm
theorem tran_ok (h : Tran a names) : OkA (tranA a names).dims (tranA a names).attrs (tranA a names).cells := by
  obtain ⟨a1, a2, a3, a4⟩ := h.oka.dims
  have hs := schemaF_ok h.oka.sch
  have hl : (tranA a names).dims.length = a.dims.length := by show (pickF _ _).length = _; rw [pick_len, ix_len, h.len]
  have hdim : ∀ i, i < a.dims.length → ∃ k : Nat, k < a.dims.length ∧ at_ (ixs a.dims names) i = (k : Int) ∧ at_ (tranA a names).dims i = at_ a.dims k := fun i hi => by
    obtain ⟨k, h1, h2, _⟩ := h.ix (i := i) (by rw [h.len]; exact hi)
    refine ⟨k, h2, h1, ?_⟩
    show at_ (pickF _ _) i = _
    rw [pick_at (by rw [ix_len, h.len]; exact hi), h1]; rfl
  refine ⟨?_, by show (sortF _).length ≤ _; rw [sortF_length, List.length_map]; exact h.oka.few, sortF_sorted (tran_diff h), fun x hx => ?_⟩
  · refine schemaF_mk (by rw [hl]; exact a1) (by rw [hl]; exact a2) (fun d hd => ?_) (by rw [h.nms]; exact h.namesNd) hs.2.1 hs.2.2.1 ?_
    · obtain ⟨i, hi, rfl⟩ := at_ofmem hd
      rw [hl] at hi
      obtain ⟨k, hk, _, e⟩ := hdim i hi
      rw [e]
      exact ⟨boundsF_ok.2 (a3 k hk).1, (a3 k hk).2⟩
    · rw [h.nms]
      refine (attrsGo_congr fun x => ?_).trans hs.2.2.2
      constructor
      · intro hx
        obtain ⟨i, hi, rfl⟩ := at_ofmem hx
        obtain ⟨k, _, h2, h3⟩ := h.ix hi
        exact List.mem_map.2 ⟨_, at_mem h2, h3⟩
      · intro hx
        obtain ⟨d, hd, rfl⟩ := List.mem_map.1 hx
        obtain ⟨i, hi, rfl⟩ := at_ofmem hd
        obtain ⟨j, hj, he⟩ := h.onto hi
        obtain ⟨k, h1, _, h3⟩ := h.ix hj
        rw [he] at h1
        have : i = k := by omega
        subst this
        rw [h3]; exact at_mem hj
  · obtain ⟨c, hc, rfl⟩ := List.mem_map.1 ((sortF_perm _).mem_iff.1 hx)
    obtain ⟨h1, h2, h3, h4⟩ := cellF_ok.1 (h.oka.cel c hc)
    have hcl : (permC (ixs a.dims names) c).at'.length = (tranA a names).dims.length := by show (pickF _ _).length = _; rw [pick_len, ix_len, h.len, hl]
    refine cellF_ok.2 ⟨hcl, h2, ?_, h4⟩
    rw [withinL_iff h1] at h3
    rw [withinL_iff hcl]
    intro i hi
    rw [hl] at hi
    obtain ⟨k, hk, e1, e2⟩ := hdim i hi
    rw [e2]
    show _ ≤ at_ (pickF c.at' _) i ∧ at_ (pickF c.at' _) i ≤ _
    rw [pick_at (by rw [ix_len, h.len]; exact hi), e1]
    exact h3 k hk
theorem tran_two (h : Tran a names) : Tran (tranA a names) (a.dims.map Dim.name) := by
  have hl : (tranA a names).dims.length = a.dims.length := by show (pickF _ _).length = _; rw [pick_len, ix_len, h.len]
  refine ⟨tran_ok h, by rw [hl, List.length_map], fun n hn => ?_, ?_⟩
  · obtain ⟨d, hd, rfl⟩ := List.mem_map.1 hn
    obtain ⟨i, hi, rfl⟩ := at_ofmem hd
    obtain ⟨j, _, h2, _⟩ := h.old hi
    omega
  · rw [List.Nodup, List.pairwise_map]
    refine List.Pairwise.imp_of_mem ?_ h.oka.dims.2.2.2
    intro x y hx hy hne e
    apply hne
    obtain ⟨d, hd, rfl⟩ := List.mem_map.1 hx
    obtain ⟨i, hi, rfl⟩ := at_ofmem hd
    obtain ⟨d', hd', rfl⟩ := List.mem_map.1 hy
    obtain ⟨i', hi', rfl⟩ := at_ofmem hd'
    obtain ⟨j, _, h2, h3⟩ := h.old hi
    obtain ⟨j', _, h2', h3'⟩ := h.old hi'
    have : j = j' := by omega
    subst this
    have : i = i' := by omega
    rw [this]
theorem tran_twice (h : Tran a names) : tranA (tranA a names) (a.dims.map Dim.name) = a := by
  refine Arr.ext (perm_back h rfl) rfl (sorted_mem_eq (sortF_sorted (tran_diff (tran_two h))) h.oka.srt fun x => ?_)
  show x ∈ sortF ((sortF _).map _) ↔ _
  rw [(sortF_perm _).mem_iff]
  constructor
  · intro hx
    obtain ⟨y, hy, rfl⟩ := List.mem_map.1 hx
    obtain ⟨c, hc, rfl⟩ := List.mem_map.1 ((sortF_perm _).mem_iff.1 hy)
    rw [permC_back h hc]; exact hc
  · intro hx
    exact List.mem_map.2 ⟨permC (ixs a.dims names) x, (sortF_perm _).mem_iff.2 (List.mem_map.2 ⟨x, hx, rfl⟩), permC_back h hx⟩
theorem transF_mk (h : Tran a names) : transF a names = (some (tranA a names), 0) := by
  rcases transF_cases a names (okA_check h.oka) with ⟨e, he, h2⟩ | ⟨_, h2⟩
  · unfold transF at h2
    rw [if_neg (by unfold chkA; rw [okA_check h.oka]; simp), if_neg (by have := h.len; omega), sel_mk (acc := []) h.all (by simpa using h.nd)] at h2
    simp only [resF] at h2
    rw [if_neg (by rw [List.length_map]; have := h.oka.few; omega)] at h2
    simp at h2
  · exact h2
theorem trans_back (h : Tran a names) : transF (tranA a names) (a.dims.map Dim.name) = (some a, 0) := by
  rw [transF_mk (tran_two h), tran_twice h]
end
end Go.Proofs.YtpejdgkaapnekaaGreat
namespace Go.Proofs.YtpejdgkaapnekaaGreat
open Go Go.Abs
def hasN (a : Arr) (n : List UInt8) : Bool := decide (0 ≤ dimX a.dims n) || decide (0 ≤ atX a.attrs n)
def renA (a : Arr) (n m : List UInt8) : Arr :=
  if 0 ≤ dimX a.dims n then ⟨a.dims.set (dimX a.dims n).toNat ⟨m, (at_ a.dims (dimX a.dims n).toNat).lo, (at_ a.dims (dimX a.dims n).toNat).hi⟩, a.attrs, a.cells⟩
  else ⟨a.dims, a.attrs.set (atX a.attrs n).toNat ⟨m, (at_ a.attrs (atX a.attrs n).toNat).type⟩, a.cells⟩
def renF (a : Arr) (n m : List UInt8) : Option Arr × Int :=
  if chkA a ≠ 0 then (none, 2)
  else if !hasN a n || !nameF m || (!(m == n) && hasN a m) then (none, 11)
  else (some (renA a n m), 0)
theorem nodup_at {α : Type} [Inhabited α] {l : List α} : l.Nodup ↔ ∀ i j, i < l.length → j < l.length → at_ l i = at_ l j → i = j := by
  constructor
  · intro h i j hi hj he
    have e1 := at_get hi
    rw [he, ← at_get hj] at e1
    exact (List.getElem?_inj hi h).1 e1
  · intro h
    rw [List.Nodup, List.pairwise_iff_getElem]
    intro i j hi hj hij e
    have := h i j hi hj (by
      have e1 := at_get hi
      have e2 := at_get hj
      rw [List.getElem?_eq_getElem hi] at e1
      rw [List.getElem?_eq_getElem hj] at e2
      rw [← Option.some.inj e1, ← Option.some.inj e2, e])
    omega
theorem nodup_set {α : Type} [Inhabited α] {l : List α} {k : Nat} {x : α} (h : l.Nodup) (hx : ∀ j, j < l.length → j ≠ k → at_ l j ≠ x) : (l.set k x).Nodup := by
  rw [nodup_at] at h ⊢
  intro i j hi hj he
  simp only [List.length_set] at hi hj
  rw [at_set hi, at_set hj] at he
  by_cases h1 : i = k <;> by_cases h2 : j = k
  · omega
  · rw [if_pos h1, if_neg h2] at he; exact absurd he.symm (hx j hj h2)
  · rw [if_neg h1, if_pos h2] at he; exact absurd he (hx i hi h1)
  · rw [if_neg h1, if_neg h2] at he; exact h i j hi hj he
theorem attrsGo_iff : ∀ {ats : List Attr} {met : List (List UInt8)}, attrsGo met ats = 0 ↔ (∀ x ∈ ats, nameF x.name = true ∧ x.name ∉ met ∧ 1 ≤ x.type ∧ x.type ≤ 4) ∧ (ats.map Attr.name).Nodup
  | [], met => by simp [attrsGo]
  | x :: r, met => by
    have ih := attrsGo_iff (ats := r) (met := met ++ [x.name])
    simp only [attrsGo]
    constructor
    · intro h
      split at h
      · omega
      split at h
      · omega
      rename_i h1 h2
      obtain ⟨i1, i2⟩ := ih.1 h
      simp only [Bool.or_eq_true, Bool.not_eq_true', not_or, Bool.not_eq_false, Bool.not_eq_true, List.contains_eq_mem, decide_eq_true_eq, decide_eq_false_iff_not] at h1
      refine ⟨fun y hy => ?_, ?_⟩
      · rcases List.mem_cons.1 hy with rfl | hy
        · exact ⟨h1.1, h1.2, by omega, by omega⟩
        · obtain ⟨j1, j2, j3, j4⟩ := i1 y hy
          exact ⟨j1, fun hm => j2 (List.mem_append.2 (.inl hm)), j3, j4⟩
      · rw [List.map_cons, List.nodup_cons]
        refine ⟨fun hm => ?_, i2⟩
        obtain ⟨y, hy, he⟩ := List.mem_map.1 hm
        exact (i1 y hy).2.1 (by rw [he]; simp)
    · rintro ⟨h1, h2⟩
      rw [List.map_cons, List.nodup_cons] at h2
      obtain ⟨j1, j2, j3, j4⟩ := h1 x List.mem_cons_self
      rw [if_neg (by simp [j1, j2]), if_neg (by omega)]
      refine ih.2 ⟨fun y hy => ?_, h2.2⟩
      obtain ⟨k1, k2, k3, k4⟩ := h1 y (List.mem_cons_of_mem _ hy)
      refine ⟨k1, fun hm => ?_, k3, k4⟩
      rcases List.mem_append.1 hm with hm | hm
      · exact k2 hm
      · exact h2.1 (List.mem_map.2 ⟨y, hy, List.mem_singleton.1 hm⟩)
theorem atX_at {ats : List Attr} {n : List UInt8} (h : ¬ atX ats n < 0) : ∃ k : Nat, atX ats n = (k : Int) ∧ k < ats.length ∧ (at_ ats k).name = n := by
  obtain ⟨k, h1, h2, h3, _⟩ := idxGo_at h
  exact ⟨k, by unfold atX; rw [h1]; simp, h2, by simpa using h3⟩
theorem dimX_mem {ds : List Dim} {n : List UInt8} : 0 ≤ dimX ds n ↔ n ∈ ds.map Dim.name := by
  constructor
  · intro h
    obtain ⟨k, _, h2, h3, _⟩ := dimX_at (ds := ds) (name := n) (by omega)
    exact List.mem_map.2 ⟨_, at_mem h2, h3⟩
  · intro h
    obtain ⟨d, hd, rfl⟩ := List.mem_map.1 h
    by_cases h0 : dimX ds d.name < 0
    · have := idxGo_none h0 d hd
      simp at this
    · omega
theorem atX_mem {ats : List Attr} {n : List UInt8} : 0 ≤ atX ats n ↔ n ∈ ats.map Attr.name := by
  constructor
  · intro h
    obtain ⟨k, _, h2, h3⟩ := atX_at (ats := ats) (n := n) (by omega)
    exact List.mem_map.2 ⟨_, at_mem h2, h3⟩
  · intro h
    obtain ⟨d, hd, rfl⟩ := List.mem_map.1 h
    by_cases h0 : atX ats d.name < 0
    · have := idxGo_none h0 d hd
      simp at this
    · omega
theorem hasN_iff {a : Arr} {n : List UInt8} : hasN a n = true ↔ n ∈ a.dims.map Dim.name ∨ n ∈ a.attrs.map Attr.name := by
  simp only [hasN, Bool.or_eq_true, decide_eq_true_eq, dimX_mem, atX_mem]
structure Ren (a : Arr) (n m : List UInt8) : Prop where
  oka : OkA a.dims a.attrs a.cells
  has : n ∈ a.dims.map Dim.name ∨ n ∈ a.attrs.map Attr.name
  nm : nameF m = true
  new : m = n ∨ (m ∉ a.dims.map Dim.name ∧ m ∉ a.attrs.map Attr.name)
theorem renF_cases (a : Arr) (n m : List UInt8) (hc : chkA a = 0) : (∃ e, e ≠ 0 ∧ renF a n m = (none, e)) ∨ (Ren a n m ∧ renF a n m = (some (renA a n m), 0)) := by
  unfold renF
  rw [if_neg (by simp [hc])]
  by_cases h : (!hasN a n || !nameF m || (!(m == n) && hasN a m)) = true
  · rw [if_pos h]; exact .inl ⟨11, by decide, rfl⟩
  · rw [if_neg h]
    simp only [Bool.or_eq_true, Bool.not_eq_true', Bool.and_eq_true, not_or, Bool.not_eq_false, beq_eq_false_iff_ne, ne_eq, not_and] at h
    refine .inr ⟨⟨okA hc, hasN_iff.1 h.1.1, h.1.2, ?_⟩, rfl⟩
    by_cases e : m = n
    · exact .inl e
    · have := h.2 e
      rw [hasN_iff] at this
      exact .inr ⟨fun h => this (.inl h), fun h => this (.inr h)⟩
section
variable {a : Arr} {n m : List UInt8}
theorem Ren.nd (h : Ren a n m) : (a.dims.map Dim.name).Nodup ∧ (a.attrs.map Attr.name).Nodup ∧ ∀ x, x ∈ a.attrs.map Attr.name → x ∉ a.dims.map Dim.name := by
  have hs := attrsGo_iff.1 (schemaF_ok h.oka.sch).2.2.2
  refine ⟨h.oka.dims.2.2.2, hs.2, fun x hx hd => ?_⟩
  obtain ⟨t, ht, rfl⟩ := List.mem_map.1 hx
  exact (hs.1 t ht).2.1 hd
theorem Ren.which (h : Ren a n m) : (∃ k : Nat, dimX a.dims n = (k : Int) ∧ k < a.dims.length ∧ (at_ a.dims k).name = n ∧ renA a n m = ⟨a.dims.set k ⟨m, (at_ a.dims k).lo, (at_ a.dims k).hi⟩, a.attrs, a.cells⟩) ∨
    (n ∉ a.dims.map Dim.name ∧ ∃ k : Nat, atX a.attrs n = (k : Int) ∧ k < a.attrs.length ∧ (at_ a.attrs k).name = n ∧ renA a n m = ⟨a.dims, a.attrs.set k ⟨m, (at_ a.attrs k).type⟩, a.cells⟩) := by
  by_cases h0 : 0 ≤ dimX a.dims n
  · obtain ⟨k, h1, h2, h3, _⟩ := dimX_at (ds := a.dims) (name := n) (by omega)
    refine .inl ⟨k, h1, h2, h3, ?_⟩
    unfold renA
    rw [if_pos h0, h1]
    rfl
  · have hd : n ∉ a.dims.map Dim.name := fun hh => h0 (dimX_mem.2 hh)
    have ha := h.has.resolve_left hd
    have h4 := atX_mem.2 ha
    obtain ⟨k, h1, h2, h3⟩ := atX_at (ats := a.attrs) (n := n) (by omega)
    refine .inr ⟨hd, k, h1, h2, h3, ?_⟩
    unfold renA
    rw [if_neg h0, h1]
    rfl
theorem at_other {α : Type} [Inhabited α] {l : List α} (h : l.Nodup) {k : Nat} (hk : k < l.length) {j : Nat} (hj : j < l.length) (hn : j ≠ k) {x : α} (hx : x = at_ l k ∨ x ∉ l) : at_ l j ≠ x := by
  rcases hx with rfl | hx
  · exact fun e => hn (nodup_at.1 h j k hj hk e)
  · exact fun e => hx (e ▸ at_mem hj)
theorem cells_dims {ds : List Dim} {ats : List Attr} {es : List Dim} {bs : List Attr} (hd : es.length = ds.length) (hl : ∀ i, i < ds.length → (at_ es i).lo = (at_ ds i).lo ∧ (at_ es i).hi = (at_ ds i).hi) (ha : bs.length = ats.length) (ht : ∀ i, i < ats.length → (at_ bs i).type = (at_ ats i).type)
    {c : Cell} (hc : cellF ds ats c.at' c.vals = 0) : cellF es bs c.at' c.vals = 0 := by
  obtain ⟨h1, h2, h3, h4⟩ := cellF_ok.1 hc
  refine cellF_ok.2 ⟨by omega, by omega, ?_, ?_⟩
  · rw [withinL_iff h1] at h3
    rw [withinL_iff (by omega)]
    intro i hi
    rw [(hl i (by omega)).1, (hl i (by omega)).2]
    exact h3 i (by omega)
  · rw [valsGo_iff h2] at h4
    rw [valsGo_iff (by omega)]
    intro i hi
    rw [ht i (by omega)]
    exact h4 i (by omega)
theorem ren_ok (h : Ren a n m) : OkA (renA a n m).dims (renA a n m).attrs (renA a n m).cells := by
  obtain ⟨a1, a2, a3, a4⟩ := h.oka.dims
  obtain ⟨_, s2, s3, s4⟩ := schemaF_ok h.oka.sch
  have hs := attrsGo_iff.1 s4
  obtain ⟨n1, n2, n3⟩ := h.nd
  rcases h.which with ⟨k, _, hk, hn, e⟩ | ⟨hnd, k, _, hk, hn, e⟩
  · rw [e]
    have hm : (a.dims.set k ⟨m, (at_ a.dims k).lo, (at_ a.dims k).hi⟩).map Dim.name = (a.dims.map Dim.name).set k m := by rw [List.map_set]
    have hnew : m = at_ (a.dims.map Dim.name) k ∨ m ∉ a.dims.map Dim.name := by
      rw [at_mapN hk, hn]
      exact h.new.imp id fun h => h.1
    refine ⟨schemaF_mk (by simpa using a1) (by simpa using a2) (fun d hd => ?_) ?_ s2 s3 ?_, h.oka.few, h.oka.srt, fun c hc => ?_⟩
    · obtain ⟨i, hi, rfl⟩ := at_ofmem hd
      have hi' : i < a.dims.length := by simpa using hi
      rw [at_set hi']
      by_cases e1 : i = k
      · subst e1
        rw [if_pos rfl]
        exact ⟨boundsF_ok.2 (a3 i hi').1, h.nm⟩
      · rw [if_neg e1]
        exact ⟨boundsF_ok.2 (a3 i hi').1, (a3 i hi').2⟩
    · show (List.map _ _).Nodup
      rw [hm]
      exact nodup_set n1 fun j hj hne => at_other n1 (by simpa using hk) hj hne hnew
    · show attrsGo (List.map _ _) _ = 0
      rw [hm, attrsGo_iff]
      refine ⟨fun x hx => ⟨(hs.1 x hx).1, fun hx' => ?_, (hs.1 x hx).2.2⟩, hs.2⟩
      rcases List.mem_or_eq_of_mem_set hx' with hx' | e1
      · exact (hs.1 x hx).2.1 hx'
      · have hxm : m ∈ a.attrs.map Attr.name := List.mem_map.2 ⟨x, hx, e1⟩
        rcases h.new with e2 | ⟨_, h2⟩
        · rw [e2] at hxm
          exact n3 _ hxm (by rw [← hn]; exact List.mem_map.2 ⟨_, at_mem hk, rfl⟩)
        · exact h2 hxm
    · refine cells_dims (by simp) (fun i hi => ?_) rfl (fun i _ => rfl) (h.oka.cel c hc)
      show (at_ (a.dims.set k _) i).lo = _ ∧ (at_ (a.dims.set k _) i).hi = _
      rw [at_set hi]
      by_cases e1 : i = k
      · subst e1; rw [if_pos rfl]; exact ⟨rfl, rfl⟩
      · rw [if_neg e1]; exact ⟨rfl, rfl⟩
  · rw [e]
    have hm : (a.attrs.set k ⟨m, (at_ a.attrs k).type⟩).map Attr.name = (a.attrs.map Attr.name).set k m := by rw [List.map_set]
    have hnew : m = at_ (a.attrs.map Attr.name) k ∨ m ∉ a.attrs.map Attr.name := by
      rw [at_mapN hk, hn]
      exact h.new.imp id fun h => h.2
    refine ⟨schemaF_mk a1 a2 (fun d hd => ?_) a4 (by simpa using s2) (by simpa using s3) ?_, h.oka.few, h.oka.srt, fun c hc => ?_⟩
    · obtain ⟨i, hi, rfl⟩ := at_ofmem hd
      exact ⟨boundsF_ok.2 (a3 i hi).1, (a3 i hi).2⟩
    · show attrsGo _ (List.set _ _ _) = 0
      rw [attrsGo_iff]
      refine ⟨fun x hx => ?_, by rw [hm]; exact nodup_set n2 fun j hj hne => at_other n2 (by simpa using hk) hj hne hnew⟩
      rcases List.mem_or_eq_of_mem_set hx with hx | e1
      · exact hs.1 x hx
      · subst e1
        refine ⟨h.nm, ?_, (hs.1 _ (at_mem hk)).2.2⟩
        rcases h.new with e2 | ⟨h2, _⟩
        · show m ∉ _; rw [e2]; exact hnd
        · exact h2
    · refine cells_dims rfl (fun i _ => ⟨rfl, rfl⟩) (by simp) (fun i hi => ?_) (h.oka.cel c hc)
      show (at_ (a.attrs.set k _) i).type = _
      rw [at_set hi]
      by_cases e1 : i = k
      · subst e1; rw [if_pos rfl]
      · rw [if_neg e1]
theorem atX_one {ats : List Attr} (hn : (ats.map Attr.name).Nodup) {j : Nat} (hj : j < ats.length) {n : List UInt8} (h : (at_ ats j).name = n) : atX ats n = (j : Int) := by
  have h0 : 0 ≤ atX ats n := atX_mem.2 (List.mem_map.2 ⟨_, at_mem hj, h⟩)
  obtain ⟨k, h1, h2, h3⟩ := atX_at (ats := ats) (n := n) (by omega)
  have := nodup_at.1 hn k j (by simpa using h2) (by simpa using hj) (by rw [at_mapN h2, at_mapN hj, h3, h])
  rw [h1, this]
theorem set_back {α : Type} [Inhabited α] {l : List α} {k : Nat} {x y : α} (hk : k < l.length) (hy : y = at_ l k) : (l.set k x).set k y = l := by
  rw [List.set_set]
  refine at_ext (by simp) fun i hi => ?_
  have hi' : i < l.length := by simpa using hi
  rw [at_set hi', hy]
  by_cases e : i = k
  · subst e; rw [if_pos rfl]
  · rw [if_neg e]
theorem ren_back (h : Ren a n m) : renF (renA a n m) m n = (some a, 0) := by
  have hok := ren_ok h
  obtain ⟨n1, n2, n3⟩ := h.nd
  have hx := hok.dims.2.2.2
  have hxa := (attrsGo_iff.1 (schemaF_ok hok.sch).2.2.2).2
  have hnn : nameF n = true := by
    rcases h.has with hh | hh
    · obtain ⟨d, hd, rfl⟩ := List.mem_map.1 hh
      obtain ⟨i, hi, rfl⟩ := at_ofmem hd
      exact (h.oka.dims.2.2.1 i hi).2
    · obtain ⟨d, hd, rfl⟩ := List.mem_map.1 hh
      exact ((attrsGo_iff.1 (schemaF_ok h.oka.sch).2.2.2).1 d hd).1
  have key : (hasN (renA a n m) m = true ∧ (n = m ∨ hasN (renA a n m) n = false)) ∧ renA (renA a n m) m n = a := by
    rcases h.which with ⟨k, hX, hk, hn, e⟩ | ⟨hnd, k, hX, hk, hn, e⟩
    · have hmk : dimX (renA a n m).dims m = (k : Int) := by
        refine dimX_one hx (by rw [e]; simpa using hk) ?_
        rw [e]
        show (at_ (a.dims.set k _) k).name = m
        rw [at_set hk, if_pos rfl]
      refine ⟨⟨?_, ?_⟩, ?_⟩
      · unfold hasN; rw [hmk]; simp
      · by_cases enm : n = m
        · exact .inl enm
        · refine .inr ?_
          rw [Bool.eq_false_iff]
          intro hh
          rw [hasN_iff, e] at hh
          rcases hh with hh | hh
          · have hh' : n ∈ (a.dims.map Dim.name).set k m := by
              have : n ∈ (a.dims.set k ⟨m, (at_ a.dims k).lo, (at_ a.dims k).hi⟩).map Dim.name := hh
              rwa [List.map_set] at this
            obtain ⟨j, hj, hje⟩ := at_ofmem hh'
            simp only [List.length_set] at hj
            rw [at_set hj] at hje
            by_cases e1 : j = k
            · rw [if_pos e1] at hje; exact enm hje.symm
            · rw [if_neg e1] at hje
              exact at_other n1 (by simpa using hk) hj e1 (.inl rfl) (hje.trans (by rw [at_mapN hk, hn]))
          · have : n ∈ a.attrs.map Attr.name := hh
            exact n3 _ this (by rw [← hn]; exact List.mem_map.2 ⟨_, at_mem hk, rfl⟩)
      · rw [e] at hmk ⊢
        have hmk' : dimX (a.dims.set k ⟨m, (at_ a.dims k).lo, (at_ a.dims k).hi⟩) m = (k : Int) := hmk
        unfold renA
        dsimp only
        rw [if_pos (by rw [hmk']; omega), hmk']
        simp only [Int.toNat_natCast]
        refine Arr.ext ?_ rfl rfl
        show (a.dims.set k _).set k _ = _
        refine set_back hk (Dim.ext hn.symm ?_ ?_)
        · show (at_ (a.dims.set k _) k).lo = _
          rw [at_set hk, if_pos rfl]
        · show (at_ (a.dims.set k _) k).hi = _
          rw [at_set hk, if_pos rfl]
    · have hmd : ¬ 0 ≤ dimX (renA a n m).dims m := fun hh => by
        have := dimX_mem.1 hh
        rw [e] at this
        rcases h.new with e2 | ⟨h2, _⟩
        · rw [e2] at this; exact hnd this
        · exact h2 this
      have hmk : atX (renA a n m).attrs m = (k : Int) := by
        refine atX_one hxa (by rw [e]; simpa using hk) ?_
        rw [e]
        show (at_ (a.attrs.set k _) k).name = m
        rw [at_set hk, if_pos rfl]
      refine ⟨⟨?_, ?_⟩, ?_⟩
      · unfold hasN; rw [hmk]; simp
      · by_cases enm : n = m
        · exact .inl enm
        · refine .inr ?_
          rw [Bool.eq_false_iff]
          intro hh
          rw [hasN_iff, e] at hh
          rcases hh with hh | hh
          · exact hnd hh
          · have hh' : n ∈ (a.attrs.map Attr.name).set k m := by
              have : n ∈ (a.attrs.set k ⟨m, (at_ a.attrs k).type⟩).map Attr.name := hh
              rwa [List.map_set] at this
            obtain ⟨j, hj, hje⟩ := at_ofmem hh'
            simp only [List.length_set] at hj
            rw [at_set hj] at hje
            by_cases e1 : j = k
            · rw [if_pos e1] at hje; exact enm hje.symm
            · rw [if_neg e1] at hje
              exact at_other n2 (by simpa using hk) hj e1 (.inl rfl) (hje.trans (by rw [at_mapN hk, hn]))
      · rw [e] at hmk hmd ⊢
        have hmk' : atX (a.attrs.set k ⟨m, (at_ a.attrs k).type⟩) m = (k : Int) := hmk
        have hmd' : ¬ 0 ≤ dimX a.dims m := hmd
        unfold renA
        dsimp only
        rw [if_neg hmd', hmk']
        simp only [Int.toNat_natCast]
        refine Arr.ext rfl ?_ rfl
        show (a.attrs.set k _).set k _ = _
        refine set_back hk (Attr.ext hn.symm ?_)
        show (at_ (a.attrs.set k _) k).type = _
        rw [at_set hk, if_pos rfl]
  obtain ⟨⟨k1, k2⟩, k3⟩ := key
  unfold renF
  rw [if_neg (by unfold chkA; rw [okA_check hok]; simp), if_neg, k3]
  simp only [k1, hnn, Bool.not_true, Bool.false_or, Bool.and_eq_true, Bool.not_eq_true', beq_eq_false_iff_ne, ne_eq, not_and, Bool.not_eq_true]
  intro hne
  rcases k2 with k2 | k2
  · exact absurd k2 hne
  · exact k2
end
end Go.Proofs.YtpejdgkaapnekaaGreat
namespace Go.Abs
open Go
variable {P : Program} {V : Env} {st : St} {o : Oper}
theorem step3_idxOwn {t e : TypeId} {x y : Operand} {id m k k' b b' : Nat} {ik : IntKind} {i : Int} {xs : List (List D)} {z : List D} (ho : o.op = .indexAddr t x y) (ht : sliceTy V.T t = some (e, k', b', z)) (hx : ev st x = some (.one (.own id m)))
    (hl : look st.sto id = some (.row k b xs)) (hk : Nat.beq k k' = true) (hy : ev st y = some (.one (.d (.int ik i)))) (h0 : 0 ≤ i) (hm : i < (m : Int)) : step3 V st o 0 = some ⟨.one (.rref id i.toNat 0), [], []⟩ := by
  simp only [step3, stepE, valF, ho, otherE, idxV, hx, hy, ht, hl, hk, h0, hm, decide_true, Bool.and_self, cond_true]
theorem step3_storeRow {t : TypeId} {x y : Operand} {id j off k b s : Nat} {g : Bool} {xs : List (List D)} {el el' ds : List D} {cs : List AC} {v : AV} (ho : o.op = .store t x y) (hd : o.dst = none) (hx : ev st x = some (.one (.rref id j off))) (hy : ev st y = some v) (hT : tySz V.T t = some (g, s))
    (hl : look st.sto id = some (.row k b xs)) (hc : cellsOf v = some cs) (hs : Nat.beq cs.length s = true) (ha : allD cs = some ds) (hj : xs[j]? = some el) (hsp : splice off ds el = some el') : step3 V st o 0 = some ⟨.any, [(id, some (.row k b (xs.set j el')))], []⟩ := by
  simp only [step3, stepE, valF, ho, otherE, hx, hy, hT, hl, hc, hs, ha, storeV, nth_eq, hj, hsp, cond_true]
  simp [hd, hasD]
theorem row_get {α : Type} [Inhabited α] {f : α → List D} {l : List α} {xs : List (List D)} {i : Nat} (h : xs = l.map f) (hi : i < xs.length) : xs[i]? = some (f (at_ l i)) := by
  subst h; exact at_map (by simpa using hi)
theorem step3_makeSlice {t e : TypeId} {x y : Operand} {id n k b d : Nat} {i j : Int} {z : List D} (ho : o.op = .makeSlice t x y) (hd : o.dst = some d) (ht : sliceTy V.T t = some (e, k, b, z)) (hx : ev st x = some (.one (.d (.int .i64 i)))) (hy : ev st y = some (.one (.d (.int .i64 j)))) (hi : i = (n : Int)) (hj : j = (n : Int)) (hn : n ≤ 1000) (hb : b ≤ 100) :
    step3 V st o id = some ⟨.one (.own id n), [(id, some (.row k b (List.replicate n z)))], [id]⟩ := by
  subst hi; subst hj
  have h1 : Nat.ble (n * b) 1000000 = true := Nat.ble_eq.mpr (Nat.le_trans (Nat.mul_le_mul hn hb) (by omega))
  have h2 : Nat.ble n 1000000 = true := Nat.ble_eq.mpr (by omega)
  have h3 : (0 : Int) ≤ (n : Int) := Int.natCast_nonneg n
  simp only [step3, stepE, valF, ho, otherE, newF, hx, hy, ht, hd, hasD, h3, decide_true, Int.toNat_natCast, h1, h2, Bool.and_self, cond_true]
end Go.Abs
namespace Go.Proofs.YtpejdgkaapnekaaGreat
open Go Go.Abs
attribute [local irreducible] OkOps OkC DRun thenQ blockQ RetQ
set_option maxRecDepth 10000
theorem c145o (l : List Attr) (hne : 0 < l.length) : CallA Tryz.prog 145 [.one (.d (encAttrs l))] [] (.one (.own 0 l.length)) [(0, .row 2 24 (l.map encAttr))] := by
  refine enter tabOk Tryz.func145 rfl (by decide +kernel) rfl fun hok w0 σ0 φ0 M => ?_
  have h1 := hok.1.sl; clear hok; simp only [List.length_map] at h1
  repeat' (first | (show OkOps _ _ _ _ _ _; first | (show OkOps _ _ _ (Oper.mk _ (Op.binOp .eql _ _ _ _) _ _ _ (_) :: _) _ _; first | refine okops_isNilS tabOk rfl rfl rfl rfl rfl rfl (fun r hr => ?_) | fail) | (show OkOps _ _ _ (Oper.mk _ (Op.call _) _ _ _ (_) :: _) _ _; first | refine okops_append tabOk rfl rfl rfl rfl rfl (id := 0) rfl rfl rfl rfl rfl rfl rfl (by simp only [List.length_map, Nat.zero_add]; omega) (by simp only [List.length_map, Nat.zero_add]; omega) ?_ | fail) | refine okops_nil ?_ | refine s_plain tabOk rfl rfl rfl rfl rfl ?_ | refine s_new envOk 0 rfl rfl rfl rfl rfl rfl ?_ | fail) | (show OkC _ _ _ _ _; first | refine ok_seq ?_ | refine ok_region ?_ | refine ok_skip ?_ | refine ok_ret ?_ | refine ok_cond rfl (fun h => ?_) (fun h => ?_) | fail) | (show thenQ _ _ _ _; first | refine then_n ?_ | refine then_r ?_ | fail) | (show RetQ _ _ _ _ _ _; first | refine ret_leafS (.inl rfl) rfl rfl ?_ (by first | exact (subL_cons rfl subL_nil) | exact (subL_cons rfl (subL_cons rfl subL_nil))) | fail) | fail)
  · have e := hr (by simpa using h)
    simp only [List.map_eq_nil_iff] at e
    subst e; simp at hne
  · simp
theorem c99o (ds : List Dim) (ats : List Attr) (cs : List Cell) (hd : cs.Pairwise diffC) (hne : 0 < ds.length) (hna : 0 < ats.length) (h4 : cs.length ≤ 4096) : CallA Tryz.prog 99 [.one (.d (encDims ds)), .one (.d (encAttrs ats)), .one (.d (encCells cs))] [] (.tup [(true, [.own 2 ds.length, .own 4 ats.length, .d (encCells (sortF cs))]), (false, [.d (.int .i64 0)])]) [(2, .row 3 32 (ds.map encDim)), (4, .row 2 24 (ats.map encAttr))] := by
  refine enter tabOk Tryz.func99 rfl (by decide +kernel) rfl fun hok w0 σ0 φ0 M => ?_
  have h1 := hok.2.2.1.sl; clear hok; simp only [List.length_map] at h1; replace h1 := h1.1
  have hb : decide (4096 < ((cs.map encCell).length : Int)) = false := by simp; omega
  repeat' (first | (show OkOps _ _ _ _ _ _; first | (show OkOps _ _ _ (Oper.mk _ (Op.call _) _ _ _ (_) :: _) _ _; first | refine s_callM 2 [] (rav' := .one (.own 2 ds.length)) (c97o ds hne) rfl rfl rfl rfl rfl rfl trivial compatL_nil rfl rfl rfl rfl ?_ | fail) | (show OkOps _ _ _ (Oper.mk _ (Op.call _) _ _ _ (_) :: _) _ _; first | refine s_callM 4 [] (rav' := .one (.own 4 ats.length)) (c145o ats hna) rfl rfl rfl rfl rfl rfl trivial compatL_nil rfl rfl rfl rfl ?_ | fail) | (show OkOps _ _ _ (Oper.mk _ (Op.call _) _ _ _ (_) :: _) _ _; first | refine s_sort 10 cs rfl rfl rfl rfl rfl rfl rfl rfl (hr.trans (take_all _ (by first | omega | (simp only [decide_eq_true_eq, decide_eq_false_iff_not, List.length_map] at *; omega)))) (by first | omega | (simp only [decide_eq_true_eq, decide_eq_false_iff_not, List.length_map] at *; omega)) hd rfl ?_ | fail) | refine okops_nil ?_ | refine s_plain tabOk rfl rfl rfl rfl rfl ?_ | (show OkOps _ _ _ (Oper.mk _ (Op.binOp .add _ _ _ _) _ _ _ (_) :: _) _ _; first | refine s_e envOk rfl rfl rfl (step3_add rfl rfl rfl rfl (wrap64 (by omega) (by omega))) ?_ | fail) | (show OkOps _ _ _ (Oper.mk _ (Op.indexAddr _ _ _) _ _ _ (_) :: _) _ _; first | refine s_e envOk rfl rfl rfl (step3_idx rfl rfl rfl rfl rfl (by first | omega | ((try simp only [decide_eq_true_eq, decide_eq_false_iff_not, Bool.not_eq_true', Bool.not_true, Bool.not_false, List.length_map, List.length_set, bne_iff_ne, ne_eq, beq_iff_eq, bne_eq_false_iff_eq, beq_eq_false_iff_ne] at *); omega)) (at_map (by first | omega | ((try simp only [decide_eq_true_eq, decide_eq_false_iff_not, Bool.not_eq_true', Bool.not_true, Bool.not_false, List.length_map, List.length_set, bne_iff_ne, ne_eq, beq_iff_eq, bne_eq_false_iff_eq, beq_eq_false_iff_ne] at *); omega)))) ?_ | fail) | (show OkOps _ _ _ (Oper.mk _ (Op.alloc _) _ _ _ (_) :: _) _ _; first | refine s_alloc tabOk 0 rfl rfl rfl rfl rfl ?_ | refine s_alloc tabOk 1 rfl rfl rfl rfl rfl ?_ | refine s_alloc tabOk 3 rfl rfl rfl rfl rfl ?_ | fail) | refine s_store envOk rfl rfl rfl ?_ | fail) | (show OkC _ _ _ _ _; first | refine okc_imp (imp_sealL (dl := [10]) rfl) (ok_ret ?_) | refine ok_seq ?_ | refine ok_region ?_ | refine ok_block ?_ | refine ok_skip ?_ | refine ok_exit ?_ | refine ok_condKF rfl (by assumption) ?_ | refine ok_cond rfl (fun h => ?_) (fun h => ?_) | refine ok_regionD progOk.mo ?_ | refine s_loopN 5 rfl (imp_adoptJ 1 2 10 (k := 2) (b := 48) rfl rfl (by kernel_rfl)) [(6, _), (8, _), (20, _), (21, _)] (subL_cons rfl (subL_cons rfl (subL_cons rfl (subL_cons rfl subL_nil)))) (fun (bN : Bool × Bool) (p : Nat × List (List D)) => [(22, .one (.d (.int .i64 (p.1 : Int))))]) (fun (bN : Bool × Bool) (p : Nat × List (List D)) => [(1, .box [.own 2 ds.length, .own 4 ats.length, .own (nmA bN) p.1]), ((nmA bN), .row 2 48 p.2), (2, .row 3 32 (ds.map encDim)), (4, .row 2 24 (ats.map encAttr)), (0, .box [.d .nil, .d .nil, .d .nil])]) (fun (p : Nat × List (List D)) => p.1 ≤ cs.length ∧ p.2 = (cs.take p.1).map encCell) (fun (p : Nat × List (List D)) => cs.length - p.1) (0, []) (subL_cons rfl subL_nil) (by first | exact subL_nil | exact (subL_cons rfl subL_nil) | exact (subL_cons rfl (subL_cons rfl subL_nil)) | exact (subL_cons rfl (subL_cons rfl (subL_cons rfl subL_nil))) | exact (subL_cons rfl (subL_cons rfl (subL_cons rfl (subL_cons rfl subL_nil)))) | exact (subL_cons rfl (subL_cons rfl (subL_cons rfl (subL_cons rfl (subL_cons rfl subL_nil))))) | exact (subL_cons rfl (subL_cons rfl (subL_cons rfl (subL_cons rfl (subL_cons rfl (subL_cons rfl subL_nil)))))) | exact (subL_cons rfl (subL_cons rfl (subL_cons rfl (subL_cons rfl (subL_cons rfl (subL_cons rfl (subL_cons rfl subL_nil))))))) | exact (subL_cons rfl (subL_cons rfl (subL_cons rfl (subL_cons rfl (subL_cons rfl (subL_cons rfl (subL_cons rfl (subL_cons rfl subL_nil))))))))) (fun b y => by obtain ⟨b1, b2⟩ := b; cases b1 <;> cases b2 <;> first | exact Imp.refl _ | exact imp_ren qN (by kernel_rfl)) ?_ (fun p ⟨hk, hr⟩ => ?_) | fail) | (show thenQ _ _ _ _; first | refine then_n ?_ | refine then_x ?_ | fail) | (show blockQ _ _ _ _; first | refine block_n ?_ | refine block_x rfl ?_ | fail) | (show RetQ _ _ _ _ _ _; first | refine ret_leafS (.inl rfl) rfl rfl ?_ (by first | exact (subL_cons rfl subL_nil) | exact (subL_cons rfl (subL_cons rfl subL_nil))) | fail) | (show DRun _ _ _ _ _ _ _ _; first | (show DRun _ _ _ _ (Oper.mk _ (Op.call _) _ _ _ (_) :: _) _ _ _; first | refine d_new envOk 11 rfl rfl rfl (step3_appendB (i := 10) rfl rfl rfl rfl rfl rfl rfl rfl (by first | omega | ((try simp only [decide_eq_true_eq, decide_eq_false_iff_not, List.length_map, List.length_cons, List.length_nil, List.length_append, List.length_take, List.length_drop, Int.toNat_natCast] at *); omega)) (by first | exact Nat.le_of_ble_eq_true rfl | omega | ((try simp only [decide_eq_true_eq, decide_eq_false_iff_not, List.length_map, List.length_cons, List.length_nil, List.length_append, List.length_take, List.length_drop, Int.toNat_natCast] at *); omega)) (Nat.le_of_ble_eq_true rfl)) rfl rfl ?_ | fail) | refine d_nil (by kernel_rfl) ?_ | refine d_e envOk rfl rfl rfl (step3_plain rfl rfl) ?_ | (show DRun _ _ _ _ (Oper.mk _ (Op.call _) _ _ _ (_) :: _) _ _ _; first | refine d_callD 16 rfl rfl rfl rfl rfl rfl rfl rfl (c129 _) rfl rfl ?_ | refine d_callD 16 rfl rfl rfl rfl rfl rfl rfl rfl (c144 _) rfl rfl ?_ | fail) | refine d_new envOk 5 rfl rfl rfl rfl rfl rfl ?_ | refine d_store envOk rfl rfl rfl ?_ | fail) | (show Exists _; first | refine Exists.intro ((p.1 + 1, p.2.take p.1 ++ [encCell (at_ cs p.1)])) (Exists.intro (true, false) ⟨?_, ?_, (by first | exact subL_nil | exact (subL_cons rfl subL_nil) | exact (subL_cons rfl (subL_cons rfl subL_nil)) | exact (subL_cons rfl (subL_cons rfl (subL_cons rfl subL_nil))) | exact (subL_cons rfl (subL_cons rfl (subL_cons rfl (subL_cons rfl subL_nil)))) | exact (subL_cons rfl (subL_cons rfl (subL_cons rfl (subL_cons rfl (subL_cons rfl subL_nil))))) | exact (subL_cons rfl (subL_cons rfl (subL_cons rfl (subL_cons rfl (subL_cons rfl (subL_cons rfl subL_nil)))))) | exact (subL_cons rfl (subL_cons rfl (subL_cons rfl (subL_cons rfl (subL_cons rfl (subL_cons rfl (subL_cons rfl subL_nil))))))) | exact (subL_cons rfl (subL_cons rfl (subL_cons rfl (subL_cons rfl (subL_cons rfl (subL_cons rfl (subL_cons rfl (subL_cons rfl subL_nil))))))))), (subL_cons rfl subL_nil), (subL_cons rfl (subL_cons rfl (subL_cons rfl (subL_cons rfl subL_nil))))⟩) | fail) | fail)
  all_goals first
    | exact ⟨Nat.zero_le _, rfl⟩
    | (have hlt : p.1 < cs.length := by simpa using h
       exact ⟨hlt, row_next encCell cs hlt ▸ hr ▸ rfl⟩)
    | (have hlt : p.1 < cs.length := by simpa using h
       show cs.length - (p.1 + 1) < cs.length - p.1
       omega)
    | (have hge : cs.length ≤ p.1 := by simpa using h
       show AV.tup [(true, [.own 2 ds.length, .own 4 ats.length, .d (.sl 2 48 (((sortF cs).map encCell).take p.1))]), _] = _
       rw [List.take_of_length_le (by simp only [List.length_map, sortF_length]; exact hge)]
       rfl)
    | skip
theorem c143 (a : Arr) (name : List UInt8) : CallA Tryz.prog 143 [.agg [.d (encDims a.dims), .d (encAttrs a.attrs), .d (encCells a.cells)], .one (.d (.str name))] [] (.one (.d (.bool (hasN a name)))) [] := by
  refine enter tabOk Tryz.func143 rfl (by decide +kernel) rfl fun hok w0 σ0 φ0 M => ?_
  clear hok
  repeat' (first | (show OkOps _ _ _ _ _ _; first | refine okops_nil ?_ | refine s_plain tabOk rfl rfl rfl rfl rfl ?_ | (show OkOps _ _ _ (Oper.mk _ (_) _ _ _ (some _) :: _) _ _; first | refine s_guard rfl rfl (by first | assumption | rfl) ?_ | refine s_out rfl rfl (by first | assumption | rfl) rfl rfl ?_ | refine s_split rfl rfl rfl rfl (fun h => ?_) (fun h => ?_) | fail) | (show OkOps _ _ _ (Oper.mk _ (Op.pick _ _ _) _ _ _ (_) :: _) _ _; first | refine s_e envOk rfl rfl rfl (step3_pickT rfl rfl (by first | rfl | assumption) rfl) ?_ | refine s_e envOk rfl rfl rfl (step3_pickF rfl rfl (by first | rfl | assumption) rfl) ?_ | fail) | (show OkOps _ _ _ (Oper.mk _ (Op.call _) _ _ _ (_) :: _) _ _; first | refine s_callF rfl rfl rfl rfl rfl rfl rfl rfl (c126 _ _ _ _) rfl ?_ | refine s_callF rfl rfl rfl rfl rfl rfl rfl rfl (c148 _ _ _ _) rfl ?_ | fail) | (show OkOps _ _ _ (Oper.mk _ (Op.box _ _) _ _ _ (_) :: _) _ _; first | refine s_box 0 rfl rfl rfl rfl rfl rfl ?_ | fail) | fail) | (show OkC _ _ _ _ _; first | refine ok_seq ?_ | refine ok_region ?_ | refine ok_ret ?_ | fail) | (show thenQ _ _ _ _; first | refine then_n ?_ | fail) | (show RetQ _ _ _ _ _ _; first | refine ret_leaf (.inl rfl) rfl rfl ?_ | fail) | fail)
  · have e : hasN a name = decide (0 ≤ idxGo (fun x : Attr => x.name == name) a.attrs 0) := by
      show (decide (0 ≤ idxGo (fun x : Dim => x.name == name) a.dims 0) || _) = _
      rw [h]; rfl
    rw [e]
  · have e : hasN a name = true := by
      show (decide (0 ≤ idxGo (fun x : Dim => x.name == name) a.dims 0) || _) = _
      rw [h]; rfl
    rw [e]
theorem ren_split (a : Arr) (n m : List UInt8) :
    ((!validF [a]) = true ∧ renF a n m = (none, 2)) ∨
    ((!validF [a]) = false ∧ (!hasN a n) = true ∧ renF a n m = (none, 11)) ∨
    ((!validF [a]) = false ∧ (!hasN a n) = false ∧ (!nameF m) = true ∧ renF a n m = (none, 11)) ∨
    ((!validF [a]) = false ∧ (!hasN a n) = false ∧ (!nameF m) = false ∧ (!(m == n)) = true ∧ hasN a m = true ∧ renF a n m = (none, 11)) ∨
    ((!validF [a]) = false ∧ (!hasN a n) = false ∧ (!nameF m) = false ∧ ((!(m == n)) = false ∨ ((!(m == n)) = true ∧ hasN a m = false)) ∧ Ren a n m ∧ renF a n m = (some (renA a n m), 0)) := by
  by_cases hc : chkA a = 0
  rotate_left
  · exact .inl ⟨by simp [validF, hc], by unfold renF; rw [if_pos hc]⟩
  have hv : (!validF [a]) = false := by simp [validF, hc]
  have key : renF a n m = if !hasN a n || !nameF m || (!(m == n) && hasN a m) then (none, 11) else (some (renA a n m), 0) := by unfold renF; rw [if_neg (by simp [hc])]
  cases h1 : hasN a n
  · exact .inr (.inl ⟨hv, rfl, by rw [key]; simp [h1]⟩)
  cases h2 : nameF m
  · exact .inr (.inr (.inl ⟨hv, rfl, rfl, by rw [key]; simp [h1, h2]⟩))
  have hR : ¬ (!(m == n) && hasN a m) = true → Ren a n m ∧ renF a n m = (some (renA a n m), 0) := fun h3 => by
    rcases renF_cases a n m hc with ⟨e, he, h4⟩ | h4
    · rw [key, if_neg (by simpa [h1, h2] using h3)] at h4
      simp at h4
    · exact h4
  cases h3 : (m == n)
  · cases h4 : hasN a m
    · obtain ⟨r1, r2⟩ := hR (by simp [h3, h4])
      exact .inr (.inr (.inr (.inr ⟨hv, rfl, rfl, .inr ⟨rfl, rfl⟩, r1, r2⟩)))
    · exact .inr (.inr (.inr (.inl ⟨hv, rfl, rfl, rfl, rfl, by rw [key]; simp [h1, h2, h3, h4]⟩)))
  · obtain ⟨r1, r2⟩ := hR (by simp [h3])
    exact .inr (.inr (.inr (.inr ⟨hv, rfl, rfl, .inl rfl, r1, r2⟩)))
theorem c148k (ds : List Dim) (ats : List Attr) (cs : D) (name : List UInt8) (k : Nat) (h : atX ats name = (k : Int)) : CallA Tryz.prog 148 [.agg [.d (encDims ds), .d (encAttrs ats), .d cs], .one (.d (.str name))] [] (.one (.d (.int .i64 (k : Int)))) [] := by
  have h1 := c148 ds ats cs name
  unfold atX at h
  rw [h] at h1; exact h1
theorem c126d (ds : List Dim) (ats : List Attr) (cs : D) (name : List UInt8) (k : Nat) (h : dimX ds name = (k : Int)) : CallA Tryz.prog 126 [.agg [.d (encDims ds), .d (encAttrs ats), .d cs], .one (.d (.str name))] [] (.one (.d (.int .i64 (k : Int)))) [] := by
  have h1 := c126 ds ats cs name
  unfold dimX at h
  rw [h] at h1; exact h1
theorem set_dim {ds : List Dim} {k : Nat} {d : Dim} : (ds.map encDim).set k (encDim d) = (ds.set k d).map encDim := by rw [List.map_set]
theorem set_attr {ds : List Attr} {k : Nat} {d : Attr} : (ds.map encAttr).set k (encAttr d) = (ds.set k d).map encAttr := by rw [List.map_set]
set_option maxHeartbeats 8000000 in
theorem c48 (a : Arr) (n m : List UInt8) : CallA Tryz.prog 48 [aggA a, .one (.d (.str n)), .one (.d (.str m))] [] (arrE (renF a n m)) [] := by
  unfold aggA
  refine enter tabOk Tryz.func48 rfl (by decide +kernel) rfl fun hok w0 σ0 φ0 M => ?_
  clear hok
  rcases ren_split a n m with ⟨hv, e⟩ | ⟨hv, hb1, e⟩ | ⟨hv, hb1, hb2, e⟩ | ⟨hv, hb1, hb2, hb3, hb4, e⟩ | ⟨hv, hb1, hb2, hb34, hR, e⟩
  all_goals rw [e]
  rotate_right
  have hcn := hR.oka.few
  have hd1 := hR.oka.dims.1
  have ha1 := (schemaF_ok hR.oka.sch).2.1
  have hso := sortF_id hR.oka.srt
  rcases hR.which with ⟨k, hX, hk, hn, e2⟩ | ⟨hnd, k, hX, hk, hn, e2⟩
  all_goals (try rw [e2])
  · have hp : decide (0 ≤ (k : Int)) = true := by simp
    rcases hb34 with hb3 | ⟨hb3, hb4⟩
    repeat' (first | (show OkOps _ _ _ _ _ _; first | (show OkOps _ _ _ (Oper.mk _ (Op.call _) _ _ _ (_) :: _) _ _; first | refine s_callFS [2] rfl rfl rfl rfl rfl rfl rfl rfl rfl (c96 [a]) rfl ?_ | fail) | (show OkOps _ _ _ (Oper.mk _ (Op.call _) _ _ _ (_) :: _) _ _; first | refine s_callM 16 [] (rav' := .tup [(true, [.own 18 a.dims.length, .own 20 a.attrs.length, .d (encCells (sortF a.cells))]), (false, [.d (.int .i64 0)])]) (c99o a.dims a.attrs a.cells (diff_of_sorted hR.oka.srt) (by omega) (by omega) hcn) rfl rfl rfl rfl rfl rfl trivial compatL_nil rfl rfl rfl rfl ?_ | fail) | refine okops_nil ?_ | refine s_plain tabOk rfl rfl rfl rfl rfl ?_ | (show OkOps _ _ _ (Oper.mk _ (_) _ _ _ (some _) :: _) _ _; first | refine s_guard rfl rfl (by first | assumption | rfl) ?_ | refine s_out rfl rfl (by first | assumption | rfl) rfl rfl ?_ | fail) | (show OkOps _ _ _ (Oper.mk _ (Op.pick _ _ _) _ _ _ (_) :: _) _ _; first | refine s_e envOk rfl rfl rfl (step3_pickT rfl rfl (by first | rfl | assumption) rfl) ?_ | refine s_e envOk rfl rfl rfl (step3_pickF rfl rfl (by first | rfl | assumption) rfl) ?_ | fail) | (show OkOps _ _ _ (Oper.mk _ (Op.indexAddr _ _ _) _ _ _ (_) :: _) _ _; first | refine s_e envOk rfl rfl rfl (step3_idxOwn rfl rfl rfl rfl rfl rfl (by omega) (by omega)) ?_ | fail) | (show OkOps _ _ _ (Oper.mk _ (Op.call _) _ _ _ (_) :: _) _ _; first | refine s_callF rfl rfl rfl rfl rfl rfl rfl rfl (c142 _) rfl ?_ | refine s_callF rfl rfl rfl rfl rfl rfl rfl rfl (c143 a _) rfl ?_ | refine s_callF rfl rfl rfl rfl rfl rfl rfl rfl (c126d a.dims a.attrs _ n k hX) rfl ?_ | fail) | (show OkOps _ _ _ (Oper.mk _ (Op.box _ _) _ _ _ (_) :: _) _ _; first | refine s_box 0 rfl rfl rfl rfl rfl rfl ?_ | fail) | (show OkOps _ _ _ (Oper.mk _ (Op.alloc _) _ _ _ (_) :: _) _ _; first | refine s_alloc tabOk 1 rfl rfl rfl rfl rfl ?_ | refine s_alloc tabOk 3 rfl rfl rfl rfl rfl ?_ | fail) | refine s_store envOk rfl rfl (step3_storeRow rfl rfl rfl rfl rfl rfl rfl rfl rfl (at_map (by omega)) rfl) ?_ | refine s_store envOk rfl rfl rfl ?_ | refine s_new envOk 2 rfl rfl rfl rfl rfl rfl ?_ | fail) | (show OkC _ _ _ _ _; first | refine okc_imp (imp_sealL (dl := [18, 20]) rfl) (ok_ret ?_) | refine ok_seq ?_ | refine ok_region ?_ | refine ok_block ?_ | refine ok_skip ?_ | refine ok_condT rfl ?_ | refine ok_condF rfl ?_ | refine ok_condKF rfl (by assumption) ?_ | fail) | (show thenQ _ _ _ _; first | refine then_n ?_ | fail) | (show blockQ _ _ _ _; first | refine block_n ?_ | fail) | (show RetQ _ _ _ _ _ _; first | refine ret_leaf (.inl rfl) rfl rfl ?_ | fail) | fail)
    all_goals
      show AV.tup [(true, [.d (.sl 3 32 (((a.dims.map encDim).set k (encDim ⟨m, (at_ a.dims k).lo, (at_ a.dims k).hi⟩)).take a.dims.length)), .d (.sl 2 24 ((a.attrs.map encAttr).take a.attrs.length)), .d (encCells (sortF a.cells))]), (false, [.d (.int .i64 0)])] = _
      rw [set_dim, List.take_of_length_le (by simp), List.take_of_length_le (by simp), hso]
      rfl
  · have hp : decide (0 ≤ idxGo (fun x : Dim => x.name == n) a.dims 0) = false := by
      have : ¬ 0 ≤ dimX a.dims n := fun hh => hnd (dimX_mem.1 hh)
      exact decide_eq_false this
    rcases hb34 with hb3 | ⟨hb3, hb4⟩
    repeat' (first | (show OkOps _ _ _ _ _ _; first | (show OkOps _ _ _ (Oper.mk _ (Op.call _) _ _ _ (_) :: _) _ _; first | refine s_callFS [2] rfl rfl rfl rfl rfl rfl rfl rfl rfl (c96 [a]) rfl ?_ | fail) | (show OkOps _ _ _ (Oper.mk _ (Op.call _) _ _ _ (_) :: _) _ _; first | refine s_callM 16 [] (rav' := .tup [(true, [.own 18 a.dims.length, .own 20 a.attrs.length, .d (encCells (sortF a.cells))]), (false, [.d (.int .i64 0)])]) (c99o a.dims a.attrs a.cells (diff_of_sorted hR.oka.srt) (by omega) (by omega) hcn) rfl rfl rfl rfl rfl rfl trivial compatL_nil rfl rfl rfl rfl ?_ | fail) | refine okops_nil ?_ | refine s_plain tabOk rfl rfl rfl rfl rfl ?_ | (show OkOps _ _ _ (Oper.mk _ (_) _ _ _ (some _) :: _) _ _; first | refine s_guard rfl rfl (by first | assumption | rfl) ?_ | refine s_out rfl rfl (by first | assumption | rfl) rfl rfl ?_ | fail) | (show OkOps _ _ _ (Oper.mk _ (Op.pick _ _ _) _ _ _ (_) :: _) _ _; first | refine s_e envOk rfl rfl rfl (step3_pickT rfl rfl (by first | rfl | assumption) rfl) ?_ | refine s_e envOk rfl rfl rfl (step3_pickF rfl rfl (by first | rfl | assumption) rfl) ?_ | fail) | (show OkOps _ _ _ (Oper.mk _ (Op.call _) _ _ _ (_) :: _) _ _; first | refine s_callF rfl rfl rfl rfl rfl rfl rfl rfl (c142 _) rfl ?_ | refine s_callF rfl rfl rfl rfl rfl rfl rfl rfl (c143 a _) rfl ?_ | refine s_callF rfl rfl rfl rfl rfl rfl rfl rfl (c126 _ _ _ _) rfl ?_ | fail) | (show OkOps _ _ _ (Oper.mk _ (Op.box _ _) _ _ _ (_) :: _) _ _; first | refine s_box 0 rfl rfl rfl rfl rfl rfl ?_ | fail) | (show OkOps _ _ _ (Oper.mk _ (Op.alloc _) _ _ _ (_) :: _) _ _; first | refine s_alloc tabOk 1 rfl rfl rfl rfl rfl ?_ | refine s_alloc tabOk 3 rfl rfl rfl rfl rfl ?_ | fail) | refine s_store envOk rfl rfl rfl ?_ | refine s_new envOk 2 rfl rfl rfl rfl rfl rfl ?_ | fail) | (show OkC _ _ _ _ _; first | refine okc_imp (imp_sealL (dl := [18, 20]) rfl) (ok_ret ?_) | refine ok_seq ?_ | refine ok_region ?_ | refine ok_block ?_ | refine ok_skip ?_ | refine ok_condF rfl ?_ | refine ok_condKF rfl (by assumption) ?_ | refine ok_regionD progOk.mo ?_ | fail) | (show thenQ _ _ _ _; first | refine then_n ?_ | fail) | (show blockQ _ _ _ _; first | refine block_n ?_ | fail) | (show RetQ _ _ _ _ _ _; first | refine ret_leaf (.inl rfl) rfl rfl ?_ | fail) | (show DRun _ _ _ _ _ _ _ _; first | refine d_nil (by kernel_rfl) ?_ | refine d_e envOk rfl rfl rfl (step3_plain rfl rfl) ?_ | (show DRun _ _ _ _ (Oper.mk _ (Op.indexAddr _ _ _) _ _ _ (_) :: _) _ _ _; first | refine d_e envOk rfl rfl rfl (step3_idxOwn rfl rfl rfl rfl rfl rfl (by omega) (by omega)) ?_ | fail) | (show DRun _ _ _ _ (Oper.mk _ (Op.call _) _ _ _ (_) :: _) _ _ _; first | refine d_l rfl rfl (loc_callF' rfl rfl rfl rfl rfl rfl (c148k a.dims a.attrs _ n k hX) rfl) ?_ | fail) | refine d_store envOk rfl rfl (step3_storeRow rfl rfl rfl rfl rfl rfl rfl rfl rfl (at_map (by omega)) rfl) ?_ | fail) | fail)
    all_goals
      show AV.tup [(true, [.d (.sl 3 32 ((a.dims.map encDim).take a.dims.length)), .d (.sl 2 24 (((a.attrs.map encAttr).set k (encAttr ⟨m, (at_ a.attrs k).type⟩)).take a.attrs.length)), .d (encCells (sortF a.cells))]), (false, [.d (.int .i64 0)])] = _
      rw [set_attr, List.take_of_length_le (by simp), List.take_of_length_le (by simp), hso]
      rfl
  repeat' (first | (show OkOps _ _ _ _ _ _; first | (show OkOps _ _ _ (Oper.mk _ (Op.call _) _ _ _ (_) :: _) _ _; first | refine s_callFS [2] rfl rfl rfl rfl rfl rfl rfl rfl rfl (c96 [a]) rfl ?_ | fail) | refine okops_nil ?_ | refine s_plain tabOk rfl rfl rfl rfl rfl ?_ | (show OkOps _ _ _ (Oper.mk _ (_) _ _ _ (some _) :: _) _ _; first | refine s_guard rfl rfl (by first | assumption | rfl) ?_ | refine s_out rfl rfl (by first | assumption | rfl) rfl rfl ?_ | refine s_outN rfl rfl rfl rfl ?_ | fail) | (show OkOps _ _ _ (Oper.mk _ (Op.pick _ _ _) _ _ _ (_) :: _) _ _; first | refine s_e envOk rfl rfl rfl (step3_pickT rfl rfl (by first | rfl | assumption) rfl) ?_ | refine s_e envOk rfl rfl rfl (step3_pickF rfl rfl (by first | rfl | assumption) rfl) ?_ | fail) | (show OkOps _ _ _ (Oper.mk _ (Op.call _) _ _ _ (_) :: _) _ _; first | refine s_callF rfl rfl rfl rfl rfl rfl rfl rfl (c142 _) rfl ?_ | refine s_callF rfl rfl rfl rfl rfl rfl rfl rfl (c143 a _) rfl ?_ | fail) | (show OkOps _ _ _ (Oper.mk _ (Op.box _ _) _ _ _ (_) :: _) _ _; first | refine s_box 0 rfl rfl rfl rfl rfl rfl ?_ | fail) | (show OkOps _ _ _ (Oper.mk _ (Op.alloc _) _ _ _ (_) :: _) _ _; first | refine s_alloc tabOk 1 rfl rfl rfl rfl rfl ?_ | fail) | refine s_store envOk rfl rfl rfl ?_ | refine s_new envOk 2 rfl rfl rfl rfl rfl rfl ?_ | fail) | (show OkC _ _ _ _ _; first | refine ok_seq ?_ | refine ok_region ?_ | refine ok_block ?_ | refine ok_ret ?_ | refine ok_condT rfl ?_ | refine ok_condKT rfl (by assumption) ?_ | refine ok_condKF rfl (by assumption) ?_ | fail) | (show thenQ _ _ _ _; first | refine then_n ?_ | refine then_r ?_ | fail) | (show blockQ _ _ _ _; first | refine block_r ?_ | fail) | (show RetQ _ _ _ _ _ _; first | refine ret_leaf (.inl rfl) rfl rfl ?_ | fail) | fail)
  all_goals rfl
end Go.Proofs.YtpejdgkaapnekaaGreat
namespace Go.Abs
open Go
variable {V : Env} {st : St} {o : Oper}
end Go.Abs
namespace Go.Proofs.YtpejdgkaapnekaaGreat
open Go Go.Abs
attribute [local irreducible] OkOps OkC DRun thenQ blockQ RetQ
set_option maxRecDepth 10000
end Go.Proofs.YtpejdgkaapnekaaGreat
namespace Go.Proofs.YtpejdgkaapnekaaGreat
open Go Go.Abs
attribute [local irreducible] OkOps OkC DRun thenQ blockQ RetQ
set_option maxRecDepth 10000
section
variable {src : List (Int × Bool)} {c : Cell} {k : Nat}
end
end Go.Proofs.YtpejdgkaapnekaaGreat
namespace Go.Proofs.YtpejdgkaapnekaaGreat
open Go Go.Abs
attribute [local irreducible] OkOps OkC DRun thenQ blockQ RetQ
set_option maxRecDepth 10000
def encName (s : List UInt8) : List D := [.str s]
def encNames (l : List (List UInt8)) : D := .sl 1 16 (l.map encName)
theorem row_app {α : Type} [Inhabited α] (f : α → List D) (l : List α) {n : Nat} {r : List (List D)} (h : r = (l.take n).map f) (hlt : n < l.length) : r.take n ++ [f (at_ l n)] = (l.take (n + 1)).map f := by
  rw [h]; exact row_next f l hlt
section
variable {src kept : List (Int × Bool)} {ds : List Dim} {rule : Int} {c : Cell} {cs cs' l : List Cell} {x : List Int} {j : Nat}
end
end Go.Proofs.YtpejdgkaapnekaaGreat
namespace Go.Proofs.YtpejdgkaapnekaaGreat
open Go Go.Abs
attribute [local irreducible] OkOps OkC DRun thenQ blockQ RetQ
set_option maxRecDepth 10000
theorem quo_w {e : Int} (h : 1 ≤ e) : IntKind.i64.wrap (4611686018427387904 / e) = 4611686018427387904 / e := by
  have h1 : (0 : Int) ≤ 4611686018427387904 / e := Int.ediv_nonneg (by omega) (by omega)
  have h2 : (4611686018427387904 : Int) / e ≤ 4611686018427387904 := Int.ediv_le_self _ (by omega)
  exact wrap64 (by omega) (by omega)
theorem vol_w {n e : Int} (h1 : 1 ≤ n) (he : 1 ≤ e) (h : decide (4611686018427387904 / e < n) = false) : IntKind.i64.wrap (n * e) = n * e ∧ 1 ≤ n * e ∧ n * e ≤ 4611686018427387904 := by
  have h' : n ≤ 4611686018427387904 / e := by simpa using h
  have h2 : n * e ≤ 4611686018427387904 := Int.mul_le_of_le_ediv (by omega) h'
  have h3 : 1 * 1 ≤ n * e := Int.mul_le_mul h1 he (by omega) (by omega)
  exact ⟨wrap64 (by omega) (by omega), by omega, h2⟩
theorem row_w {n e P : Int} (h0 : 0 ≤ n) (h1 : n < P) (he : 1 ≤ e) (hp : P * e ≤ 4611686018427387904) : 0 ≤ n * e ∧ n * e + e ≤ P * e ∧ n * e ≤ 4611686018427387904 := by
  have h2 : 0 ≤ n * e := Int.mul_nonneg h0 (by omega)
  have h3 : (n + 1) * e ≤ P * e := Int.mul_le_mul_of_nonneg_right (by omega) (by omega)
  rw [Int.add_mul, Int.one_mul] at h3
  exact ⟨h2, h3, by omega⟩
theorem row_w1 {n e P : Int} (h0 : 0 ≤ n) (h1 : n < P) (he : 1 ≤ e) (hp : P * e ≤ 4611686018427387904) : IntKind.i64.wrap (n * e) = n * e := by
  have := row_w h0 h1 he hp
  exact wrap64 (by omega) (by omega)
theorem row_w2 {n e P a : Int} (h0 : 0 ≤ n) (h1 : n < P) (he : 1 ≤ e) (hp : P * e ≤ 4611686018427387904) (ha : -1073741824 ≤ a) (hb : a ≤ 1073741825) : IntKind.i64.wrap (n * e + a) = n * e + a := by
  have := row_w h0 h1 he hp
  exact wrap64 (by omega) (by omega)
theorem row_w3 {n e P a b : Int} (h0 : 0 ≤ n) (h1 : n < P) (he : 1 ≤ e) (hp : P * e ≤ 4611686018427387904) (ha : -1073741824 ≤ a) (hb : a ≤ 1073741825) (ha' : -1073741824 ≤ b) (hb' : b ≤ 1073741825) : IntKind.i64.wrap (n * e + a - b) = n * e + a - b := by
  have := row_w h0 h1 he hp
  exact wrap64 (by omega) (by omega)
structure Dok (ds : List Dim) : Prop where
  len : 1 ≤ ds.length ∧ ds.length ≤ 4
  bnd : ∀ i, i < ds.length → -1073741824 ≤ (at_ ds i).lo ∧ (at_ ds i).lo ≤ 1073741824 ∧ (at_ ds i).lo ≤ (at_ ds i).hi ∧ (at_ ds i).hi ≤ 1073741825
  ext : ∀ i, i < ds.length → 1 ≤ (at_ ds i).hi - (at_ ds i).lo + 1
theorem dok_of {ds : List Dim} (h : dimsF ds = 0) : Dok ds := by
  obtain ⟨h1, h2, h3, _⟩ := dimsF_ok h
  refine ⟨⟨h1, h2⟩, fun i hi => boundsF_ok.1 (h3 _ (at_mem hi)).1, fun i hi => ?_⟩
  have := boundsF_ok.1 (h3 _ (at_mem hi)).1
  omega
theorem idxAny {α : Type} [Inhabited α] {p : α → Bool} {l : List α} : decide (0 ≤ idxGo p l 0) = l.any p := by
  rw [Bool.eq_iff_iff, decide_eq_true_eq, List.any_eq_true]
  constructor
  · intro h
    obtain ⟨k, _, h2, h3, _⟩ := idxGo_at (p := p) (l := l) (j := 0) (by omega)
    exact ⟨_, at_mem h2, h3⟩
  · rintro ⟨x, hx, hp⟩
    by_cases h0 : idxGo p l 0 < 0
    · have := idxGo_none h0 x hx
      rw [hp] at this; cases this
    · omega
theorem c203 (nm : List UInt8) (lo hi : Int) (hb : -1073741824 ≤ lo ∧ lo ≤ 1073741824 ∧ lo ≤ hi ∧ hi ≤ 1073741825) : CallA Tryz.prog 203 [.agg [.d (.str nm), .d (.int .i64 lo), .d (.int .i64 hi)]] [] (.one (.d (.int .i64 (hi - lo + 1)))) [] := by
  refine enter tabOk Tryz.func203 rfl (by decide +kernel) rfl fun hok w0 σ0 φ0 M => ?_
  clear hok
  repeat' (first | (show OkOps _ _ _ _ _ _; first | refine okops_nil ?_ | refine s_plain tabOk rfl rfl rfl rfl rfl ?_ | (show OkOps _ _ _ (Oper.mk _ (Op.binOp .add _ _ _ _) _ _ _ (_) :: _) _ _; first | refine s_e envOk rfl rfl rfl (step3_add rfl rfl rfl rfl (wrap64 (by omega) (by omega))) ?_ | fail) | (show OkOps _ _ _ (Oper.mk _ (Op.binOp .sub _ _ _ _) _ _ _ (_) :: _) _ _; first | refine s_e envOk rfl rfl rfl (step3_sub rfl rfl rfl rfl (wrap64 (by omega) (by omega))) ?_ | fail) | (show OkOps _ _ _ (Oper.mk _ (Op.box _ _) _ _ _ (_) :: _) _ _; first | refine s_box 0 rfl rfl rfl rfl rfl rfl ?_ | fail) | fail) | (show OkC _ _ _ _ _; first | refine ok_seq ?_ | refine ok_region ?_ | refine ok_ret ?_ | fail) | (show thenQ _ _ _ _; first | refine then_n ?_ | fail) | (show RetQ _ _ _ _ _ _; first | refine ret_leaf (.inl rfl) rfl rfl ?_ | fail) | fail)
  all_goals rfl
theorem c202 (nm : List UInt8) (lo hi : Int) : CallA Tryz.prog 202 [.agg [.d (.str nm), .d (.int .i64 lo), .d (.int .i64 hi)]] [] (.one (.d (.bool (hi == 1073741825)))) [] := by
  refine enter tabOk Tryz.func202 rfl (by decide +kernel) rfl fun hok w0 σ0 φ0 M => ?_
  clear hok
  repeat' (first | (show OkOps _ _ _ _ _ _; first | refine okops_nil ?_ | refine s_plain tabOk rfl rfl rfl rfl rfl ?_ | (show OkOps _ _ _ (Oper.mk _ (Op.box _ _) _ _ _ (_) :: _) _ _; first | refine s_box 0 rfl rfl rfl rfl rfl rfl ?_ | fail) | fail) | (show OkC _ _ _ _ _; first | refine ok_seq ?_ | refine ok_region ?_ | refine ok_ret ?_ | fail) | (show thenQ _ _ _ _; first | refine then_n ?_ | fail) | (show RetQ _ _ _ _ _ _; first | refine ret_leaf (.inl rfl) rfl rfl ?_ | fail) | fail)
  all_goals rfl
theorem c201 (ds : List Dim) : CallA Tryz.prog 201 [.one (.d (encDims ds)), .one (.d (.fn 202 []))] [] (.one (.d (.bool (ds.any fun d => d.hi == 1073741825)))) [] := by
  refine enter tabOk Tryz.func201 rfl (by decide +kernel) rfl fun hok w0 σ0 φ0 M => ?_
  clear hok
  repeat' (first | (show OkOps _ _ _ _ _ _; first | refine okops_nil ?_ | refine s_plain tabOk rfl rfl rfl rfl rfl ?_ | (show OkOps _ _ _ (Oper.mk _ (Op.call _) _ _ _ (_) :: _) _ _; first | refine s_callF rfl rfl rfl rfl rfl rfl rfl rfl (c244 _ _ _ (fun d => c202 _ _ _) _) rfl ?_ | fail) | fail) | (show OkC _ _ _ _ _; first | refine ok_seq ?_ | refine ok_region ?_ | refine ok_ret ?_ | fail) | (show thenQ _ _ _ _; first | refine then_n ?_ | fail) | (show RetQ _ _ _ _ _ _; first | refine ret_leaf (.inl rfl) rfl rfl ?_ | fail) | fail)
  all_goals (rw [idxAny])
theorem c200 (ds : List Dim) : CallA Tryz.prog 200 [.one (.d (encDims ds))] [] (.one (.d (.int .i64 (dimsF ds)))) [] := by
  by_cases hne : dimsF ds = 0
  · refine enter tabOk Tryz.func200 rfl (by decide +kernel) rfl fun hok w0 σ0 φ0 M => ?_
    clear hok
    repeat' (first | (show OkOps _ _ _ _ _ _; first | refine okops_nil ?_ | refine s_plain tabOk rfl rfl rfl rfl rfl ?_ | refine s_new envOk 0 rfl rfl rfl rfl rfl rfl ?_ | fail) | (show OkC _ _ _ _ _; first | refine ok_seq ?_ | refine ok_region ?_ | fail) | (show thenQ _ _ _ _; first | refine then_n ?_ | fail) | fail)
    refine s_callM 16 [(1000000, 0)] (rav' := .one (.d (.int .i64 0))) (c190b ds hne) rfl rfl rfl rfl rfl rfl ⟨⟨0, rfl, rfl⟩, trivial⟩ ⟨fun i e h1 h2 => ?_, trivial⟩ rfl rfl rfl rfl ?_
    · have h1' : some 0 = some i := h1
      cases h1'
      have h2' : some (AObj.map false false (encMet [])) = some e := h2
      cases h2'
      exact ⟨rfl, rfl⟩
    repeat' (first | (show OkOps _ _ _ _ _ _; first | refine okops_nil ?_ | refine s_plain tabOk rfl rfl rfl rfl rfl ?_ | fail) | (show OkC _ _ _ _ _; first | refine ok_ret ?_ | fail) | (show thenQ _ _ _ _; first | refine then_n ?_ | fail) | (show RetQ _ _ _ _ _ _; first | refine ret_leaf (.inl rfl) rfl rfl ?_ | fail) | fail)
    all_goals rw [hne]
  · refine enter tabOk Tryz.func200 rfl (by decide +kernel) rfl fun hok w0 σ0 φ0 M => ?_
    clear hok
    repeat' (first | (show OkOps _ _ _ _ _ _; first | refine okops_nil ?_ | refine s_plain tabOk rfl rfl rfl rfl rfl ?_ | refine s_new envOk 0 rfl rfl rfl rfl rfl rfl ?_ | fail) | (show OkC _ _ _ _ _; first | refine ok_seq ?_ | refine ok_region ?_ | fail) | (show thenQ _ _ _ _; first | refine then_n ?_ | fail) | fail)
    refine s_callM 16 [(1000000, 0)] (rav' := .one (.d (.int .i64 (dimsF ds)))) (c190a ds hne) rfl rfl rfl rfl rfl rfl ⟨⟨0, rfl, rfl⟩, trivial⟩ trivial rfl rfl rfl rfl ?_
    repeat' (first | (show OkOps _ _ _ _ _ _; first | refine okops_nil ?_ | refine s_plain tabOk rfl rfl rfl rfl rfl ?_ | fail) | (show OkC _ _ _ _ _; first | refine ok_ret ?_ | fail) | (show thenQ _ _ _ _; first | refine then_n ?_ | fail) | (show RetQ _ _ _ _ _ _; first | refine ret_leaf (.inl rfl) rfl rfl ?_ | fail) | fail)
    all_goals rfl
theorem volF_no {ds : List Dim} (h : dimsF ds ≠ 0) : volF ds = (0, dimsF ds) := by unfold volF; rw [if_pos h]
theorem volF_open {ds : List Dim} (h : dimsF ds = 0) (h2 : (ds.any fun d => d.hi == 1073741825) = true) : volF ds = (0, 3) := by unfold volF; rw [if_neg (by simp [h]), if_pos h2]
theorem volF_go {ds : List Dim} (h : dimsF ds = 0) (h2 : (ds.any fun d => d.hi == 1073741825) = false) : volF ds = volGo 1 ds := by unfold volF; rw [if_neg (by simp [h]), if_neg (by simp [h2])]
def volAV (r : Int × Int) : AV := .tup [(false, [.d (.int .i64 r.1)]), (false, [.d (.int .i64 r.2)])]
theorem c132 (ds : List Dim) : CallA Tryz.prog 132 [.one (.d (encDims ds))] [] (volAV (volF ds)) [] := by
  refine enter tabOk Tryz.func132 rfl (by decide +kernel) rfl fun hok w0 σ0 φ0 M => ?_
  have h1 := hok.1.sl; clear hok; simp only [List.length_map] at h1; replace h1 := h1.1
  by_cases hd : dimsF ds = 0
  · have hD := dok_of hd
    have hb0 : (dimsF ds != 0) = false := by simp [hd]
    have h4 := hD.len
    repeat' (first | (show OkOps _ _ _ _ _ _; first | (show OkOps _ _ _ (Oper.mk _ (Op.binOp .quo _ _ _ _) _ _ _ (_) :: _) _ _; first | refine s_e envOk rfl rfl rfl (step3_quoE rfl rfl rfl rfl (by omega) (Int.lt_of_lt_of_le Int.zero_lt_one (hD.ext _ (by first | omega | ((try simp only [decide_eq_true_eq, decide_eq_false_iff_not, Bool.not_eq_true', Bool.not_true, Bool.not_false, List.length_map, List.length_set, bne_iff_ne, ne_eq, beq_iff_eq, bne_eq_false_iff_eq, beq_eq_false_iff_ne] at *); omega)))) (quo_w (hD.ext _ (by first | omega | ((try simp only [decide_eq_true_eq, decide_eq_false_iff_not, Bool.not_eq_true', Bool.not_true, Bool.not_false, List.length_map, List.length_set, bne_iff_ne, ne_eq, beq_iff_eq, bne_eq_false_iff_eq, beq_eq_false_iff_ne] at *); omega))))) ?_ | fail) | (show OkOps _ _ _ (Oper.mk _ (Op.binOp .mul _ _ _ _) _ _ _ (_) :: _) _ _; first | refine s_e envOk rfl rfl rfl (step3_mul rfl rfl rfl rfl (vol_w hn1 (hD.ext _ (by first | omega | ((try simp only [decide_eq_true_eq, decide_eq_false_iff_not, Bool.not_eq_true', Bool.not_true, Bool.not_false, List.length_map, List.length_set, bne_iff_ne, ne_eq, beq_iff_eq, bne_eq_false_iff_eq, beq_eq_false_iff_ne] at *); omega))) (by assumption)).1) ?_ | fail) | refine okops_nil ?_ | refine s_plain tabOk rfl rfl rfl rfl rfl ?_ | (show OkOps _ _ _ (Oper.mk _ (Op.binOp .add _ _ _ _) _ _ _ (_) :: _) _ _; first | refine s_e envOk rfl rfl rfl (step3_add rfl rfl rfl rfl (wrap64 (by omega) (by omega))) ?_ | fail) | (show OkOps _ _ _ (Oper.mk _ (Op.indexAddr _ _ _) _ _ _ (_) :: _) _ _; first | refine s_e envOk rfl rfl rfl (step3_idx rfl rfl rfl rfl rfl (by first | omega | ((try simp only [decide_eq_true_eq, decide_eq_false_iff_not, Bool.not_eq_true', Bool.not_true, Bool.not_false, List.length_map, List.length_set, bne_iff_ne, ne_eq, beq_iff_eq, bne_eq_false_iff_eq, beq_eq_false_iff_ne] at *); omega)) (at_map (by first | omega | ((try simp only [decide_eq_true_eq, decide_eq_false_iff_not, Bool.not_eq_true', Bool.not_true, Bool.not_false, List.length_map, List.length_set, bne_iff_ne, ne_eq, beq_iff_eq, bne_eq_false_iff_eq, beq_eq_false_iff_ne] at *); omega)))) ?_ | fail) | (show OkOps _ _ _ (Oper.mk _ (Op.call _) _ _ _ (_) :: _) _ _; first | refine s_callF rfl rfl rfl rfl rfl rfl rfl rfl (c200 _) rfl ?_ | refine s_callF rfl rfl rfl rfl rfl rfl rfl rfl (c201 _) rfl ?_ | refine s_callF rfl rfl rfl rfl rfl rfl rfl rfl (c203 _ _ _ (hD.bnd _ (by first | omega | ((try simp only [decide_eq_true_eq, decide_eq_false_iff_not, Bool.not_eq_true', Bool.not_true, Bool.not_false, List.length_map, List.length_set, bne_iff_ne, ne_eq, beq_iff_eq, bne_eq_false_iff_eq, beq_eq_false_iff_ne] at *); omega)))) rfl ?_ | fail) | (show OkOps _ _ _ (Oper.mk _ (Op.alloc _) _ _ _ (_) :: _) _ _; first | refine s_alloc tabOk 0 rfl rfl rfl rfl rfl ?_ | fail) | refine s_store envOk rfl rfl rfl ?_ | fail) | (show OkC _ _ _ _ _; first | refine ok_seq ?_ | refine ok_region ?_ | refine ok_block ?_ | refine ok_skip ?_ | refine ok_ret ?_ | refine ok_exit ?_ | refine ok_condKF rfl (by assumption) ?_ | refine ok_cond rfl (fun h => ?_) (fun h => ?_) | refine s_loop 8 rfl [(15, _), (16, _)] (subL_cons rfl (subL_cons rfl subL_nil)) (fun (p : Nat × Int) => [(5, .one (.d (.int .i64 p.2))), (17, .one (.d (.int .i64 (p.1 : Int))))]) (fun (p : Nat × Int) => p.1 ≤ ds.length ∧ volGo 1 ds = volGo p.2 (ds.drop p.1) ∧ 1 ≤ p.2) (fun (p : Nat × Int) => ds.length - p.1) (0, 1) (subL_cons rfl (subL_cons rfl subL_nil)) ?_ (fun p ⟨hk, hs, hn1⟩ => ?_) | fail) | (show thenQ _ _ _ _; first | refine then_n ?_ | refine then_r ?_ | refine then_x ?_ | fail) | (show blockQ _ _ _ _; first | refine block_n ?_ | refine block_r ?_ | refine block_x rfl ?_ | fail) | (show RetQ _ _ _ _ _ _; first | refine ret_leaf (.inl rfl) rfl rfl ?_ | fail) | (show Exists _; first | refine Exists.intro ((p.1 + 1, p.2 * ((at_ ds p.1).hi - (at_ ds p.1).lo + 1))) ⟨?_, ?_, (by first | exact subL_nil | exact (subL_cons rfl subL_nil) | exact (subL_cons rfl (subL_cons rfl subL_nil)) | exact (subL_cons rfl (subL_cons rfl (subL_cons rfl subL_nil))) | exact (subL_cons rfl (subL_cons rfl (subL_cons rfl (subL_cons rfl subL_nil)))) | exact (subL_cons rfl (subL_cons rfl (subL_cons rfl (subL_cons rfl (subL_cons rfl subL_nil))))) | exact (subL_cons rfl (subL_cons rfl (subL_cons rfl (subL_cons rfl (subL_cons rfl (subL_cons rfl subL_nil)))))) | exact (subL_cons rfl (subL_cons rfl (subL_cons rfl (subL_cons rfl (subL_cons rfl (subL_cons rfl (subL_cons rfl subL_nil))))))) | exact (subL_cons rfl (subL_cons rfl (subL_cons rfl (subL_cons rfl (subL_cons rfl (subL_cons rfl (subL_cons rfl (subL_cons rfl subL_nil))))))))), (subL_cons rfl (subL_cons rfl subL_nil)), (subL_cons rfl (subL_cons rfl subL_nil))⟩ | fail) | fail)
    · have ha : (ds.any fun d => d.hi == 1073741825) = true := h
      rw [volF_open hd ha]; rfl
    · exact ⟨Nat.zero_le _, rfl, by decide⟩
    all_goals (try rw [Int.toNat_natCast] at *)
    · have hlt : p.1 < ds.length := by simpa using ‹decide ((p.1 : Int) < ((ds.map encDim).length : Int)) = true›
      have hx : 4611686018427387904 / extF (at_ ds p.1) < p.2 := by unfold extF; simpa using h
      rw [volF_go hd ‹_›, hs, at_drop hlt, volGo, if_pos hx]; rfl
    · have hlt : p.1 < ds.length := by simpa using ‹decide ((p.1 : Int) < ((ds.map encDim).length : Int)) = true›
      have hx : ¬ 4611686018427387904 / extF (at_ ds p.1) < p.2 := by unfold extF; simpa using h
      refine ⟨hlt, ?_, (vol_w hn1 (hD.ext _ hlt) h).2.1⟩
      rw [hs, at_drop hlt, volGo, if_neg hx]; rfl
    · have hlt : p.1 < ds.length := by simpa using ‹decide ((p.1 : Int) < ((ds.map encDim).length : Int)) = true›
      show ds.length - (p.1 + 1) < ds.length - p.1
      omega
    · have hge : ds.length ≤ p.1 := by simpa using ‹decide ((p.1 : Int) < ((ds.map encDim).length : Int)) = false›
      rw [volF_go hd ‹_›, hs, List.drop_eq_nil_of_le hge]; rfl
  · have hb0 : (dimsF ds != 0) = true := by simp [hd]
    repeat' (first | (show OkOps _ _ _ _ _ _; first | refine okops_nil ?_ | refine s_plain tabOk rfl rfl rfl rfl rfl ?_ | (show OkOps _ _ _ (Oper.mk _ (Op.call _) _ _ _ (_) :: _) _ _; first | refine s_callF rfl rfl rfl rfl rfl rfl rfl rfl (c200 _) rfl ?_ | fail) | fail) | (show OkC _ _ _ _ _; first | refine ok_seq ?_ | refine ok_region ?_ | refine ok_ret ?_ | refine ok_condKT rfl (by assumption) ?_ | fail) | (show thenQ _ _ _ _; first | refine then_n ?_ | refine then_r ?_ | fail) | (show RetQ _ _ _ _ _ _; first | refine ret_leaf (.inl rfl) rfl rfl ?_ | fail) | fail)
    all_goals (rw [volF_no hd]; rfl)
theorem vol_part : ∀ {ds : List Dim} {n : Int}, 1 ≤ n → (∀ d ∈ ds, 1 ≤ extF d) → (volGo n ds).2 = 0 → ∀ k, k < ds.length → n * (prodF (ds.take k) * extF (at_ ds k)) ≤ 4611686018427387904
  | d :: r, n, hn, he, h, k, hk => by
    simp only [volGo] at h
    split at h
    · simp at h
    rename_i h1
    have he1 := he d List.mem_cons_self
    have hw := vol_w hn he1 (by simpa using h1)
    cases k with
    | zero =>
      show n * (1 * extF d) ≤ _
      rw [Int.one_mul]; exact hw.2.2
    | succ k =>
      have ih := vol_part (ds := r) (n := n * extF d) hw.2.1 (fun x hx => he x (List.mem_cons_of_mem _ hx)) h k (by simpa using hk)
      show n * (extF d * prodF (r.take k) * extF (at_ r k)) ≤ _
      rw [Int.mul_assoc, ← Int.mul_assoc]
      exact ih
theorem vol_ext {ds : List Dim} (hd : Dok ds) : ∀ d ∈ ds, 1 ≤ extF d := fun d h => by
  obtain ⟨i, hi, rfl⟩ := at_ofmem h
  exact hd.ext i hi
structure Vok (ds : List Dim) : Prop where
  dok : Dok ds
  fin : ∀ i, i < ds.length → (at_ ds i).hi ≤ 1073741824
  vol : (volF ds).1 = prodF ds
  part : ∀ i, i < ds.length → prodF (ds.take i) * ((at_ ds i).hi - (at_ ds i).lo + 1) ≤ 4611686018427387904
  all : prodF ds ≤ 4611686018427387904
theorem prod_app : ∀ {a b : List Dim}, prodF (a ++ b) = prodF a * prodF b
  | [], b => by simp [prodF]
  | d :: a, b => by simp only [List.cons_append, prodF, prod_app (a := a) (b := b), Int.mul_assoc]
theorem prod_take {ds : List Dim} {k : Nat} (h : k < ds.length) : prodF (ds.take (k + 1)) = prodF (ds.take k) * extF (at_ ds k) := by
  rw [at_take h, prod_app]; simp [prodF]
theorem vok_of {ds : List Dim} (h : (volF ds).2 = 0) : Vok ds := by
  obtain ⟨h1, h2, h3⟩ := vol_ok h
  have hd := dok_of h1
  have ha : (ds.any fun d => d.hi == 1073741825) = false := by
    rw [Bool.eq_false_iff]
    intro hx
    rw [volF_open h1 hx] at h; simp at h
  have hv : (volGo 1 ds).2 = 0 := by rw [volF_go h1 ha] at h; exact h
  have hp := vol_part (ds := ds) (n := 1) (by decide) (vol_ext hd) hv
  refine ⟨hd, h2, h3, fun i hi => by have := hp i hi; rw [Int.one_mul] at this; exact this, ?_⟩
  have hl := hd.len
  have := hp (ds.length - 1) (by omega)
  rw [Int.one_mul, ← prod_take (by omega), show ds.length - 1 + 1 = ds.length from by omega, List.take_length] at this
  exact this
theorem row_step {ds : List Dim} {xs : List Int} {n : Int} {k : Nat} (hk : k < ds.length) (hx : k < xs.length) : rowGo n (ds.drop k) (xs.drop k) = rowGo (n * extF (at_ ds k) + at_ xs k - (at_ ds k).lo) (ds.drop (k + 1)) (xs.drop (k + 1)) := by
  rw [at_drop hk, at_drop hx]; rfl
theorem row_less {n P a lo hi : Int} (h0 : 0 ≤ n) (h1 : n < P) (he : 1 ≤ hi - lo + 1) (hp : P * (hi - lo + 1) ≤ 4611686018427387904) (ha : lo ≤ a) (hb : a ≤ hi) : 0 ≤ n * (hi - lo + 1) + a - lo ∧ n * (hi - lo + 1) + a - lo < P * (hi - lo + 1) := by
  have := row_w h0 h1 he hp
  omega
theorem of_ok {ds : List Dim} {xs : List Int} (h : ofF ds xs = true) (hd : Vok ds) : xs.length = ds.length ∧ ∀ i, i < ds.length → (at_ ds i).lo ≤ at_ xs i ∧ at_ xs i ≤ (at_ ds i).hi := by
  unfold ofF at h
  simp only [Bool.and_eq_true, decide_eq_true_eq] at h
  refine ⟨h.1, fun i hi => ?_⟩
  have h1 := (withinL_iff h.1).1 h.2 i hi
  unfold lastF at h1
  omega
theorem indexF_vol {ds : List Dim} {xs : List Int} (h : (volF ds).2 ≠ 0) : indexF ds xs = (0, (volF ds).2) := by unfold indexF; rw [if_pos h]
theorem indexF_len {ds : List Dim} {xs : List Int} (h : (volF ds).2 = 0) (h2 : (xs.length : Int) ≠ ds.length) : indexF ds xs = (0, 13) := by unfold indexF; rw [if_neg (by simp [h]), if_pos h2]
theorem indexF_out {ds : List Dim} {xs : List Int} (h : (volF ds).2 = 0) (h2 : (xs.length : Int) = ds.length) (h3 : ofF ds xs = false) : indexF ds xs = (0, 3) := by unfold indexF; rw [if_neg (by simp [h]), if_neg (by simp [h2]), if_pos (by simp [h3])]
theorem indexF_in {ds : List Dim} {xs : List Int} (h : (volF ds).2 = 0) (h2 : (xs.length : Int) = ds.length) (h3 : ofF ds xs = true) : indexF ds xs = (rowGo 0 ds xs, 0) := by unfold indexF; rw [if_neg (by simp [h]), if_neg (by simp [h2]), if_neg (by simp [h3])]
theorem c133 (ds : List Dim) (xs : List Int) : CallA Tryz.prog 133 [.one (.d (encDims ds)), .one (.d (encInts xs))] [] (volAV (indexF ds xs)) [] := by
  refine enter tabOk Tryz.func133 rfl (by decide +kernel) rfl fun hok w0 σ0 φ0 M => ?_
  have h1 := hok.1.sl; have h2 := hok.2.1.sl; clear hok; simp only [List.length_map] at h1 h2; replace h1 := h1.1; replace h2 := h2.1
  by_cases hv : (volF ds).2 = 0
  · have hV := vok_of hv
    have hD := hV.dok
    have hb0 : ((volF ds).2 != 0) = false := by simp [hv]
    have h4 := hD.len
    by_cases hl : (xs.length : Int) = ds.length
    · have hb1 : (((xs.map encInt).length : Int) != ((ds.map encDim).length : Int)) = false := by simp; omega
      by_cases hof : ofF ds xs = true
      · have hb2 : (!ofF ds xs) = false := by simp [hof]
        obtain ⟨hxl, hxb⟩ := of_ok hof hV
        have hL : ∀ i, i < ds.length → -1073741824 ≤ (at_ ds i).lo ∧ (at_ ds i).lo ≤ 1073741825 := fun i hi => by have := hD.bnd i hi; omega
        have hX : ∀ i, i < ds.length → -1073741824 ≤ at_ xs i ∧ at_ xs i ≤ 1073741825 := fun i hi => by have := hD.bnd i hi; have := hxb i hi; omega
        repeat' (first | (show OkOps _ _ _ _ _ _; first | refine okops_nil ?_ | refine s_plain tabOk rfl rfl rfl rfl rfl ?_ | (show OkOps _ _ _ (Oper.mk _ (Op.binOp .add _ _ _ _) _ _ _ (_) :: _) _ _; first | refine s_e envOk rfl rfl rfl (step3_add rfl rfl rfl rfl (wrap64 (by omega) (by omega))) ?_ | fail) | (show OkOps _ _ _ (Oper.mk _ (Op.indexAddr _ _ _) _ _ _ (_) :: _) _ _; first | refine s_e envOk rfl rfl rfl (step3_idx rfl rfl rfl rfl rfl (by first | omega | ((try simp only [decide_eq_true_eq, decide_eq_false_iff_not, Bool.not_eq_true', Bool.not_true, Bool.not_false, List.length_map, List.length_set, bne_iff_ne, ne_eq, beq_iff_eq, bne_eq_false_iff_eq, beq_eq_false_iff_ne] at *); omega)) (at_map (by first | omega | ((try simp only [decide_eq_true_eq, decide_eq_false_iff_not, Bool.not_eq_true', Bool.not_true, Bool.not_false, List.length_map, List.length_set, bne_iff_ne, ne_eq, beq_iff_eq, bne_eq_false_iff_eq, beq_eq_false_iff_ne] at *); omega)))) ?_ | fail) | (show OkOps _ _ _ (Oper.mk _ (Op.call _) _ _ _ (_) :: _) _ _; first | refine s_callF rfl rfl rfl rfl rfl rfl rfl rfl (c132 _) rfl ?_ | refine s_callF rfl rfl rfl rfl rfl rfl rfl rfl (c204 _ _) rfl ?_ | fail) | (show OkOps _ _ _ (Oper.mk _ (Op.alloc _) _ _ _ (_) :: _) _ _; first | refine s_alloc tabOk 0 rfl rfl rfl rfl rfl ?_ | fail) | refine s_store envOk rfl rfl rfl ?_ | fail) | (show OkC _ _ _ _ _; first | refine ok_seq ?_ | refine ok_region ?_ | refine ok_block ?_ | refine ok_skip ?_ | refine ok_ret ?_ | refine ok_exit ?_ | refine ok_condKF rfl (by assumption) ?_ | refine ok_cond rfl (fun h => ?_) (fun h => ?_) | refine ok_regionD progOk.mo ?_ | refine s_loop 10 rfl [(1, _), (28, _), (29, _)] (subL_cons rfl (subL_cons rfl (subL_cons rfl subL_nil))) (fun (p : Nat × Int) => [(8, .one (.d (.int .i64 p.2))), (30, .one (.d (.int .i64 (p.1 : Int))))]) (fun (p : Nat × Int) => p.1 ≤ ds.length ∧ rowGo 0 ds xs = rowGo p.2 (ds.drop p.1) (xs.drop p.1) ∧ 0 ≤ p.2 ∧ p.2 < prodF (ds.take p.1)) (fun (p : Nat × Int) => ds.length - p.1) (0, 0) (subL_cons rfl (subL_cons rfl subL_nil)) ?_ (fun p ⟨hk, hs, hn0, hnP⟩ => ?_) | fail) | (show thenQ _ _ _ _; first | refine then_n ?_ | refine then_x ?_ | fail) | (show blockQ _ _ _ _; first | refine block_n ?_ | refine block_x rfl ?_ | fail) | (show RetQ _ _ _ _ _ _; first | refine ret_leaf (.inl rfl) rfl rfl ?_ | fail) | (show DRun _ _ _ _ _ _ _ _; first | (show DRun _ _ _ _ (Oper.mk _ (Op.binOp .mul _ _ _ _) _ _ _ (_) :: _) _ _ _; first | refine d_e envOk rfl rfl rfl (step3_mul rfl rfl rfl rfl (row_w1 hn0 hnP (hD.ext _ (by first | omega | ((try simp only [decide_eq_true_eq, decide_eq_false_iff_not, Bool.not_eq_true', Bool.not_true, Bool.not_false, List.length_map, List.length_set, bne_iff_ne, ne_eq, beq_iff_eq, bne_eq_false_iff_eq, beq_eq_false_iff_ne] at *); omega))) (hV.part _ (by first | omega | ((try simp only [decide_eq_true_eq, decide_eq_false_iff_not, Bool.not_eq_true', Bool.not_true, Bool.not_false, List.length_map, List.length_set, bne_iff_ne, ne_eq, beq_iff_eq, bne_eq_false_iff_eq, beq_eq_false_iff_ne] at *); omega))))) ?_ | fail) | (show DRun _ _ _ _ (Oper.mk _ (Op.binOp .add _ _ _ _) _ _ _ (_) :: _) _ _ _; first | refine d_e envOk rfl rfl rfl (step3_add rfl rfl rfl rfl (row_w2 hn0 hnP (hD.ext _ (by first | omega | ((try simp only [decide_eq_true_eq, decide_eq_false_iff_not, Bool.not_eq_true', Bool.not_true, Bool.not_false, List.length_map, List.length_set, bne_iff_ne, ne_eq, beq_iff_eq, bne_eq_false_iff_eq, beq_eq_false_iff_ne] at *); omega))) (hV.part _ (by first | omega | ((try simp only [decide_eq_true_eq, decide_eq_false_iff_not, Bool.not_eq_true', Bool.not_true, Bool.not_false, List.length_map, List.length_set, bne_iff_ne, ne_eq, beq_iff_eq, bne_eq_false_iff_eq, beq_eq_false_iff_ne] at *); omega))) (hX _ (by first | omega | ((try simp only [decide_eq_true_eq, decide_eq_false_iff_not, Bool.not_eq_true', Bool.not_true, Bool.not_false, List.length_map, List.length_set, bne_iff_ne, ne_eq, beq_iff_eq, bne_eq_false_iff_eq, beq_eq_false_iff_ne] at *); omega))).1 (hX _ (by first | omega | ((try simp only [decide_eq_true_eq, decide_eq_false_iff_not, Bool.not_eq_true', Bool.not_true, Bool.not_false, List.length_map, List.length_set, bne_iff_ne, ne_eq, beq_iff_eq, bne_eq_false_iff_eq, beq_eq_false_iff_ne] at *); omega))).2)) ?_ | fail) | (show DRun _ _ _ _ (Oper.mk _ (Op.binOp .sub _ _ _ _) _ _ _ (_) :: _) _ _ _; first | refine d_e envOk rfl rfl rfl (step3_sub rfl rfl rfl rfl (row_w3 hn0 hnP (hD.ext _ (by first | omega | ((try simp only [decide_eq_true_eq, decide_eq_false_iff_not, Bool.not_eq_true', Bool.not_true, Bool.not_false, List.length_map, List.length_set, bne_iff_ne, ne_eq, beq_iff_eq, bne_eq_false_iff_eq, beq_eq_false_iff_ne] at *); omega))) (hV.part _ (by first | omega | ((try simp only [decide_eq_true_eq, decide_eq_false_iff_not, Bool.not_eq_true', Bool.not_true, Bool.not_false, List.length_map, List.length_set, bne_iff_ne, ne_eq, beq_iff_eq, bne_eq_false_iff_eq, beq_eq_false_iff_ne] at *); omega))) (hX _ (by first | omega | ((try simp only [decide_eq_true_eq, decide_eq_false_iff_not, Bool.not_eq_true', Bool.not_true, Bool.not_false, List.length_map, List.length_set, bne_iff_ne, ne_eq, beq_iff_eq, bne_eq_false_iff_eq, beq_eq_false_iff_ne] at *); omega))).1 (hX _ (by first | omega | ((try simp only [decide_eq_true_eq, decide_eq_false_iff_not, Bool.not_eq_true', Bool.not_true, Bool.not_false, List.length_map, List.length_set, bne_iff_ne, ne_eq, beq_iff_eq, bne_eq_false_iff_eq, beq_eq_false_iff_ne] at *); omega))).2 (hL _ (by first | omega | ((try simp only [decide_eq_true_eq, decide_eq_false_iff_not, Bool.not_eq_true', Bool.not_true, Bool.not_false, List.length_map, List.length_set, bne_iff_ne, ne_eq, beq_iff_eq, bne_eq_false_iff_eq, beq_eq_false_iff_ne] at *); omega))).1 (hL _ (by first | omega | ((try simp only [decide_eq_true_eq, decide_eq_false_iff_not, Bool.not_eq_true', Bool.not_true, Bool.not_false, List.length_map, List.length_set, bne_iff_ne, ne_eq, beq_iff_eq, bne_eq_false_iff_eq, beq_eq_false_iff_ne] at *); omega))).2)) ?_ | fail) | refine d_nil (by kernel_rfl) ?_ | refine d_e envOk rfl rfl rfl (step3_plain rfl rfl) ?_ | (show DRun _ _ _ _ (Oper.mk _ (Op.indexAddr _ _ _) _ _ _ (_) :: _) _ _ _; first | refine d_e envOk rfl rfl rfl (step3_idx rfl rfl rfl rfl rfl (by first | omega | ((try simp only [decide_eq_true_eq, decide_eq_false_iff_not, Bool.not_eq_true', Bool.not_true, Bool.not_false, List.length_map, List.length_set, bne_iff_ne, ne_eq, beq_iff_eq, bne_eq_false_iff_eq, beq_eq_false_iff_ne] at *); omega)) (at_map (by first | omega | ((try simp only [decide_eq_true_eq, decide_eq_false_iff_not, Bool.not_eq_true', Bool.not_true, Bool.not_false, List.length_map, List.length_set, bne_iff_ne, ne_eq, beq_iff_eq, bne_eq_false_iff_eq, beq_eq_false_iff_ne] at *); omega)))) ?_ | fail) | (show DRun _ _ _ _ (Oper.mk _ (Op.call _) _ _ _ (_) :: _) _ _ _; first | refine d_l rfl rfl (loc_callF' rfl rfl rfl rfl rfl rfl (c203 _ _ _ (hD.bnd _ (by first | omega | ((try simp only [decide_eq_true_eq, decide_eq_false_iff_not, Bool.not_eq_true', Bool.not_true, Bool.not_false, List.length_map, List.length_set, bne_iff_ne, ne_eq, beq_iff_eq, bne_eq_false_iff_eq, beq_eq_false_iff_ne] at *); omega)))) rfl) ?_ | fail) | fail) | (show Exists _; first | refine Exists.intro ((p.1 + 1, p.2 * ((at_ ds p.1).hi - (at_ ds p.1).lo + 1) + at_ xs p.1 - (at_ ds p.1).lo)) ⟨?_, ?_, (by first | exact subL_nil | exact (subL_cons rfl subL_nil) | exact (subL_cons rfl (subL_cons rfl subL_nil)) | exact (subL_cons rfl (subL_cons rfl (subL_cons rfl subL_nil))) | exact (subL_cons rfl (subL_cons rfl (subL_cons rfl (subL_cons rfl subL_nil)))) | exact (subL_cons rfl (subL_cons rfl (subL_cons rfl (subL_cons rfl (subL_cons rfl subL_nil))))) | exact (subL_cons rfl (subL_cons rfl (subL_cons rfl (subL_cons rfl (subL_cons rfl (subL_cons rfl subL_nil)))))) | exact (subL_cons rfl (subL_cons rfl (subL_cons rfl (subL_cons rfl (subL_cons rfl (subL_cons rfl (subL_cons rfl subL_nil))))))) | exact (subL_cons rfl (subL_cons rfl (subL_cons rfl (subL_cons rfl (subL_cons rfl (subL_cons rfl (subL_cons rfl (subL_cons rfl subL_nil))))))))), (subL_cons rfl (subL_cons rfl subL_nil)), (subL_cons rfl (subL_cons rfl (subL_cons rfl subL_nil)))⟩ | fail) | fail)
        · exact ⟨Nat.zero_le _, rfl, by decide, by show (0 : Int) < 1; decide⟩
        · have hlt : p.1 < ds.length := by simpa using ‹decide ((p.1 : Int) < ((ds.map encDim).length : Int)) = true›
          have hr := row_less hn0 hnP (hD.ext _ hlt) (hV.part _ hlt) (hxb _ hlt).1 (hxb _ hlt).2
          refine ⟨hlt, ?_, hr.1, ?_⟩
          · rw [hs, row_step hlt (by omega)]; rfl
          · show _ < prodF (ds.take (p.1 + 1))
            rw [prod_take hlt]; exact hr.2
        · have hlt : p.1 < ds.length := by simpa using ‹decide ((p.1 : Int) < ((ds.map encDim).length : Int)) = true›
          show ds.length - (p.1 + 1) < ds.length - p.1
          omega
        · have hge : ds.length ≤ p.1 := by simpa using ‹decide ((p.1 : Int) < ((ds.map encDim).length : Int)) = false›
          rw [indexF_in hv hl hof, hs, List.drop_eq_nil_of_le hge]; rfl
      · have hb2 : (!ofF ds xs) = true := by simp [hof]
        repeat' (first | (show OkOps _ _ _ _ _ _; first | refine okops_nil ?_ | refine s_plain tabOk rfl rfl rfl rfl rfl ?_ | (show OkOps _ _ _ (Oper.mk _ (Op.call _) _ _ _ (_) :: _) _ _; first | refine s_callF rfl rfl rfl rfl rfl rfl rfl rfl (c132 _) rfl ?_ | refine s_callF rfl rfl rfl rfl rfl rfl rfl rfl (c204 _ _) rfl ?_ | fail) | fail) | (show OkC _ _ _ _ _; first | refine ok_seq ?_ | refine ok_region ?_ | refine ok_skip ?_ | refine ok_ret ?_ | refine ok_condKT rfl (by assumption) ?_ | refine ok_condKF rfl (by assumption) ?_ | fail) | (show thenQ _ _ _ _; first | refine then_n ?_ | refine then_r ?_ | fail) | (show RetQ _ _ _ _ _ _; first | refine ret_leaf (.inl rfl) rfl rfl ?_ | fail) | fail)
        all_goals (rw [indexF_out hv hl (by simpa using hof)]; rfl)
    · have hb1 : (((xs.map encInt).length : Int) != ((ds.map encDim).length : Int)) = true := by simp; omega
      repeat' (first | (show OkOps _ _ _ _ _ _; first | refine okops_nil ?_ | refine s_plain tabOk rfl rfl rfl rfl rfl ?_ | (show OkOps _ _ _ (Oper.mk _ (Op.call _) _ _ _ (_) :: _) _ _; first | refine s_callF rfl rfl rfl rfl rfl rfl rfl rfl (c132 _) rfl ?_ | fail) | fail) | (show OkC _ _ _ _ _; first | refine ok_seq ?_ | refine ok_region ?_ | refine ok_skip ?_ | refine ok_ret ?_ | refine ok_condKT rfl (by assumption) ?_ | refine ok_condKF rfl (by assumption) ?_ | fail) | (show thenQ _ _ _ _; first | refine then_n ?_ | refine then_r ?_ | fail) | (show RetQ _ _ _ _ _ _; first | refine ret_leaf (.inl rfl) rfl rfl ?_ | fail) | fail)
      all_goals (rw [indexF_len hv hl]; rfl)
  · have hb0 : ((volF ds).2 != 0) = true := by simp [hv]
    repeat' (first | (show OkOps _ _ _ _ _ _; first | refine okops_nil ?_ | refine s_plain tabOk rfl rfl rfl rfl rfl ?_ | (show OkOps _ _ _ (Oper.mk _ (Op.call _) _ _ _ (_) :: _) _ _; first | refine s_callF rfl rfl rfl rfl rfl rfl rfl rfl (c132 _) rfl ?_ | fail) | fail) | (show OkC _ _ _ _ _; first | refine ok_seq ?_ | refine ok_region ?_ | refine ok_ret ?_ | refine ok_condKT rfl (by assumption) ?_ | fail) | (show thenQ _ _ _ _; first | refine then_n ?_ | refine then_r ?_ | fail) | (show RetQ _ _ _ _ _ _; first | refine ret_leaf (.inl rfl) rfl rfl ?_ | fail) | fail)
    all_goals (rw [indexF_vol hv]; rfl)
theorem coord_vol {ds : List Dim} {k : Int} (h : (volF ds).2 ≠ 0) : coordF ds k = (none, (volF ds).2) := by unfold coordF; rw [if_pos h]
theorem coord_out {ds : List Dim} {k : Int} (h : (volF ds).2 = 0) (h2 : k < 0 ∨ (volF ds).1 ≤ k) : coordF ds k = (none, 3) := by unfold coordF; rw [if_neg (by simp [h]), if_pos h2]
theorem coord_in {ds : List Dim} {k : Int} (h : (volF ds).2 = 0) (h2 : ¬ (k < 0 ∨ (volF ds).1 ≤ k)) : coordF ds k = (some (unG ds k).1, 0) := by unfold coordF; rw [if_neg (by simp [h]), if_neg h2]
def coordAV : Option (List Int) × Int → AV
  | (some x, e) => .tup [(false, [.d (encInts x)]), (false, [.d (.int .i64 e)])]
  | (none, e) => .tup [(false, [.d .nil]), (false, [.d (.int .i64 e)])]
theorem un_rep {j : Nat} {X : List Int} {y : Int} : (List.replicate (j + 1) 0 ++ X).set j y = List.replicate j 0 ++ y :: X := by
  induction j with
  | zero => rfl
  | succ j ih => show 0 :: (List.replicate (j + 1) 0 ++ X).set j y = _; rw [ih]; rfl
theorem un_step {ds : List Dim} {k : Int} {j : Nat} (h : j < ds.length) : unG (ds.drop j) k = (((at_ ds j).lo + (unG (ds.drop (j + 1)) k).2 % extF (at_ ds j)) :: (unG (ds.drop (j + 1)) k).1, (unG (ds.drop (j + 1)) k).2 / extF (at_ ds j)) := by
  rw [at_drop h]; rfl
theorem quot_w {a e : Int} (h0 : 0 ≤ a) (h1 : a ≤ 4611686018427387904) (he : 1 ≤ e) : IntKind.i64.wrap (a / e) = a / e ∧ 0 ≤ a / e ∧ a / e ≤ 4611686018427387904 := by
  have h2 : 0 ≤ a / e := Int.ediv_nonneg h0 (by omega)
  have h3 : a / e ≤ a := Int.ediv_le_self _ h0
  exact ⟨wrap64 (by omega) (by omega), h2, by omega⟩
theorem rem_w {a e lo hi : Int} (he : e = hi - lo + 1) (h : -1073741824 ≤ lo ∧ lo ≤ 1073741824 ∧ lo ≤ hi ∧ hi ≤ 1073741825) : IntKind.i64.wrap (lo + a % e) = lo + a % e := by
  have h1 := Int.emod_nonneg a (b := e) (by omega)
  have h2 := Int.emod_lt_of_pos a (b := e) (by omega)
  exact wrap64 (by omega) (by omega)
end Go.Proofs.YtpejdgkaapnekaaGreat
namespace Go.Proofs.YtpejdgkaapnekaaGreat
open Go Go.Abs
attribute [local irreducible] OkOps OkC DRun thenQ blockQ RetQ
set_option maxRecDepth 10000
theorem c249 (l : List Int) (v : Int) : CallA Tryz.prog 249 [.one (.d (encInts l)), .one (.d (.int .i64 v))] [] (.one (.d (.int .i64 (idxGo (fun x => v == x) l 0)))) [] := by
  refine enter tabOk Tryz.func249 rfl (by decide +kernel) rfl fun hok w0 σ0 φ0 M => ?_
  have h1 := hok.1.sl; clear hok; simp only [List.length_map] at h1; replace h1 := h1.1
  repeat' (first | (show OkOps _ _ _ _ _ _; first | refine okops_nil ?_ | refine s_plain tabOk rfl rfl rfl rfl rfl ?_ | (show OkOps _ _ _ (Oper.mk _ (Op.binOp .add _ _ _ _) _ _ _ (_) :: _) _ _; first | refine s_e envOk rfl rfl rfl (step3_add rfl rfl rfl rfl (wrap64 (by omega) (by omega))) ?_ | fail) | (show OkOps _ _ _ (Oper.mk _ (Op.indexAddr _ _ _) _ _ _ (_) :: _) _ _; first | refine s_e envOk rfl rfl rfl (step3_idx rfl rfl rfl rfl rfl (by first | omega | ((try simp only [decide_eq_true_eq, decide_eq_false_iff_not, Bool.not_eq_true', Bool.not_true, Bool.not_false, List.length_map, List.length_set, bne_iff_ne, ne_eq, beq_iff_eq, bne_eq_false_iff_eq, beq_eq_false_iff_ne] at *); omega)) (at_map (by first | omega | ((try simp only [decide_eq_true_eq, decide_eq_false_iff_not, Bool.not_eq_true', Bool.not_true, Bool.not_false, List.length_map, List.length_set, bne_iff_ne, ne_eq, beq_iff_eq, bne_eq_false_iff_eq, beq_eq_false_iff_ne] at *); omega)))) ?_ | fail) | fail) | (show OkC _ _ _ _ _; first | refine ok_seq ?_ | refine ok_region ?_ | refine ok_block ?_ | refine ok_skip ?_ | refine ok_ret ?_ | refine ok_exit ?_ | refine ok_cond rfl (fun h => ?_) (fun h => ?_) | refine s_loop 2 rfl [(0, _), (1, _), (7, _)] (subL_cons rfl (subL_cons rfl (subL_cons rfl subL_nil))) (fun (k : Nat) => [(8, .one (.d (.int .i64 (k : Int))))]) (fun (k : Nat) => k ≤ l.length ∧ idxGo (fun x => v == x) l 0 = idxGo (fun x => v == x) (l.drop k) k) (fun (k : Nat) => l.length - k) 0 (subL_cons rfl subL_nil) ?_ (fun k ⟨hk, hs⟩ => ?_) | fail) | (show thenQ _ _ _ _; first | refine then_n ?_ | refine then_r ?_ | refine then_x ?_ | fail) | (show blockQ _ _ _ _; first | refine block_n ?_ | refine block_r ?_ | refine block_x rfl ?_ | fail) | (show RetQ _ _ _ _ _ _; first | refine ret_leaf (.inl rfl) rfl rfl ?_ | fail) | (show Exists _; first | refine Exists.intro (k + 1) ⟨?_, ?_, (by first | exact subL_nil | exact (subL_cons rfl subL_nil) | exact (subL_cons rfl (subL_cons rfl subL_nil)) | exact (subL_cons rfl (subL_cons rfl (subL_cons rfl subL_nil))) | exact (subL_cons rfl (subL_cons rfl (subL_cons rfl (subL_cons rfl subL_nil)))) | exact (subL_cons rfl (subL_cons rfl (subL_cons rfl (subL_cons rfl (subL_cons rfl subL_nil))))) | exact (subL_cons rfl (subL_cons rfl (subL_cons rfl (subL_cons rfl (subL_cons rfl (subL_cons rfl subL_nil)))))) | exact (subL_cons rfl (subL_cons rfl (subL_cons rfl (subL_cons rfl (subL_cons rfl (subL_cons rfl (subL_cons rfl subL_nil))))))) | exact (subL_cons rfl (subL_cons rfl (subL_cons rfl (subL_cons rfl (subL_cons rfl (subL_cons rfl (subL_cons rfl (subL_cons rfl subL_nil))))))))), (subL_cons rfl subL_nil), (subL_cons rfl (subL_cons rfl (subL_cons rfl subL_nil)))⟩ | fail) | fail)
  all_goals (try (((simp_all [idxGo, at_drop, List.drop_eq_nil_of_le]) <;> first | omega | (rw [Bool.eq_iff_iff]; simp; omega) | grind); done))
theorem c206 (l : List Int) (v : Int) : CallA Tryz.prog 206 [.one (.d (encInts l)), .one (.d (.int .i64 v))] [] (.one (.d (.bool (l.contains v)))) [] := by
  refine enter tabOk Tryz.func206 rfl (by decide +kernel) rfl fun hok w0 σ0 φ0 M => ?_
  clear hok
  repeat' (first | (show OkOps _ _ _ _ _ _; first | refine okops_nil ?_ | refine s_plain tabOk rfl rfl rfl rfl rfl ?_ | (show OkOps _ _ _ (Oper.mk _ (Op.call _) _ _ _ (_) :: _) _ _; first | refine s_callF rfl rfl rfl rfl rfl rfl rfl rfl (c249 _ _) rfl ?_ | fail) | fail) | (show OkC _ _ _ _ _; first | refine ok_seq ?_ | refine ok_region ?_ | refine ok_ret ?_ | fail) | (show thenQ _ _ _ _; first | refine then_n ?_ | fail) | (show RetQ _ _ _ _ _ _; first | refine ret_leaf (.inl rfl) rfl rfl ?_ | fail) | fail)
  all_goals
    rw [idxAny]
    have e : (l.any fun x => v == x) = l.contains v := by
      rw [Bool.eq_iff_iff]; simp
    rw [e]
theorem c206e (ys : List (List D)) (l : List Int) (v : Int) (h : ys = l.map encInt) : CallA Tryz.prog 206 [.one (.d (.sl 1 8 ys)), .one (.d (.int .i64 v))] [] (.one (.d (.bool (l.contains v)))) [] := by
  subst h; exact c206 l v
def selAV : Option (List Int) → AV
  | some ks => .tup [(false, [.d (encInts ks)]), (false, [.d (.bool true)])]
  | none => .tup [(false, [.d .nil]), (false, [.d (.bool false)])]
theorem sel_step {ds : List Dim} {n : List UInt8} {r : List (List UInt8)} {acc : List Int} : selGo ds acc (n :: r) = if dimX ds n < 0 then none else if acc.contains (dimX ds n) then none else selGo ds (acc ++ [dimX ds n]) r := rfl
theorem c138 (ds : List Dim) (names : List (List UInt8)) (hn : names.length ≤ 1048576) : CallA Tryz.prog 138 [.one (.d (encDims ds)), .one (.d (encNames names)), .one (.d (.fn 139 []))] [] (selAV (selGo ds [] names)) [] := by
  refine enter tabOk Tryz.func138 rfl (by decide +kernel) rfl fun hok w0 σ0 φ0 M => ?_
  clear hok
  repeat' (first | (show OkOps _ _ _ _ _ _; first | (show OkOps _ _ _ (Oper.mk _ (Op.call _) _ _ _ (_) :: _) _ _; first | refine s_callFS [10] rfl rfl rfl rfl rfl rfl rfl rfl rfl (c206e _ ((names.take p.1).map (dimX ds)) _ (by rw [List.take_of_length_le (by rw [hr]; simp; omega), hr]; simp [List.map_map, Function.comp_def])) rfl ?_ | fail) | refine okops_nil ?_ | refine s_plain tabOk rfl rfl rfl rfl rfl ?_ | (show OkOps _ _ _ (Oper.mk _ (Op.call _) _ _ _ (_) :: _) _ _; first | refine s_append tabOk rfl rfl rfl rfl rfl rfl rfl rfl rfl rfl rfl rfl rfl (by first | omega | ((try simp only [decide_eq_true_eq, decide_eq_false_iff_not, List.length_map, List.length_cons, List.length_nil, List.length_append, List.length_take, List.length_drop, Int.toNat_natCast] at *); omega)) (by first | exact Nat.le_of_ble_eq_true rfl | omega | ((try simp only [decide_eq_true_eq, decide_eq_false_iff_not, List.length_map, List.length_cons, List.length_nil, List.length_append, List.length_take, List.length_drop, Int.toNat_natCast] at *); omega)) (Nat.le_of_ble_eq_true rfl) ?_ | fail) | (show OkOps _ _ _ (Oper.mk _ (_) _ _ _ (some _) :: _) _ _; first | refine s_guard rfl rfl (by first | assumption | rfl) ?_ | refine s_out rfl rfl (by first | assumption | rfl) rfl rfl ?_ | refine s_split rfl rfl rfl rfl (fun h => ?_) (fun h => ?_) | fail) | (show OkOps _ _ _ (Oper.mk _ (Op.binOp .add _ _ _ _) _ _ _ (_) :: _) _ _; first | refine s_e envOk rfl rfl rfl (step3_add rfl rfl rfl rfl (wrap64 (by omega) (by omega))) ?_ | fail) | (show OkOps _ _ _ (Oper.mk _ (Op.pick _ _ _) _ _ _ (_) :: _) _ _; first | refine s_e envOk rfl rfl rfl (step3_pickT rfl rfl (by first | rfl | assumption) rfl) ?_ | refine s_e envOk rfl rfl rfl (step3_pickF rfl rfl (by first | rfl | assumption) rfl) ?_ | fail) | (show OkOps _ _ _ (Oper.mk _ (Op.indexAddr _ _ _) _ _ _ (_) :: _) _ _; first | refine s_e envOk rfl rfl rfl (step3_idx rfl rfl rfl rfl rfl (by first | omega | ((try simp only [decide_eq_true_eq, decide_eq_false_iff_not, Bool.not_eq_true', Bool.not_true, Bool.not_false, List.length_map, List.length_set, bne_iff_ne, ne_eq, beq_iff_eq, bne_eq_false_iff_eq, beq_eq_false_iff_ne] at *); omega)) (at_map (by first | omega | ((try simp only [decide_eq_true_eq, decide_eq_false_iff_not, Bool.not_eq_true', Bool.not_true, Bool.not_false, List.length_map, List.length_set, bne_iff_ne, ne_eq, beq_iff_eq, bne_eq_false_iff_eq, beq_eq_false_iff_ne] at *); omega)))) ?_ | fail) | (show OkOps _ _ _ (Oper.mk _ (Op.call _) _ _ _ (_) :: _) _ _; first | refine s_callF rfl rfl rfl rfl rfl rfl rfl rfl (c195 _ _) rfl ?_ | fail) | refine s_new envOk 0 rfl rfl rfl rfl rfl rfl ?_ | fail) | (show OkC _ _ _ _ _; first | refine okc_imp (imp_sealL (dl := [10]) rfl) (ok_ret ?_) | refine ok_seq ?_ | refine ok_region ?_ | refine ok_block ?_ | refine ok_skip ?_ | refine ok_exit ?_ | refine ok_condT rfl ?_ | refine ok_cond rfl (fun h => ?_) (fun h => ?_) | refine s_loopN 3 rfl (imp_adopt (s := 8) (id := 10) (k := 1) (b := 8) rfl rfl rfl rfl) [(0, _), (2, _), (12, _), (13, _)] (subL_cons rfl (subL_cons rfl (subL_cons rfl (subL_cons rfl subL_nil)))) (fun (bN : Bool × Bool) (p : Nat × List (List D)) => [(8, .one (.own 10 p.1)), (14, .one (.d (.int .i64 (p.1 : Int))))]) (fun (bN : Bool × Bool) (p : Nat × List (List D)) => [(10, .row 1 8 p.2)]) (fun (p : Nat × List (List D)) => p.1 ≤ names.length ∧ p.2 = (names.take p.1).map (fun n => encInt (dimX ds n)) ∧ selGo ds [] names = selGo ds ((names.take p.1).map (dimX ds)) (names.drop p.1)) (fun (p : Nat × List (List D)) => names.length - p.1) (0, []) (subL_cons rfl (subL_cons rfl subL_nil)) (by first | exact subL_nil | exact (subL_cons rfl subL_nil) | exact (subL_cons rfl (subL_cons rfl subL_nil)) | exact (subL_cons rfl (subL_cons rfl (subL_cons rfl subL_nil))) | exact (subL_cons rfl (subL_cons rfl (subL_cons rfl (subL_cons rfl subL_nil)))) | exact (subL_cons rfl (subL_cons rfl (subL_cons rfl (subL_cons rfl (subL_cons rfl subL_nil))))) | exact (subL_cons rfl (subL_cons rfl (subL_cons rfl (subL_cons rfl (subL_cons rfl (subL_cons rfl subL_nil)))))) | exact (subL_cons rfl (subL_cons rfl (subL_cons rfl (subL_cons rfl (subL_cons rfl (subL_cons rfl (subL_cons rfl subL_nil))))))) | exact (subL_cons rfl (subL_cons rfl (subL_cons rfl (subL_cons rfl (subL_cons rfl (subL_cons rfl (subL_cons rfl (subL_cons rfl subL_nil))))))))) (fun b y => by obtain ⟨b1, b2⟩ := b; cases b1 <;> cases b2 <;> first | exact Imp.refl _ | exact imp_ren qN (by kernel_rfl)) ?_ (fun p ⟨hk, hr, hs⟩ => ?_) | fail) | (show thenQ _ _ _ _; first | refine then_n ?_ | refine then_r ?_ | refine then_x ?_ | fail) | (show blockQ _ _ _ _; first | refine block_n ?_ | refine block_r ?_ | refine block_x rfl ?_ | fail) | (show RetQ _ _ _ _ _ _; first | refine ret_leaf (.inl rfl) rfl rfl ?_ | fail) | (show Exists _; first | refine Exists.intro ((p.1 + 1, p.2.take p.1 ++ [[.int .i64 (dimX ds (at_ names p.1))]])) (Exists.intro (false, false) ⟨?_, ?_, (by first | exact subL_nil | exact (subL_cons rfl subL_nil) | exact (subL_cons rfl (subL_cons rfl subL_nil)) | exact (subL_cons rfl (subL_cons rfl (subL_cons rfl subL_nil))) | exact (subL_cons rfl (subL_cons rfl (subL_cons rfl (subL_cons rfl subL_nil)))) | exact (subL_cons rfl (subL_cons rfl (subL_cons rfl (subL_cons rfl (subL_cons rfl subL_nil))))) | exact (subL_cons rfl (subL_cons rfl (subL_cons rfl (subL_cons rfl (subL_cons rfl (subL_cons rfl subL_nil)))))) | exact (subL_cons rfl (subL_cons rfl (subL_cons rfl (subL_cons rfl (subL_cons rfl (subL_cons rfl (subL_cons rfl subL_nil))))))) | exact (subL_cons rfl (subL_cons rfl (subL_cons rfl (subL_cons rfl (subL_cons rfl (subL_cons rfl (subL_cons rfl (subL_cons rfl subL_nil))))))))), (subL_cons rfl (subL_cons rfl subL_nil)), (subL_cons rfl (subL_cons rfl (subL_cons rfl (subL_cons rfl subL_nil))))⟩) | fail) | fail)
  · exact ⟨Nat.zero_le _, rfl, rfl⟩
  · have hlt : p.1 < names.length := by simpa using ‹decide ((p.1 : Int) < ((names.map encName).length : Int)) = true›
    have hd : ¬ dimX ds (at_ names p.1) < 0 := of_decide_eq_false ‹decide (idxGo (fun a : Dim => a.name == at_ names (p.1 : Int).toNat) ds 0 < 0) = false›
    have hc : ((names.take p.1).map (dimX ds)).contains (dimX ds (at_ names p.1)) = true := h
    rw [hs, at_drop hlt, sel_step, if_neg hd, if_pos hc]; rfl
  · have hlt : p.1 < names.length := by simpa using ‹decide ((p.1 : Int) < ((names.map encName).length : Int)) = true›
    have hd : ¬ dimX ds (at_ names p.1) < 0 := of_decide_eq_false ‹decide (idxGo (fun a : Dim => a.name == at_ names (p.1 : Int).toNat) ds 0 < 0) = false›
    have hc : ¬ ((names.take p.1).map (dimX ds)).contains (dimX ds (at_ names p.1)) = true := by rw [Bool.not_eq_true]; exact h
    refine ⟨hlt, row_app (fun n => encInt (dimX ds n)) names hr hlt, ?_⟩
    rw [hs, at_drop hlt, sel_step, if_neg hd, if_neg hc]
    show _ = selGo ds ((names.take (p.1 + 1)).map (dimX ds)) (names.drop (p.1 + 1))
    rw [at_take hlt, List.map_append]; rfl
  · have hlt : p.1 < names.length := by simpa using ‹decide ((p.1 : Int) < ((names.map encName).length : Int)) = true›
    show names.length - (p.1 + 1) < names.length - p.1
    omega
  · have hlt : p.1 < names.length := by simpa using ‹decide ((p.1 : Int) < ((names.map encName).length : Int)) = true›
    have hd : dimX ds (at_ names p.1) < 0 := of_decide_eq_true h
    rw [hs, at_drop hlt, sel_step, if_pos hd]; rfl
  · have hge : names.length ≤ p.1 := by simpa using h
    have e : p.2.take p.1 = ((names.take p.1).map (dimX ds)).map encInt := by rw [List.take_of_length_le (by rw [hr]; simp; omega), hr, List.map_map]; rfl
    rw [hs, List.drop_eq_nil_of_le hge]
    show AV.tup [(false, [.d (.sl 1 8 (p.2.take p.1))]), _] = _
    rw [e]; rfl
def mixL {α : Type} (Y : List α) (z : α) (k : Nat) : List α := Y.take k ++ List.replicate (Y.length - k) z
theorem mixL_next {α : Type} [Inhabited α] {Y : List α} {z : α} {k : Nat} (h : k < Y.length) : (mixL Y z k).set k (at_ Y k) = mixL Y z (k + 1) := by
  unfold mixL
  have hl : (Y.take k).length = k := by simp; omega
  obtain ⟨m, hm⟩ : ∃ m, Y.length - k = m + 1 := ⟨Y.length - k - 1, by omega⟩
  rw [List.set_append, if_neg (by omega), hl, Nat.sub_self, hm, List.replicate_succ, List.set_cons_zero, at_take h, List.append_assoc, show Y.length - (k + 1) = m by omega]
  rfl
theorem mixL_all {α : Type} {Y : List α} {z : α} : mixL Y z Y.length = Y := by simp [mixL]
theorem mixL_zero {α : Type} {Y : List α} {z : α} : mixL Y z 0 = List.replicate Y.length z := by simp [mixL]
theorem c140 (l ks : List Int) (hn : ks.length ≤ 1000) (hks : ∀ i, i < ks.length → 0 ≤ at_ ks i ∧ (at_ ks i).toNat < l.length) : CallA Tryz.prog 140 [.one (.d (encInts l)), .one (.d (encInts ks))] [] (.one (.d (encInts (pickF l ks)))) [] := by
  refine enter tabOk Tryz.func140 rfl (by decide +kernel) rfl fun hok w0 σ0 φ0 M => ?_
  clear hok
  repeat' (first | (show OkOps _ _ _ _ _ _; first | (show OkOps _ _ _ (Oper.mk _ (Op.makeSlice _ _ _) _ _ _ (_) :: _) _ _; first | refine s_new envOk 10 rfl rfl rfl (step3_makeSlice (n := ks.length) rfl rfl rfl rfl rfl (by simp) (by simp) (by omega) (Nat.le_of_ble_eq_true rfl)) rfl rfl ?_ | fail) | (show OkOps _ _ _ (Oper.mk _ (Op.indexAddr _ _ _) _ _ _ (_) :: _) _ _; first | refine s_e envOk rfl rfl rfl (step3_idx rfl rfl rfl rfl rfl (hks _ (by first | omega | ((try simp only [decide_eq_true_eq, decide_eq_false_iff_not, Bool.not_eq_true', Bool.not_true, Bool.not_false, List.length_map, List.length_set, bne_iff_ne, ne_eq, beq_iff_eq, bne_eq_false_iff_eq, beq_eq_false_iff_ne] at *); omega))).1 (at_map (hks _ (by first | omega | ((try simp only [decide_eq_true_eq, decide_eq_false_iff_not, Bool.not_eq_true', Bool.not_true, Bool.not_false, List.length_map, List.length_set, bne_iff_ne, ne_eq, beq_iff_eq, bne_eq_false_iff_eq, beq_eq_false_iff_ne] at *); omega))).2)) ?_ | fail) | refine okops_nil ?_ | refine s_plain tabOk rfl rfl rfl rfl rfl ?_ | (show OkOps _ _ _ (Oper.mk _ (Op.binOp .add _ _ _ _) _ _ _ (_) :: _) _ _; first | refine s_e envOk rfl rfl rfl (step3_add rfl rfl rfl rfl (wrap64 (by omega) (by omega))) ?_ | fail) | (show OkOps _ _ _ (Oper.mk _ (Op.indexAddr _ _ _) _ _ _ (_) :: _) _ _; first | refine s_e envOk rfl rfl rfl (step3_idxOwn rfl rfl rfl rfl rfl rfl (by first | omega | ((try simp only [decide_eq_true_eq, decide_eq_false_iff_not, Bool.not_eq_true', Bool.not_true, Bool.not_false, List.length_map, List.length_set, bne_iff_ne, ne_eq, beq_iff_eq, bne_eq_false_iff_eq, beq_eq_false_iff_ne] at *); omega)) (by first | omega | ((try simp only [decide_eq_true_eq, decide_eq_false_iff_not, Bool.not_eq_true', Bool.not_true, Bool.not_false, List.length_map, List.length_set, bne_iff_ne, ne_eq, beq_iff_eq, bne_eq_false_iff_eq, beq_eq_false_iff_ne] at *); omega))) ?_ | refine s_e envOk rfl rfl rfl (step3_idx rfl rfl rfl rfl rfl (by first | omega | ((try simp only [decide_eq_true_eq, decide_eq_false_iff_not, Bool.not_eq_true', Bool.not_true, Bool.not_false, List.length_map, List.length_set, bne_iff_ne, ne_eq, beq_iff_eq, bne_eq_false_iff_eq, beq_eq_false_iff_ne] at *); omega)) (at_map (by first | omega | ((try simp only [decide_eq_true_eq, decide_eq_false_iff_not, Bool.not_eq_true', Bool.not_true, Bool.not_false, List.length_map, List.length_set, bne_iff_ne, ne_eq, beq_iff_eq, bne_eq_false_iff_eq, beq_eq_false_iff_ne] at *); omega)))) ?_ | fail) | refine s_store envOk rfl rfl (step3_storeRow rfl rfl rfl rfl rfl rfl rfl rfl rfl (row_get (by assumption) (by first | omega | ((try simp only [decide_eq_true_eq, decide_eq_false_iff_not, Bool.not_eq_true', Bool.not_true, Bool.not_false, List.length_map, List.length_set, bne_iff_ne, ne_eq, beq_iff_eq, bne_eq_false_iff_eq, beq_eq_false_iff_ne] at *); omega))) rfl) ?_ | fail) | (show OkC _ _ _ _ _; first | refine okc_imp (imp_sealL (dl := [10]) rfl) (ok_ret ?_) | refine ok_seq ?_ | refine ok_region ?_ | refine ok_block ?_ | refine ok_skip ?_ | refine ok_exit ?_ | refine ok_cond rfl (fun h => ?_) (fun h => ?_) | refine s_loopM 3 rfl [(0, _), (5, _), (11, _), (12, _)] (subL_cons rfl (subL_cons rfl (subL_cons rfl (subL_cons rfl subL_nil)))) (fun (p : Nat × List Int × List (List D)) => [(13, .one (.d (.int .i64 (p.1 : Int))))]) (fun (p : Nat × List Int × List (List D)) => [(10, .row 1 8 p.2.2)]) (fun (p : Nat × List Int × List (List D)) => p.1 ≤ ks.length ∧ p.2.2 = p.2.1.map encInt ∧ p.2.2.length = ks.length ∧ p.2.1 = mixL (pickF l ks) 0 p.1) (fun (p : Nat × List Int × List (List D)) => ks.length - p.1) (0, List.replicate ks.length 0, List.replicate ks.length [.int .i64 0]) (subL_cons rfl subL_nil) (by first | exact subL_nil | exact (subL_cons rfl subL_nil) | exact (subL_cons rfl (subL_cons rfl subL_nil)) | exact (subL_cons rfl (subL_cons rfl (subL_cons rfl subL_nil))) | exact (subL_cons rfl (subL_cons rfl (subL_cons rfl (subL_cons rfl subL_nil)))) | exact (subL_cons rfl (subL_cons rfl (subL_cons rfl (subL_cons rfl (subL_cons rfl subL_nil))))) | exact (subL_cons rfl (subL_cons rfl (subL_cons rfl (subL_cons rfl (subL_cons rfl (subL_cons rfl subL_nil)))))) | exact (subL_cons rfl (subL_cons rfl (subL_cons rfl (subL_cons rfl (subL_cons rfl (subL_cons rfl (subL_cons rfl subL_nil))))))) | exact (subL_cons rfl (subL_cons rfl (subL_cons rfl (subL_cons rfl (subL_cons rfl (subL_cons rfl (subL_cons rfl (subL_cons rfl subL_nil))))))))) ?_ (fun p ⟨hk, hr, hrl, hx⟩ => ?_) | fail) | (show thenQ _ _ _ _; first | refine then_n ?_ | refine then_x ?_ | fail) | (show blockQ _ _ _ _; first | refine block_n ?_ | refine block_x rfl ?_ | fail) | (show RetQ _ _ _ _ _ _; first | refine ret_leaf (.inl rfl) rfl rfl ?_ | fail) | (show Exists _; first | refine Exists.intro ((p.1 + 1, p.2.1.set p.1 (at_ l (at_ ks p.1).toNat), p.2.2.set p.1 [.int .i64 (at_ l (at_ ks p.1).toNat)])) ⟨?_, ?_, (by first | exact subL_nil | exact (subL_cons rfl subL_nil) | exact (subL_cons rfl (subL_cons rfl subL_nil)) | exact (subL_cons rfl (subL_cons rfl (subL_cons rfl subL_nil))) | exact (subL_cons rfl (subL_cons rfl (subL_cons rfl (subL_cons rfl subL_nil)))) | exact (subL_cons rfl (subL_cons rfl (subL_cons rfl (subL_cons rfl (subL_cons rfl subL_nil))))) | exact (subL_cons rfl (subL_cons rfl (subL_cons rfl (subL_cons rfl (subL_cons rfl (subL_cons rfl subL_nil)))))) | exact (subL_cons rfl (subL_cons rfl (subL_cons rfl (subL_cons rfl (subL_cons rfl (subL_cons rfl (subL_cons rfl subL_nil))))))) | exact (subL_cons rfl (subL_cons rfl (subL_cons rfl (subL_cons rfl (subL_cons rfl (subL_cons rfl (subL_cons rfl (subL_cons rfl subL_nil))))))))), (subL_cons rfl subL_nil), (subL_cons rfl (subL_cons rfl (subL_cons rfl (subL_cons rfl subL_nil))))⟩ | fail) | fail)
  · exact ⟨Nat.zero_le _, by simp [encInt], by simp, by rw [mixL_zero]; simp [pickF]⟩
  · have hlt : p.1 < ks.length := by simpa using h
    refine ⟨hlt, ?_, by simp [hrl], ?_⟩
    · show p.2.2.set p.1 _ = List.map encInt (p.2.1.set p.1 _)
      rw [hr, List.map_set]; rfl
    · show p.2.1.set p.1 _ = mixL (pickF l ks) 0 (p.1 + 1)
      rw [hx, ← mixL_next (by rw [pick_len]; exact hlt), pick_at hlt]
  · have hlt : p.1 < ks.length := by simpa using h
    show ks.length - (p.1 + 1) < ks.length - p.1
    omega
  · have hge : ks.length ≤ p.1 := by simpa using h
    have e : p.2.2.take ks.length = (pickF l ks).map encInt := by
      rw [List.take_of_length_le (by omega), hr, hx, show p.1 = (pickF l ks).length by rw [pick_len]; omega, mixL_all]
    show AV.one (AC.d (.sl 1 8 (p.2.2.take ks.length))) = _
    rw [e]; rfl
theorem c141 (l : List Dim) (ks : List Int) (hn : ks.length ≤ 1000) (hks : ∀ i, i < ks.length → 0 ≤ at_ ks i ∧ (at_ ks i).toNat < l.length) : CallA Tryz.prog 141 [.one (.d (encDims l)), .one (.d (encInts ks))] [] (.one (.d (encDims (pickF l ks)))) [] := by
  refine enter tabOk Tryz.func141 rfl (by decide +kernel) rfl fun hok w0 σ0 φ0 M => ?_
  clear hok
  repeat' (first | (show OkOps _ _ _ _ _ _; first | (show OkOps _ _ _ (Oper.mk _ (Op.makeSlice _ _ _) _ _ _ (_) :: _) _ _; first | refine s_new envOk 10 rfl rfl rfl (step3_makeSlice (n := ks.length) rfl rfl rfl rfl rfl (by simp) (by simp) (by omega) (Nat.le_of_ble_eq_true rfl)) rfl rfl ?_ | fail) | (show OkOps _ _ _ (Oper.mk _ (Op.indexAddr _ _ _) _ _ _ (_) :: _) _ _; first | refine s_e envOk rfl rfl rfl (step3_idx rfl rfl rfl rfl rfl (hks _ (by first | omega | ((try simp only [decide_eq_true_eq, decide_eq_false_iff_not, Bool.not_eq_true', Bool.not_true, Bool.not_false, List.length_map, List.length_set, bne_iff_ne, ne_eq, beq_iff_eq, bne_eq_false_iff_eq, beq_eq_false_iff_ne] at *); omega))).1 (at_map (hks _ (by first | omega | ((try simp only [decide_eq_true_eq, decide_eq_false_iff_not, Bool.not_eq_true', Bool.not_true, Bool.not_false, List.length_map, List.length_set, bne_iff_ne, ne_eq, beq_iff_eq, bne_eq_false_iff_eq, beq_eq_false_iff_ne] at *); omega))).2)) ?_ | fail) | refine okops_nil ?_ | refine s_plain tabOk rfl rfl rfl rfl rfl ?_ | (show OkOps _ _ _ (Oper.mk _ (Op.binOp .add _ _ _ _) _ _ _ (_) :: _) _ _; first | refine s_e envOk rfl rfl rfl (step3_add rfl rfl rfl rfl (wrap64 (by omega) (by omega))) ?_ | fail) | (show OkOps _ _ _ (Oper.mk _ (Op.indexAddr _ _ _) _ _ _ (_) :: _) _ _; first | refine s_e envOk rfl rfl rfl (step3_idxOwn rfl rfl rfl rfl rfl rfl (by first | omega | ((try simp only [decide_eq_true_eq, decide_eq_false_iff_not, Bool.not_eq_true', Bool.not_true, Bool.not_false, List.length_map, List.length_set, bne_iff_ne, ne_eq, beq_iff_eq, bne_eq_false_iff_eq, beq_eq_false_iff_ne] at *); omega)) (by first | omega | ((try simp only [decide_eq_true_eq, decide_eq_false_iff_not, Bool.not_eq_true', Bool.not_true, Bool.not_false, List.length_map, List.length_set, bne_iff_ne, ne_eq, beq_iff_eq, bne_eq_false_iff_eq, beq_eq_false_iff_ne] at *); omega))) ?_ | refine s_e envOk rfl rfl rfl (step3_idx rfl rfl rfl rfl rfl (by first | omega | ((try simp only [decide_eq_true_eq, decide_eq_false_iff_not, Bool.not_eq_true', Bool.not_true, Bool.not_false, List.length_map, List.length_set, bne_iff_ne, ne_eq, beq_iff_eq, bne_eq_false_iff_eq, beq_eq_false_iff_ne] at *); omega)) (at_map (by first | omega | ((try simp only [decide_eq_true_eq, decide_eq_false_iff_not, Bool.not_eq_true', Bool.not_true, Bool.not_false, List.length_map, List.length_set, bne_iff_ne, ne_eq, beq_iff_eq, bne_eq_false_iff_eq, beq_eq_false_iff_ne] at *); omega)))) ?_ | fail) | refine s_store envOk rfl rfl (step3_storeRow rfl rfl rfl rfl rfl rfl rfl rfl rfl (row_get (by assumption) (by first | omega | ((try simp only [decide_eq_true_eq, decide_eq_false_iff_not, Bool.not_eq_true', Bool.not_true, Bool.not_false, List.length_map, List.length_set, bne_iff_ne, ne_eq, beq_iff_eq, bne_eq_false_iff_eq, beq_eq_false_iff_ne] at *); omega))) rfl) ?_ | fail) | (show OkC _ _ _ _ _; first | refine okc_imp (imp_sealL (dl := [10]) rfl) (ok_ret ?_) | refine ok_seq ?_ | refine ok_region ?_ | refine ok_block ?_ | refine ok_skip ?_ | refine ok_exit ?_ | refine ok_cond rfl (fun h => ?_) (fun h => ?_) | refine s_loopM 3 rfl [(0, _), (5, _), (11, _), (12, _)] (subL_cons rfl (subL_cons rfl (subL_cons rfl (subL_cons rfl subL_nil)))) (fun (p : Nat × List Dim × List (List D)) => [(13, .one (.d (.int .i64 (p.1 : Int))))]) (fun (p : Nat × List Dim × List (List D)) => [(10, .row 3 32 p.2.2)]) (fun (p : Nat × List Dim × List (List D)) => p.1 ≤ ks.length ∧ p.2.2 = p.2.1.map encDim ∧ p.2.2.length = ks.length ∧ p.2.1 = mixL (pickF l ks) ⟨[], 0, 0⟩ p.1) (fun (p : Nat × List Dim × List (List D)) => ks.length - p.1) (0, List.replicate ks.length ⟨[], 0, 0⟩, List.replicate ks.length [.str [], .int .i64 0, .int .i64 0]) (subL_cons rfl subL_nil) (by first | exact subL_nil | exact (subL_cons rfl subL_nil) | exact (subL_cons rfl (subL_cons rfl subL_nil)) | exact (subL_cons rfl (subL_cons rfl (subL_cons rfl subL_nil))) | exact (subL_cons rfl (subL_cons rfl (subL_cons rfl (subL_cons rfl subL_nil)))) | exact (subL_cons rfl (subL_cons rfl (subL_cons rfl (subL_cons rfl (subL_cons rfl subL_nil))))) | exact (subL_cons rfl (subL_cons rfl (subL_cons rfl (subL_cons rfl (subL_cons rfl (subL_cons rfl subL_nil)))))) | exact (subL_cons rfl (subL_cons rfl (subL_cons rfl (subL_cons rfl (subL_cons rfl (subL_cons rfl (subL_cons rfl subL_nil))))))) | exact (subL_cons rfl (subL_cons rfl (subL_cons rfl (subL_cons rfl (subL_cons rfl (subL_cons rfl (subL_cons rfl (subL_cons rfl subL_nil))))))))) ?_ (fun p ⟨hk, hr, hrl, hx⟩ => ?_) | fail) | (show thenQ _ _ _ _; first | refine then_n ?_ | refine then_x ?_ | fail) | (show blockQ _ _ _ _; first | refine block_n ?_ | refine block_x rfl ?_ | fail) | (show RetQ _ _ _ _ _ _; first | refine ret_leaf (.inl rfl) rfl rfl ?_ | fail) | (show Exists _; first | refine Exists.intro ((p.1 + 1, p.2.1.set p.1 (at_ l (at_ ks p.1).toNat), p.2.2.set p.1 [.str (at_ l (at_ ks p.1).toNat).name, .int .i64 (at_ l (at_ ks p.1).toNat).lo, .int .i64 (at_ l (at_ ks p.1).toNat).hi])) ⟨?_, ?_, (by first | exact subL_nil | exact (subL_cons rfl subL_nil) | exact (subL_cons rfl (subL_cons rfl subL_nil)) | exact (subL_cons rfl (subL_cons rfl (subL_cons rfl subL_nil))) | exact (subL_cons rfl (subL_cons rfl (subL_cons rfl (subL_cons rfl subL_nil)))) | exact (subL_cons rfl (subL_cons rfl (subL_cons rfl (subL_cons rfl (subL_cons rfl subL_nil))))) | exact (subL_cons rfl (subL_cons rfl (subL_cons rfl (subL_cons rfl (subL_cons rfl (subL_cons rfl subL_nil)))))) | exact (subL_cons rfl (subL_cons rfl (subL_cons rfl (subL_cons rfl (subL_cons rfl (subL_cons rfl (subL_cons rfl subL_nil))))))) | exact (subL_cons rfl (subL_cons rfl (subL_cons rfl (subL_cons rfl (subL_cons rfl (subL_cons rfl (subL_cons rfl (subL_cons rfl subL_nil))))))))), (subL_cons rfl subL_nil), (subL_cons rfl (subL_cons rfl (subL_cons rfl (subL_cons rfl subL_nil))))⟩ | fail) | fail)
  · exact ⟨Nat.zero_le _, by simp [encDim], by simp, by rw [mixL_zero]; simp [pickF]⟩
  · have hlt : p.1 < ks.length := by simpa using h
    refine ⟨hlt, ?_, by simp [hrl], ?_⟩
    · show p.2.2.set p.1 _ = List.map encDim (p.2.1.set p.1 _)
      rw [hr, List.map_set]; rfl
    · show p.2.1.set p.1 _ = mixL (pickF l ks) ⟨[], 0, 0⟩ (p.1 + 1)
      rw [hx, ← mixL_next (by rw [pick_len]; exact hlt), pick_at hlt]
  · have hlt : p.1 < ks.length := by simpa using h
    show ks.length - (p.1 + 1) < ks.length - p.1
    omega
  · have hge : ks.length ≤ p.1 := by simpa using h
    have e : p.2.2.take ks.length = (pickF l ks).map encDim := by
      rw [List.take_of_length_le (by omega), hr, hx, show p.1 = (pickF l ks).length by rw [pick_len]; omega, mixL_all]
    show AV.one (AC.d (.sl 3 32 (p.2.2.take ks.length))) = _
    rw [e]; rfl
end Go.Proofs.YtpejdgkaapnekaaGreat
namespace Go.Proofs.YtpejdgkaapnekaaGreat
open Go Go.Abs
attribute [local irreducible] OkOps OkC DRun thenQ blockQ RetQ
set_option maxRecDepth 10000
end Go.Proofs.YtpejdgkaapnekaaGreat
namespace Go.Proofs.YtpejdgkaapnekaaGreat
open Go Go.Abs
attribute [local irreducible] OkOps OkC DRun thenQ blockQ RetQ
set_option maxRecDepth 10000
end Go.Proofs.YtpejdgkaapnekaaGreat
namespace Go.Proofs.YtpejdgkaapnekaaGreat
open Go Go.Abs
def putR (c : Cell) : List Cell → List Cell
  | [] => [c]
  | x :: r => if cmpF x.at' c.at' < 0 then x :: putR c r else if cmpF x.at' c.at' = 0 then c :: r else c :: x :: r
end Go.Proofs.YtpejdgkaapnekaaGreat
namespace Go.Abs
open Go
variable {V : Env} {st : St} {o : Oper}
end Go.Abs
namespace Go.Proofs.YtpejdgkaapnekaaGreat
open Go Go.Abs
attribute [local irreducible] OkOps OkC DRun thenQ blockQ RetQ
set_option maxRecDepth 10000
end Go.Proofs.YtpejdgkaapnekaaGreat
namespace Go.Proofs.YtpejdgkaapnekaaGreat
open Go Go.Abs
attribute [local irreducible] OkOps OkC DRun thenQ blockQ RetQ
set_option maxRecDepth 10000
end Go.Proofs.YtpejdgkaapnekaaGreat
namespace Go.Proofs.YtpejdgkaapnekaaGreat
open Go Go.Abs
attribute [local irreducible] OkOps OkC DRun thenQ blockQ RetQ
set_option maxRecDepth 10000
end Go.Proofs.YtpejdgkaapnekaaGreat
namespace Go.Proofs.YtpejdgkaapnekaaGreat
open Go Go.Abs
attribute [local irreducible] OkOps OkC DRun thenQ blockQ RetQ
set_option maxRecDepth 10000
end Go.Proofs.YtpejdgkaapnekaaGreat
namespace Go.Proofs.YtpejdgkaapnekaaGreat
open Go Go.Abs
attribute [local irreducible] OkOps OkC DRun thenQ blockQ RetQ
set_option maxRecDepth 10000
end Go.Proofs.YtpejdgkaapnekaaGreat
namespace Go.Proofs.YtpejdgkaapnekaaGreat
open Go Go.Abs
attribute [local irreducible] OkOps OkC DRun thenQ blockQ RetQ
set_option maxRecDepth 10000
end Go.Proofs.YtpejdgkaapnekaaGreat
namespace Go.Proofs.YtpejdgkaapnekaaGreat
open Go Go.Abs
attribute [local irreducible] OkOps OkC DRun thenQ blockQ RetQ
set_option maxRecDepth 10000
end Go.Proofs.YtpejdgkaapnekaaGreat
namespace Go.Proofs.YtpejdgkaapnekaaGreat
open Go Go.Abs
attribute [local irreducible] OkOps OkC DRun thenQ blockQ RetQ
set_option maxRecDepth 10000
end Go.Proofs.YtpejdgkaapnekaaGreat
namespace Go.Proofs.YtpejdgkaapnekaaGreat
open Go Go.Abs
attribute [local irreducible] OkOps OkC DRun thenQ blockQ RetQ
set_option maxRecDepth 10000
end Go.Proofs.YtpejdgkaapnekaaGreat
namespace Go.Proofs.YtpejdgkaapnekaaGreat
open Go Go.Abs
attribute [local irreducible] OkOps OkC DRun thenQ blockQ RetQ
set_option maxRecDepth 10000
end Go.Proofs.YtpejdgkaapnekaaGreat
namespace Go.Proofs.YtpejdgkaapnekaaGreat
open Go Go.Abs
attribute [local irreducible] OkOps OkC DRun thenQ blockQ RetQ
set_option maxRecDepth 10000
end Go.Proofs.YtpejdgkaapnekaaGreat
namespace Go.Proofs.YtpejdgkaapnekaaGreat
open Go Go.Abs
attribute [local irreducible] OkOps OkC DRun thenQ blockQ RetQ
set_option maxRecDepth 10000
end Go.Proofs.YtpejdgkaapnekaaGreat
namespace Go.Proofs.YtpejdgkaapnekaaGreat
open Go Go.Abs
attribute [local irreducible] OkOps OkC DRun thenQ blockQ RetQ
set_option maxRecDepth 10000
end Go.Proofs.YtpejdgkaapnekaaGreat
namespace Go.Proofs.YtpejdgkaapnekaaGreat
open Go Go.Abs
attribute [local irreducible] OkOps OkC DRun thenQ blockQ RetQ
set_option maxRecDepth 10000
end Go.Proofs.YtpejdgkaapnekaaGreat
namespace Go.Proofs.YtpejdgkaapnekaaGreat
open Go Go.Abs
attribute [local irreducible] OkOps OkC DRun thenQ blockQ RetQ
set_option maxRecDepth 10000
mutual
def countF : Scalar → Int → Int
  | .mk _ _ _ a, most => countLs a 1 most
def countLs : List Scalar → Int → Int → Int
  | [], n, _ => n
  | x :: r, n, most => if n ≤ most then countLs r (n + countF x (most - n)) most else n
end
end Go.Proofs.YtpejdgkaapnekaaGreat
namespace Go.Proofs.YtpejdgkaapnekaaGreat
open Go Go.Abs
attribute [local irreducible] OkOps OkC DRun thenQ blockQ RetQ
set_option maxRecDepth 10000
end Go.Proofs.YtpejdgkaapnekaaGreat
namespace Go.Proofs.YtpejdgkaapnekaaGreat
open Go Go.Abs
attribute [local irreducible] OkOps OkC DRun thenQ blockQ RetQ
set_option maxRecDepth 10000
def arity (op : Int) : Int := if 4 ≤ op ∧ op ≤ 8 then 1 else if 9 ≤ op ∧ op ≤ 21 then 2 else if op = 22 then 3 else 0
def zeroV (v : Val) : Bool := v.kind == 0 && (v.num == 0 && (v.den == 0 && v.str == []))
def partF (s : Scalar) : Bool :=
  if s.op = 1 then rightF s.val.kind s.val.num s.val.den s.val.str && (!(s.val.kind == 0) && (s.name == [] && (s.args.length : Int) == 0))
  else if s.op = 2 ∨ s.op = 3 then zeroV s.val && (s.args.length : Int) == 0
  else decide (0 < arity s.op) && (zeroV s.val && (s.name == [] && (s.args.length : Int) == arity s.op))
end Go.Proofs.YtpejdgkaapnekaaGreat
namespace Go.Proofs.YtpejdgkaapnekaaGreat
open Go Go.Abs
attribute [local irreducible] OkOps OkC DRun thenQ blockQ RetQ
set_option maxRecDepth 10000
mutual
def partsF : Scalar → Bool
  | .mk o n v a => partF (.mk o n v a) && partsL a
def partsL : List Scalar → Bool
  | [] => true
  | x :: r => partsF x && partsL r
end
end Go.Proofs.YtpejdgkaapnekaaGreat
namespace Go.Proofs.YtpejdgkaapnekaaGreat
open Go Go.Abs
mutual
def postL : Scalar → List Scalar
  | .mk o n v a => postLs a ++ [.mk o n v a]
def postLs : List Scalar → List Scalar
  | [] => []
  | x :: r => postL x ++ postLs r
end
end Go.Proofs.YtpejdgkaapnekaaGreat
namespace Go.Proofs.YtpejdgkaapnekaaGreat
open Go Go.Abs
attribute [local irreducible] OkOps OkC DRun thenQ blockQ RetQ
set_option maxRecDepth 10000
end Go.Proofs.YtpejdgkaapnekaaGreat
namespace Go.Proofs.YtpejdgkaapnekaaGreat
open Go Go.Abs
attribute [local irreducible] OkOps OkC DRun thenQ blockQ RetQ OkR normQ RoundQ AssignQ retQ
set_option maxRecDepth 10000
theorem c205 (ds : List Dim) : CallA Tryz.prog 205 [.one (.d (encDims ds))] [] (.one (.d (.fn 248 [.ptr [encDims ds]]))) [] := by
  refine enter tabOk Tryz.func205 rfl (by decide +kernel) rfl fun hok w0 σ0 φ0 M => ?_
  clear hok
  repeat' (first | (show OkOps _ _ _ _ _ _; first | refine okops_nil ?_ | refine s_plain tabOk rfl rfl rfl rfl rfl ?_ | (show OkOps _ _ _ (Oper.mk _ (Op.box _ _) _ _ _ (_) :: _) _ _; first | refine s_box 0 rfl rfl rfl rfl rfl rfl ?_ | fail) | refine s_mkF envOk rfl rfl rfl rfl rfl ?_ | fail) | (show OkC _ _ _ _ _; first | refine ok_seq ?_ | refine ok_region ?_ | refine ok_ret ?_ | fail) | (show thenQ _ _ _ _; first | refine then_n ?_ | fail) | (show RetQ _ _ _ _ _ _; first | refine ret_leaf (.inl rfl) rfl rfl ?_ | fail) | fail)
  all_goals rfl
def dimC (d : Dim) : AV := .agg [.d (.str d.name), .d (.int .i64 d.lo), .d (.int .i64 d.hi)]
theorem c248 (E : Nat → Sto) (hE : FamW E) (ds : List Dim) (hn : ds.length ≤ 1000)
    (hY : ∀ i : Int, 0 ≤ i → i < (ds.length : Int) → YieldA Tryz.prog 1000000 [.one (.d (.int .i64 i)), dimC (at_ ds i.toNat)] (E (i + 1).toNat) (.one (.d (.bool true))) (E i.toNat)) :
    CallA Tryz.prog 248 [.one (.yl 1000000), .one (.d (.ptr [encDims ds]))] (E ds.length) (.tup []) (E 0) := by
  refine enter tabOk Tryz.func248 rfl (by decide +kernel) rfl fun hok w0 σ0 φ0 M => ?_
  clear hok
  repeat' (first | (show OkOps _ _ _ _ _ _; first | refine okops_nil ?_ | refine s_plain tabOk rfl rfl rfl rfl rfl ?_ | (show OkOps _ _ _ (Oper.mk _ (Op.binOp .sub _ _ _ _) _ _ _ (_) :: _) _ _; first | refine s_e envOk rfl rfl rfl (step3_sub rfl rfl rfl rfl (wrap64 (by first | omega | ((try simp only [decide_eq_true_eq, decide_eq_false_iff_not, Bool.not_eq_true', Bool.not_true, Bool.not_false, List.length_map, List.length_set, bne_iff_ne, ne_eq, beq_iff_eq, bne_eq_false_iff_eq, beq_eq_false_iff_ne] at *); omega)) (by first | omega | ((try simp only [decide_eq_true_eq, decide_eq_false_iff_not, Bool.not_eq_true', Bool.not_true, Bool.not_false, List.length_map, List.length_set, bne_iff_ne, ne_eq, beq_iff_eq, bne_eq_false_iff_eq, beq_eq_false_iff_ne] at *); omega)))) ?_ | fail) | fail) | (show OkC _ _ _ _ _; first | refine ok_seq ?_ | refine ok_region ?_ | refine ok_block ?_ | fail) | (show thenQ _ _ _ _; first | refine then_n ?_ | fail) | fail)
  refine s_loopW hE (fun (p : Int) => (p + 1).toNat) [] [(0, _), (1, _)] (subL_cons rfl (subL_cons rfl subL_nil)) (fun (p : Int) => [(3, .one (.d (.int .i64 p)))]) (fun p => -1 ≤ p ∧ p < (ds.length : Int)) (fun p => (p + 1).toNat) (((ds.map encDim).length : Int) - 1)
    (by show E _ = E _; congr 1; simp) rfl (subL_cons rfl subL_nil) ?_ (fun p ⟨hp1, hp2⟩ => ?_)
  · refine ⟨?_, ?_⟩ <;> simp only [List.length_map] <;> omega
  · repeat' (first | (show OkOps _ _ _ _ _ _; first | refine okops_nil ?_ | refine s_plain tabOk rfl rfl rfl rfl rfl ?_ | (show OkOps _ _ _ (Oper.mk _ (Op.indexAddr _ _ _) _ _ _ (_) :: _) _ _; first | refine s_e envOk rfl rfl rfl (step3_idx rfl rfl rfl rfl rfl (by first | omega | ((try simp only [decide_eq_true_eq, decide_eq_false_iff_not, Bool.not_eq_true', Bool.not_true, Bool.not_false, List.length_map, List.length_set, bne_iff_ne, ne_eq, beq_iff_eq, bne_eq_false_iff_eq, beq_eq_false_iff_ne] at *); omega)) (at_map (by first | omega | ((try simp only [decide_eq_true_eq, decide_eq_false_iff_not, Bool.not_eq_true', Bool.not_true, Bool.not_false, List.length_map, List.length_set, bne_iff_ne, ne_eq, beq_iff_eq, bne_eq_false_iff_eq, beq_eq_false_iff_ne] at *); omega)))) ?_ | fail) | fail) | (show OkC _ _ _ _ _; first | refine ok_seq ?_ | refine ok_region ?_ | refine ok_block ?_ | refine ok_skip ?_ | refine ok_exit ?_ | refine ok_cond rfl (fun h => ?_) (fun h => ?_) | fail) | (show thenQ _ _ _ _; first | refine then_n ?_ | refine then_x ?_ | fail) | (show blockQ _ _ _ _; first | refine block_x rfl ?_ | fail) | fail)
    · have h0 : 0 ≤ p := by simpa using h
      refine s_yieldW [] (hY p h0 hp2) (hE.big _) (hE.big _) (hE.ins _) (hE.ins _) (hE.lp _) (hE.lp _) rfl rfl rfl rfl rfl rfl rfl rfl (by simp [avsIn, avIn, dimC, acsIn, acIn]) rfl rfl ?_
      repeat' (first | (show OkOps _ _ _ _ _ _; first | refine okops_nil ?_ | refine s_plain tabOk rfl rfl rfl rfl rfl ?_ | (show OkOps _ _ _ (Oper.mk _ (Op.binOp .sub _ _ _ _) _ _ _ (_) :: _) _ _; first | refine s_e envOk rfl rfl rfl (step3_sub rfl rfl rfl rfl (wrap64 (by omega) (by omega))) ?_ | fail) | fail) | (show OkC _ _ _ _ _; first | refine ok_region ?_ | refine ok_skip ?_ | refine ok_condF rfl ?_ | fail) | (show thenQ _ _ _ _; first | refine then_n ?_ | fail) | (show blockQ _ _ _ _; first | refine block_n ?_ | fail) | fail)
      refine ⟨p - 1, [], ⟨by omega, by omega⟩, by show (p - 1 + 1).toNat < (p + 1).toNat; omega, ?_, rfl, subL_nil, subL_cons rfl subL_nil, subL_cons rfl (subL_cons rfl subL_nil)⟩
      show E p.toNat = E (p - 1 + 1).toNat
      congr 1; omega
    · have h0 : p < 0 := by simpa using h
      have e : (p + 1).toNat = 0 := by omega
      refine ret_leafW [] (.inr rfl) rfl rfl rfl ⟨rfl, by rw [e]⟩ rfl (hE.big _) (hE.nd _)
def stoE (li : LI) (fr : List (Nat × AV)) (n : Nat) (q : Int) (X : List (List D)) : Sto :=
  [(1000000, .loop li fr .ready none), (1000001, .box [.d (.int .i64 q)]), (1000002, .box [.own 2000000 n]), (2000000, .row 1 8 X)]
def stJ (li : LI) (fr : List (Nat × AV)) (ds : List Dim) (k : Int) (j : Nat) : Sto := stoE li fr ds.length (unG (ds.drop j) k).2 ((List.replicate j 0 ++ (unG (ds.drop j) k).1).map encInt)
theorem famJ (li : LI) (fr : List (Nat × AV)) (ds : List Dim) (k : Int) (hf : ∀ q X, frIn (stoE li fr ds.length q X) fr = true) : FamW (stJ li fr ds k) := by
  refine ⟨fun a i e h => ?_, fun a => ?_, fun a => ⟨li, fr, .ready, none, rfl⟩, fun a => rfl⟩
  · unfold stJ stoE at h
    rcases look_cons h with ⟨rfl, _⟩ | ⟨_, h⟩
    · omega
    rcases look_cons h with ⟨rfl, _⟩ | ⟨_, h⟩
    · omega
    rcases look_cons h with ⟨rfl, _⟩ | ⟨_, h⟩
    · omega
    rcases look_cons h with ⟨rfl, _⟩ | ⟨_, h⟩
    · omega
    · exact nomatch h
  · show (frIn (stoE li fr ds.length _ _) fr && _) = true
    rw [hf]; rfl
theorem c248c (li : LI) (fr : List (Nat × AV)) (ds : List Dim) (k : Int) (hn : ds.length ≤ 1000) (hf : ∀ q X, frIn (stoE li fr ds.length q X) fr = true)
    (hY : ∀ i : Int, 0 ≤ i → i < (ds.length : Int) → YieldA Tryz.prog 1000000 [.one (.d (.int .i64 i)), dimC (at_ ds i.toNat)] (stJ li fr ds k (i + 1).toNat) (.one (.d (.bool true))) (stJ li fr ds k i.toNat)) :
    CallA Tryz.prog 248 [.one (.yl 1000000), .one (.d (.ptr [encDims ds]))] (stoE li fr ds.length k (List.replicate ds.length [.int .i64 0])) (.tup []) (stoE li fr ds.length (unG ds k).2 ((unG ds k).1.map encInt)) := by
  have h := c248 (stJ li fr ds k) (famJ li fr ds k hf) ds hn hY
  have e1 : stJ li fr ds k ds.length = stoE li fr ds.length k (List.replicate ds.length [.int .i64 0]) := by
    unfold stJ
    rw [List.drop_length]
    simp [unG, encInt]
  rw [e1] at h
  exact h
def q134 (i : Nat) : Nat := bif Nat.beq i 1000003 then 2000000 else i
def p134 (i : Nat) : Nat := bif Nat.beq i 2000000 then 5 else i
set_option maxHeartbeats 4000000 in
theorem c134 (ds : List Dim) (k : Int) : CallA Tryz.prog 134 [.one (.d (encDims ds)), .one (.d (.int .i64 k))] [] (coordAV (coordF ds k)) [] := by
  refine enter tabOk Tryz.func134 rfl (by decide +kernel) rfl fun hok w0 σ0 φ0 M => ?_
  have h1 := hok.1.sl; clear hok; simp only [List.length_map] at h1; replace h1 := h1.1
  by_cases hv : (volF ds).2 = 0
  · have hV := vok_of hv
    have hD := hV.dok
    have hb0 : ((volF ds).2 != 0) = false := by simp [hv]
    have h4 := hD.len
    have h5 := hV.all
    by_cases hk : k < 0 ∨ (volF ds).1 ≤ k
    · rcases Int.lt_or_le k 0 with hk1 | hk1
      · have hb1 : decide (k < 0) = true := by simp [hk1]
        repeat' (first | (show OkOps _ _ _ _ _ _; first | refine okops_nil ?_ | refine s_plain tabOk rfl rfl rfl rfl rfl ?_ | (show OkOps _ _ _ (Oper.mk _ (_) _ _ _ (some _) :: _) _ _; first | refine s_out rfl rfl (by first | assumption | rfl) rfl rfl ?_ | fail) | (show OkOps _ _ _ (Oper.mk _ (Op.pick _ _ _) _ _ _ (_) :: _) _ _; first | refine s_e envOk rfl rfl rfl (step3_pickT rfl rfl (by first | rfl | assumption) rfl) ?_ | fail) | (show OkOps _ _ _ (Oper.mk _ (Op.call _) _ _ _ (_) :: _) _ _; first | refine s_callF rfl rfl rfl rfl rfl rfl rfl rfl (c132 _) rfl ?_ | fail) | (show OkOps _ _ _ (Oper.mk _ (Op.box _ _) _ _ _ (_) :: _) _ _; first | refine s_box 0 rfl rfl rfl rfl rfl rfl ?_ | fail) | fail) | (show OkC _ _ _ _ _; first | refine ok_seq ?_ | refine ok_region ?_ | refine ok_skip ?_ | refine ok_ret ?_ | refine ok_condT rfl ?_ | refine ok_condKF rfl (by assumption) ?_ | fail) | (show thenQ _ _ _ _; first | refine then_n ?_ | refine then_r ?_ | fail) | (show RetQ _ _ _ _ _ _; first | refine ret_leaf (.inl rfl) rfl rfl ?_ | fail) | fail)
        all_goals (rw [coord_out hv hk]; rfl)
      · have hb1 : decide (k < 0) = false := by simp; omega
        have hb2 : decide ((volF ds).1 ≤ k) = true := by simp; omega
        repeat' (first | (show OkOps _ _ _ _ _ _; first | refine okops_nil ?_ | refine s_plain tabOk rfl rfl rfl rfl rfl ?_ | (show OkOps _ _ _ (Oper.mk _ (_) _ _ _ (some _) :: _) _ _; first | refine s_guard rfl rfl (by first | assumption | rfl) ?_ | fail) | (show OkOps _ _ _ (Oper.mk _ (Op.pick _ _ _) _ _ _ (_) :: _) _ _; first | refine s_e envOk rfl rfl rfl (step3_pickF rfl rfl (by first | rfl | assumption) rfl) ?_ | fail) | (show OkOps _ _ _ (Oper.mk _ (Op.call _) _ _ _ (_) :: _) _ _; first | refine s_callF rfl rfl rfl rfl rfl rfl rfl rfl (c132 _) rfl ?_ | fail) | (show OkOps _ _ _ (Oper.mk _ (Op.box _ _) _ _ _ (_) :: _) _ _; first | refine s_box 0 rfl rfl rfl rfl rfl rfl ?_ | fail) | fail) | (show OkC _ _ _ _ _; first | refine ok_seq ?_ | refine ok_region ?_ | refine ok_skip ?_ | refine ok_ret ?_ | refine ok_condKT rfl (by assumption) ?_ | refine ok_condKF rfl (by assumption) ?_ | fail) | (show thenQ _ _ _ _; first | refine then_n ?_ | refine then_r ?_ | fail) | (show RetQ _ _ _ _ _ _; first | refine ret_leaf (.inl rfl) rfl rfl ?_ | fail) | fail)
        all_goals (rw [coord_out hv hk]; rfl)
    · have hb1 : decide (k < 0) = false := by simp; omega
      have hb2 : decide ((volF ds).1 ≤ k) = false := by simp; omega
      have hkk : k ≤ 4611686018427387904 := by rw [hV.vol] at hk; omega
      have hbnd : ∀ j, j ≤ ds.length → 0 ≤ (unG (ds.drop j) k).2 ∧ (unG (ds.drop j) k).2 ≤ 4611686018427387904 := fun j hj => by
        have he : ∀ d ∈ ds.drop j, 0 < extF d := fun d hd => by have := vol_ext hD d (List.mem_of_mem_drop hd); omega
        rw [un_quot he]
        have hp := prod_pos he
        have := Int.ediv_le_self (prodF (ds.drop j)) (show 0 ≤ k by omega)
        exact ⟨Int.ediv_nonneg (by omega) (by omega), by omega⟩
      repeat' (first | (show OkOps _ _ _ _ _ _; first | (show OkOps _ _ _ (Oper.mk _ (Op.makeSlice _ _ _) _ _ _ (_) :: _) _ _; first | refine s_new envOk 10 rfl rfl rfl (step3_makeSlice (n := ds.length) rfl rfl rfl rfl rfl (by simp) (by simp) (by omega) (Nat.le_of_ble_eq_true rfl)) rfl rfl ?_ | fail) | refine okops_nil ?_ | refine s_plain tabOk rfl rfl rfl rfl rfl ?_ | (show OkOps _ _ _ (Oper.mk _ (_) _ _ _ (some _) :: _) _ _; first | refine s_guard rfl rfl (by first | assumption | rfl) ?_ | fail) | (show OkOps _ _ _ (Oper.mk _ (Op.pick _ _ _) _ _ _ (_) :: _) _ _; first | refine s_e envOk rfl rfl rfl (step3_pickF rfl rfl (by first | rfl | assumption) rfl) ?_ | fail) | (show OkOps _ _ _ (Oper.mk _ (Op.call _) _ _ _ (_) :: _) _ _; first | refine s_callF rfl rfl rfl rfl rfl rfl rfl rfl (c132 _) rfl ?_ | refine s_callD 16 rfl rfl rfl rfl rfl rfl rfl rfl (c205 _) rfl rfl rfl ?_ | fail) | (show OkOps _ _ _ (Oper.mk _ (Op.box _ _) _ _ _ (_) :: _) _ _; first | refine s_box 0 rfl rfl rfl rfl rfl rfl ?_ | fail) | (show OkOps _ _ _ (Oper.mk _ (Op.alloc _) _ _ _ (_) :: _) _ _; first | refine s_alloc tabOk 1 rfl rfl rfl rfl rfl ?_ | fail) | refine s_store envOk rfl rfl rfl ?_ | fail) | (show OkC _ _ _ _ _; first | refine ok_stopR2 ?_ | refine ok_seq ?_ | refine ok_region ?_ | refine ok_skip ?_ | refine ok_condKF rfl (by assumption) ?_ | fail) | (show thenQ _ _ _ _; first | refine then_n ?_ | fail) | (show normQ _ _ _; first | refine norm_n ?_ | fail) | fail)
      refine ok_rangeS (f := 248) (caps := [.ptr [encDims ds]]) (rav := .tup []) [0, 1, 10] 20 rfl rfl rfl rfl (callA_ren q134 p134 (c248c _ _ ds k (by omega) (fun q X => ?_) (fun i h0 h1 => ?_)) rfl rfl rfl rfl rfl rfl rfl) rfl (fun h => ?_) (fun h => ?_)
      · rfl
      · obtain ⟨j, rfl⟩ : ∃ j : Nat, i = (j : Int) := ⟨i.toNat, by omega⟩
        have hjl : j < ds.length := by omega
        have e1 : ((j : Int) + 1).toNat = j + 1 := by omega
        have e2 : (j : Int).toNat = j := rfl
        obtain ⟨h0i, h1i⟩ := hbnd (j + 1) (by omega)
        have hst := un_step (k := k) hjl
        have hun : (List.replicate (j + 1) 0 ++ (unG (ds.drop (j + 1)) k).1).length = ds.length := by
          rw [List.length_append, List.length_replicate, un_len, List.length_drop]; omega
        have hset := un_rep (j := j) (X := (unG (ds.drop (j + 1)) k).1) (y := (at_ ds j).lo + (unG (ds.drop (j + 1)) k).2 % extF (at_ ds j))
        unfold stJ
        rw [e1, e2, hst]
        dsimp only
        rw [← hset]
        generalize (unG (ds.drop (j + 1)) k).2 = q at h0i h1i
        generalize List.replicate (j + 1) 0 ++ (unG (ds.drop (j + 1)) k).1 = X at hun
        rw [List.map_set]
        clear hst hset
        refine yieldA_ok ⟨by omega, by omega⟩ rfl rfl fun w0 σ0 φ0 M B => ?_
        repeat' (first | (show OkOps _ _ _ _ _ _; first | refine okops_nil ?_ | refine s_plain tabOk rfl rfl rfl rfl rfl ?_ | (show OkOps _ _ _ (Oper.mk _ (Op.alloc _) _ _ _ (_) :: _) _ _; first | refine s_alloc tabOk 0 rfl rfl rfl rfl rfl ?_ | fail) | refine s_store envOk rfl rfl rfl ?_ | fail) | (show OkC _ _ _ _ _; first | refine ok_seq ?_ | refine ok_region ?_ | refine ok_block ?_ | refine ok_regionD progOk.mo ?_ | fail) | (show thenQ _ _ _ _; first | refine then_n ?_ | fail) | (show blockQ _ _ _ _; first | refine block_n ?_ | fail) | (show DRun _ _ _ _ _ _ _ _; first | (show DRun _ _ _ _ (Oper.mk _ (Op.binOp .rem _ _ _ _) _ _ _ (_) :: _) _ _ _; first | refine d_e envOk rfl rfl rfl (step3_remE rfl rfl rfl rfl h0i (Int.lt_of_lt_of_le Int.zero_lt_one (hD.ext _ (by omega)))) ?_ | fail) | (show DRun _ _ _ _ (Oper.mk _ (Op.binOp .add _ _ _ _) _ _ _ (_) :: _) _ _ _; first | refine d_e envOk rfl rfl rfl (step3_add rfl rfl rfl rfl (rem_w rfl (hD.bnd _ (by omega)))) ?_ | fail) | (show DRun _ _ _ _ (Oper.mk _ (Op.binOp .quo _ _ _ _) _ _ _ (_) :: _) _ _ _; first | refine d_e envOk rfl rfl rfl (step3_quoE rfl rfl rfl rfl h0i (Int.lt_of_lt_of_le Int.zero_lt_one (hD.ext _ (by omega))) (quot_w h0i h1i (hD.ext _ (by omega))).1) ?_ | fail) | refine d_nil (by kernel_rfl) ?_ | refine d_e envOk rfl rfl rfl (step3_plain rfl rfl) ?_ | (show DRun _ _ _ _ (Oper.mk _ (Op.indexAddr _ _ _) _ _ _ (_) :: _) _ _ _; first | refine d_e envOk rfl rfl rfl (step3_idxOwn rfl rfl rfl rfl rfl rfl (by omega) (by omega)) ?_ | fail) | (show DRun _ _ _ _ (Oper.mk _ (Op.call _) _ _ _ (_) :: _) _ _ _; first | refine d_l rfl rfl (loc_callF' rfl rfl rfl rfl rfl rfl (c203 _ _ _ (hD.bnd _ (by omega))) rfl) ?_ | fail) | refine d_store envOk rfl rfl (step3_storeRow rfl rfl rfl rfl rfl rfl rfl rfl rfl (at_map (by omega)) rfl) ?_ | refine d_store envOk rfl rfl rfl ?_ | fail) | (show RoundQ _ _ _ _ _; first | refine round_n rfl ?_ ?_ | fail) | (show AssignQ _ _ _ _ _ _ _ _; first | refine assign_n rfl ?_ | fail) | fail)
        · rfl
        · exact subL_cons (by kernel_rfl) (subL_cons (by kernel_rfl) (subL_cons (by kernel_rfl) (subL_cons (by kernel_rfl) subL_nil)))
      · rintro ⟨w1, σ1, φ1, M1, n1, rd1, mk1⟩ ⟨hn, hrd, _⟩
        dsimp only at hn hrd
        subst hn hrd
        refine okc_imp (imp_subS (s' := [(0, .box [.d (.int .i64 (unG ds k).2)]), (1, .box [.own 26 ds.length]), (26, .row 1 8 ((unG ds k).1.map encInt))]) (subL_cons (by kernel_rfl) (subL_cons (by kernel_rfl) (subL_cons (by kernel_rfl) subL_nil)))) ?_
        repeat' (first | (show OkOps _ _ _ _ _ _; first | refine okops_nil ?_ | refine s_plain tabOk rfl rfl rfl rfl rfl ?_ | fail) | (show OkC _ _ _ _ _; first | refine okc_imp (imp_sealL (dl := [26]) rfl) (ok_ret ?_) | refine ok_seq ?_ | refine ok_region ?_ | fail) | (show thenQ _ _ _ _; first | refine then_n ?_ | fail) | (show RetQ _ _ _ _ _ _; first | refine ret_leaf (.inl rfl) rfl rfl ?_ | fail) | (show retQ _ _ _; first | refine retq_n ?_ | fail) | fail)
        rw [coord_in hv hk]
        show AV.tup [(false, [.d (.sl 1 8 (((unG ds k).1.map encInt).take ds.length))]), _] = _
        rw [List.take_of_length_le (by rw [List.length_map, un_len]; omega)]
        rfl
      · exact nomatch h
  · have hb0 : ((volF ds).2 != 0) = true := by simp [hv]
    repeat' (first | (show OkOps _ _ _ _ _ _; first | refine okops_nil ?_ | refine s_plain tabOk rfl rfl rfl rfl rfl ?_ | (show OkOps _ _ _ (Oper.mk _ (Op.call _) _ _ _ (_) :: _) _ _; first | refine s_callF rfl rfl rfl rfl rfl rfl rfl rfl (c132 _) rfl ?_ | fail) | (show OkOps _ _ _ (Oper.mk _ (Op.box _ _) _ _ _ (_) :: _) _ _; first | refine s_box 0 rfl rfl rfl rfl rfl rfl ?_ | fail) | fail) | (show OkC _ _ _ _ _; first | refine ok_seq ?_ | refine ok_region ?_ | refine ok_ret ?_ | refine ok_condKT rfl (by assumption) ?_ | fail) | (show thenQ _ _ _ _; first | refine then_n ?_ | refine then_r ?_ | fail) | (show RetQ _ _ _ _ _ _; first | refine ret_leaf (.inl rfl) rfl rfl ?_ | fail) | fail)
    all_goals (rw [coord_vol hv]; rfl)
end Go.Proofs.YtpejdgkaapnekaaGreat
