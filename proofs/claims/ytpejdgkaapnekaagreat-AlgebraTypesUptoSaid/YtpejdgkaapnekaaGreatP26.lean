import Derived.Test.YtpejdgkaapnekaaGreatP8
import Derived.Test.YtpejdgkaapnekaaGreatP6
import Derived.Test.YtpejdgkaapnekaaGreatKZ
set_option linter.unusedVariables false
set_option linter.unusedSimpArgs false
-- SymM Sym2
namespace Go.Proofs.YtpejdgkaapnekaaGreat
open Go Go.Abs
attribute [local irreducible] OkOps OkC DRun thenQ blockQ RetQ
set_option maxRecDepth 10000
set_option linter.unusedVariables false
set_option linter.unusedSimpArgs false
/-! ### Type, of both; the law -/
theorem form_ok {s : Scalar} (h : formF s = 0) : partsF s = true ∧ (postL s).length ≤ 64 := by
  have h3 := formGo_eq (postL s) 0 true (by omega)
  unfold formF at h
  split at h
  · omega
  · by_cases hc : 64 < ((postL s).length : Int)
    · rw [h3.1 (by omega)] at h; omega
    · rw [h3.2 (by omega), Bool.true_and, ← parts_all] at h
      refine ⟨?_, by omega⟩
      cases hp : partsF s with
      | true => rfl
      | false => rw [hp] at h; simp at h
def typeF (ds : List Dim) (ats : List Attr) (cs : List Cell) (s : Scalar) : Int × Int :=
  if checkF ds ats cs ≠ 0 then (0, 2) else if formF s ≠ 0 then (0, formF s) else typR cstP ds ats s
theorem c20 (ds : List Dim) (ats : List Attr) (cs : List Cell) (s : Scalar) : CallA Tryz.prog 20 [.agg [.d (encDims ds), .d (encAttrs ats), .d (encCells cs)], aggS s] [] (ie (typeF ds ats cs s)) [] := by
  refine enter tabOk Tryz.func20 rfl (by decide +kernel) rfl fun hok w0 σ0 φ0 M => ?_
  clear hok
  by_cases h1 : checkF ds ats cs = 0
  · have hb1 : (checkF ds ats cs != 0) = false := by simp [h1]
    by_cases h2 : formF s = 0
    · have hb2 : (formF s != 0) = false := by simp [h2]
      obtain ⟨hp, hsz⟩ := form_ok h2
      have e : typeF ds ats cs s = typR cstP ds ats s := by simp [typeF, h1, h2]
      rw [e]
      repeat' (first | (show OkOps _ _ _ _ _ _; first | refine okops_nil ?_ | refine s_plain tabOk rfl rfl rfl rfl rfl ?_ | (show OkOps _ _ _ (Oper.mk _ (Op.call _) _ _ _ (_) :: _) _ _; first | refine s_callF rfl rfl rfl rfl rfl rfl rfl rfl (c59 _ _ _) rfl ?_ | refine s_callF rfl rfl rfl rfl rfl rfl rfl rfl (c87 _) rfl ?_ | refine s_callF rfl rfl rfl rfl rfl rfl rfl rfl (c88 _ _ _ _ (by assumption) (by assumption)) rfl ?_ | fail) | (show OkOps _ _ _ (Oper.mk _ (Op.box _ _) _ _ _ (_) :: _) _ _; first | refine s_box 0 rfl rfl rfl rfl rfl rfl ?_ | refine s_box 1 rfl rfl rfl rfl rfl rfl ?_ | fail) | fail) | (show OkC _ _ _ _ _; first | refine ok_seq ?_ | refine ok_region ?_ | refine ok_skip ?_ | refine ok_ret ?_ | refine ok_condKF rfl (by assumption) ?_ | fail) | (show thenQ _ _ _ _; first | refine then_n ?_ | fail) | (show RetQ _ _ _ _ _ _; first | refine ret_leaf (.inl rfl) rfl rfl ?_ | fail) | fail)
      all_goals rfl
    · have hb2 : (formF s != 0) = true := by simp [h2]
      have e : typeF ds ats cs s = (0, formF s) := by simp [typeF, h1, h2]
      rw [e]
      repeat' (first | (show OkOps _ _ _ _ _ _; first | refine okops_nil ?_ | refine s_plain tabOk rfl rfl rfl rfl rfl ?_ | (show OkOps _ _ _ (Oper.mk _ (Op.call _) _ _ _ (_) :: _) _ _; first | refine s_callF rfl rfl rfl rfl rfl rfl rfl rfl (c59 _ _ _) rfl ?_ | refine s_callF rfl rfl rfl rfl rfl rfl rfl rfl (c87 _) rfl ?_ | fail) | (show OkOps _ _ _ (Oper.mk _ (Op.box _ _) _ _ _ (_) :: _) _ _; first | refine s_box 0 rfl rfl rfl rfl rfl rfl ?_ | refine s_box 1 rfl rfl rfl rfl rfl rfl ?_ | fail) | fail) | (show OkC _ _ _ _ _; first | refine ok_seq ?_ | refine ok_region ?_ | refine ok_skip ?_ | refine ok_ret ?_ | refine ok_condKT rfl (by assumption) ?_ | refine ok_condKF rfl (by assumption) ?_ | fail) | (show thenQ _ _ _ _; first | refine then_n ?_ | refine then_r ?_ | fail) | (show RetQ _ _ _ _ _ _; first | refine ret_leaf (.inl rfl) rfl rfl ?_ | fail) | fail)
      all_goals rfl
  · have hb1 : (checkF ds ats cs != 0) = true := by simp [h1]
    have e : typeF ds ats cs s = (0, 2) := by simp [typeF, h1]
    rw [e]
    repeat' (first | (show OkOps _ _ _ _ _ _; first | refine okops_nil ?_ | refine s_plain tabOk rfl rfl rfl rfl rfl ?_ | (show OkOps _ _ _ (Oper.mk _ (Op.call _) _ _ _ (_) :: _) _ _; first | refine s_callF rfl rfl rfl rfl rfl rfl rfl rfl (c59 _ _ _) rfl ?_ | fail) | (show OkOps _ _ _ (Oper.mk _ (Op.box _ _) _ _ _ (_) :: _) _ _; first | refine s_box 0 rfl rfl rfl rfl rfl rfl ?_ | refine s_box 1 rfl rfl rfl rfl rfl rfl ?_ | fail) | fail) | (show OkC _ _ _ _ _; first | refine ok_seq ?_ | refine ok_region ?_ | refine ok_ret ?_ | refine ok_condKT rfl (by assumption) ?_ | fail) | (show thenQ _ _ _ _; first | refine then_n ?_ | refine then_r ?_ | fail) | (show RetQ _ _ _ _ _ _; first | refine ret_leaf (.inl rfl) rfl rfl ?_ | fail) | fail)
    all_goals rfl
theorem c21 (ds : List Dim) (ats : List Attr) (cs : List Cell) (s : Scalar) : CallA Tryz.prog 21 [.agg [.d (encDims ds), .d (encAttrs ats), .d (encCells cs)], aggS s] [] (ie (typeF ds ats cs s)) [] := by
  refine enter tabOk Tryz.func21 rfl (by decide +kernel) rfl fun hok w0 σ0 φ0 M => ?_
  clear hok
  have hf := formF_ref s
  by_cases h1 : checkF ds ats cs = 0
  · have hb1 : (checkF ds ats cs != 0) = false := by simp [h1]
    by_cases h2 : 12 < depthF 12 s
    · have hb2 : decide (12 < depthF 12 s) = true := by simp [h2]
      rw [if_pos h2] at hf
      have e : typeF ds ats cs s = (0, 10) := by simp [typeF, h1, hf]
      rw [e]
      repeat' (first | (show OkOps _ _ _ _ _ _; first | refine okops_nil ?_ | refine s_plain tabOk rfl rfl rfl rfl rfl ?_ | (show OkOps _ _ _ (Oper.mk _ (Op.call _) _ _ _ (_) :: _) _ _; first | refine s_callF rfl rfl rfl rfl rfl rfl rfl rfl (c89 _ _ _) rfl ?_ | refine s_callF rfl rfl rfl rfl rfl rfl rfl rfl (c90 12 s 12 rfl (by omega)) rfl ?_ | fail) | (show OkOps _ _ _ (Oper.mk _ (Op.box _ _) _ _ _ (_) :: _) _ _; first | refine s_box 0 rfl rfl rfl rfl rfl rfl ?_ | refine s_box 1 rfl rfl rfl rfl rfl rfl ?_ | fail) | fail) | (show OkC _ _ _ _ _; first | refine ok_seq ?_ | refine ok_region ?_ | refine ok_block ?_ | refine ok_ret ?_ | refine ok_condKT rfl (by assumption) ?_ | refine ok_condKF rfl (by assumption) ?_ | fail) | (show thenQ _ _ _ _; first | refine then_n ?_ | refine then_r ?_ | fail) | (show blockQ _ _ _ _; first | refine block_r ?_ | fail) | (show RetQ _ _ _ _ _ _; first | refine ret_leaf (.inl rfl) rfl rfl ?_ | fail) | fail)
      all_goals rfl
    · have hb2 : decide (12 < depthF 12 s) = false := by simp [h2]
      rw [if_neg h2] at hf
      by_cases h3 : 64 < countF s 64
      · have hb3 : decide (64 < countF s 64) = true := by simp [h3]
        rw [if_pos h3] at hf
        have e : typeF ds ats cs s = (0, 9) := by simp [typeF, h1, hf]
        rw [e]
        repeat' (first | (show OkOps _ _ _ _ _ _; first | refine okops_nil ?_ | refine s_plain tabOk rfl rfl rfl rfl rfl ?_ | (show OkOps _ _ _ (Oper.mk _ (Op.call _) _ _ _ (_) :: _) _ _; first | refine s_callF rfl rfl rfl rfl rfl rfl rfl rfl (c89 _ _ _) rfl ?_ | refine s_callF rfl rfl rfl rfl rfl rfl rfl rfl (c90 12 s 12 rfl (by omega)) rfl ?_ | refine s_callF rfl rfl rfl rfl rfl rfl rfl rfl (c91 s 64 (by omega) (by omega)) rfl ?_ | fail) | (show OkOps _ _ _ (Oper.mk _ (Op.box _ _) _ _ _ (_) :: _) _ _; first | refine s_box 0 rfl rfl rfl rfl rfl rfl ?_ | refine s_box 1 rfl rfl rfl rfl rfl rfl ?_ | fail) | fail) | (show OkC _ _ _ _ _; first | refine ok_seq ?_ | refine ok_region ?_ | refine ok_block ?_ | refine ok_ret ?_ | refine ok_condKT rfl (by assumption) ?_ | refine ok_condKF rfl (by assumption) ?_ | fail) | (show thenQ _ _ _ _; first | refine then_n ?_ | refine then_r ?_ | fail) | (show blockQ _ _ _ _; first | refine block_r ?_ | fail) | (show RetQ _ _ _ _ _ _; first | refine ret_leaf (.inl rfl) rfl rfl ?_ | fail) | fail)
        all_goals rfl
      · have hb3 : decide (64 < countF s 64) = false := by simp [h3]
        rw [if_neg h3] at hf
        cases hp : partsF s with
        | true =>
          have hb4 : (!partsF s) = false := by simp [hp]
          rw [hp, if_pos rfl] at hf
          obtain ⟨_, hsz⟩ := form_ok hf
          have e : typeF ds ats cs s = typR cstR ds ats s := by rw [← typ_same s hp]; simp [typeF, h1, hf]
          rw [e]
          repeat' (first | (show OkOps _ _ _ _ _ _; first | refine okops_nil ?_ | refine s_plain tabOk rfl rfl rfl rfl rfl ?_ | (show OkOps _ _ _ (Oper.mk _ (Op.call _) _ _ _ (_) :: _) _ _; first | refine s_callF rfl rfl rfl rfl rfl rfl rfl rfl (c89 _ _ _) rfl ?_ | refine s_callF rfl rfl rfl rfl rfl rfl rfl rfl (c90 12 s 12 rfl (by omega)) rfl ?_ | refine s_callF rfl rfl rfl rfl rfl rfl rfl rfl (c91 s 64 (by omega) (by omega)) rfl ?_ | refine s_callF rfl rfl rfl rfl rfl rfl rfl rfl (c92 _) rfl ?_ | refine s_callF rfl rfl rfl rfl rfl rfl rfl rfl (c93 _ _ _ _ (by assumption) (by assumption)) rfl ?_ | fail) | (show OkOps _ _ _ (Oper.mk _ (Op.box _ _) _ _ _ (_) :: _) _ _; first | refine s_box 0 rfl rfl rfl rfl rfl rfl ?_ | refine s_box 1 rfl rfl rfl rfl rfl rfl ?_ | fail) | fail) | (show OkC _ _ _ _ _; first | refine ok_seq ?_ | refine ok_region ?_ | refine ok_block ?_ | refine ok_skip ?_ | refine ok_ret ?_ | refine ok_condKF rfl (by assumption) ?_ | fail) | (show thenQ _ _ _ _; first | refine then_n ?_ | fail) | (show blockQ _ _ _ _; first | refine block_n ?_ | fail) | (show RetQ _ _ _ _ _ _; first | refine ret_leaf (.inl rfl) rfl rfl ?_ | fail) | fail)
          all_goals rfl
        | false =>
          have hb4 : (!partsF s) = true := by simp [hp]
          rw [hp] at hf
          have e : typeF ds ats cs s = (0, 2) := by simp [typeF, h1, hf]
          rw [e]
          repeat' (first | (show OkOps _ _ _ _ _ _; first | refine okops_nil ?_ | refine s_plain tabOk rfl rfl rfl rfl rfl ?_ | (show OkOps _ _ _ (Oper.mk _ (Op.call _) _ _ _ (_) :: _) _ _; first | refine s_callF rfl rfl rfl rfl rfl rfl rfl rfl (c89 _ _ _) rfl ?_ | refine s_callF rfl rfl rfl rfl rfl rfl rfl rfl (c90 12 s 12 rfl (by omega)) rfl ?_ | refine s_callF rfl rfl rfl rfl rfl rfl rfl rfl (c91 s 64 (by omega) (by omega)) rfl ?_ | refine s_callF rfl rfl rfl rfl rfl rfl rfl rfl (c92 _) rfl ?_ | fail) | (show OkOps _ _ _ (Oper.mk _ (Op.box _ _) _ _ _ (_) :: _) _ _; first | refine s_box 0 rfl rfl rfl rfl rfl rfl ?_ | refine s_box 1 rfl rfl rfl rfl rfl rfl ?_ | fail) | fail) | (show OkC _ _ _ _ _; first | refine ok_seq ?_ | refine ok_region ?_ | refine ok_block ?_ | refine ok_ret ?_ | refine ok_condKT rfl (by assumption) ?_ | refine ok_condKF rfl (by assumption) ?_ | fail) | (show thenQ _ _ _ _; first | refine then_n ?_ | refine then_r ?_ | fail) | (show blockQ _ _ _ _; first | refine block_r ?_ | fail) | (show RetQ _ _ _ _ _ _; first | refine ret_leaf (.inl rfl) rfl rfl ?_ | fail) | fail)
          all_goals rfl
  · have hb1 : (checkF ds ats cs != 0) = true := by simp [h1]
    have e : typeF ds ats cs s = (0, 2) := by simp [typeF, h1]
    rw [e]
    repeat' (first | (show OkOps _ _ _ _ _ _; first | refine okops_nil ?_ | refine s_plain tabOk rfl rfl rfl rfl rfl ?_ | (show OkOps _ _ _ (Oper.mk _ (Op.call _) _ _ _ (_) :: _) _ _; first | refine s_callF rfl rfl rfl rfl rfl rfl rfl rfl (c89 _ _ _) rfl ?_ | fail) | (show OkOps _ _ _ (Oper.mk _ (Op.box _ _) _ _ _ (_) :: _) _ _; first | refine s_box 0 rfl rfl rfl rfl rfl rfl ?_ | refine s_box 1 rfl rfl rfl rfl rfl rfl ?_ | fail) | fail) | (show OkC _ _ _ _ _; first | refine ok_seq ?_ | refine ok_region ?_ | refine ok_block ?_ | refine ok_ret ?_ | refine ok_condKT rfl (by assumption) ?_ | fail) | (show thenQ _ _ _ _; first | refine then_n ?_ | refine then_r ?_ | fail) | (show blockQ _ _ _ _; first | refine block_r ?_ | fail) | (show RetQ _ _ _ _ _ _; first | refine ret_leaf (.inl rfl) rfl rfl ?_ | fail) | fail)
    all_goals rfl
theorem c19 : CallA Tryz.prog 19 [] [] (.one (.d (.bool true))) [] := k445
theorem c3 (ds : List Dim) (ats : List Attr) (cs : List Cell) (s : Scalar) : CallA Tryz.prog 3 [.agg [.d (encDims ds), .d (encAttrs ats), .d (encCells cs)], aggS s] [] (.one (.d (.bool true))) [] := by
  refine enter tabOk Tryz.func3 rfl (by decide +kernel) rfl fun hok w0 σ0 φ0 M => ?_
  clear hok
  have hb1 : ((typeF ds ats cs s).1 == (typeF ds ats cs s).1) = true := by simp
  have hb2 : ((typeF ds ats cs s).2 == (typeF ds ats cs s).2) = true := by simp
  repeat' (first | (show OkOps _ _ _ _ _ _; first | refine okops_nil ?_ | refine s_plain tabOk rfl rfl rfl rfl rfl ?_ | (show OkOps _ _ _ (Oper.mk _ (_) _ _ _ (some _) :: _) _ _; first | refine s_guard rfl rfl (by first | assumption | rfl) ?_ | fail) | (show OkOps _ _ _ (Oper.mk _ (Op.pick _ _ _) _ _ _ (_) :: _) _ _; first | refine s_e envOk rfl rfl rfl (step3_pickT rfl rfl (by first | rfl | assumption) rfl) ?_ | fail) | (show OkOps _ _ _ (Oper.mk _ (Op.call _) _ _ _ (_) :: _) _ _; first | refine s_callF rfl rfl rfl rfl rfl rfl rfl rfl (c19) rfl ?_ | refine s_callF rfl rfl rfl rfl rfl rfl rfl rfl (c20 _ _ _ _) rfl ?_ | refine s_callF rfl rfl rfl rfl rfl rfl rfl rfl (c21 _ _ _ _) rfl ?_ | fail) | (show OkOps _ _ _ (Oper.mk _ (Op.box _ _) _ _ _ (_) :: _) _ _; first | refine s_box 0 rfl rfl rfl rfl rfl rfl ?_ | refine s_box 1 rfl rfl rfl rfl rfl rfl ?_ | fail) | fail) | (show OkC _ _ _ _ _; first | refine ok_seq ?_ | refine ok_region ?_ | refine ok_skip ?_ | refine ok_ret ?_ | refine ok_cond rfl (fun h => ?_) (fun h => ?_) | fail) | (show thenQ _ _ _ _; first | refine then_n ?_ | refine then_r ?_ | fail) | (show RetQ _ _ _ _ _ _; first | refine ret_leaf (.inl rfl) rfl rfl ?_ | fail) | fail)
  all_goals rfl
end Go.Proofs.YtpejdgkaapnekaaGreat
