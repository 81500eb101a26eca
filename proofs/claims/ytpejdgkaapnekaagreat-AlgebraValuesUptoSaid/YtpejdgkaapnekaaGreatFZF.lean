import Derived.Test.YtpejdgkaapnekaaGreatFP17
set_option linter.unusedVariables false
set_option linter.unusedSimpArgs false
set_option maxHeartbeats 1000000
namespace Go.Proofs.YtpejdgkaapnekaaGreat
open Go Go.Abs
open Go.ChangeShapes Go.WideShapes Go.ChangeAt Go.RowKit
theorem and_mk{a b : Bool}(ha : a = true)(hb : b = true) : (a && b) = true:=by rw [ha,hb]; rfl
theorem values_named : Tryz.prog.funcNamed Rows.algebraValuesUptoRow.func = some 9:=by kernel_rfl
set_option maxHeartbeats 0 in
theorem values_facts : joinedFacts Tryz.prog 9 Tryz.f9 (Rows.OpenSpec.upto Rows.algebraValuesSpec).bare Rows.algebraValuesUptoRow = true:=by
 unfold joinedFacts
 repeat' (with_reducible refine and_mk ?_ ?_)
 all_goals (as_aux_lemma=>kernel_rfl)
theorem values_inst : Tryz.f9.isInstance Tryz.prog Rows.algebraValuesUptoRow.origin Rows.algebraValuesUptoRow.targs:=of_decide_eq_true (by kernel_rfl)
theorem values_wrap : Tryz.f9.isWrapper Tryz.prog Rows.algebraValuesUptoRow.wrapper Rows.algebraValuesUptoRow.mainSum:=by
 unfold Func.isWrapper
 first | (rw [if_pos (by decide +kernel)]; kernel_rfl) | (rw [if_neg (by decide +kernel)]; exact ⟨rfl,rfl⟩)
end Go.Proofs.YtpejdgkaapnekaaGreat
