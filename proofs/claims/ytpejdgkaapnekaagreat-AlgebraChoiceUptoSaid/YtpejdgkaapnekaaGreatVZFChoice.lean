import Derived.Test.YtpejdgkaapnekaaGreatVP17
set_option linter.unusedVariables false
set_option linter.unusedSimpArgs false
set_option linter.unnecessarySimpa false
set_option maxHeartbeats 1000000
namespace Go.Proofs.YtpejdgkaapnekaaGreat
open Go Go.Abs
open Go.ChangeShapes Go.WideShapes Go.ChangeAt Go.RowKit
theorem IK{a b : Bool}(ha : a = true)(hb : b = true) : (a && b) = true:=by rw [ha,hb]; rfl
theorem wV : Tryz.prog.funcNamed Rows.algebraChoiceUptoRow.func = some 6:=by kernel_rfl
set_option maxHeartbeats 0 in
theorem wW : joinedFacts Tryz.prog 6 Tryz.f6 (Rows.OpenSpec.upto Rows.algebraChoiceSpec).bare Rows.algebraChoiceUptoRow = true:=by
 unfold joinedFacts
 repeat' (with_reducible refine IK ?_ ?_)
 all_goals (as_aux_lemma=>kernel_rfl)
theorem y0 : Tryz.f6.isInstance Tryz.prog Rows.algebraChoiceUptoRow.origin Rows.algebraChoiceUptoRow.targs:=of_decide_eq_true (by kernel_rfl)
theorem y1 : Tryz.f6.isWrapper Tryz.prog Rows.algebraChoiceUptoRow.wrapper Rows.algebraChoiceUptoRow.mainSum:=by
 unfold Func.isWrapper
 first | (rw [if_pos (by decide +kernel)]; kernel_rfl) | (rw [if_neg (by decide +kernel)]; exact ⟨rfl,rfl⟩)
end Go.Proofs.YtpejdgkaapnekaaGreat
