import Derived.Test.YtpejdgkaapnekaaGreatWP17
set_option linter.unusedVariables false
set_option linter.unusedSimpArgs false
set_option linter.unnecessarySimpa false
set_option maxHeartbeats 1000000
namespace Go.Proofs.YtpejdgkaapnekaaGreat
open Go Go.Abs
open Go.ChangeShapes Go.WideShapes Go.ChangeAt Go.RowKit
theorem JT{a b : Bool}(ha : a = true)(hb : b = true) : (a && b) = true:=by rw [ha,hb]; rfl
theorem tb : Tryz.prog.funcNamed Rows.algebraPointwiseUptoRow.func = some 11:=by kernel_rfl
set_option maxHeartbeats 0 in
theorem tc : joinedFacts Tryz.prog 11 Tryz.f11 (Rows.OpenSpec.upto Rows.algebraPointwiseSpec).bare Rows.algebraPointwiseUptoRow = true:=by
 unfold joinedFacts
 repeat' (with_reducible refine JT ?_ ?_)
 all_goals (as_aux_lemma=>kernel_rfl)
theorem uq : Tryz.f11.isInstance Tryz.prog Rows.algebraPointwiseUptoRow.origin Rows.algebraPointwiseUptoRow.targs:=of_decide_eq_true (by kernel_rfl)
theorem ur : Tryz.f11.isWrapper Tryz.prog Rows.algebraPointwiseUptoRow.wrapper Rows.algebraPointwiseUptoRow.mainSum:=by
 unfold Func.isWrapper
 first | (rw [if_pos (by decide +kernel)]; kernel_rfl) | (rw [if_neg (by decide +kernel)]; exact ⟨rfl,rfl⟩)
end Go.Proofs.YtpejdgkaapnekaaGreat
