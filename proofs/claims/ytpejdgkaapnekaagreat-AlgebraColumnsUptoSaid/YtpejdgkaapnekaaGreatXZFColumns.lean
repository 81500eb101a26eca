import Derived.Test.YtpejdgkaapnekaaGreatXP13
set_option linter.unusedVariables false
set_option linter.unusedSimpArgs false
set_option maxHeartbeats 1000000
namespace Go.Proofs.YtpejdgkaapnekaaGreat
open Go Go.Abs
open Go.ChangeShapes Go.WideShapes Go.ChangeAt Go.RowKit
theorem Lh{a b : Bool}(ha : a = true)(hb : b = true) : (a && b) = true:=by rw [ha,hb]; rfl
theorem ye : Tryz.prog.funcNamed Rows.algebraColumnsUptoRow.func = some 14:=by kernel_rfl
set_option maxHeartbeats 0 in
theorem yg : joinedFacts Tryz.prog 14 Tryz.f14 (Rows.OpenSpec.upto Rows.algebraColumnsSpec).bare Rows.algebraColumnsUptoRow = true:=by
 unfold joinedFacts
 repeat' (with_reducible refine Lh ?_ ?_)
 all_goals (as_aux_lemma=>kernel_rfl)
theorem zx : Tryz.f14.isInstance Tryz.prog Rows.algebraColumnsUptoRow.origin Rows.algebraColumnsUptoRow.targs:=of_decide_eq_true (by kernel_rfl)
theorem zy : Tryz.f14.isWrapper Tryz.prog Rows.algebraColumnsUptoRow.wrapper Rows.algebraColumnsUptoRow.mainSum:=by
 unfold Func.isWrapper
 first | (rw [if_pos (by decide +kernel)]; kernel_rfl) | (rw [if_neg (by decide +kernel)]; exact ⟨rfl,rfl⟩)
end Go.Proofs.YtpejdgkaapnekaaGreat
