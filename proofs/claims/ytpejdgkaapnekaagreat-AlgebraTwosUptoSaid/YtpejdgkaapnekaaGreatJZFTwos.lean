import Derived.Test.YtpejdgkaapnekaaGreatJP16
set_option linter.unusedVariables false
set_option linter.unusedSimpArgs false
set_option maxHeartbeats 1000000
namespace Go.Proofs.YtpejdgkaapnekaaGreat
open Go Go.Abs
open Go.ChangeShapes Go.WideShapes Go.ChangeAt Go.RowKit
theorem EG{a b : Bool}(ha : a = true)(hb : b = true) : (a && b) = true:=by rw [ha,hb]; rfl
theorem yC : Tryz.prog.funcNamed Rows.algebraTwosUptoRow.func = some 15:=by kernel_rfl
set_option maxHeartbeats 0 in
theorem yD : joinedFacts Tryz.prog 15 Tryz.f15 (Rows.OpenSpec.upto Rows.algebraTwosSpec).bare Rows.algebraTwosUptoRow = true:=by
 unfold joinedFacts
 repeat' (with_reducible refine EG ?_ ?_)
 all_goals (as_aux_lemma=>kernel_rfl)
theorem zY : Tryz.f15.isInstance Tryz.prog Rows.algebraTwosUptoRow.origin Rows.algebraTwosUptoRow.targs:=of_decide_eq_true (by kernel_rfl)
theorem zZ : Tryz.f15.isWrapper Tryz.prog Rows.algebraTwosUptoRow.wrapper Rows.algebraTwosUptoRow.mainSum:=by
 unfold Func.isWrapper
 first | (rw [if_pos (by decide +kernel)]; kernel_rfl) | (rw [if_neg (by decide +kernel)]; exact ⟨rfl,rfl⟩)
end Go.Proofs.YtpejdgkaapnekaaGreat
