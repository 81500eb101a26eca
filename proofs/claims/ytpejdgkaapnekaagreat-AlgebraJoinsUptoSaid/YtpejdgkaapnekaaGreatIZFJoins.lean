import Derived.Test.YtpejdgkaapnekaaGreatIP15
set_option linter.unusedVariables false
set_option linter.unusedSimpArgs false
set_option maxHeartbeats 1000000
namespace Go.Proofs.YtpejdgkaapnekaaGreat
open Go Go.Abs
open Go.ChangeShapes Go.WideShapes Go.ChangeAt Go.RowKit
theorem DC{a b:Bool}(ha:a=true)(hb:b=true):(a&&b)=true:=by rw[ha,hb];rfl
theorem vj:Tryz.prog.funcNamed Rows.algebraJoinsUptoRow.func=some 16:=by kernel_rfl
set_option maxHeartbeats 0 in
theorem vk:joinedFacts Tryz.prog 16 Tryz.f16 (Rows.OpenSpec.upto Rows.algebraJoinsSpec).bare Rows.algebraJoinsUptoRow=true:=by
 unfold joinedFacts
 repeat' (with_reducible refine DC ?_ ?_)
 all_goals (as_aux_lemma=>kernel_rfl)
theorem xU:Tryz.f16.isInstance Tryz.prog Rows.algebraJoinsUptoRow.origin Rows.algebraJoinsUptoRow.targs:=of_decide_eq_true (by kernel_rfl)
theorem xV:Tryz.f16.isWrapper Tryz.prog Rows.algebraJoinsUptoRow.wrapper Rows.algebraJoinsUptoRow.mainSum:=by
 unfold Func.isWrapper
 first|(rw[if_pos (by decide +kernel)];kernel_rfl)|(rw[if_neg (by decide +kernel)];exact⟨rfl,rfl⟩)
end Go.Proofs.YtpejdgkaapnekaaGreat
