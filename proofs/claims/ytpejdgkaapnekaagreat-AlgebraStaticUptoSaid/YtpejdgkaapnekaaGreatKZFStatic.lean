import Derived.Test.YtpejdgkaapnekaaGreatKP15
set_option linter.unusedVariables false
set_option linter.unusedSimpArgs false
set_option maxHeartbeats 1000000
namespace Go.Proofs.YtpejdgkaapnekaaGreat
open Go Go.Abs
open Go.ChangeShapes Go.WideShapes Go.ChangeAt Go.RowKit
theorem Qi{a b:Bool}(ha:a=true)(hb:b=true):(a&&b)=true:=by rw[ha,hb];rfl
theorem CA:Tryz.prog.funcNamed Rows.algebraStaticUptoRow.func=some 17:=by kernel_rfl
set_option maxHeartbeats 0 in
theorem CB:joinedFacts Tryz.prog 17 Tryz.f17 (Rows.OpenSpec.upto Rows.algebraStaticSpec).bare Rows.algebraStaticUptoRow=true:=by
 unfold joinedFacts
 repeat' (with_reducible refine Qi ?_ ?_)
 all_goals (as_aux_lemma=>kernel_rfl)
theorem DO:Tryz.f17.isInstance Tryz.prog Rows.algebraStaticUptoRow.origin Rows.algebraStaticUptoRow.targs:=Yg (by kernel_rfl)
theorem DP:Tryz.f17.isWrapper Tryz.prog Rows.algebraStaticUptoRow.wrapper Rows.algebraStaticUptoRow.mainSum:=by
 unfold Func.isWrapper
 first|(rw[if_pos (by decide +kernel)];kernel_rfl)|(rw[if_neg (by decide +kernel)];exact⟨rfl,rfl⟩)
end Go.Proofs.YtpejdgkaapnekaaGreat
