/- Algebra.Chooses (subarrays and filters, or the errors, are the document's; the array that is given stays), for each reader, each finite reading of its tree and each bulk of at most 1048576, answers as the row AlgebraChoosesUpto says; conditions: the checked reading of the program, bulk at most 1048576. -/
import Derived.Test.YtpejdgkaapnekaaGreatGP39
set_option linter.unusedVariables false
set_option linter.unusedSimpArgs false
set_option linter.unnecessarySimpa false
set_option maxHeartbeats 1000000
namespace Go.Proofs.YtpejdgkaapnekaaGreat
open Go Go.Abs
open Go.ChangeShapes Go.WideShapes Go.ChangeAt Go.RowKit
set_option maxRecDepth 100000 in
theorem chooses_lifted(os : Os)(started : os.Started)(H : Type)(en : TypeId×Value→H)(F : Stop.Interp) :
  ReturnsInHanded {} Tryz.checked os 4 .any ((Rows.OpenSpec.upto Rows.algebraChoosesSpec).pre6 en Tryz.prog Tryz.f4 Rows.algebraChoosesUptoRow.domain false) (((Rows.OpenSpec.upto Rows.algebraChoosesSpec).at F).post en Tryz.prog Tryz.f4 false true false false):=by
 refine returnsInHanded_of_cond (C:=Tryz.checked) (s:=Rows.OpenSpec.upto Rows.algebraChoosesSpec) (k:=Rows.uptoSmall) rfl own started (by kernel_rfl) Tryz.func4
  (OpenSpec.witness (enc:=en) (C:=Tryz.checked) (s:=Rows.OpenSpec.upto Rows.algebraChoosesSpec) (k:=Rows.uptoSmall) rfl false ⟨#[],#[.agg #[.slice none 0 0,.slice none 0 0,.slice none 0 0],.slice none 0 0,.slice none 0 0,.agg #[.int .i64 0,.string ⟨#[]⟩,.int .i64 0,.int .i64 0,.int .i64 0,.string ⟨#[]⟩,.slice none 0 0]],[]⟩ 8 (by kernel_rfl) (by kernel_rfl) (by kernel_rfl)
   (x:=([.agg [.nil,.nil,.nil],.nil,.nil,.agg [.lit (.int .i64 0),.lit (.string []),.agg [.lit (.int .i64 0),.lit (.int .i64 0),.lit (.int .i64 0),.lit (.string [])],.nil]],[],[])) (by kernel_rfl) rfl (by kernel_rfl)) ?_
 intro W base args ds gs before hval hW _ hk _
 exact sr H en W base args ds gs before hval hW hk
theorem and_mk{a b : Bool}(ha : a = true)(hb : b = true) : (a && b) = true:=by rw [ha,hb]; rfl
theorem chooses_named : Tryz.prog.funcNamed Rows.algebraChoosesUptoRow.func = some 4:=by kernel_rfl
set_option maxHeartbeats 0 in
theorem chooses_facts : joinedFacts Tryz.prog 4 Tryz.f4 (Rows.OpenSpec.upto Rows.algebraChoosesSpec).bare Rows.algebraChoosesUptoRow = true:=by
 unfold joinedFacts
 repeat' (with_reducible refine and_mk ?_ ?_)
 all_goals (as_aux_lemma=>kernel_rfl)
theorem chooses_inst : Tryz.f4.isInstance Tryz.prog Rows.algebraChoosesUptoRow.origin Rows.algebraChoosesUptoRow.targs:=of_decide_eq_true (by kernel_rfl)
theorem chooses_wrap : Tryz.f4.isWrapper Tryz.prog Rows.algebraChoosesUptoRow.wrapper Rows.algebraChoosesUptoRow.mainSum:=by
 unfold Func.isWrapper
 first | (rw [if_pos (by decide +kernel)]; kernel_rfl) | (rw [if_neg (by decide +kernel)]; exact ⟨rfl,rfl⟩)
theorem chooses_over : Rows.algebraChoosesUptoRow.holds Tryz.pinned (Rows.OpenSpec.upto Rows.algebraChoosesSpec) :=
 OpenClaim.holds_of_cond 4 Tryz.f4 rfl rfl rfl rfl rfl rfl rfl ⟨rfl,rfl,rfl,rfl,rfl⟩ rfl rfl rfl rfl rfl chooses_named Tryz.func4 chooses_facts
  chooses_inst chooses_wrap
  (fun os started H en _ F=>chooses_lifted os started H en F)
theorem chooses_proved : Rows.AlgebraChoosesUptoSaid:=chooses_over
end Go.Proofs.YtpejdgkaapnekaaGreat
