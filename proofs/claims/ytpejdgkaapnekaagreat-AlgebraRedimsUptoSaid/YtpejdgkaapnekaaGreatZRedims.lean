/- Algebra.Redims (redimensions, or the errors, are the document's; the array that is given stays), for each reader, each finite reading of its tree and each bulk of at most 1048576, answers as the row AlgebraRedimsUpto says; conditions: the checked reading of the program, bulk at most 1048576. -/
import Derived.Test.YtpejdgkaapnekaaGreatP17
set_option linter.unusedVariables false
set_option linter.unusedSimpArgs false
namespace Go.Proofs.YtpejdgkaapnekaaGreat
open Go Go.Abs
open Go.ChangeShapes Go.WideShapes Go.ChangeAt Go.RowKit
set_option maxRecDepth 100000 in
theorem redims_lifted (os : Os) (started : os.Started) (H : Type) (en : TypeId × Value → H) (F : Stop.Interp) :
    ReturnsInHanded {} Tryz.checked os 5 .any ((Rows.OpenSpec.upto Rows.algebraRedimsSpec).pre6 en Tryz.prog Tryz.f5 Rows.algebraRedimsUptoRow.domain false) (((Rows.OpenSpec.upto Rows.algebraRedimsSpec).at F).post en Tryz.prog Tryz.f5 false true false false) := by
  refine returnsInHanded_of_cond (C := Tryz.checked) (s := Rows.OpenSpec.upto Rows.algebraRedimsSpec) (k := Rows.uptoSmall) rfl own started (by kernel_rfl) Tryz.func5
    (OpenSpec.witness (enc := en) (C := Tryz.checked) (s := Rows.OpenSpec.upto Rows.algebraRedimsSpec) (k := Rows.uptoSmall) rfl false ⟨#[], #[.agg #[.slice none 0 0, .slice none 0 0, .slice none 0 0], .slice none 0 0, .slice none 0 0, .int .i64 0], []⟩ 8 (by kernel_rfl) (by kernel_rfl) (by kernel_rfl)
      (x := ([.agg [.nil, .nil, .nil], .nil, .nil, .lit (.int .i64 0)], [], [])) (by kernel_rfl) rfl (by kernel_rfl)) ?_
  intro W base args ds gs before hval hW _ hk _
  exact redims_contract H en W base args ds gs before hval hW hk
theorem and_mk {a b : Bool} (ha : a = true) (hb : b = true) : (a && b) = true := by rw [ha, hb]; rfl
theorem redims_named : Tryz.prog.funcNamed Rows.algebraRedimsUptoRow.func = some 5 := by kernel_rfl
set_option maxHeartbeats 0 in
theorem redims_facts : joinedFacts Tryz.prog 5 Tryz.f5 (Rows.OpenSpec.upto Rows.algebraRedimsSpec).bare Rows.algebraRedimsUptoRow = true := by
  unfold joinedFacts
  repeat' (with_reducible refine and_mk ?_ ?_)
  all_goals (as_aux_lemma => kernel_rfl)
theorem redims_inst : Tryz.f5.isInstance Tryz.prog Rows.algebraRedimsUptoRow.origin Rows.algebraRedimsUptoRow.targs := of_decide_eq_true (by kernel_rfl)
theorem redims_wrap : Tryz.f5.isWrapper Tryz.prog Rows.algebraRedimsUptoRow.wrapper Rows.algebraRedimsUptoRow.mainSum := by
  unfold Func.isWrapper
  first | (rw [if_pos (by decide +kernel)]; kernel_rfl) | (rw [if_neg (by decide +kernel)]; exact ⟨rfl, rfl⟩)
theorem redims_over : Rows.algebraRedimsUptoRow.holds Tryz.pinned (Rows.OpenSpec.upto Rows.algebraRedimsSpec) :=
  OpenClaim.holds_of_cond 5 Tryz.f5 rfl rfl rfl rfl rfl rfl rfl ⟨rfl, rfl, rfl, rfl, rfl⟩ rfl rfl rfl rfl rfl redims_named Tryz.func5 redims_facts
    redims_inst redims_wrap
    (fun os started H en _ F => redims_lifted os started H en F)
theorem redims_proved : Rows.AlgebraRedimsUptoSaid := redims_over
end Go.Proofs.YtpejdgkaapnekaaGreat
