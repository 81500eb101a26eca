/- Algebra.Types, for each reader, each finite reading of its tree and each bulk of at most 1048576, answers as the row AlgebraTypesUpto says; conditions: the checked reading of the program, bulk at most 1048576. -/
import Derived.Test.YtpejdgkaapnekaaGreatB0
set_option linter.unusedVariables false
set_option linter.unusedSimpArgs false
namespace Go.Proofs.YtpejdgkaapnekaaGreat
open Go Go.Abs
open Go.ChangeShapes Go.WideShapes Go.ChangeAt Go.RowKit
set_option linter.unusedVariables false
set_option linter.unusedSimpArgs false
set_option maxRecDepth 100000 in
theorem types_lifted (os : Os) (started : os.Started) (H : Type) (en : TypeId × Value → H) (F : Stop.Interp) :
    ReturnsInHanded {} Tryz.checked os 3 .any ((Rows.OpenSpec.upto Rows.algebraTypesSpec).pre6 en Tryz.prog Tryz.f3 Rows.algebraTypesUptoRow.domain false) (((Rows.OpenSpec.upto Rows.algebraTypesSpec).at F).post en Tryz.prog Tryz.f3 false true false false) := by
  refine returnsInHanded_of_cond (C := Tryz.checked) (s := Rows.OpenSpec.upto Rows.algebraTypesSpec) (k := Rows.uptoSmall) rfl own started (by kernel_rfl) Tryz.func3
    (OpenSpec.witness (enc := en) (C := Tryz.checked) (s := Rows.OpenSpec.upto Rows.algebraTypesSpec) (k := Rows.uptoSmall) rfl false ⟨#[], #[.agg #[.slice none 0 0, .slice none 0 0, .slice none 0 0], .agg #[.int .i64 0, .string ⟨#[]⟩, .int .i64 0, .int .i64 0, .int .i64 0, .string ⟨#[]⟩, .slice none 0 0]], []⟩ 8 (by kernel_rfl) (by kernel_rfl) (by kernel_rfl)
      (x := ([.agg [.nil, .nil, .nil], .agg [.lit (.int .i64 0), .lit (.string []), .agg [.lit (.int .i64 0), .lit (.int .i64 0), .lit (.int .i64 0), .lit (.string [])], .nil]], [], [])) (by kernel_rfl) rfl (by kernel_rfl)) ?_
  intro W base args ds gs before hval hW _ hk _
  exact types_contract H en W base args ds gs before hval hW hk
theorem and_mk {a b : Bool} (ha : a = true) (hb : b = true) : (a && b) = true := by rw [ha, hb]; rfl
theorem types_named : Tryz.prog.funcNamed Rows.algebraTypesUptoRow.func = some 3 := by kernel_rfl
set_option maxHeartbeats 0 in
theorem types_facts : joinedFacts Tryz.prog 3 Tryz.f3 (Rows.OpenSpec.upto Rows.algebraTypesSpec).bare Rows.algebraTypesUptoRow = true := by
  unfold joinedFacts
  repeat' (with_reducible refine and_mk ?_ ?_)
  all_goals (as_aux_lemma => kernel_rfl)
theorem types_inst : Tryz.f3.isInstance Tryz.prog Rows.algebraTypesUptoRow.origin Rows.algebraTypesUptoRow.targs := of_decide_eq_true (by kernel_rfl)
theorem types_wrap : Tryz.f3.isWrapper Tryz.prog Rows.algebraTypesUptoRow.wrapper Rows.algebraTypesUptoRow.mainSum := by
  unfold Func.isWrapper
  first | (rw [if_pos (by decide +kernel)]; kernel_rfl) | (rw [if_neg (by decide +kernel)]; exact ⟨rfl, rfl⟩)
theorem types_over : Rows.algebraTypesUptoRow.holds Tryz.pinned (Rows.OpenSpec.upto Rows.algebraTypesSpec) :=
  OpenClaim.holds_of_cond 3 Tryz.f3 rfl rfl rfl rfl rfl rfl rfl ⟨rfl, rfl, rfl, rfl, rfl⟩ rfl rfl rfl rfl rfl types_named Tryz.func3 types_facts
    types_inst types_wrap
    (fun os started H en _ F => types_lifted os started H en F)
theorem types_proved : Rows.AlgebraTypesUptoSaid := types_over
end Go.Proofs.YtpejdgkaapnekaaGreat
