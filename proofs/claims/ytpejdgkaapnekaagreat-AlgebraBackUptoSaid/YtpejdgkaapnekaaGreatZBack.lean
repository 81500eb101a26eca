/- Algebra.Back (transposing by the old order, renaming to the old name and reshaping to the old dimensions lead back), for each reader, each finite reading of its tree and each bulk of at most 1048576, answers as the row AlgebraBackUpto says; conditions: the checked reading of the program, bulk at most 1048576. -/
import Derived.Test.YtpejdgkaapnekaaGreatP17
set_option linter.unusedVariables false
set_option linter.unusedSimpArgs false
namespace Go.Proofs.YtpejdgkaapnekaaGreat
open Go Go.Abs
open Go.ChangeShapes Go.WideShapes Go.ChangeAt Go.RowKit
set_option maxRecDepth 100000 in
theorem back_lifted (os : Os) (started : os.Started) (H : Type) (en : TypeId × Value → H) (F : Stop.Interp) :
    ReturnsInHanded {} Tryz.checked os 13 .any ((Rows.OpenSpec.upto Rows.algebraBackSpec).pre6 en Tryz.prog Tryz.f13 Rows.algebraBackUptoRow.domain false) (((Rows.OpenSpec.upto Rows.algebraBackSpec).at F).post en Tryz.prog Tryz.f13 false true false false) := by
  refine returnsInHanded_of_cond (C := Tryz.checked) (s := Rows.OpenSpec.upto Rows.algebraBackSpec) (k := Rows.uptoSmall) rfl own started (by kernel_rfl) Tryz.func13
    (OpenSpec.witness (enc := en) (C := Tryz.checked) (s := Rows.OpenSpec.upto Rows.algebraBackSpec) (k := Rows.uptoSmall) rfl false ⟨#[], #[.agg #[.slice none 0 0, .slice none 0 0, .slice none 0 0], .slice none 0 0, .string ⟨#[]⟩, .string ⟨#[]⟩, .slice none 0 0], []⟩ 8 (by kernel_rfl) (by kernel_rfl) (by kernel_rfl)
      (x := ([.agg [.nil, .nil, .nil], .nil, .lit (.string []), .lit (.string []), .nil], [], [])) (by kernel_rfl) rfl (by kernel_rfl)) ?_
  intro W base args ds gs before hval hW _ hk _
  exact back_contract H en W base args ds gs before hval hW hk
theorem and_mk {a b : Bool} (ha : a = true) (hb : b = true) : (a && b) = true := by rw [ha, hb]; rfl
theorem back_named : Tryz.prog.funcNamed Rows.algebraBackUptoRow.func = some 13 := by kernel_rfl
set_option maxHeartbeats 0 in
theorem back_facts : joinedFacts Tryz.prog 13 Tryz.f13 (Rows.OpenSpec.upto Rows.algebraBackSpec).bare Rows.algebraBackUptoRow = true := by
  unfold joinedFacts
  repeat' (with_reducible refine and_mk ?_ ?_)
  all_goals (as_aux_lemma => kernel_rfl)
theorem back_inst : Tryz.f13.isInstance Tryz.prog Rows.algebraBackUptoRow.origin Rows.algebraBackUptoRow.targs := of_decide_eq_true (by kernel_rfl)
theorem back_wrap : Tryz.f13.isWrapper Tryz.prog Rows.algebraBackUptoRow.wrapper Rows.algebraBackUptoRow.mainSum := by
  unfold Func.isWrapper
  first | (rw [if_pos (by decide +kernel)]; kernel_rfl) | (rw [if_neg (by decide +kernel)]; exact ⟨rfl, rfl⟩)
theorem back_over : Rows.algebraBackUptoRow.holds Tryz.pinned (Rows.OpenSpec.upto Rows.algebraBackSpec) :=
  OpenClaim.holds_of_cond 13 Tryz.f13 rfl rfl rfl rfl rfl rfl rfl ⟨rfl, rfl, rfl, rfl, rfl⟩ rfl rfl rfl rfl rfl back_named Tryz.func13 back_facts
    back_inst back_wrap
    (fun os started H en _ F => back_lifted os started H en F)
theorem back_proved : Rows.AlgebraBackUptoSaid := back_over
end Go.Proofs.YtpejdgkaapnekaaGreat
