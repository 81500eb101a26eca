/- Algebra.Shapes (reshaped and transposed arrays, or the errors, are the document's; the array that is given stays), for each reader, each finite reading of its tree and each bulk of at most 1048576, answers as the row AlgebraShapesUpto says; conditions: the checked reading of the program, bulk at most 1048576. -/
import Derived.Test.YtpejdgkaapnekaaGreatP16
set_option linter.unusedVariables false
set_option linter.unusedSimpArgs false
namespace Go.Proofs.YtpejdgkaapnekaaGreat
open Go Go.Abs
open Go.ChangeShapes Go.WideShapes Go.ChangeAt Go.RowKit
set_option maxRecDepth 100000 in
theorem shapes_lifted (os : Os) (started : os.Started) (H : Type) (en : TypeId × Value → H) (F : Stop.Interp) :
    ReturnsInHanded {} Tryz.checked os 10 .any ((Rows.OpenSpec.upto Rows.algebraShapesSpec).pre6 en Tryz.prog Tryz.f10 Rows.algebraShapesUptoRow.domain false) (((Rows.OpenSpec.upto Rows.algebraShapesSpec).at F).post en Tryz.prog Tryz.f10 false true false false) := by
  refine returnsInHanded_of_cond (C := Tryz.checked) (s := Rows.OpenSpec.upto Rows.algebraShapesSpec) (k := Rows.uptoSmall) rfl own started (by kernel_rfl) Tryz.func10
    (OpenSpec.witness (enc := en) (C := Tryz.checked) (s := Rows.OpenSpec.upto Rows.algebraShapesSpec) (k := Rows.uptoSmall) rfl false ⟨#[], #[.agg #[.slice none 0 0, .slice none 0 0, .slice none 0 0], .slice none 0 0, .slice none 0 0], []⟩ 8 (by kernel_rfl) (by kernel_rfl) (by kernel_rfl)
      (x := ([.agg [.nil, .nil, .nil], .nil, .nil], [], [])) (by kernel_rfl) rfl (by kernel_rfl)) ?_
  intro W base args ds gs before hval hW _ hk _
  exact shapes_contract H en W base args ds gs before hval hW hk
theorem and_mk {a b : Bool} (ha : a = true) (hb : b = true) : (a && b) = true := by rw [ha, hb]; rfl
theorem shapes_named : Tryz.prog.funcNamed Rows.algebraShapesUptoRow.func = some 10 := by kernel_rfl
set_option maxHeartbeats 0 in
theorem shapes_facts : joinedFacts Tryz.prog 10 Tryz.f10 (Rows.OpenSpec.upto Rows.algebraShapesSpec).bare Rows.algebraShapesUptoRow = true := by
  unfold joinedFacts
  repeat' (with_reducible refine and_mk ?_ ?_)
  all_goals (as_aux_lemma => kernel_rfl)
theorem shapes_inst : Tryz.f10.isInstance Tryz.prog Rows.algebraShapesUptoRow.origin Rows.algebraShapesUptoRow.targs := of_decide_eq_true (by kernel_rfl)
theorem shapes_wrap : Tryz.f10.isWrapper Tryz.prog Rows.algebraShapesUptoRow.wrapper Rows.algebraShapesUptoRow.mainSum := by
  unfold Func.isWrapper
  first | (rw [if_pos (by decide +kernel)]; kernel_rfl) | (rw [if_neg (by decide +kernel)]; exact ⟨rfl, rfl⟩)
theorem shapes_over : Rows.algebraShapesUptoRow.holds Tryz.pinned (Rows.OpenSpec.upto Rows.algebraShapesSpec) :=
  OpenClaim.holds_of_cond 10 Tryz.f10 rfl rfl rfl rfl rfl rfl rfl ⟨rfl, rfl, rfl, rfl, rfl⟩ rfl rfl rfl rfl rfl shapes_named Tryz.func10 shapes_facts
    shapes_inst shapes_wrap
    (fun os started H en _ F => shapes_lifted os started H en F)
theorem shapes_proved : Rows.AlgebraShapesUptoSaid := shapes_over
end Go.Proofs.YtpejdgkaapnekaaGreat
