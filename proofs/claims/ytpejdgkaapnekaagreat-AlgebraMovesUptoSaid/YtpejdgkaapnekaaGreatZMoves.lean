/- Algebra.Moves (redimensions without conflicts), for each reader, each finite reading of its tree and each bulk of at most 1048576, answers as the row AlgebraMovesUpto says; conditions: the checked reading of the program, bulk at most 1048576. -/
import Derived.Test.YtpejdgkaapnekaaGreatP26
set_option linter.unusedVariables false
set_option linter.unusedSimpArgs false
namespace Go.Proofs.YtpejdgkaapnekaaGreat
open Go Go.Abs
open Go.ChangeShapes Go.WideShapes Go.ChangeAt Go.RowKit
set_option maxRecDepth 100000 in
theorem moves_lifted (os : Os) (started : os.Started) (H : Type) (en : TypeId × Value → H) (F : Stop.Interp) :
    ReturnsInHanded {} Tryz.checked os 8 .any ((Rows.OpenSpec.upto Rows.algebraMovesSpec).pre6 en Tryz.prog Tryz.f8 Rows.algebraMovesUptoRow.domain false) (((Rows.OpenSpec.upto Rows.algebraMovesSpec).at F).post en Tryz.prog Tryz.f8 false true false false) := by
  refine returnsInHanded_of_cond (C := Tryz.checked) (s := Rows.OpenSpec.upto Rows.algebraMovesSpec) (k := Rows.uptoSmall) rfl own started (by kernel_rfl) Tryz.func8
    (OpenSpec.witness (enc := en) (C := Tryz.checked) (s := Rows.OpenSpec.upto Rows.algebraMovesSpec) (k := Rows.uptoSmall) rfl false ⟨#[], #[.agg #[.slice none 0 0, .slice none 0 0, .slice none 0 0], .slice none 0 0, .slice none 0 0], []⟩ 8 (by kernel_rfl) (by kernel_rfl) (by kernel_rfl)
      (x := ([.agg [.nil, .nil, .nil], .nil, .nil], [], [])) (by kernel_rfl) rfl (by kernel_rfl)) ?_
  intro W base args ds gs before hval hW _ hk _
  exact moves_contract H en W base args ds gs before hval hW hk
theorem and_mk {a b : Bool} (ha : a = true) (hb : b = true) : (a && b) = true := by rw [ha, hb]; rfl
theorem moves_named : Tryz.prog.funcNamed Rows.algebraMovesUptoRow.func = some 8 := by kernel_rfl
set_option maxHeartbeats 0 in
theorem moves_facts : joinedFacts Tryz.prog 8 Tryz.f8 (Rows.OpenSpec.upto Rows.algebraMovesSpec).bare Rows.algebraMovesUptoRow = true := by
  unfold joinedFacts
  repeat' (with_reducible refine and_mk ?_ ?_)
  all_goals (as_aux_lemma => kernel_rfl)
theorem moves_inst : Tryz.f8.isInstance Tryz.prog Rows.algebraMovesUptoRow.origin Rows.algebraMovesUptoRow.targs := of_decide_eq_true (by kernel_rfl)
theorem moves_wrap : Tryz.f8.isWrapper Tryz.prog Rows.algebraMovesUptoRow.wrapper Rows.algebraMovesUptoRow.mainSum := by
  unfold Func.isWrapper
  first | (rw [if_pos (by decide +kernel)]; kernel_rfl) | (rw [if_neg (by decide +kernel)]; exact ⟨rfl, rfl⟩)
theorem moves_over : Rows.algebraMovesUptoRow.holds Tryz.pinned (Rows.OpenSpec.upto Rows.algebraMovesSpec) :=
  OpenClaim.holds_of_cond 8 Tryz.f8 rfl rfl rfl rfl rfl rfl rfl ⟨rfl, rfl, rfl, rfl, rfl⟩ rfl rfl rfl rfl rfl moves_named Tryz.func8 moves_facts
    moves_inst moves_wrap
    (fun os started H en _ F => moves_lifted os started H en F)
theorem moves_proved : Rows.AlgebraMovesUptoSaid := moves_over
end Go.Proofs.YtpejdgkaapnekaaGreat
