/- Algebra.Merges (an array merged with itself changes nothing; merging is associative and, where no coordinates are in common, commutative), for each reader, each finite reading of its tree and each bulk of at most 1048576, answers as the row AlgebraMergesUpto says; conditions: the checked reading of the program, bulk at most 1048576. -/
import Derived.Test.YtpejdgkaapnekaaGreatP16
set_option linter.unusedVariables false
set_option linter.unusedSimpArgs false
namespace Go.Proofs.YtpejdgkaapnekaaGreat
open Go Go.Abs
open Go.ChangeShapes Go.WideShapes Go.ChangeAt Go.RowKit
set_option maxRecDepth 100000 in
theorem merges_lifted (os : Os) (started : os.Started) (H : Type) (en : TypeId × Value → H) (F : Stop.Interp) :
    ReturnsInHanded {} Tryz.checked os 12 .any ((Rows.OpenSpec.upto Rows.algebraMergesSpec).pre6 en Tryz.prog Tryz.f12 Rows.algebraMergesUptoRow.domain false) (((Rows.OpenSpec.upto Rows.algebraMergesSpec).at F).post en Tryz.prog Tryz.f12 false true false false) := by
  refine returnsInHanded_of_cond (C := Tryz.checked) (s := Rows.OpenSpec.upto Rows.algebraMergesSpec) (k := Rows.uptoSmall) rfl own started (by kernel_rfl) Tryz.func12
    (OpenSpec.witness (enc := en) (C := Tryz.checked) (s := Rows.OpenSpec.upto Rows.algebraMergesSpec) (k := Rows.uptoSmall) rfl false ⟨#[], #[.agg #[.slice none 0 0, .slice none 0 0, .slice none 0 0], .agg #[.slice none 0 0, .slice none 0 0, .slice none 0 0], .agg #[.slice none 0 0, .slice none 0 0, .slice none 0 0]], []⟩ 8 (by kernel_rfl) (by kernel_rfl) (by kernel_rfl)
      (x := ([.agg [.nil, .nil, .nil], .agg [.nil, .nil, .nil], .agg [.nil, .nil, .nil]], [], [])) (by kernel_rfl) rfl (by kernel_rfl)) ?_
  intro W base args ds gs before hval hW _ hk _
  exact merges_contract H en W base args ds gs before hval hW hk
theorem and_mk {a b : Bool} (ha : a = true) (hb : b = true) : (a && b) = true := by rw [ha, hb]; rfl
theorem merges_named : Tryz.prog.funcNamed Rows.algebraMergesUptoRow.func = some 12 := by kernel_rfl
set_option maxHeartbeats 0 in
theorem merges_facts : joinedFacts Tryz.prog 12 Tryz.f12 (Rows.OpenSpec.upto Rows.algebraMergesSpec).bare Rows.algebraMergesUptoRow = true := by
  unfold joinedFacts
  repeat' (with_reducible refine and_mk ?_ ?_)
  all_goals (as_aux_lemma => kernel_rfl)
theorem merges_inst : Tryz.f12.isInstance Tryz.prog Rows.algebraMergesUptoRow.origin Rows.algebraMergesUptoRow.targs := of_decide_eq_true (by kernel_rfl)
theorem merges_wrap : Tryz.f12.isWrapper Tryz.prog Rows.algebraMergesUptoRow.wrapper Rows.algebraMergesUptoRow.mainSum := by
  unfold Func.isWrapper
  first | (rw [if_pos (by decide +kernel)]; kernel_rfl) | (rw [if_neg (by decide +kernel)]; exact ⟨rfl, rfl⟩)
theorem merges_over : Rows.algebraMergesUptoRow.holds Tryz.pinned (Rows.OpenSpec.upto Rows.algebraMergesSpec) :=
  OpenClaim.holds_of_cond 12 Tryz.f12 rfl rfl rfl rfl rfl rfl rfl ⟨rfl, rfl, rfl, rfl, rfl⟩ rfl rfl rfl rfl rfl merges_named Tryz.func12 merges_facts
    merges_inst merges_wrap
    (fun os started H en _ F => merges_lifted os started H en F)
theorem merges_proved : Rows.AlgebraMergesUptoSaid := merges_over
end Go.Proofs.YtpejdgkaapnekaaGreat
