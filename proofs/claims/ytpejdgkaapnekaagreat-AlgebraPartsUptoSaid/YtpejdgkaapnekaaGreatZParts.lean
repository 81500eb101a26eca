/- Algebra.Parts (the parts of a concatenation), for each reader, each finite reading of its tree and each bulk of at most 1048576, answers as the row AlgebraPartsUpto says; conditions: the checked reading of the program, bulk at most 1048576. -/
import Derived.Test.YtpejdgkaapnekaaGreatP26
set_option linter.unusedVariables false
set_option linter.unusedSimpArgs false
namespace Go.Proofs.YtpejdgkaapnekaaGreat
open Go Go.Abs
open Go.ChangeShapes Go.WideShapes Go.ChangeAt Go.RowKit
set_option maxRecDepth 100000 in
theorem parts_lifted (os : Os) (started : os.Started) (H : Type) (en : TypeId × Value → H) (F : Stop.Interp) :
    ReturnsInHanded {} Tryz.checked os 7 .any ((Rows.OpenSpec.upto Rows.algebraPartsSpec).pre6 en Tryz.prog Tryz.f7 Rows.algebraPartsUptoRow.domain false) (((Rows.OpenSpec.upto Rows.algebraPartsSpec).at F).post en Tryz.prog Tryz.f7 false true false false) := by
  refine returnsInHanded_of_cond (C := Tryz.checked) (s := Rows.OpenSpec.upto Rows.algebraPartsSpec) (k := Rows.uptoSmall) rfl own started (by kernel_rfl) Tryz.func7
    (OpenSpec.witness (enc := en) (C := Tryz.checked) (s := Rows.OpenSpec.upto Rows.algebraPartsSpec) (k := Rows.uptoSmall) rfl false ⟨#[], #[.agg #[.slice none 0 0, .slice none 0 0, .slice none 0 0], .agg #[.slice none 0 0, .slice none 0 0, .slice none 0 0], .string ⟨#[]⟩], []⟩ 8 (by kernel_rfl) (by kernel_rfl) (by kernel_rfl)
      (x := ([.agg [.nil, .nil, .nil], .agg [.nil, .nil, .nil], .lit (.string [])], [], [])) (by kernel_rfl) rfl (by kernel_rfl)) ?_
  intro W base args ds gs before hval hW _ hk _
  exact parts_contract H en W base args ds gs before hval hW hk
theorem and_mk {a b : Bool} (ha : a = true) (hb : b = true) : (a && b) = true := by rw [ha, hb]; rfl
theorem parts_named : Tryz.prog.funcNamed Rows.algebraPartsUptoRow.func = some 7 := by kernel_rfl
set_option maxHeartbeats 0 in
theorem parts_facts : joinedFacts Tryz.prog 7 Tryz.f7 (Rows.OpenSpec.upto Rows.algebraPartsSpec).bare Rows.algebraPartsUptoRow = true := by
  unfold joinedFacts
  repeat' (with_reducible refine and_mk ?_ ?_)
  all_goals (as_aux_lemma => kernel_rfl)
theorem parts_inst : Tryz.f7.isInstance Tryz.prog Rows.algebraPartsUptoRow.origin Rows.algebraPartsUptoRow.targs := of_decide_eq_true (by kernel_rfl)
theorem parts_wrap : Tryz.f7.isWrapper Tryz.prog Rows.algebraPartsUptoRow.wrapper Rows.algebraPartsUptoRow.mainSum := by
  unfold Func.isWrapper
  first | (rw [if_pos (by decide +kernel)]; kernel_rfl) | (rw [if_neg (by decide +kernel)]; exact ⟨rfl, rfl⟩)
theorem parts_over : Rows.algebraPartsUptoRow.holds Tryz.pinned (Rows.OpenSpec.upto Rows.algebraPartsSpec) :=
  OpenClaim.holds_of_cond 7 Tryz.f7 rfl rfl rfl rfl rfl rfl rfl ⟨rfl, rfl, rfl, rfl, rfl⟩ rfl rfl rfl rfl rfl parts_named Tryz.func7 parts_facts
    parts_inst parts_wrap
    (fun os started H en _ F => parts_lifted os started H en F)
theorem parts_proved : Rows.AlgebraPartsUptoSaid := parts_over
end Go.Proofs.YtpejdgkaapnekaaGreat
