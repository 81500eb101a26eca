/- Algebra.Names (the names that a scalar uses, scalars with another name, and whether two scalars are the same, are the document's), for each reader, each finite reading of its tree and each bulk of at most 1048576, answers as the row AlgebraNamesUpto says; conditions: the checked reading of the program, bulk at most 1048576. -/
import Derived.Test.YtpejdgkaapnekaaGreatP17
set_option linter.unusedVariables false
set_option linter.unusedSimpArgs false
namespace Go.Proofs.YtpejdgkaapnekaaGreat
open Go Go.Abs
open Go.ChangeShapes Go.WideShapes Go.ChangeAt Go.RowKit
set_option maxRecDepth 100000 in
theorem names_lifted (os : Os) (started : os.Started) (H : Type) (en : TypeId × Value → H) (F : Stop.Interp) :
    ReturnsInHanded {} Tryz.checked os 18 .any ((Rows.OpenSpec.upto Rows.algebraNamesSpec).pre6 en Tryz.prog Tryz.f18 Rows.algebraNamesUptoRow.domain false) (((Rows.OpenSpec.upto Rows.algebraNamesSpec).at F).post en Tryz.prog Tryz.f18 false true false false) := by
  refine returnsInHanded_of_cond (C := Tryz.checked) (s := Rows.OpenSpec.upto Rows.algebraNamesSpec) (k := Rows.uptoSmall) rfl own started (by kernel_rfl) Tryz.func18
    (OpenSpec.witness (enc := en) (C := Tryz.checked) (s := Rows.OpenSpec.upto Rows.algebraNamesSpec) (k := Rows.uptoSmall) rfl false ⟨#[], #[.agg #[.int .i64 0, .string ⟨#[]⟩, .int .i64 0, .int .i64 0, .int .i64 0, .string ⟨#[]⟩, .slice none 0 0], .agg #[.int .i64 0, .string ⟨#[]⟩, .int .i64 0, .int .i64 0, .int .i64 0, .string ⟨#[]⟩, .slice none 0 0], .string ⟨#[]⟩, .string ⟨#[]⟩], []⟩ 8 (by kernel_rfl) (by kernel_rfl) (by kernel_rfl)
      (x := ([.agg [.lit (.int .i64 0), .lit (.string []), .agg [.lit (.int .i64 0), .lit (.int .i64 0), .lit (.int .i64 0), .lit (.string [])], .nil], .agg [.lit (.int .i64 0), .lit (.string []), .agg [.lit (.int .i64 0), .lit (.int .i64 0), .lit (.int .i64 0), .lit (.string [])], .nil], .lit (.string []), .lit (.string [])], [], [])) (by kernel_rfl) rfl (by kernel_rfl)) ?_
  intro W base args ds gs before hval hW _ hk _
  exact names_contract H en W base args ds gs before hval hW hk
theorem and_mk {a b : Bool} (ha : a = true) (hb : b = true) : (a && b) = true := by rw [ha, hb]; rfl
theorem names_named : Tryz.prog.funcNamed Rows.algebraNamesUptoRow.func = some 18 := by kernel_rfl
set_option maxHeartbeats 0 in
theorem names_facts : joinedFacts Tryz.prog 18 Tryz.f18 (Rows.OpenSpec.upto Rows.algebraNamesSpec).bare Rows.algebraNamesUptoRow = true := by
  unfold joinedFacts
  repeat' (with_reducible refine and_mk ?_ ?_)
  all_goals (as_aux_lemma => kernel_rfl)
theorem names_inst : Tryz.f18.isInstance Tryz.prog Rows.algebraNamesUptoRow.origin Rows.algebraNamesUptoRow.targs := of_decide_eq_true (by kernel_rfl)
theorem names_wrap : Tryz.f18.isWrapper Tryz.prog Rows.algebraNamesUptoRow.wrapper Rows.algebraNamesUptoRow.mainSum := by
  unfold Func.isWrapper
  first | (rw [if_pos (by decide +kernel)]; kernel_rfl) | (rw [if_neg (by decide +kernel)]; exact ⟨rfl, rfl⟩)
theorem names_over : Rows.algebraNamesUptoRow.holds Tryz.pinned (Rows.OpenSpec.upto Rows.algebraNamesSpec) :=
  OpenClaim.holds_of_cond 18 Tryz.f18 rfl rfl rfl rfl rfl rfl rfl ⟨rfl, rfl, rfl, rfl, rfl⟩ rfl rfl rfl rfl rfl names_named Tryz.func18 names_facts
    names_inst names_wrap
    (fun os started H en _ F => names_lifted os started H en F)
theorem names_proved : Rows.AlgebraNamesUptoSaid := names_over
end Go.Proofs.YtpejdgkaapnekaaGreat
