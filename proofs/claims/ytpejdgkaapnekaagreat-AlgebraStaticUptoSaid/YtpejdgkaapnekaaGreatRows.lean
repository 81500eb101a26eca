/-
  NARROWER THAN 'FOR EVERY INPUT', by the rows' own cells (each row's printed sentence says how): AlgebraTypes: loops · AlgebraChooses: loops · AlgebraChoice: loops · AlgebraValues: loops · AlgebraPointwise: loops · AlgebraColumns: loops · AlgebraStatic: loops · AlgebraNames: loops.
  DERIVED. THE GIVEN ROWS OF THIS SEAT. 16 by the template 'for every input the law returns true; each argument reads behind the call as it read before'; 0 by the template 'total and deterministic' (their statements: YtpejdgkaapnekaaGreatTotals.lean).
  GIVEN WITH THE SEED: the statements are not yours to turn. If you find one false, say at which input.
  Laid BY PROGRAM, IN A SANDBOX (cutbox-rows.mjs): the forced cells as the released guide's own fill.sh prints them over the translation 93992670b3f989b9… (all of the seat's roots in one cut). By AI agents, Wed Nov 11 2026. No macro, syntax, notation, axiom, sorry.
-/
import Derived.Test.YtpejdgkaapnekaaGreatChecked
import GoSem.Claim
import GoSem.ClaimJoined
import GoSem.ClaimMapViews
import Derived.JoinedTies
import Derived.KernelRfl
namespace Go.Proofs.YtpejdgkaapnekaaGreat
/- THE CELL 'sum', in the pinned program and in every row, IS THE sha256 OF THE DUMP (.gsa) THAT YtpejdgkaapnekaaGreatProg.lean LOADS. Nothing in Lean hashes anything: it is a label: what it is worth is what the hold of that sum in a sandbox is worth. -/
noncomputable def Tryz.pinned : Pinned := { name := "ytpejdgkaapnekaagreat", sum := "93992670b3f989b9d926fa3d23bde77479f3cf74a5ff8ea56778efe42a29b8c0", checked := Tryz.checked }
namespace Rows
def none {H : Type} : Left H := { results := [], args := [] }

/-- 'tesseractlaw04.AlgebraTypes': WHATEVER THE INPUT: true; the input reads as it did. -/
def algebraTypesSpec : ChangeSpec := { name := "algebraTypes", fn := fun _ => fun
  | [d1, d2] => { results := [.lit (.bool true)], args := [d1, d2] }
  | _ => none }
def algebraTypesRow : OpenClaim := { program := "ytpejdgkaapnekaagreat", sum := "93992670b3f989b9d926fa3d23bde77479f3cf74a5ff8ea56778efe42a29b8c0", func := "tesseract/tesseractlaw04.AlgebraTypes", spec := "algebraTypes", inPlace := ["internal/bytealg.abigen_runtime_cmpstring"], unfollowed := true, recurses := true, loops := true, plainKeys := false, apart := false }
def AlgebraTypesSaid : Prop := algebraTypesRow.holds Tryz.pinned (OpenSpec.ofChange algebraTypesSpec)

/-- ITS FALSE NEIGHBOUR: 'it returns false'. Refute it at one input. -/
def algebraTypesWrong : ChangeSpec := { name := "algebraTypes", fn := fun _ => fun
  | [d1, d2] => { results := [.lit (.bool false)], args := [d1, d2] }
  | _ => none }
def AlgebraTypesWrongFalsely : Prop := algebraTypesRow.holds Tryz.pinned (OpenSpec.ofChange algebraTypesWrong)

/-- 'tesseractlaw04.AlgebraChooses': WHATEVER THE INPUT: true; the input reads as it did. -/
def algebraChoosesSpec : ChangeSpec := { name := "algebraChooses", fn := fun _ => fun
  | [d1, d2, d3, d4] => { results := [.lit (.bool true)], args := [d1, d2, d3, d4] }
  | _ => none }
def algebraChoosesRow : OpenClaim := { program := "ytpejdgkaapnekaagreat", sum := "93992670b3f989b9d926fa3d23bde77479f3cf74a5ff8ea56778efe42a29b8c0", func := "tesseract/tesseractlaw04.AlgebraChooses", spec := "algebraChooses", inPlace := ["internal/bytealg.abigen_runtime_cmpstring"], unfollowed := true, recurses := true, loops := true, plainKeys := false, apart := false }
def AlgebraChoosesSaid : Prop := algebraChoosesRow.holds Tryz.pinned (OpenSpec.ofChange algebraChoosesSpec)

/-- ITS FALSE NEIGHBOUR: 'it returns false'. Refute it at one input. -/
def algebraChoosesWrong : ChangeSpec := { name := "algebraChooses", fn := fun _ => fun
  | [d1, d2, d3, d4] => { results := [.lit (.bool false)], args := [d1, d2, d3, d4] }
  | _ => none }
def AlgebraChoosesWrongFalsely : Prop := algebraChoosesRow.holds Tryz.pinned (OpenSpec.ofChange algebraChoosesWrong)

/-- 'tesseractlaw04.AlgebraRedims': WHATEVER THE INPUT: true; the input reads as it did. -/
def algebraRedimsSpec : ChangeSpec := { name := "algebraRedims", fn := fun _ => fun
  | [d1, d2, d3, d4] => { results := [.lit (.bool true)], args := [d1, d2, d3, d4] }
  | _ => none }
def algebraRedimsRow : OpenClaim := { program := "ytpejdgkaapnekaagreat", sum := "93992670b3f989b9d926fa3d23bde77479f3cf74a5ff8ea56778efe42a29b8c0", func := "tesseract/tesseractlaw04.AlgebraRedims", spec := "algebraRedims", inPlace := ["internal/bytealg.abigen_runtime_cmpstring"], unfollowed := true, recurses := true, plainKeys := false, apart := false }
def AlgebraRedimsSaid : Prop := algebraRedimsRow.holds Tryz.pinned (OpenSpec.ofChange algebraRedimsSpec)

/-- ITS FALSE NEIGHBOUR: 'it returns false'. Refute it at one input. -/
def algebraRedimsWrong : ChangeSpec := { name := "algebraRedims", fn := fun _ => fun
  | [d1, d2, d3, d4] => { results := [.lit (.bool false)], args := [d1, d2, d3, d4] }
  | _ => none }
def AlgebraRedimsWrongFalsely : Prop := algebraRedimsRow.holds Tryz.pinned (OpenSpec.ofChange algebraRedimsWrong)

/-- 'tesseractlaw04.AlgebraChoice': WHATEVER THE INPUT: true; the input reads as it did. -/
def algebraChoiceSpec : ChangeSpec := { name := "algebraChoice", fn := fun _ => fun
  | [d1, d2, d3, d4, d5, d6, d7] => { results := [.lit (.bool true)], args := [d1, d2, d3, d4, d5, d6, d7] }
  | _ => none }
def algebraChoiceRow : OpenClaim := { program := "ytpejdgkaapnekaagreat", sum := "93992670b3f989b9d926fa3d23bde77479f3cf74a5ff8ea56778efe42a29b8c0", func := "tesseract/tesseractlaw04.AlgebraChoice", spec := "algebraChoice", inPlace := ["internal/bytealg.abigen_runtime_cmpstring"], unfollowed := true, recurses := true, loops := true, plainKeys := false, apart := false }
def AlgebraChoiceSaid : Prop := algebraChoiceRow.holds Tryz.pinned (OpenSpec.ofChange algebraChoiceSpec)

/-- ITS FALSE NEIGHBOUR: 'it returns false'. Refute it at one input. -/
def algebraChoiceWrong : ChangeSpec := { name := "algebraChoice", fn := fun _ => fun
  | [d1, d2, d3, d4, d5, d6, d7] => { results := [.lit (.bool false)], args := [d1, d2, d3, d4, d5, d6, d7] }
  | _ => none }
def AlgebraChoiceWrongFalsely : Prop := algebraChoiceRow.holds Tryz.pinned (OpenSpec.ofChange algebraChoiceWrong)

/-- 'tesseractlaw04.AlgebraParts': WHATEVER THE INPUT: true; the input reads as it did. -/
def algebraPartsSpec : ChangeSpec := { name := "algebraParts", fn := fun _ => fun
  | [d1, d2, d3] => { results := [.lit (.bool true)], args := [d1, d2, d3] }
  | _ => none }
def algebraPartsRow : OpenClaim := { program := "ytpejdgkaapnekaagreat", sum := "93992670b3f989b9d926fa3d23bde77479f3cf74a5ff8ea56778efe42a29b8c0", func := "tesseract/tesseractlaw04.AlgebraParts", spec := "algebraParts", inPlace := ["internal/bytealg.abigen_runtime_cmpstring"], unfollowed := true, recurses := true, plainKeys := false, apart := false }
def AlgebraPartsSaid : Prop := algebraPartsRow.holds Tryz.pinned (OpenSpec.ofChange algebraPartsSpec)

/-- ITS FALSE NEIGHBOUR: 'it returns false'. Refute it at one input. -/
def algebraPartsWrong : ChangeSpec := { name := "algebraParts", fn := fun _ => fun
  | [d1, d2, d3] => { results := [.lit (.bool false)], args := [d1, d2, d3] }
  | _ => none }
def AlgebraPartsWrongFalsely : Prop := algebraPartsRow.holds Tryz.pinned (OpenSpec.ofChange algebraPartsWrong)

/-- 'tesseractlaw04.AlgebraMoves': WHATEVER THE INPUT: true; the input reads as it did. -/
def algebraMovesSpec : ChangeSpec := { name := "algebraMoves", fn := fun _ => fun
  | [d1, d2, d3] => { results := [.lit (.bool true)], args := [d1, d2, d3] }
  | _ => none }
def algebraMovesRow : OpenClaim := { program := "ytpejdgkaapnekaagreat", sum := "93992670b3f989b9d926fa3d23bde77479f3cf74a5ff8ea56778efe42a29b8c0", func := "tesseract/tesseractlaw04.AlgebraMoves", spec := "algebraMoves", inPlace := ["internal/bytealg.abigen_runtime_cmpstring"], unfollowed := true, recurses := true, plainKeys := false, apart := false }
def AlgebraMovesSaid : Prop := algebraMovesRow.holds Tryz.pinned (OpenSpec.ofChange algebraMovesSpec)

/-- ITS FALSE NEIGHBOUR: 'it returns false'. Refute it at one input. -/
def algebraMovesWrong : ChangeSpec := { name := "algebraMoves", fn := fun _ => fun
  | [d1, d2, d3] => { results := [.lit (.bool false)], args := [d1, d2, d3] }
  | _ => none }
def AlgebraMovesWrongFalsely : Prop := algebraMovesRow.holds Tryz.pinned (OpenSpec.ofChange algebraMovesWrong)

/-- 'tesseractlaw04.AlgebraValues': WHATEVER THE INPUT: true; the input reads as it did. -/
def algebraValuesSpec : ChangeSpec := { name := "algebraValues", fn := fun _ => fun
  | [d1, d2, d3] => { results := [.lit (.bool true)], args := [d1, d2, d3] }
  | _ => none }
def algebraValuesRow : OpenClaim := { program := "ytpejdgkaapnekaagreat", sum := "93992670b3f989b9d926fa3d23bde77479f3cf74a5ff8ea56778efe42a29b8c0", func := "tesseract/tesseractlaw04.AlgebraValues", spec := "algebraValues", inPlace := ["internal/bytealg.abigen_runtime_cmpstring"], unfollowed := true, recurses := true, loops := true, plainKeys := false, apart := false }
def AlgebraValuesSaid : Prop := algebraValuesRow.holds Tryz.pinned (OpenSpec.ofChange algebraValuesSpec)

/-- ITS FALSE NEIGHBOUR: 'it returns false'. Refute it at one input. -/
def algebraValuesWrong : ChangeSpec := { name := "algebraValues", fn := fun _ => fun
  | [d1, d2, d3] => { results := [.lit (.bool false)], args := [d1, d2, d3] }
  | _ => none }
def AlgebraValuesWrongFalsely : Prop := algebraValuesRow.holds Tryz.pinned (OpenSpec.ofChange algebraValuesWrong)

/-- 'tesseractlaw04.AlgebraShapes': WHATEVER THE INPUT: true; the input reads as it did. -/
def algebraShapesSpec : ChangeSpec := { name := "algebraShapes", fn := fun _ => fun
  | [d1, d2, d3] => { results := [.lit (.bool true)], args := [d1, d2, d3] }
  | _ => none }
def algebraShapesRow : OpenClaim := { program := "ytpejdgkaapnekaagreat", sum := "93992670b3f989b9d926fa3d23bde77479f3cf74a5ff8ea56778efe42a29b8c0", func := "tesseract/tesseractlaw04.AlgebraShapes", spec := "algebraShapes", inPlace := ["internal/bytealg.abigen_runtime_cmpstring"], unfollowed := true, recurses := true, plainKeys := false, apart := false }
def AlgebraShapesSaid : Prop := algebraShapesRow.holds Tryz.pinned (OpenSpec.ofChange algebraShapesSpec)

/-- ITS FALSE NEIGHBOUR: 'it returns false'. Refute it at one input. -/
def algebraShapesWrong : ChangeSpec := { name := "algebraShapes", fn := fun _ => fun
  | [d1, d2, d3] => { results := [.lit (.bool false)], args := [d1, d2, d3] }
  | _ => none }
def AlgebraShapesWrongFalsely : Prop := algebraShapesRow.holds Tryz.pinned (OpenSpec.ofChange algebraShapesWrong)

/-- 'tesseractlaw04.AlgebraPointwise': WHATEVER THE INPUT: true; the input reads as it did. -/
def algebraPointwiseSpec : ChangeSpec := { name := "algebraPointwise", fn := fun _ => fun
  | [d1, d2, d3, d4, d5] => { results := [.lit (.bool true)], args := [d1, d2, d3, d4, d5] }
  | _ => none }
def algebraPointwiseRow : OpenClaim := { program := "ytpejdgkaapnekaagreat", sum := "93992670b3f989b9d926fa3d23bde77479f3cf74a5ff8ea56778efe42a29b8c0", func := "tesseract/tesseractlaw04.AlgebraPointwise", spec := "algebraPointwise", inPlace := ["internal/bytealg.abigen_runtime_cmpstring"], unfollowed := true, recurses := true, loops := true, plainKeys := false, apart := false }
def AlgebraPointwiseSaid : Prop := algebraPointwiseRow.holds Tryz.pinned (OpenSpec.ofChange algebraPointwiseSpec)

/-- ITS FALSE NEIGHBOUR: 'it returns false'. Refute it at one input. -/
def algebraPointwiseWrong : ChangeSpec := { name := "algebraPointwise", fn := fun _ => fun
  | [d1, d2, d3, d4, d5] => { results := [.lit (.bool false)], args := [d1, d2, d3, d4, d5] }
  | _ => none }
def AlgebraPointwiseWrongFalsely : Prop := algebraPointwiseRow.holds Tryz.pinned (OpenSpec.ofChange algebraPointwiseWrong)

/-- 'tesseractlaw04.AlgebraMerges': WHATEVER THE INPUT: true; the input reads as it did. -/
def algebraMergesSpec : ChangeSpec := { name := "algebraMerges", fn := fun _ => fun
  | [d1, d2, d3] => { results := [.lit (.bool true)], args := [d1, d2, d3] }
  | _ => none }
def algebraMergesRow : OpenClaim := { program := "ytpejdgkaapnekaagreat", sum := "93992670b3f989b9d926fa3d23bde77479f3cf74a5ff8ea56778efe42a29b8c0", func := "tesseract/tesseractlaw04.AlgebraMerges", spec := "algebraMerges", inPlace := ["internal/bytealg.abigen_runtime_cmpstring"], unfollowed := true, recurses := true, plainKeys := false, apart := false }
def AlgebraMergesSaid : Prop := algebraMergesRow.holds Tryz.pinned (OpenSpec.ofChange algebraMergesSpec)

/-- ITS FALSE NEIGHBOUR: 'it returns false'. Refute it at one input. -/
def algebraMergesWrong : ChangeSpec := { name := "algebraMerges", fn := fun _ => fun
  | [d1, d2, d3] => { results := [.lit (.bool false)], args := [d1, d2, d3] }
  | _ => none }
def AlgebraMergesWrongFalsely : Prop := algebraMergesRow.holds Tryz.pinned (OpenSpec.ofChange algebraMergesWrong)

/-- 'tesseractlaw04.AlgebraBack': WHATEVER THE INPUT: true; the input reads as it did. -/
def algebraBackSpec : ChangeSpec := { name := "algebraBack", fn := fun _ => fun
  | [d1, d2, d3, d4, d5] => { results := [.lit (.bool true)], args := [d1, d2, d3, d4, d5] }
  | _ => none }
def algebraBackRow : OpenClaim := { program := "ytpejdgkaapnekaagreat", sum := "93992670b3f989b9d926fa3d23bde77479f3cf74a5ff8ea56778efe42a29b8c0", func := "tesseract/tesseractlaw04.AlgebraBack", spec := "algebraBack", inPlace := ["internal/bytealg.abigen_runtime_cmpstring"], unfollowed := true, recurses := true, plainKeys := false, apart := false }
def AlgebraBackSaid : Prop := algebraBackRow.holds Tryz.pinned (OpenSpec.ofChange algebraBackSpec)

/-- ITS FALSE NEIGHBOUR: 'it returns false'. Refute it at one input. -/
def algebraBackWrong : ChangeSpec := { name := "algebraBack", fn := fun _ => fun
  | [d1, d2, d3, d4, d5] => { results := [.lit (.bool false)], args := [d1, d2, d3, d4, d5] }
  | _ => none }
def AlgebraBackWrongFalsely : Prop := algebraBackRow.holds Tryz.pinned (OpenSpec.ofChange algebraBackWrong)

/-- 'tesseractlaw04.AlgebraColumns': WHATEVER THE INPUT: true; the input reads as it did. -/
def algebraColumnsSpec : ChangeSpec := { name := "algebraColumns", fn := fun _ => fun
  | [d1, d2, d3, d4, d5] => { results := [.lit (.bool true)], args := [d1, d2, d3, d4, d5] }
  | _ => none }
def algebraColumnsRow : OpenClaim := { program := "ytpejdgkaapnekaagreat", sum := "93992670b3f989b9d926fa3d23bde77479f3cf74a5ff8ea56778efe42a29b8c0", func := "tesseract/tesseractlaw04.AlgebraColumns", spec := "algebraColumns", inPlace := ["internal/bytealg.abigen_runtime_cmpstring"], unfollowed := true, recurses := true, loops := true, plainKeys := false, apart := false }
def AlgebraColumnsSaid : Prop := algebraColumnsRow.holds Tryz.pinned (OpenSpec.ofChange algebraColumnsSpec)

/-- ITS FALSE NEIGHBOUR: 'it returns false'. Refute it at one input. -/
def algebraColumnsWrong : ChangeSpec := { name := "algebraColumns", fn := fun _ => fun
  | [d1, d2, d3, d4, d5] => { results := [.lit (.bool false)], args := [d1, d2, d3, d4, d5] }
  | _ => none }
def AlgebraColumnsWrongFalsely : Prop := algebraColumnsRow.holds Tryz.pinned (OpenSpec.ofChange algebraColumnsWrong)

/-- 'tesseractlaw04.AlgebraTwos': WHATEVER THE INPUT: true; the input reads as it did. -/
def algebraTwosSpec : ChangeSpec := { name := "algebraTwos", fn := fun _ => fun
  | [d1, d2, d3] => { results := [.lit (.bool true)], args := [d1, d2, d3] }
  | _ => none }
def algebraTwosRow : OpenClaim := { program := "ytpejdgkaapnekaagreat", sum := "93992670b3f989b9d926fa3d23bde77479f3cf74a5ff8ea56778efe42a29b8c0", func := "tesseract/tesseractlaw04.AlgebraTwos", spec := "algebraTwos", inPlace := ["internal/bytealg.abigen_runtime_cmpstring"], unfollowed := true, recurses := true, plainKeys := false, apart := false }
def AlgebraTwosSaid : Prop := algebraTwosRow.holds Tryz.pinned (OpenSpec.ofChange algebraTwosSpec)

/-- ITS FALSE NEIGHBOUR: 'it returns false'. Refute it at one input. -/
def algebraTwosWrong : ChangeSpec := { name := "algebraTwos", fn := fun _ => fun
  | [d1, d2, d3] => { results := [.lit (.bool false)], args := [d1, d2, d3] }
  | _ => none }
def AlgebraTwosWrongFalsely : Prop := algebraTwosRow.holds Tryz.pinned (OpenSpec.ofChange algebraTwosWrong)

/-- 'tesseractlaw04.AlgebraJoins': WHATEVER THE INPUT: true; the input reads as it did. -/
def algebraJoinsSpec : ChangeSpec := { name := "algebraJoins", fn := fun _ => fun
  | [d1, d2] => { results := [.lit (.bool true)], args := [d1, d2] }
  | _ => none }
def algebraJoinsRow : OpenClaim := { program := "ytpejdgkaapnekaagreat", sum := "93992670b3f989b9d926fa3d23bde77479f3cf74a5ff8ea56778efe42a29b8c0", func := "tesseract/tesseractlaw04.AlgebraJoins", spec := "algebraJoins", inPlace := ["internal/bytealg.abigen_runtime_cmpstring"], unfollowed := true, recurses := true, plainKeys := false, apart := false }
def AlgebraJoinsSaid : Prop := algebraJoinsRow.holds Tryz.pinned (OpenSpec.ofChange algebraJoinsSpec)

/-- ITS FALSE NEIGHBOUR: 'it returns false'. Refute it at one input. -/
def algebraJoinsWrong : ChangeSpec := { name := "algebraJoins", fn := fun _ => fun
  | [d1, d2] => { results := [.lit (.bool false)], args := [d1, d2] }
  | _ => none }
def AlgebraJoinsWrongFalsely : Prop := algebraJoinsRow.holds Tryz.pinned (OpenSpec.ofChange algebraJoinsWrong)

/-- 'tesseractlaw04.AlgebraStatic': WHATEVER THE INPUT: true; the input reads as it did. -/
def algebraStaticSpec : ChangeSpec := { name := "algebraStatic", fn := fun _ => fun
  | [d1, d2, d3, d4, d5, d6, d7] => { results := [.lit (.bool true)], args := [d1, d2, d3, d4, d5, d6, d7] }
  | _ => none }
def algebraStaticRow : OpenClaim := { program := "ytpejdgkaapnekaagreat", sum := "93992670b3f989b9d926fa3d23bde77479f3cf74a5ff8ea56778efe42a29b8c0", func := "tesseract/tesseractlaw04.AlgebraStatic", spec := "algebraStatic", inPlace := ["internal/bytealg.abigen_runtime_cmpstring"], unfollowed := true, recurses := true, loops := true, plainKeys := false, apart := false }
def AlgebraStaticSaid : Prop := algebraStaticRow.holds Tryz.pinned (OpenSpec.ofChange algebraStaticSpec)

/-- ITS FALSE NEIGHBOUR: 'it returns false'. Refute it at one input. -/
def algebraStaticWrong : ChangeSpec := { name := "algebraStatic", fn := fun _ => fun
  | [d1, d2, d3, d4, d5, d6, d7] => { results := [.lit (.bool false)], args := [d1, d2, d3, d4, d5, d6, d7] }
  | _ => none }
def AlgebraStaticWrongFalsely : Prop := algebraStaticRow.holds Tryz.pinned (OpenSpec.ofChange algebraStaticWrong)

/-- 'tesseractlaw04.AlgebraNames': WHATEVER THE INPUT: true; the input reads as it did. -/
def algebraNamesSpec : ChangeSpec := { name := "algebraNames", fn := fun _ => fun
  | [d1, d2, d3, d4] => { results := [.lit (.bool true)], args := [d1, d2, d3, d4] }
  | _ => none }
def algebraNamesRow : OpenClaim := { program := "ytpejdgkaapnekaagreat", sum := "93992670b3f989b9d926fa3d23bde77479f3cf74a5ff8ea56778efe42a29b8c0", func := "tesseract/tesseractlaw04.AlgebraNames", spec := "algebraNames", inPlace := ["internal/bytealg.abigen_runtime_cmpstring"], unfollowed := true, recurses := true, loops := true, plainKeys := false, apart := false }
def AlgebraNamesSaid : Prop := algebraNamesRow.holds Tryz.pinned (OpenSpec.ofChange algebraNamesSpec)

/-- ITS FALSE NEIGHBOUR: 'it returns false'. Refute it at one input. -/
def algebraNamesWrong : ChangeSpec := { name := "algebraNames", fn := fun _ => fun
  | [d1, d2, d3, d4] => { results := [.lit (.bool false)], args := [d1, d2, d3, d4] }
  | _ => none }
def AlgebraNamesWrongFalsely : Prop := algebraNamesRow.holds Tryz.pinned (OpenSpec.ofChange algebraNamesWrong)

/- THE SECOND FORM. 'bulk': how many values and letters a reading holds, each counted each time it is reached (what is shared counts as often as it is met; a slice's spare places count too). A statement '..UptoSaid' is the law's where the arguments, and the package variables that the reading takes, are together of bulk at most 1048576: NARROWER than '..Said'. Prove '..Said' where nothing that the law and all that it calls make is longer than what came in: it says more and counts as full. Else prove '..UptoSaid'. A law counts once. -/
mutual
def uptoBulk {H : Type} : DataW H → Nat
  | .lit (.string bytes) => bytes.length + 1
  | .lit _ => 1
  | .nil => 1
  | .ptr d => uptoBulk d + 1
  | .slice elems spare => uptoBulkAll elems + uptoBulkAll spare + 1
  | .agg parts => uptoBulkAll parts + 1
  | .iface _ d => uptoBulk d + 1
  | .map entries => uptoBulkEntries entries + 1
  | .held _ => 1
def uptoBulkAll {H : Type} : List (DataW H) → Nat
  | [] => 0
  | d :: r => uptoBulk d + uptoBulkAll r
def uptoBulkEntries {H : Type} : List (Lit × DataW H) → Nat
  | [] => 0
  | x :: r => uptoBulkEntry x + uptoBulkEntries r
def uptoBulkEntry {H : Type} : Lit × DataW H → Nat
  | (.string bytes, d) => bytes.length + uptoBulk d + 1
  | (_, d) => uptoBulk d + 1
 end
def uptoSmall : (H : Type) → List (DataW H) → Bool := fun _ ds => decide (uptoBulkAll ds ≤ 1048576)
def OpenSpec.upto (s : _root_.Go.ChangeSpec) : _root_.Go.OpenSpec := { _root_.Go.OpenSpec.ofChange s with cond := some uptoSmall }

/-- 'tesseractlaw04.AlgebraTypes', WHERE WHAT IT READS IS OF BULK AT MOST 1048576: true; the input reads as it did. -/
def algebraTypesUptoRow : OpenClaim := { program := "ytpejdgkaapnekaagreat", sum := "93992670b3f989b9d926fa3d23bde77479f3cf74a5ff8ea56778efe42a29b8c0", func := "tesseract/tesseractlaw04.AlgebraTypes", spec := "algebraTypes", inPlace := ["internal/bytealg.abigen_runtime_cmpstring"], unfollowed := true, recurses := true, loops := true, plainKeys := false, apart := false, narrowed := true }
def AlgebraTypesUptoSaid : Prop := algebraTypesUptoRow.holds Tryz.pinned (OpenSpec.upto algebraTypesSpec)

/-- 'tesseractlaw04.AlgebraChooses', WHERE WHAT IT READS IS OF BULK AT MOST 1048576: true; the input reads as it did. -/
def algebraChoosesUptoRow : OpenClaim := { program := "ytpejdgkaapnekaagreat", sum := "93992670b3f989b9d926fa3d23bde77479f3cf74a5ff8ea56778efe42a29b8c0", func := "tesseract/tesseractlaw04.AlgebraChooses", spec := "algebraChooses", inPlace := ["internal/bytealg.abigen_runtime_cmpstring"], unfollowed := true, recurses := true, loops := true, plainKeys := false, apart := false, narrowed := true }
def AlgebraChoosesUptoSaid : Prop := algebraChoosesUptoRow.holds Tryz.pinned (OpenSpec.upto algebraChoosesSpec)

/-- 'tesseractlaw04.AlgebraRedims', WHERE WHAT IT READS IS OF BULK AT MOST 1048576: true; the input reads as it did. -/
def algebraRedimsUptoRow : OpenClaim := { program := "ytpejdgkaapnekaagreat", sum := "93992670b3f989b9d926fa3d23bde77479f3cf74a5ff8ea56778efe42a29b8c0", func := "tesseract/tesseractlaw04.AlgebraRedims", spec := "algebraRedims", inPlace := ["internal/bytealg.abigen_runtime_cmpstring"], unfollowed := true, recurses := true, plainKeys := false, apart := false, narrowed := true }
def AlgebraRedimsUptoSaid : Prop := algebraRedimsUptoRow.holds Tryz.pinned (OpenSpec.upto algebraRedimsSpec)

/-- 'tesseractlaw04.AlgebraChoice', WHERE WHAT IT READS IS OF BULK AT MOST 1048576: true; the input reads as it did. -/
def algebraChoiceUptoRow : OpenClaim := { program := "ytpejdgkaapnekaagreat", sum := "93992670b3f989b9d926fa3d23bde77479f3cf74a5ff8ea56778efe42a29b8c0", func := "tesseract/tesseractlaw04.AlgebraChoice", spec := "algebraChoice", inPlace := ["internal/bytealg.abigen_runtime_cmpstring"], unfollowed := true, recurses := true, loops := true, plainKeys := false, apart := false, narrowed := true }
def AlgebraChoiceUptoSaid : Prop := algebraChoiceUptoRow.holds Tryz.pinned (OpenSpec.upto algebraChoiceSpec)

/-- 'tesseractlaw04.AlgebraParts', WHERE WHAT IT READS IS OF BULK AT MOST 1048576: true; the input reads as it did. -/
def algebraPartsUptoRow : OpenClaim := { program := "ytpejdgkaapnekaagreat", sum := "93992670b3f989b9d926fa3d23bde77479f3cf74a5ff8ea56778efe42a29b8c0", func := "tesseract/tesseractlaw04.AlgebraParts", spec := "algebraParts", inPlace := ["internal/bytealg.abigen_runtime_cmpstring"], unfollowed := true, recurses := true, plainKeys := false, apart := false, narrowed := true }
def AlgebraPartsUptoSaid : Prop := algebraPartsUptoRow.holds Tryz.pinned (OpenSpec.upto algebraPartsSpec)

/-- 'tesseractlaw04.AlgebraMoves', WHERE WHAT IT READS IS OF BULK AT MOST 1048576: true; the input reads as it did. -/
def algebraMovesUptoRow : OpenClaim := { program := "ytpejdgkaapnekaagreat", sum := "93992670b3f989b9d926fa3d23bde77479f3cf74a5ff8ea56778efe42a29b8c0", func := "tesseract/tesseractlaw04.AlgebraMoves", spec := "algebraMoves", inPlace := ["internal/bytealg.abigen_runtime_cmpstring"], unfollowed := true, recurses := true, plainKeys := false, apart := false, narrowed := true }
def AlgebraMovesUptoSaid : Prop := algebraMovesUptoRow.holds Tryz.pinned (OpenSpec.upto algebraMovesSpec)

/-- 'tesseractlaw04.AlgebraValues', WHERE WHAT IT READS IS OF BULK AT MOST 1048576: true; the input reads as it did. -/
def algebraValuesUptoRow : OpenClaim := { program := "ytpejdgkaapnekaagreat", sum := "93992670b3f989b9d926fa3d23bde77479f3cf74a5ff8ea56778efe42a29b8c0", func := "tesseract/tesseractlaw04.AlgebraValues", spec := "algebraValues", inPlace := ["internal/bytealg.abigen_runtime_cmpstring"], unfollowed := true, recurses := true, loops := true, plainKeys := false, apart := false, narrowed := true }
def AlgebraValuesUptoSaid : Prop := algebraValuesUptoRow.holds Tryz.pinned (OpenSpec.upto algebraValuesSpec)

/-- 'tesseractlaw04.AlgebraShapes', WHERE WHAT IT READS IS OF BULK AT MOST 1048576: true; the input reads as it did. -/
def algebraShapesUptoRow : OpenClaim := { program := "ytpejdgkaapnekaagreat", sum := "93992670b3f989b9d926fa3d23bde77479f3cf74a5ff8ea56778efe42a29b8c0", func := "tesseract/tesseractlaw04.AlgebraShapes", spec := "algebraShapes", inPlace := ["internal/bytealg.abigen_runtime_cmpstring"], unfollowed := true, recurses := true, plainKeys := false, apart := false, narrowed := true }
def AlgebraShapesUptoSaid : Prop := algebraShapesUptoRow.holds Tryz.pinned (OpenSpec.upto algebraShapesSpec)

/-- 'tesseractlaw04.AlgebraPointwise', WHERE WHAT IT READS IS OF BULK AT MOST 1048576: true; the input reads as it did. -/
def algebraPointwiseUptoRow : OpenClaim := { program := "ytpejdgkaapnekaagreat", sum := "93992670b3f989b9d926fa3d23bde77479f3cf74a5ff8ea56778efe42a29b8c0", func := "tesseract/tesseractlaw04.AlgebraPointwise", spec := "algebraPointwise", inPlace := ["internal/bytealg.abigen_runtime_cmpstring"], unfollowed := true, recurses := true, loops := true, plainKeys := false, apart := false, narrowed := true }
def AlgebraPointwiseUptoSaid : Prop := algebraPointwiseUptoRow.holds Tryz.pinned (OpenSpec.upto algebraPointwiseSpec)

/-- 'tesseractlaw04.AlgebraMerges', WHERE WHAT IT READS IS OF BULK AT MOST 1048576: true; the input reads as it did. -/
def algebraMergesUptoRow : OpenClaim := { program := "ytpejdgkaapnekaagreat", sum := "93992670b3f989b9d926fa3d23bde77479f3cf74a5ff8ea56778efe42a29b8c0", func := "tesseract/tesseractlaw04.AlgebraMerges", spec := "algebraMerges", inPlace := ["internal/bytealg.abigen_runtime_cmpstring"], unfollowed := true, recurses := true, plainKeys := false, apart := false, narrowed := true }
def AlgebraMergesUptoSaid : Prop := algebraMergesUptoRow.holds Tryz.pinned (OpenSpec.upto algebraMergesSpec)

/-- 'tesseractlaw04.AlgebraBack', WHERE WHAT IT READS IS OF BULK AT MOST 1048576: true; the input reads as it did. -/
def algebraBackUptoRow : OpenClaim := { program := "ytpejdgkaapnekaagreat", sum := "93992670b3f989b9d926fa3d23bde77479f3cf74a5ff8ea56778efe42a29b8c0", func := "tesseract/tesseractlaw04.AlgebraBack", spec := "algebraBack", inPlace := ["internal/bytealg.abigen_runtime_cmpstring"], unfollowed := true, recurses := true, plainKeys := false, apart := false, narrowed := true }
def AlgebraBackUptoSaid : Prop := algebraBackUptoRow.holds Tryz.pinned (OpenSpec.upto algebraBackSpec)

/-- 'tesseractlaw04.AlgebraColumns', WHERE WHAT IT READS IS OF BULK AT MOST 1048576: true; the input reads as it did. -/
def algebraColumnsUptoRow : OpenClaim := { program := "ytpejdgkaapnekaagreat", sum := "93992670b3f989b9d926fa3d23bde77479f3cf74a5ff8ea56778efe42a29b8c0", func := "tesseract/tesseractlaw04.AlgebraColumns", spec := "algebraColumns", inPlace := ["internal/bytealg.abigen_runtime_cmpstring"], unfollowed := true, recurses := true, loops := true, plainKeys := false, apart := false, narrowed := true }
def AlgebraColumnsUptoSaid : Prop := algebraColumnsUptoRow.holds Tryz.pinned (OpenSpec.upto algebraColumnsSpec)

/-- 'tesseractlaw04.AlgebraTwos', WHERE WHAT IT READS IS OF BULK AT MOST 1048576: true; the input reads as it did. -/
def algebraTwosUptoRow : OpenClaim := { program := "ytpejdgkaapnekaagreat", sum := "93992670b3f989b9d926fa3d23bde77479f3cf74a5ff8ea56778efe42a29b8c0", func := "tesseract/tesseractlaw04.AlgebraTwos", spec := "algebraTwos", inPlace := ["internal/bytealg.abigen_runtime_cmpstring"], unfollowed := true, recurses := true, plainKeys := false, apart := false, narrowed := true }
def AlgebraTwosUptoSaid : Prop := algebraTwosUptoRow.holds Tryz.pinned (OpenSpec.upto algebraTwosSpec)

/-- 'tesseractlaw04.AlgebraJoins', WHERE WHAT IT READS IS OF BULK AT MOST 1048576: true; the input reads as it did. -/
def algebraJoinsUptoRow : OpenClaim := { program := "ytpejdgkaapnekaagreat", sum := "93992670b3f989b9d926fa3d23bde77479f3cf74a5ff8ea56778efe42a29b8c0", func := "tesseract/tesseractlaw04.AlgebraJoins", spec := "algebraJoins", inPlace := ["internal/bytealg.abigen_runtime_cmpstring"], unfollowed := true, recurses := true, plainKeys := false, apart := false, narrowed := true }
def AlgebraJoinsUptoSaid : Prop := algebraJoinsUptoRow.holds Tryz.pinned (OpenSpec.upto algebraJoinsSpec)

/-- 'tesseractlaw04.AlgebraStatic', WHERE WHAT IT READS IS OF BULK AT MOST 1048576: true; the input reads as it did. -/
def algebraStaticUptoRow : OpenClaim := { program := "ytpejdgkaapnekaagreat", sum := "93992670b3f989b9d926fa3d23bde77479f3cf74a5ff8ea56778efe42a29b8c0", func := "tesseract/tesseractlaw04.AlgebraStatic", spec := "algebraStatic", inPlace := ["internal/bytealg.abigen_runtime_cmpstring"], unfollowed := true, recurses := true, loops := true, plainKeys := false, apart := false, narrowed := true }
def AlgebraStaticUptoSaid : Prop := algebraStaticUptoRow.holds Tryz.pinned (OpenSpec.upto algebraStaticSpec)

/-- 'tesseractlaw04.AlgebraNames', WHERE WHAT IT READS IS OF BULK AT MOST 1048576: true; the input reads as it did. -/
def algebraNamesUptoRow : OpenClaim := { program := "ytpejdgkaapnekaagreat", sum := "93992670b3f989b9d926fa3d23bde77479f3cf74a5ff8ea56778efe42a29b8c0", func := "tesseract/tesseractlaw04.AlgebraNames", spec := "algebraNames", inPlace := ["internal/bytealg.abigen_runtime_cmpstring"], unfollowed := true, recurses := true, loops := true, plainKeys := false, apart := false, narrowed := true }
def AlgebraNamesUptoSaid : Prop := algebraNamesUptoRow.holds Tryz.pinned (OpenSpec.upto algebraNamesSpec)

end Rows
end Go.Proofs.YtpejdgkaapnekaaGreat
