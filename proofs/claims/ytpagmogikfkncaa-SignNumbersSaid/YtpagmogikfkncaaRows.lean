/-
  No cell of these rows narrows 'for every input' (looked for: loops, veiled, ifaces, maps, wideKeys, modest, calm, conditions, laid).
  DERIVED. THE GIVEN ROWS OF THIS SEAT. 9 by the template 'for every input the law returns true; each argument reads behind the call as it read before'; 0 by the template 'total and deterministic' (their statements: YtpagmogikfkncaaTotals.lean).
  GIVEN WITH THE SEED: the statements are not yours to turn. If you find one false, say at which input.
  Laid BY PROGRAM, IN A SANDBOX (cutbox-rows.mjs): the forced cells as the released guide's own fill.sh prints them over the translation 3b51d0ccb9561a3a… (all of the seat's roots in one cut). By AI agents, Wed Nov 11 2026. No macro, syntax, notation, axiom, sorry.
-/
import Derived.Test.YtpagmogikfkncaaChecked
import GoSem.Claim
import GoSem.ClaimJoined
import GoSem.ClaimMapViews
import Derived.JoinedTies
import Derived.KernelRfl
namespace Go.Proofs.Ytpagmogikfkncaa
/- THE CELL 'sum', in the pinned program and in every row, IS THE sha256 OF THE DUMP (.gsa) THAT YtpagmogikfkncaaProg.lean LOADS. Nothing in Lean hashes anything: it is a label: what it is worth is what the hold of that sum in a sandbox is worth. -/
noncomputable def Try.pinned : Pinned := { name := "ytpagmogikfkncaa", sum := "3b51d0ccb9561a3aa1307a662d1c0da0d20a79cc72e17b315cda05aca50b5e1c", checked := Try.checked }
namespace Rows
def none {H : Type} : Left H := { results := [], args := [] }

/-- 'impostlaw3.SignRuns': WHATEVER THE INPUT: true; the input reads as it did. -/
def signRunsSpec : ChangeSpec := { name := "signRuns", fn := fun _ => fun
  | [] => { results := [.lit (.bool true)], args := [] }
  | _ => none }
def signRunsRow : OpenClaim := { program := "ytpagmogikfkncaa", sum := "3b51d0ccb9561a3aa1307a662d1c0da0d20a79cc72e17b315cda05aca50b5e1c", func := "impost/impostlaw3.SignRuns", spec := "signRuns", inPlace := ["internal/abi.NoEscape"], apart := false }
def SignRunsSaid : Prop := signRunsRow.holds Try.pinned (OpenSpec.ofChange signRunsSpec)

/-- ITS FALSE NEIGHBOUR: 'it returns false'. Refute it at one input. -/
def signRunsWrong : ChangeSpec := { name := "signRuns", fn := fun _ => fun
  | [] => { results := [.lit (.bool false)], args := [] }
  | _ => none }
def SignRunsWrongFalsely : Prop := signRunsRow.holds Try.pinned (OpenSpec.ofChange signRunsWrong)

/-- 'impostlaw3.SignLetters': WHATEVER THE INPUT: true; the input reads as it did. -/
def signLettersSpec : ChangeSpec := { name := "signLetters", fn := fun _ => fun
  | [d1, d2] => { results := [.lit (.bool true)], args := [d1, d2] }
  | _ => none }
def signLettersRow : OpenClaim := { program := "ytpagmogikfkncaa", sum := "3b51d0ccb9561a3aa1307a662d1c0da0d20a79cc72e17b315cda05aca50b5e1c", func := "impost/impostlaw3.SignLetters", spec := "signLetters", inPlace := ["internal/abi.NoEscape"], apart := false }
def SignLettersSaid : Prop := signLettersRow.holds Try.pinned (OpenSpec.ofChange signLettersSpec)

/-- ITS FALSE NEIGHBOUR: 'it returns false'. Refute it at one input. -/
def signLettersWrong : ChangeSpec := { name := "signLetters", fn := fun _ => fun
  | [d1, d2] => { results := [.lit (.bool false)], args := [d1, d2] }
  | _ => none }
def SignLettersWrongFalsely : Prop := signLettersRow.holds Try.pinned (OpenSpec.ofChange signLettersWrong)

/-- 'impostlaw3.SignFolds': WHATEVER THE INPUT: true; the input reads as it did. -/
def signFoldsSpec : ChangeSpec := { name := "signFolds", fn := fun _ => fun
  | [d1, d2, d3] => { results := [.lit (.bool true)], args := [d1, d2, d3] }
  | _ => none }
def signFoldsRow : OpenClaim := { program := "ytpagmogikfkncaa", sum := "3b51d0ccb9561a3aa1307a662d1c0da0d20a79cc72e17b315cda05aca50b5e1c", func := "impost/impostlaw3.SignFolds", spec := "signFolds", inPlace := ["internal/abi.NoEscape"], apart := false }
def SignFoldsSaid : Prop := signFoldsRow.holds Try.pinned (OpenSpec.ofChange signFoldsSpec)

/-- ITS FALSE NEIGHBOUR: 'it returns false'. Refute it at one input. -/
def signFoldsWrong : ChangeSpec := { name := "signFolds", fn := fun _ => fun
  | [d1, d2, d3] => { results := [.lit (.bool false)], args := [d1, d2, d3] }
  | _ => none }
def SignFoldsWrongFalsely : Prop := signFoldsRow.holds Try.pinned (OpenSpec.ofChange signFoldsWrong)

/-- 'impostlaw3.SignDigits': WHATEVER THE INPUT: true; the input reads as it did. -/
def signDigitsSpec : ChangeSpec := { name := "signDigits", fn := fun _ => fun
  | [d] => { results := [.lit (.bool true)], args := [d] }
  | _ => none }
def signDigitsRow : OpenClaim := { program := "ytpagmogikfkncaa", sum := "3b51d0ccb9561a3aa1307a662d1c0da0d20a79cc72e17b315cda05aca50b5e1c", func := "impost/impostlaw3.SignDigits", spec := "signDigits", inPlace := ["internal/abi.NoEscape"], apart := false }
def SignDigitsSaid : Prop := signDigitsRow.holds Try.pinned (OpenSpec.ofChange signDigitsSpec)

/-- ITS FALSE NEIGHBOUR: 'it returns false'. Refute it at one input. -/
def signDigitsWrong : ChangeSpec := { name := "signDigits", fn := fun _ => fun
  | [d] => { results := [.lit (.bool false)], args := [d] }
  | _ => none }
def SignDigitsWrongFalsely : Prop := signDigitsRow.holds Try.pinned (OpenSpec.ofChange signDigitsWrong)

/-- 'impostlaw3.SignFolded': WHATEVER THE INPUT: true; the input reads as it did. -/
def signFoldedSpec : ChangeSpec := { name := "signFolded", fn := fun _ => fun
  | [d] => { results := [.lit (.bool true)], args := [d] }
  | _ => none }
def signFoldedRow : OpenClaim := { program := "ytpagmogikfkncaa", sum := "3b51d0ccb9561a3aa1307a662d1c0da0d20a79cc72e17b315cda05aca50b5e1c", func := "impost/impostlaw3.SignFolded", spec := "signFolded", inPlace := ["internal/abi.NoEscape"], apart := false }
def SignFoldedSaid : Prop := signFoldedRow.holds Try.pinned (OpenSpec.ofChange signFoldedSpec)

/-- ITS FALSE NEIGHBOUR: 'it returns false'. Refute it at one input. -/
def signFoldedWrong : ChangeSpec := { name := "signFolded", fn := fun _ => fun
  | [d] => { results := [.lit (.bool false)], args := [d] }
  | _ => none }
def SignFoldedWrongFalsely : Prop := signFoldedRow.holds Try.pinned (OpenSpec.ofChange signFoldedWrong)

/-- 'impostlaw3.SignCuts': WHATEVER THE INPUT: true; the input reads as it did. -/
def signCutsSpec : ChangeSpec := { name := "signCuts", fn := fun _ => fun
  | [d1, d2] => { results := [.lit (.bool true)], args := [d1, d2] }
  | _ => none }
def signCutsRow : OpenClaim := { program := "ytpagmogikfkncaa", sum := "3b51d0ccb9561a3aa1307a662d1c0da0d20a79cc72e17b315cda05aca50b5e1c", func := "impost/impostlaw3.SignCuts", spec := "signCuts", inPlace := ["internal/abi.NoEscape"], apart := false }
def SignCutsSaid : Prop := signCutsRow.holds Try.pinned (OpenSpec.ofChange signCutsSpec)

/-- ITS FALSE NEIGHBOUR: 'it returns false'. Refute it at one input. -/
def signCutsWrong : ChangeSpec := { name := "signCuts", fn := fun _ => fun
  | [d1, d2] => { results := [.lit (.bool false)], args := [d1, d2] }
  | _ => none }
def SignCutsWrongFalsely : Prop := signCutsRow.holds Try.pinned (OpenSpec.ofChange signCutsWrong)

/-- 'impostlaw3.SignWidths': WHATEVER THE INPUT: true; the input reads as it did. -/
def signWidthsSpec : ChangeSpec := { name := "signWidths", fn := fun _ => fun
  | [d] => { results := [.lit (.bool true)], args := [d] }
  | _ => none }
def signWidthsRow : OpenClaim := { program := "ytpagmogikfkncaa", sum := "3b51d0ccb9561a3aa1307a662d1c0da0d20a79cc72e17b315cda05aca50b5e1c", func := "impost/impostlaw3.SignWidths", spec := "signWidths", inPlace := ["internal/abi.NoEscape"], apart := false }
def SignWidthsSaid : Prop := signWidthsRow.holds Try.pinned (OpenSpec.ofChange signWidthsSpec)

/-- ITS FALSE NEIGHBOUR: 'it returns false'. Refute it at one input. -/
def signWidthsWrong : ChangeSpec := { name := "signWidths", fn := fun _ => fun
  | [d] => { results := [.lit (.bool false)], args := [d] }
  | _ => none }
def SignWidthsWrongFalsely : Prop := signWidthsRow.holds Try.pinned (OpenSpec.ofChange signWidthsWrong)

/-- 'impostlaw3.SignNumbers': WHATEVER THE INPUT: true; the input reads as it did. -/
def signNumbersSpec : ChangeSpec := { name := "signNumbers", fn := fun _ => fun
  | [d1, d2, d3] => { results := [.lit (.bool true)], args := [d1, d2, d3] }
  | _ => none }
def signNumbersRow : OpenClaim := { program := "ytpagmogikfkncaa", sum := "3b51d0ccb9561a3aa1307a662d1c0da0d20a79cc72e17b315cda05aca50b5e1c", func := "impost/impostlaw3.SignNumbers", spec := "signNumbers", inPlace := ["internal/abi.NoEscape"], apart := false }
def SignNumbersSaid : Prop := signNumbersRow.holds Try.pinned (OpenSpec.ofChange signNumbersSpec)

/-- ITS FALSE NEIGHBOUR: 'it returns false'. Refute it at one input. -/
def signNumbersWrong : ChangeSpec := { name := "signNumbers", fn := fun _ => fun
  | [d1, d2, d3] => { results := [.lit (.bool false)], args := [d1, d2, d3] }
  | _ => none }
def SignNumbersWrongFalsely : Prop := signNumbersRow.holds Try.pinned (OpenSpec.ofChange signNumbersWrong)

/-- 'impostlaw3.SignJoins': WHATEVER THE INPUT: true; the input reads as it did. -/
def signJoinsSpec : ChangeSpec := { name := "signJoins", fn := fun _ => fun
  | [d1, d2, d3] => { results := [.lit (.bool true)], args := [d1, d2, d3] }
  | _ => none }
def signJoinsRow : OpenClaim := { program := "ytpagmogikfkncaa", sum := "3b51d0ccb9561a3aa1307a662d1c0da0d20a79cc72e17b315cda05aca50b5e1c", func := "impost/impostlaw3.SignJoins", spec := "signJoins", inPlace := ["internal/abi.NoEscape"], apart := false }
def SignJoinsSaid : Prop := signJoinsRow.holds Try.pinned (OpenSpec.ofChange signJoinsSpec)

/-- ITS FALSE NEIGHBOUR: 'it returns false'. Refute it at one input. -/
def signJoinsWrong : ChangeSpec := { name := "signJoins", fn := fun _ => fun
  | [d1, d2, d3] => { results := [.lit (.bool false)], args := [d1, d2, d3] }
  | _ => none }
def SignJoinsWrongFalsely : Prop := signJoinsRow.holds Try.pinned (OpenSpec.ofChange signJoinsWrong)

/- THE SECOND FORM. 'bulk': how many values and letters a reading holds, each counted each time it is reached (what is shared counts as often as it is met; a slice's spare places count too). A statement '..UptoSaid' is the law's where the arguments, and the package variables that the reading takes, are together of bulk at most 1048576: NARROWER than '..Said'. Prove '..Said' where nothing that the law and all that it calls make is longer than what came in: it says more and counts as full. Else prove '..UptoSaid'. A law counts once. -/
mutual
def uptoBulk {H : Type} : DataW H → Nat
  | .lit (.string bytes) => bytes.length + 1
  | .lit _ => 1
  | .nil => 1
  | .ptr d => uptoBulk d + 1
  | .slice elems spare => uptoBulkAll elems + uptoBulkAll spare + 1
  | .agg parts => uptoBulkAll parts + 1
  | .iface _ d => uptoBulk d + 1
  | .map entries => uptoBulkEntries entries + 1
  | .held _ => 1
def uptoBulkAll {H : Type} : List (DataW H) → Nat
  | [] => 0
  | d :: r => uptoBulk d + uptoBulkAll r
def uptoBulkEntries {H : Type} : List (Lit × DataW H) → Nat
  | [] => 0
  | x :: r => uptoBulkEntry x + uptoBulkEntries r
def uptoBulkEntry {H : Type} : Lit × DataW H → Nat
  | (.string bytes, d) => bytes.length + uptoBulk d + 1
  | (_, d) => uptoBulk d + 1
 end
def uptoSmall : (H : Type) → List (DataW H) → Bool := fun _ ds => decide (uptoBulkAll ds ≤ 1048576)
def OpenSpec.upto (s : _root_.Go.ChangeSpec) : _root_.Go.OpenSpec := { _root_.Go.OpenSpec.ofChange s with cond := some uptoSmall }

/-- 'impostlaw3.SignRuns', WHERE WHAT IT READS IS OF BULK AT MOST 1048576: true; the input reads as it did. -/
def signRunsUptoRow : OpenClaim := { program := "ytpagmogikfkncaa", sum := "3b51d0ccb9561a3aa1307a662d1c0da0d20a79cc72e17b315cda05aca50b5e1c", func := "impost/impostlaw3.SignRuns", spec := "signRuns", inPlace := ["internal/abi.NoEscape"], apart := false, narrowed := true }
def SignRunsUptoSaid : Prop := signRunsUptoRow.holds Try.pinned (OpenSpec.upto signRunsSpec)

/-- 'impostlaw3.SignLetters', WHERE WHAT IT READS IS OF BULK AT MOST 1048576: true; the input reads as it did. -/
def signLettersUptoRow : OpenClaim := { program := "ytpagmogikfkncaa", sum := "3b51d0ccb9561a3aa1307a662d1c0da0d20a79cc72e17b315cda05aca50b5e1c", func := "impost/impostlaw3.SignLetters", spec := "signLetters", inPlace := ["internal/abi.NoEscape"], apart := false, narrowed := true }
def SignLettersUptoSaid : Prop := signLettersUptoRow.holds Try.pinned (OpenSpec.upto signLettersSpec)

/-- 'impostlaw3.SignFolds', WHERE WHAT IT READS IS OF BULK AT MOST 1048576: true; the input reads as it did. -/
def signFoldsUptoRow : OpenClaim := { program := "ytpagmogikfkncaa", sum := "3b51d0ccb9561a3aa1307a662d1c0da0d20a79cc72e17b315cda05aca50b5e1c", func := "impost/impostlaw3.SignFolds", spec := "signFolds", inPlace := ["internal/abi.NoEscape"], apart := false, narrowed := true }
def SignFoldsUptoSaid : Prop := signFoldsUptoRow.holds Try.pinned (OpenSpec.upto signFoldsSpec)

/-- 'impostlaw3.SignDigits', WHERE WHAT IT READS IS OF BULK AT MOST 1048576: true; the input reads as it did. -/
def signDigitsUptoRow : OpenClaim := { program := "ytpagmogikfkncaa", sum := "3b51d0ccb9561a3aa1307a662d1c0da0d20a79cc72e17b315cda05aca50b5e1c", func := "impost/impostlaw3.SignDigits", spec := "signDigits", inPlace := ["internal/abi.NoEscape"], apart := false, narrowed := true }
def SignDigitsUptoSaid : Prop := signDigitsUptoRow.holds Try.pinned (OpenSpec.upto signDigitsSpec)

/-- 'impostlaw3.SignFolded', WHERE WHAT IT READS IS OF BULK AT MOST 1048576: true; the input reads as it did. -/
def signFoldedUptoRow : OpenClaim := { program := "ytpagmogikfkncaa", sum := "3b51d0ccb9561a3aa1307a662d1c0da0d20a79cc72e17b315cda05aca50b5e1c", func := "impost/impostlaw3.SignFolded", spec := "signFolded", inPlace := ["internal/abi.NoEscape"], apart := false, narrowed := true }
def SignFoldedUptoSaid : Prop := signFoldedUptoRow.holds Try.pinned (OpenSpec.upto signFoldedSpec)

/-- 'impostlaw3.SignCuts', WHERE WHAT IT READS IS OF BULK AT MOST 1048576: true; the input reads as it did. -/
def signCutsUptoRow : OpenClaim := { program := "ytpagmogikfkncaa", sum := "3b51d0ccb9561a3aa1307a662d1c0da0d20a79cc72e17b315cda05aca50b5e1c", func := "impost/impostlaw3.SignCuts", spec := "signCuts", inPlace := ["internal/abi.NoEscape"], apart := false, narrowed := true }
def SignCutsUptoSaid : Prop := signCutsUptoRow.holds Try.pinned (OpenSpec.upto signCutsSpec)

/-- 'impostlaw3.SignWidths', WHERE WHAT IT READS IS OF BULK AT MOST 1048576: true; the input reads as it did. -/
def signWidthsUptoRow : OpenClaim := { program := "ytpagmogikfkncaa", sum := "3b51d0ccb9561a3aa1307a662d1c0da0d20a79cc72e17b315cda05aca50b5e1c", func := "impost/impostlaw3.SignWidths", spec := "signWidths", inPlace := ["internal/abi.NoEscape"], apart := false, narrowed := true }
def SignWidthsUptoSaid : Prop := signWidthsUptoRow.holds Try.pinned (OpenSpec.upto signWidthsSpec)

/-- 'impostlaw3.SignNumbers', WHERE WHAT IT READS IS OF BULK AT MOST 1048576: true; the input reads as it did. -/
def signNumbersUptoRow : OpenClaim := { program := "ytpagmogikfkncaa", sum := "3b51d0ccb9561a3aa1307a662d1c0da0d20a79cc72e17b315cda05aca50b5e1c", func := "impost/impostlaw3.SignNumbers", spec := "signNumbers", inPlace := ["internal/abi.NoEscape"], apart := false, narrowed := true }
def SignNumbersUptoSaid : Prop := signNumbersUptoRow.holds Try.pinned (OpenSpec.upto signNumbersSpec)

/-- 'impostlaw3.SignJoins', WHERE WHAT IT READS IS OF BULK AT MOST 1048576: true; the input reads as it did. -/
def signJoinsUptoRow : OpenClaim := { program := "ytpagmogikfkncaa", sum := "3b51d0ccb9561a3aa1307a662d1c0da0d20a79cc72e17b315cda05aca50b5e1c", func := "impost/impostlaw3.SignJoins", spec := "signJoins", inPlace := ["internal/abi.NoEscape"], apart := false, narrowed := true }
def SignJoinsUptoSaid : Prop := signJoinsUptoRow.holds Try.pinned (OpenSpec.upto signJoinsSpec)

end Rows
end Go.Proofs.Ytpagmogikfkncaa
