/-
  No cell of these rows narrows 'for every input' (looked for: loops, veiled, ifaces, maps, wideKeys, modest, calm, conditions, laid).
  DERIVED. THE GIVEN ROWS OF THIS SEAT. 6 by the template 'for every input the law returns true; each argument reads behind the call as it read before'; 0 by the template 'total and deterministic' (their statements: YtpfdihidncofaaaTotals.lean).
  GIVEN WITH THE SEED: the statements are not yours to turn. If you find one false, say at which input.
  Laid BY PROGRAM, IN A SANDBOX (cutbox-rows.mjs): the forced cells as the released guide's own fill.sh prints them over the translation 0c8a495654c18cc4… (all of the seat's roots in one cut). By AI agents, Wed Nov 11 2026. No macro, syntax, notation, axiom, sorry.
-/
import Derived.Test.YtpfdihidncofaaaChecked
import GoSem.Claim
import GoSem.ClaimJoined
import GoSem.ClaimMapViews
import Derived.JoinedTies
import Derived.KernelRfl
namespace Go.Proofs.Ytpfdihidncofaaa
/- THE CELL 'sum', in the pinned program and in every row, IS THE sha256 OF THE DUMP (.gsa) THAT YtpfdihidncofaaaProg.lean LOADS. Nothing in Lean hashes anything: it is a label: what it is worth is what the hold of that sum in a sandbox is worth. -/
noncomputable def Try.pinned : Pinned := { name := "ytpfdihidncofaaa", sum := "0c8a495654c18cc40070a712801231f3aa03a6ca3dc546c295f1746eb6b01cad", checked := Try.checked }
namespace Rows
def none {H : Type} : Left H := { results := [], args := [] }

/-- 'impostlaw20.LetterRuns': WHATEVER THE INPUT: true; the input reads as it did. -/
def letterRunsSpec : ChangeSpec := { name := "letterRuns", fn := fun _ => fun
  | [] => { results := [.lit (.bool true)], args := [] }
  | _ => none }
def letterRunsRow : OpenClaim := { program := "ytpfdihidncofaaa", sum := "0c8a495654c18cc40070a712801231f3aa03a6ca3dc546c295f1746eb6b01cad", func := "impost/impostlaw20.LetterRuns", spec := "letterRuns", apart := false }
def LetterRunsSaid : Prop := letterRunsRow.holds Try.pinned (OpenSpec.ofChange letterRunsSpec)

/-- ITS FALSE NEIGHBOUR: 'it returns false'. Refute it at one input. -/
def letterRunsWrong : ChangeSpec := { name := "letterRuns", fn := fun _ => fun
  | [] => { results := [.lit (.bool false)], args := [] }
  | _ => none }
def LetterRunsWrongFalsely : Prop := letterRunsRow.holds Try.pinned (OpenSpec.ofChange letterRunsWrong)

/-- 'impostlaw20.LetterPuts': WHATEVER THE INPUT: true; the input reads as it did. -/
def letterPutsSpec : ChangeSpec := { name := "letterPuts", fn := fun _ => fun
  | [d] => { results := [.lit (.bool true)], args := [d] }
  | _ => none }
def letterPutsRow : OpenClaim := { program := "ytpfdihidncofaaa", sum := "0c8a495654c18cc40070a712801231f3aa03a6ca3dc546c295f1746eb6b01cad", func := "impost/impostlaw20.LetterPuts", spec := "letterPuts", apart := false }
def LetterPutsSaid : Prop := letterPutsRow.holds Try.pinned (OpenSpec.ofChange letterPutsSpec)

/-- ITS FALSE NEIGHBOUR: 'it returns false'. Refute it at one input. -/
def letterPutsWrong : ChangeSpec := { name := "letterPuts", fn := fun _ => fun
  | [d] => { results := [.lit (.bool false)], args := [d] }
  | _ => none }
def LetterPutsWrongFalsely : Prop := letterPutsRow.holds Try.pinned (OpenSpec.ofChange letterPutsWrong)

/-- 'impostlaw20.LetterGets': WHATEVER THE INPUT: true; the input reads as it did. -/
def letterGetsSpec : ChangeSpec := { name := "letterGets", fn := fun _ => fun
  | [d] => { results := [.lit (.bool true)], args := [d] }
  | _ => none }
def letterGetsRow : OpenClaim := { program := "ytpfdihidncofaaa", sum := "0c8a495654c18cc40070a712801231f3aa03a6ca3dc546c295f1746eb6b01cad", func := "impost/impostlaw20.LetterGets", spec := "letterGets", apart := false }
def LetterGetsSaid : Prop := letterGetsRow.holds Try.pinned (OpenSpec.ofChange letterGetsSpec)

/-- ITS FALSE NEIGHBOUR: 'it returns false'. Refute it at one input. -/
def letterGetsWrong : ChangeSpec := { name := "letterGets", fn := fun _ => fun
  | [d] => { results := [.lit (.bool false)], args := [d] }
  | _ => none }
def LetterGetsWrongFalsely : Prop := letterGetsRow.holds Try.pinned (OpenSpec.ofChange letterGetsWrong)

/-- 'impostlaw20.LetterTurned': WHATEVER THE INPUT: true; the input reads as it did. -/
def letterTurnedSpec : ChangeSpec := { name := "letterTurned", fn := fun _ => fun
  | [d1, d2, d3, d4] => { results := [.lit (.bool true)], args := [d1, d2, d3, d4] }
  | _ => none }
def letterTurnedRow : OpenClaim := { program := "ytpfdihidncofaaa", sum := "0c8a495654c18cc40070a712801231f3aa03a6ca3dc546c295f1746eb6b01cad", func := "impost/impostlaw20.LetterTurned", spec := "letterTurned", apart := false }
def LetterTurnedSaid : Prop := letterTurnedRow.holds Try.pinned (OpenSpec.ofChange letterTurnedSpec)

/-- ITS FALSE NEIGHBOUR: 'it returns false'. Refute it at one input. -/
def letterTurnedWrong : ChangeSpec := { name := "letterTurned", fn := fun _ => fun
  | [d1, d2, d3, d4] => { results := [.lit (.bool false)], args := [d1, d2, d3, d4] }
  | _ => none }
def LetterTurnedWrongFalsely : Prop := letterTurnedRow.holds Try.pinned (OpenSpec.ofChange letterTurnedWrong)

/-- 'impostlaw20.LetterBack': WHATEVER THE INPUT: true; the input reads as it did. -/
def letterBackSpec : ChangeSpec := { name := "letterBack", fn := fun _ => fun
  | [d1, d2] => { results := [.lit (.bool true)], args := [d1, d2] }
  | _ => none }
def letterBackRow : OpenClaim := { program := "ytpfdihidncofaaa", sum := "0c8a495654c18cc40070a712801231f3aa03a6ca3dc546c295f1746eb6b01cad", func := "impost/impostlaw20.LetterBack", spec := "letterBack", apart := false }
def LetterBackSaid : Prop := letterBackRow.holds Try.pinned (OpenSpec.ofChange letterBackSpec)

/-- ITS FALSE NEIGHBOUR: 'it returns false'. Refute it at one input. -/
def letterBackWrong : ChangeSpec := { name := "letterBack", fn := fun _ => fun
  | [d1, d2] => { results := [.lit (.bool false)], args := [d1, d2] }
  | _ => none }
def LetterBackWrongFalsely : Prop := letterBackRow.holds Try.pinned (OpenSpec.ofChange letterBackWrong)

/-- 'impostlaw20.LetterBound': WHATEVER THE INPUT: true; the input reads as it did. -/
def letterBoundSpec : ChangeSpec := { name := "letterBound", fn := fun _ => fun
  | [d] => { results := [.lit (.bool true)], args := [d] }
  | _ => none }
def letterBoundRow : OpenClaim := { program := "ytpfdihidncofaaa", sum := "0c8a495654c18cc40070a712801231f3aa03a6ca3dc546c295f1746eb6b01cad", func := "impost/impostlaw20.LetterBound", spec := "letterBound", apart := false }
def LetterBoundSaid : Prop := letterBoundRow.holds Try.pinned (OpenSpec.ofChange letterBoundSpec)

/-- ITS FALSE NEIGHBOUR: 'it returns false'. Refute it at one input. -/
def letterBoundWrong : ChangeSpec := { name := "letterBound", fn := fun _ => fun
  | [d] => { results := [.lit (.bool false)], args := [d] }
  | _ => none }
def LetterBoundWrongFalsely : Prop := letterBoundRow.holds Try.pinned (OpenSpec.ofChange letterBoundWrong)

/- THE SECOND FORM. 'bulk': how many values and letters a reading holds, each counted each time it is reached (what is shared counts as often as it is met; a slice's spare places count too). A statement '..UptoSaid' is the law's where the arguments, and the package variables that the reading takes, are together of bulk at most 1048576: NARROWER than '..Said'. Prove '..Said' where nothing that the law and all that it calls make is longer than what came in: it says more and counts as full. Else prove '..UptoSaid'. A law counts once. -/
mutual
def uptoBulk {H : Type} : DataW H → Nat
  | .lit (.string bytes) => bytes.length + 1
  | .lit _ => 1
  | .nil => 1
  | .ptr d => uptoBulk d + 1
  | .slice elems spare => uptoBulkAll elems + uptoBulkAll spare + 1
  | .agg parts => uptoBulkAll parts + 1
  | .iface _ d => uptoBulk d + 1
  | .map entries => uptoBulkEntries entries + 1
  | .held _ => 1
def uptoBulkAll {H : Type} : List (DataW H) → Nat
  | [] => 0
  | d :: r => uptoBulk d + uptoBulkAll r
def uptoBulkEntries {H : Type} : List (Lit × DataW H) → Nat
  | [] => 0
  | x :: r => uptoBulkEntry x + uptoBulkEntries r
def uptoBulkEntry {H : Type} : Lit × DataW H → Nat
  | (.string bytes, d) => bytes.length + uptoBulk d + 1
  | (_, d) => uptoBulk d + 1
 end
def uptoSmall : (H : Type) → List (DataW H) → Bool := fun _ ds => decide (uptoBulkAll ds ≤ 1048576)
def OpenSpec.upto (s : _root_.Go.ChangeSpec) : _root_.Go.OpenSpec := { _root_.Go.OpenSpec.ofChange s with cond := some uptoSmall }

/-- 'impostlaw20.LetterRuns', WHERE WHAT IT READS IS OF BULK AT MOST 1048576: true; the input reads as it did. -/
def letterRunsUptoRow : OpenClaim := { program := "ytpfdihidncofaaa", sum := "0c8a495654c18cc40070a712801231f3aa03a6ca3dc546c295f1746eb6b01cad", func := "impost/impostlaw20.LetterRuns", spec := "letterRuns", apart := false, narrowed := true }
def LetterRunsUptoSaid : Prop := letterRunsUptoRow.holds Try.pinned (OpenSpec.upto letterRunsSpec)

/-- 'impostlaw20.LetterPuts', WHERE WHAT IT READS IS OF BULK AT MOST 1048576: true; the input reads as it did. -/
def letterPutsUptoRow : OpenClaim := { program := "ytpfdihidncofaaa", sum := "0c8a495654c18cc40070a712801231f3aa03a6ca3dc546c295f1746eb6b01cad", func := "impost/impostlaw20.LetterPuts", spec := "letterPuts", apart := false, narrowed := true }
def LetterPutsUptoSaid : Prop := letterPutsUptoRow.holds Try.pinned (OpenSpec.upto letterPutsSpec)

/-- 'impostlaw20.LetterGets', WHERE WHAT IT READS IS OF BULK AT MOST 1048576: true; the input reads as it did. -/
def letterGetsUptoRow : OpenClaim := { program := "ytpfdihidncofaaa", sum := "0c8a495654c18cc40070a712801231f3aa03a6ca3dc546c295f1746eb6b01cad", func := "impost/impostlaw20.LetterGets", spec := "letterGets", apart := false, narrowed := true }
def LetterGetsUptoSaid : Prop := letterGetsUptoRow.holds Try.pinned (OpenSpec.upto letterGetsSpec)

/-- 'impostlaw20.LetterTurned', WHERE WHAT IT READS IS OF BULK AT MOST 1048576: true; the input reads as it did. -/
def letterTurnedUptoRow : OpenClaim := { program := "ytpfdihidncofaaa", sum := "0c8a495654c18cc40070a712801231f3aa03a6ca3dc546c295f1746eb6b01cad", func := "impost/impostlaw20.LetterTurned", spec := "letterTurned", apart := false, narrowed := true }
def LetterTurnedUptoSaid : Prop := letterTurnedUptoRow.holds Try.pinned (OpenSpec.upto letterTurnedSpec)

/-- 'impostlaw20.LetterBack', WHERE WHAT IT READS IS OF BULK AT MOST 1048576: true; the input reads as it did. -/
def letterBackUptoRow : OpenClaim := { program := "ytpfdihidncofaaa", sum := "0c8a495654c18cc40070a712801231f3aa03a6ca3dc546c295f1746eb6b01cad", func := "impost/impostlaw20.LetterBack", spec := "letterBack", apart := false, narrowed := true }
def LetterBackUptoSaid : Prop := letterBackUptoRow.holds Try.pinned (OpenSpec.upto letterBackSpec)

/-- 'impostlaw20.LetterBound', WHERE WHAT IT READS IS OF BULK AT MOST 1048576: true; the input reads as it did. -/
def letterBoundUptoRow : OpenClaim := { program := "ytpfdihidncofaaa", sum := "0c8a495654c18cc40070a712801231f3aa03a6ca3dc546c295f1746eb6b01cad", func := "impost/impostlaw20.LetterBound", spec := "letterBound", apart := false, narrowed := true }
def LetterBoundUptoSaid : Prop := letterBoundUptoRow.holds Try.pinned (OpenSpec.upto letterBoundSpec)

end Rows
end Go.Proofs.Ytpfdihidncofaaa
