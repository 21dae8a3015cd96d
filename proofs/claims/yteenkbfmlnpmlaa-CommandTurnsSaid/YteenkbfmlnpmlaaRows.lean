/-
  No cell of these rows narrows 'for every input' (looked for: loops, veiled, ifaces, maps, wideKeys, modest, calm, conditions, laid).
  DERIVED. THE GIVEN ROWS OF THIS SEAT. 7 by the template 'for every input the law returns true; each argument reads behind the call as it read before'; 0 by the template 'total and deterministic' (their statements: YteenkbfmlnpmlaaTotals.lean).
  GIVEN WITH THE SEED: the statements are not yours to turn. If you find one false, say at which input.
  Laid BY PROGRAM, IN A SANDBOX (cutbox-rows.mjs): the forced cells as the released guide's own fill.sh prints them over the translation 4b9c91768ae549ea… (all of the seat's roots in one cut). By AI agents, Wed Nov 11 2026. No macro, syntax, notation, axiom, sorry.
-/
import Derived.Test.YteenkbfmlnpmlaaChecked
import GoSem.Claim
import GoSem.ClaimJoined
import GoSem.ClaimMapViews
import Derived.JoinedTies
import Derived.KernelRfl
namespace Go.Proofs.Yteenkbfmlnpmlaa
/- THE CELL 'sum', in the pinned program and in every row, IS THE sha256 OF THE DUMP (.gsa) THAT YteenkbfmlnpmlaaProg.lean LOADS. Nothing in Lean hashes anything: it is a label: what it is worth is what the hold of that sum in a sandbox is worth. -/
noncomputable def Try.pinned : Pinned := { name := "yteenkbfmlnpmlaa", sum := "4b9c91768ae549ea26a7745e40018bfea76c758e6d9f5f3bf72b760d6354d85f", checked := Try.checked }
namespace Rows
def none {H : Type} : Left H := { results := [], args := [] }

/-- 'impostlaw9.CommandRuns': WHATEVER THE INPUT: true; the input reads as it did. -/
def commandRunsSpec : ChangeSpec := { name := "commandRuns", fn := fun _ => fun
  | [] => { results := [.lit (.bool true)], args := [] }
  | _ => none }
def commandRunsRow : OpenClaim := { program := "yteenkbfmlnpmlaa", sum := "4b9c91768ae549ea26a7745e40018bfea76c758e6d9f5f3bf72b760d6354d85f", func := "impost/impostlaw9.CommandRuns", spec := "commandRuns", unfollowed := true, recurses := true, apart := false }
def CommandRunsSaid : Prop := commandRunsRow.holds Try.pinned (OpenSpec.ofChange commandRunsSpec)

/-- ITS FALSE NEIGHBOUR: 'it returns false'. Refute it at one input. -/
def commandRunsWrong : ChangeSpec := { name := "commandRuns", fn := fun _ => fun
  | [] => { results := [.lit (.bool false)], args := [] }
  | _ => none }
def CommandRunsWrongFalsely : Prop := commandRunsRow.holds Try.pinned (OpenSpec.ofChange commandRunsWrong)

/-- 'impostlaw9.CommandTurns': WHATEVER THE INPUT: true; the input reads as it did. -/
def commandTurnsSpec : ChangeSpec := { name := "commandTurns", fn := fun _ => fun
  | [d] => { results := [.lit (.bool true)], args := [d] }
  | _ => none }
def commandTurnsRow : OpenClaim := { program := "yteenkbfmlnpmlaa", sum := "4b9c91768ae549ea26a7745e40018bfea76c758e6d9f5f3bf72b760d6354d85f", func := "impost/impostlaw9.CommandTurns", spec := "commandTurns", unfollowed := true, recurses := true, apart := false }
def CommandTurnsSaid : Prop := commandTurnsRow.holds Try.pinned (OpenSpec.ofChange commandTurnsSpec)

/-- ITS FALSE NEIGHBOUR: 'it returns false'. Refute it at one input. -/
def commandTurnsWrong : ChangeSpec := { name := "commandTurns", fn := fun _ => fun
  | [d] => { results := [.lit (.bool false)], args := [d] }
  | _ => none }
def CommandTurnsWrongFalsely : Prop := commandTurnsRow.holds Try.pinned (OpenSpec.ofChange commandTurnsWrong)

/-- 'impostlaw9.CommandPuts': WHATEVER THE INPUT: true; the input reads as it did. -/
def commandPutsSpec : ChangeSpec := { name := "commandPuts", fn := fun _ => fun
  | [d] => { results := [.lit (.bool true)], args := [d] }
  | _ => none }
def commandPutsRow : OpenClaim := { program := "yteenkbfmlnpmlaa", sum := "4b9c91768ae549ea26a7745e40018bfea76c758e6d9f5f3bf72b760d6354d85f", func := "impost/impostlaw9.CommandPuts", spec := "commandPuts", unfollowed := true, recurses := true, apart := false }
def CommandPutsSaid : Prop := commandPutsRow.holds Try.pinned (OpenSpec.ofChange commandPutsSpec)

/-- ITS FALSE NEIGHBOUR: 'it returns false'. Refute it at one input. -/
def commandPutsWrong : ChangeSpec := { name := "commandPuts", fn := fun _ => fun
  | [d] => { results := [.lit (.bool false)], args := [d] }
  | _ => none }
def CommandPutsWrongFalsely : Prop := commandPutsRow.holds Try.pinned (OpenSpec.ofChange commandPutsWrong)

/-- 'impostlaw9.CommandGets': WHATEVER THE INPUT: true; the input reads as it did. -/
def commandGetsSpec : ChangeSpec := { name := "commandGets", fn := fun _ => fun
  | [d] => { results := [.lit (.bool true)], args := [d] }
  | _ => none }
def commandGetsRow : OpenClaim := { program := "yteenkbfmlnpmlaa", sum := "4b9c91768ae549ea26a7745e40018bfea76c758e6d9f5f3bf72b760d6354d85f", func := "impost/impostlaw9.CommandGets", spec := "commandGets", unfollowed := true, recurses := true, apart := false }
def CommandGetsSaid : Prop := commandGetsRow.holds Try.pinned (OpenSpec.ofChange commandGetsSpec)

/-- ITS FALSE NEIGHBOUR: 'it returns false'. Refute it at one input. -/
def commandGetsWrong : ChangeSpec := { name := "commandGets", fn := fun _ => fun
  | [d] => { results := [.lit (.bool false)], args := [d] }
  | _ => none }
def CommandGetsWrongFalsely : Prop := commandGetsRow.holds Try.pinned (OpenSpec.ofChange commandGetsWrong)

/-- 'impostlaw9.CommandBack': WHATEVER THE INPUT: true; the input reads as it did. -/
def commandBackSpec : ChangeSpec := { name := "commandBack", fn := fun _ => fun
  | [d1, d2, d3] => { results := [.lit (.bool true)], args := [d1, d2, d3] }
  | _ => none }
def commandBackRow : OpenClaim := { program := "yteenkbfmlnpmlaa", sum := "4b9c91768ae549ea26a7745e40018bfea76c758e6d9f5f3bf72b760d6354d85f", func := "impost/impostlaw9.CommandBack", spec := "commandBack", unfollowed := true, recurses := true, apart := false }
def CommandBackSaid : Prop := commandBackRow.holds Try.pinned (OpenSpec.ofChange commandBackSpec)

/-- ITS FALSE NEIGHBOUR: 'it returns false'. Refute it at one input. -/
def commandBackWrong : ChangeSpec := { name := "commandBack", fn := fun _ => fun
  | [d1, d2, d3] => { results := [.lit (.bool false)], args := [d1, d2, d3] }
  | _ => none }
def CommandBackWrongFalsely : Prop := commandBackRow.holds Try.pinned (OpenSpec.ofChange commandBackWrong)

/-- 'impostlaw9.CommandMust': WHATEVER THE INPUT: true; the input reads as it did. -/
def commandMustSpec : ChangeSpec := { name := "commandMust", fn := fun _ => fun
  | [d] => { results := [.lit (.bool true)], args := [d] }
  | _ => none }
def commandMustRow : OpenClaim := { program := "yteenkbfmlnpmlaa", sum := "4b9c91768ae549ea26a7745e40018bfea76c758e6d9f5f3bf72b760d6354d85f", func := "impost/impostlaw9.CommandMust", spec := "commandMust", unfollowed := true, recurses := true, apart := false }
def CommandMustSaid : Prop := commandMustRow.holds Try.pinned (OpenSpec.ofChange commandMustSpec)

/-- ITS FALSE NEIGHBOUR: 'it returns false'. Refute it at one input. -/
def commandMustWrong : ChangeSpec := { name := "commandMust", fn := fun _ => fun
  | [d] => { results := [.lit (.bool false)], args := [d] }
  | _ => none }
def CommandMustWrongFalsely : Prop := commandMustRow.holds Try.pinned (OpenSpec.ofChange commandMustWrong)

/-- 'impostlaw9.CommandMany': WHATEVER THE INPUT: true; the input reads as it did. -/
def commandManySpec : ChangeSpec := { name := "commandMany", fn := fun _ => fun
  | [d1, d2] => { results := [.lit (.bool true)], args := [d1, d2] }
  | _ => none }
def commandManyRow : OpenClaim := { program := "yteenkbfmlnpmlaa", sum := "4b9c91768ae549ea26a7745e40018bfea76c758e6d9f5f3bf72b760d6354d85f", func := "impost/impostlaw9.CommandMany", spec := "commandMany", unfollowed := true, recurses := true, apart := false }
def CommandManySaid : Prop := commandManyRow.holds Try.pinned (OpenSpec.ofChange commandManySpec)

/-- ITS FALSE NEIGHBOUR: 'it returns false'. Refute it at one input. -/
def commandManyWrong : ChangeSpec := { name := "commandMany", fn := fun _ => fun
  | [d1, d2] => { results := [.lit (.bool false)], args := [d1, d2] }
  | _ => none }
def CommandManyWrongFalsely : Prop := commandManyRow.holds Try.pinned (OpenSpec.ofChange commandManyWrong)

/- THE SECOND FORM. 'bulk': how many values and letters a reading holds, each counted each time it is reached (what is shared counts as often as it is met; a slice's spare places count too). A statement '..UptoSaid' is the law's where the arguments, and the package variables that the reading takes, are together of bulk at most 1048576: NARROWER than '..Said'. Prove '..Said' where nothing that the law and all that it calls make is longer than what came in: it says more and counts as full. Else prove '..UptoSaid'. A law counts once. -/
mutual
def uptoBulk {H : Type} : DataW H → Nat
  | .lit (.string bytes) => bytes.length + 1
  | .lit _ => 1
  | .nil => 1
  | .ptr d => uptoBulk d + 1
  | .slice elems spare => uptoBulkAll elems + uptoBulkAll spare + 1
  | .agg parts => uptoBulkAll parts + 1
  | .iface _ d => uptoBulk d + 1
  | .map entries => uptoBulkEntries entries + 1
  | .held _ => 1
def uptoBulkAll {H : Type} : List (DataW H) → Nat
  | [] => 0
  | d :: r => uptoBulk d + uptoBulkAll r
def uptoBulkEntries {H : Type} : List (Lit × DataW H) → Nat
  | [] => 0
  | x :: r => uptoBulkEntry x + uptoBulkEntries r
def uptoBulkEntry {H : Type} : Lit × DataW H → Nat
  | (.string bytes, d) => bytes.length + uptoBulk d + 1
  | (_, d) => uptoBulk d + 1
 end
def uptoSmall : (H : Type) → List (DataW H) → Bool := fun _ ds => decide (uptoBulkAll ds ≤ 1048576)
def OpenSpec.upto (s : _root_.Go.ChangeSpec) : _root_.Go.OpenSpec := { _root_.Go.OpenSpec.ofChange s with cond := some uptoSmall }

/-- 'impostlaw9.CommandRuns', WHERE WHAT IT READS IS OF BULK AT MOST 1048576: true; the input reads as it did. -/
def commandRunsUptoRow : OpenClaim := { program := "yteenkbfmlnpmlaa", sum := "4b9c91768ae549ea26a7745e40018bfea76c758e6d9f5f3bf72b760d6354d85f", func := "impost/impostlaw9.CommandRuns", spec := "commandRuns", unfollowed := true, recurses := true, apart := false, narrowed := true }
def CommandRunsUptoSaid : Prop := commandRunsUptoRow.holds Try.pinned (OpenSpec.upto commandRunsSpec)

/-- 'impostlaw9.CommandTurns', WHERE WHAT IT READS IS OF BULK AT MOST 1048576: true; the input reads as it did. -/
def commandTurnsUptoRow : OpenClaim := { program := "yteenkbfmlnpmlaa", sum := "4b9c91768ae549ea26a7745e40018bfea76c758e6d9f5f3bf72b760d6354d85f", func := "impost/impostlaw9.CommandTurns", spec := "commandTurns", unfollowed := true, recurses := true, apart := false, narrowed := true }
def CommandTurnsUptoSaid : Prop := commandTurnsUptoRow.holds Try.pinned (OpenSpec.upto commandTurnsSpec)

/-- 'impostlaw9.CommandPuts', WHERE WHAT IT READS IS OF BULK AT MOST 1048576: true; the input reads as it did. -/
def commandPutsUptoRow : OpenClaim := { program := "yteenkbfmlnpmlaa", sum := "4b9c91768ae549ea26a7745e40018bfea76c758e6d9f5f3bf72b760d6354d85f", func := "impost/impostlaw9.CommandPuts", spec := "commandPuts", unfollowed := true, recurses := true, apart := false, narrowed := true }
def CommandPutsUptoSaid : Prop := commandPutsUptoRow.holds Try.pinned (OpenSpec.upto commandPutsSpec)

/-- 'impostlaw9.CommandGets', WHERE WHAT IT READS IS OF BULK AT MOST 1048576: true; the input reads as it did. -/
def commandGetsUptoRow : OpenClaim := { program := "yteenkbfmlnpmlaa", sum := "4b9c91768ae549ea26a7745e40018bfea76c758e6d9f5f3bf72b760d6354d85f", func := "impost/impostlaw9.CommandGets", spec := "commandGets", unfollowed := true, recurses := true, apart := false, narrowed := true }
def CommandGetsUptoSaid : Prop := commandGetsUptoRow.holds Try.pinned (OpenSpec.upto commandGetsSpec)

/-- 'impostlaw9.CommandBack', WHERE WHAT IT READS IS OF BULK AT MOST 1048576: true; the input reads as it did. -/
def commandBackUptoRow : OpenClaim := { program := "yteenkbfmlnpmlaa", sum := "4b9c91768ae549ea26a7745e40018bfea76c758e6d9f5f3bf72b760d6354d85f", func := "impost/impostlaw9.CommandBack", spec := "commandBack", unfollowed := true, recurses := true, apart := false, narrowed := true }
def CommandBackUptoSaid : Prop := commandBackUptoRow.holds Try.pinned (OpenSpec.upto commandBackSpec)

/-- 'impostlaw9.CommandMust', WHERE WHAT IT READS IS OF BULK AT MOST 1048576: true; the input reads as it did. -/
def commandMustUptoRow : OpenClaim := { program := "yteenkbfmlnpmlaa", sum := "4b9c91768ae549ea26a7745e40018bfea76c758e6d9f5f3bf72b760d6354d85f", func := "impost/impostlaw9.CommandMust", spec := "commandMust", unfollowed := true, recurses := true, apart := false, narrowed := true }
def CommandMustUptoSaid : Prop := commandMustUptoRow.holds Try.pinned (OpenSpec.upto commandMustSpec)

/-- 'impostlaw9.CommandMany', WHERE WHAT IT READS IS OF BULK AT MOST 1048576: true; the input reads as it did. -/
def commandManyUptoRow : OpenClaim := { program := "yteenkbfmlnpmlaa", sum := "4b9c91768ae549ea26a7745e40018bfea76c758e6d9f5f3bf72b760d6354d85f", func := "impost/impostlaw9.CommandMany", spec := "commandMany", unfollowed := true, recurses := true, apart := false, narrowed := true }
def CommandManyUptoSaid : Prop := commandManyUptoRow.holds Try.pinned (OpenSpec.upto commandManySpec)

end Rows
end Go.Proofs.Yteenkbfmlnpmlaa
