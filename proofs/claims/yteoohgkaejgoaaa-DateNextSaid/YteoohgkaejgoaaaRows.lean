/-
  No cell of these rows narrows 'for every input' (looked for: loops, veiled, ifaces, maps, wideKeys, modest, calm, conditions, laid).
  DERIVED. THE GIVEN ROWS OF THIS SEAT. 8 by the template 'for every input the law returns true; each argument reads behind the call as it read before'; 0 by the template 'total and deterministic' (their statements: YteoohgkaejgoaaaTotals.lean).
  GIVEN WITH THE SEED: the statements are not yours to turn. If you find one false, say at which input.
  Laid BY PROGRAM, IN A SANDBOX (cutbox-rows.mjs): the forced cells as the released guide's own fill.sh prints them over the translation eebc8ea35a12bd62… (all of the seat's roots in one cut). By AI agents, Wed Nov 11 2026. No macro, syntax, notation, axiom, sorry.
-/
import Derived.Test.YteoohgkaejgoaaaChecked
import GoSem.Claim
import GoSem.ClaimJoined
import GoSem.ClaimMapViews
import Derived.JoinedTies
import Derived.KernelRfl
namespace Go.Proofs.Yteoohgkaejgoaaa
/- THE CELL 'sum', in the pinned program and in every row, IS THE sha256 OF THE DUMP (.gsa) THAT YteoohgkaejgoaaaProg.lean LOADS. Nothing in Lean hashes anything: it is a label: what it is worth is what the hold of that sum in a sandbox is worth. -/
noncomputable def Try.pinned : Pinned := { name := "yteoohgkaejgoaaa", sum := "eebc8ea35a12bd6290e50869427bfd63d7de912910147e92ab6ef78c2381f3a4", checked := Try.checked }
namespace Rows
def none {H : Type} : Left H := { results := [], args := [] }

/-- 'impostlaw6.DateRuns': WHATEVER THE INPUT: true; the input reads as it did. -/
def dateRunsSpec : ChangeSpec := { name := "dateRuns", fn := fun _ => fun
  | [] => { results := [.lit (.bool true)], args := [] }
  | _ => none }
def dateRunsRow : OpenClaim := { program := "yteoohgkaejgoaaa", sum := "eebc8ea35a12bd6290e50869427bfd63d7de912910147e92ab6ef78c2381f3a4", func := "impost/impostlaw6.DateRuns", spec := "dateRuns", apart := false }
def DateRunsSaid : Prop := dateRunsRow.holds Try.pinned (OpenSpec.ofChange dateRunsSpec)

/-- ITS FALSE NEIGHBOUR: 'it returns false'. Refute it at one input. -/
def dateRunsWrong : ChangeSpec := { name := "dateRuns", fn := fun _ => fun
  | [] => { results := [.lit (.bool false)], args := [] }
  | _ => none }
def DateRunsWrongFalsely : Prop := dateRunsRow.holds Try.pinned (OpenSpec.ofChange dateRunsWrong)

/-- 'impostlaw6.DateNumbers': WHATEVER THE INPUT: true; the input reads as it did. -/
def dateNumbersSpec : ChangeSpec := { name := "dateNumbers", fn := fun _ => fun
  | [d] => { results := [.lit (.bool true)], args := [d] }
  | _ => none }
def dateNumbersRow : OpenClaim := { program := "yteoohgkaejgoaaa", sum := "eebc8ea35a12bd6290e50869427bfd63d7de912910147e92ab6ef78c2381f3a4", func := "impost/impostlaw6.DateNumbers", spec := "dateNumbers", apart := false }
def DateNumbersSaid : Prop := dateNumbersRow.holds Try.pinned (OpenSpec.ofChange dateNumbersSpec)

/-- ITS FALSE NEIGHBOUR: 'it returns false'. Refute it at one input. -/
def dateNumbersWrong : ChangeSpec := { name := "dateNumbers", fn := fun _ => fun
  | [d] => { results := [.lit (.bool false)], args := [d] }
  | _ => none }
def DateNumbersWrongFalsely : Prop := dateNumbersRow.holds Try.pinned (OpenSpec.ofChange dateNumbersWrong)

/-- 'impostlaw6.DateReads': WHATEVER THE INPUT: true; the input reads as it did. -/
def dateReadsSpec : ChangeSpec := { name := "dateReads", fn := fun _ => fun
  | [d] => { results := [.lit (.bool true)], args := [d] }
  | _ => none }
def dateReadsRow : OpenClaim := { program := "yteoohgkaejgoaaa", sum := "eebc8ea35a12bd6290e50869427bfd63d7de912910147e92ab6ef78c2381f3a4", func := "impost/impostlaw6.DateReads", spec := "dateReads", apart := false }
def DateReadsSaid : Prop := dateReadsRow.holds Try.pinned (OpenSpec.ofChange dateReadsSpec)

/-- ITS FALSE NEIGHBOUR: 'it returns false'. Refute it at one input. -/
def dateReadsWrong : ChangeSpec := { name := "dateReads", fn := fun _ => fun
  | [d] => { results := [.lit (.bool false)], args := [d] }
  | _ => none }
def DateReadsWrongFalsely : Prop := dateReadsRow.holds Try.pinned (OpenSpec.ofChange dateReadsWrong)

/-- 'impostlaw6.DateBack': WHATEVER THE INPUT: true; the input reads as it did. -/
def dateBackSpec : ChangeSpec := { name := "dateBack", fn := fun _ => fun
  | [d] => { results := [.lit (.bool true)], args := [d] }
  | _ => none }
def dateBackRow : OpenClaim := { program := "yteoohgkaejgoaaa", sum := "eebc8ea35a12bd6290e50869427bfd63d7de912910147e92ab6ef78c2381f3a4", func := "impost/impostlaw6.DateBack", spec := "dateBack", apart := false }
def DateBackSaid : Prop := dateBackRow.holds Try.pinned (OpenSpec.ofChange dateBackSpec)

/-- ITS FALSE NEIGHBOUR: 'it returns false'. Refute it at one input. -/
def dateBackWrong : ChangeSpec := { name := "dateBack", fn := fun _ => fun
  | [d] => { results := [.lit (.bool false)], args := [d] }
  | _ => none }
def DateBackWrongFalsely : Prop := dateBackRow.holds Try.pinned (OpenSpec.ofChange dateBackWrong)

/-- 'impostlaw6.DateMonths': WHATEVER THE INPUT: true; the input reads as it did. -/
def dateMonthsSpec : ChangeSpec := { name := "dateMonths", fn := fun _ => fun
  | [d] => { results := [.lit (.bool true)], args := [d] }
  | _ => none }
def dateMonthsRow : OpenClaim := { program := "yteoohgkaejgoaaa", sum := "eebc8ea35a12bd6290e50869427bfd63d7de912910147e92ab6ef78c2381f3a4", func := "impost/impostlaw6.DateMonths", spec := "dateMonths", apart := false }
def DateMonthsSaid : Prop := dateMonthsRow.holds Try.pinned (OpenSpec.ofChange dateMonthsSpec)

/-- ITS FALSE NEIGHBOUR: 'it returns false'. Refute it at one input. -/
def dateMonthsWrong : ChangeSpec := { name := "dateMonths", fn := fun _ => fun
  | [d] => { results := [.lit (.bool false)], args := [d] }
  | _ => none }
def DateMonthsWrongFalsely : Prop := dateMonthsRow.holds Try.pinned (OpenSpec.ofChange dateMonthsWrong)

/-- 'impostlaw6.DateTells': WHATEVER THE INPUT: true; the input reads as it did. -/
def dateTellsSpec : ChangeSpec := { name := "dateTells", fn := fun _ => fun
  | [d1, d2] => { results := [.lit (.bool true)], args := [d1, d2] }
  | _ => none }
def dateTellsRow : OpenClaim := { program := "yteoohgkaejgoaaa", sum := "eebc8ea35a12bd6290e50869427bfd63d7de912910147e92ab6ef78c2381f3a4", func := "impost/impostlaw6.DateTells", spec := "dateTells", apart := false }
def DateTellsSaid : Prop := dateTellsRow.holds Try.pinned (OpenSpec.ofChange dateTellsSpec)

/-- ITS FALSE NEIGHBOUR: 'it returns false'. Refute it at one input. -/
def dateTellsWrong : ChangeSpec := { name := "dateTells", fn := fun _ => fun
  | [d1, d2] => { results := [.lit (.bool false)], args := [d1, d2] }
  | _ => none }
def DateTellsWrongFalsely : Prop := dateTellsRow.holds Try.pinned (OpenSpec.ofChange dateTellsWrong)

/-- 'impostlaw6.DateNext': WHATEVER THE INPUT: true; the input reads as it did. -/
def dateNextSpec : ChangeSpec := { name := "dateNext", fn := fun _ => fun
  | [d] => { results := [.lit (.bool true)], args := [d] }
  | _ => none }
def dateNextRow : OpenClaim := { program := "yteoohgkaejgoaaa", sum := "eebc8ea35a12bd6290e50869427bfd63d7de912910147e92ab6ef78c2381f3a4", func := "impost/impostlaw6.DateNext", spec := "dateNext", apart := false }
def DateNextSaid : Prop := dateNextRow.holds Try.pinned (OpenSpec.ofChange dateNextSpec)

/-- ITS FALSE NEIGHBOUR: 'it returns false'. Refute it at one input. -/
def dateNextWrong : ChangeSpec := { name := "dateNext", fn := fun _ => fun
  | [d] => { results := [.lit (.bool false)], args := [d] }
  | _ => none }
def DateNextWrongFalsely : Prop := dateNextRow.holds Try.pinned (OpenSpec.ofChange dateNextWrong)

/-- 'impostlaw6.DateOrder': WHATEVER THE INPUT: true; the input reads as it did. -/
def dateOrderSpec : ChangeSpec := { name := "dateOrder", fn := fun _ => fun
  | [d1, d2, d3] => { results := [.lit (.bool true)], args := [d1, d2, d3] }
  | _ => none }
def dateOrderRow : OpenClaim := { program := "yteoohgkaejgoaaa", sum := "eebc8ea35a12bd6290e50869427bfd63d7de912910147e92ab6ef78c2381f3a4", func := "impost/impostlaw6.DateOrder", spec := "dateOrder", apart := false }
def DateOrderSaid : Prop := dateOrderRow.holds Try.pinned (OpenSpec.ofChange dateOrderSpec)

/-- ITS FALSE NEIGHBOUR: 'it returns false'. Refute it at one input. -/
def dateOrderWrong : ChangeSpec := { name := "dateOrder", fn := fun _ => fun
  | [d1, d2, d3] => { results := [.lit (.bool false)], args := [d1, d2, d3] }
  | _ => none }
def DateOrderWrongFalsely : Prop := dateOrderRow.holds Try.pinned (OpenSpec.ofChange dateOrderWrong)

/- THE SECOND FORM. 'bulk': how many values and letters a reading holds, each counted each time it is reached (what is shared counts as often as it is met; a slice's spare places count too). A statement '..UptoSaid' is the law's where the arguments, and the package variables that the reading takes, are together of bulk at most 1048576: NARROWER than '..Said'. Prove '..Said' where nothing that the law and all that it calls make is longer than what came in: it says more and counts as full. Else prove '..UptoSaid'. A law counts once. -/
mutual
def uptoBulk {H : Type} : DataW H → Nat
  | .lit (.string bytes) => bytes.length + 1
  | .lit _ => 1
  | .nil => 1
  | .ptr d => uptoBulk d + 1
  | .slice elems spare => uptoBulkAll elems + uptoBulkAll spare + 1
  | .agg parts => uptoBulkAll parts + 1
  | .iface _ d => uptoBulk d + 1
  | .map entries => uptoBulkEntries entries + 1
  | .held _ => 1
def uptoBulkAll {H : Type} : List (DataW H) → Nat
  | [] => 0
  | d :: r => uptoBulk d + uptoBulkAll r
def uptoBulkEntries {H : Type} : List (Lit × DataW H) → Nat
  | [] => 0
  | x :: r => uptoBulkEntry x + uptoBulkEntries r
def uptoBulkEntry {H : Type} : Lit × DataW H → Nat
  | (.string bytes, d) => bytes.length + uptoBulk d + 1
  | (_, d) => uptoBulk d + 1
 end
def uptoSmall : (H : Type) → List (DataW H) → Bool := fun _ ds => decide (uptoBulkAll ds ≤ 1048576)
def OpenSpec.upto (s : _root_.Go.ChangeSpec) : _root_.Go.OpenSpec := { _root_.Go.OpenSpec.ofChange s with cond := some uptoSmall }

/-- 'impostlaw6.DateRuns', WHERE WHAT IT READS IS OF BULK AT MOST 1048576: true; the input reads as it did. -/
def dateRunsUptoRow : OpenClaim := { program := "yteoohgkaejgoaaa", sum := "eebc8ea35a12bd6290e50869427bfd63d7de912910147e92ab6ef78c2381f3a4", func := "impost/impostlaw6.DateRuns", spec := "dateRuns", apart := false, narrowed := true }
def DateRunsUptoSaid : Prop := dateRunsUptoRow.holds Try.pinned (OpenSpec.upto dateRunsSpec)

/-- 'impostlaw6.DateNumbers', WHERE WHAT IT READS IS OF BULK AT MOST 1048576: true; the input reads as it did. -/
def dateNumbersUptoRow : OpenClaim := { program := "yteoohgkaejgoaaa", sum := "eebc8ea35a12bd6290e50869427bfd63d7de912910147e92ab6ef78c2381f3a4", func := "impost/impostlaw6.DateNumbers", spec := "dateNumbers", apart := false, narrowed := true }
def DateNumbersUptoSaid : Prop := dateNumbersUptoRow.holds Try.pinned (OpenSpec.upto dateNumbersSpec)

/-- 'impostlaw6.DateReads', WHERE WHAT IT READS IS OF BULK AT MOST 1048576: true; the input reads as it did. -/
def dateReadsUptoRow : OpenClaim := { program := "yteoohgkaejgoaaa", sum := "eebc8ea35a12bd6290e50869427bfd63d7de912910147e92ab6ef78c2381f3a4", func := "impost/impostlaw6.DateReads", spec := "dateReads", apart := false, narrowed := true }
def DateReadsUptoSaid : Prop := dateReadsUptoRow.holds Try.pinned (OpenSpec.upto dateReadsSpec)

/-- 'impostlaw6.DateBack', WHERE WHAT IT READS IS OF BULK AT MOST 1048576: true; the input reads as it did. -/
def dateBackUptoRow : OpenClaim := { program := "yteoohgkaejgoaaa", sum := "eebc8ea35a12bd6290e50869427bfd63d7de912910147e92ab6ef78c2381f3a4", func := "impost/impostlaw6.DateBack", spec := "dateBack", apart := false, narrowed := true }
def DateBackUptoSaid : Prop := dateBackUptoRow.holds Try.pinned (OpenSpec.upto dateBackSpec)

/-- 'impostlaw6.DateMonths', WHERE WHAT IT READS IS OF BULK AT MOST 1048576: true; the input reads as it did. -/
def dateMonthsUptoRow : OpenClaim := { program := "yteoohgkaejgoaaa", sum := "eebc8ea35a12bd6290e50869427bfd63d7de912910147e92ab6ef78c2381f3a4", func := "impost/impostlaw6.DateMonths", spec := "dateMonths", apart := false, narrowed := true }
def DateMonthsUptoSaid : Prop := dateMonthsUptoRow.holds Try.pinned (OpenSpec.upto dateMonthsSpec)

/-- 'impostlaw6.DateTells', WHERE WHAT IT READS IS OF BULK AT MOST 1048576: true; the input reads as it did. -/
def dateTellsUptoRow : OpenClaim := { program := "yteoohgkaejgoaaa", sum := "eebc8ea35a12bd6290e50869427bfd63d7de912910147e92ab6ef78c2381f3a4", func := "impost/impostlaw6.DateTells", spec := "dateTells", apart := false, narrowed := true }
def DateTellsUptoSaid : Prop := dateTellsUptoRow.holds Try.pinned (OpenSpec.upto dateTellsSpec)

/-- 'impostlaw6.DateNext', WHERE WHAT IT READS IS OF BULK AT MOST 1048576: true; the input reads as it did. -/
def dateNextUptoRow : OpenClaim := { program := "yteoohgkaejgoaaa", sum := "eebc8ea35a12bd6290e50869427bfd63d7de912910147e92ab6ef78c2381f3a4", func := "impost/impostlaw6.DateNext", spec := "dateNext", apart := false, narrowed := true }
def DateNextUptoSaid : Prop := dateNextUptoRow.holds Try.pinned (OpenSpec.upto dateNextSpec)

/-- 'impostlaw6.DateOrder', WHERE WHAT IT READS IS OF BULK AT MOST 1048576: true; the input reads as it did. -/
def dateOrderUptoRow : OpenClaim := { program := "yteoohgkaejgoaaa", sum := "eebc8ea35a12bd6290e50869427bfd63d7de912910147e92ab6ef78c2381f3a4", func := "impost/impostlaw6.DateOrder", spec := "dateOrder", apart := false, narrowed := true }
def DateOrderUptoSaid : Prop := dateOrderUptoRow.holds Try.pinned (OpenSpec.upto dateOrderSpec)

end Rows
end Go.Proofs.Yteoohgkaejgoaaa
