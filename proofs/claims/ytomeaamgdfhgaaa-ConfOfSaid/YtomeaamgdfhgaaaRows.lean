/-
  No cell of these rows narrows 'for every input' (looked for: loops, veiled, ifaces, maps, wideKeys, modest, calm, conditions, laid).
  DERIVED. THE GIVEN ROWS OF THIS SEAT. 5 by the template 'for every input the law returns true; each argument reads behind the call as it read before'; 0 by the template 'total and deterministic' (their statements: YtomeaamgdfhgaaaTotals.lean).
  GIVEN WITH THE SEED: the statements are not yours to turn. If you find one false, say at which input.
  Laid BY PROGRAM, IN A SANDBOX (cutbox-rows.mjs): the forced cells as the released guide's own fill.sh prints them over the translation b8e7634a018c359d… (all of the seat's roots in one cut). By AI agents, Wed Nov 11 2026. No macro, syntax, notation, axiom, sorry.
-/
import Derived.Test.YtomeaamgdfhgaaaChecked
import GoSem.Claim
import GoSem.ClaimJoined
import GoSem.ClaimMapViews
import Derived.JoinedTies
import Derived.KernelRfl
namespace Go.Proofs.Ytomeaamgdfhgaaa
/- THE CELL 'sum', in the pinned program and in every row, IS THE sha256 OF THE DUMP (.gsa) THAT YtomeaamgdfhgaaaProg.lean LOADS. Nothing in Lean hashes anything: it is a label: what it is worth is what the hold of that sum in a sandbox is worth. -/
noncomputable def Try.pinned : Pinned := { name := "ytomeaamgdfhgaaa", sum := "b8e7634a018c359d85c41421fa4a63c9006c4a9ccd8d1495c910e43c49e26634", checked := Try.checked }
namespace Rows
def none {H : Type} : Left H := { results := [], args := [] }

/-- 'impostlaw21.ConfRuns': WHATEVER THE INPUT: true; the input reads as it did. -/
def confRunsSpec : ChangeSpec := { name := "confRuns", fn := fun _ => fun
  | [] => { results := [.lit (.bool true)], args := [] }
  | _ => none }
def confRunsRow : OpenClaim := { program := "ytomeaamgdfhgaaa", sum := "b8e7634a018c359d85c41421fa4a63c9006c4a9ccd8d1495c910e43c49e26634", func := "impost/impostlaw21.ConfRuns", spec := "confRuns", apart := false }
def ConfRunsSaid : Prop := confRunsRow.holds Try.pinned (OpenSpec.ofChange confRunsSpec)

/-- ITS FALSE NEIGHBOUR: 'it returns false'. Refute it at one input. -/
def confRunsWrong : ChangeSpec := { name := "confRuns", fn := fun _ => fun
  | [] => { results := [.lit (.bool false)], args := [] }
  | _ => none }
def ConfRunsWrongFalsely : Prop := confRunsRow.holds Try.pinned (OpenSpec.ofChange confRunsWrong)

/-- 'impostlaw21.ConfTells': WHATEVER THE INPUT: true; the input reads as it did. -/
def confTellsSpec : ChangeSpec := { name := "confTells", fn := fun _ => fun
  | [d1, d2, d3] => { results := [.lit (.bool true)], args := [d1, d2, d3] }
  | _ => none }
def confTellsRow : OpenClaim := { program := "ytomeaamgdfhgaaa", sum := "b8e7634a018c359d85c41421fa4a63c9006c4a9ccd8d1495c910e43c49e26634", func := "impost/impostlaw21.ConfTells", spec := "confTells", apart := false }
def ConfTellsSaid : Prop := confTellsRow.holds Try.pinned (OpenSpec.ofChange confTellsSpec)

/-- ITS FALSE NEIGHBOUR: 'it returns false'. Refute it at one input. -/
def confTellsWrong : ChangeSpec := { name := "confTells", fn := fun _ => fun
  | [d1, d2, d3] => { results := [.lit (.bool false)], args := [d1, d2, d3] }
  | _ => none }
def ConfTellsWrongFalsely : Prop := confTellsRow.holds Try.pinned (OpenSpec.ofChange confTellsWrong)

/-- 'impostlaw21.ConfMeets': WHATEVER THE INPUT: true; the input reads as it did. -/
def confMeetsSpec : ChangeSpec := { name := "confMeets", fn := fun _ => fun
  | [d1, d2, d3, d4] => { results := [.lit (.bool true)], args := [d1, d2, d3, d4] }
  | _ => none }
def confMeetsRow : OpenClaim := { program := "ytomeaamgdfhgaaa", sum := "b8e7634a018c359d85c41421fa4a63c9006c4a9ccd8d1495c910e43c49e26634", func := "impost/impostlaw21.ConfMeets", spec := "confMeets", apart := false }
def ConfMeetsSaid : Prop := confMeetsRow.holds Try.pinned (OpenSpec.ofChange confMeetsSpec)

/-- ITS FALSE NEIGHBOUR: 'it returns false'. Refute it at one input. -/
def confMeetsWrong : ChangeSpec := { name := "confMeets", fn := fun _ => fun
  | [d1, d2, d3, d4] => { results := [.lit (.bool false)], args := [d1, d2, d3, d4] }
  | _ => none }
def ConfMeetsWrongFalsely : Prop := confMeetsRow.holds Try.pinned (OpenSpec.ofChange confMeetsWrong)

/-- 'impostlaw21.ConfWalk': WHATEVER THE INPUT: true; the input reads as it did. -/
def confWalkSpec : ChangeSpec := { name := "confWalk", fn := fun _ => fun
  | [d1, d2] => { results := [.lit (.bool true)], args := [d1, d2] }
  | _ => none }
def confWalkRow : OpenClaim := { program := "ytomeaamgdfhgaaa", sum := "b8e7634a018c359d85c41421fa4a63c9006c4a9ccd8d1495c910e43c49e26634", func := "impost/impostlaw21.ConfWalk", spec := "confWalk", apart := false }
def ConfWalkSaid : Prop := confWalkRow.holds Try.pinned (OpenSpec.ofChange confWalkSpec)

/-- ITS FALSE NEIGHBOUR: 'it returns false'. Refute it at one input. -/
def confWalkWrong : ChangeSpec := { name := "confWalk", fn := fun _ => fun
  | [d1, d2] => { results := [.lit (.bool false)], args := [d1, d2] }
  | _ => none }
def ConfWalkWrongFalsely : Prop := confWalkRow.holds Try.pinned (OpenSpec.ofChange confWalkWrong)

/-- 'impostlaw21.ConfOf': WHATEVER THE INPUT: true; the input reads as it did. -/
def confOfSpec : ChangeSpec := { name := "confOf", fn := fun _ => fun
  | [d] => { results := [.lit (.bool true)], args := [d] }
  | _ => none }
def confOfRow : OpenClaim := { program := "ytomeaamgdfhgaaa", sum := "b8e7634a018c359d85c41421fa4a63c9006c4a9ccd8d1495c910e43c49e26634", func := "impost/impostlaw21.ConfOf", spec := "confOf", apart := false }
def ConfOfSaid : Prop := confOfRow.holds Try.pinned (OpenSpec.ofChange confOfSpec)

/-- ITS FALSE NEIGHBOUR: 'it returns false'. Refute it at one input. -/
def confOfWrong : ChangeSpec := { name := "confOf", fn := fun _ => fun
  | [d] => { results := [.lit (.bool false)], args := [d] }
  | _ => none }
def ConfOfWrongFalsely : Prop := confOfRow.holds Try.pinned (OpenSpec.ofChange confOfWrong)

/- THE SECOND FORM. 'bulk': how many values and letters a reading holds, each counted each time it is reached (what is shared counts as often as it is met; a slice's spare places count too). A statement '..UptoSaid' is the law's where the arguments, and the package variables that the reading takes, are together of bulk at most 1048576: NARROWER than '..Said'. Prove '..Said' where nothing that the law and all that it calls make is longer than what came in: it says more and counts as full. Else prove '..UptoSaid'. A law counts once. -/
mutual
def uptoBulk {H : Type} : DataW H → Nat
  | .lit (.string bytes) => bytes.length + 1
  | .lit _ => 1
  | .nil => 1
  | .ptr d => uptoBulk d + 1
  | .slice elems spare => uptoBulkAll elems + uptoBulkAll spare + 1
  | .agg parts => uptoBulkAll parts + 1
  | .iface _ d => uptoBulk d + 1
  | .map entries => uptoBulkEntries entries + 1
  | .held _ => 1
def uptoBulkAll {H : Type} : List (DataW H) → Nat
  | [] => 0
  | d :: r => uptoBulk d + uptoBulkAll r
def uptoBulkEntries {H : Type} : List (Lit × DataW H) → Nat
  | [] => 0
  | x :: r => uptoBulkEntry x + uptoBulkEntries r
def uptoBulkEntry {H : Type} : Lit × DataW H → Nat
  | (.string bytes, d) => bytes.length + uptoBulk d + 1
  | (_, d) => uptoBulk d + 1
 end
def uptoSmall : (H : Type) → List (DataW H) → Bool := fun _ ds => decide (uptoBulkAll ds ≤ 1048576)
def OpenSpec.upto (s : _root_.Go.ChangeSpec) : _root_.Go.OpenSpec := { _root_.Go.OpenSpec.ofChange s with cond := some uptoSmall }

/-- 'impostlaw21.ConfRuns', WHERE WHAT IT READS IS OF BULK AT MOST 1048576: true; the input reads as it did. -/
def confRunsUptoRow : OpenClaim := { program := "ytomeaamgdfhgaaa", sum := "b8e7634a018c359d85c41421fa4a63c9006c4a9ccd8d1495c910e43c49e26634", func := "impost/impostlaw21.ConfRuns", spec := "confRuns", apart := false, narrowed := true }
def ConfRunsUptoSaid : Prop := confRunsUptoRow.holds Try.pinned (OpenSpec.upto confRunsSpec)

/-- 'impostlaw21.ConfTells', WHERE WHAT IT READS IS OF BULK AT MOST 1048576: true; the input reads as it did. -/
def confTellsUptoRow : OpenClaim := { program := "ytomeaamgdfhgaaa", sum := "b8e7634a018c359d85c41421fa4a63c9006c4a9ccd8d1495c910e43c49e26634", func := "impost/impostlaw21.ConfTells", spec := "confTells", apart := false, narrowed := true }
def ConfTellsUptoSaid : Prop := confTellsUptoRow.holds Try.pinned (OpenSpec.upto confTellsSpec)

/-- 'impostlaw21.ConfMeets', WHERE WHAT IT READS IS OF BULK AT MOST 1048576: true; the input reads as it did. -/
def confMeetsUptoRow : OpenClaim := { program := "ytomeaamgdfhgaaa", sum := "b8e7634a018c359d85c41421fa4a63c9006c4a9ccd8d1495c910e43c49e26634", func := "impost/impostlaw21.ConfMeets", spec := "confMeets", apart := false, narrowed := true }
def ConfMeetsUptoSaid : Prop := confMeetsUptoRow.holds Try.pinned (OpenSpec.upto confMeetsSpec)

/-- 'impostlaw21.ConfWalk', WHERE WHAT IT READS IS OF BULK AT MOST 1048576: true; the input reads as it did. -/
def confWalkUptoRow : OpenClaim := { program := "ytomeaamgdfhgaaa", sum := "b8e7634a018c359d85c41421fa4a63c9006c4a9ccd8d1495c910e43c49e26634", func := "impost/impostlaw21.ConfWalk", spec := "confWalk", apart := false, narrowed := true }
def ConfWalkUptoSaid : Prop := confWalkUptoRow.holds Try.pinned (OpenSpec.upto confWalkSpec)

/-- 'impostlaw21.ConfOf', WHERE WHAT IT READS IS OF BULK AT MOST 1048576: true; the input reads as it did. -/
def confOfUptoRow : OpenClaim := { program := "ytomeaamgdfhgaaa", sum := "b8e7634a018c359d85c41421fa4a63c9006c4a9ccd8d1495c910e43c49e26634", func := "impost/impostlaw21.ConfOf", spec := "confOf", apart := false, narrowed := true }
def ConfOfUptoSaid : Prop := confOfUptoRow.holds Try.pinned (OpenSpec.upto confOfSpec)

end Rows
end Go.Proofs.Ytomeaamgdfhgaaa
