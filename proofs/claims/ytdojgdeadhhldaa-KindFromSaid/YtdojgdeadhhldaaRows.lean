/-
  No cell of these rows narrows 'for every input' (looked for: loops, veiled, ifaces, maps, wideKeys, modest, calm, conditions, laid).
  DERIVED. THE GIVEN ROWS OF THIS SEAT. 7 by the template 'for every input the law returns true; each argument reads behind the call as it read before'; 0 by the template 'total and deterministic' (their statements: YtdojgdeadhhldaaTotals.lean).
  GIVEN WITH THE SEED: the statements are not yours to turn. If you find one false, say at which input.
  Laid BY PROGRAM, IN A SANDBOX (cutbox-rows.mjs): the forced cells as the released guide's own fill.sh prints them over the translation 509a16a6573fb7e8… (all of the seat's roots in one cut). By AI agents, Wed Nov 11 2026. No macro, syntax, notation, axiom, sorry.
-/
import Derived.Test.YtdojgdeadhhldaaChecked
import GoSem.Claim
import GoSem.ClaimJoined
import GoSem.ClaimMapViews
import Derived.JoinedTies
import Derived.KernelRfl
namespace Go.Proofs.Ytdojgdeadhhldaa
/- THE CELL 'sum', in the pinned program and in every row, IS THE sha256 OF THE DUMP (.gsa) THAT YtdojgdeadhhldaaProg.lean LOADS. Nothing in Lean hashes anything: it is a label: what it is worth is what the hold of that sum in a sandbox is worth. -/
noncomputable def Try.pinned : Pinned := { name := "ytdojgdeadhhldaa", sum := "509a16a6573fb7e82a708b39ddd5470c76835c8e4356c4e7a54a8ea7b452cb86", checked := Try.checked }
namespace Rows
def none {H : Type} : Left H := { results := [], args := [] }

/-- 'impostlaw8.KindRuns': WHATEVER THE INPUT: true; the input reads as it did. -/
def kindRunsSpec : ChangeSpec := { name := "kindRuns", fn := fun _ => fun
  | [] => { results := [.lit (.bool true)], args := [] }
  | _ => none }
def kindRunsRow : OpenClaim := { program := "ytdojgdeadhhldaa", sum := "509a16a6573fb7e82a708b39ddd5470c76835c8e4356c4e7a54a8ea7b452cb86", func := "impost/impostlaw8.KindRuns", spec := "kindRuns", unfollowed := true, recurses := true, apart := false }
def KindRunsSaid : Prop := kindRunsRow.holds Try.pinned (OpenSpec.ofChange kindRunsSpec)

/-- ITS FALSE NEIGHBOUR: 'it returns false'. Refute it at one input. -/
def kindRunsWrong : ChangeSpec := { name := "kindRuns", fn := fun _ => fun
  | [] => { results := [.lit (.bool false)], args := [] }
  | _ => none }
def KindRunsWrongFalsely : Prop := kindRunsRow.holds Try.pinned (OpenSpec.ofChange kindRunsWrong)

/-- 'impostlaw8.KindMakes': WHATEVER THE INPUT: true; the input reads as it did. -/
def kindMakesSpec : ChangeSpec := { name := "kindMakes", fn := fun _ => fun
  | [d] => { results := [.lit (.bool true)], args := [d] }
  | _ => none }
def kindMakesRow : OpenClaim := { program := "ytdojgdeadhhldaa", sum := "509a16a6573fb7e82a708b39ddd5470c76835c8e4356c4e7a54a8ea7b452cb86", func := "impost/impostlaw8.KindMakes", spec := "kindMakes", unfollowed := true, recurses := true, apart := false }
def KindMakesSaid : Prop := kindMakesRow.holds Try.pinned (OpenSpec.ofChange kindMakesSpec)

/-- ITS FALSE NEIGHBOUR: 'it returns false'. Refute it at one input. -/
def kindMakesWrong : ChangeSpec := { name := "kindMakes", fn := fun _ => fun
  | [d] => { results := [.lit (.bool false)], args := [d] }
  | _ => none }
def KindMakesWrongFalsely : Prop := kindMakesRow.holds Try.pinned (OpenSpec.ofChange kindMakesWrong)

/-- 'impostlaw8.KindSame': WHATEVER THE INPUT: true; the input reads as it did. -/
def kindSameSpec : ChangeSpec := { name := "kindSame", fn := fun _ => fun
  | [d1, d2] => { results := [.lit (.bool true)], args := [d1, d2] }
  | _ => none }
def kindSameRow : OpenClaim := { program := "ytdojgdeadhhldaa", sum := "509a16a6573fb7e82a708b39ddd5470c76835c8e4356c4e7a54a8ea7b452cb86", func := "impost/impostlaw8.KindSame", spec := "kindSame", unfollowed := true, recurses := true, apart := false }
def KindSameSaid : Prop := kindSameRow.holds Try.pinned (OpenSpec.ofChange kindSameSpec)

/-- ITS FALSE NEIGHBOUR: 'it returns false'. Refute it at one input. -/
def kindSameWrong : ChangeSpec := { name := "kindSame", fn := fun _ => fun
  | [d1, d2] => { results := [.lit (.bool false)], args := [d1, d2] }
  | _ => none }
def KindSameWrongFalsely : Prop := kindSameRow.holds Try.pinned (OpenSpec.ofChange kindSameWrong)

/-- 'impostlaw8.KindFrom': WHATEVER THE INPUT: true; the input reads as it did. -/
def kindFromSpec : ChangeSpec := { name := "kindFrom", fn := fun _ => fun
  | [d] => { results := [.lit (.bool true)], args := [d] }
  | _ => none }
def kindFromRow : OpenClaim := { program := "ytdojgdeadhhldaa", sum := "509a16a6573fb7e82a708b39ddd5470c76835c8e4356c4e7a54a8ea7b452cb86", func := "impost/impostlaw8.KindFrom", spec := "kindFrom", unfollowed := true, recurses := true, apart := false }
def KindFromSaid : Prop := kindFromRow.holds Try.pinned (OpenSpec.ofChange kindFromSpec)

/-- ITS FALSE NEIGHBOUR: 'it returns false'. Refute it at one input. -/
def kindFromWrong : ChangeSpec := { name := "kindFrom", fn := fun _ => fun
  | [d] => { results := [.lit (.bool false)], args := [d] }
  | _ => none }
def KindFromWrongFalsely : Prop := kindFromRow.holds Try.pinned (OpenSpec.ofChange kindFromWrong)

/-- 'impostlaw8.KindDeep': WHATEVER THE INPUT: true; the input reads as it did. -/
def kindDeepSpec : ChangeSpec := { name := "kindDeep", fn := fun _ => fun
  | [d1, d2] => { results := [.lit (.bool true)], args := [d1, d2] }
  | _ => none }
def kindDeepRow : OpenClaim := { program := "ytdojgdeadhhldaa", sum := "509a16a6573fb7e82a708b39ddd5470c76835c8e4356c4e7a54a8ea7b452cb86", func := "impost/impostlaw8.KindDeep", spec := "kindDeep", unfollowed := true, recurses := true, apart := false }
def KindDeepSaid : Prop := kindDeepRow.holds Try.pinned (OpenSpec.ofChange kindDeepSpec)

/-- ITS FALSE NEIGHBOUR: 'it returns false'. Refute it at one input. -/
def kindDeepWrong : ChangeSpec := { name := "kindDeep", fn := fun _ => fun
  | [d1, d2] => { results := [.lit (.bool false)], args := [d1, d2] }
  | _ => none }
def KindDeepWrongFalsely : Prop := kindDeepRow.holds Try.pinned (OpenSpec.ofChange kindDeepWrong)

/-- 'impostlaw8.KindKept': WHATEVER THE INPUT: true; the input reads as it did. -/
def kindKeptSpec : ChangeSpec := { name := "kindKept", fn := fun _ => fun
  | [d] => { results := [.lit (.bool true)], args := [d] }
  | _ => none }
def kindKeptRow : OpenClaim := { program := "ytdojgdeadhhldaa", sum := "509a16a6573fb7e82a708b39ddd5470c76835c8e4356c4e7a54a8ea7b452cb86", func := "impost/impostlaw8.KindKept", spec := "kindKept", unfollowed := true, recurses := true, apart := false }
def KindKeptSaid : Prop := kindKeptRow.holds Try.pinned (OpenSpec.ofChange kindKeptSpec)

/-- ITS FALSE NEIGHBOUR: 'it returns false'. Refute it at one input. -/
def kindKeptWrong : ChangeSpec := { name := "kindKept", fn := fun _ => fun
  | [d] => { results := [.lit (.bool false)], args := [d] }
  | _ => none }
def KindKeptWrongFalsely : Prop := kindKeptRow.holds Try.pinned (OpenSpec.ofChange kindKeptWrong)

/-- 'impostlaw8.KindTakes': WHATEVER THE INPUT: true; the input reads as it did. -/
def kindTakesSpec : ChangeSpec := { name := "kindTakes", fn := fun _ => fun
  | [d] => { results := [.lit (.bool true)], args := [d] }
  | _ => none }
def kindTakesRow : OpenClaim := { program := "ytdojgdeadhhldaa", sum := "509a16a6573fb7e82a708b39ddd5470c76835c8e4356c4e7a54a8ea7b452cb86", func := "impost/impostlaw8.KindTakes", spec := "kindTakes", unfollowed := true, recurses := true, apart := false }
def KindTakesSaid : Prop := kindTakesRow.holds Try.pinned (OpenSpec.ofChange kindTakesSpec)

/-- ITS FALSE NEIGHBOUR: 'it returns false'. Refute it at one input. -/
def kindTakesWrong : ChangeSpec := { name := "kindTakes", fn := fun _ => fun
  | [d] => { results := [.lit (.bool false)], args := [d] }
  | _ => none }
def KindTakesWrongFalsely : Prop := kindTakesRow.holds Try.pinned (OpenSpec.ofChange kindTakesWrong)

/- THE SECOND FORM. 'bulk': how many values and letters a reading holds, each counted each time it is reached (what is shared counts as often as it is met; a slice's spare places count too). A statement '..UptoSaid' is the law's where the arguments, and the package variables that the reading takes, are together of bulk at most 1048576: NARROWER than '..Said'. Prove '..Said' where nothing that the law and all that it calls make is longer than what came in: it says more and counts as full. Else prove '..UptoSaid'. A law counts once. -/
mutual
def uptoBulk {H : Type} : DataW H → Nat
  | .lit (.string bytes) => bytes.length + 1
  | .lit _ => 1
  | .nil => 1
  | .ptr d => uptoBulk d + 1
  | .slice elems spare => uptoBulkAll elems + uptoBulkAll spare + 1
  | .agg parts => uptoBulkAll parts + 1
  | .iface _ d => uptoBulk d + 1
  | .map entries => uptoBulkEntries entries + 1
  | .held _ => 1
def uptoBulkAll {H : Type} : List (DataW H) → Nat
  | [] => 0
  | d :: r => uptoBulk d + uptoBulkAll r
def uptoBulkEntries {H : Type} : List (Lit × DataW H) → Nat
  | [] => 0
  | x :: r => uptoBulkEntry x + uptoBulkEntries r
def uptoBulkEntry {H : Type} : Lit × DataW H → Nat
  | (.string bytes, d) => bytes.length + uptoBulk d + 1
  | (_, d) => uptoBulk d + 1
 end
def uptoSmall : (H : Type) → List (DataW H) → Bool := fun _ ds => decide (uptoBulkAll ds ≤ 1048576)
def OpenSpec.upto (s : _root_.Go.ChangeSpec) : _root_.Go.OpenSpec := { _root_.Go.OpenSpec.ofChange s with cond := some uptoSmall }

/-- 'impostlaw8.KindRuns', WHERE WHAT IT READS IS OF BULK AT MOST 1048576: true; the input reads as it did. -/
def kindRunsUptoRow : OpenClaim := { program := "ytdojgdeadhhldaa", sum := "509a16a6573fb7e82a708b39ddd5470c76835c8e4356c4e7a54a8ea7b452cb86", func := "impost/impostlaw8.KindRuns", spec := "kindRuns", unfollowed := true, recurses := true, apart := false, narrowed := true }
def KindRunsUptoSaid : Prop := kindRunsUptoRow.holds Try.pinned (OpenSpec.upto kindRunsSpec)

/-- 'impostlaw8.KindMakes', WHERE WHAT IT READS IS OF BULK AT MOST 1048576: true; the input reads as it did. -/
def kindMakesUptoRow : OpenClaim := { program := "ytdojgdeadhhldaa", sum := "509a16a6573fb7e82a708b39ddd5470c76835c8e4356c4e7a54a8ea7b452cb86", func := "impost/impostlaw8.KindMakes", spec := "kindMakes", unfollowed := true, recurses := true, apart := false, narrowed := true }
def KindMakesUptoSaid : Prop := kindMakesUptoRow.holds Try.pinned (OpenSpec.upto kindMakesSpec)

/-- 'impostlaw8.KindSame', WHERE WHAT IT READS IS OF BULK AT MOST 1048576: true; the input reads as it did. -/
def kindSameUptoRow : OpenClaim := { program := "ytdojgdeadhhldaa", sum := "509a16a6573fb7e82a708b39ddd5470c76835c8e4356c4e7a54a8ea7b452cb86", func := "impost/impostlaw8.KindSame", spec := "kindSame", unfollowed := true, recurses := true, apart := false, narrowed := true }
def KindSameUptoSaid : Prop := kindSameUptoRow.holds Try.pinned (OpenSpec.upto kindSameSpec)

/-- 'impostlaw8.KindFrom', WHERE WHAT IT READS IS OF BULK AT MOST 1048576: true; the input reads as it did. -/
def kindFromUptoRow : OpenClaim := { program := "ytdojgdeadhhldaa", sum := "509a16a6573fb7e82a708b39ddd5470c76835c8e4356c4e7a54a8ea7b452cb86", func := "impost/impostlaw8.KindFrom", spec := "kindFrom", unfollowed := true, recurses := true, apart := false, narrowed := true }
def KindFromUptoSaid : Prop := kindFromUptoRow.holds Try.pinned (OpenSpec.upto kindFromSpec)

/-- 'impostlaw8.KindDeep', WHERE WHAT IT READS IS OF BULK AT MOST 1048576: true; the input reads as it did. -/
def kindDeepUptoRow : OpenClaim := { program := "ytdojgdeadhhldaa", sum := "509a16a6573fb7e82a708b39ddd5470c76835c8e4356c4e7a54a8ea7b452cb86", func := "impost/impostlaw8.KindDeep", spec := "kindDeep", unfollowed := true, recurses := true, apart := false, narrowed := true }
def KindDeepUptoSaid : Prop := kindDeepUptoRow.holds Try.pinned (OpenSpec.upto kindDeepSpec)

/-- 'impostlaw8.KindKept', WHERE WHAT IT READS IS OF BULK AT MOST 1048576: true; the input reads as it did. -/
def kindKeptUptoRow : OpenClaim := { program := "ytdojgdeadhhldaa", sum := "509a16a6573fb7e82a708b39ddd5470c76835c8e4356c4e7a54a8ea7b452cb86", func := "impost/impostlaw8.KindKept", spec := "kindKept", unfollowed := true, recurses := true, apart := false, narrowed := true }
def KindKeptUptoSaid : Prop := kindKeptUptoRow.holds Try.pinned (OpenSpec.upto kindKeptSpec)

/-- 'impostlaw8.KindTakes', WHERE WHAT IT READS IS OF BULK AT MOST 1048576: true; the input reads as it did. -/
def kindTakesUptoRow : OpenClaim := { program := "ytdojgdeadhhldaa", sum := "509a16a6573fb7e82a708b39ddd5470c76835c8e4356c4e7a54a8ea7b452cb86", func := "impost/impostlaw8.KindTakes", spec := "kindTakes", unfollowed := true, recurses := true, apart := false, narrowed := true }
def KindTakesUptoSaid : Prop := kindTakesUptoRow.holds Try.pinned (OpenSpec.upto kindTakesSpec)

end Rows
end Go.Proofs.Ytdojgdeadhhldaa
