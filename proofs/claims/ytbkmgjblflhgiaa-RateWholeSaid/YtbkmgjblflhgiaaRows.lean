/-
  No cell of these rows narrows 'for every input' (looked for: loops, veiled, ifaces, maps, wideKeys, modest, calm, conditions, laid).
  DERIVED. THE GIVEN ROWS OF THIS SEAT. 8 by the template 'for every input the law returns true; each argument reads behind the call as it read before'; 0 by the template 'total and deterministic' (their statements: YtbkmgjblflhgiaaTotals.lean).
  GIVEN WITH THE SEED: the statements are not yours to turn. If you find one false, say at which input.
  Laid BY PROGRAM, IN A SANDBOX (cutbox-rows.mjs): the forced cells as the released guide's own fill.sh prints them over the translation e458f87a69ef28b3… (all of the seat's roots in one cut). By AI agents, Wed Nov 11 2026. No macro, syntax, notation, axiom, sorry.
-/
import Derived.Test.YtbkmgjblflhgiaaChecked
import GoSem.Claim
import GoSem.ClaimJoined
import GoSem.ClaimMapViews
import Derived.JoinedTies
import Derived.KernelRfl
namespace Go.Proofs.Ytbkmgjblflhgiaa
/- THE CELL 'sum', in the pinned program and in every row, IS THE sha256 OF THE DUMP (.gsa) THAT YtbkmgjblflhgiaaProg.lean LOADS. Nothing in Lean hashes anything: it is a label: what it is worth is what the hold of that sum in a sandbox is worth. -/
noncomputable def Try.pinned : Pinned := { name := "ytbkmgjblflhgiaa", sum := "e458f87a69ef28b38527f7d92a4925e279e807fc22f6feb666820ba3dde11335", checked := Try.checked }
namespace Rows
def none {H : Type} : Left H := { results := [], args := [] }

/-- 'impostlaw5.RateRuns': WHATEVER THE INPUT: true; the input reads as it did. -/
def rateRunsSpec : ChangeSpec := { name := "rateRuns", fn := fun _ => fun
  | [] => { results := [.lit (.bool true)], args := [] }
  | _ => none }
def rateRunsRow : OpenClaim := { program := "ytbkmgjblflhgiaa", sum := "e458f87a69ef28b38527f7d92a4925e279e807fc22f6feb666820ba3dde11335", func := "impost/impostlaw5.RateRuns", spec := "rateRuns", apart := false }
def RateRunsSaid : Prop := rateRunsRow.holds Try.pinned (OpenSpec.ofChange rateRunsSpec)

/-- ITS FALSE NEIGHBOUR: 'it returns false'. Refute it at one input. -/
def rateRunsWrong : ChangeSpec := { name := "rateRuns", fn := fun _ => fun
  | [] => { results := [.lit (.bool false)], args := [] }
  | _ => none }
def RateRunsWrongFalsely : Prop := rateRunsRow.holds Try.pinned (OpenSpec.ofChange rateRunsWrong)

/-- 'impostlaw5.RateTells': WHATEVER THE INPUT: true; the input reads as it did. -/
def rateTellsSpec : ChangeSpec := { name := "rateTells", fn := fun _ => fun
  | [d1, d2] => { results := [.lit (.bool true)], args := [d1, d2] }
  | _ => none }
def rateTellsRow : OpenClaim := { program := "ytbkmgjblflhgiaa", sum := "e458f87a69ef28b38527f7d92a4925e279e807fc22f6feb666820ba3dde11335", func := "impost/impostlaw5.RateTells", spec := "rateTells", apart := false }
def RateTellsSaid : Prop := rateTellsRow.holds Try.pinned (OpenSpec.ofChange rateTellsSpec)

/-- ITS FALSE NEIGHBOUR: 'it returns false'. Refute it at one input. -/
def rateTellsWrong : ChangeSpec := { name := "rateTells", fn := fun _ => fun
  | [d1, d2] => { results := [.lit (.bool false)], args := [d1, d2] }
  | _ => none }
def RateTellsWrongFalsely : Prop := rateTellsRow.holds Try.pinned (OpenSpec.ofChange rateTellsWrong)

/-- 'impostlaw5.RateHalves': WHATEVER THE INPUT: true; the input reads as it did. -/
def rateHalvesSpec : ChangeSpec := { name := "rateHalves", fn := fun _ => fun
  | [d1, d2] => { results := [.lit (.bool true)], args := [d1, d2] }
  | _ => none }
def rateHalvesRow : OpenClaim := { program := "ytbkmgjblflhgiaa", sum := "e458f87a69ef28b38527f7d92a4925e279e807fc22f6feb666820ba3dde11335", func := "impost/impostlaw5.RateHalves", spec := "rateHalves", apart := false }
def RateHalvesSaid : Prop := rateHalvesRow.holds Try.pinned (OpenSpec.ofChange rateHalvesSpec)

/-- ITS FALSE NEIGHBOUR: 'it returns false'. Refute it at one input. -/
def rateHalvesWrong : ChangeSpec := { name := "rateHalves", fn := fun _ => fun
  | [d1, d2] => { results := [.lit (.bool false)], args := [d1, d2] }
  | _ => none }
def RateHalvesWrongFalsely : Prop := rateHalvesRow.holds Try.pinned (OpenSpec.ofChange rateHalvesWrong)

/-- 'impostlaw5.RateMirrors': WHATEVER THE INPUT: true; the input reads as it did. -/
def rateMirrorsSpec : ChangeSpec := { name := "rateMirrors", fn := fun _ => fun
  | [d1, d2] => { results := [.lit (.bool true)], args := [d1, d2] }
  | _ => none }
def rateMirrorsRow : OpenClaim := { program := "ytbkmgjblflhgiaa", sum := "e458f87a69ef28b38527f7d92a4925e279e807fc22f6feb666820ba3dde11335", func := "impost/impostlaw5.RateMirrors", spec := "rateMirrors", apart := false }
def RateMirrorsSaid : Prop := rateMirrorsRow.holds Try.pinned (OpenSpec.ofChange rateMirrorsSpec)

/-- ITS FALSE NEIGHBOUR: 'it returns false'. Refute it at one input. -/
def rateMirrorsWrong : ChangeSpec := { name := "rateMirrors", fn := fun _ => fun
  | [d1, d2] => { results := [.lit (.bool false)], args := [d1, d2] }
  | _ => none }
def RateMirrorsWrongFalsely : Prop := rateMirrorsRow.holds Try.pinned (OpenSpec.ofChange rateMirrorsWrong)

/-- 'impostlaw5.RateRises': WHATEVER THE INPUT: true; the input reads as it did. -/
def rateRisesSpec : ChangeSpec := { name := "rateRises", fn := fun _ => fun
  | [d1, d2, d3, d4] => { results := [.lit (.bool true)], args := [d1, d2, d3, d4] }
  | _ => none }
def rateRisesRow : OpenClaim := { program := "ytbkmgjblflhgiaa", sum := "e458f87a69ef28b38527f7d92a4925e279e807fc22f6feb666820ba3dde11335", func := "impost/impostlaw5.RateRises", spec := "rateRises", apart := false }
def RateRisesSaid : Prop := rateRisesRow.holds Try.pinned (OpenSpec.ofChange rateRisesSpec)

/-- ITS FALSE NEIGHBOUR: 'it returns false'. Refute it at one input. -/
def rateRisesWrong : ChangeSpec := { name := "rateRises", fn := fun _ => fun
  | [d1, d2, d3, d4] => { results := [.lit (.bool false)], args := [d1, d2, d3, d4] }
  | _ => none }
def RateRisesWrongFalsely : Prop := rateRisesRow.holds Try.pinned (OpenSpec.ofChange rateRisesWrong)

/-- 'impostlaw5.RateInside': WHATEVER THE INPUT: true; the input reads as it did. -/
def rateInsideSpec : ChangeSpec := { name := "rateInside", fn := fun _ => fun
  | [d1, d2] => { results := [.lit (.bool true)], args := [d1, d2] }
  | _ => none }
def rateInsideRow : OpenClaim := { program := "ytbkmgjblflhgiaa", sum := "e458f87a69ef28b38527f7d92a4925e279e807fc22f6feb666820ba3dde11335", func := "impost/impostlaw5.RateInside", spec := "rateInside", apart := false }
def RateInsideSaid : Prop := rateInsideRow.holds Try.pinned (OpenSpec.ofChange rateInsideSpec)

/-- ITS FALSE NEIGHBOUR: 'it returns false'. Refute it at one input. -/
def rateInsideWrong : ChangeSpec := { name := "rateInside", fn := fun _ => fun
  | [d1, d2] => { results := [.lit (.bool false)], args := [d1, d2] }
  | _ => none }
def RateInsideWrongFalsely : Prop := rateInsideRow.holds Try.pinned (OpenSpec.ofChange rateInsideWrong)

/-- 'impostlaw5.RateParts': WHATEVER THE INPUT: true; the input reads as it did. -/
def ratePartsSpec : ChangeSpec := { name := "rateParts", fn := fun _ => fun
  | [d1, d2, d3] => { results := [.lit (.bool true)], args := [d1, d2, d3] }
  | _ => none }
def ratePartsRow : OpenClaim := { program := "ytbkmgjblflhgiaa", sum := "e458f87a69ef28b38527f7d92a4925e279e807fc22f6feb666820ba3dde11335", func := "impost/impostlaw5.RateParts", spec := "rateParts", apart := false }
def RatePartsSaid : Prop := ratePartsRow.holds Try.pinned (OpenSpec.ofChange ratePartsSpec)

/-- ITS FALSE NEIGHBOUR: 'it returns false'. Refute it at one input. -/
def ratePartsWrong : ChangeSpec := { name := "rateParts", fn := fun _ => fun
  | [d1, d2, d3] => { results := [.lit (.bool false)], args := [d1, d2, d3] }
  | _ => none }
def RatePartsWrongFalsely : Prop := ratePartsRow.holds Try.pinned (OpenSpec.ofChange ratePartsWrong)

/-- 'impostlaw5.RateWhole': WHATEVER THE INPUT: true; the input reads as it did. -/
def rateWholeSpec : ChangeSpec := { name := "rateWhole", fn := fun _ => fun
  | [d1, d2] => { results := [.lit (.bool true)], args := [d1, d2] }
  | _ => none }
def rateWholeRow : OpenClaim := { program := "ytbkmgjblflhgiaa", sum := "e458f87a69ef28b38527f7d92a4925e279e807fc22f6feb666820ba3dde11335", func := "impost/impostlaw5.RateWhole", spec := "rateWhole", apart := false }
def RateWholeSaid : Prop := rateWholeRow.holds Try.pinned (OpenSpec.ofChange rateWholeSpec)

/-- ITS FALSE NEIGHBOUR: 'it returns false'. Refute it at one input. -/
def rateWholeWrong : ChangeSpec := { name := "rateWhole", fn := fun _ => fun
  | [d1, d2] => { results := [.lit (.bool false)], args := [d1, d2] }
  | _ => none }
def RateWholeWrongFalsely : Prop := rateWholeRow.holds Try.pinned (OpenSpec.ofChange rateWholeWrong)

/- THE SECOND FORM. 'bulk': how many values and letters a reading holds, each counted each time it is reached (what is shared counts as often as it is met; a slice's spare places count too). A statement '..UptoSaid' is the law's where the arguments, and the package variables that the reading takes, are together of bulk at most 1048576: NARROWER than '..Said'. Prove '..Said' where nothing that the law and all that it calls make is longer than what came in: it says more and counts as full. Else prove '..UptoSaid'. A law counts once. -/
mutual
def uptoBulk {H : Type} : DataW H → Nat
  | .lit (.string bytes) => bytes.length + 1
  | .lit _ => 1
  | .nil => 1
  | .ptr d => uptoBulk d + 1
  | .slice elems spare => uptoBulkAll elems + uptoBulkAll spare + 1
  | .agg parts => uptoBulkAll parts + 1
  | .iface _ d => uptoBulk d + 1
  | .map entries => uptoBulkEntries entries + 1
  | .held _ => 1
def uptoBulkAll {H : Type} : List (DataW H) → Nat
  | [] => 0
  | d :: r => uptoBulk d + uptoBulkAll r
def uptoBulkEntries {H : Type} : List (Lit × DataW H) → Nat
  | [] => 0
  | x :: r => uptoBulkEntry x + uptoBulkEntries r
def uptoBulkEntry {H : Type} : Lit × DataW H → Nat
  | (.string bytes, d) => bytes.length + uptoBulk d + 1
  | (_, d) => uptoBulk d + 1
 end
def uptoSmall : (H : Type) → List (DataW H) → Bool := fun _ ds => decide (uptoBulkAll ds ≤ 1048576)
def OpenSpec.upto (s : _root_.Go.ChangeSpec) : _root_.Go.OpenSpec := { _root_.Go.OpenSpec.ofChange s with cond := some uptoSmall }

/-- 'impostlaw5.RateRuns', WHERE WHAT IT READS IS OF BULK AT MOST 1048576: true; the input reads as it did. -/
def rateRunsUptoRow : OpenClaim := { program := "ytbkmgjblflhgiaa", sum := "e458f87a69ef28b38527f7d92a4925e279e807fc22f6feb666820ba3dde11335", func := "impost/impostlaw5.RateRuns", spec := "rateRuns", apart := false, narrowed := true }
def RateRunsUptoSaid : Prop := rateRunsUptoRow.holds Try.pinned (OpenSpec.upto rateRunsSpec)

/-- 'impostlaw5.RateTells', WHERE WHAT IT READS IS OF BULK AT MOST 1048576: true; the input reads as it did. -/
def rateTellsUptoRow : OpenClaim := { program := "ytbkmgjblflhgiaa", sum := "e458f87a69ef28b38527f7d92a4925e279e807fc22f6feb666820ba3dde11335", func := "impost/impostlaw5.RateTells", spec := "rateTells", apart := false, narrowed := true }
def RateTellsUptoSaid : Prop := rateTellsUptoRow.holds Try.pinned (OpenSpec.upto rateTellsSpec)

/-- 'impostlaw5.RateHalves', WHERE WHAT IT READS IS OF BULK AT MOST 1048576: true; the input reads as it did. -/
def rateHalvesUptoRow : OpenClaim := { program := "ytbkmgjblflhgiaa", sum := "e458f87a69ef28b38527f7d92a4925e279e807fc22f6feb666820ba3dde11335", func := "impost/impostlaw5.RateHalves", spec := "rateHalves", apart := false, narrowed := true }
def RateHalvesUptoSaid : Prop := rateHalvesUptoRow.holds Try.pinned (OpenSpec.upto rateHalvesSpec)

/-- 'impostlaw5.RateMirrors', WHERE WHAT IT READS IS OF BULK AT MOST 1048576: true; the input reads as it did. -/
def rateMirrorsUptoRow : OpenClaim := { program := "ytbkmgjblflhgiaa", sum := "e458f87a69ef28b38527f7d92a4925e279e807fc22f6feb666820ba3dde11335", func := "impost/impostlaw5.RateMirrors", spec := "rateMirrors", apart := false, narrowed := true }
def RateMirrorsUptoSaid : Prop := rateMirrorsUptoRow.holds Try.pinned (OpenSpec.upto rateMirrorsSpec)

/-- 'impostlaw5.RateRises', WHERE WHAT IT READS IS OF BULK AT MOST 1048576: true; the input reads as it did. -/
def rateRisesUptoRow : OpenClaim := { program := "ytbkmgjblflhgiaa", sum := "e458f87a69ef28b38527f7d92a4925e279e807fc22f6feb666820ba3dde11335", func := "impost/impostlaw5.RateRises", spec := "rateRises", apart := false, narrowed := true }
def RateRisesUptoSaid : Prop := rateRisesUptoRow.holds Try.pinned (OpenSpec.upto rateRisesSpec)

/-- 'impostlaw5.RateInside', WHERE WHAT IT READS IS OF BULK AT MOST 1048576: true; the input reads as it did. -/
def rateInsideUptoRow : OpenClaim := { program := "ytbkmgjblflhgiaa", sum := "e458f87a69ef28b38527f7d92a4925e279e807fc22f6feb666820ba3dde11335", func := "impost/impostlaw5.RateInside", spec := "rateInside", apart := false, narrowed := true }
def RateInsideUptoSaid : Prop := rateInsideUptoRow.holds Try.pinned (OpenSpec.upto rateInsideSpec)

/-- 'impostlaw5.RateParts', WHERE WHAT IT READS IS OF BULK AT MOST 1048576: true; the input reads as it did. -/
def ratePartsUptoRow : OpenClaim := { program := "ytbkmgjblflhgiaa", sum := "e458f87a69ef28b38527f7d92a4925e279e807fc22f6feb666820ba3dde11335", func := "impost/impostlaw5.RateParts", spec := "rateParts", apart := false, narrowed := true }
def RatePartsUptoSaid : Prop := ratePartsUptoRow.holds Try.pinned (OpenSpec.upto ratePartsSpec)

/-- 'impostlaw5.RateWhole', WHERE WHAT IT READS IS OF BULK AT MOST 1048576: true; the input reads as it did. -/
def rateWholeUptoRow : OpenClaim := { program := "ytbkmgjblflhgiaa", sum := "e458f87a69ef28b38527f7d92a4925e279e807fc22f6feb666820ba3dde11335", func := "impost/impostlaw5.RateWhole", spec := "rateWhole", apart := false, narrowed := true }
def RateWholeUptoSaid : Prop := rateWholeUptoRow.holds Try.pinned (OpenSpec.upto rateWholeSpec)

end Rows
end Go.Proofs.Ytbkmgjblflhgiaa
