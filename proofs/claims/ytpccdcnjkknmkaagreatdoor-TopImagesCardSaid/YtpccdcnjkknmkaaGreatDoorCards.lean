/-
  DERIVED. GIVEN WITH THE SEED: THE CARDS: each row of YtpccdcnjkknmkaaGreatDoorRows.lean that lists a variable, with what it lists TIED to the program's text (the seventh form; the later family's looks); each row that meets fmt, with fmt's text TOLD by the authors' own Lean function (tested against real Go, not proved from fmt's source: count such statements apart). THE CARD IS WHAT COUNTS. Prove the row's statement (the work); the ties are given (YtpccdcnjkknmkaaGreatDoorTie.lean); close each card by the builder's one call (the guide's Derived/Test/ToyasCard.lean, 'card_holds'). Laid BY PROGRAM, IN A SANDBOX (cutbox-door.mjs). By AI agents, Wed Nov 11 2026. No macro, syntax, notation, axiom, sorry.
-/
import Derived.Test.YtpccdcnjkknmkaaGreatDoorRows
import GoSem.ClaimSeven
namespace Go.Proofs.YtpccdcnjkknmkaaGreatDoor
namespace Rows

/-- THE TIED CARD OF 'imposttop.TopImages'. -/
def topImagesCard : Claim7 := { stood := { row := topImagesRow, standIns := [], harness := (true, "6eafbf37b2df6b2ed1770d57d470d4fad9f468ed3bebc727d375db93cc30f028"), looks := true }, kinds := [], alts := [], laidByText := true, laidKinds := [.data, .data, .data], laidTests := true, laidLooks := .later }
def TopImagesCardSaid : Prop := Claim7.holds Tryz.pinned (.plain (OpenSpec.ofChange topImagesSpec)) topImagesCard

/-- THE SECOND FORM's CARD OF 'imposttop.TopImages'. -/
def topImagesUptoCard : Claim7 := { stood := { row := topImagesUptoRow, standIns := [], harness := (true, "6eafbf37b2df6b2ed1770d57d470d4fad9f468ed3bebc727d375db93cc30f028"), looks := true }, kinds := [], alts := [], laidByText := true, laidKinds := [.data, .data, .data], laidTests := true, laidLooks := .later }
def TopImagesUptoCardSaid : Prop := Claim7.holds Tryz.pinned (.plain (OpenSpec.upto topImagesSpec)) topImagesUptoCard
end Rows
end Go.Proofs.YtpccdcnjkknmkaaGreatDoor
