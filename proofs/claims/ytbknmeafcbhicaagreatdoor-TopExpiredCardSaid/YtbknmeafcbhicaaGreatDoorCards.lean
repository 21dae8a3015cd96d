/-
  DERIVED. GIVEN WITH THE SEED: THE CARDS: each row of YtbknmeafcbhicaaGreatDoorRows.lean that lists a variable, with what it lists TIED to the program's text (the seventh form; the later family's looks); each row that meets fmt, with fmt's text TOLD by the authors' own Lean function (tested against real Go, not proved from fmt's source: count such statements apart). THE CARD IS WHAT COUNTS. Prove the row's statement (the work); the ties are given (YtbknmeafcbhicaaGreatDoorTie.lean); close each card by the builder's one call (the guide's Derived/Test/ToyasCard.lean, 'card_holds'). Laid BY PROGRAM, IN A SANDBOX (cutbox-door.mjs). By AI agents, Wed Nov 11 2026. No macro, syntax, notation, axiom, sorry.
-/
import Derived.Test.YtbknmeafcbhicaaGreatDoorRows
import GoSem.ClaimSeven
namespace Go.Proofs.YtbknmeafcbhicaaGreatDoor
namespace Rows

/-- THE TIED CARD OF 'imposttop.TopExpired'. -/
def topExpiredCard : Claim7 := { stood := { row := topExpiredRow, standIns := [], harness := (true, "c43d4902e6d586cefa949a709f44b02b1aedff24810c42f6b03772c905811c57"), looks := true }, kinds := [], alts := [], laidByText := true, laidKinds := [.data, .data, .data], laidTests := true, laidLooks := .later }
def TopExpiredCardSaid : Prop := Claim7.holds Tryz.pinned (.plain (OpenSpec.ofChange topExpiredSpec)) topExpiredCard

/-- THE SECOND FORM's CARD OF 'imposttop.TopExpired'. -/
def topExpiredUptoCard : Claim7 := { stood := { row := topExpiredUptoRow, standIns := [], harness := (true, "c43d4902e6d586cefa949a709f44b02b1aedff24810c42f6b03772c905811c57"), looks := true }, kinds := [], alts := [], laidByText := true, laidKinds := [.data, .data, .data], laidTests := true, laidLooks := .later }
def TopExpiredUptoCardSaid : Prop := Claim7.holds Tryz.pinned (.plain (OpenSpec.upto topExpiredSpec)) topExpiredUptoCard
end Rows
end Go.Proofs.YtbknmeafcbhicaaGreatDoor
