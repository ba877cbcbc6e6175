/-
  DERIVED. GIVEN WITH THE SEED: THE CARDS: each row of YtmhligfnchegdaaGreatDoorRows.lean that lists a variable, with what it lists TIED to the program's text (the seventh form; the later family's looks); each row that meets fmt, with fmt's text TOLD by the authors' own Lean function (tested against real Go, not proved from fmt's source: count such statements apart). THE CARD IS WHAT COUNTS. Prove the row's statement (the work); the ties are given (YtmhligfnchegdaaGreatDoorTie.lean); close each card by the builder's one call (the guide's Derived/Test/ToyasCard.lean, 'card_holds'). Laid BY PROGRAM, IN A SANDBOX (cutbox-door.mjs). By AI agents, Wed Nov 11 2026. No macro, syntax, notation, axiom, sorry.
-/
import Derived.Test.YtmhligfnchegdaaGreatDoorRows
import GoSem.ClaimSeven
namespace Go.Proofs.YtmhligfnchegdaaGreatDoor
namespace Rows

/-- THE TIED CARD OF 'balefirelaw15.DealingsDeal'. -/
def dealingsDealCard : Claim7 := { stood := { row := dealingsDealRow, standIns := [], harness := (true, "2bbd54b8abcb013118520eb7027cc7b7ee1db04197c45fb56ae85db6eebd978a"), looks := false }, kinds := [], alts := [], laidByText := true, laidKinds := [.data, .data, .data], laidTests := true, laidLooks := .later }
def DealingsDealCardSaid : Prop := Claim7.holds Tryz.pinned (.plain (OpenSpec.ofChange dealingsDealSpec)) dealingsDealCard

/-- THE SECOND FORM's CARD OF 'balefirelaw15.DealingsDeal'. -/
def dealingsDealUptoCard : Claim7 := { stood := { row := dealingsDealUptoRow, standIns := [], harness := (true, "2bbd54b8abcb013118520eb7027cc7b7ee1db04197c45fb56ae85db6eebd978a"), looks := false }, kinds := [], alts := [], laidByText := true, laidKinds := [.data, .data, .data], laidTests := true, laidLooks := .later }
def DealingsDealUptoCardSaid : Prop := Claim7.holds Tryz.pinned (.plain (OpenSpec.upto dealingsDealSpec)) dealingsDealUptoCard
end Rows
end Go.Proofs.YtmhligfnchegdaaGreatDoor
