/-
  DERIVED. GIVEN WITH THE SEED: THE CARDS: each row of YtbbppkkhidkjpaaGreatDoorRows.lean that lists a variable, with what it lists TIED to the program's text (the seventh form; the later family's looks); each row that meets fmt, with fmt's text TOLD by the authors' own Lean function (tested against real Go, not proved from fmt's source: count such statements apart). THE CARD IS WHAT COUNTS. Prove the row's statement (the work); the ties are given (YtbbppkkhidkjpaaGreatDoorTie.lean); close each card by the builder's one call (the guide's Derived/Test/ToyasCard.lean, 'card_holds'). Laid BY PROGRAM, IN A SANDBOX (cutbox-door.mjs). By AI agents, Wed Nov 11 2026. No macro, syntax, notation, axiom, sorry.
-/
import Derived.Test.YtbbppkkhidkjpaaGreatDoorRows
import GoSem.ClaimSeven
namespace Go.Proofs.YtbbppkkhidkjpaaGreatDoor
namespace Rows

/-- THE TIED CARD OF 'balefirelaw15.DealingsCheck'. -/
def dealingsCheckCard : Claim7 := { stood := { row := dealingsCheckRow, standIns := [], harness := (true, "658806962c26a438622653872c1c6c4a3a8905f7d93e5c8f5986fb59de7bd0de"), looks := true }, kinds := [], alts := [], laidByText := true, laidKinds := [.handle], laidTests := true, laidLooks := .later }
def DealingsCheckCardSaid : Prop := Claim7.holds Tryz.pinned (.plain (OpenSpec.ofChange dealingsCheckSpec)) dealingsCheckCard

/-- THE SECOND FORM's CARD OF 'balefirelaw15.DealingsCheck'. -/
def dealingsCheckUptoCard : Claim7 := { stood := { row := dealingsCheckUptoRow, standIns := [], harness := (true, "658806962c26a438622653872c1c6c4a3a8905f7d93e5c8f5986fb59de7bd0de"), looks := true }, kinds := [], alts := [], laidByText := true, laidKinds := [.handle], laidTests := true, laidLooks := .later }
def DealingsCheckUptoCardSaid : Prop := Claim7.holds Tryz.pinned (.plain (OpenSpec.upto dealingsCheckSpec)) dealingsCheckUptoCard
end Rows
end Go.Proofs.YtbbppkkhidkjpaaGreatDoor
