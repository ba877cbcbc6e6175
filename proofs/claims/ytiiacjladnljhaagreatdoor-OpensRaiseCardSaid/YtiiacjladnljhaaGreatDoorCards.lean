/-
  DERIVED. GIVEN WITH THE SEED: THE CARDS: each row of YtiiacjladnljhaaGreatDoorRows.lean that lists a variable, with what it lists TIED to the program's text (the seventh form; the later family's looks); each row that meets fmt, with fmt's text TOLD by the authors' own Lean function (tested against real Go, not proved from fmt's source: count such statements apart). THE CARD IS WHAT COUNTS. Prove the row's statement (the work); the ties are given (YtiiacjladnljhaaGreatDoorTie.lean); close each card by the builder's one call (the guide's Derived/Test/ToyasCard.lean, 'card_holds'). Laid BY PROGRAM, IN A SANDBOX (cutbox-door.mjs). By AI agents, Wed Nov 11 2026. No macro, syntax, notation, axiom, sorry.
-/
import Derived.Test.YtiiacjladnljhaaGreatDoorRows
import GoSem.ClaimSeven
namespace Go.Proofs.YtiiacjladnljhaaGreatDoor
namespace Rows

/-- THE TIED CARD OF 'balefirelaw16.OpensRaise'. -/
def opensRaiseCard : Claim7 := { stood := { row := opensRaiseRow, standIns := [], harness := (true, "cd9e1b5db7bdc0322b496159890b0ff5a2fcfeb948d1b7cf3246d973dcee9cf8"), looks := false }, kinds := [], alts := [], laidByText := true, laidKinds := [.data, .data, .data], laidTests := true, laidLooks := .later }
def OpensRaiseCardSaid : Prop := Claim7.holds Tryz.pinned (.plain (OpenSpec.ofChange opensRaiseSpec)) opensRaiseCard

/-- THE SECOND FORM's CARD OF 'balefirelaw16.OpensRaise'. -/
def opensRaiseUptoCard : Claim7 := { stood := { row := opensRaiseUptoRow, standIns := [], harness := (true, "cd9e1b5db7bdc0322b496159890b0ff5a2fcfeb948d1b7cf3246d973dcee9cf8"), looks := false }, kinds := [], alts := [], laidByText := true, laidKinds := [.data, .data, .data], laidTests := true, laidLooks := .later }
def OpensRaiseUptoCardSaid : Prop := Claim7.holds Tryz.pinned (.plain (OpenSpec.upto opensRaiseSpec)) opensRaiseUptoCard
end Rows
end Go.Proofs.YtiiacjladnljhaaGreatDoor
