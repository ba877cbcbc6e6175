/-
  DERIVED. GIVEN WITH THE SEED: THE CARDS: each row of YtiiefkchpicncaaGreatDoorRows.lean that lists a variable, with what it lists TIED to the program's text (the seventh form; the later family's looks); each row that meets fmt, with fmt's text TOLD by the authors' own Lean function (tested against real Go, not proved from fmt's source: count such statements apart). THE CARD IS WHAT COUNTS. Prove the row's statement (the work); the ties are given (YtiiefkchpicncaaGreatDoorTie.lean); close each card by the builder's one call (the guide's Derived/Test/ToyasCard.lean, 'card_holds'). Laid BY PROGRAM, IN A SANDBOX (cutbox-door.mjs). By AI agents, Wed Nov 11 2026. No macro, syntax, notation, axiom, sorry.
-/
import Derived.Test.YtiiefkchpicncaaGreatDoorRows
import GoSem.ClaimSeven
namespace Go.Proofs.YtiiefkchpicncaaGreatDoor
namespace Rows

/-- THE TIED CARD OF 'balefirelaw23.PoolsAll'. -/
def poolsAllCard : Claim7 := { stood := { row := poolsAllRow, standIns := [], harness := (true, "aeb8402b88fdba79e3928dcfd1f78a489fe7e5c0cb48ac7550da1d4d44418f1f"), looks := true }, kinds := [], alts := [], laidByText := true, laidKinds := [.handle], laidTests := true, laidLooks := .later }
def PoolsAllCardSaid : Prop := Claim7.holds Tryz.pinned (.plain (OpenSpec.ofChange poolsAllSpec)) poolsAllCard

/-- THE TIED CARD OF 'balefirelaw25.OutputsAny'. -/
def outputsAnyCard : Claim7 := { stood := { row := outputsAnyRow, standIns := [], harness := (true, "aeb8402b88fdba79e3928dcfd1f78a489fe7e5c0cb48ac7550da1d4d44418f1f"), looks := true }, kinds := [], alts := [], laidByText := true, laidKinds := [.handle], laidTests := true, laidLooks := .later }
def OutputsAnyCardSaid : Prop := Claim7.holds Tryz.pinned (.plain (OpenSpec.ofChange outputsAnySpec)) outputsAnyCard

/-- THE TIED CARD OF 'balefirelaw25.OutputsFew'. -/
def outputsFewCard : Claim7 := { stood := { row := outputsFewRow, standIns := [], harness := (true, "aeb8402b88fdba79e3928dcfd1f78a489fe7e5c0cb48ac7550da1d4d44418f1f"), looks := true }, kinds := [], alts := [], laidByText := true, laidKinds := [.handle], laidTests := true, laidLooks := .later }
def OutputsFewCardSaid : Prop := Claim7.holds Tryz.pinned (.plain (OpenSpec.ofChange outputsFewSpec)) outputsFewCard

/-- THE TIED CARD OF 'balefirelaw25.OutputsTurned'. -/
def outputsTurnedCard : Claim7 := { stood := { row := outputsTurnedRow, standIns := [], harness := (true, "aeb8402b88fdba79e3928dcfd1f78a489fe7e5c0cb48ac7550da1d4d44418f1f"), looks := true }, kinds := [], alts := [], laidByText := true, laidKinds := [.handle], laidTests := true, laidLooks := .later }
def OutputsTurnedCardSaid : Prop := Claim7.holds Tryz.pinned (.plain (OpenSpec.ofChange outputsTurnedSpec)) outputsTurnedCard

/-- THE SECOND FORM's CARD OF 'balefirelaw23.PoolsAll'. -/
def poolsAllUptoCard : Claim7 := { stood := { row := poolsAllUptoRow, standIns := [], harness := (true, "aeb8402b88fdba79e3928dcfd1f78a489fe7e5c0cb48ac7550da1d4d44418f1f"), looks := true }, kinds := [], alts := [], laidByText := true, laidKinds := [.handle], laidTests := true, laidLooks := .later }
def PoolsAllUptoCardSaid : Prop := Claim7.holds Tryz.pinned (.plain (OpenSpec.upto poolsAllSpec)) poolsAllUptoCard

/-- THE SECOND FORM's CARD OF 'balefirelaw25.OutputsAny'. -/
def outputsAnyUptoCard : Claim7 := { stood := { row := outputsAnyUptoRow, standIns := [], harness := (true, "aeb8402b88fdba79e3928dcfd1f78a489fe7e5c0cb48ac7550da1d4d44418f1f"), looks := true }, kinds := [], alts := [], laidByText := true, laidKinds := [.handle], laidTests := true, laidLooks := .later }
def OutputsAnyUptoCardSaid : Prop := Claim7.holds Tryz.pinned (.plain (OpenSpec.upto outputsAnySpec)) outputsAnyUptoCard

/-- THE SECOND FORM's CARD OF 'balefirelaw25.OutputsFew'. -/
def outputsFewUptoCard : Claim7 := { stood := { row := outputsFewUptoRow, standIns := [], harness := (true, "aeb8402b88fdba79e3928dcfd1f78a489fe7e5c0cb48ac7550da1d4d44418f1f"), looks := true }, kinds := [], alts := [], laidByText := true, laidKinds := [.handle], laidTests := true, laidLooks := .later }
def OutputsFewUptoCardSaid : Prop := Claim7.holds Tryz.pinned (.plain (OpenSpec.upto outputsFewSpec)) outputsFewUptoCard

/-- THE SECOND FORM's CARD OF 'balefirelaw25.OutputsTurned'. -/
def outputsTurnedUptoCard : Claim7 := { stood := { row := outputsTurnedUptoRow, standIns := [], harness := (true, "aeb8402b88fdba79e3928dcfd1f78a489fe7e5c0cb48ac7550da1d4d44418f1f"), looks := true }, kinds := [], alts := [], laidByText := true, laidKinds := [.handle], laidTests := true, laidLooks := .later }
def OutputsTurnedUptoCardSaid : Prop := Claim7.holds Tryz.pinned (.plain (OpenSpec.upto outputsTurnedSpec)) outputsTurnedUptoCard
end Rows
end Go.Proofs.YtiiefkchpicncaaGreatDoor
