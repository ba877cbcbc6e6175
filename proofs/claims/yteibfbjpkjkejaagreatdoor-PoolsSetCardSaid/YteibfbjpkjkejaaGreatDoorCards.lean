/-
  DERIVED. GIVEN WITH THE SEED: THE CARDS: each row of YteibfbjpkjkejaaGreatDoorRows.lean that lists a variable, with what it lists TIED to the program's text (the seventh form; the later family's looks); each row that meets fmt, with fmt's text TOLD by the authors' own Lean function (tested against real Go, not proved from fmt's source: count such statements apart). THE CARD IS WHAT COUNTS. Prove the row's statement (the work); the ties are given (YteibfbjpkjkejaaGreatDoorTie.lean); close each card by the builder's one call (the guide's Derived/Test/ToyasCard.lean, 'card_holds'). Laid BY PROGRAM, IN A SANDBOX (cutbox-door.mjs). By AI agents, Wed Nov 11 2026. No macro, syntax, notation, axiom, sorry.
-/
import Derived.Test.YteibfbjpkjkejaaGreatDoorRows
import GoSem.ClaimSeven
namespace Go.Proofs.YteibfbjpkjkejaaGreatDoor
namespace Rows

/-- THE TIED CARD OF 'balefirelaw23.PoolsRefuse'. -/
def poolsRefuseCard : Claim7 := { stood := { row := poolsRefuseRow, standIns := [], harness := (true, "0a5f9fa93f9aed482452ba48ef38ee29a8c25d55c053cd0b1afdcd7a5a3478f3"), looks := true }, kinds := [], alts := [], laidByText := true, laidKinds := [.handle], laidTests := true, laidLooks := .later }
def PoolsRefuseCardSaid : Prop := Claim7.holds Tryz.pinned (.plain (OpenSpec.ofChange poolsRefuseSpec)) poolsRefuseCard

/-- THE TIED CARD OF 'balefirelaw23.PoolsAll'. -/
def poolsAllCard : Claim7 := { stood := { row := poolsAllRow, standIns := [], harness := (true, "0a5f9fa93f9aed482452ba48ef38ee29a8c25d55c053cd0b1afdcd7a5a3478f3"), looks := true }, kinds := [], alts := [], laidByText := true, laidKinds := [.handle], laidTests := true, laidLooks := .later }
def PoolsAllCardSaid : Prop := Claim7.holds Tryz.pinned (.plain (OpenSpec.ofChange poolsAllSpec)) poolsAllCard

/-- THE TIED CARD OF 'balefirelaw23.PoolsSet'. -/
def poolsSetCard : Claim7 := { stood := { row := poolsSetRow, standIns := [], harness := (true, "0a5f9fa93f9aed482452ba48ef38ee29a8c25d55c053cd0b1afdcd7a5a3478f3"), looks := true }, kinds := [], alts := [], laidByText := true, laidKinds := [.handle], laidTests := true, laidLooks := .later }
def PoolsSetCardSaid : Prop := Claim7.holds Tryz.pinned (.plain (OpenSpec.ofChange poolsSetSpec)) poolsSetCard

/-- THE SECOND FORM's CARD OF 'balefirelaw23.PoolsRefuse'. -/
def poolsRefuseUptoCard : Claim7 := { stood := { row := poolsRefuseUptoRow, standIns := [], harness := (true, "0a5f9fa93f9aed482452ba48ef38ee29a8c25d55c053cd0b1afdcd7a5a3478f3"), looks := true }, kinds := [], alts := [], laidByText := true, laidKinds := [.handle], laidTests := true, laidLooks := .later }
def PoolsRefuseUptoCardSaid : Prop := Claim7.holds Tryz.pinned (.plain (OpenSpec.upto poolsRefuseSpec)) poolsRefuseUptoCard

/-- THE SECOND FORM's CARD OF 'balefirelaw23.PoolsAll'. -/
def poolsAllUptoCard : Claim7 := { stood := { row := poolsAllUptoRow, standIns := [], harness := (true, "0a5f9fa93f9aed482452ba48ef38ee29a8c25d55c053cd0b1afdcd7a5a3478f3"), looks := true }, kinds := [], alts := [], laidByText := true, laidKinds := [.handle], laidTests := true, laidLooks := .later }
def PoolsAllUptoCardSaid : Prop := Claim7.holds Tryz.pinned (.plain (OpenSpec.upto poolsAllSpec)) poolsAllUptoCard

/-- THE SECOND FORM's CARD OF 'balefirelaw23.PoolsSet'. -/
def poolsSetUptoCard : Claim7 := { stood := { row := poolsSetUptoRow, standIns := [], harness := (true, "0a5f9fa93f9aed482452ba48ef38ee29a8c25d55c053cd0b1afdcd7a5a3478f3"), looks := true }, kinds := [], alts := [], laidByText := true, laidKinds := [.handle], laidTests := true, laidLooks := .later }
def PoolsSetUptoCardSaid : Prop := Claim7.holds Tryz.pinned (.plain (OpenSpec.upto poolsSetSpec)) poolsSetUptoCard
end Rows
end Go.Proofs.YteibfbjpkjkejaaGreatDoor
