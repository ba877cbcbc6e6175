/-
  DERIVED. GIVEN WITH THE SEED: THE CARDS: each row of YtegjemedanccoaaGreatDoorRows.lean that lists a variable, with what it lists TIED to the program's text (the seventh form; the later family's looks); each row that meets fmt, with fmt's text TOLD by the authors' own Lean function (tested against real Go, not proved from fmt's source: count such statements apart). THE CARD IS WHAT COUNTS. Prove the row's statement (the work); the ties are given (YtegjemedanccoaaGreatDoorTie.lean); close each card by the builder's one call (the guide's Derived/Test/ToyasCard.lean, 'card_holds'). Laid BY PROGRAM, IN A SANDBOX (cutbox-door.mjs). By AI agents, Wed Nov 11 2026. No macro, syntax, notation, axiom, sorry.
-/
import Derived.Test.YtegjemedanccoaaGreatDoorRows
import GoSem.ClaimSeven
namespace Go.Proofs.YtegjemedanccoaaGreatDoor
namespace Rows

/-- THE TIED CARD OF 'balefirelaw15.DealingsSetting'. -/
def dealingsSettingCard : Claim7 := { stood := { row := dealingsSettingRow, standIns := [], harness := (true, "6eb5e70cbb3c680ebf56ff6701894ce9fcde5930b8988b6a4e98bc0ada49810b"), looks := true }, kinds := [], alts := [], laidByText := true, laidKinds := [.handle], laidTests := true, laidLooks := .later }
def DealingsSettingCardSaid : Prop := Claim7.holds Tryz.pinned (.plain (OpenSpec.ofChange dealingsSettingSpec)) dealingsSettingCard

/-- THE TIED CARD OF 'balefirelaw15.DealingsBack'. -/
def dealingsBackCard : Claim7 := { stood := { row := dealingsBackRow, standIns := [], harness := (true, "6eb5e70cbb3c680ebf56ff6701894ce9fcde5930b8988b6a4e98bc0ada49810b"), looks := true }, kinds := [], alts := [], laidByText := true, laidKinds := [.handle], laidTests := true, laidLooks := .later }
def DealingsBackCardSaid : Prop := Claim7.holds Tryz.pinned (.plain (OpenSpec.ofChange dealingsBackSpec)) dealingsBackCard

/-- THE TIED CARD OF 'balefirelaw15.DealingsShown'. -/
def dealingsShownCard : Claim7 := { stood := { row := dealingsShownRow, standIns := [], harness := (true, "6eb5e70cbb3c680ebf56ff6701894ce9fcde5930b8988b6a4e98bc0ada49810b"), looks := true }, kinds := [], alts := [], laidByText := true, laidKinds := [.handle], laidTests := true, laidLooks := .later }
def DealingsShownCardSaid : Prop := Claim7.holds Tryz.pinned (.plain (OpenSpec.ofChange dealingsShownSpec)) dealingsShownCard

/-- THE SECOND FORM's CARD OF 'balefirelaw15.DealingsSetting'. -/
def dealingsSettingUptoCard : Claim7 := { stood := { row := dealingsSettingUptoRow, standIns := [], harness := (true, "6eb5e70cbb3c680ebf56ff6701894ce9fcde5930b8988b6a4e98bc0ada49810b"), looks := true }, kinds := [], alts := [], laidByText := true, laidKinds := [.handle], laidTests := true, laidLooks := .later }
def DealingsSettingUptoCardSaid : Prop := Claim7.holds Tryz.pinned (.plain (OpenSpec.upto dealingsSettingSpec)) dealingsSettingUptoCard

/-- THE SECOND FORM's CARD OF 'balefirelaw15.DealingsBack'. -/
def dealingsBackUptoCard : Claim7 := { stood := { row := dealingsBackUptoRow, standIns := [], harness := (true, "6eb5e70cbb3c680ebf56ff6701894ce9fcde5930b8988b6a4e98bc0ada49810b"), looks := true }, kinds := [], alts := [], laidByText := true, laidKinds := [.handle], laidTests := true, laidLooks := .later }
def DealingsBackUptoCardSaid : Prop := Claim7.holds Tryz.pinned (.plain (OpenSpec.upto dealingsBackSpec)) dealingsBackUptoCard

/-- THE SECOND FORM's CARD OF 'balefirelaw15.DealingsShown'. -/
def dealingsShownUptoCard : Claim7 := { stood := { row := dealingsShownUptoRow, standIns := [], harness := (true, "6eb5e70cbb3c680ebf56ff6701894ce9fcde5930b8988b6a4e98bc0ada49810b"), looks := true }, kinds := [], alts := [], laidByText := true, laidKinds := [.handle], laidTests := true, laidLooks := .later }
def DealingsShownUptoCardSaid : Prop := Claim7.holds Tryz.pinned (.plain (OpenSpec.upto dealingsShownSpec)) dealingsShownUptoCard
end Rows
end Go.Proofs.YtegjemedanccoaaGreatDoor
