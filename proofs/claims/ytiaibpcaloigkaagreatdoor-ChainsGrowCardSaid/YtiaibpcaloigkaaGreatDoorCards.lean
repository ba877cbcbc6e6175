/-
  DERIVED. GIVEN WITH THE SEED: THE CARDS: each row of YtiaibpcaloigkaaGreatDoorRows.lean that lists a variable, with what it lists TIED to the program's text (the seventh form; the later family's looks); each row that meets fmt, with fmt's text TOLD by the authors' own Lean function (tested against real Go, not proved from fmt's source: count such statements apart). THE CARD IS WHAT COUNTS. Prove the row's statement (the work); the ties are given (YtiaibpcaloigkaaGreatDoorTie.lean); close each card by the builder's one call (the guide's Derived/Test/ToyasCard.lean, 'card_holds'). Laid BY PROGRAM, IN A SANDBOX (cutbox-door.mjs). By AI agents, Wed Nov 11 2026. No macro, syntax, notation, axiom, sorry.
-/
import Derived.Test.YtiaibpcaloigkaaGreatDoorRows
import GoSem.ClaimSeven
namespace Go.Proofs.YtiaibpcaloigkaaGreatDoor
namespace Rows

/-- THE TIED CARD OF 'balefirelaw25.OutputsAny'. -/
def outputsAnyCard : Claim7 := { stood := { row := outputsAnyRow, standIns := [], harness := (true, "371edef1aab442ec0aa39bb1d37a9cb9443f050943f855c91e5bbe0e3f5e417d"), looks := true }, kinds := [], alts := [], laidByText := true, laidKinds := [.handle], laidTests := true, laidLooks := .later }
def OutputsAnyCardSaid : Prop := Claim7.holds Tryz.pinned (.plain (OpenSpec.ofChange outputsAnySpec)) outputsAnyCard

/-- THE TIED CARD OF 'balefirelaw26.ChainsGrow'. -/
def chainsGrowCard : Claim7 := { stood := { row := chainsGrowRow, standIns := [], harness := (true, "371edef1aab442ec0aa39bb1d37a9cb9443f050943f855c91e5bbe0e3f5e417d"), looks := true }, kinds := [], alts := [], laidByText := true, laidKinds := [.handle], laidTests := true, laidLooks := .later }
def ChainsGrowCardSaid : Prop := Claim7.holds Tryz.pinned (.plain (OpenSpec.ofChange chainsGrowSpec)) chainsGrowCard

/-- THE TIED CARD OF 'balefirelaw26.ChainsRefuse'. -/
def chainsRefuseCard : Claim7 := { stood := { row := chainsRefuseRow, standIns := [], harness := (true, "371edef1aab442ec0aa39bb1d37a9cb9443f050943f855c91e5bbe0e3f5e417d"), looks := true }, kinds := [], alts := [], laidByText := true, laidKinds := [.handle], laidTests := true, laidLooks := .later }
def ChainsRefuseCardSaid : Prop := Claim7.holds Tryz.pinned (.plain (OpenSpec.ofChange chainsRefuseSpec)) chainsRefuseCard

/-- THE TIED CARD OF 'balefirelaw26.ChainsTwo'. -/
def chainsTwoCard : Claim7 := { stood := { row := chainsTwoRow, standIns := [], harness := (true, "371edef1aab442ec0aa39bb1d37a9cb9443f050943f855c91e5bbe0e3f5e417d"), looks := true }, kinds := [], alts := [], laidByText := true, laidKinds := [.handle], laidTests := true, laidLooks := .later }
def ChainsTwoCardSaid : Prop := Claim7.holds Tryz.pinned (.plain (OpenSpec.ofChange chainsTwoSpec)) chainsTwoCard

/-- THE TIED CARD OF 'balefirelaw26.ChainsCut'. -/
def chainsCutCard : Claim7 := { stood := { row := chainsCutRow, standIns := [], harness := (true, "371edef1aab442ec0aa39bb1d37a9cb9443f050943f855c91e5bbe0e3f5e417d"), looks := true }, kinds := [], alts := [], laidByText := true, laidKinds := [.handle], laidTests := true, laidLooks := .later }
def ChainsCutCardSaid : Prop := Claim7.holds Tryz.pinned (.plain (OpenSpec.ofChange chainsCutSpec)) chainsCutCard

/-- THE SECOND FORM's CARD OF 'balefirelaw25.OutputsAny'. -/
def outputsAnyUptoCard : Claim7 := { stood := { row := outputsAnyUptoRow, standIns := [], harness := (true, "371edef1aab442ec0aa39bb1d37a9cb9443f050943f855c91e5bbe0e3f5e417d"), looks := true }, kinds := [], alts := [], laidByText := true, laidKinds := [.handle], laidTests := true, laidLooks := .later }
def OutputsAnyUptoCardSaid : Prop := Claim7.holds Tryz.pinned (.plain (OpenSpec.upto outputsAnySpec)) outputsAnyUptoCard

/-- THE SECOND FORM's CARD OF 'balefirelaw26.ChainsGrow'. -/
def chainsGrowUptoCard : Claim7 := { stood := { row := chainsGrowUptoRow, standIns := [], harness := (true, "371edef1aab442ec0aa39bb1d37a9cb9443f050943f855c91e5bbe0e3f5e417d"), looks := true }, kinds := [], alts := [], laidByText := true, laidKinds := [.handle], laidTests := true, laidLooks := .later }
def ChainsGrowUptoCardSaid : Prop := Claim7.holds Tryz.pinned (.plain (OpenSpec.upto chainsGrowSpec)) chainsGrowUptoCard

/-- THE SECOND FORM's CARD OF 'balefirelaw26.ChainsRefuse'. -/
def chainsRefuseUptoCard : Claim7 := { stood := { row := chainsRefuseUptoRow, standIns := [], harness := (true, "371edef1aab442ec0aa39bb1d37a9cb9443f050943f855c91e5bbe0e3f5e417d"), looks := true }, kinds := [], alts := [], laidByText := true, laidKinds := [.handle], laidTests := true, laidLooks := .later }
def ChainsRefuseUptoCardSaid : Prop := Claim7.holds Tryz.pinned (.plain (OpenSpec.upto chainsRefuseSpec)) chainsRefuseUptoCard

/-- THE SECOND FORM's CARD OF 'balefirelaw26.ChainsTwo'. -/
def chainsTwoUptoCard : Claim7 := { stood := { row := chainsTwoUptoRow, standIns := [], harness := (true, "371edef1aab442ec0aa39bb1d37a9cb9443f050943f855c91e5bbe0e3f5e417d"), looks := true }, kinds := [], alts := [], laidByText := true, laidKinds := [.handle], laidTests := true, laidLooks := .later }
def ChainsTwoUptoCardSaid : Prop := Claim7.holds Tryz.pinned (.plain (OpenSpec.upto chainsTwoSpec)) chainsTwoUptoCard

/-- THE SECOND FORM's CARD OF 'balefirelaw26.ChainsCut'. -/
def chainsCutUptoCard : Claim7 := { stood := { row := chainsCutUptoRow, standIns := [], harness := (true, "371edef1aab442ec0aa39bb1d37a9cb9443f050943f855c91e5bbe0e3f5e417d"), looks := true }, kinds := [], alts := [], laidByText := true, laidKinds := [.handle], laidTests := true, laidLooks := .later }
def ChainsCutUptoCardSaid : Prop := Claim7.holds Tryz.pinned (.plain (OpenSpec.upto chainsCutSpec)) chainsCutUptoCard
end Rows
end Go.Proofs.YtiaibpcaloigkaaGreatDoor
