/-
  NARROWER THAN 'FOR EVERY INPUT', by the rows' own cells (each row's printed sentence says how): DealingsSetting: laid · DealingsBack: laid · DealingsShown: laid.
  DERIVED. THE GIVEN ROWS OF THIS SEAT. 3 by the template 'for every input the law returns true; each argument reads behind the call as it read before'; 0 by the template 'total and deterministic' (their statements: YtegjemedanccoaaGreatDoorTotals.lean).
  GIVEN WITH THE SEED: the statements are not yours to turn. If you find one false, say at which input.
  Laid BY PROGRAM, IN A SANDBOX (cutbox-rows.mjs): the forced cells as the released guide's own fill.sh prints them over the translation db77fd630fc9542e… (all of the seat's roots in one cut). By AI agents, Wed Nov 11 2026. No macro, syntax, notation, axiom, sorry.
-/
import Derived.Test.YtegjemedanccoaaGreatDoorChecked
import GoSem.Claim
import GoSem.ClaimJoined
import GoSem.ClaimMapViews
import Derived.JoinedTies
import Derived.KernelRfl
namespace Go.Proofs.YtegjemedanccoaaGreatDoor
/- THE CELL 'sum', in the pinned program and in every row, IS THE sha256 OF THE DUMP (.gsa) THAT YtegjemedanccoaaGreatDoorProg.lean LOADS. Nothing in Lean hashes anything: it is a label: what it is worth is what the hold of that sum in a sandbox is worth. -/
noncomputable def Tryz.pinned : Pinned := { name := "ytegjemedanccoaagreatdoor", sum := "db77fd630fc9542e9c5c8579d340a4efe1b1a91443db097f99202dd992359d04", checked := Tryz.checked }
namespace Rows
def none {H : Type} : Left H := { results := [], args := [] }

/- WHAT THE LISTED PACKAGE-LEVEL VARIABLES READ AS WHEN THE CALL BEGINS. Each datum BY PROGRAM (the guide's laid-datum.mjs) off the statement by which the dump's own 'gosem.cut.vars' lays the variable. In a bare row this is a premise. The card (YtegjemedanccoaaGreatDoorCards.lean) ties it to the program's text. -/
def laid_errors_errorType {H : Type} : DataW H := .iface "internal/reflectlite.rtype" (.agg [.ptr (.lit (.string [101, 114, 114, 111, 114]))])

/-- 'balefirelaw15.DealingsSetting': WHATEVER THE INPUT: true; the input reads as it did. -/
def dealingsSettingSpec : ChangeSpec := { name := "dealingsSetting", fn := fun _ => fun
  | [d1, d2] => { results := [.lit (.bool true)], args := [d1, d2] }
  | _ => none }
def dealingsSettingRow : OpenClaim := { program := "ytegjemedanccoaagreatdoor", sum := "db77fd630fc9542e9c5c8579d340a4efe1b1a91443db097f99202dd992359d04", func := "balefire/balefirelaw15.DealingsSetting", spec := "dealingsSetting", inPlace := ["math/bits.Sub64", "math/bits.Add64", "internal/reflectlite.ValueOf", "(internal/reflectlite.Value).Type", "(internal/reflectlite.Value).IsNil", "internal/reflectlite.TypeOf", "(internal/reflectlite.Value).Elem", "(internal/reflectlite.Value).Set"], unfollowed := true, recurses := true, named := ["math/bits.divideError", "math/bits.overflowError", "errors.errorType"], apart := false, laid := [("errors.errorType", laid_errors_errorType)] }
def DealingsSettingSaid : Prop := dealingsSettingRow.holds Tryz.pinned (OpenSpec.ofChange dealingsSettingSpec)

/-- ITS FALSE NEIGHBOUR: 'it returns false'. Refute it at one input. -/
def dealingsSettingWrong : ChangeSpec := { name := "dealingsSetting", fn := fun _ => fun
  | [d1, d2] => { results := [.lit (.bool false)], args := [d1, d2] }
  | _ => none }
def DealingsSettingWrongFalsely : Prop := dealingsSettingRow.holds Tryz.pinned (OpenSpec.ofChange dealingsSettingWrong)

/-- 'balefirelaw15.DealingsBack': WHATEVER THE INPUT: true; the input reads as it did. -/
def dealingsBackSpec : ChangeSpec := { name := "dealingsBack", fn := fun _ => fun
  | [d1, d2] => { results := [.lit (.bool true)], args := [d1, d2] }
  | _ => none }
def dealingsBackRow : OpenClaim := { program := "ytegjemedanccoaagreatdoor", sum := "db77fd630fc9542e9c5c8579d340a4efe1b1a91443db097f99202dd992359d04", func := "balefire/balefirelaw15.DealingsBack", spec := "dealingsBack", inPlace := ["math/bits.Sub64", "math/bits.Add64", "internal/reflectlite.ValueOf", "(internal/reflectlite.Value).Type", "(internal/reflectlite.Value).IsNil", "internal/reflectlite.TypeOf", "(internal/reflectlite.Value).Elem", "(internal/reflectlite.Value).Set"], unfollowed := true, recurses := true, named := ["math/bits.divideError", "math/bits.overflowError", "errors.errorType"], apart := false, laid := [("errors.errorType", laid_errors_errorType)] }
def DealingsBackSaid : Prop := dealingsBackRow.holds Tryz.pinned (OpenSpec.ofChange dealingsBackSpec)

/-- ITS FALSE NEIGHBOUR: 'it returns false'. Refute it at one input. -/
def dealingsBackWrong : ChangeSpec := { name := "dealingsBack", fn := fun _ => fun
  | [d1, d2] => { results := [.lit (.bool false)], args := [d1, d2] }
  | _ => none }
def DealingsBackWrongFalsely : Prop := dealingsBackRow.holds Tryz.pinned (OpenSpec.ofChange dealingsBackWrong)

/-- 'balefirelaw15.DealingsShown': WHATEVER THE INPUT: true; the input reads as it did. -/
def dealingsShownSpec : ChangeSpec := { name := "dealingsShown", fn := fun _ => fun
  | [d1, d2, d3] => { results := [.lit (.bool true)], args := [d1, d2, d3] }
  | _ => none }
def dealingsShownRow : OpenClaim := { program := "ytegjemedanccoaagreatdoor", sum := "db77fd630fc9542e9c5c8579d340a4efe1b1a91443db097f99202dd992359d04", func := "balefire/balefirelaw15.DealingsShown", spec := "dealingsShown", inPlace := ["math/bits.Sub64", "math/bits.Add64", "internal/reflectlite.ValueOf", "(internal/reflectlite.Value).Type", "(internal/reflectlite.Value).IsNil", "internal/reflectlite.TypeOf", "(internal/reflectlite.Value).Elem", "(internal/reflectlite.Value).Set"], unfollowed := true, recurses := true, named := ["math/bits.divideError", "math/bits.overflowError", "errors.errorType"], apart := false, laid := [("errors.errorType", laid_errors_errorType)] }
def DealingsShownSaid : Prop := dealingsShownRow.holds Tryz.pinned (OpenSpec.ofChange dealingsShownSpec)

/-- ITS FALSE NEIGHBOUR: 'it returns false'. Refute it at one input. -/
def dealingsShownWrong : ChangeSpec := { name := "dealingsShown", fn := fun _ => fun
  | [d1, d2, d3] => { results := [.lit (.bool false)], args := [d1, d2, d3] }
  | _ => none }
def DealingsShownWrongFalsely : Prop := dealingsShownRow.holds Tryz.pinned (OpenSpec.ofChange dealingsShownWrong)

/- THE SECOND FORM. 'bulk': how many values and letters a reading holds, each counted each time it is reached (what is shared counts as often as it is met; a slice's spare places count too). A statement '..UptoSaid' is the law's where the arguments, and the package variables that the reading takes, are together of bulk at most 1048576: NARROWER than '..Said'. Prove '..Said' where nothing that the law and all that it calls make is longer than what came in: it says more and counts as full. Else prove '..UptoSaid'. A law counts once. -/
mutual
def uptoBulk {H : Type} : DataW H → Nat
  | .lit (.string bytes) => bytes.length + 1
  | .lit _ => 1
  | .nil => 1
  | .ptr d => uptoBulk d + 1
  | .slice elems spare => uptoBulkAll elems + uptoBulkAll spare + 1
  | .agg parts => uptoBulkAll parts + 1
  | .iface _ d => uptoBulk d + 1
  | .map entries => uptoBulkEntries entries + 1
  | .held _ => 1
def uptoBulkAll {H : Type} : List (DataW H) → Nat
  | [] => 0
  | d :: r => uptoBulk d + uptoBulkAll r
def uptoBulkEntries {H : Type} : List (Lit × DataW H) → Nat
  | [] => 0
  | x :: r => uptoBulkEntry x + uptoBulkEntries r
def uptoBulkEntry {H : Type} : Lit × DataW H → Nat
  | (.string bytes, d) => bytes.length + uptoBulk d + 1
  | (_, d) => uptoBulk d + 1
 end
def uptoSmall : (H : Type) → List (DataW H) → Bool := fun _ ds => decide (uptoBulkAll ds ≤ 1048576)
def OpenSpec.upto (s : _root_.Go.ChangeSpec) : _root_.Go.OpenSpec := { _root_.Go.OpenSpec.ofChange s with cond := some uptoSmall }

/-- 'balefirelaw15.DealingsSetting', WHERE WHAT IT READS IS OF BULK AT MOST 1048576: true; the input reads as it did. -/
def dealingsSettingUptoRow : OpenClaim := { program := "ytegjemedanccoaagreatdoor", sum := "db77fd630fc9542e9c5c8579d340a4efe1b1a91443db097f99202dd992359d04", func := "balefire/balefirelaw15.DealingsSetting", spec := "dealingsSetting", inPlace := ["math/bits.Sub64", "math/bits.Add64", "internal/reflectlite.ValueOf", "(internal/reflectlite.Value).Type", "(internal/reflectlite.Value).IsNil", "internal/reflectlite.TypeOf", "(internal/reflectlite.Value).Elem", "(internal/reflectlite.Value).Set"], unfollowed := true, recurses := true, named := ["math/bits.divideError", "math/bits.overflowError", "errors.errorType"], apart := false, laid := [("errors.errorType", laid_errors_errorType)], narrowed := true }
def DealingsSettingUptoSaid : Prop := dealingsSettingUptoRow.holds Tryz.pinned (OpenSpec.upto dealingsSettingSpec)

/-- 'balefirelaw15.DealingsBack', WHERE WHAT IT READS IS OF BULK AT MOST 1048576: true; the input reads as it did. -/
def dealingsBackUptoRow : OpenClaim := { program := "ytegjemedanccoaagreatdoor", sum := "db77fd630fc9542e9c5c8579d340a4efe1b1a91443db097f99202dd992359d04", func := "balefire/balefirelaw15.DealingsBack", spec := "dealingsBack", inPlace := ["math/bits.Sub64", "math/bits.Add64", "internal/reflectlite.ValueOf", "(internal/reflectlite.Value).Type", "(internal/reflectlite.Value).IsNil", "internal/reflectlite.TypeOf", "(internal/reflectlite.Value).Elem", "(internal/reflectlite.Value).Set"], unfollowed := true, recurses := true, named := ["math/bits.divideError", "math/bits.overflowError", "errors.errorType"], apart := false, laid := [("errors.errorType", laid_errors_errorType)], narrowed := true }
def DealingsBackUptoSaid : Prop := dealingsBackUptoRow.holds Tryz.pinned (OpenSpec.upto dealingsBackSpec)

/-- 'balefirelaw15.DealingsShown', WHERE WHAT IT READS IS OF BULK AT MOST 1048576: true; the input reads as it did. -/
def dealingsShownUptoRow : OpenClaim := { program := "ytegjemedanccoaagreatdoor", sum := "db77fd630fc9542e9c5c8579d340a4efe1b1a91443db097f99202dd992359d04", func := "balefire/balefirelaw15.DealingsShown", spec := "dealingsShown", inPlace := ["math/bits.Sub64", "math/bits.Add64", "internal/reflectlite.ValueOf", "(internal/reflectlite.Value).Type", "(internal/reflectlite.Value).IsNil", "internal/reflectlite.TypeOf", "(internal/reflectlite.Value).Elem", "(internal/reflectlite.Value).Set"], unfollowed := true, recurses := true, named := ["math/bits.divideError", "math/bits.overflowError", "errors.errorType"], apart := false, laid := [("errors.errorType", laid_errors_errorType)], narrowed := true }
def DealingsShownUptoSaid : Prop := dealingsShownUptoRow.holds Tryz.pinned (OpenSpec.upto dealingsShownSpec)

end Rows
end Go.Proofs.YtegjemedanccoaaGreatDoor
