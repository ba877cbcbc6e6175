/-
  NARROWER THAN 'FOR EVERY INPUT', by the rows' own cells (each row's printed sentence says how): OutputsAny: laid · ChainsGrow: laid · ChainsRefuse: laid · ChainsTwo: laid · ChainsCut: laid.
  DERIVED. THE GIVEN ROWS OF THIS SEAT. 5 by the template 'for every input the law returns true; each argument reads behind the call as it read before'; 0 by the template 'total and deterministic' (their statements: YtiaibpcaloigkaaGreatDoorTotals.lean).
  GIVEN WITH THE SEED: the statements are not yours to turn. If you find one false, say at which input.
  Laid BY PROGRAM, IN A SANDBOX (cutbox-rows.mjs): the forced cells as the released guide's own fill.sh prints them over the translation 566ecb5ae340d9ff… (all of the seat's roots in one cut). By AI agents, Wed Nov 11 2026. No macro, syntax, notation, axiom, sorry.
-/
import Derived.Test.YtiaibpcaloigkaaGreatDoorChecked
import GoSem.Claim
import GoSem.ClaimJoined
import GoSem.ClaimMapViews
import Derived.JoinedTies
import Derived.KernelRfl
namespace Go.Proofs.YtiaibpcaloigkaaGreatDoor
/- THE CELL 'sum', in the pinned program and in every row, IS THE sha256 OF THE DUMP (.gsa) THAT YtiaibpcaloigkaaGreatDoorProg.lean LOADS. Nothing in Lean hashes anything: it is a label: what it is worth is what the hold of that sum in a sandbox is worth. -/
noncomputable def Tryz.pinned : Pinned := { name := "ytiaibpcaloigkaagreatdoor", sum := "566ecb5ae340d9ff7c4c403cb6694cac9878ecf19c5f9bc89b0e54247faf8992", checked := Tryz.checked }
namespace Rows
def none {H : Type} : Left H := { results := [], args := [] }

/- WHAT THE LISTED PACKAGE-LEVEL VARIABLES READ AS WHEN THE CALL BEGINS. Each datum BY PROGRAM (the guide's laid-datum.mjs) off the statement by which the dump's own 'gosem.cut.vars' lays the variable. In a bare row this is a premise. The card (YtiaibpcaloigkaaGreatDoorCards.lean) ties it to the program's text. -/
def laid_errors_errorType {H : Type} : DataW H := .iface "internal/reflectlite.rtype" (.agg [.ptr (.lit (.string [101, 114, 114, 111, 114]))])

/-- 'balefirelaw25.OutputsAny': WHATEVER THE INPUT: true; the input reads as it did. -/
def outputsAnySpec : ChangeSpec := { name := "outputsAny", fn := fun _ => fun
  | [d1, d2, d3] => { results := [.lit (.bool true)], args := [d1, d2, d3] }
  | _ => none }
def outputsAnyRow : OpenClaim := { program := "ytiaibpcaloigkaagreatdoor", sum := "566ecb5ae340d9ff7c4c403cb6694cac9878ecf19c5f9bc89b0e54247faf8992", func := "balefire/balefirelaw25.OutputsAny", spec := "outputsAny", inPlace := ["math/bits.Sub64", "math/bits.Add64", "internal/reflectlite.ValueOf", "(internal/reflectlite.Value).Type", "(internal/reflectlite.Value).IsNil", "internal/reflectlite.TypeOf", "(internal/reflectlite.Value).Elem", "(internal/reflectlite.Value).Set"], unfollowed := true, recurses := true, named := ["math/bits.divideError", "math/bits.overflowError", "errors.errorType"], apart := false, laid := [("errors.errorType", laid_errors_errorType)] }
def OutputsAnySaid : Prop := outputsAnyRow.holds Tryz.pinned (OpenSpec.ofChange outputsAnySpec)

/-- ITS FALSE NEIGHBOUR: 'it returns false'. Refute it at one input. -/
def outputsAnyWrong : ChangeSpec := { name := "outputsAny", fn := fun _ => fun
  | [d1, d2, d3] => { results := [.lit (.bool false)], args := [d1, d2, d3] }
  | _ => none }
def OutputsAnyWrongFalsely : Prop := outputsAnyRow.holds Tryz.pinned (OpenSpec.ofChange outputsAnyWrong)

/-- 'balefirelaw26.ChainsGrow': WHATEVER THE INPUT: true; the input reads as it did. -/
def chainsGrowSpec : ChangeSpec := { name := "chainsGrow", fn := fun _ => fun
  | [d1, d2] => { results := [.lit (.bool true)], args := [d1, d2] }
  | _ => none }
def chainsGrowRow : OpenClaim := { program := "ytiaibpcaloigkaagreatdoor", sum := "566ecb5ae340d9ff7c4c403cb6694cac9878ecf19c5f9bc89b0e54247faf8992", func := "balefire/balefirelaw26.ChainsGrow", spec := "chainsGrow", inPlace := ["math/bits.Sub64", "math/bits.Add64", "internal/reflectlite.ValueOf", "(internal/reflectlite.Value).Type", "(internal/reflectlite.Value).IsNil", "internal/reflectlite.TypeOf", "(internal/reflectlite.Value).Elem", "(internal/reflectlite.Value).Set"], unfollowed := true, recurses := true, named := ["math/bits.divideError", "math/bits.overflowError", "errors.errorType"], apart := false, laid := [("errors.errorType", laid_errors_errorType)] }
def ChainsGrowSaid : Prop := chainsGrowRow.holds Tryz.pinned (OpenSpec.ofChange chainsGrowSpec)

/-- ITS FALSE NEIGHBOUR: 'it returns false'. Refute it at one input. -/
def chainsGrowWrong : ChangeSpec := { name := "chainsGrow", fn := fun _ => fun
  | [d1, d2] => { results := [.lit (.bool false)], args := [d1, d2] }
  | _ => none }
def ChainsGrowWrongFalsely : Prop := chainsGrowRow.holds Tryz.pinned (OpenSpec.ofChange chainsGrowWrong)

/-- 'balefirelaw26.ChainsRefuse': WHATEVER THE INPUT: true; the input reads as it did. -/
def chainsRefuseSpec : ChangeSpec := { name := "chainsRefuse", fn := fun _ => fun
  | [d] => { results := [.lit (.bool true)], args := [d] }
  | _ => none }
def chainsRefuseRow : OpenClaim := { program := "ytiaibpcaloigkaagreatdoor", sum := "566ecb5ae340d9ff7c4c403cb6694cac9878ecf19c5f9bc89b0e54247faf8992", func := "balefire/balefirelaw26.ChainsRefuse", spec := "chainsRefuse", inPlace := ["math/bits.Sub64", "math/bits.Add64", "internal/reflectlite.ValueOf", "(internal/reflectlite.Value).Type", "(internal/reflectlite.Value).IsNil", "internal/reflectlite.TypeOf", "(internal/reflectlite.Value).Elem", "(internal/reflectlite.Value).Set"], unfollowed := true, recurses := true, named := ["math/bits.divideError", "math/bits.overflowError", "errors.errorType"], apart := false, laid := [("errors.errorType", laid_errors_errorType)] }
def ChainsRefuseSaid : Prop := chainsRefuseRow.holds Tryz.pinned (OpenSpec.ofChange chainsRefuseSpec)

/-- ITS FALSE NEIGHBOUR: 'it returns false'. Refute it at one input. -/
def chainsRefuseWrong : ChangeSpec := { name := "chainsRefuse", fn := fun _ => fun
  | [d] => { results := [.lit (.bool false)], args := [d] }
  | _ => none }
def ChainsRefuseWrongFalsely : Prop := chainsRefuseRow.holds Tryz.pinned (OpenSpec.ofChange chainsRefuseWrong)

/-- 'balefirelaw26.ChainsTwo': WHATEVER THE INPUT: true; the input reads as it did. -/
def chainsTwoSpec : ChangeSpec := { name := "chainsTwo", fn := fun _ => fun
  | [d] => { results := [.lit (.bool true)], args := [d] }
  | _ => none }
def chainsTwoRow : OpenClaim := { program := "ytiaibpcaloigkaagreatdoor", sum := "566ecb5ae340d9ff7c4c403cb6694cac9878ecf19c5f9bc89b0e54247faf8992", func := "balefire/balefirelaw26.ChainsTwo", spec := "chainsTwo", inPlace := ["math/bits.Sub64", "math/bits.Add64", "internal/reflectlite.ValueOf", "(internal/reflectlite.Value).Type", "(internal/reflectlite.Value).IsNil", "internal/reflectlite.TypeOf", "(internal/reflectlite.Value).Elem", "(internal/reflectlite.Value).Set"], unfollowed := true, recurses := true, named := ["math/bits.divideError", "math/bits.overflowError", "errors.errorType"], apart := false, laid := [("errors.errorType", laid_errors_errorType)] }
def ChainsTwoSaid : Prop := chainsTwoRow.holds Tryz.pinned (OpenSpec.ofChange chainsTwoSpec)

/-- ITS FALSE NEIGHBOUR: 'it returns false'. Refute it at one input. -/
def chainsTwoWrong : ChangeSpec := { name := "chainsTwo", fn := fun _ => fun
  | [d] => { results := [.lit (.bool false)], args := [d] }
  | _ => none }
def ChainsTwoWrongFalsely : Prop := chainsTwoRow.holds Tryz.pinned (OpenSpec.ofChange chainsTwoWrong)

/-- 'balefirelaw26.ChainsCut': WHATEVER THE INPUT: true; the input reads as it did. -/
def chainsCutSpec : ChangeSpec := { name := "chainsCut", fn := fun _ => fun
  | [d1, d2, d3] => { results := [.lit (.bool true)], args := [d1, d2, d3] }
  | _ => none }
def chainsCutRow : OpenClaim := { program := "ytiaibpcaloigkaagreatdoor", sum := "566ecb5ae340d9ff7c4c403cb6694cac9878ecf19c5f9bc89b0e54247faf8992", func := "balefire/balefirelaw26.ChainsCut", spec := "chainsCut", inPlace := ["math/bits.Sub64", "math/bits.Add64", "internal/reflectlite.ValueOf", "(internal/reflectlite.Value).Type", "(internal/reflectlite.Value).IsNil", "internal/reflectlite.TypeOf", "(internal/reflectlite.Value).Elem", "(internal/reflectlite.Value).Set"], unfollowed := true, recurses := true, named := ["math/bits.divideError", "math/bits.overflowError", "errors.errorType"], apart := false, laid := [("errors.errorType", laid_errors_errorType)] }
def ChainsCutSaid : Prop := chainsCutRow.holds Tryz.pinned (OpenSpec.ofChange chainsCutSpec)

/-- ITS FALSE NEIGHBOUR: 'it returns false'. Refute it at one input. -/
def chainsCutWrong : ChangeSpec := { name := "chainsCut", fn := fun _ => fun
  | [d1, d2, d3] => { results := [.lit (.bool false)], args := [d1, d2, d3] }
  | _ => none }
def ChainsCutWrongFalsely : Prop := chainsCutRow.holds Tryz.pinned (OpenSpec.ofChange chainsCutWrong)

/- THE SECOND FORM. 'bulk': how many values and letters a reading holds, each counted each time it is reached (what is shared counts as often as it is met; a slice's spare places count too). A statement '..UptoSaid' is the law's where the arguments, and the package variables that the reading takes, are together of bulk at most 1048576: NARROWER than '..Said'. Prove '..Said' where nothing that the law and all that it calls make is longer than what came in: it says more and counts as full. Else prove '..UptoSaid'. A law counts once. -/
mutual
def uptoBulk {H : Type} : DataW H → Nat
  | .lit (.string bytes) => bytes.length + 1
  | .lit _ => 1
  | .nil => 1
  | .ptr d => uptoBulk d + 1
  | .slice elems spare => uptoBulkAll elems + uptoBulkAll spare + 1
  | .agg parts => uptoBulkAll parts + 1
  | .iface _ d => uptoBulk d + 1
  | .map entries => uptoBulkEntries entries + 1
  | .held _ => 1
def uptoBulkAll {H : Type} : List (DataW H) → Nat
  | [] => 0
  | d :: r => uptoBulk d + uptoBulkAll r
def uptoBulkEntries {H : Type} : List (Lit × DataW H) → Nat
  | [] => 0
  | x :: r => uptoBulkEntry x + uptoBulkEntries r
def uptoBulkEntry {H : Type} : Lit × DataW H → Nat
  | (.string bytes, d) => bytes.length + uptoBulk d + 1
  | (_, d) => uptoBulk d + 1
 end
def uptoSmall : (H : Type) → List (DataW H) → Bool := fun _ ds => decide (uptoBulkAll ds ≤ 1048576)
def OpenSpec.upto (s : _root_.Go.ChangeSpec) : _root_.Go.OpenSpec := { _root_.Go.OpenSpec.ofChange s with cond := some uptoSmall }

/-- 'balefirelaw25.OutputsAny', WHERE WHAT IT READS IS OF BULK AT MOST 1048576: true; the input reads as it did. -/
def outputsAnyUptoRow : OpenClaim := { program := "ytiaibpcaloigkaagreatdoor", sum := "566ecb5ae340d9ff7c4c403cb6694cac9878ecf19c5f9bc89b0e54247faf8992", func := "balefire/balefirelaw25.OutputsAny", spec := "outputsAny", inPlace := ["math/bits.Sub64", "math/bits.Add64", "internal/reflectlite.ValueOf", "(internal/reflectlite.Value).Type", "(internal/reflectlite.Value).IsNil", "internal/reflectlite.TypeOf", "(internal/reflectlite.Value).Elem", "(internal/reflectlite.Value).Set"], unfollowed := true, recurses := true, named := ["math/bits.divideError", "math/bits.overflowError", "errors.errorType"], apart := false, laid := [("errors.errorType", laid_errors_errorType)], narrowed := true }
def OutputsAnyUptoSaid : Prop := outputsAnyUptoRow.holds Tryz.pinned (OpenSpec.upto outputsAnySpec)

/-- 'balefirelaw26.ChainsGrow', WHERE WHAT IT READS IS OF BULK AT MOST 1048576: true; the input reads as it did. -/
def chainsGrowUptoRow : OpenClaim := { program := "ytiaibpcaloigkaagreatdoor", sum := "566ecb5ae340d9ff7c4c403cb6694cac9878ecf19c5f9bc89b0e54247faf8992", func := "balefire/balefirelaw26.ChainsGrow", spec := "chainsGrow", inPlace := ["math/bits.Sub64", "math/bits.Add64", "internal/reflectlite.ValueOf", "(internal/reflectlite.Value).Type", "(internal/reflectlite.Value).IsNil", "internal/reflectlite.TypeOf", "(internal/reflectlite.Value).Elem", "(internal/reflectlite.Value).Set"], unfollowed := true, recurses := true, named := ["math/bits.divideError", "math/bits.overflowError", "errors.errorType"], apart := false, laid := [("errors.errorType", laid_errors_errorType)], narrowed := true }
def ChainsGrowUptoSaid : Prop := chainsGrowUptoRow.holds Tryz.pinned (OpenSpec.upto chainsGrowSpec)

/-- 'balefirelaw26.ChainsRefuse', WHERE WHAT IT READS IS OF BULK AT MOST 1048576: true; the input reads as it did. -/
def chainsRefuseUptoRow : OpenClaim := { program := "ytiaibpcaloigkaagreatdoor", sum := "566ecb5ae340d9ff7c4c403cb6694cac9878ecf19c5f9bc89b0e54247faf8992", func := "balefire/balefirelaw26.ChainsRefuse", spec := "chainsRefuse", inPlace := ["math/bits.Sub64", "math/bits.Add64", "internal/reflectlite.ValueOf", "(internal/reflectlite.Value).Type", "(internal/reflectlite.Value).IsNil", "internal/reflectlite.TypeOf", "(internal/reflectlite.Value).Elem", "(internal/reflectlite.Value).Set"], unfollowed := true, recurses := true, named := ["math/bits.divideError", "math/bits.overflowError", "errors.errorType"], apart := false, laid := [("errors.errorType", laid_errors_errorType)], narrowed := true }
def ChainsRefuseUptoSaid : Prop := chainsRefuseUptoRow.holds Tryz.pinned (OpenSpec.upto chainsRefuseSpec)

/-- 'balefirelaw26.ChainsTwo', WHERE WHAT IT READS IS OF BULK AT MOST 1048576: true; the input reads as it did. -/
def chainsTwoUptoRow : OpenClaim := { program := "ytiaibpcaloigkaagreatdoor", sum := "566ecb5ae340d9ff7c4c403cb6694cac9878ecf19c5f9bc89b0e54247faf8992", func := "balefire/balefirelaw26.ChainsTwo", spec := "chainsTwo", inPlace := ["math/bits.Sub64", "math/bits.Add64", "internal/reflectlite.ValueOf", "(internal/reflectlite.Value).Type", "(internal/reflectlite.Value).IsNil", "internal/reflectlite.TypeOf", "(internal/reflectlite.Value).Elem", "(internal/reflectlite.Value).Set"], unfollowed := true, recurses := true, named := ["math/bits.divideError", "math/bits.overflowError", "errors.errorType"], apart := false, laid := [("errors.errorType", laid_errors_errorType)], narrowed := true }
def ChainsTwoUptoSaid : Prop := chainsTwoUptoRow.holds Tryz.pinned (OpenSpec.upto chainsTwoSpec)

/-- 'balefirelaw26.ChainsCut', WHERE WHAT IT READS IS OF BULK AT MOST 1048576: true; the input reads as it did. -/
def chainsCutUptoRow : OpenClaim := { program := "ytiaibpcaloigkaagreatdoor", sum := "566ecb5ae340d9ff7c4c403cb6694cac9878ecf19c5f9bc89b0e54247faf8992", func := "balefire/balefirelaw26.ChainsCut", spec := "chainsCut", inPlace := ["math/bits.Sub64", "math/bits.Add64", "internal/reflectlite.ValueOf", "(internal/reflectlite.Value).Type", "(internal/reflectlite.Value).IsNil", "internal/reflectlite.TypeOf", "(internal/reflectlite.Value).Elem", "(internal/reflectlite.Value).Set"], unfollowed := true, recurses := true, named := ["math/bits.divideError", "math/bits.overflowError", "errors.errorType"], apart := false, laid := [("errors.errorType", laid_errors_errorType)], narrowed := true }
def ChainsCutUptoSaid : Prop := chainsCutUptoRow.holds Tryz.pinned (OpenSpec.upto chainsCutSpec)

end Rows
end Go.Proofs.YtiaibpcaloigkaaGreatDoor
