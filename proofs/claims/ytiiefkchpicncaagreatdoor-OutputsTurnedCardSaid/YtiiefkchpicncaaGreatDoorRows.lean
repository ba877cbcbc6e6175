/-
  NARROWER THAN 'FOR EVERY INPUT', by the rows' own cells (each row's printed sentence says how): PoolsAll: laid · OutputsAny: laid · OutputsFew: laid · OutputsTurned: laid.
  DERIVED. THE GIVEN ROWS OF THIS SEAT. 4 by the template 'for every input the law returns true; each argument reads behind the call as it read before'; 0 by the template 'total and deterministic' (their statements: YtiiefkchpicncaaGreatDoorTotals.lean).
  GIVEN WITH THE SEED: the statements are not yours to turn. If you find one false, say at which input.
  Laid BY PROGRAM, IN A SANDBOX (cutbox-rows.mjs): the forced cells as the released guide's own fill.sh prints them over the translation 794173cdb05c89b9… (all of the seat's roots in one cut). By AI agents, Wed Nov 11 2026. No macro, syntax, notation, axiom, sorry.
-/
import Derived.Test.YtiiefkchpicncaaGreatDoorChecked
import GoSem.Claim
import GoSem.ClaimJoined
import GoSem.ClaimMapViews
import Derived.JoinedTies
import Derived.KernelRfl
namespace Go.Proofs.YtiiefkchpicncaaGreatDoor
/- THE CELL 'sum', in the pinned program and in every row, IS THE sha256 OF THE DUMP (.gsa) THAT YtiiefkchpicncaaGreatDoorProg.lean LOADS. Nothing in Lean hashes anything: it is a label: what it is worth is what the hold of that sum in a sandbox is worth. -/
noncomputable def Tryz.pinned : Pinned := { name := "ytiiefkchpicncaagreatdoor", sum := "794173cdb05c89b9ece1e3b1d87eceb18e278e4816d29a28cad41a80d82f2dde", checked := Tryz.checked }
namespace Rows
def none {H : Type} : Left H := { results := [], args := [] }

/- WHAT THE LISTED PACKAGE-LEVEL VARIABLES READ AS WHEN THE CALL BEGINS. Each datum BY PROGRAM (the guide's laid-datum.mjs) off the statement by which the dump's own 'gosem.cut.vars' lays the variable. In a bare row this is a premise. The card (YtiiefkchpicncaaGreatDoorCards.lean) ties it to the program's text. -/
def laid_errors_errorType {H : Type} : DataW H := .iface "internal/reflectlite.rtype" (.agg [.ptr (.lit (.string [101, 114, 114, 111, 114]))])

/-- 'balefirelaw23.PoolsAll': WHATEVER THE INPUT: true; the input reads as it did. -/
def poolsAllSpec : ChangeSpec := { name := "poolsAll", fn := fun _ => fun
  | [d1, d2, d3] => { results := [.lit (.bool true)], args := [d1, d2, d3] }
  | _ => none }
def poolsAllRow : OpenClaim := { program := "ytiiefkchpicncaagreatdoor", sum := "794173cdb05c89b9ece1e3b1d87eceb18e278e4816d29a28cad41a80d82f2dde", func := "balefire/balefirelaw23.PoolsAll", spec := "poolsAll", inPlace := ["math/bits.Sub64", "math/bits.Add64", "internal/reflectlite.ValueOf", "(internal/reflectlite.Value).Type", "(internal/reflectlite.Value).IsNil", "internal/reflectlite.TypeOf", "(internal/reflectlite.Value).Elem", "(internal/reflectlite.Value).Set"], unfollowed := true, recurses := true, named := ["math/bits.divideError", "math/bits.overflowError", "errors.errorType"], plainKeys := false, apart := false, laid := [("errors.errorType", laid_errors_errorType)] }
def PoolsAllSaid : Prop := poolsAllRow.holds Tryz.pinned (OpenSpec.ofChange poolsAllSpec)

/-- ITS FALSE NEIGHBOUR: 'it returns false'. Refute it at one input. -/
def poolsAllWrong : ChangeSpec := { name := "poolsAll", fn := fun _ => fun
  | [d1, d2, d3] => { results := [.lit (.bool false)], args := [d1, d2, d3] }
  | _ => none }
def PoolsAllWrongFalsely : Prop := poolsAllRow.holds Tryz.pinned (OpenSpec.ofChange poolsAllWrong)

/-- 'balefirelaw25.OutputsAny': WHATEVER THE INPUT: true; the input reads as it did. -/
def outputsAnySpec : ChangeSpec := { name := "outputsAny", fn := fun _ => fun
  | [d1, d2, d3] => { results := [.lit (.bool true)], args := [d1, d2, d3] }
  | _ => none }
def outputsAnyRow : OpenClaim := { program := "ytiiefkchpicncaagreatdoor", sum := "794173cdb05c89b9ece1e3b1d87eceb18e278e4816d29a28cad41a80d82f2dde", func := "balefire/balefirelaw25.OutputsAny", spec := "outputsAny", inPlace := ["math/bits.Sub64", "math/bits.Add64", "internal/reflectlite.ValueOf", "(internal/reflectlite.Value).Type", "(internal/reflectlite.Value).IsNil", "internal/reflectlite.TypeOf", "(internal/reflectlite.Value).Elem", "(internal/reflectlite.Value).Set"], unfollowed := true, recurses := true, named := ["math/bits.divideError", "math/bits.overflowError", "errors.errorType"], plainKeys := false, apart := false, laid := [("errors.errorType", laid_errors_errorType)] }
def OutputsAnySaid : Prop := outputsAnyRow.holds Tryz.pinned (OpenSpec.ofChange outputsAnySpec)

/-- ITS FALSE NEIGHBOUR: 'it returns false'. Refute it at one input. -/
def outputsAnyWrong : ChangeSpec := { name := "outputsAny", fn := fun _ => fun
  | [d1, d2, d3] => { results := [.lit (.bool false)], args := [d1, d2, d3] }
  | _ => none }
def OutputsAnyWrongFalsely : Prop := outputsAnyRow.holds Tryz.pinned (OpenSpec.ofChange outputsAnyWrong)

/-- 'balefirelaw25.OutputsFew': WHATEVER THE INPUT: true; the input reads as it did. -/
def outputsFewSpec : ChangeSpec := { name := "outputsFew", fn := fun _ => fun
  | [d1, d2, d3] => { results := [.lit (.bool true)], args := [d1, d2, d3] }
  | _ => none }
def outputsFewRow : OpenClaim := { program := "ytiiefkchpicncaagreatdoor", sum := "794173cdb05c89b9ece1e3b1d87eceb18e278e4816d29a28cad41a80d82f2dde", func := "balefire/balefirelaw25.OutputsFew", spec := "outputsFew", inPlace := ["math/bits.Sub64", "math/bits.Add64", "internal/reflectlite.ValueOf", "(internal/reflectlite.Value).Type", "(internal/reflectlite.Value).IsNil", "internal/reflectlite.TypeOf", "(internal/reflectlite.Value).Elem", "(internal/reflectlite.Value).Set"], unfollowed := true, recurses := true, named := ["math/bits.divideError", "math/bits.overflowError", "errors.errorType"], plainKeys := false, apart := false, laid := [("errors.errorType", laid_errors_errorType)] }
def OutputsFewSaid : Prop := outputsFewRow.holds Tryz.pinned (OpenSpec.ofChange outputsFewSpec)

/-- ITS FALSE NEIGHBOUR: 'it returns false'. Refute it at one input. -/
def outputsFewWrong : ChangeSpec := { name := "outputsFew", fn := fun _ => fun
  | [d1, d2, d3] => { results := [.lit (.bool false)], args := [d1, d2, d3] }
  | _ => none }
def OutputsFewWrongFalsely : Prop := outputsFewRow.holds Tryz.pinned (OpenSpec.ofChange outputsFewWrong)

/-- 'balefirelaw25.OutputsTurned': WHATEVER THE INPUT: true; the input reads as it did. -/
def outputsTurnedSpec : ChangeSpec := { name := "outputsTurned", fn := fun _ => fun
  | [d1, d2, d3] => { results := [.lit (.bool true)], args := [d1, d2, d3] }
  | _ => none }
def outputsTurnedRow : OpenClaim := { program := "ytiiefkchpicncaagreatdoor", sum := "794173cdb05c89b9ece1e3b1d87eceb18e278e4816d29a28cad41a80d82f2dde", func := "balefire/balefirelaw25.OutputsTurned", spec := "outputsTurned", inPlace := ["math/bits.Sub64", "math/bits.Add64", "internal/reflectlite.ValueOf", "(internal/reflectlite.Value).Type", "(internal/reflectlite.Value).IsNil", "internal/reflectlite.TypeOf", "(internal/reflectlite.Value).Elem", "(internal/reflectlite.Value).Set"], unfollowed := true, recurses := true, named := ["math/bits.divideError", "math/bits.overflowError", "errors.errorType"], plainKeys := false, apart := false, laid := [("errors.errorType", laid_errors_errorType)] }
def OutputsTurnedSaid : Prop := outputsTurnedRow.holds Tryz.pinned (OpenSpec.ofChange outputsTurnedSpec)

/-- ITS FALSE NEIGHBOUR: 'it returns false'. Refute it at one input. -/
def outputsTurnedWrong : ChangeSpec := { name := "outputsTurned", fn := fun _ => fun
  | [d1, d2, d3] => { results := [.lit (.bool false)], args := [d1, d2, d3] }
  | _ => none }
def OutputsTurnedWrongFalsely : Prop := outputsTurnedRow.holds Tryz.pinned (OpenSpec.ofChange outputsTurnedWrong)

/- THE SECOND FORM. 'bulk': how many values and letters a reading holds, each counted each time it is reached (what is shared counts as often as it is met; a slice's spare places count too). A statement '..UptoSaid' is the law's where the arguments, and the package variables that the reading takes, are together of bulk at most 1048576: NARROWER than '..Said'. Prove '..Said' where nothing that the law and all that it calls make is longer than what came in: it says more and counts as full. Else prove '..UptoSaid'. A law counts once. -/
mutual
def uptoBulk {H : Type} : DataW H → Nat
  | .lit (.string bytes) => bytes.length + 1
  | .lit _ => 1
  | .nil => 1
  | .ptr d => uptoBulk d + 1
  | .slice elems spare => uptoBulkAll elems + uptoBulkAll spare + 1
  | .agg parts => uptoBulkAll parts + 1
  | .iface _ d => uptoBulk d + 1
  | .map entries => uptoBulkEntries entries + 1
  | .held _ => 1
def uptoBulkAll {H : Type} : List (DataW H) → Nat
  | [] => 0
  | d :: r => uptoBulk d + uptoBulkAll r
def uptoBulkEntries {H : Type} : List (Lit × DataW H) → Nat
  | [] => 0
  | x :: r => uptoBulkEntry x + uptoBulkEntries r
def uptoBulkEntry {H : Type} : Lit × DataW H → Nat
  | (.string bytes, d) => bytes.length + uptoBulk d + 1
  | (_, d) => uptoBulk d + 1
 end
def uptoSmall : (H : Type) → List (DataW H) → Bool := fun _ ds => decide (uptoBulkAll ds ≤ 1048576)
def OpenSpec.upto (s : _root_.Go.ChangeSpec) : _root_.Go.OpenSpec := { _root_.Go.OpenSpec.ofChange s with cond := some uptoSmall }

/-- 'balefirelaw23.PoolsAll', WHERE WHAT IT READS IS OF BULK AT MOST 1048576: true; the input reads as it did. -/
def poolsAllUptoRow : OpenClaim := { program := "ytiiefkchpicncaagreatdoor", sum := "794173cdb05c89b9ece1e3b1d87eceb18e278e4816d29a28cad41a80d82f2dde", func := "balefire/balefirelaw23.PoolsAll", spec := "poolsAll", inPlace := ["math/bits.Sub64", "math/bits.Add64", "internal/reflectlite.ValueOf", "(internal/reflectlite.Value).Type", "(internal/reflectlite.Value).IsNil", "internal/reflectlite.TypeOf", "(internal/reflectlite.Value).Elem", "(internal/reflectlite.Value).Set"], unfollowed := true, recurses := true, named := ["math/bits.divideError", "math/bits.overflowError", "errors.errorType"], plainKeys := false, apart := false, laid := [("errors.errorType", laid_errors_errorType)], narrowed := true }
def PoolsAllUptoSaid : Prop := poolsAllUptoRow.holds Tryz.pinned (OpenSpec.upto poolsAllSpec)

/-- 'balefirelaw25.OutputsAny', WHERE WHAT IT READS IS OF BULK AT MOST 1048576: true; the input reads as it did. -/
def outputsAnyUptoRow : OpenClaim := { program := "ytiiefkchpicncaagreatdoor", sum := "794173cdb05c89b9ece1e3b1d87eceb18e278e4816d29a28cad41a80d82f2dde", func := "balefire/balefirelaw25.OutputsAny", spec := "outputsAny", inPlace := ["math/bits.Sub64", "math/bits.Add64", "internal/reflectlite.ValueOf", "(internal/reflectlite.Value).Type", "(internal/reflectlite.Value).IsNil", "internal/reflectlite.TypeOf", "(internal/reflectlite.Value).Elem", "(internal/reflectlite.Value).Set"], unfollowed := true, recurses := true, named := ["math/bits.divideError", "math/bits.overflowError", "errors.errorType"], plainKeys := false, apart := false, laid := [("errors.errorType", laid_errors_errorType)], narrowed := true }
def OutputsAnyUptoSaid : Prop := outputsAnyUptoRow.holds Tryz.pinned (OpenSpec.upto outputsAnySpec)

/-- 'balefirelaw25.OutputsFew', WHERE WHAT IT READS IS OF BULK AT MOST 1048576: true; the input reads as it did. -/
def outputsFewUptoRow : OpenClaim := { program := "ytiiefkchpicncaagreatdoor", sum := "794173cdb05c89b9ece1e3b1d87eceb18e278e4816d29a28cad41a80d82f2dde", func := "balefire/balefirelaw25.OutputsFew", spec := "outputsFew", inPlace := ["math/bits.Sub64", "math/bits.Add64", "internal/reflectlite.ValueOf", "(internal/reflectlite.Value).Type", "(internal/reflectlite.Value).IsNil", "internal/reflectlite.TypeOf", "(internal/reflectlite.Value).Elem", "(internal/reflectlite.Value).Set"], unfollowed := true, recurses := true, named := ["math/bits.divideError", "math/bits.overflowError", "errors.errorType"], plainKeys := false, apart := false, laid := [("errors.errorType", laid_errors_errorType)], narrowed := true }
def OutputsFewUptoSaid : Prop := outputsFewUptoRow.holds Tryz.pinned (OpenSpec.upto outputsFewSpec)

/-- 'balefirelaw25.OutputsTurned', WHERE WHAT IT READS IS OF BULK AT MOST 1048576: true; the input reads as it did. -/
def outputsTurnedUptoRow : OpenClaim := { program := "ytiiefkchpicncaagreatdoor", sum := "794173cdb05c89b9ece1e3b1d87eceb18e278e4816d29a28cad41a80d82f2dde", func := "balefire/balefirelaw25.OutputsTurned", spec := "outputsTurned", inPlace := ["math/bits.Sub64", "math/bits.Add64", "internal/reflectlite.ValueOf", "(internal/reflectlite.Value).Type", "(internal/reflectlite.Value).IsNil", "internal/reflectlite.TypeOf", "(internal/reflectlite.Value).Elem", "(internal/reflectlite.Value).Set"], unfollowed := true, recurses := true, named := ["math/bits.divideError", "math/bits.overflowError", "errors.errorType"], plainKeys := false, apart := false, laid := [("errors.errorType", laid_errors_errorType)], narrowed := true }
def OutputsTurnedUptoSaid : Prop := outputsTurnedUptoRow.holds Tryz.pinned (OpenSpec.upto outputsTurnedSpec)

end Rows
end Go.Proofs.YtiiefkchpicncaaGreatDoor
