/-
  No cell of these rows narrows 'for every input' (looked for: loops, veiled, ifaces, maps, wideKeys, modest, calm, conditions, laid).
  DERIVED. THE GIVEN ROWS OF THIS SEAT. 5 by the template 'for every input the law returns true; each argument reads behind the call as it read before'; 0 by the template 'total and deterministic' (their statements: YtbhblpnjhkddbaaGreatTotals.lean).
  GIVEN WITH THE SEED: the statements are not yours to turn. If you find one false, say at which input.
  Laid BY PROGRAM, IN A SANDBOX (cutbox-rows.mjs): the forced cells as the released guide's own fill.sh prints them over the translation bcc6800f600aa385… (all of the seat's roots in one cut). By AI agents, Wed Nov 11 2026. No macro, syntax, notation, axiom, sorry.
-/
import Derived.Test.YtbhblpnjhkddbaaGreatChecked
import GoSem.Claim
import GoSem.ClaimJoined
import GoSem.ClaimMapViews
import Derived.JoinedTies
import Derived.KernelRfl
namespace Go.Proofs.YtbhblpnjhkddbaaGreat
/- THE CELL 'sum', in the pinned program and in every row, IS THE sha256 OF THE DUMP (.gsa) THAT YtbhblpnjhkddbaaGreatProg.lean LOADS. Nothing in Lean hashes anything: it is a label: what it is worth is what the hold of that sum in a sandbox is worth. -/
noncomputable def Tryz.pinned : Pinned := { name := "ytbhblpnjhkddbaagreat", sum := "bcc6800f600aa38509d66c7eca3efcc279d01d643e5f1c6f0b6c7e0a689648e3", checked := Tryz.checked }
namespace Rows
def none {H : Type} : Left H := { results := [], args := [] }

/-- 'balefirelaw16.OpensBack': WHATEVER THE INPUT: true; the input reads as it did. -/
def opensBackSpec : ChangeSpec := { name := "opensBack", fn := fun _ => fun
  | [d1, d2, d3] => { results := [.lit (.bool true)], args := [d1, d2, d3] }
  | _ => none }
def opensBackRow : OpenClaim := { program := "ytbhblpnjhkddbaagreat", sum := "bcc6800f600aa38509d66c7eca3efcc279d01d643e5f1c6f0b6c7e0a689648e3", func := "balefire/balefirelaw16.OpensBack", spec := "opensBack", inPlace := ["math/bits.Sub64", "math/bits.Add64"], unfollowed := true, recurses := true, named := ["math/bits.divideError", "math/bits.overflowError"], apart := false }
def OpensBackSaid : Prop := opensBackRow.holds Tryz.pinned (OpenSpec.ofChange opensBackSpec)

/-- ITS FALSE NEIGHBOUR: 'it returns false'. Refute it at one input. -/
def opensBackWrong : ChangeSpec := { name := "opensBack", fn := fun _ => fun
  | [d1, d2, d3] => { results := [.lit (.bool false)], args := [d1, d2, d3] }
  | _ => none }
def OpensBackWrongFalsely : Prop := opensBackRow.holds Tryz.pinned (OpenSpec.ofChange opensBackWrong)

/-- 'balefirelaw16.OpensAny': WHATEVER THE INPUT: true; the input reads as it did. -/
def opensAnySpec : ChangeSpec := { name := "opensAny", fn := fun _ => fun
  | [d1, d2, d3] => { results := [.lit (.bool true)], args := [d1, d2, d3] }
  | _ => none }
def opensAnyRow : OpenClaim := { program := "ytbhblpnjhkddbaagreat", sum := "bcc6800f600aa38509d66c7eca3efcc279d01d643e5f1c6f0b6c7e0a689648e3", func := "balefire/balefirelaw16.OpensAny", spec := "opensAny", inPlace := ["math/bits.Sub64", "math/bits.Add64"], unfollowed := true, recurses := true, named := ["math/bits.divideError", "math/bits.overflowError"], apart := false }
def OpensAnySaid : Prop := opensAnyRow.holds Tryz.pinned (OpenSpec.ofChange opensAnySpec)

/-- ITS FALSE NEIGHBOUR: 'it returns false'. Refute it at one input. -/
def opensAnyWrong : ChangeSpec := { name := "opensAny", fn := fun _ => fun
  | [d1, d2, d3] => { results := [.lit (.bool false)], args := [d1, d2, d3] }
  | _ => none }
def OpensAnyWrongFalsely : Prop := opensAnyRow.holds Tryz.pinned (OpenSpec.ofChange opensAnyWrong)

/-- 'balefirelaw16.OpensElse': WHATEVER THE INPUT: true; the input reads as it did. -/
def opensElseSpec : ChangeSpec := { name := "opensElse", fn := fun _ => fun
  | [d1, d2, d3] => { results := [.lit (.bool true)], args := [d1, d2, d3] }
  | _ => none }
def opensElseRow : OpenClaim := { program := "ytbhblpnjhkddbaagreat", sum := "bcc6800f600aa38509d66c7eca3efcc279d01d643e5f1c6f0b6c7e0a689648e3", func := "balefire/balefirelaw16.OpensElse", spec := "opensElse", inPlace := ["math/bits.Sub64", "math/bits.Add64"], unfollowed := true, recurses := true, named := ["math/bits.divideError", "math/bits.overflowError"], apart := false }
def OpensElseSaid : Prop := opensElseRow.holds Tryz.pinned (OpenSpec.ofChange opensElseSpec)

/-- ITS FALSE NEIGHBOUR: 'it returns false'. Refute it at one input. -/
def opensElseWrong : ChangeSpec := { name := "opensElse", fn := fun _ => fun
  | [d1, d2, d3] => { results := [.lit (.bool false)], args := [d1, d2, d3] }
  | _ => none }
def OpensElseWrongFalsely : Prop := opensElseRow.holds Tryz.pinned (OpenSpec.ofChange opensElseWrong)

/-- 'balefirelaw16.OpensSums': WHATEVER THE INPUT: true; the input reads as it did. -/
def opensSumsSpec : ChangeSpec := { name := "opensSums", fn := fun _ => fun
  | [d1, d2, d3] => { results := [.lit (.bool true)], args := [d1, d2, d3] }
  | _ => none }
def opensSumsRow : OpenClaim := { program := "ytbhblpnjhkddbaagreat", sum := "bcc6800f600aa38509d66c7eca3efcc279d01d643e5f1c6f0b6c7e0a689648e3", func := "balefire/balefirelaw16.OpensSums", spec := "opensSums", inPlace := ["math/bits.Sub64", "math/bits.Add64"], unfollowed := true, recurses := true, named := ["math/bits.divideError", "math/bits.overflowError"], apart := false }
def OpensSumsSaid : Prop := opensSumsRow.holds Tryz.pinned (OpenSpec.ofChange opensSumsSpec)

/-- ITS FALSE NEIGHBOUR: 'it returns false'. Refute it at one input. -/
def opensSumsWrong : ChangeSpec := { name := "opensSums", fn := fun _ => fun
  | [d1, d2, d3] => { results := [.lit (.bool false)], args := [d1, d2, d3] }
  | _ => none }
def OpensSumsWrongFalsely : Prop := opensSumsRow.holds Tryz.pinned (OpenSpec.ofChange opensSumsWrong)

/-- 'balefirelaw16.OpensFirst': WHATEVER THE INPUT: true; the input reads as it did. -/
def opensFirstSpec : ChangeSpec := { name := "opensFirst", fn := fun _ => fun
  | [d1, d2, d3] => { results := [.lit (.bool true)], args := [d1, d2, d3] }
  | _ => none }
def opensFirstRow : OpenClaim := { program := "ytbhblpnjhkddbaagreat", sum := "bcc6800f600aa38509d66c7eca3efcc279d01d643e5f1c6f0b6c7e0a689648e3", func := "balefire/balefirelaw16.OpensFirst", spec := "opensFirst", inPlace := ["math/bits.Sub64", "math/bits.Add64"], unfollowed := true, recurses := true, named := ["math/bits.divideError", "math/bits.overflowError"], apart := false }
def OpensFirstSaid : Prop := opensFirstRow.holds Tryz.pinned (OpenSpec.ofChange opensFirstSpec)

/-- ITS FALSE NEIGHBOUR: 'it returns false'. Refute it at one input. -/
def opensFirstWrong : ChangeSpec := { name := "opensFirst", fn := fun _ => fun
  | [d1, d2, d3] => { results := [.lit (.bool false)], args := [d1, d2, d3] }
  | _ => none }
def OpensFirstWrongFalsely : Prop := opensFirstRow.holds Tryz.pinned (OpenSpec.ofChange opensFirstWrong)

/- THE SECOND FORM. 'bulk': how many values and letters a reading holds, each counted each time it is reached (what is shared counts as often as it is met; a slice's spare places count too). A statement '..UptoSaid' is the law's where the arguments, and the package variables that the reading takes, are together of bulk at most 1048576: NARROWER than '..Said'. Prove '..Said' where nothing that the law and all that it calls make is longer than what came in: it says more and counts as full. Else prove '..UptoSaid'. A law counts once. -/
mutual
def uptoBulk {H : Type} : DataW H → Nat
  | .lit (.string bytes) => bytes.length + 1
  | .lit _ => 1
  | .nil => 1
  | .ptr d => uptoBulk d + 1
  | .slice elems spare => uptoBulkAll elems + uptoBulkAll spare + 1
  | .agg parts => uptoBulkAll parts + 1
  | .iface _ d => uptoBulk d + 1
  | .map entries => uptoBulkEntries entries + 1
  | .held _ => 1
def uptoBulkAll {H : Type} : List (DataW H) → Nat
  | [] => 0
  | d :: r => uptoBulk d + uptoBulkAll r
def uptoBulkEntries {H : Type} : List (Lit × DataW H) → Nat
  | [] => 0
  | x :: r => uptoBulkEntry x + uptoBulkEntries r
def uptoBulkEntry {H : Type} : Lit × DataW H → Nat
  | (.string bytes, d) => bytes.length + uptoBulk d + 1
  | (_, d) => uptoBulk d + 1
 end
def uptoSmall : (H : Type) → List (DataW H) → Bool := fun _ ds => decide (uptoBulkAll ds ≤ 1048576)
def OpenSpec.upto (s : _root_.Go.ChangeSpec) : _root_.Go.OpenSpec := { _root_.Go.OpenSpec.ofChange s with cond := some uptoSmall }

/-- 'balefirelaw16.OpensBack', WHERE WHAT IT READS IS OF BULK AT MOST 1048576: true; the input reads as it did. -/
def opensBackUptoRow : OpenClaim := { program := "ytbhblpnjhkddbaagreat", sum := "bcc6800f600aa38509d66c7eca3efcc279d01d643e5f1c6f0b6c7e0a689648e3", func := "balefire/balefirelaw16.OpensBack", spec := "opensBack", inPlace := ["math/bits.Sub64", "math/bits.Add64"], unfollowed := true, recurses := true, named := ["math/bits.divideError", "math/bits.overflowError"], apart := false, narrowed := true }
def OpensBackUptoSaid : Prop := opensBackUptoRow.holds Tryz.pinned (OpenSpec.upto opensBackSpec)

/-- 'balefirelaw16.OpensAny', WHERE WHAT IT READS IS OF BULK AT MOST 1048576: true; the input reads as it did. -/
def opensAnyUptoRow : OpenClaim := { program := "ytbhblpnjhkddbaagreat", sum := "bcc6800f600aa38509d66c7eca3efcc279d01d643e5f1c6f0b6c7e0a689648e3", func := "balefire/balefirelaw16.OpensAny", spec := "opensAny", inPlace := ["math/bits.Sub64", "math/bits.Add64"], unfollowed := true, recurses := true, named := ["math/bits.divideError", "math/bits.overflowError"], apart := false, narrowed := true }
def OpensAnyUptoSaid : Prop := opensAnyUptoRow.holds Tryz.pinned (OpenSpec.upto opensAnySpec)

/-- 'balefirelaw16.OpensElse', WHERE WHAT IT READS IS OF BULK AT MOST 1048576: true; the input reads as it did. -/
def opensElseUptoRow : OpenClaim := { program := "ytbhblpnjhkddbaagreat", sum := "bcc6800f600aa38509d66c7eca3efcc279d01d643e5f1c6f0b6c7e0a689648e3", func := "balefire/balefirelaw16.OpensElse", spec := "opensElse", inPlace := ["math/bits.Sub64", "math/bits.Add64"], unfollowed := true, recurses := true, named := ["math/bits.divideError", "math/bits.overflowError"], apart := false, narrowed := true }
def OpensElseUptoSaid : Prop := opensElseUptoRow.holds Tryz.pinned (OpenSpec.upto opensElseSpec)

/-- 'balefirelaw16.OpensSums', WHERE WHAT IT READS IS OF BULK AT MOST 1048576: true; the input reads as it did. -/
def opensSumsUptoRow : OpenClaim := { program := "ytbhblpnjhkddbaagreat", sum := "bcc6800f600aa38509d66c7eca3efcc279d01d643e5f1c6f0b6c7e0a689648e3", func := "balefire/balefirelaw16.OpensSums", spec := "opensSums", inPlace := ["math/bits.Sub64", "math/bits.Add64"], unfollowed := true, recurses := true, named := ["math/bits.divideError", "math/bits.overflowError"], apart := false, narrowed := true }
def OpensSumsUptoSaid : Prop := opensSumsUptoRow.holds Tryz.pinned (OpenSpec.upto opensSumsSpec)

/-- 'balefirelaw16.OpensFirst', WHERE WHAT IT READS IS OF BULK AT MOST 1048576: true; the input reads as it did. -/
def opensFirstUptoRow : OpenClaim := { program := "ytbhblpnjhkddbaagreat", sum := "bcc6800f600aa38509d66c7eca3efcc279d01d643e5f1c6f0b6c7e0a689648e3", func := "balefire/balefirelaw16.OpensFirst", spec := "opensFirst", inPlace := ["math/bits.Sub64", "math/bits.Add64"], unfollowed := true, recurses := true, named := ["math/bits.divideError", "math/bits.overflowError"], apart := false, narrowed := true }
def OpensFirstUptoSaid : Prop := opensFirstUptoRow.holds Tryz.pinned (OpenSpec.upto opensFirstSpec)

end Rows
end Go.Proofs.YtbhblpnjhkddbaaGreat
