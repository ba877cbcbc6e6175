/- Part 41 of the proof. -/
import Derived.Test.YtiaibpcaloigkaaGreatDoorD38
import Derived.Test.YtiaibpcaloigkaaGreatDoorD40
set_option linter.unusedSimpArgs false
set_option linter.unusedVariables false
namespace Go.Proofs.YtiaibpcaloigkaaGreatDoor
section
open Go Go.RowKit Go.BigFrame
namespace Sx
attribute [local irreducible] DQ WC WO WX wd
def afK:ByteArray:=⟨#[111,112,101,110]⟩
def shK (N:LP) (n:Nat):Nat:=(N.getD (n - 1) (0,0)).2
def agf (p q g h:Nat) (f sec:Int) (N:LP) (ep d:Nat) (Y:LN) (oe od n z c s:Nat):Bool :=
 yX p q g h f sec N && decide (oe=ep) && decide (od=d) && rS n N && decide (Y.length=N.length) && ckB p q (zN afK) h (shK N n) z (Y.getD (n - 1) 0) c s
end Sx
end
end Go.Proofs.YtiaibpcaloigkaaGreatDoor
