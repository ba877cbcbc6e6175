/- Part 38 of the proof. -/
import Derived.Test.YtiaibpcaloigkaaGreatDoorG35
import Derived.Test.YtiaibpcaloigkaaGreatDoorG37
set_option linter.unusedSimpArgs false
set_option linter.unusedVariables false
namespace Go.Proofs.YtiaibpcaloigkaaGreatDoor
section
open Go Go.RowKit Go.BigFrame
namespace Sx
attribute [local irreducible] DQ WC WO WX wd
def agU:ByteArray:=⟨#[111,112,101,110]⟩
def shK (N:LP) (n:Nat):Nat:=(N.getD (n - 1) (0,0)).2
def ahS (p q g h:Nat) (f sec:Int) (N:LP) (ep d:Nat) (Y:LN) (oe od n z c s:Nat):Bool :=
 y5 p q g h f sec N && decide (oe=ep) && decide (od=d) && qD n N && decide (Y.length=N.length) && ckB p q (zN agU) h (shK N n) z (Y.getD (n - 1) 0) c s
end Sx
end
end Go.Proofs.YtiaibpcaloigkaaGreatDoor
