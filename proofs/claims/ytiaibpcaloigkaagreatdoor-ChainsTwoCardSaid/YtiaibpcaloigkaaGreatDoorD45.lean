/- Part 45 of the proof. -/
import Derived.Test.YtiaibpcaloigkaaGreatDoorD42
import Derived.Test.YtiaibpcaloigkaaGreatDoorD43
import Derived.Test.YtiaibpcaloigkaaGreatDoorD44
set_option linter.unusedSimpArgs false
set_option linter.unusedVariables false
namespace Go.Proofs.YtiaibpcaloigkaaGreatDoor
section
open Go Go.RowKit Go.BigFrame
namespace Sx
attribute [local irreducible] DQ WC WO WX wd
end Sx
end
section
open Go Go.RowKit Go.BigFrame
namespace Sx
def afA (ck:Od→Bool) (A:List Od) (x:Od):List Od:=if (A.any fun y=>x.n == y.n)=false∧ck x=true then A++[x] else A
def aa3 (ck:Od→Bool) (ls:List Od):List Od:=ls.foldl (afA ck) []
end Sx
end
end Go.Proofs.YtiaibpcaloigkaaGreatDoor
