/- Part 23 of the proof. -/
import Derived.Test.YtiaibpcaloigkaaGreatDoorD17
import Derived.Test.YtiaibpcaloigkaaGreatDoorD22
set_option linter.unusedSimpArgs false
set_option linter.unusedVariables false
namespace Go.Proofs.YtiaibpcaloigkaaGreatDoor
section
open Go Go.RowKit
namespace Sx
attribute [local irreducible] DQ WC WO WX wd
theorem getD_set_ne {l:LN} {i j v:Nat} (h:i≠j):(l.set i v).getD j 0=l.getD j 0:=by simp[List.getD,List.getElem?_set_ne h]
theorem iK {a:Nat} (ha:a<ze):a<18446744073709551616↔wd 1 a=0∧wd 2 a=0∧wd 3 a=0:=by
 unfold ze at ha;simp only[wd];omega
end Sx
end
section
open Go Go.RowKit
namespace Sx
attribute [local irreducible] DQ WC WO WX
theorem re (a i:Nat):vK a i≤1:=by unfold vK;omega
end Sx
end
end Go.Proofs.YtiaibpcaloigkaaGreatDoor
