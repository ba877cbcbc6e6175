/- Part 37 of the proof. -/
import Derived.Test.YtiaibpcaloigkaaGreatDoorG36
import Derived.Test.YtiaibpcaloigkaaGreatDoorG32
set_option linter.unusedSimpArgs false
set_option linter.unusedVariables false
namespace Go.Proofs.YtiaibpcaloigkaaGreatDoor
section
open Go Go.RowKit Go.BigFrame
namespace Sx
attribute [local irreducible] DQ WC WO WX wd
section
variable (p q g h:Nat)
end
end Sx
end
end Go.Proofs.YtiaibpcaloigkaaGreatDoor
