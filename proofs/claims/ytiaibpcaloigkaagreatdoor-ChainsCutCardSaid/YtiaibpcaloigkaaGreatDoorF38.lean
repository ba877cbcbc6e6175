/- Part 38 of the proof. -/
import Derived.Test.YtiaibpcaloigkaaGreatDoorF37
import Derived.Test.YtiaibpcaloigkaaGreatDoorF33
set_option linter.unusedSimpArgs false
set_option linter.unusedVariables false
namespace Go.Proofs.YtiaibpcaloigkaaGreatDoor
section
open Go Go.RowKit Go.BigFrame
namespace Sx
attribute [local irreducible] DQ WC WO WX wd
section
variable (p q g h:Nat)
end
end Sx
end
end Go.Proofs.YtiaibpcaloigkaaGreatDoor
