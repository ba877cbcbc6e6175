/- Part 35 of the proof. -/
import Derived.Test.YtiaibpcaloigkaaGreatDoorG27
import Derived.Test.YtiaibpcaloigkaaGreatDoorG29
set_option linter.unusedSimpArgs false
set_option linter.unusedVariables false
namespace Go.Proofs.YtiaibpcaloigkaaGreatDoor
section
open Go Go.RowKit Go.BigFrame
namespace Sx
attribute [local irreducible] DQ WC WO WX wd
end Sx
end
end Go.Proofs.YtiaibpcaloigkaaGreatDoor
