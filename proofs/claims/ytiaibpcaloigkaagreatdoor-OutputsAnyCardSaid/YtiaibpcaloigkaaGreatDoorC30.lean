/- Part 30 of the proof. -/
import Derived.Test.YtiaibpcaloigkaaGreatDoorC29
import Derived.Test.YtiaibpcaloigkaaGreatDoorC05
set_option linter.unusedSimpArgs false
set_option linter.unusedVariables false
namespace Go.Proofs.YtiaibpcaloigkaaGreatDoor
section
open Go Go.RowKit Go.BigFrame
namespace Sx
open Kp
end Sx
end
end Go.Proofs.YtiaibpcaloigkaaGreatDoor
