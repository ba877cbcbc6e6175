/- Part 29 of the proof. -/
import Derived.Test.YtiiefkchpicncaaGreatDoorB28
import Derived.Test.YtiiefkchpicncaaGreatDoorB04
set_option linter.unusedSimpArgs false
set_option linter.unusedVariables false
namespace Go.Proofs.YtiiefkchpicncaaGreatDoor
section
open Go Go.RowKit Go.BigFrame
namespace Sx
open Kp
end Sx
end
end Go.Proofs.YtiiefkchpicncaaGreatDoor
