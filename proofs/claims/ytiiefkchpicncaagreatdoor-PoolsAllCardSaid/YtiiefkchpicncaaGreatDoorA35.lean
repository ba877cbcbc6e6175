/- Part 35 of the proof. -/
import Derived.Test.YtiiefkchpicncaaGreatDoorA33
import Derived.Test.YtiiefkchpicncaaGreatDoorA34
set_option linter.unusedSimpArgs false
set_option linter.unusedVariables false
namespace Go.Proofs.YtiiefkchpicncaaGreatDoor
section
open Go Go.RowKit Go.BigFrame
namespace Sx
attribute [local irreducible] DQ WC WO WX wd
end Sx
end
end Go.Proofs.YtiiefkchpicncaaGreatDoor
