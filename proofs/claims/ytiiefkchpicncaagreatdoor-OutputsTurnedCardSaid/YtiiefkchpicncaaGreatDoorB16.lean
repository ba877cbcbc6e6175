/- Part 16 of the proof. -/
import Derived.Test.YtiiefkchpicncaaGreatDoorB14
import Derived.Test.YtiiefkchpicncaaGreatDoorB15
set_option linter.unusedSimpArgs false
set_option linter.unusedVariables false
namespace Go.Proofs.YtiiefkchpicncaaGreatDoor
section
open Go Go.RowKit Go.BigFrame
namespace Sx
attribute [local irreducible] DQ WC WO WX wd
end Sx
end
end Go.Proofs.YtiiefkchpicncaaGreatDoor
