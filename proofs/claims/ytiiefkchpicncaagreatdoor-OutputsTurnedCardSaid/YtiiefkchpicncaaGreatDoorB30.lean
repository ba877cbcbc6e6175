/- Part 30 of the proof. -/
import Derived.Test.YtiiefkchpicncaaGreatDoorB15
import Derived.Test.YtiiefkchpicncaaGreatDoorB29
set_option linter.unusedSimpArgs false
set_option linter.unusedVariables false
namespace Go.Proofs.YtiiefkchpicncaaGreatDoor
section
open Go Go.RowKit
namespace Sx
attribute [local irreducible] DQ DQS WC WO WX
end Sx
end
section
open Go Go.RowKit
namespace Sx
attribute [local irreducible] DQ WC WO WX
end Sx
end
end Go.Proofs.YtiiefkchpicncaaGreatDoor
