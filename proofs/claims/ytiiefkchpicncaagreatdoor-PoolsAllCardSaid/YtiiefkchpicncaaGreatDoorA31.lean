/- Part 31 of the proof. -/
import Derived.Test.YtiiefkchpicncaaGreatDoorA26
import Derived.Test.YtiiefkchpicncaaGreatDoorA30
set_option linter.unusedSimpArgs false
set_option linter.unusedVariables false
namespace Go.Proofs.YtiiefkchpicncaaGreatDoor
section
open Go Go.RowKit
namespace Sx
attribute [local irreducible] DQ DQS WC WO WX
end Sx
end
section
open Go Go.RowKit
namespace Sx
attribute [local irreducible] DQ WC WO WX
end Sx
end
end Go.Proofs.YtiiefkchpicncaaGreatDoor
