/- Part 27 of the proof. -/
import Derived.Test.YtegjemedanccoaaGreatDoorM24
import Derived.Test.YtegjemedanccoaaGreatDoorM26
set_option linter.unusedSimpArgs false
set_option linter.unusedVariables false
namespace Go.Proofs.YtegjemedanccoaaGreatDoor
section
open Go Go.RowKit Go.BigFrame
namespace Sx
attribute [local irreducible] DQ DQS WC WO WX wd
end Sx
end
end Go.Proofs.YtegjemedanccoaaGreatDoor
