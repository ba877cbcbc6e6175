/- Part 24 of the proof. -/
import Derived.Test.YtegjemedanccoaaGreatDoorM18
import Derived.Test.YtegjemedanccoaaGreatDoorM20
import Derived.Test.YtegjemedanccoaaGreatDoorM23
set_option linter.unusedSimpArgs false
set_option linter.unusedVariables false
namespace Go.Proofs.YtegjemedanccoaaGreatDoor
section
open Go Go.RowKit Go.BigFrame
namespace Sx
attribute [local irreducible] DQ DQS WC WO WX wd
end Sx
end
end Go.Proofs.YtegjemedanccoaaGreatDoor
