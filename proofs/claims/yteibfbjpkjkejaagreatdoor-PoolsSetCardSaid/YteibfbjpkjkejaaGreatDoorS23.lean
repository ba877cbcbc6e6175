/- Part 23 of the proof. -/
import Derived.Test.YteibfbjpkjkejaaGreatDoorS18
import Derived.Test.YteibfbjpkjkejaaGreatDoorS22
set_option linter.unusedSimpArgs false
set_option linter.unusedVariables false
namespace Go.Proofs.YteibfbjpkjkejaaGreatDoor
section
open Go Go.RowKit Go.BigFrame
namespace Sx
attribute [local irreducible] DQ DQS WC WO WX wd
end Sx
end
end Go.Proofs.YteibfbjpkjkejaaGreatDoor
