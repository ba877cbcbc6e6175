/- Part 36 of the proof. -/
import Derived.Test.YteibfbjpkjkejaaGreatDoorS31
import Derived.Test.YteibfbjpkjkejaaGreatDoorS30
set_option linter.unusedSimpArgs false
set_option linter.unusedVariables false
namespace Go.Proofs.YteibfbjpkjkejaaGreatDoor
section
open Go Go.RowKit Go.BigFrame
namespace Sx
attribute [local irreducible] DQ DQS WC WO WX wd
end Sx
end
end Go.Proofs.YteibfbjpkjkejaaGreatDoor
