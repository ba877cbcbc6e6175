/- Part 51 of the proof. -/
import Derived.Test.YteibfbjpkjkejaaGreatDoorS50
set_option linter.unusedSimpArgs false
set_option linter.unusedVariables false
namespace Go.Proofs.YteibfbjpkjkejaaGreatDoor
section
open Go Go.RowKit Go.BigFrame
namespace Sx
attribute [local irreducible] DQ DQS WC WO WX vT wd
end Sx
end
end Go.Proofs.YteibfbjpkjkejaaGreatDoor
