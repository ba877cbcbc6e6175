/- Part 15 of the proof. -/
import Derived.Test.YtbhblpnjhkddbaaGreatE13
import Derived.Test.YtbhblpnjhkddbaaGreatE14
set_option linter.unusedSimpArgs false
set_option linter.unusedVariables false
namespace Go.Proofs.YtbhblpnjhkddbaaGreat
section
open Go Go.RowKit Go.BigFrame
namespace Sx
attribute [local irreducible] DQ DQS WC WO WX wd
end Sx
end
end Go.Proofs.YtbhblpnjhkddbaaGreat
