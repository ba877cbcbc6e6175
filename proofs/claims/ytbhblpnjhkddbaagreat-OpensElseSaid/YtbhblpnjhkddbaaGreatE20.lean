/- Part 20 of the proof. -/
import Derived.Test.YtbhblpnjhkddbaaGreatE15
import Derived.Test.YtbhblpnjhkddbaaGreatE17
import Derived.Test.YtbhblpnjhkddbaaGreatE19
set_option linter.unusedSimpArgs false
set_option linter.unusedVariables false
namespace Go.Proofs.YtbhblpnjhkddbaaGreat
section
open Go Go.RowKit Go.BigFrame
namespace Sx
attribute [local irreducible] DQ DQS WC WO WX wd
end Sx
end
end Go.Proofs.YtbhblpnjhkddbaaGreat
