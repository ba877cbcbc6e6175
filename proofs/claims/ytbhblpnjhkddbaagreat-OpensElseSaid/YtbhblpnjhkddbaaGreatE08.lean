/- Part 8 of the proof. -/
import Derived.Test.YtbhblpnjhkddbaaGreatE06
import Derived.Test.YtbhblpnjhkddbaaGreatE07
set_option linter.unusedSimpArgs false
set_option linter.unusedVariables false
namespace Go.Proofs.YtbhblpnjhkddbaaGreat
section
open Go Go.RowKit
namespace Sx
instance:Cal Tryz.prog 171:=⟨fun _ _=>by kernel_rfl⟩
instance:Cal Tryz.prog 172:=⟨fun _ _=>by kernel_rfl⟩
instance:Cal Tryz.prog 177:=⟨fun _ _=>by kernel_rfl⟩
end Sx
end
end Go.Proofs.YtbhblpnjhkddbaaGreat
