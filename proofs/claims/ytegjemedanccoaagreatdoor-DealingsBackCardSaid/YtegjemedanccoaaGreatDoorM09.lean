/- Part 9 of the proof. -/
import Derived.Test.YtegjemedanccoaaGreatDoorM07
import Derived.Test.YtegjemedanccoaaGreatDoorM08
set_option linter.unusedSimpArgs false
set_option linter.unusedVariables false
namespace Go.Proofs.YtegjemedanccoaaGreatDoor
section
open Go Go.RowKit
namespace Sx
instance:Cal Tryz.prog 156:=⟨fun _ _=>by kernel_rfl⟩
instance:Cal Tryz.prog 157:=⟨fun _ _=>by kernel_rfl⟩
instance:Cal Tryz.prog 164:=⟨fun _ _=>by kernel_rfl⟩
end Sx
end
end Go.Proofs.YtegjemedanccoaaGreatDoor
