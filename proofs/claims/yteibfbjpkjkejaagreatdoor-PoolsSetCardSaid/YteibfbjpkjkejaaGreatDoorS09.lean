/- Part 9 of the proof. -/
import Derived.Test.YteibfbjpkjkejaaGreatDoorS07
import Derived.Test.YteibfbjpkjkejaaGreatDoorS08
set_option linter.unusedSimpArgs false
set_option linter.unusedVariables false
namespace Go.Proofs.YteibfbjpkjkejaaGreatDoor
section
open Go Go.RowKit
namespace Sx
instance:Cal Tryz.prog 166:=⟨fun _ _=>by kernel_rfl⟩
instance:Cal Tryz.prog 167:=⟨fun _ _=>by kernel_rfl⟩
instance:Cal Tryz.prog 174:=⟨fun _ _=>by kernel_rfl⟩
end Sx
end
end Go.Proofs.YteibfbjpkjkejaaGreatDoor
