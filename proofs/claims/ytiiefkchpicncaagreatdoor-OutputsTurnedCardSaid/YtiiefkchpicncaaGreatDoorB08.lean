/- Part 8 of the proof. -/
import Derived.Test.YtiiefkchpicncaaGreatDoorB05
import Derived.Test.YtiiefkchpicncaaGreatDoorB07
set_option linter.unusedSimpArgs false
set_option linter.unusedVariables false
namespace Go.Proofs.YtiiefkchpicncaaGreatDoor
section
open Go Go.RowKit
namespace Sx
instance:Cal Tryz.prog 181:=⟨fun _ _=>by kernel_rfl⟩
instance:Cal Tryz.prog 205:=⟨fun _ _=>by kernel_rfl⟩
instance:Cal Tryz.prog 206:=⟨fun _ _=>by kernel_rfl⟩
instance:Cal Tryz.prog 231:=⟨fun _ _=>by kernel_rfl⟩
end Sx
end
end Go.Proofs.YtiiefkchpicncaaGreatDoor
