/- Part 18 of the proof. -/
import Derived.Test.YtbbppkkhidkjpaaGreatDoorM09
import Derived.Test.YtbbppkkhidkjpaaGreatDoorM07
set_option linter.unusedSimpArgs false
set_option linter.unusedVariables false
namespace Go.Proofs.YtbbppkkhidkjpaaGreatDoor
section
open Go Go.RowKit
namespace Sx
instance:Cal Tryz.prog 218:=⟨fun _ _=>by kernel_rfl⟩
instance:Cal Tryz.prog 219:=⟨fun _ _=>by kernel_rfl⟩
instance:Cal Tryz.prog 223:=⟨fun _ _=>by kernel_rfl⟩
end Sx
end
end Go.Proofs.YtbbppkkhidkjpaaGreatDoor
