/- Part 7 of the proof. -/
import Derived.Test.YtiaibpcaloigkaaGreatDoorE05
import Derived.Test.YtiaibpcaloigkaaGreatDoorE06
set_option linter.unusedSimpArgs false
set_option linter.unusedVariables false
namespace Go.Proofs.YtiaibpcaloigkaaGreatDoor
section
open Go Go.RowKit
namespace Sx
instance:Cal Tryz.prog 201:=⟨fun _ _=>Kr⟩
instance:Cal Tryz.prog 258:=⟨fun _ _=>Kr⟩
instance:Cal Tryz.prog 259:=⟨fun _ _=>Kr⟩
instance:Cal Tryz.prog 274:=⟨fun _ _=>Kr⟩
end Sx
end
end Go.Proofs.YtiaibpcaloigkaaGreatDoor
