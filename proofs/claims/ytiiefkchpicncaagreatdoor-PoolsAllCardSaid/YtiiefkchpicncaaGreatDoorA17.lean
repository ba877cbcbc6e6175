/- Part 17 of the proof. -/
import Derived.Test.YtiiefkchpicncaaGreatDoorA15
import Derived.Test.YtiiefkchpicncaaGreatDoorA06
set_option linter.unusedSimpArgs false
set_option linter.unusedVariables false
namespace Go.Proofs.YtiiefkchpicncaaGreatDoor
section
open Go Go.RowKit Go.BigFrame
namespace Sx
attribute [local irreducible] DQ WC WO WX wd
theorem Lle.same:∀ {L:List Ent},Lle L L
 | []=>trivial
 | _::_=>⟨_,_,.here,rfl,Lle.same⟩
end Sx
end
end Go.Proofs.YtiiefkchpicncaaGreatDoor
