/- Part 17 of the proof. -/
import Derived.Test.YtiiefkchpicncaaGreatDoorB15
import Derived.Test.YtiiefkchpicncaaGreatDoorB07
set_option linter.unusedSimpArgs false
set_option linter.unusedVariables false
namespace Go.Proofs.YtiiefkchpicncaaGreatDoor
section
open Go Go.RowKit Go.BigFrame
namespace Sx
attribute [local irreducible] DQ WC WO WX wd
theorem Lle.same:∀ {L:List Ent},Lle L L
 | []=>trivial
 | _::_=>⟨_,_,.here,rfl,Lle.same⟩
theorem Lle.skip {e:Ent} {L:List Ent}:∀ {L' : List Ent},Lle L' L→Lle L' (e::L)
 | [],_=>trivial
 | _::_,⟨cs,L1,h1,h2,h3⟩=>⟨cs,e::L1,.there h1,h2,Lle.skip h3⟩
end Sx
end
end Go.Proofs.YtiiefkchpicncaaGreatDoor
