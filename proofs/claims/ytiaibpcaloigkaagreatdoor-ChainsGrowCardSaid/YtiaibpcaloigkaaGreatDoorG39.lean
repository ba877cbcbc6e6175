/- Part 39 of the proof. -/
import Derived.Test.YtiaibpcaloigkaaGreatDoorG34
import Derived.Test.YtiaibpcaloigkaaGreatDoorG38
set_option linter.unusedSimpArgs false
set_option linter.unusedVariables false
namespace Go.Proofs.YtiaibpcaloigkaaGreatDoor
section
open Go Go.RowKit Go.BigFrame
namespace Sx
section
variable {p q g h:Nat} {f sec:Int} {N:LP} {ep d n x:Nat} {l:LN}
structure OpL (p q h:Nat) (N:LP) (l:LN) (ep d:Nat) (ls:List Od):Prop where
 ok:∀ o∈ls,ahQ o
 e:∀ o∈ls,o.e=ep
 d:∀ o∈ls,o.d=d
 n:∀ o∈ls,1≤o.n∧o.n≤N.length
 z:∀ o∈ls,o.z=h ^ (ye l o.n%q)%p
 nd:(ls.map Od.n).Nodup
end
end Sx
end
end Go.Proofs.YtiaibpcaloigkaaGreatDoor
