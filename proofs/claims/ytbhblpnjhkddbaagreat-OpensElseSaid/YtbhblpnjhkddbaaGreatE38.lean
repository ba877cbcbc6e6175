/- Part 38 of the proof. -/
import Derived.Test.YtbhblpnjhkddbaaGreatE21
import Derived.Test.YtbhblpnjhkddbaaGreatE18
import Derived.Laws.Build
import Derived.Recover
set_option linter.unusedSimpArgs false
set_option linter.unusedVariables false
namespace Go.Proofs.YtbhblpnjhkddbaaGreat
section
open Go Go.RowKit Go.BigFrame
namespace Sx
section
variable {P:Program} {w0:World} {gs:List Nat} {n:Nat} {ops:List Oper} {Q:Exit→Act→World→Prop} {K:List (Nat × Value)} {L:List Ent} {rest:List Oper}
variable {d:Nat} {op:Op} {ty:TypeId} {pos:String} {after:Array Edge} {gd:Option (Nat × Bool)}
end
end Sx
end
section
open Go Go.RowKit Go.BigFrame
namespace Sx
open Kp
end Sx
end
section
open Go Go.RowKit Go.BigFrame
namespace Sx
section
variable {P:Program} {w0:World} {gs:List Nat} {n:Nat} {ops:List Oper} {K0:List (Nat × Value)} {Lc:List Ent} {T:List (Nat × Value)}
theorem Tls.auto {i:Nat} {v:Value} {r:List (Nat × Value)} {o:Oper} (hr:Tls P w0 gs ops K0 Lc T r) (ho:nth ops i=some o:=by rfl) (h:Does P w0 gs (tvs ops T (dps ops i)++K0) Lc o.op o.type v:=by first|exact sE|exact zq|exact zP|exact yu|exact yf|exact sy|exact yN|exact vO):Tls P w0 gs ops K0 Lc T ((i,v)::r):=.cons ho h hr
end
end Sx
end
section
open Go Go.RowKit Go.BigFrame
namespace Sx
open Kp
end Sx
end
end Go.Proofs.YtbhblpnjhkddbaaGreat
