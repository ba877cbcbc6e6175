/- Part 38 of the proof. -/
import Derived.Test.YtiaibpcaloigkaaGreatDoorD32
set_option linter.unusedSimpArgs false
set_option linter.unusedVariables false
namespace Go.Proofs.YtiaibpcaloigkaaGreatDoor
section
open Go Go.RowKit Go.BigFrame
namespace Sx
attribute [local irreducible] DQ WC WO WX wd
abbrev opC (ep d n z c s:Nat):List Value:=[.int .u64 (ep:Int),.int .u8 (d:Int),.int .u8 (n:Int),.int .u64 ((wd 0 z:Nat):Int),.int .u64 ((wd 1 z:Nat):Int),.int .u64 ((wd 2 z:Nat):Int),.int .u64 ((wd 3 z:Nat):Int),.int .u64 ((wd 0 c:Nat):Int),.int .u64 ((wd 1 c:Nat):Int),.int .u64 ((wd 2 c:Nat):Int),.int .u64 ((wd 3 c:Nat):Int),.int .u64 ((wd 0 s:Nat):Int),.int .u64 ((wd 1 s:Nat):Int),.int .u64 ((wd 2 s:Nat):Int),.int .u64 ((wd 3 s:Nat):Int)]
structure Od where
 e:Nat
 d:Nat
 n:Nat
 z:Nat
 c:Nat
 s:Nat
structure age (o:Od):Prop where
 e:o.e<18446744073709551616
 d:o.d<256
 n:o.n<256
 z:o.z<ze
 c:o.c<ze
 s:o.s<ze
abbrev odC (o:Od):List Value:=opC o.e o.d o.n o.z o.c o.s
end Sx
end
section
open Go Go.RowKit Go.BigFrame
namespace Sx
end Sx
end
section
open Go Go.RowKit Go.BigFrame
namespace Sx
attribute [local irreducible] DQ WC WO WX wd
end Sx
end
section
open Go Go.RowKit Go.BigFrame
namespace Sx
end Sx
end
end Go.Proofs.YtiaibpcaloigkaaGreatDoor
