/- Part 7 of the proof. -/
import Derived.Test.YtegjemedanccoaaGreatDoorM06
import Derived.Test.YtegjemedanccoaaGreatDoorProg
set_option linter.unusedSimpArgs false
set_option linter.unusedVariables false
namespace Go.Proofs.YtegjemedanccoaaGreatDoor
section
open Go Go.RowKit
namespace Sx
instance:Mix Tryz.prog:=⟨by kernel_rfl⟩
instance:InT Tryz.prog 2 .i64:=⟨by kernel_rfl⟩
instance:OnT Tryz.prog 3:=⟨fun _=>by kernel_rfl,fun _=>by kernel_rfl⟩
instance:ZeT Tryz.prog 3 (.int .i64 0):=⟨fun _=>by kernel_rfl⟩
instance:InT Tryz.prog 3 .i64:=⟨by kernel_rfl⟩
instance:OnT Tryz.prog 5:=⟨fun _=>by kernel_rfl,fun _=>by kernel_rfl⟩
instance:InT Tryz.prog 5 .u8:=⟨by kernel_rfl⟩
instance:OnT Tryz.prog 9:=⟨fun _=>by kernel_rfl,fun _=>by kernel_rfl⟩
instance:ade Tryz.prog 9:=⟨by kernel_rfl⟩
instance:OnT Tryz.prog 22:=⟨fun _=>by kernel_rfl,fun _=>by kernel_rfl⟩
instance:InT Tryz.prog 22 .u64:=⟨by kernel_rfl⟩
instance:AgT Tryz.prog 24 4:=⟨fun _=>by kernel_rfl,fun _=>by kernel_rfl⟩
instance:ZeT Tryz.prog 24 (.agg ([.int .u64 ((wd 0 0:Nat):Int),.int .u64 ((wd 1 0:Nat):Int),.int .u64 ((wd 2 0:Nat):Int),.int .u64 ((wd 3 0:Nat):Int)]).toArray):=⟨fun _=>by kernel_rfl⟩
instance:ArT Tryz.prog 24 4 22 1:=⟨by kernel_rfl,fun _=>by kernel_rfl⟩
instance:AgT Tryz.prog 26 16:=⟨fun _=>by kernel_rfl,fun _=>by kernel_rfl⟩
instance:ZeT Tryz.prog 26 (.agg ([.int .u64 ((wd 0 0:Nat):Int),.int .u64 ((wd 1 0:Nat):Int),.int .u64 ((wd 2 0:Nat):Int),.int .u64 ((wd 3 0:Nat):Int),.int .u64 ((wd 0 0:Nat):Int),.int .u64 ((wd 1 0:Nat):Int),.int .u64 ((wd 2 0:Nat):Int),.int .u64 ((wd 3 0:Nat):Int),.int .u64 ((wd 0 0:Nat):Int),.int .u64 ((wd 1 0:Nat):Int),.int .u64 ((wd 2 0:Nat):Int),.int .u64 ((wd 3 0:Nat):Int),.int .u64 ((wd 0 0:Nat):Int),.int .u64 ((wd 1 0:Nat):Int),.int .u64 ((wd 2 0:Nat):Int),.int .u64 ((wd 3 0:Nat):Int)]).toArray):=⟨fun _=>by kernel_rfl⟩
instance:BuT Tryz.prog 26 [(0,4),(4,4),(8,4),(12,4)] ([.int .u64 ((wd 0 0:Nat):Int),.int .u64 ((wd 1 0:Nat):Int),.int .u64 ((wd 2 0:Nat):Int),.int .u64 ((wd 3 0:Nat):Int),.int .u64 ((wd 0 0:Nat):Int),.int .u64 ((wd 1 0:Nat):Int),.int .u64 ((wd 2 0:Nat):Int),.int .u64 ((wd 3 0:Nat):Int),.int .u64 ((wd 0 0:Nat):Int),.int .u64 ((wd 1 0:Nat):Int),.int .u64 ((wd 2 0:Nat):Int),.int .u64 ((wd 3 0:Nat):Int),.int .u64 ((wd 0 0:Nat):Int),.int .u64 ((wd 1 0:Nat):Int),.int .u64 ((wd 2 0:Nat):Int),.int .u64 ((wd 3 0:Nat):Int)]):=⟨fun _=>by kernel_rfl,by kernel_rfl,fun _=>by kernel_rfl⟩
instance:FlT Tryz.prog 26 0 0:=⟨fun _ _=>by kernel_rfl⟩
instance:FlT Tryz.prog 26 1 4:=⟨fun _ _=>by kernel_rfl⟩
instance:FlT Tryz.prog 26 2 8:=⟨fun _ _=>by kernel_rfl⟩
instance:FlT Tryz.prog 26 3 12:=⟨fun _ _=>by kernel_rfl⟩
instance:OnT Tryz.prog 27:=⟨fun _=>by kernel_rfl,fun _=>by kernel_rfl⟩
instance:SlT Tryz.prog 27 34 8:=⟨by kernel_rfl,fun _=>by kernel_rfl⟩
instance:AgT Tryz.prog 29 19:=⟨fun _=>by kernel_rfl,fun _=>by kernel_rfl⟩
instance:ZeT Tryz.prog 29 (.agg ([.int .u64 ((wd 0 0:Nat):Int),.int .u64 ((wd 1 0:Nat):Int),.int .u64 ((wd 2 0:Nat):Int),.int .u64 ((wd 3 0:Nat):Int),.int .u64 ((wd 0 0:Nat):Int),.int .u64 ((wd 1 0:Nat):Int),.int .u64 ((wd 2 0:Nat):Int),.int .u64 ((wd 3 0:Nat):Int),.int .u64 ((wd 0 0:Nat):Int),.int .u64 ((wd 1 0:Nat):Int),.int .u64 ((wd 2 0:Nat):Int),.int .u64 ((wd 3 0:Nat):Int),.int .u64 ((wd 0 0:Nat):Int),.int .u64 ((wd 1 0:Nat):Int),.int .u64 ((wd 2 0:Nat):Int),.int .u64 ((wd 3 0:Nat):Int),.int .i64 0,.int .i64 0,.slice none 0 0]).toArray):=⟨fun _=>by kernel_rfl⟩
instance:BuT Tryz.prog 29 [(0,16),(16,1),(17,1),(18,1)] ([.int .u64 ((wd 0 0:Nat):Int),.int .u64 ((wd 1 0:Nat):Int),.int .u64 ((wd 2 0:Nat):Int),.int .u64 ((wd 3 0:Nat):Int),.int .u64 ((wd 0 0:Nat):Int),.int .u64 ((wd 1 0:Nat):Int),.int .u64 ((wd 2 0:Nat):Int),.int .u64 ((wd 3 0:Nat):Int),.int .u64 ((wd 0 0:Nat):Int),.int .u64 ((wd 1 0:Nat):Int),.int .u64 ((wd 2 0:Nat):Int),.int .u64 ((wd 3 0:Nat):Int),.int .u64 ((wd 0 0:Nat):Int),.int .u64 ((wd 1 0:Nat):Int),.int .u64 ((wd 2 0:Nat):Int),.int .u64 ((wd 3 0:Nat):Int),.int .i64 0,.int .i64 0,.slice none 0 0]):=⟨fun _=>by kernel_rfl,by kernel_rfl,fun _=>by kernel_rfl⟩
instance:FlT Tryz.prog 29 0 0:=⟨fun _ _=>by kernel_rfl⟩
instance:FlT Tryz.prog 29 1 16:=⟨fun _ _=>by kernel_rfl⟩
instance:FlT Tryz.prog 29 2 17:=⟨fun _ _=>by kernel_rfl⟩
instance:FlT Tryz.prog 29 3 18:=⟨fun _ _=>by kernel_rfl⟩
instance:AgT Tryz.prog 34 8:=⟨fun _=>by kernel_rfl,fun _=>by kernel_rfl⟩
instance:BuT Tryz.prog 34 [(0,4),(4,4)] ([.int .u64 ((wd 0 0:Nat):Int),.int .u64 ((wd 1 0:Nat):Int),.int .u64 ((wd 2 0:Nat):Int),.int .u64 ((wd 3 0:Nat):Int),.int .u64 ((wd 0 0:Nat):Int),.int .u64 ((wd 1 0:Nat):Int),.int .u64 ((wd 2 0:Nat):Int),.int .u64 ((wd 3 0:Nat):Int)]):=⟨fun _=>by kernel_rfl,by kernel_rfl,fun _=>by kernel_rfl⟩
instance:FlT Tryz.prog 34 0 0:=⟨fun _ _=>by kernel_rfl⟩
instance:FlT Tryz.prog 34 1 4:=⟨fun _ _=>by kernel_rfl⟩
instance:OnT Tryz.prog 36:=⟨fun _=>by kernel_rfl,fun _=>by kernel_rfl⟩
instance:ZeT Tryz.prog 36 (.slice none 0 0):=⟨fun _=>by kernel_rfl⟩
instance:SlT Tryz.prog 36 24 4:=⟨by kernel_rfl,fun _=>by kernel_rfl⟩
instance:FlT Tryz.prog 38 0 0:=⟨fun _ _=>by kernel_rfl⟩
instance:FlT Tryz.prog 38 1 1:=⟨fun _ _=>by kernel_rfl⟩
instance:FlT Tryz.prog 38 2 2:=⟨fun _ _=>by kernel_rfl⟩
instance:FlT Tryz.prog 38 3 3:=⟨fun _ _=>by kernel_rfl⟩
instance:OnT Tryz.prog 40:=⟨fun _=>by kernel_rfl,fun _=>by kernel_rfl⟩
instance:SlT Tryz.prog 40 77 8:=⟨by kernel_rfl,fun _=>by kernel_rfl⟩
instance:AgT Tryz.prog 42 8:=⟨fun _=>by kernel_rfl,fun _=>by kernel_rfl⟩
instance:ZeT Tryz.prog 42 (.agg ([.int .u64 ((wd 0 0:Nat):Int),.int .u64 ((wd 1 0:Nat):Int),.int .u64 ((wd 2 0:Nat):Int),.int .u64 ((wd 3 0:Nat):Int),.int .u64 ((wd 0 0:Nat):Int),.int .u64 ((wd 1 0:Nat):Int),.int .u64 ((wd 2 0:Nat):Int),.int .u64 ((wd 3 0:Nat):Int)]).toArray):=⟨fun _=>by kernel_rfl⟩
instance:BuT Tryz.prog 42 [(0,4),(4,4)] ([.int .u64 ((wd 0 0:Nat):Int),.int .u64 ((wd 1 0:Nat):Int),.int .u64 ((wd 2 0:Nat):Int),.int .u64 ((wd 3 0:Nat):Int),.int .u64 ((wd 0 0:Nat):Int),.int .u64 ((wd 1 0:Nat):Int),.int .u64 ((wd 2 0:Nat):Int),.int .u64 ((wd 3 0:Nat):Int)]):=⟨fun _=>by kernel_rfl,by kernel_rfl,fun _=>by kernel_rfl⟩
instance:FlT Tryz.prog 42 0 0:=⟨fun _ _=>by kernel_rfl⟩
instance:FlT Tryz.prog 42 1 4:=⟨fun _ _=>by kernel_rfl⟩
instance:AgT Tryz.prog 44 13:=⟨fun _=>by kernel_rfl,fun _=>by kernel_rfl⟩
instance:ZeT Tryz.prog 44 (.agg ([.int .u64 0,.int .u8 0,.slice none 0 0,.slice none 0 0,.slice none 0 0,.int .u64 ((wd 0 0:Nat):Int),.int .u64 ((wd 1 0:Nat):Int),.int .u64 ((wd 2 0:Nat):Int),.int .u64 ((wd 3 0:Nat):Int),.int .u64 ((wd 0 0:Nat):Int),.int .u64 ((wd 1 0:Nat):Int),.int .u64 ((wd 2 0:Nat):Int),.int .u64 ((wd 3 0:Nat):Int)]).toArray):=⟨fun _=>by kernel_rfl⟩
instance:BuT Tryz.prog 44 [(0,1),(1,1),(2,1),(3,1),(4,1),(5,8)] ([.int .u64 0,.int .u8 0,.slice none 0 0,.slice none 0 0,.slice none 0 0,.int .u64 ((wd 0 0:Nat):Int),.int .u64 ((wd 1 0:Nat):Int),.int .u64 ((wd 2 0:Nat):Int),.int .u64 ((wd 3 0:Nat):Int),.int .u64 ((wd 0 0:Nat):Int),.int .u64 ((wd 1 0:Nat):Int),.int .u64 ((wd 2 0:Nat):Int),.int .u64 ((wd 3 0:Nat):Int)]):=⟨fun _=>by kernel_rfl,by kernel_rfl,fun _=>by kernel_rfl⟩
instance:FlT Tryz.prog 44 0 0:=⟨fun _ _=>by kernel_rfl⟩
instance:FlT Tryz.prog 44 1 1:=⟨fun _ _=>by kernel_rfl⟩
instance:FlT Tryz.prog 44 2 2:=⟨fun _ _=>by kernel_rfl⟩
instance:FlT Tryz.prog 44 3 3:=⟨fun _ _=>by kernel_rfl⟩
instance:FlT Tryz.prog 44 4 4:=⟨fun _ _=>by kernel_rfl⟩
instance:FlT Tryz.prog 44 5 5:=⟨fun _ _=>by kernel_rfl⟩
instance:OnT Tryz.prog 45:=⟨fun _=>by kernel_rfl,fun _=>by kernel_rfl⟩
instance:ZeT Tryz.prog 45 (.int .i64 0):=⟨fun _=>by kernel_rfl⟩
instance:SlT Tryz.prog 62 65 8:=⟨by kernel_rfl,fun _=>by kernel_rfl⟩
instance:AgT Tryz.prog 65 8:=⟨fun _=>by kernel_rfl,fun _=>by kernel_rfl⟩
instance:ZeT Tryz.prog 65 (.agg ([.int .u64 ((wd 0 0:Nat):Int),.int .u64 ((wd 1 0:Nat):Int),.int .u64 ((wd 2 0:Nat):Int),.int .u64 ((wd 3 0:Nat):Int),.int .u64 ((wd 0 0:Nat):Int),.int .u64 ((wd 1 0:Nat):Int),.int .u64 ((wd 2 0:Nat):Int),.int .u64 ((wd 3 0:Nat):Int)]).toArray):=⟨fun _=>by kernel_rfl⟩
instance:BuT Tryz.prog 65 [(0,4),(4,4)] ([.int .u64 ((wd 0 0:Nat):Int),.int .u64 ((wd 1 0:Nat):Int),.int .u64 ((wd 2 0:Nat):Int),.int .u64 ((wd 3 0:Nat):Int),.int .u64 ((wd 0 0:Nat):Int),.int .u64 ((wd 1 0:Nat):Int),.int .u64 ((wd 2 0:Nat):Int),.int .u64 ((wd 3 0:Nat):Int)]):=⟨fun _=>by kernel_rfl,by kernel_rfl,fun _=>by kernel_rfl⟩
instance:FlT Tryz.prog 65 0 0:=⟨fun _ _=>by kernel_rfl⟩
instance:FlT Tryz.prog 65 1 4:=⟨fun _ _=>by kernel_rfl⟩
instance:AgT Tryz.prog 72 32:=⟨fun _=>by kernel_rfl,fun _=>by kernel_rfl⟩
instance:ZeT Tryz.prog 72 (.agg (List.replicate 32 (.int .u8 0)).toArray):=⟨fun _=>by kernel_rfl⟩
instance:ArT Tryz.prog 72 32 5 1:=⟨by kernel_rfl,fun _=>by kernel_rfl⟩
instance:OnT Tryz.prog 74:=⟨fun _=>by kernel_rfl,fun _=>by kernel_rfl⟩
instance:SlT Tryz.prog 74 5 1:=⟨by kernel_rfl,fun _=>by kernel_rfl⟩
instance:AgT Tryz.prog 77 8:=⟨fun _=>by kernel_rfl,fun _=>by kernel_rfl⟩
instance:ZeT Tryz.prog 77 (.agg ([.int .u64 ((wd 0 0:Nat):Int),.int .u64 ((wd 1 0:Nat):Int),.int .u64 ((wd 2 0:Nat):Int),.int .u64 ((wd 3 0:Nat):Int),.int .u64 ((wd 0 0:Nat):Int),.int .u64 ((wd 1 0:Nat):Int),.int .u64 ((wd 2 0:Nat):Int),.int .u64 ((wd 3 0:Nat):Int)]).toArray):=⟨fun _=>by kernel_rfl⟩
instance:BuT Tryz.prog 77 [(0,4),(4,4)] ([.int .u64 ((wd 0 0:Nat):Int),.int .u64 ((wd 1 0:Nat):Int),.int .u64 ((wd 2 0:Nat):Int),.int .u64 ((wd 3 0:Nat):Int),.int .u64 ((wd 0 0:Nat):Int),.int .u64 ((wd 1 0:Nat):Int),.int .u64 ((wd 2 0:Nat):Int),.int .u64 ((wd 3 0:Nat):Int)]):=⟨fun _=>by kernel_rfl,by kernel_rfl,fun _=>by kernel_rfl⟩
instance:FlT Tryz.prog 77 0 0:=⟨fun _ _=>by kernel_rfl⟩
instance:FlT Tryz.prog 77 1 4:=⟨fun _ _=>by kernel_rfl⟩
instance:OnT Tryz.prog 86:=⟨fun _=>by kernel_rfl,fun _=>by kernel_rfl⟩
instance:AgT Tryz.prog 88 2:=⟨fun _=>by kernel_rfl,fun _=>by kernel_rfl⟩
instance:ZeT Tryz.prog 88 (.agg ([.int .i64 0,.nilFunc]).toArray):=⟨fun _=>by kernel_rfl⟩
instance:BuT Tryz.prog 88 [(0,1),(1,1)] ([.int .i64 0,.nilFunc]):=⟨fun _=>by kernel_rfl,by kernel_rfl,fun _=>by kernel_rfl⟩
instance:FlT Tryz.prog 88 0 0:=⟨fun _ _=>by kernel_rfl⟩
instance:FlT Tryz.prog 88 1 1:=⟨fun _ _=>by kernel_rfl⟩
instance:OnT Tryz.prog 94:=⟨fun _=>by kernel_rfl,fun _=>by kernel_rfl⟩
instance:ZeT Tryz.prog 94 (.nilFunc):=⟨fun _=>by kernel_rfl⟩
instance:OnT Tryz.prog 100:=⟨fun _=>by kernel_rfl,fun _=>by kernel_rfl⟩
instance:OnT Tryz.prog 104:=⟨fun _=>by kernel_rfl,fun _=>by kernel_rfl⟩
instance:ZeT Tryz.prog 104 (.pointer none):=⟨fun _=>by kernel_rfl⟩
instance:BuT Tryz.prog 106 [(0,1)] ([.int .i64 0]):=⟨fun _=>by kernel_rfl,by kernel_rfl,fun _=>by kernel_rfl⟩
instance:FlT Tryz.prog 106 0 0:=⟨fun _ _=>by kernel_rfl⟩
instance:OnT Tryz.prog 117:=⟨fun _=>by kernel_rfl,fun _=>by kernel_rfl⟩
instance:ZeT Tryz.prog 117 (.slice none 0 0):=⟨fun _=>by kernel_rfl⟩
instance:SlT Tryz.prog 117 74 1:=⟨by kernel_rfl,fun _=>by kernel_rfl⟩
instance:AgT Tryz.prog 126 17:=⟨fun _=>by kernel_rfl,fun _=>by kernel_rfl⟩
instance:ZeT Tryz.prog 126 (.agg ([.int .u64 ((wd 0 0:Nat):Int),.int .u64 ((wd 1 0:Nat):Int),.int .u64 ((wd 2 0:Nat):Int),.int .u64 ((wd 3 0:Nat):Int),.int .u64 ((wd 0 0:Nat):Int),.int .u64 ((wd 1 0:Nat):Int),.int .u64 ((wd 2 0:Nat):Int),.int .u64 ((wd 3 0:Nat):Int),.int .u64 ((wd 0 0:Nat):Int),.int .u64 ((wd 1 0:Nat):Int),.int .u64 ((wd 2 0:Nat):Int),.int .u64 ((wd 3 0:Nat):Int),.int .u64 ((wd 0 0:Nat):Int),.int .u64 ((wd 1 0:Nat):Int),.int .u64 ((wd 2 0:Nat):Int),.int .u64 ((wd 3 0:Nat):Int),.string ⟨#[]⟩]).toArray):=⟨fun _=>by kernel_rfl⟩
instance:BuT Tryz.prog 126 [(0,16),(16,1)] ([.int .u64 ((wd 0 0:Nat):Int),.int .u64 ((wd 1 0:Nat):Int),.int .u64 ((wd 2 0:Nat):Int),.int .u64 ((wd 3 0:Nat):Int),.int .u64 ((wd 0 0:Nat):Int),.int .u64 ((wd 1 0:Nat):Int),.int .u64 ((wd 2 0:Nat):Int),.int .u64 ((wd 3 0:Nat):Int),.int .u64 ((wd 0 0:Nat):Int),.int .u64 ((wd 1 0:Nat):Int),.int .u64 ((wd 2 0:Nat):Int),.int .u64 ((wd 3 0:Nat):Int),.int .u64 ((wd 0 0:Nat):Int),.int .u64 ((wd 1 0:Nat):Int),.int .u64 ((wd 2 0:Nat):Int),.int .u64 ((wd 3 0:Nat):Int),.string ⟨#[]⟩]):=⟨fun _=>by kernel_rfl,by kernel_rfl,fun _=>by kernel_rfl⟩
instance:FlT Tryz.prog 126 0 0:=⟨fun _ _=>by kernel_rfl⟩
instance:FlT Tryz.prog 126 1 16:=⟨fun _ _=>by kernel_rfl⟩
instance:SlT Tryz.prog 140 100 1:=⟨by kernel_rfl,fun _=>by kernel_rfl⟩
instance:AgT Tryz.prog 147 1:=⟨fun _=>by kernel_rfl,fun _=>by kernel_rfl⟩
instance:ZeT Tryz.prog 147 (.agg ([.int .i64 0]).toArray):=⟨fun _=>by kernel_rfl⟩
instance:BuT Tryz.prog 147 [(0,1)] ([.int .i64 0]):=⟨fun _=>by kernel_rfl,by kernel_rfl,fun _=>by kernel_rfl⟩
instance:FlT Tryz.prog 147 0 0:=⟨fun _ _=>by kernel_rfl⟩
instance:ZeT Tryz.prog 148 (.agg ([.int .u64 ((wd 0 0:Nat):Int),.int .u64 ((wd 1 0:Nat):Int),.int .u64 ((wd 2 0:Nat):Int),.int .u64 ((wd 3 0:Nat):Int),.int .u64 ((wd 0 0:Nat):Int),.int .u64 ((wd 1 0:Nat):Int),.int .u64 ((wd 2 0:Nat):Int),.int .u64 ((wd 3 0:Nat):Int),.int .u64 ((wd 0 0:Nat):Int),.int .u64 ((wd 1 0:Nat):Int),.int .u64 ((wd 2 0:Nat):Int),.int .u64 ((wd 3 0:Nat):Int),.int .u64 ((wd 0 0:Nat):Int),.int .u64 ((wd 1 0:Nat):Int),.int .u64 ((wd 2 0:Nat):Int),.int .u64 ((wd 3 0:Nat):Int)]).toArray):=⟨fun _=>by kernel_rfl⟩
instance:ArT Tryz.prog 148 4 24 4:=⟨by kernel_rfl,fun _=>by kernel_rfl⟩
instance:InT Tryz.prog 151 .u64:=⟨by kernel_rfl⟩
instance:OnT Tryz.prog 152:=⟨fun _=>by kernel_rfl,fun _=>by kernel_rfl⟩
instance:ZeT Tryz.prog 152 (.pointer none):=⟨fun _=>by kernel_rfl⟩
instance:BuT Tryz.prog 154 [(0,16),(16,1)] ([.int .u64 ((wd 0 0:Nat):Int),.int .u64 ((wd 1 0:Nat):Int),.int .u64 ((wd 2 0:Nat):Int),.int .u64 ((wd 3 0:Nat):Int),.int .u64 ((wd 0 0:Nat):Int),.int .u64 ((wd 1 0:Nat):Int),.int .u64 ((wd 2 0:Nat):Int),.int .u64 ((wd 3 0:Nat):Int),.int .u64 ((wd 0 0:Nat):Int),.int .u64 ((wd 1 0:Nat):Int),.int .u64 ((wd 2 0:Nat):Int),.int .u64 ((wd 3 0:Nat):Int),.int .u64 ((wd 0 0:Nat):Int),.int .u64 ((wd 1 0:Nat):Int),.int .u64 ((wd 2 0:Nat):Int),.int .u64 ((wd 3 0:Nat):Int),.int .i64 0]):=⟨fun _=>by kernel_rfl,by kernel_rfl,fun _=>by kernel_rfl⟩
instance:FlT Tryz.prog 154 0 0:=⟨fun _ _=>by kernel_rfl⟩
instance:FlT Tryz.prog 154 1 16:=⟨fun _ _=>by kernel_rfl⟩
instance:OnT Tryz.prog 162:=⟨fun _=>by kernel_rfl,fun _=>by kernel_rfl⟩
instance:BuT Tryz.prog 164 [(0,1)] ([.nilFunc]):=⟨fun _=>by kernel_rfl,by kernel_rfl,fun _=>by kernel_rfl⟩
instance:FlT Tryz.prog 164 0 0:=⟨fun _ _=>by kernel_rfl⟩
instance:OnT Tryz.prog 165:=⟨fun _=>by kernel_rfl,fun _=>by kernel_rfl⟩
instance:InT Tryz.prog 165 .u32:=⟨by kernel_rfl⟩
instance:AgT Tryz.prog 167 8:=⟨fun _=>by kernel_rfl,fun _=>by kernel_rfl⟩
instance:ZeT Tryz.prog 167 (.agg ([.int .u32 0,.int .u32 0,.int .u32 0,.int .u32 0,.int .u32 0,.int .u32 0,.int .u32 0,.int .u32 0]).toArray):=⟨fun _=>by kernel_rfl⟩
instance:ArT Tryz.prog 167 8 165 1:=⟨by kernel_rfl,fun _=>by kernel_rfl⟩
instance:AgT Tryz.prog 169 64:=⟨fun _=>by kernel_rfl,fun _=>by kernel_rfl⟩
instance:ArT Tryz.prog 169 64 5 1:=⟨by kernel_rfl,fun _=>by kernel_rfl⟩
instance:AgT Tryz.prog 171 74:=⟨fun _=>by kernel_rfl,fun _=>by kernel_rfl⟩
instance:ZeT Tryz.prog 171 (.agg (([.int .i64 0,.int .u32 0,.int .u32 0,.int .u32 0,.int .u32 0,.int .u32 0,.int .u32 0,.int .u32 0,.int .u32 0]:List Value)++(List.replicate 64 (.int .u8 0):List Value)++([.int .u64 0]:List Value)).toArray):=⟨fun _=>by kernel_rfl⟩
instance:BuT Tryz.prog 171 [(0,1),(1,8),(9,64),(73,1)] (([.int .i64 0,.int .u32 0,.int .u32 0,.int .u32 0,.int .u32 0,.int .u32 0,.int .u32 0,.int .u32 0,.int .u32 0]:List Value)++(List.replicate 64 (.int .u8 0):List Value)++([.int .u64 0]:List Value)):=⟨fun _=>by kernel_rfl,by kernel_rfl,fun _=>by kernel_rfl⟩
instance:FlT Tryz.prog 171 0 0:=⟨fun _ _=>by kernel_rfl⟩
instance:FlT Tryz.prog 171 1 1:=⟨fun _ _=>by kernel_rfl⟩
instance:FlT Tryz.prog 171 2 9:=⟨fun _ _=>by kernel_rfl⟩
instance:FlT Tryz.prog 171 3 73:=⟨fun _ _=>by kernel_rfl⟩
instance:SlT Tryz.prog 174 22 1:=⟨by kernel_rfl,fun _=>by kernel_rfl⟩
instance:AgT Tryz.prog 231 64:=⟨fun _=>by kernel_rfl,fun _=>by kernel_rfl⟩
instance:ZeT Tryz.prog 231 (.agg (List.replicate 64 (.int .u32 0)).toArray):=⟨fun _=>by kernel_rfl⟩
instance:ArT Tryz.prog 231 64 165 1:=⟨by kernel_rfl,fun _=>by kernel_rfl⟩
instance:SlT Tryz.prog 239 3 1:=⟨by kernel_rfl,fun _=>by kernel_rfl⟩
instance:ElT Tryz.prog 3 8 ([.int .i64 0]):=⟨(Tryz.prog.info? 3).getD default,by kernel_rfl,by kernel_rfl,by kernel_rfl,.int .i64 0,by kernel_rfl,by kernel_rfl⟩
instance:ElT Tryz.prog 5 1 ([.int .u8 0]):=⟨(Tryz.prog.info? 5).getD default,by kernel_rfl,by kernel_rfl,by kernel_rfl,.int .u8 0,by kernel_rfl,by kernel_rfl⟩
instance:ElT Tryz.prog 22 8 ([.int .u64 0]):=⟨(Tryz.prog.info? 22).getD default,by kernel_rfl,by kernel_rfl,by kernel_rfl,.int .u64 0,by kernel_rfl,by kernel_rfl⟩
instance:ElT Tryz.prog 24 32 ([.int .u64 ((wd 0 0:Nat):Int),.int .u64 ((wd 1 0:Nat):Int),.int .u64 ((wd 2 0:Nat):Int),.int .u64 ((wd 3 0:Nat):Int)]):=⟨(Tryz.prog.info? 24).getD default,by kernel_rfl,by kernel_rfl,by kernel_rfl,.agg ([.int .u64 ((wd 0 0:Nat):Int),.int .u64 ((wd 1 0:Nat):Int),.int .u64 ((wd 2 0:Nat):Int),.int .u64 ((wd 3 0:Nat):Int)]).toArray,by kernel_rfl,by kernel_rfl⟩
instance:ElT Tryz.prog 34 64 ([.int .u64 ((wd 0 0:Nat):Int),.int .u64 ((wd 1 0:Nat):Int),.int .u64 ((wd 2 0:Nat):Int),.int .u64 ((wd 3 0:Nat):Int),.int .u64 ((wd 0 0:Nat):Int),.int .u64 ((wd 1 0:Nat):Int),.int .u64 ((wd 2 0:Nat):Int),.int .u64 ((wd 3 0:Nat):Int)]):=⟨(Tryz.prog.info? 34).getD default,by kernel_rfl,by kernel_rfl,by kernel_rfl,.agg ([.int .u64 ((wd 0 0:Nat):Int),.int .u64 ((wd 1 0:Nat):Int),.int .u64 ((wd 2 0:Nat):Int),.int .u64 ((wd 3 0:Nat):Int),.int .u64 ((wd 0 0:Nat):Int),.int .u64 ((wd 1 0:Nat):Int),.int .u64 ((wd 2 0:Nat):Int),.int .u64 ((wd 3 0:Nat):Int)]).toArray,by kernel_rfl,by kernel_rfl⟩
instance:ElT Tryz.prog 65 64 ([.int .u64 ((wd 0 0:Nat):Int),.int .u64 ((wd 1 0:Nat):Int),.int .u64 ((wd 2 0:Nat):Int),.int .u64 ((wd 3 0:Nat):Int),.int .u64 ((wd 0 0:Nat):Int),.int .u64 ((wd 1 0:Nat):Int),.int .u64 ((wd 2 0:Nat):Int),.int .u64 ((wd 3 0:Nat):Int)]):=⟨(Tryz.prog.info? 65).getD default,by kernel_rfl,by kernel_rfl,by kernel_rfl,.agg ([.int .u64 ((wd 0 0:Nat):Int),.int .u64 ((wd 1 0:Nat):Int),.int .u64 ((wd 2 0:Nat):Int),.int .u64 ((wd 3 0:Nat):Int),.int .u64 ((wd 0 0:Nat):Int),.int .u64 ((wd 1 0:Nat):Int),.int .u64 ((wd 2 0:Nat):Int),.int .u64 ((wd 3 0:Nat):Int)]).toArray,by kernel_rfl,by kernel_rfl⟩
instance:ElT Tryz.prog 74 24 ([.slice none 0 0]):=⟨(Tryz.prog.info? 74).getD default,by kernel_rfl,by kernel_rfl,by kernel_rfl,.slice none 0 0,by kernel_rfl,by kernel_rfl⟩
instance:ElT Tryz.prog 77 64 ([.int .u64 ((wd 0 0:Nat):Int),.int .u64 ((wd 1 0:Nat):Int),.int .u64 ((wd 2 0:Nat):Int),.int .u64 ((wd 3 0:Nat):Int),.int .u64 ((wd 0 0:Nat):Int),.int .u64 ((wd 1 0:Nat):Int),.int .u64 ((wd 2 0:Nat):Int),.int .u64 ((wd 3 0:Nat):Int)]):=⟨(Tryz.prog.info? 77).getD default,by kernel_rfl,by kernel_rfl,by kernel_rfl,.agg ([.int .u64 ((wd 0 0:Nat):Int),.int .u64 ((wd 1 0:Nat):Int),.int .u64 ((wd 2 0:Nat):Int),.int .u64 ((wd 3 0:Nat):Int),.int .u64 ((wd 0 0:Nat):Int),.int .u64 ((wd 1 0:Nat):Int),.int .u64 ((wd 2 0:Nat):Int),.int .u64 ((wd 3 0:Nat):Int)]).toArray,by kernel_rfl,by kernel_rfl⟩
instance:ElT Tryz.prog 100 8 ([.nilFunc]):=⟨(Tryz.prog.info? 100).getD default,by kernel_rfl,by kernel_rfl,by kernel_rfl,.nilFunc,by kernel_rfl,by kernel_rfl⟩
theorem Cal.c {f:FuncId} (h:∀ a w,(callFunc f a).run Tryz.prog w=.ok (.enter f a) w:=by intro _ _;kernel_rfl):Cal Tryz.prog f:=⟨h⟩
instance:Cal Tryz.prog 6:=Cal.c
instance:Cal Tryz.prog 7:=Cal.c
instance:Cal Tryz.prog 8:=Cal.c
instance:Cal Tryz.prog 9:=Cal.c
instance:Cal Tryz.prog 10:=Cal.c
instance:Cal Tryz.prog 11:=Cal.c
instance:Cal Tryz.prog 12:=Cal.c
instance:Cal Tryz.prog 13:=Cal.c
instance:Cal Tryz.prog 14:=Cal.c
instance:Cal Tryz.prog 15:=Cal.c
instance:Cal Tryz.prog 16:=Cal.c
instance:Cal Tryz.prog 17:=Cal.c
instance:Cal Tryz.prog 18:=Cal.c
instance:Cal Tryz.prog 19:=Cal.c
instance:Cal Tryz.prog 20:=Cal.c
instance:Cal Tryz.prog 21:=Cal.c
instance:Cal Tryz.prog 22:=Cal.c
instance:Cal Tryz.prog 23:=Cal.c
instance:Cal Tryz.prog 24:=Cal.c
instance:Cal Tryz.prog 25:=Cal.c
instance:Cal Tryz.prog 26:=Cal.c
instance:Cal Tryz.prog 27:=Cal.c
instance:Cal Tryz.prog 28:=Cal.c
instance:Cal Tryz.prog 29:=Cal.c
instance:Cal Tryz.prog 30:=Cal.c
instance:Cal Tryz.prog 31:=Cal.c
instance:Cal Tryz.prog 32:=Cal.c
instance:Cal Tryz.prog 33:=Cal.c
instance:Cal Tryz.prog 34:=Cal.c
instance:Cal Tryz.prog 35:=Cal.c
instance:Cal Tryz.prog 36:=Cal.c
instance:Cal Tryz.prog 37:=Cal.c
instance:Cal Tryz.prog 38:=Cal.c
instance:Cal Tryz.prog 39:=Cal.c
instance:Cal Tryz.prog 40:=Cal.c
instance:Cal Tryz.prog 41:=Cal.c
instance:Cal Tryz.prog 42:=Cal.c
instance:Cal Tryz.prog 43:=Cal.c
instance:Cal Tryz.prog 44:=Cal.c
instance:Cal Tryz.prog 45:=Cal.c
instance:Cal Tryz.prog 46:=Cal.c
instance:Cal Tryz.prog 47:=Cal.c
instance:Cal Tryz.prog 48:=Cal.c
instance:Cal Tryz.prog 49:=Cal.c
instance:Cal Tryz.prog 50:=Cal.c
instance:Cal Tryz.prog 51:=Cal.c
instance:Cal Tryz.prog 52:=Cal.c
instance:Cal Tryz.prog 53:=Cal.c
instance:Cal Tryz.prog 54:=Cal.c
instance:Cal Tryz.prog 55:=Cal.c
instance:Cal Tryz.prog 56:=Cal.c
instance:Cal Tryz.prog 57:=Cal.c
instance:Cal Tryz.prog 58:=Cal.c
instance:Cal Tryz.prog 59:=Cal.c
instance:Cal Tryz.prog 60:=Cal.c
instance:Cal Tryz.prog 61:=Cal.c
instance:Cal Tryz.prog 62:=Cal.c
instance:Cal Tryz.prog 63:=Cal.c
instance:Cal Tryz.prog 64:=Cal.c
instance:Cal Tryz.prog 65:=Cal.c
instance:Cal Tryz.prog 66:=Cal.c
instance:Cal Tryz.prog 67:=Cal.c
instance:Cal Tryz.prog 68:=Cal.c
instance:Cal Tryz.prog 69:=Cal.c
instance:Cal Tryz.prog 70:=Cal.c
instance:Cal Tryz.prog 71:=Cal.c
instance:Cal Tryz.prog 72:=Cal.c
instance:Cal Tryz.prog 73:=Cal.c
instance:Cal Tryz.prog 74:=Cal.c
instance:Cal Tryz.prog 75:=Cal.c
instance:Cal Tryz.prog 76:=Cal.c
instance:Cal Tryz.prog 77:=Cal.c
instance:Cal Tryz.prog 78:=Cal.c
instance:Cal Tryz.prog 79:=Cal.c
instance:Cal Tryz.prog 80:=Cal.c
instance:Cal Tryz.prog 82:=Cal.c
instance:Cal Tryz.prog 83:=Cal.c
instance:Cal Tryz.prog 84:=Cal.c
instance:Cal Tryz.prog 85:=Cal.c
instance:Cal Tryz.prog 86:=Cal.c
instance:Cal Tryz.prog 87:=Cal.c
instance:Cal Tryz.prog 88:=Cal.c
instance:Cal Tryz.prog 89:=Cal.c
instance:Cal Tryz.prog 90:=Cal.c
instance:Cal Tryz.prog 91:=Cal.c
instance:Cal Tryz.prog 92:=Cal.c
instance:Cal Tryz.prog 93:=Cal.c
instance:Cal Tryz.prog 94:=Cal.c
instance:Cal Tryz.prog 95:=Cal.c
instance:Cal Tryz.prog 96:=Cal.c
instance:Cal Tryz.prog 97:=Cal.c
instance:Cal Tryz.prog 98:=Cal.c
instance:Cal Tryz.prog 99:=Cal.c
instance:Cal Tryz.prog 100:=Cal.c
instance:Cal Tryz.prog 101:=Cal.c
instance:Cal Tryz.prog 102:=Cal.c
instance:Cal Tryz.prog 103:=Cal.c
instance:Cal Tryz.prog 104:=Cal.c
instance:Cal Tryz.prog 105:=Cal.c
instance:Cal Tryz.prog 106:=Cal.c
instance:Cal Tryz.prog 107:=Cal.c
instance:Cal Tryz.prog 108:=Cal.c
instance:Cal Tryz.prog 109:=Cal.c
instance:Cal Tryz.prog 110:=Cal.c
instance:Cal Tryz.prog 111:=Cal.c
instance:Cal Tryz.prog 112:=Cal.c
instance:Cal Tryz.prog 113:=Cal.c
instance:Cal Tryz.prog 114:=Cal.c
instance:Cal Tryz.prog 115:=Cal.c
instance:Cal Tryz.prog 116:=Cal.c
instance:Cal Tryz.prog 117:=Cal.c
instance:Cal Tryz.prog 118:=Cal.c
instance:Cal Tryz.prog 119:=Cal.c
instance:Cal Tryz.prog 120:=Cal.c
instance:Cal Tryz.prog 121:=Cal.c
instance:Cal Tryz.prog 127:=Cal.c
instance:Cal Tryz.prog 128:=Cal.c
instance:Cal Tryz.prog 129:=Cal.c
instance:Cal Tryz.prog 130:=Cal.c
instance:Cal Tryz.prog 131:=Cal.c
instance:Cal Tryz.prog 133:=Cal.c
instance:Cal Tryz.prog 134:=Cal.c
instance:Cal Tryz.prog 138:=Cal.c
instance:Cal Tryz.prog 139:=Cal.c
instance:Cal Tryz.prog 140:=Cal.c
instance:Cal Tryz.prog 141:=Cal.c
instance:Cal Tryz.prog 142:=Cal.c
instance:Cal Tryz.prog 147:=Cal.c
instance:Cal Tryz.prog 152:=Cal.c
instance:Cal Tryz.prog 161:=Cal.c
instance:Cal Tryz.prog 162:=Cal.c
instance:Cal Tryz.prog 163:=Cal.c
end Sx
end
end Go.Proofs.YtegjemedanccoaaGreatDoor
