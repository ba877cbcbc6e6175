/- Part 5 of the proof. -/
import Derived.Test.YtiiefkchpicncaaGreatDoorB04
import Derived.Test.YtiiefkchpicncaaGreatDoorProg
set_option linter.unusedSimpArgs false
set_option linter.unusedVariables false
namespace Go.Proofs.YtiiefkchpicncaaGreatDoor
section
open Go Go.RowKit
namespace Sx
instance:Mix Tryz.prog:=⟨by kernel_rfl⟩
instance:InT Tryz.prog 2 .i64:=⟨by kernel_rfl⟩
instance:OnT Tryz.prog 3:=⟨fun _=>by kernel_rfl,fun _=>by kernel_rfl⟩
instance:ZeT Tryz.prog 3 (.int .i64 0):=⟨fun _=>by kernel_rfl⟩
instance:InT Tryz.prog 3 .i64:=⟨by kernel_rfl⟩
instance:OnT Tryz.prog 5:=⟨fun _=>by kernel_rfl,fun _=>by kernel_rfl⟩
instance:InT Tryz.prog 5 .u8:=⟨by kernel_rfl⟩
instance:OnT Tryz.prog 9:=⟨fun _=>by kernel_rfl,fun _=>by kernel_rfl⟩
instance:ahl Tryz.prog 9:=⟨by kernel_rfl⟩
instance:OnT Tryz.prog 22:=⟨fun _=>by kernel_rfl,fun _=>by kernel_rfl⟩
instance:InT Tryz.prog 22 .u64:=⟨by kernel_rfl⟩
instance:AgT Tryz.prog 24 4:=⟨fun _=>by kernel_rfl,fun _=>by kernel_rfl⟩
instance:ZeT Tryz.prog 24 (.agg ([.int .u64 ((wd 0 0:Nat):Int),.int .u64 ((wd 1 0:Nat):Int),.int .u64 ((wd 2 0:Nat):Int),.int .u64 ((wd 3 0:Nat):Int)]).toArray):=⟨fun _=>by kernel_rfl⟩
instance:ArT Tryz.prog 24 4 22 1:=⟨by kernel_rfl,fun _=>by kernel_rfl⟩
instance:AgT Tryz.prog 26 16:=⟨fun _=>by kernel_rfl,fun _=>by kernel_rfl⟩
instance:ZeT Tryz.prog 26 (.agg ([.int .u64 ((wd 0 0:Nat):Int),.int .u64 ((wd 1 0:Nat):Int),.int .u64 ((wd 2 0:Nat):Int),.int .u64 ((wd 3 0:Nat):Int),.int .u64 ((wd 0 0:Nat):Int),.int .u64 ((wd 1 0:Nat):Int),.int .u64 ((wd 2 0:Nat):Int),.int .u64 ((wd 3 0:Nat):Int),.int .u64 ((wd 0 0:Nat):Int),.int .u64 ((wd 1 0:Nat):Int),.int .u64 ((wd 2 0:Nat):Int),.int .u64 ((wd 3 0:Nat):Int),.int .u64 ((wd 0 0:Nat):Int),.int .u64 ((wd 1 0:Nat):Int),.int .u64 ((wd 2 0:Nat):Int),.int .u64 ((wd 3 0:Nat):Int)]).toArray):=⟨fun _=>by kernel_rfl⟩
instance:FlT Tryz.prog 26 0 0:=⟨fun _ _=>by kernel_rfl⟩
instance:FlT Tryz.prog 26 1 4:=⟨fun _ _=>by kernel_rfl⟩
instance:FlT Tryz.prog 26 2 8:=⟨fun _ _=>by kernel_rfl⟩
instance:FlT Tryz.prog 26 3 12:=⟨fun _ _=>by kernel_rfl⟩
instance:OnT Tryz.prog 27:=⟨fun _=>by kernel_rfl,fun _=>by kernel_rfl⟩
instance:SlT Tryz.prog 27 94 8:=⟨by kernel_rfl,fun _=>by kernel_rfl⟩
instance:AgT Tryz.prog 29 23:=⟨fun _=>by kernel_rfl,fun _=>by kernel_rfl⟩
instance:FlT Tryz.prog 29 0 0:=⟨fun _ _=>by kernel_rfl⟩
instance:FlT Tryz.prog 29 1 16:=⟨fun _ _=>by kernel_rfl⟩
instance:FlT Tryz.prog 29 2 20:=⟨fun _ _=>by kernel_rfl⟩
instance:FlT Tryz.prog 29 3 21:=⟨fun _ _=>by kernel_rfl⟩
instance:FlT Tryz.prog 29 4 22:=⟨fun _ _=>by kernel_rfl⟩
instance:OnT Tryz.prog 31:=⟨fun _=>by kernel_rfl,fun _=>by kernel_rfl⟩
instance:SlT Tryz.prog 31 96 8:=⟨by kernel_rfl,fun _=>by kernel_rfl⟩
instance:AgT Tryz.prog 33 19:=⟨fun _=>by kernel_rfl,fun _=>by kernel_rfl⟩
instance:ZeT Tryz.prog 33 (.agg ([.int .u64 ((wd 0 0:Nat):Int),.int .u64 ((wd 1 0:Nat):Int),.int .u64 ((wd 2 0:Nat):Int),.int .u64 ((wd 3 0:Nat):Int),.int .u64 ((wd 0 0:Nat):Int),.int .u64 ((wd 1 0:Nat):Int),.int .u64 ((wd 2 0:Nat):Int),.int .u64 ((wd 3 0:Nat):Int),.int .u64 ((wd 0 0:Nat):Int),.int .u64 ((wd 1 0:Nat):Int),.int .u64 ((wd 2 0:Nat):Int),.int .u64 ((wd 3 0:Nat):Int),.int .u64 ((wd 0 0:Nat):Int),.int .u64 ((wd 1 0:Nat):Int),.int .u64 ((wd 2 0:Nat):Int),.int .u64 ((wd 3 0:Nat):Int),.int .i64 0,.int .i64 0,.slice none 0 0]).toArray):=⟨fun _=>by kernel_rfl⟩
instance:BuT Tryz.prog 33 [(0,16),(16,1),(17,1),(18,1)] ([.int .u64 ((wd 0 0:Nat):Int),.int .u64 ((wd 1 0:Nat):Int),.int .u64 ((wd 2 0:Nat):Int),.int .u64 ((wd 3 0:Nat):Int),.int .u64 ((wd 0 0:Nat):Int),.int .u64 ((wd 1 0:Nat):Int),.int .u64 ((wd 2 0:Nat):Int),.int .u64 ((wd 3 0:Nat):Int),.int .u64 ((wd 0 0:Nat):Int),.int .u64 ((wd 1 0:Nat):Int),.int .u64 ((wd 2 0:Nat):Int),.int .u64 ((wd 3 0:Nat):Int),.int .u64 ((wd 0 0:Nat):Int),.int .u64 ((wd 1 0:Nat):Int),.int .u64 ((wd 2 0:Nat):Int),.int .u64 ((wd 3 0:Nat):Int),.int .i64 0,.int .i64 0,.slice none 0 0]):=⟨fun _=>by kernel_rfl,by kernel_rfl,fun _=>by kernel_rfl⟩
instance:FlT Tryz.prog 33 0 0:=⟨fun _ _=>by kernel_rfl⟩
instance:FlT Tryz.prog 33 1 16:=⟨fun _ _=>by kernel_rfl⟩
instance:FlT Tryz.prog 33 2 17:=⟨fun _ _=>by kernel_rfl⟩
instance:FlT Tryz.prog 33 3 18:=⟨fun _ _=>by kernel_rfl⟩
instance:OnT Tryz.prog 38:=⟨fun _=>by kernel_rfl,fun _=>by kernel_rfl⟩
instance:ZeT Tryz.prog 38 (.int .i64 0):=⟨fun _=>by kernel_rfl⟩
instance:OnT Tryz.prog 41:=⟨fun _=>by kernel_rfl,fun _=>by kernel_rfl⟩
instance:SlT Tryz.prog 41 47 13:=⟨by kernel_rfl,fun _=>by kernel_rfl⟩
instance:OnT Tryz.prog 42:=⟨fun _=>by kernel_rfl,fun _=>by kernel_rfl⟩
instance:ZeT Tryz.prog 42 (.slice none 0 0):=⟨fun _=>by kernel_rfl⟩
instance:SlT Tryz.prog 42 24 4:=⟨by kernel_rfl,fun _=>by kernel_rfl⟩
instance:OnT Tryz.prog 43:=⟨fun _=>by kernel_rfl,fun _=>by kernel_rfl⟩
instance:SlT Tryz.prog 43 86 8:=⟨by kernel_rfl,fun _=>by kernel_rfl⟩
instance:AgT Tryz.prog 45 8:=⟨fun _=>by kernel_rfl,fun _=>by kernel_rfl⟩
instance:ZeT Tryz.prog 45 (.agg ([.int .u64 ((wd 0 0:Nat):Int),.int .u64 ((wd 1 0:Nat):Int),.int .u64 ((wd 2 0:Nat):Int),.int .u64 ((wd 3 0:Nat):Int),.int .u64 ((wd 0 0:Nat):Int),.int .u64 ((wd 1 0:Nat):Int),.int .u64 ((wd 2 0:Nat):Int),.int .u64 ((wd 3 0:Nat):Int)]).toArray):=⟨fun _=>by kernel_rfl⟩
instance:BuT Tryz.prog 45 [(0,4),(4,4)] ([.int .u64 ((wd 0 0:Nat):Int),.int .u64 ((wd 1 0:Nat):Int),.int .u64 ((wd 2 0:Nat):Int),.int .u64 ((wd 3 0:Nat):Int),.int .u64 ((wd 0 0:Nat):Int),.int .u64 ((wd 1 0:Nat):Int),.int .u64 ((wd 2 0:Nat):Int),.int .u64 ((wd 3 0:Nat):Int)]):=⟨fun _=>by kernel_rfl,by kernel_rfl,fun _=>by kernel_rfl⟩
instance:FlT Tryz.prog 45 0 0:=⟨fun _ _=>by kernel_rfl⟩
instance:FlT Tryz.prog 45 1 4:=⟨fun _ _=>by kernel_rfl⟩
instance:AgT Tryz.prog 47 13:=⟨fun _=>by kernel_rfl,fun _=>by kernel_rfl⟩
instance:ZeT Tryz.prog 47 (.agg ([.int .u64 0,.int .u8 0,.slice none 0 0,.slice none 0 0,.slice none 0 0,.int .u64 ((wd 0 0:Nat):Int),.int .u64 ((wd 1 0:Nat):Int),.int .u64 ((wd 2 0:Nat):Int),.int .u64 ((wd 3 0:Nat):Int),.int .u64 ((wd 0 0:Nat):Int),.int .u64 ((wd 1 0:Nat):Int),.int .u64 ((wd 2 0:Nat):Int),.int .u64 ((wd 3 0:Nat):Int)]).toArray):=⟨fun _=>by kernel_rfl⟩
instance:BuT Tryz.prog 47 [(0,1),(1,1),(2,1),(3,1),(4,1),(5,8)] ([.int .u64 0,.int .u8 0,.slice none 0 0,.slice none 0 0,.slice none 0 0,.int .u64 ((wd 0 0:Nat):Int),.int .u64 ((wd 1 0:Nat):Int),.int .u64 ((wd 2 0:Nat):Int),.int .u64 ((wd 3 0:Nat):Int),.int .u64 ((wd 0 0:Nat):Int),.int .u64 ((wd 1 0:Nat):Int),.int .u64 ((wd 2 0:Nat):Int),.int .u64 ((wd 3 0:Nat):Int)]):=⟨fun _=>by kernel_rfl,by kernel_rfl,fun _=>by kernel_rfl⟩
instance:FlT Tryz.prog 47 0 0:=⟨fun _ _=>by kernel_rfl⟩
instance:FlT Tryz.prog 47 1 1:=⟨fun _ _=>by kernel_rfl⟩
instance:FlT Tryz.prog 47 2 2:=⟨fun _ _=>by kernel_rfl⟩
instance:FlT Tryz.prog 47 3 3:=⟨fun _ _=>by kernel_rfl⟩
instance:FlT Tryz.prog 47 4 4:=⟨fun _ _=>by kernel_rfl⟩
instance:FlT Tryz.prog 47 5 5:=⟨fun _ _=>by kernel_rfl⟩
instance:OnT Tryz.prog 49:=⟨fun _=>by kernel_rfl,fun _=>by kernel_rfl⟩
instance:SlT Tryz.prog 49 103 1:=⟨by kernel_rfl,fun _=>by kernel_rfl⟩
instance:BuT Tryz.prog 51 [(0,1),(1,1)] ([.int .u8 0,.slice none 0 0]):=⟨fun _=>by kernel_rfl,by kernel_rfl,fun _=>by kernel_rfl⟩
instance:FlT Tryz.prog 51 0 0:=⟨fun _ _=>by kernel_rfl⟩
instance:FlT Tryz.prog 51 1 1:=⟨fun _ _=>by kernel_rfl⟩
instance:AgT Tryz.prog 53 32:=⟨fun _=>by kernel_rfl,fun _=>by kernel_rfl⟩
instance:ZeT Tryz.prog 53 (.agg (List.replicate 32 (.int .u8 0)).toArray):=⟨fun _=>by kernel_rfl⟩
instance:ArT Tryz.prog 53 32 5 1:=⟨by kernel_rfl,fun _=>by kernel_rfl⟩
instance:SlT Tryz.prog 59 53 32:=⟨by kernel_rfl,fun _=>by kernel_rfl⟩
instance:OnT Tryz.prog 65:=⟨fun _=>by kernel_rfl,fun _=>by kernel_rfl⟩
instance:SlT Tryz.prog 65 49 1:=⟨by kernel_rfl,fun _=>by kernel_rfl⟩
instance:AgT Tryz.prog 67 3:=⟨fun _=>by kernel_rfl,fun _=>by kernel_rfl⟩
instance:FlT Tryz.prog 67 0 0:=⟨fun _ _=>by kernel_rfl⟩
instance:FlT Tryz.prog 67 1 1:=⟨fun _ _=>by kernel_rfl⟩
instance:FlT Tryz.prog 67 2 2:=⟨fun _ _=>by kernel_rfl⟩
instance:SlT Tryz.prog 69 42 1:=⟨by kernel_rfl,fun _=>by kernel_rfl⟩
instance:OnT Tryz.prog 72:=⟨fun _=>by kernel_rfl,fun _=>by kernel_rfl⟩
instance:SlT Tryz.prog 72 74 3:=⟨by kernel_rfl,fun _=>by kernel_rfl⟩
instance:AgT Tryz.prog 74 3:=⟨fun _=>by kernel_rfl,fun _=>by kernel_rfl⟩
instance:ZeT Tryz.prog 74 (.agg ([.int .u64 0,.int .u8 0,.slice none 0 0]).toArray):=⟨fun _=>by kernel_rfl⟩
instance:BuT Tryz.prog 74 [(0,1),(1,1),(2,1)] ([.int .u64 0,.int .u8 0,.slice none 0 0]):=⟨fun _=>by kernel_rfl,by kernel_rfl,fun _=>by kernel_rfl⟩
instance:FlT Tryz.prog 74 0 0:=⟨fun _ _=>by kernel_rfl⟩
instance:FlT Tryz.prog 74 1 1:=⟨fun _ _=>by kernel_rfl⟩
instance:FlT Tryz.prog 74 2 2:=⟨fun _ _=>by kernel_rfl⟩
instance:OnT Tryz.prog 77:=⟨fun _=>by kernel_rfl,fun _=>by kernel_rfl⟩
instance:SlT Tryz.prog 77 88 15:=⟨by kernel_rfl,fun _=>by kernel_rfl⟩
instance:AgT Tryz.prog 79 3:=⟨fun _=>by kernel_rfl,fun _=>by kernel_rfl⟩
instance:BuT Tryz.prog 79 [(0,1),(1,1),(2,1)] ([.slice none 0 0,.slice none 0 0,.slice none 0 0]):=⟨fun _=>by kernel_rfl,by kernel_rfl,fun _=>by kernel_rfl⟩
instance:FlT Tryz.prog 79 0 0:=⟨fun _ _=>by kernel_rfl⟩
instance:FlT Tryz.prog 79 1 1:=⟨fun _ _=>by kernel_rfl⟩
instance:FlT Tryz.prog 79 2 2:=⟨fun _ _=>by kernel_rfl⟩
instance:AgT Tryz.prog 86 8:=⟨fun _=>by kernel_rfl,fun _=>by kernel_rfl⟩
instance:ZeT Tryz.prog 86 (.agg ([.int .u64 ((wd 0 0:Nat):Int),.int .u64 ((wd 1 0:Nat):Int),.int .u64 ((wd 2 0:Nat):Int),.int .u64 ((wd 3 0:Nat):Int),.int .u64 ((wd 0 0:Nat):Int),.int .u64 ((wd 1 0:Nat):Int),.int .u64 ((wd 2 0:Nat):Int),.int .u64 ((wd 3 0:Nat):Int)]).toArray):=⟨fun _=>by kernel_rfl⟩
instance:BuT Tryz.prog 86 [(0,4),(4,4)] ([.int .u64 ((wd 0 0:Nat):Int),.int .u64 ((wd 1 0:Nat):Int),.int .u64 ((wd 2 0:Nat):Int),.int .u64 ((wd 3 0:Nat):Int),.int .u64 ((wd 0 0:Nat):Int),.int .u64 ((wd 1 0:Nat):Int),.int .u64 ((wd 2 0:Nat):Int),.int .u64 ((wd 3 0:Nat):Int)]):=⟨fun _=>by kernel_rfl,by kernel_rfl,fun _=>by kernel_rfl⟩
instance:FlT Tryz.prog 86 0 0:=⟨fun _ _=>by kernel_rfl⟩
instance:FlT Tryz.prog 86 1 4:=⟨fun _ _=>by kernel_rfl⟩
instance:AgT Tryz.prog 88 15:=⟨fun _=>by kernel_rfl,fun _=>by kernel_rfl⟩
instance:ZeT Tryz.prog 88 (.agg ([.int .u64 0,.int .u8 0,.int .u8 0,.int .u64 ((wd 0 0:Nat):Int),.int .u64 ((wd 1 0:Nat):Int),.int .u64 ((wd 2 0:Nat):Int),.int .u64 ((wd 3 0:Nat):Int),.int .u64 ((wd 0 0:Nat):Int),.int .u64 ((wd 1 0:Nat):Int),.int .u64 ((wd 2 0:Nat):Int),.int .u64 ((wd 3 0:Nat):Int),.int .u64 ((wd 0 0:Nat):Int),.int .u64 ((wd 1 0:Nat):Int),.int .u64 ((wd 2 0:Nat):Int),.int .u64 ((wd 3 0:Nat):Int)]).toArray):=⟨fun _=>by kernel_rfl⟩
instance:BuT Tryz.prog 88 [(0,1),(1,1),(2,1),(3,4),(7,8)] ([.int .u64 0,.int .u8 0,.int .u8 0,.int .u64 ((wd 0 0:Nat):Int),.int .u64 ((wd 1 0:Nat):Int),.int .u64 ((wd 2 0:Nat):Int),.int .u64 ((wd 3 0:Nat):Int),.int .u64 ((wd 0 0:Nat):Int),.int .u64 ((wd 1 0:Nat):Int),.int .u64 ((wd 2 0:Nat):Int),.int .u64 ((wd 3 0:Nat):Int),.int .u64 ((wd 0 0:Nat):Int),.int .u64 ((wd 1 0:Nat):Int),.int .u64 ((wd 2 0:Nat):Int),.int .u64 ((wd 3 0:Nat):Int)]):=⟨fun _=>by kernel_rfl,by kernel_rfl,fun _=>by kernel_rfl⟩
instance:FlT Tryz.prog 88 0 0:=⟨fun _ _=>by kernel_rfl⟩
instance:FlT Tryz.prog 88 1 1:=⟨fun _ _=>by kernel_rfl⟩
instance:FlT Tryz.prog 88 2 2:=⟨fun _ _=>by kernel_rfl⟩
instance:FlT Tryz.prog 88 3 3:=⟨fun _ _=>by kernel_rfl⟩
instance:FlT Tryz.prog 88 4 7:=⟨fun _ _=>by kernel_rfl⟩
instance:AgT Tryz.prog 94 8:=⟨fun _=>by kernel_rfl,fun _=>by kernel_rfl⟩
instance:ZeT Tryz.prog 94 (.agg ([.int .u64 ((wd 0 0:Nat):Int),.int .u64 ((wd 1 0:Nat):Int),.int .u64 ((wd 2 0:Nat):Int),.int .u64 ((wd 3 0:Nat):Int),.int .u64 ((wd 0 0:Nat):Int),.int .u64 ((wd 1 0:Nat):Int),.int .u64 ((wd 2 0:Nat):Int),.int .u64 ((wd 3 0:Nat):Int)]).toArray):=⟨fun _=>by kernel_rfl⟩
instance:FlT Tryz.prog 94 0 0:=⟨fun _ _=>by kernel_rfl⟩
instance:FlT Tryz.prog 94 1 4:=⟨fun _ _=>by kernel_rfl⟩
instance:AgT Tryz.prog 96 8:=⟨fun _=>by kernel_rfl,fun _=>by kernel_rfl⟩
instance:BuT Tryz.prog 96 [(0,4),(4,4)] ([.int .u64 ((wd 0 0:Nat):Int),.int .u64 ((wd 1 0:Nat):Int),.int .u64 ((wd 2 0:Nat):Int),.int .u64 ((wd 3 0:Nat):Int),.int .u64 ((wd 0 0:Nat):Int),.int .u64 ((wd 1 0:Nat):Int),.int .u64 ((wd 2 0:Nat):Int),.int .u64 ((wd 3 0:Nat):Int)]):=⟨fun _=>by kernel_rfl,by kernel_rfl,fun _=>by kernel_rfl⟩
instance:FlT Tryz.prog 96 0 0:=⟨fun _ _=>by kernel_rfl⟩
instance:FlT Tryz.prog 96 1 4:=⟨fun _ _=>by kernel_rfl⟩
instance:OnT Tryz.prog 103:=⟨fun _=>by kernel_rfl,fun _=>by kernel_rfl⟩
instance:InT Tryz.prog 103 .u32:=⟨by kernel_rfl⟩
instance:OnT Tryz.prog 105:=⟨fun _=>by kernel_rfl,fun _=>by kernel_rfl⟩
instance:SlT Tryz.prog 105 5 1:=⟨by kernel_rfl,fun _=>by kernel_rfl⟩
instance:OnT Tryz.prog 120:=⟨fun _=>by kernel_rfl,fun _=>by kernel_rfl⟩
instance:OnT Tryz.prog 127:=⟨fun _=>by kernel_rfl,fun _=>by kernel_rfl⟩
instance:ZeT Tryz.prog 127 (.nilFunc):=⟨fun _=>by kernel_rfl⟩
instance:OnT Tryz.prog 130:=⟨fun _=>by kernel_rfl,fun _=>by kernel_rfl⟩
instance:ZeT Tryz.prog 130 (.slice none 0 0):=⟨fun _=>by kernel_rfl⟩
instance:SlT Tryz.prog 130 105 1:=⟨by kernel_rfl,fun _=>by kernel_rfl⟩
instance:OnT Tryz.prog 164:=⟨fun _=>by kernel_rfl,fun _=>by kernel_rfl⟩
instance:OnT Tryz.prog 167:=⟨fun _=>by kernel_rfl,fun _=>by kernel_rfl⟩
instance:ZeT Tryz.prog 167 (.pointer none):=⟨fun _=>by kernel_rfl⟩
instance:BuT Tryz.prog 169 [(0,1)] ([.int .i64 0]):=⟨fun _=>by kernel_rfl,by kernel_rfl,fun _=>by kernel_rfl⟩
instance:FlT Tryz.prog 169 0 0:=⟨fun _ _=>by kernel_rfl⟩
instance:SlT Tryz.prog 174 120 1:=⟨by kernel_rfl,fun _=>by kernel_rfl⟩
instance:SlT Tryz.prog 185 22 1:=⟨by kernel_rfl,fun _=>by kernel_rfl⟩
instance:OnT Tryz.prog 191:=⟨fun _=>by kernel_rfl,fun _=>by kernel_rfl⟩
instance:BuT Tryz.prog 194 [(0,1)] ([.nilFunc]):=⟨fun _=>by kernel_rfl,by kernel_rfl,fun _=>by kernel_rfl⟩
instance:FlT Tryz.prog 194 0 0:=⟨fun _ _=>by kernel_rfl⟩
instance:InT Tryz.prog 195 .u64:=⟨by kernel_rfl⟩
instance:OnT Tryz.prog 200:=⟨fun _=>by kernel_rfl,fun _=>by kernel_rfl⟩
instance:AgT Tryz.prog 202 2:=⟨fun _=>by kernel_rfl,fun _=>by kernel_rfl⟩
instance:ZeT Tryz.prog 202 (.agg ([.int .i64 0,.nilFunc]).toArray):=⟨fun _=>by kernel_rfl⟩
instance:BuT Tryz.prog 202 [(0,1),(1,1)] ([.int .i64 0,.nilFunc]):=⟨fun _=>by kernel_rfl,by kernel_rfl,fun _=>by kernel_rfl⟩
instance:FlT Tryz.prog 202 0 0:=⟨fun _ _=>by kernel_rfl⟩
instance:FlT Tryz.prog 202 1 1:=⟨fun _ _=>by kernel_rfl⟩
instance:FiT Tryz.prog 202 1 1 200:=⟨fun _ _=>by kernel_rfl⟩
instance:AgT Tryz.prog 205 17:=⟨fun _=>by kernel_rfl,fun _=>by kernel_rfl⟩
instance:ZeT Tryz.prog 205 (.agg ([.int .u64 ((wd 0 0:Nat):Int),.int .u64 ((wd 1 0:Nat):Int),.int .u64 ((wd 2 0:Nat):Int),.int .u64 ((wd 3 0:Nat):Int),.int .u64 ((wd 0 0:Nat):Int),.int .u64 ((wd 1 0:Nat):Int),.int .u64 ((wd 2 0:Nat):Int),.int .u64 ((wd 3 0:Nat):Int),.int .u64 ((wd 0 0:Nat):Int),.int .u64 ((wd 1 0:Nat):Int),.int .u64 ((wd 2 0:Nat):Int),.int .u64 ((wd 3 0:Nat):Int),.int .u64 ((wd 0 0:Nat):Int),.int .u64 ((wd 1 0:Nat):Int),.int .u64 ((wd 2 0:Nat):Int),.int .u64 ((wd 3 0:Nat):Int),.string ⟨#[]⟩]).toArray):=⟨fun _=>by kernel_rfl⟩
instance:BuT Tryz.prog 205 [(0,16),(16,1)] ([.int .u64 ((wd 0 0:Nat):Int),.int .u64 ((wd 1 0:Nat):Int),.int .u64 ((wd 2 0:Nat):Int),.int .u64 ((wd 3 0:Nat):Int),.int .u64 ((wd 0 0:Nat):Int),.int .u64 ((wd 1 0:Nat):Int),.int .u64 ((wd 2 0:Nat):Int),.int .u64 ((wd 3 0:Nat):Int),.int .u64 ((wd 0 0:Nat):Int),.int .u64 ((wd 1 0:Nat):Int),.int .u64 ((wd 2 0:Nat):Int),.int .u64 ((wd 3 0:Nat):Int),.int .u64 ((wd 0 0:Nat):Int),.int .u64 ((wd 1 0:Nat):Int),.int .u64 ((wd 2 0:Nat):Int),.int .u64 ((wd 3 0:Nat):Int),.string ⟨#[]⟩]):=⟨fun _=>by kernel_rfl,by kernel_rfl,fun _=>by kernel_rfl⟩
instance:FlT Tryz.prog 205 0 0:=⟨fun _ _=>by kernel_rfl⟩
instance:FlT Tryz.prog 205 1 16:=⟨fun _ _=>by kernel_rfl⟩
instance:AgT Tryz.prog 211 8:=⟨fun _=>by kernel_rfl,fun _=>by kernel_rfl⟩
instance:ZeT Tryz.prog 211 (.agg ([.int .u32 0,.int .u32 0,.int .u32 0,.int .u32 0,.int .u32 0,.int .u32 0,.int .u32 0,.int .u32 0]).toArray):=⟨fun _=>by kernel_rfl⟩
instance:ArT Tryz.prog 211 8 103 1:=⟨by kernel_rfl,fun _=>by kernel_rfl⟩
instance:AgT Tryz.prog 213 64:=⟨fun _=>by kernel_rfl,fun _=>by kernel_rfl⟩
instance:ArT Tryz.prog 213 64 5 1:=⟨by kernel_rfl,fun _=>by kernel_rfl⟩
instance:AgT Tryz.prog 215 74:=⟨fun _=>by kernel_rfl,fun _=>by kernel_rfl⟩
instance:ZeT Tryz.prog 215 (.agg (([.int .i64 0,.int .u32 0,.int .u32 0,.int .u32 0,.int .u32 0,.int .u32 0,.int .u32 0,.int .u32 0,.int .u32 0]:List Value)++(List.replicate 64 (.int .u8 0):List Value)++([.int .u64 0]:List Value)).toArray):=⟨fun _=>by kernel_rfl⟩
instance:BuT Tryz.prog 215 [(0,1),(1,8),(9,64),(73,1)] (([.int .i64 0,.int .u32 0,.int .u32 0,.int .u32 0,.int .u32 0,.int .u32 0,.int .u32 0,.int .u32 0,.int .u32 0]:List Value)++(List.replicate 64 (.int .u8 0):List Value)++([.int .u64 0]:List Value)):=⟨fun _=>by kernel_rfl,by kernel_rfl,fun _=>by kernel_rfl⟩
instance:FlT Tryz.prog 215 0 0:=⟨fun _ _=>by kernel_rfl⟩
instance:FlT Tryz.prog 215 1 1:=⟨fun _ _=>by kernel_rfl⟩
instance:FlT Tryz.prog 215 2 9:=⟨fun _ _=>by kernel_rfl⟩
instance:FlT Tryz.prog 215 3 73:=⟨fun _ _=>by kernel_rfl⟩
instance:SlT Tryz.prog 221 164 1:=⟨by kernel_rfl,fun _=>by kernel_rfl⟩
instance:AgT Tryz.prog 229 1:=⟨fun _=>by kernel_rfl,fun _=>by kernel_rfl⟩
instance:ZeT Tryz.prog 229 (.agg ([.int .i64 0]).toArray):=⟨fun _=>by kernel_rfl⟩
instance:BuT Tryz.prog 229 [(0,1)] ([.int .i64 0]):=⟨fun _=>by kernel_rfl,by kernel_rfl,fun _=>by kernel_rfl⟩
instance:FlT Tryz.prog 229 0 0:=⟨fun _ _=>by kernel_rfl⟩
instance:ZeT Tryz.prog 230 (.agg ([.int .u64 ((wd 0 0:Nat):Int),.int .u64 ((wd 1 0:Nat):Int),.int .u64 ((wd 2 0:Nat):Int),.int .u64 ((wd 3 0:Nat):Int),.int .u64 ((wd 0 0:Nat):Int),.int .u64 ((wd 1 0:Nat):Int),.int .u64 ((wd 2 0:Nat):Int),.int .u64 ((wd 3 0:Nat):Int),.int .u64 ((wd 0 0:Nat):Int),.int .u64 ((wd 1 0:Nat):Int),.int .u64 ((wd 2 0:Nat):Int),.int .u64 ((wd 3 0:Nat):Int),.int .u64 ((wd 0 0:Nat):Int),.int .u64 ((wd 1 0:Nat):Int),.int .u64 ((wd 2 0:Nat):Int),.int .u64 ((wd 3 0:Nat):Int)]).toArray):=⟨fun _=>by kernel_rfl⟩
instance:ArT Tryz.prog 230 4 24 4:=⟨by kernel_rfl,fun _=>by kernel_rfl⟩
instance:AgT Tryz.prog 235 2:=⟨fun _=>by kernel_rfl,fun _=>by kernel_rfl⟩
instance:ZeT Tryz.prog 235 (.agg ([.int .u64 0,.int .u64 0]).toArray):=⟨fun _=>by kernel_rfl⟩
instance:ArT Tryz.prog 235 2 22 1:=⟨by kernel_rfl,fun _=>by kernel_rfl⟩
instance:SlT Tryz.prog 237 238 15:=⟨by kernel_rfl,fun _=>by kernel_rfl⟩
instance:AgT Tryz.prog 238 15:=⟨fun _=>by kernel_rfl,fun _=>by kernel_rfl⟩
instance:ZeT Tryz.prog 238 (.agg ([.int .u64 0,.int .u8 0,.int .u8 0,.int .u64 ((wd 0 0:Nat):Int),.int .u64 ((wd 1 0:Nat):Int),.int .u64 ((wd 2 0:Nat):Int),.int .u64 ((wd 3 0:Nat):Int),.int .u64 ((wd 0 0:Nat):Int),.int .u64 ((wd 1 0:Nat):Int),.int .u64 ((wd 2 0:Nat):Int),.int .u64 ((wd 3 0:Nat):Int),.int .u64 ((wd 0 0:Nat):Int),.int .u64 ((wd 1 0:Nat):Int),.int .u64 ((wd 2 0:Nat):Int),.int .u64 ((wd 3 0:Nat):Int)]).toArray):=⟨fun _=>by kernel_rfl⟩
instance:FlT Tryz.prog 238 2 2:=⟨fun _ _=>by kernel_rfl⟩
instance:FlT Tryz.prog 238 3 3:=⟨fun _ _=>by kernel_rfl⟩
instance:OnT Tryz.prog 242:=⟨fun _=>by kernel_rfl,fun _=>by kernel_rfl⟩
instance:SlT Tryz.prog 242 3 1:=⟨by kernel_rfl,fun _=>by kernel_rfl⟩
instance:OnT Tryz.prog 250:=⟨fun _=>by kernel_rfl,fun _=>by kernel_rfl⟩
instance:ZeT Tryz.prog 250 (.pointer none):=⟨fun _=>by kernel_rfl⟩
instance:BuT Tryz.prog 252 [(0,16),(16,1)] ([.int .u64 ((wd 0 0:Nat):Int),.int .u64 ((wd 1 0:Nat):Int),.int .u64 ((wd 2 0:Nat):Int),.int .u64 ((wd 3 0:Nat):Int),.int .u64 ((wd 0 0:Nat):Int),.int .u64 ((wd 1 0:Nat):Int),.int .u64 ((wd 2 0:Nat):Int),.int .u64 ((wd 3 0:Nat):Int),.int .u64 ((wd 0 0:Nat):Int),.int .u64 ((wd 1 0:Nat):Int),.int .u64 ((wd 2 0:Nat):Int),.int .u64 ((wd 3 0:Nat):Int),.int .u64 ((wd 0 0:Nat):Int),.int .u64 ((wd 1 0:Nat):Int),.int .u64 ((wd 2 0:Nat):Int),.int .u64 ((wd 3 0:Nat):Int),.int .i64 0]):=⟨fun _=>by kernel_rfl,by kernel_rfl,fun _=>by kernel_rfl⟩
instance:FlT Tryz.prog 252 0 0:=⟨fun _ _=>by kernel_rfl⟩
instance:FlT Tryz.prog 252 1 16:=⟨fun _ _=>by kernel_rfl⟩
instance:AgT Tryz.prog 300 64:=⟨fun _=>by kernel_rfl,fun _=>by kernel_rfl⟩
instance:ZeT Tryz.prog 300 (.agg (List.replicate 64 (.int .u32 0)).toArray):=⟨fun _=>by kernel_rfl⟩
instance:ArT Tryz.prog 300 64 103 1:=⟨by kernel_rfl,fun _=>by kernel_rfl⟩
instance:ElT Tryz.prog 3 8 ([.int .i64 0]):=⟨(Tryz.prog.info? 3).getD default,by kernel_rfl,by kernel_rfl,by kernel_rfl,.int .i64 0,by kernel_rfl,by kernel_rfl⟩
instance:ElT Tryz.prog 5 1 ([.int .u8 0]):=⟨(Tryz.prog.info? 5).getD default,by kernel_rfl,by kernel_rfl,by kernel_rfl,.int .u8 0,by kernel_rfl,by kernel_rfl⟩
instance:ElT Tryz.prog 22 8 ([.int .u64 0]):=⟨(Tryz.prog.info? 22).getD default,by kernel_rfl,by kernel_rfl,by kernel_rfl,.int .u64 0,by kernel_rfl,by kernel_rfl⟩
instance:ElT Tryz.prog 24 32 ([.int .u64 ((wd 0 0:Nat):Int),.int .u64 ((wd 1 0:Nat):Int),.int .u64 ((wd 2 0:Nat):Int),.int .u64 ((wd 3 0:Nat):Int)]):=⟨(Tryz.prog.info? 24).getD default,by kernel_rfl,by kernel_rfl,by kernel_rfl,.agg ([.int .u64 ((wd 0 0:Nat):Int),.int .u64 ((wd 1 0:Nat):Int),.int .u64 ((wd 2 0:Nat):Int),.int .u64 ((wd 3 0:Nat):Int)]).toArray,by kernel_rfl,by kernel_rfl⟩
instance:ElT Tryz.prog 42 24 ([.slice none 0 0]):=⟨(Tryz.prog.info? 42).getD default,by kernel_rfl,by kernel_rfl,by kernel_rfl,.slice none 0 0,by kernel_rfl,by kernel_rfl⟩
instance:ElT Tryz.prog 47 152 ([.int .u64 0,.int .u8 0,.slice none 0 0,.slice none 0 0,.slice none 0 0,.int .u64 ((wd 0 0:Nat):Int),.int .u64 ((wd 1 0:Nat):Int),.int .u64 ((wd 2 0:Nat):Int),.int .u64 ((wd 3 0:Nat):Int),.int .u64 ((wd 0 0:Nat):Int),.int .u64 ((wd 1 0:Nat):Int),.int .u64 ((wd 2 0:Nat):Int),.int .u64 ((wd 3 0:Nat):Int)]):=⟨(Tryz.prog.info? 47).getD default,by kernel_rfl,by kernel_rfl,by kernel_rfl,.agg ([.int .u64 0,.int .u8 0,.slice none 0 0,.slice none 0 0,.slice none 0 0,.int .u64 ((wd 0 0:Nat):Int),.int .u64 ((wd 1 0:Nat):Int),.int .u64 ((wd 2 0:Nat):Int),.int .u64 ((wd 3 0:Nat):Int),.int .u64 ((wd 0 0:Nat):Int),.int .u64 ((wd 1 0:Nat):Int),.int .u64 ((wd 2 0:Nat):Int),.int .u64 ((wd 3 0:Nat):Int)]).toArray,by kernel_rfl,by kernel_rfl⟩
instance:ElT Tryz.prog 53 32 (List.replicate 32 (.int .u8 0)):=⟨(Tryz.prog.info? 53).getD default,by kernel_rfl,by kernel_rfl,by kernel_rfl,.agg (List.replicate 32 (.int .u8 0)).toArray,by kernel_rfl,by kernel_rfl⟩
instance:ElT Tryz.prog 74 40 ([.int .u64 0,.int .u8 0,.slice none 0 0]):=⟨(Tryz.prog.info? 74).getD default,by kernel_rfl,by kernel_rfl,by kernel_rfl,.agg ([.int .u64 0,.int .u8 0,.slice none 0 0]).toArray,by kernel_rfl,by kernel_rfl⟩
instance:ElT Tryz.prog 86 64 ([.int .u64 ((wd 0 0:Nat):Int),.int .u64 ((wd 1 0:Nat):Int),.int .u64 ((wd 2 0:Nat):Int),.int .u64 ((wd 3 0:Nat):Int),.int .u64 ((wd 0 0:Nat):Int),.int .u64 ((wd 1 0:Nat):Int),.int .u64 ((wd 2 0:Nat):Int),.int .u64 ((wd 3 0:Nat):Int)]):=⟨(Tryz.prog.info? 86).getD default,by kernel_rfl,by kernel_rfl,by kernel_rfl,.agg ([.int .u64 ((wd 0 0:Nat):Int),.int .u64 ((wd 1 0:Nat):Int),.int .u64 ((wd 2 0:Nat):Int),.int .u64 ((wd 3 0:Nat):Int),.int .u64 ((wd 0 0:Nat):Int),.int .u64 ((wd 1 0:Nat):Int),.int .u64 ((wd 2 0:Nat):Int),.int .u64 ((wd 3 0:Nat):Int)]).toArray,by kernel_rfl,by kernel_rfl⟩
instance:ElT Tryz.prog 88 112 ([.int .u64 0,.int .u8 0,.int .u8 0,.int .u64 ((wd 0 0:Nat):Int),.int .u64 ((wd 1 0:Nat):Int),.int .u64 ((wd 2 0:Nat):Int),.int .u64 ((wd 3 0:Nat):Int),.int .u64 ((wd 0 0:Nat):Int),.int .u64 ((wd 1 0:Nat):Int),.int .u64 ((wd 2 0:Nat):Int),.int .u64 ((wd 3 0:Nat):Int),.int .u64 ((wd 0 0:Nat):Int),.int .u64 ((wd 1 0:Nat):Int),.int .u64 ((wd 2 0:Nat):Int),.int .u64 ((wd 3 0:Nat):Int)]):=⟨(Tryz.prog.info? 88).getD default,by kernel_rfl,by kernel_rfl,by kernel_rfl,.agg ([.int .u64 0,.int .u8 0,.int .u8 0,.int .u64 ((wd 0 0:Nat):Int),.int .u64 ((wd 1 0:Nat):Int),.int .u64 ((wd 2 0:Nat):Int),.int .u64 ((wd 3 0:Nat):Int),.int .u64 ((wd 0 0:Nat):Int),.int .u64 ((wd 1 0:Nat):Int),.int .u64 ((wd 2 0:Nat):Int),.int .u64 ((wd 3 0:Nat):Int),.int .u64 ((wd 0 0:Nat):Int),.int .u64 ((wd 1 0:Nat):Int),.int .u64 ((wd 2 0:Nat):Int),.int .u64 ((wd 3 0:Nat):Int)]).toArray,by kernel_rfl,by kernel_rfl⟩
instance:ElT Tryz.prog 96 64 ([.int .u64 ((wd 0 0:Nat):Int),.int .u64 ((wd 1 0:Nat):Int),.int .u64 ((wd 2 0:Nat):Int),.int .u64 ((wd 3 0:Nat):Int),.int .u64 ((wd 0 0:Nat):Int),.int .u64 ((wd 1 0:Nat):Int),.int .u64 ((wd 2 0:Nat):Int),.int .u64 ((wd 3 0:Nat):Int)]):=⟨(Tryz.prog.info? 96).getD default,by kernel_rfl,by kernel_rfl,by kernel_rfl,.agg ([.int .u64 ((wd 0 0:Nat):Int),.int .u64 ((wd 1 0:Nat):Int),.int .u64 ((wd 2 0:Nat):Int),.int .u64 ((wd 3 0:Nat):Int),.int .u64 ((wd 0 0:Nat):Int),.int .u64 ((wd 1 0:Nat):Int),.int .u64 ((wd 2 0:Nat):Int),.int .u64 ((wd 3 0:Nat):Int)]).toArray,by kernel_rfl,by kernel_rfl⟩
instance:ElT Tryz.prog 105 24 ([.slice none 0 0]):=⟨(Tryz.prog.info? 105).getD default,by kernel_rfl,by kernel_rfl,by kernel_rfl,.slice none 0 0,by kernel_rfl,by kernel_rfl⟩
instance:ElT Tryz.prog 120 8 ([.nilFunc]):=⟨(Tryz.prog.info? 120).getD default,by kernel_rfl,by kernel_rfl,by kernel_rfl,.nilFunc,by kernel_rfl,by kernel_rfl⟩
instance:ElT Tryz.prog 164 8 ([.nilFunc]):=⟨(Tryz.prog.info? 164).getD default,by kernel_rfl,by kernel_rfl,by kernel_rfl,.nilFunc,by kernel_rfl,by kernel_rfl⟩
instance:ElT Tryz.prog 238 112 ([.int .u64 0,.int .u8 0,.int .u8 0,.int .u64 ((wd 0 0:Nat):Int),.int .u64 ((wd 1 0:Nat):Int),.int .u64 ((wd 2 0:Nat):Int),.int .u64 ((wd 3 0:Nat):Int),.int .u64 ((wd 0 0:Nat):Int),.int .u64 ((wd 1 0:Nat):Int),.int .u64 ((wd 2 0:Nat):Int),.int .u64 ((wd 3 0:Nat):Int),.int .u64 ((wd 0 0:Nat):Int),.int .u64 ((wd 1 0:Nat):Int),.int .u64 ((wd 2 0:Nat):Int),.int .u64 ((wd 3 0:Nat):Int)]):=⟨(Tryz.prog.info? 238).getD default,by kernel_rfl,by kernel_rfl,by kernel_rfl,.agg ([.int .u64 0,.int .u8 0,.int .u8 0,.int .u64 ((wd 0 0:Nat):Int),.int .u64 ((wd 1 0:Nat):Int),.int .u64 ((wd 2 0:Nat):Int),.int .u64 ((wd 3 0:Nat):Int),.int .u64 ((wd 0 0:Nat):Int),.int .u64 ((wd 1 0:Nat):Int),.int .u64 ((wd 2 0:Nat):Int),.int .u64 ((wd 3 0:Nat):Int),.int .u64 ((wd 0 0:Nat):Int),.int .u64 ((wd 1 0:Nat):Int),.int .u64 ((wd 2 0:Nat):Int),.int .u64 ((wd 3 0:Nat):Int)]).toArray,by kernel_rfl,by kernel_rfl⟩
theorem Cal.c {f:FuncId} (h:∀ a w,(callFunc f a).run Tryz.prog w=.ok (.enter f a) w:=by intro _ _;kernel_rfl):Cal Tryz.prog f:=⟨h⟩
instance:Cal Tryz.prog 7:=Cal.c
instance:Cal Tryz.prog 10:=Cal.c
instance:Cal Tryz.prog 11:=Cal.c
instance:Cal Tryz.prog 17:=Cal.c
instance:Cal Tryz.prog 18:=Cal.c
instance:Cal Tryz.prog 19:=Cal.c
instance:Cal Tryz.prog 20:=Cal.c
instance:Cal Tryz.prog 21:=Cal.c
instance:Cal Tryz.prog 22:=Cal.c
instance:Cal Tryz.prog 23:=Cal.c
instance:Cal Tryz.prog 24:=Cal.c
instance:Cal Tryz.prog 25:=Cal.c
instance:Cal Tryz.prog 26:=Cal.c
instance:Cal Tryz.prog 28:=Cal.c
instance:Cal Tryz.prog 29:=Cal.c
instance:Cal Tryz.prog 30:=Cal.c
instance:Cal Tryz.prog 31:=Cal.c
instance:Cal Tryz.prog 33:=Cal.c
instance:Cal Tryz.prog 39:=Cal.c
instance:Cal Tryz.prog 40:=Cal.c
instance:Cal Tryz.prog 41:=Cal.c
instance:Cal Tryz.prog 42:=Cal.c
instance:Cal Tryz.prog 43:=Cal.c
instance:Cal Tryz.prog 44:=Cal.c
instance:Cal Tryz.prog 49:=Cal.c
instance:Cal Tryz.prog 50:=Cal.c
instance:Cal Tryz.prog 51:=Cal.c
instance:Cal Tryz.prog 52:=Cal.c
instance:Cal Tryz.prog 53:=Cal.c
instance:Cal Tryz.prog 54:=Cal.c
instance:Cal Tryz.prog 55:=Cal.c
instance:Cal Tryz.prog 56:=Cal.c
instance:Cal Tryz.prog 57:=Cal.c
instance:Cal Tryz.prog 58:=Cal.c
instance:Cal Tryz.prog 59:=Cal.c
instance:Cal Tryz.prog 60:=Cal.c
instance:Cal Tryz.prog 61:=Cal.c
instance:Cal Tryz.prog 62:=Cal.c
instance:Cal Tryz.prog 63:=Cal.c
instance:Cal Tryz.prog 64:=Cal.c
instance:Cal Tryz.prog 65:=Cal.c
instance:Cal Tryz.prog 66:=Cal.c
instance:Cal Tryz.prog 67:=Cal.c
instance:Cal Tryz.prog 68:=Cal.c
instance:Cal Tryz.prog 69:=Cal.c
instance:Cal Tryz.prog 70:=Cal.c
instance:Cal Tryz.prog 71:=Cal.c
instance:Cal Tryz.prog 72:=Cal.c
instance:Cal Tryz.prog 73:=Cal.c
instance:Cal Tryz.prog 74:=Cal.c
instance:Cal Tryz.prog 75:=Cal.c
instance:Cal Tryz.prog 76:=Cal.c
instance:Cal Tryz.prog 77:=Cal.c
instance:Cal Tryz.prog 78:=Cal.c
instance:Cal Tryz.prog 79:=Cal.c
instance:Cal Tryz.prog 80:=Cal.c
instance:Cal Tryz.prog 81:=Cal.c
instance:Cal Tryz.prog 82:=Cal.c
instance:Cal Tryz.prog 83:=Cal.c
instance:Cal Tryz.prog 84:=Cal.c
instance:Cal Tryz.prog 85:=Cal.c
instance:Cal Tryz.prog 91:=Cal.c
instance:Cal Tryz.prog 92:=Cal.c
instance:Cal Tryz.prog 93:=Cal.c
instance:Cal Tryz.prog 94:=Cal.c
instance:Cal Tryz.prog 95:=Cal.c
instance:Cal Tryz.prog 96:=Cal.c
instance:Cal Tryz.prog 97:=Cal.c
instance:Cal Tryz.prog 98:=Cal.c
instance:Cal Tryz.prog 99:=Cal.c
instance:Cal Tryz.prog 100:=Cal.c
instance:Cal Tryz.prog 101:=Cal.c
instance:Cal Tryz.prog 102:=Cal.c
instance:Cal Tryz.prog 104:=Cal.c
instance:Cal Tryz.prog 105:=Cal.c
instance:Cal Tryz.prog 106:=Cal.c
instance:Cal Tryz.prog 107:=Cal.c
instance:Cal Tryz.prog 108:=Cal.c
instance:Cal Tryz.prog 109:=Cal.c
instance:Cal Tryz.prog 110:=Cal.c
instance:Cal Tryz.prog 111:=Cal.c
instance:Cal Tryz.prog 112:=Cal.c
instance:Cal Tryz.prog 113:=Cal.c
instance:Cal Tryz.prog 115:=Cal.c
instance:Cal Tryz.prog 116:=Cal.c
instance:Cal Tryz.prog 117:=Cal.c
instance:Cal Tryz.prog 118:=Cal.c
instance:Cal Tryz.prog 119:=Cal.c
instance:Cal Tryz.prog 120:=Cal.c
instance:Cal Tryz.prog 121:=Cal.c
instance:Cal Tryz.prog 122:=Cal.c
instance:Cal Tryz.prog 123:=Cal.c
instance:Cal Tryz.prog 124:=Cal.c
instance:Cal Tryz.prog 125:=Cal.c
instance:Cal Tryz.prog 126:=Cal.c
instance:Cal Tryz.prog 127:=Cal.c
instance:Cal Tryz.prog 128:=Cal.c
instance:Cal Tryz.prog 129:=Cal.c
instance:Cal Tryz.prog 130:=Cal.c
instance:Cal Tryz.prog 131:=Cal.c
instance:Cal Tryz.prog 132:=Cal.c
instance:Cal Tryz.prog 133:=Cal.c
instance:Cal Tryz.prog 134:=Cal.c
instance:Cal Tryz.prog 135:=Cal.c
instance:Cal Tryz.prog 136:=Cal.c
instance:Cal Tryz.prog 137:=Cal.c
instance:Cal Tryz.prog 138:=Cal.c
instance:Cal Tryz.prog 139:=Cal.c
instance:Cal Tryz.prog 140:=Cal.c
instance:Cal Tryz.prog 141:=Cal.c
instance:Cal Tryz.prog 142:=Cal.c
instance:Cal Tryz.prog 143:=Cal.c
instance:Cal Tryz.prog 144:=Cal.c
instance:Cal Tryz.prog 145:=Cal.c
instance:Cal Tryz.prog 146:=Cal.c
instance:Cal Tryz.prog 147:=Cal.c
instance:Cal Tryz.prog 148:=Cal.c
instance:Cal Tryz.prog 149:=Cal.c
instance:Cal Tryz.prog 150:=Cal.c
instance:Cal Tryz.prog 151:=Cal.c
instance:Cal Tryz.prog 152:=Cal.c
instance:Cal Tryz.prog 156:=Cal.c
instance:Cal Tryz.prog 157:=Cal.c
instance:Cal Tryz.prog 158:=Cal.c
instance:Cal Tryz.prog 159:=Cal.c
instance:Cal Tryz.prog 160:=Cal.c
instance:Cal Tryz.prog 161:=Cal.c
instance:Cal Tryz.prog 162:=Cal.c
instance:Cal Tryz.prog 163:=Cal.c
instance:Cal Tryz.prog 164:=Cal.c
instance:Cal Tryz.prog 165:=Cal.c
instance:Cal Tryz.prog 166:=Cal.c
instance:Cal Tryz.prog 167:=Cal.c
instance:Cal Tryz.prog 168:=Cal.c
instance:Cal Tryz.prog 169:=Cal.c
instance:Cal Tryz.prog 170:=Cal.c
instance:Cal Tryz.prog 176:=Cal.c
instance:Cal Tryz.prog 177:=Cal.c
instance:Cal Tryz.prog 178:=Cal.c
instance:Cal Tryz.prog 179:=Cal.c
instance:Cal Tryz.prog 180:=Cal.c
instance:Cal Tryz.prog 182:=Cal.c
instance:Cal Tryz.prog 183:=Cal.c
instance:Cal Tryz.prog 184:=Cal.c
instance:Cal Tryz.prog 185:=Cal.c
instance:Cal Tryz.prog 186:=Cal.c
instance:Cal Tryz.prog 187:=Cal.c
instance:Cal Tryz.prog 188:=Cal.c
instance:Cal Tryz.prog 189:=Cal.c
instance:Cal Tryz.prog 190:=Cal.c
instance:Cal Tryz.prog 191:=Cal.c
instance:Cal Tryz.prog 192:=Cal.c
instance:Cal Tryz.prog 199:=Cal.c
instance:Cal Tryz.prog 201:=Cal.c
instance:Cal Tryz.prog 202:=Cal.c
instance:Cal Tryz.prog 203:=Cal.c
instance:Cal Tryz.prog 204:=Cal.c
instance:Cal Tryz.prog 210:=Cal.c
instance:Cal Tryz.prog 213:=Cal.c
instance:Cal Tryz.prog 214:=Cal.c
instance:Cal Tryz.prog 223:=Cal.c
instance:Cal Tryz.prog 224:=Cal.c
instance:Cal Tryz.prog 225:=Cal.c
instance:Cal Tryz.prog 226:=Cal.c
instance:Cal Tryz.prog 227:=Cal.c
instance:Cal Tryz.prog 237:=Cal.c
instance:Cal Tryz.prog 238:=Cal.c
instance:Cal Tryz.prog 239:=Cal.c
instance:Cal Tryz.prog 241:=Cal.c
end Sx
end
end Go.Proofs.YtiiefkchpicncaaGreatDoor
