/- Part 7 of the proof. -/
import Derived.Test.YteibfbjpkjkejaaGreatDoorS06
import Derived.Test.YteibfbjpkjkejaaGreatDoorProg
set_option linter.unusedSimpArgs false
set_option linter.unusedVariables false
namespace Go.Proofs.YteibfbjpkjkejaaGreatDoor
section
open Go Go.RowKit
namespace Sx
instance:Mix Tryz.prog:=⟨by kernel_rfl⟩
instance:InT Tryz.prog 2 .i64:=⟨by kernel_rfl⟩
instance:OnT Tryz.prog 3:=⟨fun _=>by kernel_rfl,fun _=>by kernel_rfl⟩
instance:ZeT Tryz.prog 3 (.int .i64 0):=⟨fun _=>by kernel_rfl⟩
instance:InT Tryz.prog 3 .i64:=⟨by kernel_rfl⟩
instance:OnT Tryz.prog 5:=⟨fun _=>by kernel_rfl,fun _=>by kernel_rfl⟩
instance:InT Tryz.prog 5 .u8:=⟨by kernel_rfl⟩
instance:OnT Tryz.prog 9:=⟨fun _=>by kernel_rfl,fun _=>by kernel_rfl⟩
instance:ae1 Tryz.prog 9:=⟨by kernel_rfl⟩
instance:OnT Tryz.prog 22:=⟨fun _=>by kernel_rfl,fun _=>by kernel_rfl⟩
instance:InT Tryz.prog 22 .u64:=⟨by kernel_rfl⟩
instance:AgT Tryz.prog 24 4:=⟨fun _=>by kernel_rfl,fun _=>by kernel_rfl⟩
instance:ZeT Tryz.prog 24 (.agg ([.int .u64 ((wd 0 0:Nat):Int),.int .u64 ((wd 1 0:Nat):Int),.int .u64 ((wd 2 0:Nat):Int),.int .u64 ((wd 3 0:Nat):Int)]).toArray):=⟨fun _=>by kernel_rfl⟩
instance:ArT Tryz.prog 24 4 22 1:=⟨by kernel_rfl,fun _=>by kernel_rfl⟩
instance:AgT Tryz.prog 26 16:=⟨fun _=>by kernel_rfl,fun _=>by kernel_rfl⟩
instance:ZeT Tryz.prog 26 (.agg ([.int .u64 ((wd 0 0:Nat):Int),.int .u64 ((wd 1 0:Nat):Int),.int .u64 ((wd 2 0:Nat):Int),.int .u64 ((wd 3 0:Nat):Int),.int .u64 ((wd 0 0:Nat):Int),.int .u64 ((wd 1 0:Nat):Int),.int .u64 ((wd 2 0:Nat):Int),.int .u64 ((wd 3 0:Nat):Int),.int .u64 ((wd 0 0:Nat):Int),.int .u64 ((wd 1 0:Nat):Int),.int .u64 ((wd 2 0:Nat):Int),.int .u64 ((wd 3 0:Nat):Int),.int .u64 ((wd 0 0:Nat):Int),.int .u64 ((wd 1 0:Nat):Int),.int .u64 ((wd 2 0:Nat):Int),.int .u64 ((wd 3 0:Nat):Int)]).toArray):=⟨fun _=>by kernel_rfl⟩
instance:FlT Tryz.prog 26 0 0:=⟨fun _ _=>by kernel_rfl⟩
instance:FlT Tryz.prog 26 1 4:=⟨fun _ _=>by kernel_rfl⟩
instance:FlT Tryz.prog 26 2 8:=⟨fun _ _=>by kernel_rfl⟩
instance:FlT Tryz.prog 26 3 12:=⟨fun _ _=>by kernel_rfl⟩
instance:OnT Tryz.prog 27:=⟨fun _=>by kernel_rfl,fun _=>by kernel_rfl⟩
instance:SlT Tryz.prog 27 76 8:=⟨by kernel_rfl,fun _=>by kernel_rfl⟩
instance:AgT Tryz.prog 29 23:=⟨fun _=>by kernel_rfl,fun _=>by kernel_rfl⟩
instance:ZeT Tryz.prog 29 (.agg ([.int .u64 ((wd 0 0:Nat):Int),.int .u64 ((wd 1 0:Nat):Int),.int .u64 ((wd 2 0:Nat):Int),.int .u64 ((wd 3 0:Nat):Int),.int .u64 ((wd 0 0:Nat):Int),.int .u64 ((wd 1 0:Nat):Int),.int .u64 ((wd 2 0:Nat):Int),.int .u64 ((wd 3 0:Nat):Int),.int .u64 ((wd 0 0:Nat):Int),.int .u64 ((wd 1 0:Nat):Int),.int .u64 ((wd 2 0:Nat):Int),.int .u64 ((wd 3 0:Nat):Int),.int .u64 ((wd 0 0:Nat):Int),.int .u64 ((wd 1 0:Nat):Int),.int .u64 ((wd 2 0:Nat):Int),.int .u64 ((wd 3 0:Nat):Int),.int .u64 ((wd 0 0:Nat):Int),.int .u64 ((wd 1 0:Nat):Int),.int .u64 ((wd 2 0:Nat):Int),.int .u64 ((wd 3 0:Nat):Int),.int .i64 0,.int .i64 0,.slice none 0 0]).toArray):=⟨fun _=>by kernel_rfl⟩
instance:FlT Tryz.prog 29 0 0:=⟨fun _ _=>by kernel_rfl⟩
instance:FlT Tryz.prog 29 1 16:=⟨fun _ _=>by kernel_rfl⟩
instance:FlT Tryz.prog 29 2 20:=⟨fun _ _=>by kernel_rfl⟩
instance:FlT Tryz.prog 29 3 21:=⟨fun _ _=>by kernel_rfl⟩
instance:FlT Tryz.prog 29 4 22:=⟨fun _ _=>by kernel_rfl⟩
instance:OnT Tryz.prog 30:=⟨fun _=>by kernel_rfl,fun _=>by kernel_rfl⟩
instance:SlT Tryz.prog 30 85 1:=⟨by kernel_rfl,fun _=>by kernel_rfl⟩
instance:AgT Tryz.prog 32 2:=⟨fun _=>by kernel_rfl,fun _=>by kernel_rfl⟩
instance:FlT Tryz.prog 32 0 0:=⟨fun _ _=>by kernel_rfl⟩
instance:FlT Tryz.prog 32 1 1:=⟨fun _ _=>by kernel_rfl⟩
instance:OnT Tryz.prog 35:=⟨fun _=>by kernel_rfl,fun _=>by kernel_rfl⟩
instance:SlT Tryz.prog 35 78 8:=⟨by kernel_rfl,fun _=>by kernel_rfl⟩
instance:AgT Tryz.prog 37 19:=⟨fun _=>by kernel_rfl,fun _=>by kernel_rfl⟩
instance:ZeT Tryz.prog 37 (.agg ([.int .u64 ((wd 0 0:Nat):Int),.int .u64 ((wd 1 0:Nat):Int),.int .u64 ((wd 2 0:Nat):Int),.int .u64 ((wd 3 0:Nat):Int),.int .u64 ((wd 0 0:Nat):Int),.int .u64 ((wd 1 0:Nat):Int),.int .u64 ((wd 2 0:Nat):Int),.int .u64 ((wd 3 0:Nat):Int),.int .u64 ((wd 0 0:Nat):Int),.int .u64 ((wd 1 0:Nat):Int),.int .u64 ((wd 2 0:Nat):Int),.int .u64 ((wd 3 0:Nat):Int),.int .u64 ((wd 0 0:Nat):Int),.int .u64 ((wd 1 0:Nat):Int),.int .u64 ((wd 2 0:Nat):Int),.int .u64 ((wd 3 0:Nat):Int),.int .i64 0,.int .i64 0,.slice none 0 0]).toArray):=⟨fun _=>by kernel_rfl⟩
instance:BuT Tryz.prog 37 [(0,16),(16,1),(17,1),(18,1)] ([.int .u64 ((wd 0 0:Nat):Int),.int .u64 ((wd 1 0:Nat):Int),.int .u64 ((wd 2 0:Nat):Int),.int .u64 ((wd 3 0:Nat):Int),.int .u64 ((wd 0 0:Nat):Int),.int .u64 ((wd 1 0:Nat):Int),.int .u64 ((wd 2 0:Nat):Int),.int .u64 ((wd 3 0:Nat):Int),.int .u64 ((wd 0 0:Nat):Int),.int .u64 ((wd 1 0:Nat):Int),.int .u64 ((wd 2 0:Nat):Int),.int .u64 ((wd 3 0:Nat):Int),.int .u64 ((wd 0 0:Nat):Int),.int .u64 ((wd 1 0:Nat):Int),.int .u64 ((wd 2 0:Nat):Int),.int .u64 ((wd 3 0:Nat):Int),.int .i64 0,.int .i64 0,.slice none 0 0]):=⟨fun _=>by kernel_rfl,by kernel_rfl,fun _=>by kernel_rfl⟩
instance:FlT Tryz.prog 37 0 0:=⟨fun _ _=>by kernel_rfl⟩
instance:FlT Tryz.prog 37 1 16:=⟨fun _ _=>by kernel_rfl⟩
instance:FlT Tryz.prog 37 2 17:=⟨fun _ _=>by kernel_rfl⟩
instance:FlT Tryz.prog 37 3 18:=⟨fun _ _=>by kernel_rfl⟩
instance:OnT Tryz.prog 41:=⟨fun _=>by kernel_rfl,fun _=>by kernel_rfl⟩
instance:OnT Tryz.prog 42:=⟨fun _=>by kernel_rfl,fun _=>by kernel_rfl⟩
instance:ZeT Tryz.prog 42 (.int .i64 0):=⟨fun _=>by kernel_rfl⟩
instance:OnT Tryz.prog 45:=⟨fun _=>by kernel_rfl,fun _=>by kernel_rfl⟩
instance:ZeT Tryz.prog 45 (.slice none 0 0):=⟨fun _=>by kernel_rfl⟩
instance:SlT Tryz.prog 45 24 4:=⟨by kernel_rfl,fun _=>by kernel_rfl⟩
instance:OnT Tryz.prog 46:=⟨fun _=>by kernel_rfl,fun _=>by kernel_rfl⟩
instance:SlT Tryz.prog 46 96 8:=⟨by kernel_rfl,fun _=>by kernel_rfl⟩
instance:AgT Tryz.prog 48 8:=⟨fun _=>by kernel_rfl,fun _=>by kernel_rfl⟩
instance:ZeT Tryz.prog 48 (.agg ([.int .u64 ((wd 0 0:Nat):Int),.int .u64 ((wd 1 0:Nat):Int),.int .u64 ((wd 2 0:Nat):Int),.int .u64 ((wd 3 0:Nat):Int),.int .u64 ((wd 0 0:Nat):Int),.int .u64 ((wd 1 0:Nat):Int),.int .u64 ((wd 2 0:Nat):Int),.int .u64 ((wd 3 0:Nat):Int)]).toArray):=⟨fun _=>by kernel_rfl⟩
instance:BuT Tryz.prog 48 [(0,4),(4,4)] ([.int .u64 ((wd 0 0:Nat):Int),.int .u64 ((wd 1 0:Nat):Int),.int .u64 ((wd 2 0:Nat):Int),.int .u64 ((wd 3 0:Nat):Int),.int .u64 ((wd 0 0:Nat):Int),.int .u64 ((wd 1 0:Nat):Int),.int .u64 ((wd 2 0:Nat):Int),.int .u64 ((wd 3 0:Nat):Int)]):=⟨fun _=>by kernel_rfl,by kernel_rfl,fun _=>by kernel_rfl⟩
instance:FlT Tryz.prog 48 0 0:=⟨fun _ _=>by kernel_rfl⟩
instance:FlT Tryz.prog 48 1 4:=⟨fun _ _=>by kernel_rfl⟩
instance:AgT Tryz.prog 50 13:=⟨fun _=>by kernel_rfl,fun _=>by kernel_rfl⟩
instance:ZeT Tryz.prog 50 (.agg ([.int .u64 0,.int .u8 0,.slice none 0 0,.slice none 0 0,.slice none 0 0,.int .u64 ((wd 0 0:Nat):Int),.int .u64 ((wd 1 0:Nat):Int),.int .u64 ((wd 2 0:Nat):Int),.int .u64 ((wd 3 0:Nat):Int),.int .u64 ((wd 0 0:Nat):Int),.int .u64 ((wd 1 0:Nat):Int),.int .u64 ((wd 2 0:Nat):Int),.int .u64 ((wd 3 0:Nat):Int)]).toArray):=⟨fun _=>by kernel_rfl⟩
instance:BuT Tryz.prog 50 [(0,1),(1,1),(2,1),(3,1),(4,1),(5,8)] ([.int .u64 0,.int .u8 0,.slice none 0 0,.slice none 0 0,.slice none 0 0,.int .u64 ((wd 0 0:Nat):Int),.int .u64 ((wd 1 0:Nat):Int),.int .u64 ((wd 2 0:Nat):Int),.int .u64 ((wd 3 0:Nat):Int),.int .u64 ((wd 0 0:Nat):Int),.int .u64 ((wd 1 0:Nat):Int),.int .u64 ((wd 2 0:Nat):Int),.int .u64 ((wd 3 0:Nat):Int)]):=⟨fun _=>by kernel_rfl,by kernel_rfl,fun _=>by kernel_rfl⟩
instance:FlT Tryz.prog 50 0 0:=⟨fun _ _=>by kernel_rfl⟩
instance:FlT Tryz.prog 50 1 1:=⟨fun _ _=>by kernel_rfl⟩
instance:FlT Tryz.prog 50 2 2:=⟨fun _ _=>by kernel_rfl⟩
instance:FlT Tryz.prog 50 3 3:=⟨fun _ _=>by kernel_rfl⟩
instance:FlT Tryz.prog 50 4 4:=⟨fun _ _=>by kernel_rfl⟩
instance:FlT Tryz.prog 50 5 5:=⟨fun _ _=>by kernel_rfl⟩
instance:OnT Tryz.prog 55:=⟨fun _=>by kernel_rfl,fun _=>by kernel_rfl⟩
instance:ZeT Tryz.prog 55 (.slice none 0 0):=⟨fun _=>by kernel_rfl⟩
instance:SlT Tryz.prog 55 50 13:=⟨by kernel_rfl,fun _=>by kernel_rfl⟩
instance:OnT Tryz.prog 58:=⟨fun _=>by kernel_rfl,fun _=>by kernel_rfl⟩
instance:SlT Tryz.prog 58 32 2:=⟨by kernel_rfl,fun _=>by kernel_rfl⟩
instance:AgT Tryz.prog 60 32:=⟨fun _=>by kernel_rfl,fun _=>by kernel_rfl⟩
instance:ZeT Tryz.prog 60 (.agg (List.replicate 32 (.int .u8 0)).toArray):=⟨fun _=>by kernel_rfl⟩
instance:ArT Tryz.prog 60 32 5 1:=⟨by kernel_rfl,fun _=>by kernel_rfl⟩
instance:OnT Tryz.prog 64:=⟨fun _=>by kernel_rfl,fun _=>by kernel_rfl⟩
instance:ZeT Tryz.prog 64 (.slice none 0 0):=⟨fun _=>by kernel_rfl⟩
instance:SlT Tryz.prog 64 60 32:=⟨by kernel_rfl,fun _=>by kernel_rfl⟩
instance:FlT Tryz.prog 70 0 0:=⟨fun _ _=>by kernel_rfl⟩
instance:FlT Tryz.prog 70 1 23:=⟨fun _ _=>by kernel_rfl⟩
instance:FlT Tryz.prog 70 2 24:=⟨fun _ _=>by kernel_rfl⟩
instance:FlT Tryz.prog 70 3 56:=⟨fun _ _=>by kernel_rfl⟩
instance:AgT Tryz.prog 76 8:=⟨fun _=>by kernel_rfl,fun _=>by kernel_rfl⟩
instance:ZeT Tryz.prog 76 (.agg ([.int .u64 ((wd 0 0:Nat):Int),.int .u64 ((wd 1 0:Nat):Int),.int .u64 ((wd 2 0:Nat):Int),.int .u64 ((wd 3 0:Nat):Int),.int .u64 ((wd 0 0:Nat):Int),.int .u64 ((wd 1 0:Nat):Int),.int .u64 ((wd 2 0:Nat):Int),.int .u64 ((wd 3 0:Nat):Int)]).toArray):=⟨fun _=>by kernel_rfl⟩
instance:FlT Tryz.prog 76 0 0:=⟨fun _ _=>by kernel_rfl⟩
instance:FlT Tryz.prog 76 1 4:=⟨fun _ _=>by kernel_rfl⟩
instance:AgT Tryz.prog 78 8:=⟨fun _=>by kernel_rfl,fun _=>by kernel_rfl⟩
instance:BuT Tryz.prog 78 [(0,4),(4,4)] ([.int .u64 ((wd 0 0:Nat):Int),.int .u64 ((wd 1 0:Nat):Int),.int .u64 ((wd 2 0:Nat):Int),.int .u64 ((wd 3 0:Nat):Int),.int .u64 ((wd 0 0:Nat):Int),.int .u64 ((wd 1 0:Nat):Int),.int .u64 ((wd 2 0:Nat):Int),.int .u64 ((wd 3 0:Nat):Int)]):=⟨fun _=>by kernel_rfl,by kernel_rfl,fun _=>by kernel_rfl⟩
instance:FlT Tryz.prog 78 0 0:=⟨fun _ _=>by kernel_rfl⟩
instance:FlT Tryz.prog 78 1 4:=⟨fun _ _=>by kernel_rfl⟩
instance:OnT Tryz.prog 81:=⟨fun _=>by kernel_rfl,fun _=>by kernel_rfl⟩
instance:AgT Tryz.prog 82 8:=⟨fun _=>by kernel_rfl,fun _=>by kernel_rfl⟩
instance:ArT Tryz.prog 82 8 64 1:=⟨by kernel_rfl,fun _=>by kernel_rfl⟩
instance:BuT Tryz.prog 84 [(0,19),(19,1),(20,1),(21,8)] ([.int .u64 ((wd 0 0:Nat):Int),.int .u64 ((wd 1 0:Nat):Int),.int .u64 ((wd 2 0:Nat):Int),.int .u64 ((wd 3 0:Nat):Int),.int .u64 ((wd 0 0:Nat):Int),.int .u64 ((wd 1 0:Nat):Int),.int .u64 ((wd 2 0:Nat):Int),.int .u64 ((wd 3 0:Nat):Int),.int .u64 ((wd 0 0:Nat):Int),.int .u64 ((wd 1 0:Nat):Int),.int .u64 ((wd 2 0:Nat):Int),.int .u64 ((wd 3 0:Nat):Int),.int .u64 ((wd 0 0:Nat):Int),.int .u64 ((wd 1 0:Nat):Int),.int .u64 ((wd 2 0:Nat):Int),.int .u64 ((wd 3 0:Nat):Int),.int .i64 0,.int .i64 0,.slice none 0 0,.int .u64 0,.map none,.slice none 0 0,.slice none 0 0,.slice none 0 0,.slice none 0 0,.slice none 0 0,.slice none 0 0,.slice none 0 0,.slice none 0 0]):=⟨fun _=>by kernel_rfl,by kernel_rfl,fun _=>by kernel_rfl⟩
instance:FlT Tryz.prog 84 0 0:=⟨fun _ _=>by kernel_rfl⟩
instance:FlT Tryz.prog 84 1 19:=⟨fun _ _=>by kernel_rfl⟩
instance:FlT Tryz.prog 84 2 20:=⟨fun _ _=>by kernel_rfl⟩
instance:FlT Tryz.prog 84 3 21:=⟨fun _ _=>by kernel_rfl⟩
instance:OnT Tryz.prog 85:=⟨fun _=>by kernel_rfl,fun _=>by kernel_rfl⟩
instance:InT Tryz.prog 85 .u32:=⟨by kernel_rfl⟩
instance:OnT Tryz.prog 95:=⟨fun _=>by kernel_rfl,fun _=>by kernel_rfl⟩
instance:SlT Tryz.prog 95 5 1:=⟨by kernel_rfl,fun _=>by kernel_rfl⟩
instance:AgT Tryz.prog 96 8:=⟨fun _=>by kernel_rfl,fun _=>by kernel_rfl⟩
instance:ZeT Tryz.prog 96 (.agg ([.int .u64 ((wd 0 0:Nat):Int),.int .u64 ((wd 1 0:Nat):Int),.int .u64 ((wd 2 0:Nat):Int),.int .u64 ((wd 3 0:Nat):Int),.int .u64 ((wd 0 0:Nat):Int),.int .u64 ((wd 1 0:Nat):Int),.int .u64 ((wd 2 0:Nat):Int),.int .u64 ((wd 3 0:Nat):Int)]).toArray):=⟨fun _=>by kernel_rfl⟩
instance:BuT Tryz.prog 96 [(0,4),(4,4)] ([.int .u64 ((wd 0 0:Nat):Int),.int .u64 ((wd 1 0:Nat):Int),.int .u64 ((wd 2 0:Nat):Int),.int .u64 ((wd 3 0:Nat):Int),.int .u64 ((wd 0 0:Nat):Int),.int .u64 ((wd 1 0:Nat):Int),.int .u64 ((wd 2 0:Nat):Int),.int .u64 ((wd 3 0:Nat):Int)]):=⟨fun _=>by kernel_rfl,by kernel_rfl,fun _=>by kernel_rfl⟩
instance:FlT Tryz.prog 96 0 0:=⟨fun _ _=>by kernel_rfl⟩
instance:FlT Tryz.prog 96 1 4:=⟨fun _ _=>by kernel_rfl⟩
instance:OnT Tryz.prog 124:=⟨fun _=>by kernel_rfl,fun _=>by kernel_rfl⟩
instance:ZeT Tryz.prog 124 (.nilFunc):=⟨fun _=>by kernel_rfl⟩
instance:OnT Tryz.prog 130:=⟨fun _=>by kernel_rfl,fun _=>by kernel_rfl⟩
instance:OnT Tryz.prog 133:=⟨fun _=>by kernel_rfl,fun _=>by kernel_rfl⟩
instance:ZeT Tryz.prog 133 (.pointer none):=⟨fun _=>by kernel_rfl⟩
instance:BuT Tryz.prog 135 [(0,1)] ([.int .i64 0]):=⟨fun _=>by kernel_rfl,by kernel_rfl,fun _=>by kernel_rfl⟩
instance:FlT Tryz.prog 135 0 0:=⟨fun _ _=>by kernel_rfl⟩
instance:OnT Tryz.prog 139:=⟨fun _=>by kernel_rfl,fun _=>by kernel_rfl⟩
instance:ZeT Tryz.prog 139 (.slice none 0 0):=⟨fun _=>by kernel_rfl⟩
instance:SlT Tryz.prog 139 95 1:=⟨by kernel_rfl,fun _=>by kernel_rfl⟩
instance:OnT Tryz.prog 151:=⟨fun _=>by kernel_rfl,fun _=>by kernel_rfl⟩
instance:BuT Tryz.prog 154 [(0,1)] ([.nilFunc]):=⟨fun _=>by kernel_rfl,by kernel_rfl,fun _=>by kernel_rfl⟩
instance:FlT Tryz.prog 154 0 0:=⟨fun _ _=>by kernel_rfl⟩
instance:InT Tryz.prog 155 .u64:=⟨by kernel_rfl⟩
instance:OnT Tryz.prog 160:=⟨fun _=>by kernel_rfl,fun _=>by kernel_rfl⟩
instance:AgT Tryz.prog 162 2:=⟨fun _=>by kernel_rfl,fun _=>by kernel_rfl⟩
instance:ZeT Tryz.prog 162 (.agg ([.int .i64 0,.nilFunc]).toArray):=⟨fun _=>by kernel_rfl⟩
instance:BuT Tryz.prog 162 [(0,1),(1,1)] ([.int .i64 0,.nilFunc]):=⟨fun _=>by kernel_rfl,by kernel_rfl,fun _=>by kernel_rfl⟩
instance:FlT Tryz.prog 162 0 0:=⟨fun _ _=>by kernel_rfl⟩
instance:FlT Tryz.prog 162 1 1:=⟨fun _ _=>by kernel_rfl⟩
instance:AgT Tryz.prog 165 17:=⟨fun _=>by kernel_rfl,fun _=>by kernel_rfl⟩
instance:ZeT Tryz.prog 165 (.agg ([.int .u64 ((wd 0 0:Nat):Int),.int .u64 ((wd 1 0:Nat):Int),.int .u64 ((wd 2 0:Nat):Int),.int .u64 ((wd 3 0:Nat):Int),.int .u64 ((wd 0 0:Nat):Int),.int .u64 ((wd 1 0:Nat):Int),.int .u64 ((wd 2 0:Nat):Int),.int .u64 ((wd 3 0:Nat):Int),.int .u64 ((wd 0 0:Nat):Int),.int .u64 ((wd 1 0:Nat):Int),.int .u64 ((wd 2 0:Nat):Int),.int .u64 ((wd 3 0:Nat):Int),.int .u64 ((wd 0 0:Nat):Int),.int .u64 ((wd 1 0:Nat):Int),.int .u64 ((wd 2 0:Nat):Int),.int .u64 ((wd 3 0:Nat):Int),.string ⟨#[]⟩]).toArray):=⟨fun _=>by kernel_rfl⟩
instance:BuT Tryz.prog 165 [(0,16),(16,1)] ([.int .u64 ((wd 0 0:Nat):Int),.int .u64 ((wd 1 0:Nat):Int),.int .u64 ((wd 2 0:Nat):Int),.int .u64 ((wd 3 0:Nat):Int),.int .u64 ((wd 0 0:Nat):Int),.int .u64 ((wd 1 0:Nat):Int),.int .u64 ((wd 2 0:Nat):Int),.int .u64 ((wd 3 0:Nat):Int),.int .u64 ((wd 0 0:Nat):Int),.int .u64 ((wd 1 0:Nat):Int),.int .u64 ((wd 2 0:Nat):Int),.int .u64 ((wd 3 0:Nat):Int),.int .u64 ((wd 0 0:Nat):Int),.int .u64 ((wd 1 0:Nat):Int),.int .u64 ((wd 2 0:Nat):Int),.int .u64 ((wd 3 0:Nat):Int),.string ⟨#[]⟩]):=⟨fun _=>by kernel_rfl,by kernel_rfl,fun _=>by kernel_rfl⟩
instance:FlT Tryz.prog 165 0 0:=⟨fun _ _=>by kernel_rfl⟩
instance:FlT Tryz.prog 165 1 16:=⟨fun _ _=>by kernel_rfl⟩
instance:SlT Tryz.prog 173 130 1:=⟨by kernel_rfl,fun _=>by kernel_rfl⟩
instance:AgT Tryz.prog 181 1:=⟨fun _=>by kernel_rfl,fun _=>by kernel_rfl⟩
instance:ZeT Tryz.prog 181 (.agg ([.int .i64 0]).toArray):=⟨fun _=>by kernel_rfl⟩
instance:BuT Tryz.prog 181 [(0,1)] ([.int .i64 0]):=⟨fun _=>by kernel_rfl,by kernel_rfl,fun _=>by kernel_rfl⟩
instance:FlT Tryz.prog 181 0 0:=⟨fun _ _=>by kernel_rfl⟩
instance:ZeT Tryz.prog 182 (.agg ([.int .u64 ((wd 0 0:Nat):Int),.int .u64 ((wd 1 0:Nat):Int),.int .u64 ((wd 2 0:Nat):Int),.int .u64 ((wd 3 0:Nat):Int),.int .u64 ((wd 0 0:Nat):Int),.int .u64 ((wd 1 0:Nat):Int),.int .u64 ((wd 2 0:Nat):Int),.int .u64 ((wd 3 0:Nat):Int),.int .u64 ((wd 0 0:Nat):Int),.int .u64 ((wd 1 0:Nat):Int),.int .u64 ((wd 2 0:Nat):Int),.int .u64 ((wd 3 0:Nat):Int),.int .u64 ((wd 0 0:Nat):Int),.int .u64 ((wd 1 0:Nat):Int),.int .u64 ((wd 2 0:Nat):Int),.int .u64 ((wd 3 0:Nat):Int)]).toArray):=⟨fun _=>by kernel_rfl⟩
instance:ArT Tryz.prog 182 4 24 4:=⟨by kernel_rfl,fun _=>by kernel_rfl⟩
instance:SlT Tryz.prog 185 22 1:=⟨by kernel_rfl,fun _=>by kernel_rfl⟩
instance:AgT Tryz.prog 187 8:=⟨fun _=>by kernel_rfl,fun _=>by kernel_rfl⟩
instance:ZeT Tryz.prog 187 (.agg ([.int .u32 0,.int .u32 0,.int .u32 0,.int .u32 0,.int .u32 0,.int .u32 0,.int .u32 0,.int .u32 0]).toArray):=⟨fun _=>by kernel_rfl⟩
instance:ArT Tryz.prog 187 8 85 1:=⟨by kernel_rfl,fun _=>by kernel_rfl⟩
instance:AgT Tryz.prog 189 64:=⟨fun _=>by kernel_rfl,fun _=>by kernel_rfl⟩
instance:ArT Tryz.prog 189 64 5 1:=⟨by kernel_rfl,fun _=>by kernel_rfl⟩
instance:AgT Tryz.prog 191 74:=⟨fun _=>by kernel_rfl,fun _=>by kernel_rfl⟩
instance:ZeT Tryz.prog 191 (.agg (([.int .i64 0,.int .u32 0,.int .u32 0,.int .u32 0,.int .u32 0,.int .u32 0,.int .u32 0,.int .u32 0,.int .u32 0]:List Value)++(List.replicate 64 (.int .u8 0):List Value)++([.int .u64 0]:List Value)).toArray):=⟨fun _=>by kernel_rfl⟩
instance:BuT Tryz.prog 191 [(0,1),(1,8),(9,64),(73,1)] (([.int .i64 0,.int .u32 0,.int .u32 0,.int .u32 0,.int .u32 0,.int .u32 0,.int .u32 0,.int .u32 0,.int .u32 0]:List Value)++(List.replicate 64 (.int .u8 0):List Value)++([.int .u64 0]:List Value)):=⟨fun _=>by kernel_rfl,by kernel_rfl,fun _=>by kernel_rfl⟩
instance:FlT Tryz.prog 191 0 0:=⟨fun _ _=>by kernel_rfl⟩
instance:FlT Tryz.prog 191 1 1:=⟨fun _ _=>by kernel_rfl⟩
instance:FlT Tryz.prog 191 2 9:=⟨fun _ _=>by kernel_rfl⟩
instance:FlT Tryz.prog 191 3 73:=⟨fun _ _=>by kernel_rfl⟩
instance:OnT Tryz.prog 199:=⟨fun _=>by kernel_rfl,fun _=>by kernel_rfl⟩
instance:ZeT Tryz.prog 199 (.pointer none):=⟨fun _=>by kernel_rfl⟩
instance:BuT Tryz.prog 201 [(0,16),(16,1)] ([.int .u64 ((wd 0 0:Nat):Int),.int .u64 ((wd 1 0:Nat):Int),.int .u64 ((wd 2 0:Nat):Int),.int .u64 ((wd 3 0:Nat):Int),.int .u64 ((wd 0 0:Nat):Int),.int .u64 ((wd 1 0:Nat):Int),.int .u64 ((wd 2 0:Nat):Int),.int .u64 ((wd 3 0:Nat):Int),.int .u64 ((wd 0 0:Nat):Int),.int .u64 ((wd 1 0:Nat):Int),.int .u64 ((wd 2 0:Nat):Int),.int .u64 ((wd 3 0:Nat):Int),.int .u64 ((wd 0 0:Nat):Int),.int .u64 ((wd 1 0:Nat):Int),.int .u64 ((wd 2 0:Nat):Int),.int .u64 ((wd 3 0:Nat):Int),.int .i64 0]):=⟨fun _=>by kernel_rfl,by kernel_rfl,fun _=>by kernel_rfl⟩
instance:FlT Tryz.prog 201 0 0:=⟨fun _ _=>by kernel_rfl⟩
instance:FlT Tryz.prog 201 1 16:=⟨fun _ _=>by kernel_rfl⟩
instance:AgT Tryz.prog 258 64:=⟨fun _=>by kernel_rfl,fun _=>by kernel_rfl⟩
instance:ZeT Tryz.prog 258 (.agg (List.replicate 64 (.int .u32 0)).toArray):=⟨fun _=>by kernel_rfl⟩
instance:ArT Tryz.prog 258 64 85 1:=⟨by kernel_rfl,fun _=>by kernel_rfl⟩
instance:SlT Tryz.prog 266 3 1:=⟨by kernel_rfl,fun _=>by kernel_rfl⟩
instance:ElT Tryz.prog 3 8 ([.int .i64 0]):=⟨(Tryz.prog.info? 3).getD default,by kernel_rfl,by kernel_rfl,by kernel_rfl,.int .i64 0,by kernel_rfl,by kernel_rfl⟩
instance:ElT Tryz.prog 5 1 ([.int .u8 0]):=⟨(Tryz.prog.info? 5).getD default,by kernel_rfl,by kernel_rfl,by kernel_rfl,.int .u8 0,by kernel_rfl,by kernel_rfl⟩
instance:ElT Tryz.prog 22 8 ([.int .u64 0]):=⟨(Tryz.prog.info? 22).getD default,by kernel_rfl,by kernel_rfl,by kernel_rfl,.int .u64 0,by kernel_rfl,by kernel_rfl⟩
instance:ElT Tryz.prog 24 32 ([.int .u64 ((wd 0 0:Nat):Int),.int .u64 ((wd 1 0:Nat):Int),.int .u64 ((wd 2 0:Nat):Int),.int .u64 ((wd 3 0:Nat):Int)]):=⟨(Tryz.prog.info? 24).getD default,by kernel_rfl,by kernel_rfl,by kernel_rfl,.agg ([.int .u64 ((wd 0 0:Nat):Int),.int .u64 ((wd 1 0:Nat):Int),.int .u64 ((wd 2 0:Nat):Int),.int .u64 ((wd 3 0:Nat):Int)]).toArray,by kernel_rfl,by kernel_rfl⟩
instance:ElT Tryz.prog 60 32 (List.replicate 32 (.int .u8 0)):=⟨(Tryz.prog.info? 60).getD default,by kernel_rfl,by kernel_rfl,by kernel_rfl,.agg (List.replicate 32 (.int .u8 0)).toArray,by kernel_rfl,by kernel_rfl⟩
instance:ElT Tryz.prog 78 64 ([.int .u64 ((wd 0 0:Nat):Int),.int .u64 ((wd 1 0:Nat):Int),.int .u64 ((wd 2 0:Nat):Int),.int .u64 ((wd 3 0:Nat):Int),.int .u64 ((wd 0 0:Nat):Int),.int .u64 ((wd 1 0:Nat):Int),.int .u64 ((wd 2 0:Nat):Int),.int .u64 ((wd 3 0:Nat):Int)]):=⟨(Tryz.prog.info? 78).getD default,by kernel_rfl,by kernel_rfl,by kernel_rfl,.agg ([.int .u64 ((wd 0 0:Nat):Int),.int .u64 ((wd 1 0:Nat):Int),.int .u64 ((wd 2 0:Nat):Int),.int .u64 ((wd 3 0:Nat):Int),.int .u64 ((wd 0 0:Nat):Int),.int .u64 ((wd 1 0:Nat):Int),.int .u64 ((wd 2 0:Nat):Int),.int .u64 ((wd 3 0:Nat):Int)]).toArray,by kernel_rfl,by kernel_rfl⟩
instance:ElT Tryz.prog 95 24 ([.slice none 0 0]):=⟨(Tryz.prog.info? 95).getD default,by kernel_rfl,by kernel_rfl,by kernel_rfl,.slice none 0 0,by kernel_rfl,by kernel_rfl⟩
instance:ElT Tryz.prog 96 64 ([.int .u64 ((wd 0 0:Nat):Int),.int .u64 ((wd 1 0:Nat):Int),.int .u64 ((wd 2 0:Nat):Int),.int .u64 ((wd 3 0:Nat):Int),.int .u64 ((wd 0 0:Nat):Int),.int .u64 ((wd 1 0:Nat):Int),.int .u64 ((wd 2 0:Nat):Int),.int .u64 ((wd 3 0:Nat):Int)]):=⟨(Tryz.prog.info? 96).getD default,by kernel_rfl,by kernel_rfl,by kernel_rfl,.agg ([.int .u64 ((wd 0 0:Nat):Int),.int .u64 ((wd 1 0:Nat):Int),.int .u64 ((wd 2 0:Nat):Int),.int .u64 ((wd 3 0:Nat):Int),.int .u64 ((wd 0 0:Nat):Int),.int .u64 ((wd 1 0:Nat):Int),.int .u64 ((wd 2 0:Nat):Int),.int .u64 ((wd 3 0:Nat):Int)]).toArray,by kernel_rfl,by kernel_rfl⟩
instance:ElT Tryz.prog 130 8 ([.nilFunc]):=⟨(Tryz.prog.info? 130).getD default,by kernel_rfl,by kernel_rfl,by kernel_rfl,.nilFunc,by kernel_rfl,by kernel_rfl⟩
theorem Cal.c {f:FuncId} (h:∀ a w,(callFunc f a).run Tryz.prog w=.ok (.enter f a) w:=by intro _ _;kernel_rfl):Cal Tryz.prog f:=⟨h⟩
instance:Cal Tryz.prog 6:=Cal.c
instance:Cal Tryz.prog 7:=Cal.c
instance:Cal Tryz.prog 8:=Cal.c
instance:Cal Tryz.prog 9:=Cal.c
instance:Cal Tryz.prog 11:=Cal.c
instance:Cal Tryz.prog 12:=Cal.c
instance:Cal Tryz.prog 13:=Cal.c
instance:Cal Tryz.prog 14:=Cal.c
instance:Cal Tryz.prog 15:=Cal.c
instance:Cal Tryz.prog 16:=Cal.c
instance:Cal Tryz.prog 17:=Cal.c
instance:Cal Tryz.prog 18:=Cal.c
instance:Cal Tryz.prog 19:=Cal.c
instance:Cal Tryz.prog 20:=Cal.c
instance:Cal Tryz.prog 21:=Cal.c
instance:Cal Tryz.prog 22:=Cal.c
instance:Cal Tryz.prog 25:=Cal.c
instance:Cal Tryz.prog 26:=Cal.c
instance:Cal Tryz.prog 27:=Cal.c
instance:Cal Tryz.prog 28:=Cal.c
instance:Cal Tryz.prog 30:=Cal.c
instance:Cal Tryz.prog 31:=Cal.c
instance:Cal Tryz.prog 32:=Cal.c
instance:Cal Tryz.prog 33:=Cal.c
instance:Cal Tryz.prog 34:=Cal.c
instance:Cal Tryz.prog 35:=Cal.c
instance:Cal Tryz.prog 36:=Cal.c
instance:Cal Tryz.prog 37:=Cal.c
instance:Cal Tryz.prog 38:=Cal.c
instance:Cal Tryz.prog 39:=Cal.c
instance:Cal Tryz.prog 40:=Cal.c
instance:Cal Tryz.prog 41:=Cal.c
instance:Cal Tryz.prog 42:=Cal.c
instance:Cal Tryz.prog 43:=Cal.c
instance:Cal Tryz.prog 44:=Cal.c
instance:Cal Tryz.prog 45:=Cal.c
instance:Cal Tryz.prog 46:=Cal.c
instance:Cal Tryz.prog 47:=Cal.c
instance:Cal Tryz.prog 48:=Cal.c
instance:Cal Tryz.prog 49:=Cal.c
instance:Cal Tryz.prog 50:=Cal.c
instance:Cal Tryz.prog 51:=Cal.c
instance:Cal Tryz.prog 52:=Cal.c
instance:Cal Tryz.prog 53:=Cal.c
instance:Cal Tryz.prog 54:=Cal.c
instance:Cal Tryz.prog 55:=Cal.c
instance:Cal Tryz.prog 56:=Cal.c
instance:Cal Tryz.prog 57:=Cal.c
instance:Cal Tryz.prog 58:=Cal.c
instance:Cal Tryz.prog 59:=Cal.c
instance:Cal Tryz.prog 60:=Cal.c
instance:Cal Tryz.prog 61:=Cal.c
instance:Cal Tryz.prog 62:=Cal.c
instance:Cal Tryz.prog 63:=Cal.c
instance:Cal Tryz.prog 64:=Cal.c
instance:Cal Tryz.prog 65:=Cal.c
instance:Cal Tryz.prog 66:=Cal.c
instance:Cal Tryz.prog 67:=Cal.c
instance:Cal Tryz.prog 68:=Cal.c
instance:Cal Tryz.prog 69:=Cal.c
instance:Cal Tryz.prog 71:=Cal.c
instance:Cal Tryz.prog 72:=Cal.c
instance:Cal Tryz.prog 73:=Cal.c
instance:Cal Tryz.prog 74:=Cal.c
instance:Cal Tryz.prog 75:=Cal.c
instance:Cal Tryz.prog 76:=Cal.c
instance:Cal Tryz.prog 77:=Cal.c
instance:Cal Tryz.prog 78:=Cal.c
instance:Cal Tryz.prog 79:=Cal.c
instance:Cal Tryz.prog 80:=Cal.c
instance:Cal Tryz.prog 81:=Cal.c
instance:Cal Tryz.prog 82:=Cal.c
instance:Cal Tryz.prog 83:=Cal.c
instance:Cal Tryz.prog 84:=Cal.c
instance:Cal Tryz.prog 85:=Cal.c
instance:Cal Tryz.prog 87:=Cal.c
instance:Cal Tryz.prog 88:=Cal.c
instance:Cal Tryz.prog 89:=Cal.c
instance:Cal Tryz.prog 90:=Cal.c
instance:Cal Tryz.prog 91:=Cal.c
instance:Cal Tryz.prog 92:=Cal.c
instance:Cal Tryz.prog 93:=Cal.c
instance:Cal Tryz.prog 94:=Cal.c
instance:Cal Tryz.prog 95:=Cal.c
instance:Cal Tryz.prog 96:=Cal.c
instance:Cal Tryz.prog 97:=Cal.c
instance:Cal Tryz.prog 98:=Cal.c
instance:Cal Tryz.prog 99:=Cal.c
instance:Cal Tryz.prog 100:=Cal.c
instance:Cal Tryz.prog 101:=Cal.c
instance:Cal Tryz.prog 102:=Cal.c
instance:Cal Tryz.prog 103:=Cal.c
instance:Cal Tryz.prog 104:=Cal.c
instance:Cal Tryz.prog 105:=Cal.c
instance:Cal Tryz.prog 106:=Cal.c
instance:Cal Tryz.prog 107:=Cal.c
instance:Cal Tryz.prog 108:=Cal.c
instance:Cal Tryz.prog 109:=Cal.c
instance:Cal Tryz.prog 110:=Cal.c
instance:Cal Tryz.prog 111:=Cal.c
instance:Cal Tryz.prog 112:=Cal.c
instance:Cal Tryz.prog 113:=Cal.c
instance:Cal Tryz.prog 114:=Cal.c
instance:Cal Tryz.prog 115:=Cal.c
instance:Cal Tryz.prog 116:=Cal.c
instance:Cal Tryz.prog 120:=Cal.c
instance:Cal Tryz.prog 121:=Cal.c
instance:Cal Tryz.prog 122:=Cal.c
instance:Cal Tryz.prog 123:=Cal.c
instance:Cal Tryz.prog 124:=Cal.c
instance:Cal Tryz.prog 125:=Cal.c
instance:Cal Tryz.prog 126:=Cal.c
instance:Cal Tryz.prog 127:=Cal.c
instance:Cal Tryz.prog 128:=Cal.c
instance:Cal Tryz.prog 129:=Cal.c
instance:Cal Tryz.prog 130:=Cal.c
instance:Cal Tryz.prog 131:=Cal.c
instance:Cal Tryz.prog 132:=Cal.c
instance:Cal Tryz.prog 138:=Cal.c
instance:Cal Tryz.prog 139:=Cal.c
instance:Cal Tryz.prog 140:=Cal.c
instance:Cal Tryz.prog 141:=Cal.c
instance:Cal Tryz.prog 142:=Cal.c
instance:Cal Tryz.prog 143:=Cal.c
instance:Cal Tryz.prog 144:=Cal.c
instance:Cal Tryz.prog 145:=Cal.c
instance:Cal Tryz.prog 146:=Cal.c
instance:Cal Tryz.prog 153:=Cal.c
instance:Cal Tryz.prog 155:=Cal.c
instance:Cal Tryz.prog 156:=Cal.c
instance:Cal Tryz.prog 157:=Cal.c
instance:Cal Tryz.prog 158:=Cal.c
instance:Cal Tryz.prog 162:=Cal.c
instance:Cal Tryz.prog 164:=Cal.c
instance:Cal Tryz.prog 171:=Cal.c
instance:Cal Tryz.prog 172:=Cal.c
instance:Cal Tryz.prog 173:=Cal.c
end Sx
end
end Go.Proofs.YteibfbjpkjkejaaGreatDoor
