/- Part 11 of the proof: SxT, SxU, Mem -/
import Derived.Test.YtiiacjladnljhaaGreatDoorM09
import Derived.Test.YtiiacjladnljhaaGreatDoorM07
import Derived.Test.YtiiacjladnljhaaGreatDoorM10
import Derived.Test.YtiiacjladnljhaaGreatDoorProg
import Derived.WalkKit
import Derived.Lib.Hide
import Derived.Deep.Draws
import Derived.Laws.Rows
set_option linter.unusedSimpArgs false
set_option linter.unusedVariables false
namespace Go.Proofs.YtiiacjladnljhaaGreatDoor
open Go Go.RowKit
namespace Sx
instance:Mix Tryz.prog:=⟨by kernel_rfl⟩
instance:InT Tryz.prog 2 .i64:=⟨by kernel_rfl⟩
instance:OnT Tryz.prog 3:=⟨fun _=>by kernel_rfl,fun _=>by kernel_rfl⟩
instance:InT Tryz.prog 3 .i64:=⟨by kernel_rfl⟩
instance:OnT Tryz.prog 5:=⟨fun _=>by kernel_rfl,fun _=>by kernel_rfl⟩
instance:InT Tryz.prog 5 .u8:=⟨by kernel_rfl⟩
instance:OnT Tryz.prog 22:=⟨fun _=>by kernel_rfl,fun _=>by kernel_rfl⟩
instance:InT Tryz.prog 22 .u64:=⟨by kernel_rfl⟩
instance:AgT Tryz.prog 24 4:=⟨fun _=>by kernel_rfl,fun _=>by kernel_rfl⟩
instance:ZeT Tryz.prog 24 (.agg ([.int .u64 ((wd 0 0:Nat):Int),.int .u64 ((wd 1 0:Nat):Int),.int .u64 ((wd 2 0:Nat):Int),.int .u64 ((wd 3 0:Nat):Int)]).toArray):=⟨fun _=>by kernel_rfl⟩
instance:ArT Tryz.prog 24 4 22 1:=⟨by kernel_rfl,fun _=>by kernel_rfl⟩
instance:AgT Tryz.prog 26 16:=⟨fun _=>by kernel_rfl,fun _=>by kernel_rfl⟩
instance:FlT Tryz.prog 26 0 0:=⟨fun _ _=>by kernel_rfl⟩
instance:FlT Tryz.prog 26 1 4:=⟨fun _ _=>by kernel_rfl⟩
instance:FlT Tryz.prog 26 2 8:=⟨fun _ _=>by kernel_rfl⟩
instance:FlT Tryz.prog 26 3 12:=⟨fun _ _=>by kernel_rfl⟩
instance:OnT Tryz.prog 27:=⟨fun _=>by kernel_rfl,fun _=>by kernel_rfl⟩
instance:SlT Tryz.prog 27 97 8:=⟨by kernel_rfl,fun _=>by kernel_rfl⟩
instance:AgT Tryz.prog 29 19:=⟨fun _=>by kernel_rfl,fun _=>by kernel_rfl⟩
instance:ZeT Tryz.prog 29 (.agg ([.int .u64 ((wd 0 0:Nat):Int),.int .u64 ((wd 1 0:Nat):Int),.int .u64 ((wd 2 0:Nat):Int),.int .u64 ((wd 3 0:Nat):Int),.int .u64 ((wd 0 0:Nat):Int),.int .u64 ((wd 1 0:Nat):Int),.int .u64 ((wd 2 0:Nat):Int),.int .u64 ((wd 3 0:Nat):Int),.int .u64 ((wd 0 0:Nat):Int),.int .u64 ((wd 1 0:Nat):Int),.int .u64 ((wd 2 0:Nat):Int),.int .u64 ((wd 3 0:Nat):Int),.int .u64 ((wd 0 0:Nat):Int),.int .u64 ((wd 1 0:Nat):Int),.int .u64 ((wd 2 0:Nat):Int),.int .u64 ((wd 3 0:Nat):Int),.int .i64 0,.int .i64 0,.slice none 0 0]).toArray):=⟨fun _=>by kernel_rfl⟩
instance:BuT Tryz.prog 29 [(0,16),(16,1),(17,1),(18,1)] ([.int .u64 ((wd 0 0:Nat):Int),.int .u64 ((wd 1 0:Nat):Int),.int .u64 ((wd 2 0:Nat):Int),.int .u64 ((wd 3 0:Nat):Int),.int .u64 ((wd 0 0:Nat):Int),.int .u64 ((wd 1 0:Nat):Int),.int .u64 ((wd 2 0:Nat):Int),.int .u64 ((wd 3 0:Nat):Int),.int .u64 ((wd 0 0:Nat):Int),.int .u64 ((wd 1 0:Nat):Int),.int .u64 ((wd 2 0:Nat):Int),.int .u64 ((wd 3 0:Nat):Int),.int .u64 ((wd 0 0:Nat):Int),.int .u64 ((wd 1 0:Nat):Int),.int .u64 ((wd 2 0:Nat):Int),.int .u64 ((wd 3 0:Nat):Int),.int .i64 0,.int .i64 0,.slice none 0 0]):=⟨fun _=>by kernel_rfl,by kernel_rfl,fun _=>by kernel_rfl⟩
instance:FlT Tryz.prog 29 0 0:=⟨fun _ _=>by kernel_rfl⟩
instance:FlT Tryz.prog 29 1 16:=⟨fun _ _=>by kernel_rfl⟩
instance:FlT Tryz.prog 29 2 17:=⟨fun _ _=>by kernel_rfl⟩
instance:FlT Tryz.prog 29 3 18:=⟨fun _ _=>by kernel_rfl⟩
instance:OnT Tryz.prog 30:=⟨fun _=>by kernel_rfl,fun _=>by kernel_rfl⟩
instance:ZeT Tryz.prog 30 (.slice none 0 0):=⟨fun _=>by kernel_rfl⟩
instance:SlT Tryz.prog 30 24 4:=⟨by kernel_rfl,fun _=>by kernel_rfl⟩
instance:OnT Tryz.prog 31:=⟨fun _=>by kernel_rfl,fun _=>by kernel_rfl⟩
instance:SlT Tryz.prog 31 74 8:=⟨by kernel_rfl,fun _=>by kernel_rfl⟩
instance:FlT Tryz.prog 35 2 2:=⟨fun _ _=>by kernel_rfl⟩
instance:FlT Tryz.prog 35 3 3:=⟨fun _ _=>by kernel_rfl⟩
instance:FlT Tryz.prog 35 4 4:=⟨fun _ _=>by kernel_rfl⟩
instance:OnT Tryz.prog 36:=⟨fun _=>by kernel_rfl,fun _=>by kernel_rfl⟩
instance:SlT Tryz.prog 36 76 15:=⟨by kernel_rfl,fun _=>by kernel_rfl⟩
instance:AgT Tryz.prog 38 20:=⟨fun _=>by kernel_rfl,fun _=>by kernel_rfl⟩
instance:FlT Tryz.prog 38 0 0:=⟨fun _ _=>by kernel_rfl⟩
instance:FlT Tryz.prog 38 3 18:=⟨fun _ _=>by kernel_rfl⟩
instance:FlT Tryz.prog 38 4 19:=⟨fun _ _=>by kernel_rfl⟩
instance:OnT Tryz.prog 43:=⟨fun _=>by kernel_rfl,fun _=>by kernel_rfl⟩
instance:ZeT Tryz.prog 43 (.int .i64 0):=⟨fun _=>by kernel_rfl⟩
instance:OnT Tryz.prog 50:=⟨fun _=>by kernel_rfl,fun _=>by kernel_rfl⟩
instance:SlT Tryz.prog 50 127 3:=⟨by kernel_rfl,fun _=>by kernel_rfl⟩
instance:OnT Tryz.prog 51:=⟨fun _=>by kernel_rfl,fun _=>by kernel_rfl⟩
instance:SlT Tryz.prog 51 130 3:=⟨by kernel_rfl,fun _=>by kernel_rfl⟩
instance:OnT Tryz.prog 52:=⟨fun _=>by kernel_rfl,fun _=>by kernel_rfl⟩
instance:SlT Tryz.prog 52 134 3:=⟨by kernel_rfl,fun _=>by kernel_rfl⟩
instance:OnT Tryz.prog 53:=⟨fun _=>by kernel_rfl,fun _=>by kernel_rfl⟩
instance:SlT Tryz.prog 53 124 3:=⟨by kernel_rfl,fun _=>by kernel_rfl⟩
instance:OnT Tryz.prog 54:=⟨fun _=>by kernel_rfl,fun _=>by kernel_rfl⟩
instance:SlT Tryz.prog 54 139 3:=⟨by kernel_rfl,fun _=>by kernel_rfl⟩
instance:OnT Tryz.prog 55:=⟨fun _=>by kernel_rfl,fun _=>by kernel_rfl⟩
instance:SlT Tryz.prog 55 145 3:=⟨by kernel_rfl,fun _=>by kernel_rfl⟩
instance:OnT Tryz.prog 56:=⟨fun _=>by kernel_rfl,fun _=>by kernel_rfl⟩
instance:SlT Tryz.prog 56 150 3:=⟨by kernel_rfl,fun _=>by kernel_rfl⟩
instance:OnT Tryz.prog 57:=⟨fun _=>by kernel_rfl,fun _=>by kernel_rfl⟩
instance:SlT Tryz.prog 57 153 3:=⟨by kernel_rfl,fun _=>by kernel_rfl⟩
instance:OnT Tryz.prog 58:=⟨fun _=>by kernel_rfl,fun _=>by kernel_rfl⟩
instance:SlT Tryz.prog 58 157 3:=⟨by kernel_rfl,fun _=>by kernel_rfl⟩
instance:OnT Tryz.prog 59:=⟨fun _=>by kernel_rfl,fun _=>by kernel_rfl⟩
instance:SlT Tryz.prog 59 122 3:=⟨by kernel_rfl,fun _=>by kernel_rfl⟩
instance:OnT Tryz.prog 60:=⟨fun _=>by kernel_rfl,fun _=>by kernel_rfl⟩
instance:SlT Tryz.prog 60 162 3:=⟨by kernel_rfl,fun _=>by kernel_rfl⟩
instance:OnT Tryz.prog 61:=⟨fun _=>by kernel_rfl,fun _=>by kernel_rfl⟩
instance:SlT Tryz.prog 61 168 3:=⟨by kernel_rfl,fun _=>by kernel_rfl⟩
instance:OnT Tryz.prog 62:=⟨fun _=>by kernel_rfl,fun _=>by kernel_rfl⟩
instance:SlT Tryz.prog 62 176 3:=⟨by kernel_rfl,fun _=>by kernel_rfl⟩
instance:OnT Tryz.prog 63:=⟨fun _=>by kernel_rfl,fun _=>by kernel_rfl⟩
instance:SlT Tryz.prog 63 184 3:=⟨by kernel_rfl,fun _=>by kernel_rfl⟩
instance:OnT Tryz.prog 64:=⟨fun _=>by kernel_rfl,fun _=>by kernel_rfl⟩
instance:SlT Tryz.prog 64 190 3:=⟨by kernel_rfl,fun _=>by kernel_rfl⟩
instance:OnT Tryz.prog 65:=⟨fun _=>by kernel_rfl,fun _=>by kernel_rfl⟩
instance:SlT Tryz.prog 65 199 3:=⟨by kernel_rfl,fun _=>by kernel_rfl⟩
instance:OnT Tryz.prog 66:=⟨fun _=>by kernel_rfl,fun _=>by kernel_rfl⟩
instance:SlT Tryz.prog 66 205 3:=⟨by kernel_rfl,fun _=>by kernel_rfl⟩
instance:AgT Tryz.prog 68 18:=⟨fun _=>by kernel_rfl,fun _=>by kernel_rfl⟩
instance:ZeT Tryz.prog 68 (.agg ([.int .i64 0,.slice none 0 0,.slice none 0 0,.slice none 0 0,.slice none 0 0,.slice none 0 0,.slice none 0 0,.slice none 0 0,.slice none 0 0,.slice none 0 0,.slice none 0 0,.slice none 0 0,.slice none 0 0,.slice none 0 0,.slice none 0 0,.slice none 0 0,.slice none 0 0,.slice none 0 0]).toArray):=⟨fun _=>by kernel_rfl⟩
instance:BuT Tryz.prog 68 [(0,1),(1,1),(2,1),(3,1),(4,1),(5,1),(6,1),(7,1),(8,1),(9,1),(10,1),(11,1),(12,1),(13,1),(14,1),(15,1),(16,1),(17,1)] ([.int .i64 0,.slice none 0 0,.slice none 0 0,.slice none 0 0,.slice none 0 0,.slice none 0 0,.slice none 0 0,.slice none 0 0,.slice none 0 0,.slice none 0 0,.slice none 0 0,.slice none 0 0,.slice none 0 0,.slice none 0 0,.slice none 0 0,.slice none 0 0,.slice none 0 0,.slice none 0 0]):=⟨fun _=>by kernel_rfl,by kernel_rfl,fun _=>by kernel_rfl⟩
instance:FlT Tryz.prog 68 0 0:=⟨fun _ _=>by kernel_rfl⟩
instance:FlT Tryz.prog 68 1 1:=⟨fun _ _=>by kernel_rfl⟩
instance:FlT Tryz.prog 68 2 2:=⟨fun _ _=>by kernel_rfl⟩
instance:FlT Tryz.prog 68 3 3:=⟨fun _ _=>by kernel_rfl⟩
instance:FlT Tryz.prog 68 4 4:=⟨fun _ _=>by kernel_rfl⟩
instance:FlT Tryz.prog 68 5 5:=⟨fun _ _=>by kernel_rfl⟩
instance:FlT Tryz.prog 68 6 6:=⟨fun _ _=>by kernel_rfl⟩
instance:FlT Tryz.prog 68 7 7:=⟨fun _ _=>by kernel_rfl⟩
instance:FlT Tryz.prog 68 8 8:=⟨fun _ _=>by kernel_rfl⟩
instance:FlT Tryz.prog 68 9 9:=⟨fun _ _=>by kernel_rfl⟩
instance:FlT Tryz.prog 68 10 10:=⟨fun _ _=>by kernel_rfl⟩
instance:FlT Tryz.prog 68 11 11:=⟨fun _ _=>by kernel_rfl⟩
instance:FlT Tryz.prog 68 12 12:=⟨fun _ _=>by kernel_rfl⟩
instance:FlT Tryz.prog 68 13 13:=⟨fun _ _=>by kernel_rfl⟩
instance:FlT Tryz.prog 68 14 14:=⟨fun _ _=>by kernel_rfl⟩
instance:FlT Tryz.prog 68 15 15:=⟨fun _ _=>by kernel_rfl⟩
instance:FlT Tryz.prog 68 16 16:=⟨fun _ _=>by kernel_rfl⟩
instance:FlT Tryz.prog 68 17 17:=⟨fun _ _=>by kernel_rfl⟩
instance:AgT Tryz.prog 76 15:=⟨fun _=>by kernel_rfl,fun _=>by kernel_rfl⟩
instance:ZeT Tryz.prog 76 (.agg ([.int .u64 0,.int .u8 0,.int .u8 0,.int .u64 ((wd 0 0:Nat):Int),.int .u64 ((wd 1 0:Nat):Int),.int .u64 ((wd 2 0:Nat):Int),.int .u64 ((wd 3 0:Nat):Int),.int .u64 ((wd 0 0:Nat):Int),.int .u64 ((wd 1 0:Nat):Int),.int .u64 ((wd 2 0:Nat):Int),.int .u64 ((wd 3 0:Nat):Int),.int .u64 ((wd 0 0:Nat):Int),.int .u64 ((wd 1 0:Nat):Int),.int .u64 ((wd 2 0:Nat):Int),.int .u64 ((wd 3 0:Nat):Int)]).toArray):=⟨fun _=>by kernel_rfl⟩
instance:BuT Tryz.prog 76 [(0,1),(1,1),(2,1),(3,4),(7,8)] ([.int .u64 0,.int .u8 0,.int .u8 0,.int .u64 ((wd 0 0:Nat):Int),.int .u64 ((wd 1 0:Nat):Int),.int .u64 ((wd 2 0:Nat):Int),.int .u64 ((wd 3 0:Nat):Int),.int .u64 ((wd 0 0:Nat):Int),.int .u64 ((wd 1 0:Nat):Int),.int .u64 ((wd 2 0:Nat):Int),.int .u64 ((wd 3 0:Nat):Int),.int .u64 ((wd 0 0:Nat):Int),.int .u64 ((wd 1 0:Nat):Int),.int .u64 ((wd 2 0:Nat):Int),.int .u64 ((wd 3 0:Nat):Int)]):=⟨fun _=>by kernel_rfl,by kernel_rfl,fun _=>by kernel_rfl⟩
instance:FlT Tryz.prog 76 0 0:=⟨fun _ _=>by kernel_rfl⟩
instance:FlT Tryz.prog 76 1 1:=⟨fun _ _=>by kernel_rfl⟩
instance:FlT Tryz.prog 76 2 2:=⟨fun _ _=>by kernel_rfl⟩
instance:FlT Tryz.prog 76 3 3:=⟨fun _ _=>by kernel_rfl⟩
instance:SlT Tryz.prog 78 84 15:=⟨by kernel_rfl,fun _=>by kernel_rfl⟩
instance:AgT Tryz.prog 81 2:=⟨fun _=>by kernel_rfl,fun _=>by kernel_rfl⟩
instance:ZeT Tryz.prog 81 (.agg ([.int .u64 0,.int .u64 0]).toArray):=⟨fun _=>by kernel_rfl⟩
instance:ArT Tryz.prog 81 2 22 1:=⟨by kernel_rfl,fun _=>by kernel_rfl⟩
instance:AgT Tryz.prog 84 15:=⟨fun _=>by kernel_rfl,fun _=>by kernel_rfl⟩
instance:ZeT Tryz.prog 84 (.agg ([.int .u64 0,.int .u8 0,.int .u8 0,.int .u64 ((wd 0 0:Nat):Int),.int .u64 ((wd 1 0:Nat):Int),.int .u64 ((wd 2 0:Nat):Int),.int .u64 ((wd 3 0:Nat):Int),.int .u64 ((wd 0 0:Nat):Int),.int .u64 ((wd 1 0:Nat):Int),.int .u64 ((wd 2 0:Nat):Int),.int .u64 ((wd 3 0:Nat):Int),.int .u64 ((wd 0 0:Nat):Int),.int .u64 ((wd 1 0:Nat):Int),.int .u64 ((wd 2 0:Nat):Int),.int .u64 ((wd 3 0:Nat):Int)]).toArray):=⟨fun _=>by kernel_rfl⟩
instance:FlT Tryz.prog 84 2 2:=⟨fun _ _=>by kernel_rfl⟩
instance:FlT Tryz.prog 84 3 3:=⟨fun _ _=>by kernel_rfl⟩
instance:OnT Tryz.prog 88:=⟨fun _=>by kernel_rfl,fun _=>by kernel_rfl⟩
instance:SlT Tryz.prog 88 3 1:=⟨by kernel_rfl,fun _=>by kernel_rfl⟩
instance:AgT Tryz.prog 97 8:=⟨fun _=>by kernel_rfl,fun _=>by kernel_rfl⟩
instance:ZeT Tryz.prog 97 (.agg ([.int .u64 ((wd 0 0:Nat):Int),.int .u64 ((wd 1 0:Nat):Int),.int .u64 ((wd 2 0:Nat):Int),.int .u64 ((wd 3 0:Nat):Int),.int .u64 ((wd 0 0:Nat):Int),.int .u64 ((wd 1 0:Nat):Int),.int .u64 ((wd 2 0:Nat):Int),.int .u64 ((wd 3 0:Nat):Int)]).toArray):=⟨fun _=>by kernel_rfl⟩
instance:BuT Tryz.prog 97 [(0,4),(4,4)] ([.int .u64 ((wd 0 0:Nat):Int),.int .u64 ((wd 1 0:Nat):Int),.int .u64 ((wd 2 0:Nat):Int),.int .u64 ((wd 3 0:Nat):Int),.int .u64 ((wd 0 0:Nat):Int),.int .u64 ((wd 1 0:Nat):Int),.int .u64 ((wd 2 0:Nat):Int),.int .u64 ((wd 3 0:Nat):Int)]):=⟨fun _=>by kernel_rfl,by kernel_rfl,fun _=>by kernel_rfl⟩
instance:FlT Tryz.prog 97 0 0:=⟨fun _ _=>by kernel_rfl⟩
instance:FlT Tryz.prog 97 1 4:=⟨fun _ _=>by kernel_rfl⟩
instance:InT Tryz.prog 105 .u64:=⟨by kernel_rfl⟩
instance:OnT Tryz.prog 110:=⟨fun _=>by kernel_rfl,fun _=>by kernel_rfl⟩
instance:AgT Tryz.prog 112 2:=⟨fun _=>by kernel_rfl,fun _=>by kernel_rfl⟩
instance:ZeT Tryz.prog 112 (.agg ([.int .i64 0,.nilFunc]).toArray):=⟨fun _=>by kernel_rfl⟩
instance:BuT Tryz.prog 112 [(0,1),(1,1)] ([.int .i64 0,.nilFunc]):=⟨fun _=>by kernel_rfl,by kernel_rfl,fun _=>by kernel_rfl⟩
instance:FlT Tryz.prog 112 0 0:=⟨fun _ _=>by kernel_rfl⟩
instance:FlT Tryz.prog 112 1 1:=⟨fun _ _=>by kernel_rfl⟩
instance:FiT Tryz.prog 112 1 1 110:=⟨fun _ _=>by kernel_rfl⟩
instance:AgT Tryz.prog 122 3:=⟨fun _=>by kernel_rfl,fun _=>by kernel_rfl⟩
instance:ZeT Tryz.prog 122 (.agg ([.slice none 0 0,.slice none 0 0,.int .i64 0]).toArray):=⟨fun _=>by kernel_rfl⟩
instance:BuT Tryz.prog 122 [(0,1),(1,1),(2,1)] ([.slice none 0 0,.slice none 0 0,.int .i64 0]):=⟨fun _=>by kernel_rfl,by kernel_rfl,fun _=>by kernel_rfl⟩
instance:FlT Tryz.prog 122 0 0:=⟨fun _ _=>by kernel_rfl⟩
instance:FlT Tryz.prog 122 1 1:=⟨fun _ _=>by kernel_rfl⟩
instance:FlT Tryz.prog 122 2 2:=⟨fun _ _=>by kernel_rfl⟩
instance:AgT Tryz.prog 124 3:=⟨fun _=>by kernel_rfl,fun _=>by kernel_rfl⟩
instance:ZeT Tryz.prog 124 (.agg ([.slice none 0 0,.slice none 0 0,.int .i64 0]).toArray):=⟨fun _=>by kernel_rfl⟩
instance:BuT Tryz.prog 124 [(0,1),(1,1),(2,1)] ([.slice none 0 0,.slice none 0 0,.int .i64 0]):=⟨fun _=>by kernel_rfl,by kernel_rfl,fun _=>by kernel_rfl⟩
instance:FlT Tryz.prog 124 0 0:=⟨fun _ _=>by kernel_rfl⟩
instance:FlT Tryz.prog 124 1 1:=⟨fun _ _=>by kernel_rfl⟩
instance:FlT Tryz.prog 124 2 2:=⟨fun _ _=>by kernel_rfl⟩
instance:AgT Tryz.prog 150 3:=⟨fun _=>by kernel_rfl,fun _=>by kernel_rfl⟩
instance:ZeT Tryz.prog 150 (.agg ([.slice none 0 0,.slice none 0 0,.int .i64 0]).toArray):=⟨fun _=>by kernel_rfl⟩
instance:BuT Tryz.prog 150 [(0,1),(1,1),(2,1)] ([.slice none 0 0,.slice none 0 0,.int .i64 0]):=⟨fun _=>by kernel_rfl,by kernel_rfl,fun _=>by kernel_rfl⟩
instance:FlT Tryz.prog 150 0 0:=⟨fun _ _=>by kernel_rfl⟩
instance:FlT Tryz.prog 150 1 1:=⟨fun _ _=>by kernel_rfl⟩
instance:FlT Tryz.prog 150 2 2:=⟨fun _ _=>by kernel_rfl⟩
instance:OnT Tryz.prog 232:=⟨fun _=>by kernel_rfl,fun _=>by kernel_rfl⟩
instance:BuT Tryz.prog 235 [(0,1)] ([.nilFunc]):=⟨fun _=>by kernel_rfl,by kernel_rfl,fun _=>by kernel_rfl⟩
instance:FlT Tryz.prog 235 0 0:=⟨fun _ _=>by kernel_rfl⟩
instance:OnT Tryz.prog 251:=⟨fun _=>by kernel_rfl,fun _=>by kernel_rfl⟩
instance:ZeT Tryz.prog 251 (.pointer none):=⟨fun _=>by kernel_rfl⟩
instance:BuT Tryz.prog 253 [(0,16),(16,1)] ([.int .u64 ((wd 0 0:Nat):Int),.int .u64 ((wd 1 0:Nat):Int),.int .u64 ((wd 2 0:Nat):Int),.int .u64 ((wd 3 0:Nat):Int),.int .u64 ((wd 0 0:Nat):Int),.int .u64 ((wd 1 0:Nat):Int),.int .u64 ((wd 2 0:Nat):Int),.int .u64 ((wd 3 0:Nat):Int),.int .u64 ((wd 0 0:Nat):Int),.int .u64 ((wd 1 0:Nat):Int),.int .u64 ((wd 2 0:Nat):Int),.int .u64 ((wd 3 0:Nat):Int),.int .u64 ((wd 0 0:Nat):Int),.int .u64 ((wd 1 0:Nat):Int),.int .u64 ((wd 2 0:Nat):Int),.int .u64 ((wd 3 0:Nat):Int),.int .i64 0]):=⟨fun _=>by kernel_rfl,by kernel_rfl,fun _=>by kernel_rfl⟩
instance:FlT Tryz.prog 253 0 0:=⟨fun _ _=>by kernel_rfl⟩
instance:FlT Tryz.prog 253 1 16:=⟨fun _ _=>by kernel_rfl⟩
instance:AgT Tryz.prog 259 16:=⟨fun _=>by kernel_rfl,fun _=>by kernel_rfl⟩
instance:ZeT Tryz.prog 259 (.agg (List.replicate 16 (.int .u64 0)).toArray):=⟨fun _=>by kernel_rfl⟩
instance:ArT Tryz.prog 259 16 22 1:=⟨by kernel_rfl,fun _=>by kernel_rfl⟩
instance:SlT Tryz.prog 289 22 1:=⟨by kernel_rfl,fun _=>by kernel_rfl⟩
instance:ZeT Tryz.prog 310 (.agg (List.replicate 32 (.int .u64 0)).toArray):=⟨fun _=>by kernel_rfl⟩
instance:ArT Tryz.prog 310 32 22 1:=⟨by kernel_rfl,fun _=>by kernel_rfl⟩
instance:ElT Tryz.prog 3 8 ([.int .i64 0]):=⟨(Tryz.prog.info? 3).getD default,by kernel_rfl,by kernel_rfl,by kernel_rfl,.int .i64 0,by kernel_rfl,by kernel_rfl⟩
instance:ElT Tryz.prog 24 32 ([.int .u64 ((wd 0 0:Nat):Int),.int .u64 ((wd 1 0:Nat):Int),.int .u64 ((wd 2 0:Nat):Int),.int .u64 ((wd 3 0:Nat):Int)]):=⟨(Tryz.prog.info? 24).getD default,by kernel_rfl,by kernel_rfl,by kernel_rfl,.agg ([.int .u64 ((wd 0 0:Nat):Int),.int .u64 ((wd 1 0:Nat):Int),.int .u64 ((wd 2 0:Nat):Int),.int .u64 ((wd 3 0:Nat):Int)]).toArray,by kernel_rfl,by kernel_rfl⟩
instance:ElT Tryz.prog 76 112 ([.int .u64 0,.int .u8 0,.int .u8 0,.int .u64 ((wd 0 0:Nat):Int),.int .u64 ((wd 1 0:Nat):Int),.int .u64 ((wd 2 0:Nat):Int),.int .u64 ((wd 3 0:Nat):Int),.int .u64 ((wd 0 0:Nat):Int),.int .u64 ((wd 1 0:Nat):Int),.int .u64 ((wd 2 0:Nat):Int),.int .u64 ((wd 3 0:Nat):Int),.int .u64 ((wd 0 0:Nat):Int),.int .u64 ((wd 1 0:Nat):Int),.int .u64 ((wd 2 0:Nat):Int),.int .u64 ((wd 3 0:Nat):Int)]):=⟨(Tryz.prog.info? 76).getD default,by kernel_rfl,by kernel_rfl,by kernel_rfl,.agg ([.int .u64 0,.int .u8 0,.int .u8 0,.int .u64 ((wd 0 0:Nat):Int),.int .u64 ((wd 1 0:Nat):Int),.int .u64 ((wd 2 0:Nat):Int),.int .u64 ((wd 3 0:Nat):Int),.int .u64 ((wd 0 0:Nat):Int),.int .u64 ((wd 1 0:Nat):Int),.int .u64 ((wd 2 0:Nat):Int),.int .u64 ((wd 3 0:Nat):Int),.int .u64 ((wd 0 0:Nat):Int),.int .u64 ((wd 1 0:Nat):Int),.int .u64 ((wd 2 0:Nat):Int),.int .u64 ((wd 3 0:Nat):Int)]).toArray,by kernel_rfl,by kernel_rfl⟩
instance:ElT Tryz.prog 84 112 ([.int .u64 0,.int .u8 0,.int .u8 0,.int .u64 ((wd 0 0:Nat):Int),.int .u64 ((wd 1 0:Nat):Int),.int .u64 ((wd 2 0:Nat):Int),.int .u64 ((wd 3 0:Nat):Int),.int .u64 ((wd 0 0:Nat):Int),.int .u64 ((wd 1 0:Nat):Int),.int .u64 ((wd 2 0:Nat):Int),.int .u64 ((wd 3 0:Nat):Int),.int .u64 ((wd 0 0:Nat):Int),.int .u64 ((wd 1 0:Nat):Int),.int .u64 ((wd 2 0:Nat):Int),.int .u64 ((wd 3 0:Nat):Int)]):=⟨(Tryz.prog.info? 84).getD default,by kernel_rfl,by kernel_rfl,by kernel_rfl,.agg ([.int .u64 0,.int .u8 0,.int .u8 0,.int .u64 ((wd 0 0:Nat):Int),.int .u64 ((wd 1 0:Nat):Int),.int .u64 ((wd 2 0:Nat):Int),.int .u64 ((wd 3 0:Nat):Int),.int .u64 ((wd 0 0:Nat):Int),.int .u64 ((wd 1 0:Nat):Int),.int .u64 ((wd 2 0:Nat):Int),.int .u64 ((wd 3 0:Nat):Int),.int .u64 ((wd 0 0:Nat):Int),.int .u64 ((wd 1 0:Nat):Int),.int .u64 ((wd 2 0:Nat):Int),.int .u64 ((wd 3 0:Nat):Int)]).toArray,by kernel_rfl,by kernel_rfl⟩
instance:ElT Tryz.prog 97 64 ([.int .u64 ((wd 0 0:Nat):Int),.int .u64 ((wd 1 0:Nat):Int),.int .u64 ((wd 2 0:Nat):Int),.int .u64 ((wd 3 0:Nat):Int),.int .u64 ((wd 0 0:Nat):Int),.int .u64 ((wd 1 0:Nat):Int),.int .u64 ((wd 2 0:Nat):Int),.int .u64 ((wd 3 0:Nat):Int)]):=⟨(Tryz.prog.info? 97).getD default,by kernel_rfl,by kernel_rfl,by kernel_rfl,.agg ([.int .u64 ((wd 0 0:Nat):Int),.int .u64 ((wd 1 0:Nat):Int),.int .u64 ((wd 2 0:Nat):Int),.int .u64 ((wd 3 0:Nat):Int),.int .u64 ((wd 0 0:Nat):Int),.int .u64 ((wd 1 0:Nat):Int),.int .u64 ((wd 2 0:Nat):Int),.int .u64 ((wd 3 0:Nat):Int)]).toArray,by kernel_rfl,by kernel_rfl⟩
instance:ElT Tryz.prog 122 56 ([.slice none 0 0,.slice none 0 0,.int .i64 0]):=⟨(Tryz.prog.info? 122).getD default,by kernel_rfl,by kernel_rfl,by kernel_rfl,.agg ([.slice none 0 0,.slice none 0 0,.int .i64 0]).toArray,by kernel_rfl,by kernel_rfl⟩
instance:ElT Tryz.prog 124 56 ([.slice none 0 0,.slice none 0 0,.int .i64 0]):=⟨(Tryz.prog.info? 124).getD default,by kernel_rfl,by kernel_rfl,by kernel_rfl,.agg ([.slice none 0 0,.slice none 0 0,.int .i64 0]).toArray,by kernel_rfl,by kernel_rfl⟩
instance:ElT Tryz.prog 150 56 ([.slice none 0 0,.slice none 0 0,.int .i64 0]):=⟨(Tryz.prog.info? 150).getD default,by kernel_rfl,by kernel_rfl,by kernel_rfl,.agg ([.slice none 0 0,.slice none 0 0,.int .i64 0]).toArray,by kernel_rfl,by kernel_rfl⟩
instance:Cal Tryz.prog 4:=⟨fun _ _=>by kernel_rfl⟩
instance:Cal Tryz.prog 5:=⟨fun _ _=>by kernel_rfl⟩
instance:Cal Tryz.prog 6:=⟨fun _ _=>by kernel_rfl⟩
instance:Cal Tryz.prog 7:=⟨fun _ _=>by kernel_rfl⟩
instance:Cal Tryz.prog 8:=⟨fun _ _=>by kernel_rfl⟩
instance:Cal Tryz.prog 9:=⟨fun _ _=>by kernel_rfl⟩
instance:Cal Tryz.prog 10:=⟨fun _ _=>by kernel_rfl⟩
instance:Cal Tryz.prog 11:=⟨fun _ _=>by kernel_rfl⟩
instance:Cal Tryz.prog 12:=⟨fun _ _=>by kernel_rfl⟩
instance:Cal Tryz.prog 13:=⟨fun _ _=>by kernel_rfl⟩
instance:Cal Tryz.prog 14:=⟨fun _ _=>by kernel_rfl⟩
instance:Cal Tryz.prog 15:=⟨fun _ _=>by kernel_rfl⟩
instance:Cal Tryz.prog 16:=⟨fun _ _=>by kernel_rfl⟩
instance:Cal Tryz.prog 17:=⟨fun _ _=>by kernel_rfl⟩
instance:Cal Tryz.prog 18:=⟨fun _ _=>by kernel_rfl⟩
instance:Cal Tryz.prog 19:=⟨fun _ _=>by kernel_rfl⟩
instance:Cal Tryz.prog 20:=⟨fun _ _=>by kernel_rfl⟩
instance:Cal Tryz.prog 21:=⟨fun _ _=>by kernel_rfl⟩
instance:Cal Tryz.prog 22:=⟨fun _ _=>by kernel_rfl⟩
instance:Cal Tryz.prog 23:=⟨fun _ _=>by kernel_rfl⟩
instance:Cal Tryz.prog 24:=⟨fun _ _=>by kernel_rfl⟩
instance:Cal Tryz.prog 25:=⟨fun _ _=>by kernel_rfl⟩
instance:Cal Tryz.prog 26:=⟨fun _ _=>by kernel_rfl⟩
instance:Cal Tryz.prog 27:=⟨fun _ _=>by kernel_rfl⟩
instance:Cal Tryz.prog 28:=⟨fun _ _=>by kernel_rfl⟩
instance:Cal Tryz.prog 29:=⟨fun _ _=>by kernel_rfl⟩
instance:Cal Tryz.prog 30:=⟨fun _ _=>by kernel_rfl⟩
instance:Cal Tryz.prog 31:=⟨fun _ _=>by kernel_rfl⟩
instance:Cal Tryz.prog 32:=⟨fun _ _=>by kernel_rfl⟩
instance:Cal Tryz.prog 33:=⟨fun _ _=>by kernel_rfl⟩
instance:Cal Tryz.prog 34:=⟨fun _ _=>by kernel_rfl⟩
instance:Cal Tryz.prog 35:=⟨fun _ _=>by kernel_rfl⟩
instance:Cal Tryz.prog 36:=⟨fun _ _=>by kernel_rfl⟩
instance:Cal Tryz.prog 37:=⟨fun _ _=>by kernel_rfl⟩
instance:Cal Tryz.prog 38:=⟨fun _ _=>by kernel_rfl⟩
instance:Cal Tryz.prog 39:=⟨fun _ _=>by kernel_rfl⟩
instance:Cal Tryz.prog 40:=⟨fun _ _=>by kernel_rfl⟩
instance:Cal Tryz.prog 41:=⟨fun _ _=>by kernel_rfl⟩
instance:Cal Tryz.prog 42:=⟨fun _ _=>by kernel_rfl⟩
instance:Cal Tryz.prog 43:=⟨fun _ _=>by kernel_rfl⟩
instance:Cal Tryz.prog 44:=⟨fun _ _=>by kernel_rfl⟩
instance:Cal Tryz.prog 45:=⟨fun _ _=>by kernel_rfl⟩
instance:Cal Tryz.prog 46:=⟨fun _ _=>by kernel_rfl⟩
instance:Cal Tryz.prog 47:=⟨fun _ _=>by kernel_rfl⟩
instance:Cal Tryz.prog 48:=⟨fun _ _=>by kernel_rfl⟩
instance:Cal Tryz.prog 49:=⟨fun _ _=>by kernel_rfl⟩
instance:Cal Tryz.prog 50:=⟨fun _ _=>by kernel_rfl⟩
instance:Cal Tryz.prog 51:=⟨fun _ _=>by kernel_rfl⟩
instance:Cal Tryz.prog 52:=⟨fun _ _=>by kernel_rfl⟩
instance:Cal Tryz.prog 53:=⟨fun _ _=>by kernel_rfl⟩
instance:Cal Tryz.prog 54:=⟨fun _ _=>by kernel_rfl⟩
instance:Cal Tryz.prog 55:=⟨fun _ _=>by kernel_rfl⟩
instance:Cal Tryz.prog 56:=⟨fun _ _=>by kernel_rfl⟩
instance:Cal Tryz.prog 57:=⟨fun _ _=>by kernel_rfl⟩
instance:Cal Tryz.prog 58:=⟨fun _ _=>by kernel_rfl⟩
instance:Cal Tryz.prog 59:=⟨fun _ _=>by kernel_rfl⟩
instance:Cal Tryz.prog 60:=⟨fun _ _=>by kernel_rfl⟩
instance:Cal Tryz.prog 61:=⟨fun _ _=>by kernel_rfl⟩
instance:Cal Tryz.prog 62:=⟨fun _ _=>by kernel_rfl⟩
instance:Cal Tryz.prog 63:=⟨fun _ _=>by kernel_rfl⟩
instance:Cal Tryz.prog 64:=⟨fun _ _=>by kernel_rfl⟩
instance:Cal Tryz.prog 65:=⟨fun _ _=>by kernel_rfl⟩
instance:Cal Tryz.prog 66:=⟨fun _ _=>by kernel_rfl⟩
instance:Cal Tryz.prog 67:=⟨fun _ _=>by kernel_rfl⟩
instance:Cal Tryz.prog 68:=⟨fun _ _=>by kernel_rfl⟩
instance:Cal Tryz.prog 69:=⟨fun _ _=>by kernel_rfl⟩
instance:Cal Tryz.prog 70:=⟨fun _ _=>by kernel_rfl⟩
instance:Cal Tryz.prog 71:=⟨fun _ _=>by kernel_rfl⟩
instance:Cal Tryz.prog 72:=⟨fun _ _=>by kernel_rfl⟩
instance:Cal Tryz.prog 73:=⟨fun _ _=>by kernel_rfl⟩
instance:Cal Tryz.prog 74:=⟨fun _ _=>by kernel_rfl⟩
instance:Cal Tryz.prog 75:=⟨fun _ _=>by kernel_rfl⟩
instance:Cal Tryz.prog 76:=⟨fun _ _=>by kernel_rfl⟩
instance:Cal Tryz.prog 77:=⟨fun _ _=>by kernel_rfl⟩
instance:Cal Tryz.prog 78:=⟨fun _ _=>by kernel_rfl⟩
instance:Cal Tryz.prog 79:=⟨fun _ _=>by kernel_rfl⟩
instance:Cal Tryz.prog 80:=⟨fun _ _=>by kernel_rfl⟩
instance:Cal Tryz.prog 81:=⟨fun _ _=>by kernel_rfl⟩
instance:Cal Tryz.prog 82:=⟨fun _ _=>by kernel_rfl⟩
instance:Cal Tryz.prog 83:=⟨fun _ _=>by kernel_rfl⟩
instance:Cal Tryz.prog 84:=⟨fun _ _=>by kernel_rfl⟩
instance:Cal Tryz.prog 85:=⟨fun _ _=>by kernel_rfl⟩
instance:Cal Tryz.prog 86:=⟨fun _ _=>by kernel_rfl⟩
instance:Cal Tryz.prog 87:=⟨fun _ _=>by kernel_rfl⟩
instance:Cal Tryz.prog 88:=⟨fun _ _=>by kernel_rfl⟩
instance:Cal Tryz.prog 89:=⟨fun _ _=>by kernel_rfl⟩
instance:Cal Tryz.prog 90:=⟨fun _ _=>by kernel_rfl⟩
instance:Cal Tryz.prog 91:=⟨fun _ _=>by kernel_rfl⟩
instance:Cal Tryz.prog 92:=⟨fun _ _=>by kernel_rfl⟩
instance:Cal Tryz.prog 93:=⟨fun _ _=>by kernel_rfl⟩
instance:Cal Tryz.prog 94:=⟨fun _ _=>by kernel_rfl⟩
instance:Cal Tryz.prog 95:=⟨fun _ _=>by kernel_rfl⟩
instance:Cal Tryz.prog 96:=⟨fun _ _=>by kernel_rfl⟩
instance:Cal Tryz.prog 97:=⟨fun _ _=>by kernel_rfl⟩
instance:Cal Tryz.prog 98:=⟨fun _ _=>by kernel_rfl⟩
instance:Cal Tryz.prog 99:=⟨fun _ _=>by kernel_rfl⟩
instance:Cal Tryz.prog 100:=⟨fun _ _=>by kernel_rfl⟩
instance:Cal Tryz.prog 101:=⟨fun _ _=>by kernel_rfl⟩
instance:Cal Tryz.prog 102:=⟨fun _ _=>by kernel_rfl⟩
instance:Cal Tryz.prog 103:=⟨fun _ _=>by kernel_rfl⟩
instance:Cal Tryz.prog 104:=⟨fun _ _=>by kernel_rfl⟩
instance:Cal Tryz.prog 105:=⟨fun _ _=>by kernel_rfl⟩
instance:Cal Tryz.prog 106:=⟨fun _ _=>by kernel_rfl⟩
instance:Cal Tryz.prog 107:=⟨fun _ _=>by kernel_rfl⟩
instance:Cal Tryz.prog 108:=⟨fun _ _=>by kernel_rfl⟩
instance:Cal Tryz.prog 109:=⟨fun _ _=>by kernel_rfl⟩
instance:Cal Tryz.prog 110:=⟨fun _ _=>by kernel_rfl⟩
instance:Cal Tryz.prog 111:=⟨fun _ _=>by kernel_rfl⟩
instance:Cal Tryz.prog 112:=⟨fun _ _=>by kernel_rfl⟩
instance:Cal Tryz.prog 113:=⟨fun _ _=>by kernel_rfl⟩
instance:Cal Tryz.prog 114:=⟨fun _ _=>by kernel_rfl⟩
instance:Cal Tryz.prog 115:=⟨fun _ _=>by kernel_rfl⟩
instance:Cal Tryz.prog 116:=⟨fun _ _=>by kernel_rfl⟩
instance:Cal Tryz.prog 117:=⟨fun _ _=>by kernel_rfl⟩
instance:Cal Tryz.prog 118:=⟨fun _ _=>by kernel_rfl⟩
instance:Cal Tryz.prog 119:=⟨fun _ _=>by kernel_rfl⟩
instance:Cal Tryz.prog 123:=⟨fun _ _=>by kernel_rfl⟩
instance:Cal Tryz.prog 126:=⟨fun _ _=>by kernel_rfl⟩
instance:Cal Tryz.prog 129:=⟨fun _ _=>by kernel_rfl⟩
instance:Cal Tryz.prog 140:=⟨fun _ _=>by kernel_rfl⟩
instance:Cal Tryz.prog 143:=⟨fun _ _=>by kernel_rfl⟩
instance:Cal Tryz.prog 146:=⟨fun _ _=>by kernel_rfl⟩
instance:Cal Tryz.prog 154:=⟨fun _ _=>by kernel_rfl⟩
instance:Cal Tryz.prog 155:=⟨fun _ _=>by kernel_rfl⟩
instance:Cal Tryz.prog 156:=⟨fun _ _=>by kernel_rfl⟩
instance:Cal Tryz.prog 157:=⟨fun _ _=>by kernel_rfl⟩
instance:Cal Tryz.prog 158:=⟨fun _ _=>by kernel_rfl⟩
instance:Cal Tryz.prog 159:=⟨fun _ _=>by kernel_rfl⟩
instance:Cal Tryz.prog 160:=⟨fun _ _=>by kernel_rfl⟩
instance:Cal Tryz.prog 161:=⟨fun _ _=>by kernel_rfl⟩
instance:Cal Tryz.prog 162:=⟨fun _ _=>by kernel_rfl⟩
instance:Cal Tryz.prog 163:=⟨fun _ _=>by kernel_rfl⟩
instance:Cal Tryz.prog 164:=⟨fun _ _=>by kernel_rfl⟩
instance:Cal Tryz.prog 165:=⟨fun _ _=>by kernel_rfl⟩
instance:Cal Tryz.prog 166:=⟨fun _ _=>by kernel_rfl⟩
instance:Cal Tryz.prog 167:=⟨fun _ _=>by kernel_rfl⟩
instance:Cal Tryz.prog 168:=⟨fun _ _=>by kernel_rfl⟩
instance:Cal Tryz.prog 169:=⟨fun _ _=>by kernel_rfl⟩
instance:Cal Tryz.prog 178:=⟨fun _ _=>by kernel_rfl⟩
instance:Cal Tryz.prog 179:=⟨fun _ _=>by kernel_rfl⟩
instance:Cal Tryz.prog 180:=⟨fun _ _=>by kernel_rfl⟩
instance:Cal Tryz.prog 181:=⟨fun _ _=>by kernel_rfl⟩
instance:Cal Tryz.prog 182:=⟨fun _ _=>by kernel_rfl⟩
instance:Cal Tryz.prog 183:=⟨fun _ _=>by kernel_rfl⟩
instance:Cal Tryz.prog 184:=⟨fun _ _=>by kernel_rfl⟩
instance:Cal Tryz.prog 185:=⟨fun _ _=>by kernel_rfl⟩
instance:Cal Tryz.prog 186:=⟨fun _ _=>by kernel_rfl⟩
instance:Cal Tryz.prog 187:=⟨fun _ _=>by kernel_rfl⟩
instance:Cal Tryz.prog 188:=⟨fun _ _=>by kernel_rfl⟩
instance:Cal Tryz.prog 189:=⟨fun _ _=>by kernel_rfl⟩
instance:Cal Tryz.prog 190:=⟨fun _ _=>by kernel_rfl⟩
instance:Cal Tryz.prog 191:=⟨fun _ _=>by kernel_rfl⟩
instance:Cal Tryz.prog 192:=⟨fun _ _=>by kernel_rfl⟩
instance:Cal Tryz.prog 193:=⟨fun _ _=>by kernel_rfl⟩
instance:Cal Tryz.prog 194:=⟨fun _ _=>by kernel_rfl⟩
instance:Cal Tryz.prog 195:=⟨fun _ _=>by kernel_rfl⟩
instance:Cal Tryz.prog 196:=⟨fun _ _=>by kernel_rfl⟩
instance:Cal Tryz.prog 197:=⟨fun _ _=>by kernel_rfl⟩
instance:Cal Tryz.prog 198:=⟨fun _ _=>by kernel_rfl⟩
instance:Cal Tryz.prog 199:=⟨fun _ _=>by kernel_rfl⟩
instance:Cal Tryz.prog 200:=⟨fun _ _=>by kernel_rfl⟩
instance:Cal Tryz.prog 201:=⟨fun _ _=>by kernel_rfl⟩
instance:Cal Tryz.prog 202:=⟨fun _ _=>by kernel_rfl⟩
instance:Cal Tryz.prog 203:=⟨fun _ _=>by kernel_rfl⟩
instance:Cal Tryz.prog 204:=⟨fun _ _=>by kernel_rfl⟩
instance:Cal Tryz.prog 205:=⟨fun _ _=>by kernel_rfl⟩
instance:Cal Tryz.prog 206:=⟨fun _ _=>by kernel_rfl⟩
instance:Cal Tryz.prog 207:=⟨fun _ _=>by kernel_rfl⟩
instance:Cal Tryz.prog 208:=⟨fun _ _=>by kernel_rfl⟩
instance:Cal Tryz.prog 209:=⟨fun _ _=>by kernel_rfl⟩
instance:Cal Tryz.prog 210:=⟨fun _ _=>by kernel_rfl⟩
instance:Cal Tryz.prog 211:=⟨fun _ _=>by kernel_rfl⟩
instance:Cal Tryz.prog 212:=⟨fun _ _=>by kernel_rfl⟩
instance:Cal Tryz.prog 213:=⟨fun _ _=>by kernel_rfl⟩
instance:Cal Tryz.prog 214:=⟨fun _ _=>by kernel_rfl⟩
instance:Cal Tryz.prog 216:=⟨fun _ _=>by kernel_rfl⟩
instance:Cal Tryz.prog 217:=⟨fun _ _=>by kernel_rfl⟩
instance:Cal Tryz.prog 218:=⟨fun _ _=>by kernel_rfl⟩
instance:Cal Tryz.prog 219:=⟨fun _ _=>by kernel_rfl⟩
instance:Cal Tryz.prog 220:=⟨fun _ _=>by kernel_rfl⟩
instance:Cal Tryz.prog 228:=⟨fun _ _=>by kernel_rfl⟩
instance:Cal Tryz.prog 229:=⟨fun _ _=>by kernel_rfl⟩
instance:Cal Tryz.prog 230:=⟨fun _ _=>by kernel_rfl⟩
instance:Cal Tryz.prog 231:=⟨fun _ _=>by kernel_rfl⟩
instance:Cal Tryz.prog 232:=⟨fun _ _=>by kernel_rfl⟩
instance:Cal Tryz.prog 233:=⟨fun _ _=>by kernel_rfl⟩
instance:Cal Tryz.prog 234:=⟨fun _ _=>by kernel_rfl⟩
instance:Cal Tryz.prog 235:=⟨fun _ _=>by kernel_rfl⟩
instance:Cal Tryz.prog 236:=⟨fun _ _=>by kernel_rfl⟩
instance:Cal Tryz.prog 238:=⟨fun _ _=>by kernel_rfl⟩
instance:Cal Tryz.prog 239:=⟨fun _ _=>by kernel_rfl⟩
instance:Cal Tryz.prog 240:=⟨fun _ _=>by kernel_rfl⟩
instance:Cal Tryz.prog 241:=⟨fun _ _=>by kernel_rfl⟩
instance:Cal Tryz.prog 242:=⟨fun _ _=>by kernel_rfl⟩
instance:Cal Tryz.prog 243:=⟨fun _ _=>by kernel_rfl⟩
instance:Cal Tryz.prog 244:=⟨fun _ _=>by kernel_rfl⟩
instance:Cal Tryz.prog 245:=⟨fun _ _=>by kernel_rfl⟩
instance:Cal Tryz.prog 246:=⟨fun _ _=>by kernel_rfl⟩
instance:Cal Tryz.prog 247:=⟨fun _ _=>by kernel_rfl⟩
instance:Cal Tryz.prog 258:=⟨fun _ _=>by kernel_rfl⟩
instance:Cal Tryz.prog 259:=⟨fun _ _=>by kernel_rfl⟩
instance:Cal Tryz.prog 260:=⟨fun _ _=>by kernel_rfl⟩
instance:Cal Tryz.prog 261:=⟨fun _ _=>by kernel_rfl⟩
instance:Cal Tryz.prog 262:=⟨fun _ _=>by kernel_rfl⟩
instance:Cal Tryz.prog 263:=⟨fun _ _=>by kernel_rfl⟩
instance:Cal Tryz.prog 264:=⟨fun _ _=>by kernel_rfl⟩
instance:Cal Tryz.prog 266:=⟨fun _ _=>by kernel_rfl⟩
instance:Cal Tryz.prog 270:=⟨fun _ _=>by kernel_rfl⟩
instance:Cal Tryz.prog 271:=⟨fun _ _=>by kernel_rfl⟩
instance:Cal Tryz.prog 273:=⟨fun _ _=>by kernel_rfl⟩
instance:Cal Tryz.prog 274:=⟨fun _ _=>by kernel_rfl⟩
instance:Cal Tryz.prog 275:=⟨fun _ _=>by kernel_rfl⟩
end Sx
end Go.Proofs.YtiiacjladnljhaaGreatDoor
namespace Go.Proofs.YtiiacjladnljhaaGreatDoor
open Go Go.RowKit
namespace Sx
end Sx
end Go.Proofs.YtiiacjladnljhaaGreatDoor
namespace Go.Proofs.YtiiacjladnljhaaGreatDoor
open Go.RowKit
def Blk (w:World) (g:Nat) (t:TypeId) (cs:List Value):Prop:=w.heap[g]?=some (.cells cs.toArray t (0,0))
section
variable {w w' : World} {g:Nat} {t:TypeId} {cs:List Value}
theorem Blk.lt (h:Blk w g t cs):g<w.heap.size:=by
  rcases Nat.lt_or_ge g w.heap.size with hlt|hge
  · exact hlt
  · unfold Blk at h;rw[Array.getElem?_eq_none hge] at h;cases h
theorem Blk.cell (h:Blk w g t cs) (i:Nat):w.cell? ⟨g,i,none⟩=cs[i]?:=by
  rw[cell_of_row w g i cs.toArray t (0,0) h];simp
theorem Blk.cell_at (h:Blk w g t cs) {i:Nat} {v:Value} (hv:cs[i]?=some v):w.cell? ⟨g,i,none⟩=some v:=(h.cell i).trans hv
theorem Blk.frozen (h:Blk w g t cs) (i:Nat):w.frozen? ⟨g,i,none⟩=false:=by
  unfold Blk at h
  simp[World.frozen?,h]
theorem Blk.new (w:World) (t:TypeId) (cs:List Value):Blk (w.alloc (.cells cs.toArray t)) w.heap.size t cs:=heap_alloc_new w _
theorem Blk.new' {t:TypeId} {cs:List Value} (h:w.heap.size=g):Blk (w.alloc (.cells cs.toArray t)) g t cs:=h ▸ Blk.new w t cs
theorem Blk.drew (h:Blk w g t cs):Blk w.drew g t cs:=h
theorem Blk.drewN (h:Blk w g t cs) (n:Nat):Blk (w.drewN n) g t cs:=h
theorem Blk.alloc (h:Blk w g t cs) (o:Obj):Blk (w.alloc o) g t cs:=(Below.heap_alloc w o g h.lt).trans h
theorem Blk.set_ (h:Blk w g t cs) (i:Nat) (u:Value):Blk (w.setCell ⟨g,i,none⟩ u) g t (cs.set i u):=by
  unfold Blk at h ⊢
  simp[World.setCell,Array.getElem?_modify,h]
theorem Blk.put4 {a b c d:Value} (h:Blk w g t [a,b,c,d]) (u0 u1 u2 u3:Value) :
    Blk ((((w.setCell ⟨g,0,none⟩ u0).setCell ⟨g,1,none⟩ u1).setCell ⟨g,2,none⟩ u2).setCell ⟨g,3,none⟩ u3) g t [u0,u1,u2,u3]:=(((h.set_ 0 u0).set_ 1 u1).set_ 2 u2).set_ 3 u3
theorem Blk.far (h:Blk w g t cs) {p:Addr} (hp:g≠p.block) (u:Value):Blk (w.setCell p u) g t cs:=(Below.heap_setCell w p u g hp).trans h
theorem Blk.below {B:Nat} (h:Blk w g t cs) (hb:Below B w w') (hg:g<B):Blk w' g t cs:=(hb.block g hg).trans h
theorem Blk.grown {row:Option Nat} (h:Blk w g t cs) (hb:w.grownBy w' row) (hg:some g≠row):Blk w' g t cs:=(hb.block g h.lt hg).trans h
end
theorem bcell {B:Nat} {W w1:World} (hb:Below B W w1):(∀ b o,b<B→w1.cell? ⟨b,o,none⟩=W.cell? ⟨b,o,none⟩)∧(∀ b o,b<B→w1.frozen? ⟨b,o,none⟩=W.frozen? ⟨b,o,none⟩) :=
  ⟨fun b o h=>hb.cell (p:=⟨b,o,none⟩) h,fun b o h=>hb.frozen (p:=⟨b,o,none⟩) h⟩
abbrev Ext (w w' : World):Prop:=Below w.heap.size w w'
theorem Ext.rfl' (w:World):Ext w w:=Below.refl _ _
theorem Ext.trans' {a b c:World} (h:Ext a b) (k:Ext b c):Ext a c:=h.trans (k.mono h.size)
theorem Ext.alloc' {a b:World} (h:Ext a b) (o:Obj):Ext a (b.alloc o):=h.alloc h.size o
theorem Below.drewN' {B:Nat} {a w:World} (h:Below B a w) (n:Nat):Below B a (w.drewN n):=⟨h.os,h.tape,h.output,h.size,h.block⟩
end Go.Proofs.YtiiacjladnljhaaGreatDoor
