/- Part 12 of the proof: SxT -/
import Derived.Test.YtmhligfnchegdaaGreatDoorM09
import Derived.Test.YtmhligfnchegdaaGreatDoorM07
import Derived.Test.YtmhligfnchegdaaGreatDoorProg
set_option linter.unusedSimpArgs false
set_option linter.unusedVariables false
namespace Go.Proofs.YtmhligfnchegdaaGreatDoor
open Go Go.RowKit
namespace Sx
instance:Mix Tryz.prog:=⟨by kernel_rfl⟩
instance:InT Tryz.prog 2 .i64:=⟨by kernel_rfl⟩
instance:OnT Tryz.prog 3:=⟨fun _=>by kernel_rfl,fun _=>by kernel_rfl⟩
instance:InT Tryz.prog 3 .i64:=⟨by kernel_rfl⟩
instance:OnT Tryz.prog 5:=⟨fun _=>by kernel_rfl,fun _=>by kernel_rfl⟩
instance:InT Tryz.prog 5 .u8:=⟨by kernel_rfl⟩
instance:OnT Tryz.prog 9:=⟨fun _=>by kernel_rfl,fun _=>by kernel_rfl⟩
instance:StrT Tryz.prog 9:=⟨by kernel_rfl⟩
instance:OnT Tryz.prog 22:=⟨fun _=>by kernel_rfl,fun _=>by kernel_rfl⟩
instance:InT Tryz.prog 22 .u64:=⟨by kernel_rfl⟩
instance:AgT Tryz.prog 24 4:=⟨fun _=>by kernel_rfl,fun _=>by kernel_rfl⟩
instance:ZeT Tryz.prog 24 (.agg ([.int .u64 ((wd 0 0:Nat):Int),.int .u64 ((wd 1 0:Nat):Int),.int .u64 ((wd 2 0:Nat):Int),.int .u64 ((wd 3 0:Nat):Int)]).toArray):=⟨fun _=>by kernel_rfl⟩
instance:ArT Tryz.prog 24 4 22 1:=⟨by kernel_rfl,fun _=>by kernel_rfl⟩
instance:AgT Tryz.prog 26 16:=⟨fun _=>by kernel_rfl,fun _=>by kernel_rfl⟩
instance:ZeT Tryz.prog 26 (.agg ([.int .u64 ((wd 0 0:Nat):Int),.int .u64 ((wd 1 0:Nat):Int),.int .u64 ((wd 2 0:Nat):Int),.int .u64 ((wd 3 0:Nat):Int),.int .u64 ((wd 0 0:Nat):Int),.int .u64 ((wd 1 0:Nat):Int),.int .u64 ((wd 2 0:Nat):Int),.int .u64 ((wd 3 0:Nat):Int),.int .u64 ((wd 0 0:Nat):Int),.int .u64 ((wd 1 0:Nat):Int),.int .u64 ((wd 2 0:Nat):Int),.int .u64 ((wd 3 0:Nat):Int),.int .u64 ((wd 0 0:Nat):Int),.int .u64 ((wd 1 0:Nat):Int),.int .u64 ((wd 2 0:Nat):Int),.int .u64 ((wd 3 0:Nat):Int)]).toArray):=⟨fun _=>by kernel_rfl⟩
instance:FlT Tryz.prog 26 0 0:=⟨fun _ _=>by kernel_rfl⟩
instance:FlT Tryz.prog 26 1 4:=⟨fun _ _=>by kernel_rfl⟩
instance:FlT Tryz.prog 26 2 8:=⟨fun _ _=>by kernel_rfl⟩
instance:FlT Tryz.prog 26 3 12:=⟨fun _ _=>by kernel_rfl⟩
instance:OnT Tryz.prog 27:=⟨fun _=>by kernel_rfl,fun _=>by kernel_rfl⟩
instance:SlT Tryz.prog 27 76 8:=⟨by kernel_rfl,fun _=>by kernel_rfl⟩
instance:AgT Tryz.prog 29 19:=⟨fun _=>by kernel_rfl,fun _=>by kernel_rfl⟩
instance:ZeT Tryz.prog 29 (.agg ([.int .u64 ((wd 0 0:Nat):Int),.int .u64 ((wd 1 0:Nat):Int),.int .u64 ((wd 2 0:Nat):Int),.int .u64 ((wd 3 0:Nat):Int),.int .u64 ((wd 0 0:Nat):Int),.int .u64 ((wd 1 0:Nat):Int),.int .u64 ((wd 2 0:Nat):Int),.int .u64 ((wd 3 0:Nat):Int),.int .u64 ((wd 0 0:Nat):Int),.int .u64 ((wd 1 0:Nat):Int),.int .u64 ((wd 2 0:Nat):Int),.int .u64 ((wd 3 0:Nat):Int),.int .u64 ((wd 0 0:Nat):Int),.int .u64 ((wd 1 0:Nat):Int),.int .u64 ((wd 2 0:Nat):Int),.int .u64 ((wd 3 0:Nat):Int),.int .i64 0,.int .i64 0,.slice none 0 0]).toArray):=⟨fun _=>by kernel_rfl⟩
instance:BuT Tryz.prog 29 [(0,16),(16,1),(17,1),(18,1)] ([.int .u64 ((wd 0 0:Nat):Int),.int .u64 ((wd 1 0:Nat):Int),.int .u64 ((wd 2 0:Nat):Int),.int .u64 ((wd 3 0:Nat):Int),.int .u64 ((wd 0 0:Nat):Int),.int .u64 ((wd 1 0:Nat):Int),.int .u64 ((wd 2 0:Nat):Int),.int .u64 ((wd 3 0:Nat):Int),.int .u64 ((wd 0 0:Nat):Int),.int .u64 ((wd 1 0:Nat):Int),.int .u64 ((wd 2 0:Nat):Int),.int .u64 ((wd 3 0:Nat):Int),.int .u64 ((wd 0 0:Nat):Int),.int .u64 ((wd 1 0:Nat):Int),.int .u64 ((wd 2 0:Nat):Int),.int .u64 ((wd 3 0:Nat):Int),.int .i64 0,.int .i64 0,.slice none 0 0]):=⟨fun _=>by kernel_rfl,by kernel_rfl,fun _=>by kernel_rfl⟩
instance:FlT Tryz.prog 29 0 0:=⟨fun _ _=>by kernel_rfl⟩
instance:FlT Tryz.prog 29 1 16:=⟨fun _ _=>by kernel_rfl⟩
instance:FlT Tryz.prog 29 2 17:=⟨fun _ _=>by kernel_rfl⟩
instance:FlT Tryz.prog 29 3 18:=⟨fun _ _=>by kernel_rfl⟩
instance:OnT Tryz.prog 30:=⟨fun _=>by kernel_rfl,fun _=>by kernel_rfl⟩
instance:SlT Tryz.prog 30 24 4:=⟨by kernel_rfl,fun _=>by kernel_rfl⟩
instance:AgT Tryz.prog 32 7:=⟨fun _=>by kernel_rfl,fun _=>by kernel_rfl⟩
instance:FlT Tryz.prog 32 0 0:=⟨fun _ _=>by kernel_rfl⟩
instance:FlT Tryz.prog 32 1 1:=⟨fun _ _=>by kernel_rfl⟩
instance:FlT Tryz.prog 32 2 2:=⟨fun _ _=>by kernel_rfl⟩
instance:FlT Tryz.prog 32 3 3:=⟨fun _ _=>by kernel_rfl⟩
instance:OnT Tryz.prog 36:=⟨fun _=>by kernel_rfl,fun _=>by kernel_rfl⟩
instance:SlT Tryz.prog 36 87 8:=⟨by kernel_rfl,fun _=>by kernel_rfl⟩
instance:AgT Tryz.prog 38 8:=⟨fun _=>by kernel_rfl,fun _=>by kernel_rfl⟩
instance:ZeT Tryz.prog 38 (.agg ([.int .u64 ((wd 0 0:Nat):Int),.int .u64 ((wd 1 0:Nat):Int),.int .u64 ((wd 2 0:Nat):Int),.int .u64 ((wd 3 0:Nat):Int),.int .u64 ((wd 0 0:Nat):Int),.int .u64 ((wd 1 0:Nat):Int),.int .u64 ((wd 2 0:Nat):Int),.int .u64 ((wd 3 0:Nat):Int)]).toArray):=⟨fun _=>by kernel_rfl⟩
instance:BuT Tryz.prog 38 [(0,4),(4,4)] ([.int .u64 ((wd 0 0:Nat):Int),.int .u64 ((wd 1 0:Nat):Int),.int .u64 ((wd 2 0:Nat):Int),.int .u64 ((wd 3 0:Nat):Int),.int .u64 ((wd 0 0:Nat):Int),.int .u64 ((wd 1 0:Nat):Int),.int .u64 ((wd 2 0:Nat):Int),.int .u64 ((wd 3 0:Nat):Int)]):=⟨fun _=>by kernel_rfl,by kernel_rfl,fun _=>by kernel_rfl⟩
instance:AgT Tryz.prog 40 13:=⟨fun _=>by kernel_rfl,fun _=>by kernel_rfl⟩
instance:ZeT Tryz.prog 40 (.agg ([.int .u64 0,.int .u8 0,.slice none 0 0,.slice none 0 0,.slice none 0 0,.int .u64 ((wd 0 0:Nat):Int),.int .u64 ((wd 1 0:Nat):Int),.int .u64 ((wd 2 0:Nat):Int),.int .u64 ((wd 3 0:Nat):Int),.int .u64 ((wd 0 0:Nat):Int),.int .u64 ((wd 1 0:Nat):Int),.int .u64 ((wd 2 0:Nat):Int),.int .u64 ((wd 3 0:Nat):Int)]).toArray):=⟨fun _=>by kernel_rfl⟩
instance:BuT Tryz.prog 40 [(0,1),(1,1),(2,1),(3,1),(4,1),(5,8)] ([.int .u64 0,.int .u8 0,.slice none 0 0,.slice none 0 0,.slice none 0 0,.int .u64 ((wd 0 0:Nat):Int),.int .u64 ((wd 1 0:Nat):Int),.int .u64 ((wd 2 0:Nat):Int),.int .u64 ((wd 3 0:Nat):Int),.int .u64 ((wd 0 0:Nat):Int),.int .u64 ((wd 1 0:Nat):Int),.int .u64 ((wd 2 0:Nat):Int),.int .u64 ((wd 3 0:Nat):Int)]):=⟨fun _=>by kernel_rfl,by kernel_rfl,fun _=>by kernel_rfl⟩
instance:FlT Tryz.prog 40 0 0:=⟨fun _ _=>by kernel_rfl⟩
instance:FlT Tryz.prog 40 1 1:=⟨fun _ _=>by kernel_rfl⟩
instance:FlT Tryz.prog 40 2 2:=⟨fun _ _=>by kernel_rfl⟩
instance:FlT Tryz.prog 40 3 3:=⟨fun _ _=>by kernel_rfl⟩
instance:FlT Tryz.prog 40 4 4:=⟨fun _ _=>by kernel_rfl⟩
instance:FlT Tryz.prog 40 5 5:=⟨fun _ _=>by kernel_rfl⟩
instance:OnT Tryz.prog 41:=⟨fun _=>by kernel_rfl,fun _=>by kernel_rfl⟩
instance:OnT Tryz.prog 48:=⟨fun _=>by kernel_rfl,fun _=>by kernel_rfl⟩
instance:SlT Tryz.prog 48 140 3:=⟨by kernel_rfl,fun _=>by kernel_rfl⟩
instance:OnT Tryz.prog 49:=⟨fun _=>by kernel_rfl,fun _=>by kernel_rfl⟩
instance:SlT Tryz.prog 49 144 3:=⟨by kernel_rfl,fun _=>by kernel_rfl⟩
instance:OnT Tryz.prog 50:=⟨fun _=>by kernel_rfl,fun _=>by kernel_rfl⟩
instance:SlT Tryz.prog 50 148 3:=⟨by kernel_rfl,fun _=>by kernel_rfl⟩
instance:OnT Tryz.prog 51:=⟨fun _=>by kernel_rfl,fun _=>by kernel_rfl⟩
instance:SlT Tryz.prog 51 138 3:=⟨by kernel_rfl,fun _=>by kernel_rfl⟩
instance:OnT Tryz.prog 52:=⟨fun _=>by kernel_rfl,fun _=>by kernel_rfl⟩
instance:SlT Tryz.prog 52 153 3:=⟨by kernel_rfl,fun _=>by kernel_rfl⟩
instance:OnT Tryz.prog 53:=⟨fun _=>by kernel_rfl,fun _=>by kernel_rfl⟩
instance:SlT Tryz.prog 53 157 3:=⟨by kernel_rfl,fun _=>by kernel_rfl⟩
instance:OnT Tryz.prog 54:=⟨fun _=>by kernel_rfl,fun _=>by kernel_rfl⟩
instance:SlT Tryz.prog 54 162 3:=⟨by kernel_rfl,fun _=>by kernel_rfl⟩
instance:OnT Tryz.prog 55:=⟨fun _=>by kernel_rfl,fun _=>by kernel_rfl⟩
instance:SlT Tryz.prog 55 165 3:=⟨by kernel_rfl,fun _=>by kernel_rfl⟩
instance:OnT Tryz.prog 56:=⟨fun _=>by kernel_rfl,fun _=>by kernel_rfl⟩
instance:SlT Tryz.prog 56 169 3:=⟨by kernel_rfl,fun _=>by kernel_rfl⟩
instance:OnT Tryz.prog 57:=⟨fun _=>by kernel_rfl,fun _=>by kernel_rfl⟩
instance:SlT Tryz.prog 57 173 3:=⟨by kernel_rfl,fun _=>by kernel_rfl⟩
instance:OnT Tryz.prog 58:=⟨fun _=>by kernel_rfl,fun _=>by kernel_rfl⟩
instance:SlT Tryz.prog 58 179 3:=⟨by kernel_rfl,fun _=>by kernel_rfl⟩
instance:OnT Tryz.prog 59:=⟨fun _=>by kernel_rfl,fun _=>by kernel_rfl⟩
instance:SlT Tryz.prog 59 185 3:=⟨by kernel_rfl,fun _=>by kernel_rfl⟩
instance:OnT Tryz.prog 60:=⟨fun _=>by kernel_rfl,fun _=>by kernel_rfl⟩
instance:SlT Tryz.prog 60 193 3:=⟨by kernel_rfl,fun _=>by kernel_rfl⟩
instance:OnT Tryz.prog 61:=⟨fun _=>by kernel_rfl,fun _=>by kernel_rfl⟩
instance:SlT Tryz.prog 61 201 3:=⟨by kernel_rfl,fun _=>by kernel_rfl⟩
instance:OnT Tryz.prog 62:=⟨fun _=>by kernel_rfl,fun _=>by kernel_rfl⟩
instance:SlT Tryz.prog 62 207 3:=⟨by kernel_rfl,fun _=>by kernel_rfl⟩
instance:OnT Tryz.prog 63:=⟨fun _=>by kernel_rfl,fun _=>by kernel_rfl⟩
instance:SlT Tryz.prog 63 216 3:=⟨by kernel_rfl,fun _=>by kernel_rfl⟩
instance:OnT Tryz.prog 64:=⟨fun _=>by kernel_rfl,fun _=>by kernel_rfl⟩
instance:SlT Tryz.prog 64 221 3:=⟨by kernel_rfl,fun _=>by kernel_rfl⟩
instance:AgT Tryz.prog 66 18:=⟨fun _=>by kernel_rfl,fun _=>by kernel_rfl⟩
instance:ZeT Tryz.prog 66 (.agg ([.int .i64 0,.slice none 0 0,.slice none 0 0,.slice none 0 0,.slice none 0 0,.slice none 0 0,.slice none 0 0,.slice none 0 0,.slice none 0 0,.slice none 0 0,.slice none 0 0,.slice none 0 0,.slice none 0 0,.slice none 0 0,.slice none 0 0,.slice none 0 0,.slice none 0 0,.slice none 0 0]).toArray):=⟨fun _=>by kernel_rfl⟩
instance:BuT Tryz.prog 66 [(0,1),(1,1),(2,1),(3,1),(4,1),(5,1),(6,1),(7,1),(8,1),(9,1),(10,1),(11,1),(12,1),(13,1),(14,1),(15,1),(16,1),(17,1)] ([.int .i64 0,.slice none 0 0,.slice none 0 0,.slice none 0 0,.slice none 0 0,.slice none 0 0,.slice none 0 0,.slice none 0 0,.slice none 0 0,.slice none 0 0,.slice none 0 0,.slice none 0 0,.slice none 0 0,.slice none 0 0,.slice none 0 0,.slice none 0 0,.slice none 0 0,.slice none 0 0]):=⟨fun _=>by kernel_rfl,by kernel_rfl,fun _=>by kernel_rfl⟩
instance:FlT Tryz.prog 66 0 0:=⟨fun _ _=>by kernel_rfl⟩
instance:FlT Tryz.prog 66 1 1:=⟨fun _ _=>by kernel_rfl⟩
instance:FlT Tryz.prog 66 2 2:=⟨fun _ _=>by kernel_rfl⟩
instance:FlT Tryz.prog 66 3 3:=⟨fun _ _=>by kernel_rfl⟩
instance:FlT Tryz.prog 66 4 4:=⟨fun _ _=>by kernel_rfl⟩
instance:FlT Tryz.prog 66 5 5:=⟨fun _ _=>by kernel_rfl⟩
instance:FlT Tryz.prog 66 6 6:=⟨fun _ _=>by kernel_rfl⟩
instance:FlT Tryz.prog 66 7 7:=⟨fun _ _=>by kernel_rfl⟩
instance:FlT Tryz.prog 66 8 8:=⟨fun _ _=>by kernel_rfl⟩
instance:FlT Tryz.prog 66 9 9:=⟨fun _ _=>by kernel_rfl⟩
instance:FlT Tryz.prog 66 10 10:=⟨fun _ _=>by kernel_rfl⟩
instance:FlT Tryz.prog 66 11 11:=⟨fun _ _=>by kernel_rfl⟩
instance:FlT Tryz.prog 66 12 12:=⟨fun _ _=>by kernel_rfl⟩
instance:FlT Tryz.prog 66 13 13:=⟨fun _ _=>by kernel_rfl⟩
instance:FlT Tryz.prog 66 14 14:=⟨fun _ _=>by kernel_rfl⟩
instance:FlT Tryz.prog 66 15 15:=⟨fun _ _=>by kernel_rfl⟩
instance:FlT Tryz.prog 66 16 16:=⟨fun _ _=>by kernel_rfl⟩
instance:FlT Tryz.prog 66 17 17:=⟨fun _ _=>by kernel_rfl⟩
instance:AgT Tryz.prog 76 8:=⟨fun _=>by kernel_rfl,fun _=>by kernel_rfl⟩
instance:ZeT Tryz.prog 76 (.agg ([.int .u64 ((wd 0 0:Nat):Int),.int .u64 ((wd 1 0:Nat):Int),.int .u64 ((wd 2 0:Nat):Int),.int .u64 ((wd 3 0:Nat):Int),.int .u64 ((wd 0 0:Nat):Int),.int .u64 ((wd 1 0:Nat):Int),.int .u64 ((wd 2 0:Nat):Int),.int .u64 ((wd 3 0:Nat):Int)]).toArray):=⟨fun _=>by kernel_rfl⟩
instance:BuT Tryz.prog 76 [(0,4),(4,4)] ([.int .u64 ((wd 0 0:Nat):Int),.int .u64 ((wd 1 0:Nat):Int),.int .u64 ((wd 2 0:Nat):Int),.int .u64 ((wd 3 0:Nat):Int),.int .u64 ((wd 0 0:Nat):Int),.int .u64 ((wd 1 0:Nat):Int),.int .u64 ((wd 2 0:Nat):Int),.int .u64 ((wd 3 0:Nat):Int)]):=⟨fun _=>by kernel_rfl,by kernel_rfl,fun _=>by kernel_rfl⟩
instance:FlT Tryz.prog 76 0 0:=⟨fun _ _=>by kernel_rfl⟩
instance:FlT Tryz.prog 76 1 4:=⟨fun _ _=>by kernel_rfl⟩
instance:AgT Tryz.prog 82 32:=⟨fun _=>by kernel_rfl,fun _=>by kernel_rfl⟩
instance:ZeT Tryz.prog 82 (.agg (List.replicate 32 (.int .u8 0)).toArray):=⟨fun _=>by kernel_rfl⟩
instance:ArT Tryz.prog 82 32 5 1:=⟨by kernel_rfl,fun _=>by kernel_rfl⟩
instance:OnT Tryz.prog 84:=⟨fun _=>by kernel_rfl,fun _=>by kernel_rfl⟩
instance:SlT Tryz.prog 84 5 1:=⟨by kernel_rfl,fun _=>by kernel_rfl⟩
instance:AgT Tryz.prog 87 8:=⟨fun _=>by kernel_rfl,fun _=>by kernel_rfl⟩
instance:ZeT Tryz.prog 87 (.agg ([.int .u64 ((wd 0 0:Nat):Int),.int .u64 ((wd 1 0:Nat):Int),.int .u64 ((wd 2 0:Nat):Int),.int .u64 ((wd 3 0:Nat):Int),.int .u64 ((wd 0 0:Nat):Int),.int .u64 ((wd 1 0:Nat):Int),.int .u64 ((wd 2 0:Nat):Int),.int .u64 ((wd 3 0:Nat):Int)]).toArray):=⟨fun _=>by kernel_rfl⟩
instance:BuT Tryz.prog 87 [(0,4),(4,4)] ([.int .u64 ((wd 0 0:Nat):Int),.int .u64 ((wd 1 0:Nat):Int),.int .u64 ((wd 2 0:Nat):Int),.int .u64 ((wd 3 0:Nat):Int),.int .u64 ((wd 0 0:Nat):Int),.int .u64 ((wd 1 0:Nat):Int),.int .u64 ((wd 2 0:Nat):Int),.int .u64 ((wd 3 0:Nat):Int)]):=⟨fun _=>by kernel_rfl,by kernel_rfl,fun _=>by kernel_rfl⟩
instance:FlT Tryz.prog 87 0 0:=⟨fun _ _=>by kernel_rfl⟩
instance:FlT Tryz.prog 87 1 4:=⟨fun _ _=>by kernel_rfl⟩
instance:OnT Tryz.prog 108:=⟨fun _=>by kernel_rfl,fun _=>by kernel_rfl⟩
instance:AgT Tryz.prog 110 2:=⟨fun _=>by kernel_rfl,fun _=>by kernel_rfl⟩
instance:ZeT Tryz.prog 110 (.agg ([.int .i64 0,.nilFunc]).toArray):=⟨fun _=>by kernel_rfl⟩
instance:BuT Tryz.prog 110 [(0,1),(1,1)] ([.int .i64 0,.nilFunc]):=⟨fun _=>by kernel_rfl,by kernel_rfl,fun _=>by kernel_rfl⟩
instance:FlT Tryz.prog 110 0 0:=⟨fun _ _=>by kernel_rfl⟩
instance:FlT Tryz.prog 110 1 1:=⟨fun _ _=>by kernel_rfl⟩
instance:OnT Tryz.prog 113:=⟨fun _=>by kernel_rfl,fun _=>by kernel_rfl⟩
instance:ZeT Tryz.prog 113 (.slice none 0 0):=⟨fun _=>by kernel_rfl⟩
instance:SlT Tryz.prog 113 84 1:=⟨by kernel_rfl,fun _=>by kernel_rfl⟩
instance:AgT Tryz.prog 121 17:=⟨fun _=>by kernel_rfl,fun _=>by kernel_rfl⟩
instance:ZeT Tryz.prog 121 (.agg ([.int .u64 ((wd 0 0:Nat):Int),.int .u64 ((wd 1 0:Nat):Int),.int .u64 ((wd 2 0:Nat):Int),.int .u64 ((wd 3 0:Nat):Int),.int .u64 ((wd 0 0:Nat):Int),.int .u64 ((wd 1 0:Nat):Int),.int .u64 ((wd 2 0:Nat):Int),.int .u64 ((wd 3 0:Nat):Int),.int .u64 ((wd 0 0:Nat):Int),.int .u64 ((wd 1 0:Nat):Int),.int .u64 ((wd 2 0:Nat):Int),.int .u64 ((wd 3 0:Nat):Int),.int .u64 ((wd 0 0:Nat):Int),.int .u64 ((wd 1 0:Nat):Int),.int .u64 ((wd 2 0:Nat):Int),.int .u64 ((wd 3 0:Nat):Int),.string ⟨#[]⟩]).toArray):=⟨fun _=>by kernel_rfl⟩
instance:BuT Tryz.prog 121 [(0,16),(16,1)] ([.int .u64 ((wd 0 0:Nat):Int),.int .u64 ((wd 1 0:Nat):Int),.int .u64 ((wd 2 0:Nat):Int),.int .u64 ((wd 3 0:Nat):Int),.int .u64 ((wd 0 0:Nat):Int),.int .u64 ((wd 1 0:Nat):Int),.int .u64 ((wd 2 0:Nat):Int),.int .u64 ((wd 3 0:Nat):Int),.int .u64 ((wd 0 0:Nat):Int),.int .u64 ((wd 1 0:Nat):Int),.int .u64 ((wd 2 0:Nat):Int),.int .u64 ((wd 3 0:Nat):Int),.int .u64 ((wd 0 0:Nat):Int),.int .u64 ((wd 1 0:Nat):Int),.int .u64 ((wd 2 0:Nat):Int),.int .u64 ((wd 3 0:Nat):Int),.string ⟨#[]⟩]):=⟨fun _=>by kernel_rfl,by kernel_rfl,fun _=>by kernel_rfl⟩
instance:FlT Tryz.prog 121 0 0:=⟨fun _ _=>by kernel_rfl⟩
instance:FlT Tryz.prog 121 1 16:=⟨fun _ _=>by kernel_rfl⟩
instance:ZeT Tryz.prog 133 (.agg ([.int .u64 ((wd 0 0:Nat):Int),.int .u64 ((wd 1 0:Nat):Int),.int .u64 ((wd 2 0:Nat):Int),.int .u64 ((wd 3 0:Nat):Int),.int .u64 ((wd 0 0:Nat):Int),.int .u64 ((wd 1 0:Nat):Int),.int .u64 ((wd 2 0:Nat):Int),.int .u64 ((wd 3 0:Nat):Int),.int .u64 ((wd 0 0:Nat):Int),.int .u64 ((wd 1 0:Nat):Int),.int .u64 ((wd 2 0:Nat):Int),.int .u64 ((wd 3 0:Nat):Int),.int .u64 ((wd 0 0:Nat):Int),.int .u64 ((wd 1 0:Nat):Int),.int .u64 ((wd 2 0:Nat):Int),.int .u64 ((wd 3 0:Nat):Int),.int .u64 ((wd 0 0:Nat):Int),.int .u64 ((wd 1 0:Nat):Int),.int .u64 ((wd 2 0:Nat):Int),.int .u64 ((wd 3 0:Nat):Int),.int .u64 ((wd 0 0:Nat):Int),.int .u64 ((wd 1 0:Nat):Int),.int .u64 ((wd 2 0:Nat):Int),.int .u64 ((wd 3 0:Nat):Int)]).toArray):=⟨fun _=>by kernel_rfl⟩
instance:ArT Tryz.prog 133 6 24 4:=⟨by kernel_rfl,fun _=>by kernel_rfl⟩
instance:AgT Tryz.prog 138 3:=⟨fun _=>by kernel_rfl,fun _=>by kernel_rfl⟩
instance:ZeT Tryz.prog 138 (.agg ([.slice none 0 0,.slice none 0 0,.int .i64 0]).toArray):=⟨fun _=>by kernel_rfl⟩
instance:BuT Tryz.prog 138 [(0,1),(1,1),(2,1)] ([.slice none 0 0,.slice none 0 0,.int .i64 0]):=⟨fun _=>by kernel_rfl,by kernel_rfl,fun _=>by kernel_rfl⟩
instance:FlT Tryz.prog 138 0 0:=⟨fun _ _=>by kernel_rfl⟩
instance:FlT Tryz.prog 138 1 1:=⟨fun _ _=>by kernel_rfl⟩
instance:FlT Tryz.prog 138 2 2:=⟨fun _ _=>by kernel_rfl⟩
instance:SlT Tryz.prog 142 3 1:=⟨by kernel_rfl,fun _=>by kernel_rfl⟩
instance:AgT Tryz.prog 162 3:=⟨fun _=>by kernel_rfl,fun _=>by kernel_rfl⟩
instance:ZeT Tryz.prog 162 (.agg ([.slice none 0 0,.slice none 0 0,.int .i64 0]).toArray):=⟨fun _=>by kernel_rfl⟩
instance:BuT Tryz.prog 162 [(0,1),(1,1),(2,1)] ([.slice none 0 0,.slice none 0 0,.int .i64 0]):=⟨fun _=>by kernel_rfl,by kernel_rfl,fun _=>by kernel_rfl⟩
instance:FlT Tryz.prog 162 0 0:=⟨fun _ _=>by kernel_rfl⟩
instance:FlT Tryz.prog 162 1 1:=⟨fun _ _=>by kernel_rfl⟩
instance:FlT Tryz.prog 162 2 2:=⟨fun _ _=>by kernel_rfl⟩
instance:AgT Tryz.prog 165 3:=⟨fun _=>by kernel_rfl,fun _=>by kernel_rfl⟩
instance:ZeT Tryz.prog 165 (.agg ([.slice none 0 0,.slice none 0 0,.int .i64 0]).toArray):=⟨fun _=>by kernel_rfl⟩
instance:BuT Tryz.prog 165 [(0,1),(1,1),(2,1)] ([.slice none 0 0,.slice none 0 0,.int .i64 0]):=⟨fun _=>by kernel_rfl,by kernel_rfl,fun _=>by kernel_rfl⟩
instance:FlT Tryz.prog 165 0 0:=⟨fun _ _=>by kernel_rfl⟩
instance:FlT Tryz.prog 165 1 1:=⟨fun _ _=>by kernel_rfl⟩
instance:FlT Tryz.prog 165 2 2:=⟨fun _ _=>by kernel_rfl⟩
instance:OnT Tryz.prog 187:=⟨fun _=>by kernel_rfl,fun _=>by kernel_rfl⟩
instance:InT Tryz.prog 187 .u32:=⟨by kernel_rfl⟩
instance:OnT Tryz.prog 239:=⟨fun _=>by kernel_rfl,fun _=>by kernel_rfl⟩
instance:ZeT Tryz.prog 239 (.pointer none):=⟨fun _=>by kernel_rfl⟩
instance:BuT Tryz.prog 241 [(0,16),(16,1)] ([.int .u64 ((wd 0 0:Nat):Int),.int .u64 ((wd 1 0:Nat):Int),.int .u64 ((wd 2 0:Nat):Int),.int .u64 ((wd 3 0:Nat):Int),.int .u64 ((wd 0 0:Nat):Int),.int .u64 ((wd 1 0:Nat):Int),.int .u64 ((wd 2 0:Nat):Int),.int .u64 ((wd 3 0:Nat):Int),.int .u64 ((wd 0 0:Nat):Int),.int .u64 ((wd 1 0:Nat):Int),.int .u64 ((wd 2 0:Nat):Int),.int .u64 ((wd 3 0:Nat):Int),.int .u64 ((wd 0 0:Nat):Int),.int .u64 ((wd 1 0:Nat):Int),.int .u64 ((wd 2 0:Nat):Int),.int .u64 ((wd 3 0:Nat):Int),.int .i64 0]):=⟨fun _=>by kernel_rfl,by kernel_rfl,fun _=>by kernel_rfl⟩
instance:FlT Tryz.prog 241 0 0:=⟨fun _ _=>by kernel_rfl⟩
instance:FlT Tryz.prog 241 1 16:=⟨fun _ _=>by kernel_rfl⟩
instance:OnT Tryz.prog 255:=⟨fun _=>by kernel_rfl,fun _=>by kernel_rfl⟩
instance:BuT Tryz.prog 257 [(0,1)] ([.nilFunc]):=⟨fun _=>by kernel_rfl,by kernel_rfl,fun _=>by kernel_rfl⟩
instance:FlT Tryz.prog 257 0 0:=⟨fun _ _=>by kernel_rfl⟩
instance:AgT Tryz.prog 258 8:=⟨fun _=>by kernel_rfl,fun _=>by kernel_rfl⟩
instance:ZeT Tryz.prog 258 (.agg ([.int .u32 0,.int .u32 0,.int .u32 0,.int .u32 0,.int .u32 0,.int .u32 0,.int .u32 0,.int .u32 0]).toArray):=⟨fun _=>by kernel_rfl⟩
instance:ArT Tryz.prog 258 8 187 1:=⟨by kernel_rfl,fun _=>by kernel_rfl⟩
instance:AgT Tryz.prog 259 8:=⟨fun _=>by kernel_rfl,fun _=>by kernel_rfl⟩
instance:ZeT Tryz.prog 259 (.agg ([.int .u32 0,.int .u32 0,.int .u32 0,.int .u32 0,.int .u32 0,.int .u32 0,.int .u32 0,.int .u32 0]).toArray):=⟨fun _=>by kernel_rfl⟩
instance:ArT Tryz.prog 259 8 187 1:=⟨by kernel_rfl,fun _=>by kernel_rfl⟩
instance:AgT Tryz.prog 261 64:=⟨fun _=>by kernel_rfl,fun _=>by kernel_rfl⟩
instance:ArT Tryz.prog 261 64 5 1:=⟨by kernel_rfl,fun _=>by kernel_rfl⟩
instance:AgT Tryz.prog 263 74:=⟨fun _=>by kernel_rfl,fun _=>by kernel_rfl⟩
instance:ZeT Tryz.prog 263 (.agg (([.int .i64 0,.int .u32 0,.int .u32 0,.int .u32 0,.int .u32 0,.int .u32 0,.int .u32 0,.int .u32 0,.int .u32 0]:List Value)++(List.replicate 64 (.int .u8 0):List Value)++([.int .u64 0]:List Value)).toArray):=⟨fun _=>by kernel_rfl⟩
instance:BuT Tryz.prog 263 [(0,1),(1,8),(9,64),(73,1)] (([.int .i64 0,.int .u32 0,.int .u32 0,.int .u32 0,.int .u32 0,.int .u32 0,.int .u32 0,.int .u32 0,.int .u32 0]:List Value)++(List.replicate 64 (.int .u8 0):List Value)++([.int .u64 0]:List Value)):=⟨fun _=>by kernel_rfl,by kernel_rfl,fun _=>by kernel_rfl⟩
instance:FlT Tryz.prog 263 0 0:=⟨fun _ _=>by kernel_rfl⟩
instance:FlT Tryz.prog 263 1 1:=⟨fun _ _=>by kernel_rfl⟩
instance:FlT Tryz.prog 263 2 9:=⟨fun _ _=>by kernel_rfl⟩
instance:FlT Tryz.prog 263 3 73:=⟨fun _ _=>by kernel_rfl⟩
instance:SlT Tryz.prog 266 22 1:=⟨by kernel_rfl,fun _=>by kernel_rfl⟩
instance:SlT Tryz.prog 270 187 1:=⟨by kernel_rfl,fun _=>by kernel_rfl⟩
instance:InT Tryz.prog 275 .u64:=⟨by kernel_rfl⟩
instance:AgT Tryz.prog 305 64:=⟨fun _=>by kernel_rfl,fun _=>by kernel_rfl⟩
instance:ZeT Tryz.prog 305 (.agg (List.replicate 64 (.int .u32 0)).toArray):=⟨fun _=>by kernel_rfl⟩
instance:ArT Tryz.prog 305 64 187 1:=⟨by kernel_rfl,fun _=>by kernel_rfl⟩
instance:AgT Tryz.prog 307 16:=⟨fun _=>by kernel_rfl,fun _=>by kernel_rfl⟩
instance:ZeT Tryz.prog 307 (.agg (List.replicate 16 (.int .u64 0)).toArray):=⟨fun _=>by kernel_rfl⟩
instance:ArT Tryz.prog 307 16 22 1:=⟨by kernel_rfl,fun _=>by kernel_rfl⟩
instance:ZeT Tryz.prog 321 (.agg (List.replicate 32 (.int .u64 0)).toArray):=⟨fun _=>by kernel_rfl⟩
instance:ArT Tryz.prog 321 32 22 1:=⟨by kernel_rfl,fun _=>by kernel_rfl⟩
instance:ElT Tryz.prog 3 8 ([.int .i64 0]):=⟨(Tryz.prog.info? 3).getD default,by kernel_rfl,by kernel_rfl,by kernel_rfl,.int .i64 0,by kernel_rfl,by kernel_rfl⟩
instance:ElT Tryz.prog 5 1 ([.int .u8 0]):=⟨(Tryz.prog.info? 5).getD default,by kernel_rfl,by kernel_rfl,by kernel_rfl,.int .u8 0,by kernel_rfl,by kernel_rfl⟩
instance:ElT Tryz.prog 22 8 ([.int .u64 0]):=⟨(Tryz.prog.info? 22).getD default,by kernel_rfl,by kernel_rfl,by kernel_rfl,.int .u64 0,by kernel_rfl,by kernel_rfl⟩
instance:ElT Tryz.prog 24 32 ([.int .u64 ((wd 0 0:Nat):Int),.int .u64 ((wd 1 0:Nat):Int),.int .u64 ((wd 2 0:Nat):Int),.int .u64 ((wd 3 0:Nat):Int)]):=⟨(Tryz.prog.info? 24).getD default,by kernel_rfl,by kernel_rfl,by kernel_rfl,.agg ([.int .u64 ((wd 0 0:Nat):Int),.int .u64 ((wd 1 0:Nat):Int),.int .u64 ((wd 2 0:Nat):Int),.int .u64 ((wd 3 0:Nat):Int)]).toArray,by kernel_rfl,by kernel_rfl⟩
instance:ElT Tryz.prog 76 64 ([.int .u64 ((wd 0 0:Nat):Int),.int .u64 ((wd 1 0:Nat):Int),.int .u64 ((wd 2 0:Nat):Int),.int .u64 ((wd 3 0:Nat):Int),.int .u64 ((wd 0 0:Nat):Int),.int .u64 ((wd 1 0:Nat):Int),.int .u64 ((wd 2 0:Nat):Int),.int .u64 ((wd 3 0:Nat):Int)]):=⟨(Tryz.prog.info? 76).getD default,by kernel_rfl,by kernel_rfl,by kernel_rfl,.agg ([.int .u64 ((wd 0 0:Nat):Int),.int .u64 ((wd 1 0:Nat):Int),.int .u64 ((wd 2 0:Nat):Int),.int .u64 ((wd 3 0:Nat):Int),.int .u64 ((wd 0 0:Nat):Int),.int .u64 ((wd 1 0:Nat):Int),.int .u64 ((wd 2 0:Nat):Int),.int .u64 ((wd 3 0:Nat):Int)]).toArray,by kernel_rfl,by kernel_rfl⟩
instance:ElT Tryz.prog 84 24 ([.slice none 0 0]):=⟨(Tryz.prog.info? 84).getD default,by kernel_rfl,by kernel_rfl,by kernel_rfl,.slice none 0 0,by kernel_rfl,by kernel_rfl⟩
instance:ElT Tryz.prog 87 64 ([.int .u64 ((wd 0 0:Nat):Int),.int .u64 ((wd 1 0:Nat):Int),.int .u64 ((wd 2 0:Nat):Int),.int .u64 ((wd 3 0:Nat):Int),.int .u64 ((wd 0 0:Nat):Int),.int .u64 ((wd 1 0:Nat):Int),.int .u64 ((wd 2 0:Nat):Int),.int .u64 ((wd 3 0:Nat):Int)]):=⟨(Tryz.prog.info? 87).getD default,by kernel_rfl,by kernel_rfl,by kernel_rfl,.agg ([.int .u64 ((wd 0 0:Nat):Int),.int .u64 ((wd 1 0:Nat):Int),.int .u64 ((wd 2 0:Nat):Int),.int .u64 ((wd 3 0:Nat):Int),.int .u64 ((wd 0 0:Nat):Int),.int .u64 ((wd 1 0:Nat):Int),.int .u64 ((wd 2 0:Nat):Int),.int .u64 ((wd 3 0:Nat):Int)]).toArray,by kernel_rfl,by kernel_rfl⟩
instance:ElT Tryz.prog 138 56 ([.slice none 0 0,.slice none 0 0,.int .i64 0]):=⟨(Tryz.prog.info? 138).getD default,by kernel_rfl,by kernel_rfl,by kernel_rfl,.agg ([.slice none 0 0,.slice none 0 0,.int .i64 0]).toArray,by kernel_rfl,by kernel_rfl⟩
instance:ElT Tryz.prog 162 56 ([.slice none 0 0,.slice none 0 0,.int .i64 0]):=⟨(Tryz.prog.info? 162).getD default,by kernel_rfl,by kernel_rfl,by kernel_rfl,.agg ([.slice none 0 0,.slice none 0 0,.int .i64 0]).toArray,by kernel_rfl,by kernel_rfl⟩
instance:ElT Tryz.prog 165 56 ([.slice none 0 0,.slice none 0 0,.int .i64 0]):=⟨(Tryz.prog.info? 165).getD default,by kernel_rfl,by kernel_rfl,by kernel_rfl,.agg ([.slice none 0 0,.slice none 0 0,.int .i64 0]).toArray,by kernel_rfl,by kernel_rfl⟩
instance:ElT Tryz.prog 187 4 ([.int .u32 0]):=⟨(Tryz.prog.info? 187).getD default,by kernel_rfl,by kernel_rfl,by kernel_rfl,.int .u32 0,by kernel_rfl,by kernel_rfl⟩
instance:Cal Tryz.prog 4:=⟨fun _ _=>by kernel_rfl⟩
instance:Cal Tryz.prog 5:=⟨fun _ _=>by kernel_rfl⟩
instance:Cal Tryz.prog 6:=⟨fun _ _=>by kernel_rfl⟩
instance:Cal Tryz.prog 7:=⟨fun _ _=>by kernel_rfl⟩
instance:Cal Tryz.prog 8:=⟨fun _ _=>by kernel_rfl⟩
instance:Cal Tryz.prog 9:=⟨fun _ _=>by kernel_rfl⟩
instance:Cal Tryz.prog 10:=⟨fun _ _=>by kernel_rfl⟩
instance:Cal Tryz.prog 11:=⟨fun _ _=>by kernel_rfl⟩
instance:Cal Tryz.prog 12:=⟨fun _ _=>by kernel_rfl⟩
instance:Cal Tryz.prog 13:=⟨fun _ _=>by kernel_rfl⟩
instance:Cal Tryz.prog 14:=⟨fun _ _=>by kernel_rfl⟩
instance:Cal Tryz.prog 15:=⟨fun _ _=>by kernel_rfl⟩
instance:Cal Tryz.prog 16:=⟨fun _ _=>by kernel_rfl⟩
instance:Cal Tryz.prog 17:=⟨fun _ _=>by kernel_rfl⟩
instance:Cal Tryz.prog 18:=⟨fun _ _=>by kernel_rfl⟩
instance:Cal Tryz.prog 19:=⟨fun _ _=>by kernel_rfl⟩
instance:Cal Tryz.prog 20:=⟨fun _ _=>by kernel_rfl⟩
instance:Cal Tryz.prog 21:=⟨fun _ _=>by kernel_rfl⟩
instance:Cal Tryz.prog 22:=⟨fun _ _=>by kernel_rfl⟩
instance:Cal Tryz.prog 23:=⟨fun _ _=>by kernel_rfl⟩
instance:Cal Tryz.prog 24:=⟨fun _ _=>by kernel_rfl⟩
instance:Cal Tryz.prog 25:=⟨fun _ _=>by kernel_rfl⟩
instance:Cal Tryz.prog 26:=⟨fun _ _=>by kernel_rfl⟩
instance:Cal Tryz.prog 27:=⟨fun _ _=>by kernel_rfl⟩
instance:Cal Tryz.prog 28:=⟨fun _ _=>by kernel_rfl⟩
instance:Cal Tryz.prog 29:=⟨fun _ _=>by kernel_rfl⟩
instance:Cal Tryz.prog 30:=⟨fun _ _=>by kernel_rfl⟩
instance:Cal Tryz.prog 31:=⟨fun _ _=>by kernel_rfl⟩
instance:Cal Tryz.prog 32:=⟨fun _ _=>by kernel_rfl⟩
instance:Cal Tryz.prog 33:=⟨fun _ _=>by kernel_rfl⟩
instance:Cal Tryz.prog 34:=⟨fun _ _=>by kernel_rfl⟩
instance:Cal Tryz.prog 35:=⟨fun _ _=>by kernel_rfl⟩
instance:Cal Tryz.prog 36:=⟨fun _ _=>by kernel_rfl⟩
instance:Cal Tryz.prog 37:=⟨fun _ _=>by kernel_rfl⟩
instance:Cal Tryz.prog 38:=⟨fun _ _=>by kernel_rfl⟩
instance:Cal Tryz.prog 39:=⟨fun _ _=>by kernel_rfl⟩
instance:Cal Tryz.prog 40:=⟨fun _ _=>by kernel_rfl⟩
instance:Cal Tryz.prog 41:=⟨fun _ _=>by kernel_rfl⟩
instance:Cal Tryz.prog 42:=⟨fun _ _=>by kernel_rfl⟩
instance:Cal Tryz.prog 43:=⟨fun _ _=>by kernel_rfl⟩
instance:Cal Tryz.prog 44:=⟨fun _ _=>by kernel_rfl⟩
instance:Cal Tryz.prog 45:=⟨fun _ _=>by kernel_rfl⟩
instance:Cal Tryz.prog 46:=⟨fun _ _=>by kernel_rfl⟩
instance:Cal Tryz.prog 47:=⟨fun _ _=>by kernel_rfl⟩
instance:Cal Tryz.prog 48:=⟨fun _ _=>by kernel_rfl⟩
instance:Cal Tryz.prog 49:=⟨fun _ _=>by kernel_rfl⟩
instance:Cal Tryz.prog 50:=⟨fun _ _=>by kernel_rfl⟩
instance:Cal Tryz.prog 51:=⟨fun _ _=>by kernel_rfl⟩
instance:Cal Tryz.prog 52:=⟨fun _ _=>by kernel_rfl⟩
instance:Cal Tryz.prog 53:=⟨fun _ _=>by kernel_rfl⟩
instance:Cal Tryz.prog 54:=⟨fun _ _=>by kernel_rfl⟩
instance:Cal Tryz.prog 55:=⟨fun _ _=>by kernel_rfl⟩
instance:Cal Tryz.prog 56:=⟨fun _ _=>by kernel_rfl⟩
instance:Cal Tryz.prog 57:=⟨fun _ _=>by kernel_rfl⟩
instance:Cal Tryz.prog 58:=⟨fun _ _=>by kernel_rfl⟩
instance:Cal Tryz.prog 59:=⟨fun _ _=>by kernel_rfl⟩
instance:Cal Tryz.prog 60:=⟨fun _ _=>by kernel_rfl⟩
instance:Cal Tryz.prog 61:=⟨fun _ _=>by kernel_rfl⟩
instance:Cal Tryz.prog 62:=⟨fun _ _=>by kernel_rfl⟩
instance:Cal Tryz.prog 63:=⟨fun _ _=>by kernel_rfl⟩
instance:Cal Tryz.prog 64:=⟨fun _ _=>by kernel_rfl⟩
instance:Cal Tryz.prog 65:=⟨fun _ _=>by kernel_rfl⟩
instance:Cal Tryz.prog 66:=⟨fun _ _=>by kernel_rfl⟩
instance:Cal Tryz.prog 67:=⟨fun _ _=>by kernel_rfl⟩
instance:Cal Tryz.prog 68:=⟨fun _ _=>by kernel_rfl⟩
instance:Cal Tryz.prog 69:=⟨fun _ _=>by kernel_rfl⟩
instance:Cal Tryz.prog 70:=⟨fun _ _=>by kernel_rfl⟩
instance:Cal Tryz.prog 71:=⟨fun _ _=>by kernel_rfl⟩
instance:Cal Tryz.prog 72:=⟨fun _ _=>by kernel_rfl⟩
instance:Cal Tryz.prog 73:=⟨fun _ _=>by kernel_rfl⟩
instance:Cal Tryz.prog 74:=⟨fun _ _=>by kernel_rfl⟩
instance:Cal Tryz.prog 75:=⟨fun _ _=>by kernel_rfl⟩
instance:Cal Tryz.prog 76:=⟨fun _ _=>by kernel_rfl⟩
instance:Cal Tryz.prog 77:=⟨fun _ _=>by kernel_rfl⟩
instance:Cal Tryz.prog 78:=⟨fun _ _=>by kernel_rfl⟩
instance:Cal Tryz.prog 79:=⟨fun _ _=>by kernel_rfl⟩
instance:Cal Tryz.prog 80:=⟨fun _ _=>by kernel_rfl⟩
instance:Cal Tryz.prog 81:=⟨fun _ _=>by kernel_rfl⟩
instance:Cal Tryz.prog 82:=⟨fun _ _=>by kernel_rfl⟩
instance:Cal Tryz.prog 83:=⟨fun _ _=>by kernel_rfl⟩
instance:Cal Tryz.prog 84:=⟨fun _ _=>by kernel_rfl⟩
instance:Cal Tryz.prog 85:=⟨fun _ _=>by kernel_rfl⟩
instance:Cal Tryz.prog 86:=⟨fun _ _=>by kernel_rfl⟩
instance:Cal Tryz.prog 87:=⟨fun _ _=>by kernel_rfl⟩
instance:Cal Tryz.prog 88:=⟨fun _ _=>by kernel_rfl⟩
instance:Cal Tryz.prog 89:=⟨fun _ _=>by kernel_rfl⟩
instance:Cal Tryz.prog 90:=⟨fun _ _=>by kernel_rfl⟩
instance:Cal Tryz.prog 91:=⟨fun _ _=>by kernel_rfl⟩
instance:Cal Tryz.prog 92:=⟨fun _ _=>by kernel_rfl⟩
instance:Cal Tryz.prog 93:=⟨fun _ _=>by kernel_rfl⟩
instance:Cal Tryz.prog 94:=⟨fun _ _=>by kernel_rfl⟩
instance:Cal Tryz.prog 95:=⟨fun _ _=>by kernel_rfl⟩
instance:Cal Tryz.prog 96:=⟨fun _ _=>by kernel_rfl⟩
instance:Cal Tryz.prog 97:=⟨fun _ _=>by kernel_rfl⟩
instance:Cal Tryz.prog 98:=⟨fun _ _=>by kernel_rfl⟩
instance:Cal Tryz.prog 99:=⟨fun _ _=>by kernel_rfl⟩
instance:Cal Tryz.prog 100:=⟨fun _ _=>by kernel_rfl⟩
instance:Cal Tryz.prog 101:=⟨fun _ _=>by kernel_rfl⟩
instance:Cal Tryz.prog 102:=⟨fun _ _=>by kernel_rfl⟩
instance:Cal Tryz.prog 103:=⟨fun _ _=>by kernel_rfl⟩
instance:Cal Tryz.prog 104:=⟨fun _ _=>by kernel_rfl⟩
instance:Cal Tryz.prog 105:=⟨fun _ _=>by kernel_rfl⟩
instance:Cal Tryz.prog 106:=⟨fun _ _=>by kernel_rfl⟩
instance:Cal Tryz.prog 107:=⟨fun _ _=>by kernel_rfl⟩
instance:Cal Tryz.prog 108:=⟨fun _ _=>by kernel_rfl⟩
instance:Cal Tryz.prog 109:=⟨fun _ _=>by kernel_rfl⟩
instance:Cal Tryz.prog 110:=⟨fun _ _=>by kernel_rfl⟩
instance:Cal Tryz.prog 111:=⟨fun _ _=>by kernel_rfl⟩
instance:Cal Tryz.prog 112:=⟨fun _ _=>by kernel_rfl⟩
instance:Cal Tryz.prog 113:=⟨fun _ _=>by kernel_rfl⟩
instance:Cal Tryz.prog 114:=⟨fun _ _=>by kernel_rfl⟩
instance:Cal Tryz.prog 115:=⟨fun _ _=>by kernel_rfl⟩
instance:Cal Tryz.prog 116:=⟨fun _ _=>by kernel_rfl⟩
instance:Cal Tryz.prog 117:=⟨fun _ _=>by kernel_rfl⟩
instance:Cal Tryz.prog 118:=⟨fun _ _=>by kernel_rfl⟩
instance:Cal Tryz.prog 119:=⟨fun _ _=>by kernel_rfl⟩
instance:Cal Tryz.prog 120:=⟨fun _ _=>by kernel_rfl⟩
instance:Cal Tryz.prog 121:=⟨fun _ _=>by kernel_rfl⟩
instance:Cal Tryz.prog 122:=⟨fun _ _=>by kernel_rfl⟩
instance:Cal Tryz.prog 123:=⟨fun _ _=>by kernel_rfl⟩
instance:Cal Tryz.prog 124:=⟨fun _ _=>by kernel_rfl⟩
instance:Cal Tryz.prog 125:=⟨fun _ _=>by kernel_rfl⟩
instance:Cal Tryz.prog 126:=⟨fun _ _=>by kernel_rfl⟩
instance:Cal Tryz.prog 127:=⟨fun _ _=>by kernel_rfl⟩
instance:Cal Tryz.prog 128:=⟨fun _ _=>by kernel_rfl⟩
instance:Cal Tryz.prog 129:=⟨fun _ _=>by kernel_rfl⟩
instance:Cal Tryz.prog 130:=⟨fun _ _=>by kernel_rfl⟩
instance:Cal Tryz.prog 131:=⟨fun _ _=>by kernel_rfl⟩
instance:Cal Tryz.prog 132:=⟨fun _ _=>by kernel_rfl⟩
instance:Cal Tryz.prog 133:=⟨fun _ _=>by kernel_rfl⟩
instance:Cal Tryz.prog 134:=⟨fun _ _=>by kernel_rfl⟩
instance:Cal Tryz.prog 135:=⟨fun _ _=>by kernel_rfl⟩
instance:Cal Tryz.prog 136:=⟨fun _ _=>by kernel_rfl⟩
instance:Cal Tryz.prog 137:=⟨fun _ _=>by kernel_rfl⟩
instance:Cal Tryz.prog 138:=⟨fun _ _=>by kernel_rfl⟩
instance:Cal Tryz.prog 139:=⟨fun _ _=>by kernel_rfl⟩
instance:Cal Tryz.prog 140:=⟨fun _ _=>by kernel_rfl⟩
instance:Cal Tryz.prog 141:=⟨fun _ _=>by kernel_rfl⟩
instance:Cal Tryz.prog 142:=⟨fun _ _=>by kernel_rfl⟩
instance:Cal Tryz.prog 143:=⟨fun _ _=>by kernel_rfl⟩
instance:Cal Tryz.prog 144:=⟨fun _ _=>by kernel_rfl⟩
instance:Cal Tryz.prog 145:=⟨fun _ _=>by kernel_rfl⟩
instance:Cal Tryz.prog 149:=⟨fun _ _=>by kernel_rfl⟩
instance:Cal Tryz.prog 152:=⟨fun _ _=>by kernel_rfl⟩
instance:Cal Tryz.prog 153:=⟨fun _ _=>by kernel_rfl⟩
instance:Cal Tryz.prog 166:=⟨fun _ _=>by kernel_rfl⟩
instance:Cal Tryz.prog 169:=⟨fun _ _=>by kernel_rfl⟩
instance:Cal Tryz.prog 170:=⟨fun _ _=>by kernel_rfl⟩
instance:Cal Tryz.prog 180:=⟨fun _ _=>by kernel_rfl⟩
instance:Cal Tryz.prog 181:=⟨fun _ _=>by kernel_rfl⟩
instance:Cal Tryz.prog 182:=⟨fun _ _=>by kernel_rfl⟩
instance:Cal Tryz.prog 183:=⟨fun _ _=>by kernel_rfl⟩
instance:Cal Tryz.prog 184:=⟨fun _ _=>by kernel_rfl⟩
instance:Cal Tryz.prog 185:=⟨fun _ _=>by kernel_rfl⟩
instance:Cal Tryz.prog 186:=⟨fun _ _=>by kernel_rfl⟩
instance:Cal Tryz.prog 187:=⟨fun _ _=>by kernel_rfl⟩
instance:Cal Tryz.prog 188:=⟨fun _ _=>by kernel_rfl⟩
instance:Cal Tryz.prog 189:=⟨fun _ _=>by kernel_rfl⟩
instance:Cal Tryz.prog 190:=⟨fun _ _=>by kernel_rfl⟩
instance:Cal Tryz.prog 191:=⟨fun _ _=>by kernel_rfl⟩
instance:Cal Tryz.prog 192:=⟨fun _ _=>by kernel_rfl⟩
instance:Cal Tryz.prog 193:=⟨fun _ _=>by kernel_rfl⟩
instance:Cal Tryz.prog 194:=⟨fun _ _=>by kernel_rfl⟩
instance:Cal Tryz.prog 195:=⟨fun _ _=>by kernel_rfl⟩
instance:Cal Tryz.prog 196:=⟨fun _ _=>by kernel_rfl⟩
instance:Cal Tryz.prog 197:=⟨fun _ _=>by kernel_rfl⟩
instance:Cal Tryz.prog 198:=⟨fun _ _=>by kernel_rfl⟩
instance:Cal Tryz.prog 199:=⟨fun _ _=>by kernel_rfl⟩
instance:Cal Tryz.prog 200:=⟨fun _ _=>by kernel_rfl⟩
instance:Cal Tryz.prog 201:=⟨fun _ _=>by kernel_rfl⟩
instance:Cal Tryz.prog 202:=⟨fun _ _=>by kernel_rfl⟩
instance:Cal Tryz.prog 203:=⟨fun _ _=>by kernel_rfl⟩
instance:Cal Tryz.prog 204:=⟨fun _ _=>by kernel_rfl⟩
instance:Cal Tryz.prog 205:=⟨fun _ _=>by kernel_rfl⟩
instance:Cal Tryz.prog 206:=⟨fun _ _=>by kernel_rfl⟩
instance:Cal Tryz.prog 207:=⟨fun _ _=>by kernel_rfl⟩
instance:Cal Tryz.prog 208:=⟨fun _ _=>by kernel_rfl⟩
instance:Cal Tryz.prog 209:=⟨fun _ _=>by kernel_rfl⟩
instance:Cal Tryz.prog 210:=⟨fun _ _=>by kernel_rfl⟩
instance:Cal Tryz.prog 211:=⟨fun _ _=>by kernel_rfl⟩
instance:Cal Tryz.prog 212:=⟨fun _ _=>by kernel_rfl⟩
instance:Cal Tryz.prog 213:=⟨fun _ _=>by kernel_rfl⟩
instance:Cal Tryz.prog 214:=⟨fun _ _=>by kernel_rfl⟩
instance:Cal Tryz.prog 215:=⟨fun _ _=>by kernel_rfl⟩
instance:Cal Tryz.prog 216:=⟨fun _ _=>by kernel_rfl⟩
instance:Cal Tryz.prog 217:=⟨fun _ _=>by kernel_rfl⟩
instance:Cal Tryz.prog 218:=⟨fun _ _=>by kernel_rfl⟩
instance:Cal Tryz.prog 219:=⟨fun _ _=>by kernel_rfl⟩
instance:Cal Tryz.prog 220:=⟨fun _ _=>by kernel_rfl⟩
instance:Cal Tryz.prog 221:=⟨fun _ _=>by kernel_rfl⟩
instance:Cal Tryz.prog 222:=⟨fun _ _=>by kernel_rfl⟩
instance:Cal Tryz.prog 224:=⟨fun _ _=>by kernel_rfl⟩
instance:Cal Tryz.prog 226:=⟨fun _ _=>by kernel_rfl⟩
instance:Cal Tryz.prog 227:=⟨fun _ _=>by kernel_rfl⟩
instance:Cal Tryz.prog 228:=⟨fun _ _=>by kernel_rfl⟩
instance:Cal Tryz.prog 229:=⟨fun _ _=>by kernel_rfl⟩
instance:Cal Tryz.prog 231:=⟨fun _ _=>by kernel_rfl⟩
instance:Cal Tryz.prog 232:=⟨fun _ _=>by kernel_rfl⟩
instance:Cal Tryz.prog 233:=⟨fun _ _=>by kernel_rfl⟩
instance:Cal Tryz.prog 234:=⟨fun _ _=>by kernel_rfl⟩
instance:Cal Tryz.prog 236:=⟨fun _ _=>by kernel_rfl⟩
instance:Cal Tryz.prog 237:=⟨fun _ _=>by kernel_rfl⟩
instance:Cal Tryz.prog 238:=⟨fun _ _=>by kernel_rfl⟩
instance:Cal Tryz.prog 239:=⟨fun _ _=>by kernel_rfl⟩
instance:Cal Tryz.prog 240:=⟨fun _ _=>by kernel_rfl⟩
instance:Cal Tryz.prog 245:=⟨fun _ _=>by kernel_rfl⟩
instance:Cal Tryz.prog 246:=⟨fun _ _=>by kernel_rfl⟩
instance:Cal Tryz.prog 247:=⟨fun _ _=>by kernel_rfl⟩
instance:Cal Tryz.prog 248:=⟨fun _ _=>by kernel_rfl⟩
instance:Cal Tryz.prog 249:=⟨fun _ _=>by kernel_rfl⟩
instance:Cal Tryz.prog 250:=⟨fun _ _=>by kernel_rfl⟩
instance:Cal Tryz.prog 251:=⟨fun _ _=>by kernel_rfl⟩
instance:Cal Tryz.prog 252:=⟨fun _ _=>by kernel_rfl⟩
instance:Cal Tryz.prog 253:=⟨fun _ _=>by kernel_rfl⟩
instance:Cal Tryz.prog 254:=⟨fun _ _=>by kernel_rfl⟩
instance:Cal Tryz.prog 255:=⟨fun _ _=>by kernel_rfl⟩
instance:Cal Tryz.prog 256:=⟨fun _ _=>by kernel_rfl⟩
instance:Cal Tryz.prog 257:=⟨fun _ _=>by kernel_rfl⟩
instance:Cal Tryz.prog 258:=⟨fun _ _=>by kernel_rfl⟩
instance:Cal Tryz.prog 259:=⟨fun _ _=>by kernel_rfl⟩
instance:Cal Tryz.prog 260:=⟨fun _ _=>by kernel_rfl⟩
instance:Cal Tryz.prog 271:=⟨fun _ _=>by kernel_rfl⟩
instance:Cal Tryz.prog 272:=⟨fun _ _=>by kernel_rfl⟩
end Sx
end Go.Proofs.YtmhligfnchegdaaGreatDoor
