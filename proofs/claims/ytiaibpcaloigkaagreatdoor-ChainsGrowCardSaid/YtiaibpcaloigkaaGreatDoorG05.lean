/- Part 5 of the proof. -/
import Derived.Test.YtiaibpcaloigkaaGreatDoorG04
import Derived.Test.YtiaibpcaloigkaaGreatDoorProg
set_option linter.unusedSimpArgs false
set_option linter.unusedVariables false
namespace Go.Proofs.YtiaibpcaloigkaaGreatDoor
section
open Go Go.RowKit
namespace Sx
instance:Mix Tryz.prog:=⟨Kr⟩
instance:InT Tryz.prog 2 .i64:=⟨Kr⟩
instance:OnT Tryz.prog 3:=⟨fun _=>Kr,fun _=>Kr⟩
instance:ZeT Tryz.prog 3 (.int .i64 0):=⟨fun _=>Kr⟩
instance:InT Tryz.prog 3 .i64:=⟨Kr⟩
instance:OnT Tryz.prog 4:=⟨fun _=>Kr,fun _=>Kr⟩
instance:OnT Tryz.prog 5:=⟨fun _=>Kr,fun _=>Kr⟩
instance:InT Tryz.prog 5 .u8:=⟨Kr⟩
instance:OnT Tryz.prog 9:=⟨fun _=>Kr,fun _=>Kr⟩
instance:agX Tryz.prog 9:=⟨Kr⟩
instance:OnT Tryz.prog 22:=⟨fun _=>Kr,fun _=>Kr⟩
instance:InT Tryz.prog 22 .u64:=⟨Kr⟩
instance:AgT Tryz.prog 24 4:=⟨fun _=>Kr,fun _=>Kr⟩
instance:ZeT Tryz.prog 24 (.agg ([.int .u64 ((wd 0 0:Nat):Int),.int .u64 ((wd 1 0:Nat):Int),.int .u64 ((wd 2 0:Nat):Int),.int .u64 ((wd 3 0:Nat):Int)]).toArray):=⟨fun _=>Kr⟩
instance:ArT Tryz.prog 24 4 22 1:=⟨Kr,fun _=>Kr⟩
instance:AgT Tryz.prog 26 16:=⟨fun _=>Kr,fun _=>Kr⟩
instance:ZeT Tryz.prog 26 (.agg ([.int .u64 ((wd 0 0:Nat):Int),.int .u64 ((wd 1 0:Nat):Int),.int .u64 ((wd 2 0:Nat):Int),.int .u64 ((wd 3 0:Nat):Int),.int .u64 ((wd 0 0:Nat):Int),.int .u64 ((wd 1 0:Nat):Int),.int .u64 ((wd 2 0:Nat):Int),.int .u64 ((wd 3 0:Nat):Int),.int .u64 ((wd 0 0:Nat):Int),.int .u64 ((wd 1 0:Nat):Int),.int .u64 ((wd 2 0:Nat):Int),.int .u64 ((wd 3 0:Nat):Int),.int .u64 ((wd 0 0:Nat):Int),.int .u64 ((wd 1 0:Nat):Int),.int .u64 ((wd 2 0:Nat):Int),.int .u64 ((wd 3 0:Nat):Int)]).toArray):=⟨fun _=>Kr⟩
instance:FlT Tryz.prog 26 0 0:=⟨fun _ _=>Kr⟩
instance:FlT Tryz.prog 26 1 4:=⟨fun _ _=>Kr⟩
instance:FlT Tryz.prog 26 2 8:=⟨fun _ _=>Kr⟩
instance:FlT Tryz.prog 26 3 12:=⟨fun _ _=>Kr⟩
instance:OnT Tryz.prog 27:=⟨fun _=>Kr,fun _=>Kr⟩
instance:SlT Tryz.prog 27 103 8:=⟨Kr,fun _=>Kr⟩
instance:AgT Tryz.prog 29 23:=⟨fun _=>Kr,fun _=>Kr⟩
instance:FlT Tryz.prog 29 0 0:=⟨fun _ _=>Kr⟩
instance:FlT Tryz.prog 29 1 16:=⟨fun _ _=>Kr⟩
instance:FlT Tryz.prog 29 2 20:=⟨fun _ _=>Kr⟩
instance:FlT Tryz.prog 29 3 21:=⟨fun _ _=>Kr⟩
instance:FlT Tryz.prog 29 4 22:=⟨fun _ _=>Kr⟩
instance:OnT Tryz.prog 34:=⟨fun _=>Kr,fun _=>Kr⟩
instance:SlT Tryz.prog 34 105 8:=⟨Kr,fun _=>Kr⟩
instance:AgT Tryz.prog 36 19:=⟨fun _=>Kr,fun _=>Kr⟩
instance:ZeT Tryz.prog 36 (.agg ([.int .u64 ((wd 0 0:Nat):Int),.int .u64 ((wd 1 0:Nat):Int),.int .u64 ((wd 2 0:Nat):Int),.int .u64 ((wd 3 0:Nat):Int),.int .u64 ((wd 0 0:Nat):Int),.int .u64 ((wd 1 0:Nat):Int),.int .u64 ((wd 2 0:Nat):Int),.int .u64 ((wd 3 0:Nat):Int),.int .u64 ((wd 0 0:Nat):Int),.int .u64 ((wd 1 0:Nat):Int),.int .u64 ((wd 2 0:Nat):Int),.int .u64 ((wd 3 0:Nat):Int),.int .u64 ((wd 0 0:Nat):Int),.int .u64 ((wd 1 0:Nat):Int),.int .u64 ((wd 2 0:Nat):Int),.int .u64 ((wd 3 0:Nat):Int),.int .i64 0,.int .i64 0,.slice none 0 0]).toArray):=⟨fun _=>Kr⟩
instance:BuT Tryz.prog 36 [(0,16),(16,1),(17,1),(18,1)] ([.int .u64 ((wd 0 0:Nat):Int),.int .u64 ((wd 1 0:Nat):Int),.int .u64 ((wd 2 0:Nat):Int),.int .u64 ((wd 3 0:Nat):Int),.int .u64 ((wd 0 0:Nat):Int),.int .u64 ((wd 1 0:Nat):Int),.int .u64 ((wd 2 0:Nat):Int),.int .u64 ((wd 3 0:Nat):Int),.int .u64 ((wd 0 0:Nat):Int),.int .u64 ((wd 1 0:Nat):Int),.int .u64 ((wd 2 0:Nat):Int),.int .u64 ((wd 3 0:Nat):Int),.int .u64 ((wd 0 0:Nat):Int),.int .u64 ((wd 1 0:Nat):Int),.int .u64 ((wd 2 0:Nat):Int),.int .u64 ((wd 3 0:Nat):Int),.int .i64 0,.int .i64 0,.slice none 0 0]):=⟨fun _=>Kr,Kr,fun _=>Kr⟩
instance:FlT Tryz.prog 36 0 0:=⟨fun _ _=>Kr⟩
instance:FlT Tryz.prog 36 1 16:=⟨fun _ _=>Kr⟩
instance:FlT Tryz.prog 36 2 17:=⟨fun _ _=>Kr⟩
instance:FlT Tryz.prog 36 3 18:=⟨fun _ _=>Kr⟩
instance:OnT Tryz.prog 40:=⟨fun _=>Kr,fun _=>Kr⟩
instance:SlT Tryz.prog 40 51 13:=⟨Kr,fun _=>Kr⟩
instance:SlT Tryz.prog 41 46 1:=⟨Kr,fun _=>Kr⟩
instance:OnT Tryz.prog 42:=⟨fun _=>Kr,fun _=>Kr⟩
instance:SlT Tryz.prog 42 70 32:=⟨Kr,fun _=>Kr⟩
instance:OnT Tryz.prog 45:=⟨fun _=>Kr,fun _=>Kr⟩
instance:SlT Tryz.prog 45 53 3:=⟨Kr,fun _=>Kr⟩
instance:OnT Tryz.prog 46:=⟨fun _=>Kr,fun _=>Kr⟩
instance:ZeT Tryz.prog 46 (.slice none 0 0):=⟨fun _=>Kr⟩
instance:SlT Tryz.prog 46 24 4:=⟨Kr,fun _=>Kr⟩
instance:OnT Tryz.prog 47:=⟨fun _=>Kr,fun _=>Kr⟩
instance:SlT Tryz.prog 47 117 8:=⟨Kr,fun _=>Kr⟩
instance:AgT Tryz.prog 49 8:=⟨fun _=>Kr,fun _=>Kr⟩
instance:ZeT Tryz.prog 49 (.agg ([.int .u64 ((wd 0 0:Nat):Int),.int .u64 ((wd 1 0:Nat):Int),.int .u64 ((wd 2 0:Nat):Int),.int .u64 ((wd 3 0:Nat):Int),.int .u64 ((wd 0 0:Nat):Int),.int .u64 ((wd 1 0:Nat):Int),.int .u64 ((wd 2 0:Nat):Int),.int .u64 ((wd 3 0:Nat):Int)]).toArray):=⟨fun _=>Kr⟩
instance:BuT Tryz.prog 49 [(0,4),(4,4)] ([.int .u64 ((wd 0 0:Nat):Int),.int .u64 ((wd 1 0:Nat):Int),.int .u64 ((wd 2 0:Nat):Int),.int .u64 ((wd 3 0:Nat):Int),.int .u64 ((wd 0 0:Nat):Int),.int .u64 ((wd 1 0:Nat):Int),.int .u64 ((wd 2 0:Nat):Int),.int .u64 ((wd 3 0:Nat):Int)]):=⟨fun _=>Kr,Kr,fun _=>Kr⟩
instance:FlT Tryz.prog 49 0 0:=⟨fun _ _=>Kr⟩
instance:FlT Tryz.prog 49 1 4:=⟨fun _ _=>Kr⟩
instance:AgT Tryz.prog 51 13:=⟨fun _=>Kr,fun _=>Kr⟩
instance:ZeT Tryz.prog 51 (.agg ([.int .u64 0,.int .u8 0,.slice none 0 0,.slice none 0 0,.slice none 0 0,.int .u64 ((wd 0 0:Nat):Int),.int .u64 ((wd 1 0:Nat):Int),.int .u64 ((wd 2 0:Nat):Int),.int .u64 ((wd 3 0:Nat):Int),.int .u64 ((wd 0 0:Nat):Int),.int .u64 ((wd 1 0:Nat):Int),.int .u64 ((wd 2 0:Nat):Int),.int .u64 ((wd 3 0:Nat):Int)]).toArray):=⟨fun _=>Kr⟩
instance:BuT Tryz.prog 51 [(0,1),(1,1),(2,1),(3,1),(4,1),(5,8)] ([.int .u64 0,.int .u8 0,.slice none 0 0,.slice none 0 0,.slice none 0 0,.int .u64 ((wd 0 0:Nat):Int),.int .u64 ((wd 1 0:Nat):Int),.int .u64 ((wd 2 0:Nat):Int),.int .u64 ((wd 3 0:Nat):Int),.int .u64 ((wd 0 0:Nat):Int),.int .u64 ((wd 1 0:Nat):Int),.int .u64 ((wd 2 0:Nat):Int),.int .u64 ((wd 3 0:Nat):Int)]):=⟨fun _=>Kr,Kr,fun _=>Kr⟩
instance:FlT Tryz.prog 51 0 0:=⟨fun _ _=>Kr⟩
instance:FlT Tryz.prog 51 1 1:=⟨fun _ _=>Kr⟩
instance:FlT Tryz.prog 51 2 2:=⟨fun _ _=>Kr⟩
instance:FlT Tryz.prog 51 3 3:=⟨fun _ _=>Kr⟩
instance:FlT Tryz.prog 51 4 4:=⟨fun _ _=>Kr⟩
instance:FlT Tryz.prog 51 5 5:=⟨fun _ _=>Kr⟩
instance:AgT Tryz.prog 53 3:=⟨fun _=>Kr,fun _=>Kr⟩
instance:ZeT Tryz.prog 53 (.agg ([.int .u64 0,.int .u8 0,.slice none 0 0]).toArray):=⟨fun _=>Kr⟩
instance:BuT Tryz.prog 53 [(0,1),(1,1),(2,1)] ([.int .u64 0,.int .u8 0,.slice none 0 0]):=⟨fun _=>Kr,Kr,fun _=>Kr⟩
instance:FlT Tryz.prog 53 0 0:=⟨fun _ _=>Kr⟩
instance:FlT Tryz.prog 53 1 1:=⟨fun _ _=>Kr⟩
instance:FlT Tryz.prog 53 2 2:=⟨fun _ _=>Kr⟩
instance:OnT Tryz.prog 54:=⟨fun _=>Kr,fun _=>Kr⟩
instance:ZeT Tryz.prog 54 (.int .i64 0):=⟨fun _=>Kr⟩
instance:OnT Tryz.prog 57:=⟨fun _=>Kr,fun _=>Kr⟩
instance:SlT Tryz.prog 57 119 15:=⟨Kr,fun _=>Kr⟩
instance:AgT Tryz.prog 59 3:=⟨fun _=>Kr,fun _=>Kr⟩
instance:ZeT Tryz.prog 59 (.agg ([.slice none 0 0,.slice none 0 0,.slice none 0 0]).toArray):=⟨fun _=>Kr⟩
instance:BuT Tryz.prog 59 [(0,1),(1,1),(2,1)] ([.slice none 0 0,.slice none 0 0,.slice none 0 0]):=⟨fun _=>Kr,Kr,fun _=>Kr⟩
instance:FlT Tryz.prog 59 0 0:=⟨fun _ _=>Kr⟩
instance:FlT Tryz.prog 59 1 1:=⟨fun _ _=>Kr⟩
instance:FlT Tryz.prog 59 2 2:=⟨fun _ _=>Kr⟩
instance:OnT Tryz.prog 65:=⟨fun _=>Kr,fun _=>Kr⟩
instance:SlT Tryz.prog 65 79 1:=⟨Kr,fun _=>Kr⟩
instance:AgT Tryz.prog 70 32:=⟨fun _=>Kr,fun _=>Kr⟩
instance:ZeT Tryz.prog 70 (.agg (List.replicate 32 (.int .u8 0)).toArray):=⟨fun _=>Kr⟩
instance:ArT Tryz.prog 70 32 5 1:=⟨Kr,fun _=>Kr⟩
instance:OnT Tryz.prog 71:=⟨fun _=>Kr,fun _=>Kr⟩
instance:SlT Tryz.prog 71 140 44:=⟨Kr,fun _=>Kr⟩
instance:AgT Tryz.prog 73 3:=⟨fun _=>Kr,fun _=>Kr⟩
instance:ZeT Tryz.prog 73 (.agg ([.int .u64 0,.slice none 0 0,.slice none 0 0]).toArray):=⟨fun _=>Kr⟩
instance:BuT Tryz.prog 73 [(0,1),(1,1),(2,1)] ([.int .u64 0,.slice none 0 0,.slice none 0 0]):=⟨fun _=>Kr,Kr,fun _=>Kr⟩
instance:FlT Tryz.prog 73 0 0:=⟨fun _ _=>Kr⟩
instance:FlT Tryz.prog 73 1 1:=⟨fun _ _=>Kr⟩
instance:FlT Tryz.prog 73 2 2:=⟨fun _ _=>Kr⟩
instance:AgT Tryz.prog 75 37:=⟨fun _=>Kr,fun _=>Kr⟩
instance:ZeT Tryz.prog 75 (.agg (([.int .u64 0]:LV)++(List.replicate 32 (.int .u8 0):LV)++([.int .u64 0,.slice none 0 0,.slice none 0 0,.slice none 0 0]:LV)).toArray):=⟨fun _=>Kr⟩
instance:BuT Tryz.prog 75 [(0,1),(1,32),(33,3),(36,1)] (([.int .u64 0]:LV)++(List.replicate 32 (.int .u8 0):LV)++([.int .u64 0,.slice none 0 0,.slice none 0 0,.slice none 0 0]:LV)):=⟨fun _=>Kr,Kr,fun _=>Kr⟩
instance:FlT Tryz.prog 75 0 0:=⟨fun _ _=>Kr⟩
instance:FlT Tryz.prog 75 1 1:=⟨fun _ _=>Kr⟩
instance:FlT Tryz.prog 75 2 33:=⟨fun _ _=>Kr⟩
instance:FlT Tryz.prog 75 3 36:=⟨fun _ _=>Kr⟩
instance:OnT Tryz.prog 79:=⟨fun _=>Kr,fun _=>Kr⟩
instance:InT Tryz.prog 79 .u32:=⟨Kr⟩
instance:AgT Tryz.prog 103 8:=⟨fun _=>Kr,fun _=>Kr⟩
instance:ZeT Tryz.prog 103 (.agg ([.int .u64 ((wd 0 0:Nat):Int),.int .u64 ((wd 1 0:Nat):Int),.int .u64 ((wd 2 0:Nat):Int),.int .u64 ((wd 3 0:Nat):Int),.int .u64 ((wd 0 0:Nat):Int),.int .u64 ((wd 1 0:Nat):Int),.int .u64 ((wd 2 0:Nat):Int),.int .u64 ((wd 3 0:Nat):Int)]).toArray):=⟨fun _=>Kr⟩
instance:FlT Tryz.prog 103 0 0:=⟨fun _ _=>Kr⟩
instance:FlT Tryz.prog 103 1 4:=⟨fun _ _=>Kr⟩
instance:AgT Tryz.prog 105 8:=⟨fun _=>Kr,fun _=>Kr⟩
instance:ZeT Tryz.prog 105 (.agg ([.int .u64 ((wd 0 0:Nat):Int),.int .u64 ((wd 1 0:Nat):Int),.int .u64 ((wd 2 0:Nat):Int),.int .u64 ((wd 3 0:Nat):Int),.int .u64 ((wd 0 0:Nat):Int),.int .u64 ((wd 1 0:Nat):Int),.int .u64 ((wd 2 0:Nat):Int),.int .u64 ((wd 3 0:Nat):Int)]).toArray):=⟨fun _=>Kr⟩
instance:BuT Tryz.prog 105 [(0,4),(4,4)] ([.int .u64 ((wd 0 0:Nat):Int),.int .u64 ((wd 1 0:Nat):Int),.int .u64 ((wd 2 0:Nat):Int),.int .u64 ((wd 3 0:Nat):Int),.int .u64 ((wd 0 0:Nat):Int),.int .u64 ((wd 1 0:Nat):Int),.int .u64 ((wd 2 0:Nat):Int),.int .u64 ((wd 3 0:Nat):Int)]):=⟨fun _=>Kr,Kr,fun _=>Kr⟩
instance:FlT Tryz.prog 105 0 0:=⟨fun _ _=>Kr⟩
instance:FlT Tryz.prog 105 1 4:=⟨fun _ _=>Kr⟩
instance:BuT Tryz.prog 109 [(0,1),(1,1)] ([.int .u8 0,.slice none 0 0]):=⟨fun _=>Kr,Kr,fun _=>Kr⟩
instance:FlT Tryz.prog 109 0 0:=⟨fun _ _=>Kr⟩
instance:FlT Tryz.prog 109 1 1:=⟨fun _ _=>Kr⟩
instance:OnT Tryz.prog 114:=⟨fun _=>Kr,fun _=>Kr⟩
instance:AgT Tryz.prog 117 8:=⟨fun _=>Kr,fun _=>Kr⟩
instance:ZeT Tryz.prog 117 (.agg ([.int .u64 ((wd 0 0:Nat):Int),.int .u64 ((wd 1 0:Nat):Int),.int .u64 ((wd 2 0:Nat):Int),.int .u64 ((wd 3 0:Nat):Int),.int .u64 ((wd 0 0:Nat):Int),.int .u64 ((wd 1 0:Nat):Int),.int .u64 ((wd 2 0:Nat):Int),.int .u64 ((wd 3 0:Nat):Int)]).toArray):=⟨fun _=>Kr⟩
instance:BuT Tryz.prog 117 [(0,4),(4,4)] ([.int .u64 ((wd 0 0:Nat):Int),.int .u64 ((wd 1 0:Nat):Int),.int .u64 ((wd 2 0:Nat):Int),.int .u64 ((wd 3 0:Nat):Int),.int .u64 ((wd 0 0:Nat):Int),.int .u64 ((wd 1 0:Nat):Int),.int .u64 ((wd 2 0:Nat):Int),.int .u64 ((wd 3 0:Nat):Int)]):=⟨fun _=>Kr,Kr,fun _=>Kr⟩
instance:FlT Tryz.prog 117 0 0:=⟨fun _ _=>Kr⟩
instance:FlT Tryz.prog 117 1 4:=⟨fun _ _=>Kr⟩
instance:OnT Tryz.prog 124:=⟨fun _=>Kr,fun _=>Kr⟩
instance:ZeT Tryz.prog 124 (.nilFunc):=⟨fun _=>Kr⟩
instance:OnT Tryz.prog 126:=⟨fun _=>Kr,fun _=>Kr⟩
instance:SlT Tryz.prog 126 5 1:=⟨Kr,fun _=>Kr⟩
instance:OnT Tryz.prog 129:=⟨fun _=>Kr,fun _=>Kr⟩
instance:ZeT Tryz.prog 129 (.slice none 0 0):=⟨fun _=>Kr⟩
instance:SlT Tryz.prog 129 126 1:=⟨Kr,fun _=>Kr⟩
instance:OnT Tryz.prog 134:=⟨fun _=>Kr,fun _=>Kr⟩
instance:SlT Tryz.prog 134 144 40:=⟨Kr,fun _=>Kr⟩
instance:BuT Tryz.prog 136 [(0,19),(19,1),(20,1)] ([.int .u64 ((wd 0 0:Nat):Int),.int .u64 ((wd 1 0:Nat):Int),.int .u64 ((wd 2 0:Nat):Int),.int .u64 ((wd 3 0:Nat):Int),.int .u64 ((wd 0 0:Nat):Int),.int .u64 ((wd 1 0:Nat):Int),.int .u64 ((wd 2 0:Nat):Int),.int .u64 ((wd 3 0:Nat):Int),.int .u64 ((wd 0 0:Nat):Int),.int .u64 ((wd 1 0:Nat):Int),.int .u64 ((wd 2 0:Nat):Int),.int .u64 ((wd 3 0:Nat):Int),.int .u64 ((wd 0 0:Nat):Int),.int .u64 ((wd 1 0:Nat):Int),.int .u64 ((wd 2 0:Nat):Int),.int .u64 ((wd 3 0:Nat):Int),.int .i64 0,.int .i64 0,.slice none 0 0,.int .i64 0,.slice none 0 0]):=⟨fun _=>Kr,Kr,fun _=>Kr⟩
instance:FlT Tryz.prog 136 0 0:=⟨fun _ _=>Kr⟩
instance:FlT Tryz.prog 136 1 19:=⟨fun _ _=>Kr⟩
instance:FlT Tryz.prog 136 2 20:=⟨fun _ _=>Kr⟩
instance:OnT Tryz.prog 138:=⟨fun _=>Kr,fun _=>Kr⟩
instance:InT Tryz.prog 138 .u8:=⟨Kr⟩
instance:AgT Tryz.prog 140 44:=⟨fun _=>Kr,fun _=>Kr⟩
instance:ZeT Tryz.prog 140 (.agg (([.int .u8 0,.int .u64 0,.int .u32 0,.int .u8 0]:LV)++(List.replicate 32 (.int .u8 0):LV)++([.int .u64 ((wd 0 0:Nat):Int),.int .u64 ((wd 1 0:Nat):Int),.int .u64 ((wd 2 0:Nat):Int),.int .u64 ((wd 3 0:Nat):Int),.int .u64 ((wd 0 0:Nat):Int),.int .u64 ((wd 1 0:Nat):Int),.int .u64 ((wd 2 0:Nat):Int),.int .u64 ((wd 3 0:Nat):Int)]:LV)).toArray):=⟨fun _=>Kr⟩
instance:BuT Tryz.prog 140 [(0,1),(1,1),(2,1),(3,1),(4,32),(36,8)] (([.int .u8 0,.int .u64 0,.int .u32 0,.int .u8 0]:LV)++(List.replicate 32 (.int .u8 0):LV)++([.int .u64 ((wd 0 0:Nat):Int),.int .u64 ((wd 1 0:Nat):Int),.int .u64 ((wd 2 0:Nat):Int),.int .u64 ((wd 3 0:Nat):Int),.int .u64 ((wd 0 0:Nat):Int),.int .u64 ((wd 1 0:Nat):Int),.int .u64 ((wd 2 0:Nat):Int),.int .u64 ((wd 3 0:Nat):Int)]:LV)):=⟨fun _=>Kr,Kr,fun _=>Kr⟩
instance:FlT Tryz.prog 140 0 0:=⟨fun _ _=>Kr⟩
instance:FlT Tryz.prog 140 1 1:=⟨fun _ _=>Kr⟩
instance:FlT Tryz.prog 140 2 2:=⟨fun _ _=>Kr⟩
instance:FlT Tryz.prog 140 3 3:=⟨fun _ _=>Kr⟩
instance:FlT Tryz.prog 140 4 4:=⟨fun _ _=>Kr⟩
instance:FlT Tryz.prog 140 5 36:=⟨fun _ _=>Kr⟩
instance:AgT Tryz.prog 144 40:=⟨fun _=>Kr,fun _=>Kr⟩
instance:ZeT Tryz.prog 144 (.agg (([.int .u64 0]:LV)++(List.replicate 32 (.int .u8 0):LV)++([.int .u64 0,.slice none 0 0,.slice none 0 0,.slice none 0 0,.slice none 0 0,.slice none 0 0,.slice none 0 0]:LV)).toArray):=⟨fun _=>Kr⟩
instance:BuT Tryz.prog 144 [(0,37),(37,3)] (([.int .u64 0]:LV)++(List.replicate 32 (.int .u8 0):LV)++([.int .u64 0,.slice none 0 0,.slice none 0 0,.slice none 0 0,.slice none 0 0,.slice none 0 0,.slice none 0 0]:LV)):=⟨fun _=>Kr,Kr,fun _=>Kr⟩
instance:FlT Tryz.prog 144 0 0:=⟨fun _ _=>Kr⟩
instance:FlT Tryz.prog 144 1 37:=⟨fun _ _=>Kr⟩
instance:OnT Tryz.prog 177:=⟨fun _=>Kr,fun _=>Kr⟩
instance:OnT Tryz.prog 182:=⟨fun _=>Kr,fun _=>Kr⟩
instance:ZeT Tryz.prog 182 (.pointer none):=⟨fun _=>Kr⟩
instance:BuT Tryz.prog 184 [(0,1)] ([.int .i64 0]):=⟨fun _=>Kr,Kr,fun _=>Kr⟩
instance:FlT Tryz.prog 184 0 0:=⟨fun _ _=>Kr⟩
instance:SlT Tryz.prog 186 114 1:=⟨Kr,fun _=>Kr⟩
instance:SlT Tryz.prog 201 22 1:=⟨Kr,fun _=>Kr⟩
instance:BuT Tryz.prog 217 [(0,1),(1,1)] ([.slice none 0 0,.bool false]):=⟨fun _=>Kr,Kr,fun _=>Kr⟩
instance:FlT Tryz.prog 217 0 0:=⟨fun _ _=>Kr⟩
instance:FlT Tryz.prog 217 1 1:=⟨fun _ _=>Kr⟩
instance:OnT Tryz.prog 229:=⟨fun _=>Kr,fun _=>Kr⟩
instance:BuT Tryz.prog 232 [(0,1)] ([.nilFunc]):=⟨fun _=>Kr,Kr,fun _=>Kr⟩
instance:FlT Tryz.prog 232 0 0:=⟨fun _ _=>Kr⟩
instance:InT Tryz.prog 233 .u64:=⟨Kr⟩
instance:SlT Tryz.prog 244 177 1:=⟨Kr,fun _=>Kr⟩
instance:AgT Tryz.prog 252 1:=⟨fun _=>Kr,fun _=>Kr⟩
instance:ZeT Tryz.prog 252 (.agg ([.int .i64 0]).toArray):=⟨fun _=>Kr⟩
instance:BuT Tryz.prog 252 [(0,1)] ([.int .i64 0]):=⟨fun _=>Kr,Kr,fun _=>Kr⟩
instance:FlT Tryz.prog 252 0 0:=⟨fun _ _=>Kr⟩
instance:AgT Tryz.prog 254 17:=⟨fun _=>Kr,fun _=>Kr⟩
instance:ZeT Tryz.prog 254 (.agg ([.int .u64 ((wd 0 0:Nat):Int),.int .u64 ((wd 1 0:Nat):Int),.int .u64 ((wd 2 0:Nat):Int),.int .u64 ((wd 3 0:Nat):Int),.int .u64 ((wd 0 0:Nat):Int),.int .u64 ((wd 1 0:Nat):Int),.int .u64 ((wd 2 0:Nat):Int),.int .u64 ((wd 3 0:Nat):Int),.int .u64 ((wd 0 0:Nat):Int),.int .u64 ((wd 1 0:Nat):Int),.int .u64 ((wd 2 0:Nat):Int),.int .u64 ((wd 3 0:Nat):Int),.int .u64 ((wd 0 0:Nat):Int),.int .u64 ((wd 1 0:Nat):Int),.int .u64 ((wd 2 0:Nat):Int),.int .u64 ((wd 3 0:Nat):Int),.string ⟨#[]⟩]).toArray):=⟨fun _=>Kr⟩
instance:BuT Tryz.prog 254 [(0,16),(16,1)] ([.int .u64 ((wd 0 0:Nat):Int),.int .u64 ((wd 1 0:Nat):Int),.int .u64 ((wd 2 0:Nat):Int),.int .u64 ((wd 3 0:Nat):Int),.int .u64 ((wd 0 0:Nat):Int),.int .u64 ((wd 1 0:Nat):Int),.int .u64 ((wd 2 0:Nat):Int),.int .u64 ((wd 3 0:Nat):Int),.int .u64 ((wd 0 0:Nat):Int),.int .u64 ((wd 1 0:Nat):Int),.int .u64 ((wd 2 0:Nat):Int),.int .u64 ((wd 3 0:Nat):Int),.int .u64 ((wd 0 0:Nat):Int),.int .u64 ((wd 1 0:Nat):Int),.int .u64 ((wd 2 0:Nat):Int),.int .u64 ((wd 3 0:Nat):Int),.string ⟨#[]⟩]):=⟨fun _=>Kr,Kr,fun _=>Kr⟩
instance:FlT Tryz.prog 254 0 0:=⟨fun _ _=>Kr⟩
instance:FlT Tryz.prog 254 1 16:=⟨fun _ _=>Kr⟩
instance:ZeT Tryz.prog 255 (.agg ([.int .u64 ((wd 0 0:Nat):Int),.int .u64 ((wd 1 0:Nat):Int),.int .u64 ((wd 2 0:Nat):Int),.int .u64 ((wd 3 0:Nat):Int),.int .u64 ((wd 0 0:Nat):Int),.int .u64 ((wd 1 0:Nat):Int),.int .u64 ((wd 2 0:Nat):Int),.int .u64 ((wd 3 0:Nat):Int),.int .u64 ((wd 0 0:Nat):Int),.int .u64 ((wd 1 0:Nat):Int),.int .u64 ((wd 2 0:Nat):Int),.int .u64 ((wd 3 0:Nat):Int),.int .u64 ((wd 0 0:Nat):Int),.int .u64 ((wd 1 0:Nat):Int),.int .u64 ((wd 2 0:Nat):Int),.int .u64 ((wd 3 0:Nat):Int)]).toArray):=⟨fun _=>Kr⟩
instance:ArT Tryz.prog 255 4 24 4:=⟨Kr,fun _=>Kr⟩
instance:SlT Tryz.prog 270 3 1:=⟨Kr,fun _=>Kr⟩
instance:AgT Tryz.prog 275 8:=⟨fun _=>Kr,fun _=>Kr⟩
instance:ZeT Tryz.prog 275 (.agg ([.int .u32 0,.int .u32 0,.int .u32 0,.int .u32 0,.int .u32 0,.int .u32 0,.int .u32 0,.int .u32 0]).toArray):=⟨fun _=>Kr⟩
instance:ArT Tryz.prog 275 8 79 1:=⟨Kr,fun _=>Kr⟩
instance:AgT Tryz.prog 277 64:=⟨fun _=>Kr,fun _=>Kr⟩
instance:ArT Tryz.prog 277 64 5 1:=⟨Kr,fun _=>Kr⟩
instance:AgT Tryz.prog 279 74:=⟨fun _=>Kr,fun _=>Kr⟩
instance:ZeT Tryz.prog 279 (.agg (([.int .i64 0,.int .u32 0,.int .u32 0,.int .u32 0,.int .u32 0,.int .u32 0,.int .u32 0,.int .u32 0,.int .u32 0]:LV)++(List.replicate 64 (.int .u8 0):LV)++([.int .u64 0]:LV)).toArray):=⟨fun _=>Kr⟩
instance:BuT Tryz.prog 279 [(0,1),(1,8),(9,64),(73,1)] (([.int .i64 0,.int .u32 0,.int .u32 0,.int .u32 0,.int .u32 0,.int .u32 0,.int .u32 0,.int .u32 0,.int .u32 0]:LV)++(List.replicate 64 (.int .u8 0):LV)++([.int .u64 0]:LV)):=⟨fun _=>Kr,Kr,fun _=>Kr⟩
instance:FlT Tryz.prog 279 0 0:=⟨fun _ _=>Kr⟩
instance:FlT Tryz.prog 279 1 1:=⟨fun _ _=>Kr⟩
instance:FlT Tryz.prog 279 2 9:=⟨fun _ _=>Kr⟩
instance:FlT Tryz.prog 279 3 73:=⟨fun _ _=>Kr⟩
instance:OnT Tryz.prog 289:=⟨fun _=>Kr,fun _=>Kr⟩
instance:AgT Tryz.prog 291 2:=⟨fun _=>Kr,fun _=>Kr⟩
instance:ZeT Tryz.prog 291 (.agg ([.int .i64 0,.nilFunc]).toArray):=⟨fun _=>Kr⟩
instance:BuT Tryz.prog 291 [(0,1),(1,1)] ([.int .i64 0,.nilFunc]):=⟨fun _=>Kr,Kr,fun _=>Kr⟩
instance:FlT Tryz.prog 291 0 0:=⟨fun _ _=>Kr⟩
instance:FlT Tryz.prog 291 1 1:=⟨fun _ _=>Kr⟩
instance:ZeT Tryz.prog 326 (.agg ([.int .u64 0,.int .u64 0,.int .u64 0,.int .u64 0,.int .u64 0,.int .u64 0,.int .u64 0,.int .u64 0]).toArray):=⟨fun _=>Kr⟩
instance:ArT Tryz.prog 326 8 22 1:=⟨Kr,fun _=>Kr⟩
instance:ZeT Tryz.prog 332 (.agg ([.int .u64 ((wd 0 0:Nat):Int),.int .u64 ((wd 1 0:Nat):Int),.int .u64 ((wd 2 0:Nat):Int),.int .u64 ((wd 3 0:Nat):Int),.int .u64 ((wd 0 0:Nat):Int),.int .u64 ((wd 1 0:Nat):Int),.int .u64 ((wd 2 0:Nat):Int),.int .u64 ((wd 3 0:Nat):Int)]).toArray):=⟨fun _=>Kr⟩
instance:ArT Tryz.prog 332 2 24 4:=⟨Kr,fun _=>Kr⟩
instance:OnT Tryz.prog 334:=⟨fun _=>Kr,fun _=>Kr⟩
instance:ZeT Tryz.prog 334 (.pointer none):=⟨fun _=>Kr⟩
instance:BuT Tryz.prog 336 [(0,16),(16,1)] ([.int .u64 ((wd 0 0:Nat):Int),.int .u64 ((wd 1 0:Nat):Int),.int .u64 ((wd 2 0:Nat):Int),.int .u64 ((wd 3 0:Nat):Int),.int .u64 ((wd 0 0:Nat):Int),.int .u64 ((wd 1 0:Nat):Int),.int .u64 ((wd 2 0:Nat):Int),.int .u64 ((wd 3 0:Nat):Int),.int .u64 ((wd 0 0:Nat):Int),.int .u64 ((wd 1 0:Nat):Int),.int .u64 ((wd 2 0:Nat):Int),.int .u64 ((wd 3 0:Nat):Int),.int .u64 ((wd 0 0:Nat):Int),.int .u64 ((wd 1 0:Nat):Int),.int .u64 ((wd 2 0:Nat):Int),.int .u64 ((wd 3 0:Nat):Int),.int .i64 0]):=⟨fun _=>Kr,Kr,fun _=>Kr⟩
instance:FlT Tryz.prog 336 0 0:=⟨fun _ _=>Kr⟩
instance:FlT Tryz.prog 336 1 16:=⟨fun _ _=>Kr⟩
instance:AgT Tryz.prog 371 64:=⟨fun _=>Kr,fun _=>Kr⟩
instance:ZeT Tryz.prog 371 (.agg (List.replicate 64 (.int .u32 0)).toArray):=⟨fun _=>Kr⟩
instance:ArT Tryz.prog 371 64 79 1:=⟨Kr,fun _=>Kr⟩
instance:ElT Tryz.prog 3 8 ([.int .i64 0]):=⟨(Tryz.prog.info? 3).getD default,Kr,Kr,Kr,.int .i64 0,Kr,Kr⟩
instance:ElT Tryz.prog 5 1 ([.int .u8 0]):=⟨(Tryz.prog.info? 5).getD default,Kr,Kr,Kr,.int .u8 0,Kr,Kr⟩
instance:ElT Tryz.prog 22 8 ([.int .u64 0]):=⟨(Tryz.prog.info? 22).getD default,Kr,Kr,Kr,.int .u64 0,Kr,Kr⟩
instance:ElT Tryz.prog 24 32 ([.int .u64 ((wd 0 0:Nat):Int),.int .u64 ((wd 1 0:Nat):Int),.int .u64 ((wd 2 0:Nat):Int),.int .u64 ((wd 3 0:Nat):Int)]):=⟨(Tryz.prog.info? 24).getD default,Kr,Kr,Kr,.agg ([.int .u64 ((wd 0 0:Nat):Int),.int .u64 ((wd 1 0:Nat):Int),.int .u64 ((wd 2 0:Nat):Int),.int .u64 ((wd 3 0:Nat):Int)]).toArray,Kr,Kr⟩
instance:ElT Tryz.prog 46 24 ([.slice none 0 0]):=⟨(Tryz.prog.info? 46).getD default,Kr,Kr,Kr,.slice none 0 0,Kr,Kr⟩
instance:ElT Tryz.prog 51 152 ([.int .u64 0,.int .u8 0,.slice none 0 0,.slice none 0 0,.slice none 0 0,.int .u64 ((wd 0 0:Nat):Int),.int .u64 ((wd 1 0:Nat):Int),.int .u64 ((wd 2 0:Nat):Int),.int .u64 ((wd 3 0:Nat):Int),.int .u64 ((wd 0 0:Nat):Int),.int .u64 ((wd 1 0:Nat):Int),.int .u64 ((wd 2 0:Nat):Int),.int .u64 ((wd 3 0:Nat):Int)]):=⟨(Tryz.prog.info? 51).getD default,Kr,Kr,Kr,.agg ([.int .u64 0,.int .u8 0,.slice none 0 0,.slice none 0 0,.slice none 0 0,.int .u64 ((wd 0 0:Nat):Int),.int .u64 ((wd 1 0:Nat):Int),.int .u64 ((wd 2 0:Nat):Int),.int .u64 ((wd 3 0:Nat):Int),.int .u64 ((wd 0 0:Nat):Int),.int .u64 ((wd 1 0:Nat):Int),.int .u64 ((wd 2 0:Nat):Int),.int .u64 ((wd 3 0:Nat):Int)]).toArray,Kr,Kr⟩
instance:ElT Tryz.prog 53 40 ([.int .u64 0,.int .u8 0,.slice none 0 0]):=⟨(Tryz.prog.info? 53).getD default,Kr,Kr,Kr,.agg ([.int .u64 0,.int .u8 0,.slice none 0 0]).toArray,Kr,Kr⟩
instance:ElT Tryz.prog 70 32 (List.replicate 32 (.int .u8 0)):=⟨(Tryz.prog.info? 70).getD default,Kr,Kr,Kr,.agg (List.replicate 32 (.int .u8 0)).toArray,Kr,Kr⟩
instance:ElT Tryz.prog 79 4 ([.int .u32 0]):=⟨(Tryz.prog.info? 79).getD default,Kr,Kr,Kr,.int .u32 0,Kr,Kr⟩
instance:ElT Tryz.prog 105 64 ([.int .u64 ((wd 0 0:Nat):Int),.int .u64 ((wd 1 0:Nat):Int),.int .u64 ((wd 2 0:Nat):Int),.int .u64 ((wd 3 0:Nat):Int),.int .u64 ((wd 0 0:Nat):Int),.int .u64 ((wd 1 0:Nat):Int),.int .u64 ((wd 2 0:Nat):Int),.int .u64 ((wd 3 0:Nat):Int)]):=⟨(Tryz.prog.info? 105).getD default,Kr,Kr,Kr,.agg ([.int .u64 ((wd 0 0:Nat):Int),.int .u64 ((wd 1 0:Nat):Int),.int .u64 ((wd 2 0:Nat):Int),.int .u64 ((wd 3 0:Nat):Int),.int .u64 ((wd 0 0:Nat):Int),.int .u64 ((wd 1 0:Nat):Int),.int .u64 ((wd 2 0:Nat):Int),.int .u64 ((wd 3 0:Nat):Int)]).toArray,Kr,Kr⟩
instance:ElT Tryz.prog 114 8 ([.nilFunc]):=⟨(Tryz.prog.info? 114).getD default,Kr,Kr,Kr,.nilFunc,Kr,Kr⟩
instance:ElT Tryz.prog 117 64 ([.int .u64 ((wd 0 0:Nat):Int),.int .u64 ((wd 1 0:Nat):Int),.int .u64 ((wd 2 0:Nat):Int),.int .u64 ((wd 3 0:Nat):Int),.int .u64 ((wd 0 0:Nat):Int),.int .u64 ((wd 1 0:Nat):Int),.int .u64 ((wd 2 0:Nat):Int),.int .u64 ((wd 3 0:Nat):Int)]):=⟨(Tryz.prog.info? 117).getD default,Kr,Kr,Kr,.agg ([.int .u64 ((wd 0 0:Nat):Int),.int .u64 ((wd 1 0:Nat):Int),.int .u64 ((wd 2 0:Nat):Int),.int .u64 ((wd 3 0:Nat):Int),.int .u64 ((wd 0 0:Nat):Int),.int .u64 ((wd 1 0:Nat):Int),.int .u64 ((wd 2 0:Nat):Int),.int .u64 ((wd 3 0:Nat):Int)]).toArray,Kr,Kr⟩
instance:ElT Tryz.prog 126 24 ([.slice none 0 0]):=⟨(Tryz.prog.info? 126).getD default,Kr,Kr,Kr,.slice none 0 0,Kr,Kr⟩
instance:ElT Tryz.prog 140 120 (([.int .u8 0,.int .u64 0,.int .u32 0,.int .u8 0]:LV)++(List.replicate 32 (.int .u8 0):LV)++([.int .u64 ((wd 0 0:Nat):Int),.int .u64 ((wd 1 0:Nat):Int),.int .u64 ((wd 2 0:Nat):Int),.int .u64 ((wd 3 0:Nat):Int),.int .u64 ((wd 0 0:Nat):Int),.int .u64 ((wd 1 0:Nat):Int),.int .u64 ((wd 2 0:Nat):Int),.int .u64 ((wd 3 0:Nat):Int)]:LV)):=⟨(Tryz.prog.info? 140).getD default,Kr,Kr,Kr,.agg (([.int .u8 0,.int .u64 0,.int .u32 0,.int .u8 0]:LV)++(List.replicate 32 (.int .u8 0):LV)++([.int .u64 ((wd 0 0:Nat):Int),.int .u64 ((wd 1 0:Nat):Int),.int .u64 ((wd 2 0:Nat):Int),.int .u64 ((wd 3 0:Nat):Int),.int .u64 ((wd 0 0:Nat):Int),.int .u64 ((wd 1 0:Nat):Int),.int .u64 ((wd 2 0:Nat):Int),.int .u64 ((wd 3 0:Nat):Int)]:LV)).toArray,Kr,Kr⟩
instance:ElT Tryz.prog 144 192 (([.int .u64 0]:LV)++(List.replicate 32 (.int .u8 0):LV)++([.int .u64 0,.slice none 0 0,.slice none 0 0,.slice none 0 0,.slice none 0 0,.slice none 0 0,.slice none 0 0]:LV)):=⟨(Tryz.prog.info? 144).getD default,Kr,Kr,Kr,.agg (([.int .u64 0]:LV)++(List.replicate 32 (.int .u8 0):LV)++([.int .u64 0,.slice none 0 0,.slice none 0 0,.slice none 0 0,.slice none 0 0,.slice none 0 0,.slice none 0 0]:LV)).toArray,Kr,Kr⟩
instance:ElT Tryz.prog 177 8 ([.nilFunc]):=⟨(Tryz.prog.info? 177).getD default,Kr,Kr,Kr,.nilFunc,Kr,Kr⟩
theorem Cal.c {f:FuncId} (h:∀ a w,(callFunc f a).run Tryz.prog w=.ok (.enter f a) w:=by intro _ _;kernel_rfl):Cal Tryz.prog f:=⟨h⟩
instance:Cal Tryz.prog 8:=Cal.c
instance:Cal Tryz.prog 11:=Cal.c
instance:Cal Tryz.prog 14:=Cal.c
instance:Cal Tryz.prog 15:=Cal.c
instance:Cal Tryz.prog 16:=Cal.c
instance:Cal Tryz.prog 17:=Cal.c
instance:Cal Tryz.prog 18:=Cal.c
instance:Cal Tryz.prog 19:=Cal.c
instance:Cal Tryz.prog 20:=Cal.c
instance:Cal Tryz.prog 21:=Cal.c
instance:Cal Tryz.prog 22:=Cal.c
instance:Cal Tryz.prog 23:=Cal.c
instance:Cal Tryz.prog 24:=Cal.c
instance:Cal Tryz.prog 25:=Cal.c
instance:Cal Tryz.prog 26:=Cal.c
instance:Cal Tryz.prog 27:=Cal.c
instance:Cal Tryz.prog 28:=Cal.c
instance:Cal Tryz.prog 29:=Cal.c
instance:Cal Tryz.prog 30:=Cal.c
instance:Cal Tryz.prog 31:=Cal.c
instance:Cal Tryz.prog 32:=Cal.c
instance:Cal Tryz.prog 33:=Cal.c
instance:Cal Tryz.prog 34:=Cal.c
instance:Cal Tryz.prog 35:=Cal.c
instance:Cal Tryz.prog 36:=Cal.c
instance:Cal Tryz.prog 39:=Cal.c
instance:Cal Tryz.prog 40:=Cal.c
instance:Cal Tryz.prog 41:=Cal.c
instance:Cal Tryz.prog 42:=Cal.c
instance:Cal Tryz.prog 43:=Cal.c
instance:Cal Tryz.prog 44:=Cal.c
instance:Cal Tryz.prog 45:=Cal.c
instance:Cal Tryz.prog 46:=Cal.c
instance:Cal Tryz.prog 47:=Cal.c
instance:Cal Tryz.prog 48:=Cal.c
instance:Cal Tryz.prog 49:=Cal.c
instance:Cal Tryz.prog 50:=Cal.c
instance:Cal Tryz.prog 51:=Cal.c
instance:Cal Tryz.prog 52:=Cal.c
instance:Cal Tryz.prog 53:=Cal.c
instance:Cal Tryz.prog 54:=Cal.c
instance:Cal Tryz.prog 55:=Cal.c
instance:Cal Tryz.prog 56:=Cal.c
instance:Cal Tryz.prog 57:=Cal.c
instance:Cal Tryz.prog 59:=Cal.c
instance:Cal Tryz.prog 60:=Cal.c
instance:Cal Tryz.prog 61:=Cal.c
instance:Cal Tryz.prog 62:=Cal.c
instance:Cal Tryz.prog 63:=Cal.c
instance:Cal Tryz.prog 64:=Cal.c
instance:Cal Tryz.prog 65:=Cal.c
instance:Cal Tryz.prog 66:=Cal.c
instance:Cal Tryz.prog 67:=Cal.c
instance:Cal Tryz.prog 68:=Cal.c
instance:Cal Tryz.prog 69:=Cal.c
instance:Cal Tryz.prog 70:=Cal.c
instance:Cal Tryz.prog 71:=Cal.c
instance:Cal Tryz.prog 72:=Cal.c
instance:Cal Tryz.prog 73:=Cal.c
instance:Cal Tryz.prog 74:=Cal.c
instance:Cal Tryz.prog 75:=Cal.c
instance:Cal Tryz.prog 76:=Cal.c
instance:Cal Tryz.prog 77:=Cal.c
instance:Cal Tryz.prog 78:=Cal.c
instance:Cal Tryz.prog 79:=Cal.c
instance:Cal Tryz.prog 80:=Cal.c
instance:Cal Tryz.prog 81:=Cal.c
instance:Cal Tryz.prog 82:=Cal.c
instance:Cal Tryz.prog 83:=Cal.c
instance:Cal Tryz.prog 84:=Cal.c
instance:Cal Tryz.prog 85:=Cal.c
instance:Cal Tryz.prog 86:=Cal.c
instance:Cal Tryz.prog 87:=Cal.c
instance:Cal Tryz.prog 88:=Cal.c
instance:Cal Tryz.prog 89:=Cal.c
instance:Cal Tryz.prog 90:=Cal.c
instance:Cal Tryz.prog 91:=Cal.c
instance:Cal Tryz.prog 98:=Cal.c
instance:Cal Tryz.prog 99:=Cal.c
instance:Cal Tryz.prog 101:=Cal.c
instance:Cal Tryz.prog 102:=Cal.c
instance:Cal Tryz.prog 103:=Cal.c
instance:Cal Tryz.prog 104:=Cal.c
instance:Cal Tryz.prog 105:=Cal.c
instance:Cal Tryz.prog 106:=Cal.c
instance:Cal Tryz.prog 107:=Cal.c
instance:Cal Tryz.prog 108:=Cal.c
instance:Cal Tryz.prog 109:=Cal.c
instance:Cal Tryz.prog 110:=Cal.c
instance:Cal Tryz.prog 111:=Cal.c
instance:Cal Tryz.prog 112:=Cal.c
instance:Cal Tryz.prog 113:=Cal.c
instance:Cal Tryz.prog 114:=Cal.c
instance:Cal Tryz.prog 115:=Cal.c
instance:Cal Tryz.prog 116:=Cal.c
instance:Cal Tryz.prog 117:=Cal.c
instance:Cal Tryz.prog 118:=Cal.c
instance:Cal Tryz.prog 119:=Cal.c
instance:Cal Tryz.prog 120:=Cal.c
instance:Cal Tryz.prog 121:=Cal.c
instance:Cal Tryz.prog 122:=Cal.c
instance:Cal Tryz.prog 123:=Cal.c
instance:Cal Tryz.prog 124:=Cal.c
instance:Cal Tryz.prog 125:=Cal.c
instance:Cal Tryz.prog 126:=Cal.c
instance:Cal Tryz.prog 127:=Cal.c
instance:Cal Tryz.prog 129:=Cal.c
instance:Cal Tryz.prog 130:=Cal.c
instance:Cal Tryz.prog 131:=Cal.c
instance:Cal Tryz.prog 132:=Cal.c
instance:Cal Tryz.prog 133:=Cal.c
instance:Cal Tryz.prog 134:=Cal.c
instance:Cal Tryz.prog 135:=Cal.c
instance:Cal Tryz.prog 136:=Cal.c
instance:Cal Tryz.prog 137:=Cal.c
instance:Cal Tryz.prog 138:=Cal.c
instance:Cal Tryz.prog 140:=Cal.c
instance:Cal Tryz.prog 141:=Cal.c
instance:Cal Tryz.prog 142:=Cal.c
instance:Cal Tryz.prog 143:=Cal.c
instance:Cal Tryz.prog 144:=Cal.c
instance:Cal Tryz.prog 145:=Cal.c
instance:Cal Tryz.prog 146:=Cal.c
instance:Cal Tryz.prog 147:=Cal.c
instance:Cal Tryz.prog 148:=Cal.c
instance:Cal Tryz.prog 149:=Cal.c
instance:Cal Tryz.prog 150:=Cal.c
instance:Cal Tryz.prog 151:=Cal.c
instance:Cal Tryz.prog 152:=Cal.c
instance:Cal Tryz.prog 153:=Cal.c
instance:Cal Tryz.prog 154:=Cal.c
instance:Cal Tryz.prog 155:=Cal.c
instance:Cal Tryz.prog 156:=Cal.c
instance:Cal Tryz.prog 157:=Cal.c
instance:Cal Tryz.prog 158:=Cal.c
instance:Cal Tryz.prog 159:=Cal.c
instance:Cal Tryz.prog 160:=Cal.c
instance:Cal Tryz.prog 161:=Cal.c
instance:Cal Tryz.prog 162:=Cal.c
instance:Cal Tryz.prog 163:=Cal.c
instance:Cal Tryz.prog 169:=Cal.c
instance:Cal Tryz.prog 170:=Cal.c
instance:Cal Tryz.prog 171:=Cal.c
instance:Cal Tryz.prog 172:=Cal.c
instance:Cal Tryz.prog 173:=Cal.c
instance:Cal Tryz.prog 174:=Cal.c
instance:Cal Tryz.prog 175:=Cal.c
instance:Cal Tryz.prog 176:=Cal.c
instance:Cal Tryz.prog 177:=Cal.c
instance:Cal Tryz.prog 178:=Cal.c
instance:Cal Tryz.prog 179:=Cal.c
instance:Cal Tryz.prog 181:=Cal.c
instance:Cal Tryz.prog 182:=Cal.c
instance:Cal Tryz.prog 183:=Cal.c
instance:Cal Tryz.prog 184:=Cal.c
instance:Cal Tryz.prog 185:=Cal.c
instance:Cal Tryz.prog 186:=Cal.c
instance:Cal Tryz.prog 187:=Cal.c
instance:Cal Tryz.prog 188:=Cal.c
instance:Cal Tryz.prog 189:=Cal.c
instance:Cal Tryz.prog 195:=Cal.c
instance:Cal Tryz.prog 196:=Cal.c
instance:Cal Tryz.prog 197:=Cal.c
instance:Cal Tryz.prog 198:=Cal.c
instance:Cal Tryz.prog 199:=Cal.c
instance:Cal Tryz.prog 200:=Cal.c
instance:Cal Tryz.prog 202:=Cal.c
instance:Cal Tryz.prog 203:=Cal.c
instance:Cal Tryz.prog 204:=Cal.c
instance:Cal Tryz.prog 208:=Cal.c
instance:Cal Tryz.prog 213:=Cal.c
instance:Cal Tryz.prog 214:=Cal.c
instance:Cal Tryz.prog 215:=Cal.c
instance:Cal Tryz.prog 216:=Cal.c
instance:Cal Tryz.prog 217:=Cal.c
instance:Cal Tryz.prog 218:=Cal.c
instance:Cal Tryz.prog 219:=Cal.c
instance:Cal Tryz.prog 222:=Cal.c
instance:Cal Tryz.prog 223:=Cal.c
instance:Cal Tryz.prog 226:=Cal.c
instance:Cal Tryz.prog 227:=Cal.c
instance:Cal Tryz.prog 228:=Cal.c
instance:Cal Tryz.prog 229:=Cal.c
instance:Cal Tryz.prog 230:=Cal.c
instance:Cal Tryz.prog 231:=Cal.c
instance:Cal Tryz.prog 232:=Cal.c
instance:Cal Tryz.prog 236:=Cal.c
instance:Cal Tryz.prog 237:=Cal.c
instance:Cal Tryz.prog 238:=Cal.c
instance:Cal Tryz.prog 241:=Cal.c
instance:Cal Tryz.prog 254:=Cal.c
instance:Cal Tryz.prog 257:=Cal.c
instance:Cal Tryz.prog 265:=Cal.c
end Sx
end
end Go.Proofs.YtiaibpcaloigkaaGreatDoor
