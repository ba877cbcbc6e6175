/- Part 6 of the proof. -/
import Derived.Test.YtbhblpnjhkddbaaGreatE05
import Derived.Test.YtbhblpnjhkddbaaGreatProg
set_option linter.unusedSimpArgs false
set_option linter.unusedVariables false
namespace Go.Proofs.YtbhblpnjhkddbaaGreat
section
open Go Go.RowKit
namespace Sx
instance:Mix Tryz.prog:=⟨by kernel_rfl⟩
instance:InT Tryz.prog 2 .i64:=⟨by kernel_rfl⟩
instance:OnT Tryz.prog 3:=⟨fun _=>by kernel_rfl,fun _=>by kernel_rfl⟩
instance:InT Tryz.prog 3 .i64:=⟨by kernel_rfl⟩
instance:OnT Tryz.prog 5:=⟨fun _=>by kernel_rfl,fun _=>by kernel_rfl⟩
instance:InT Tryz.prog 5 .u8:=⟨by kernel_rfl⟩
instance:OnT Tryz.prog 9:=⟨fun _=>by kernel_rfl,fun _=>by kernel_rfl⟩
instance:acC Tryz.prog 9:=⟨by kernel_rfl⟩
instance:OnT Tryz.prog 22:=⟨fun _=>by kernel_rfl,fun _=>by kernel_rfl⟩
instance:InT Tryz.prog 22 .u64:=⟨by kernel_rfl⟩
instance:AgT Tryz.prog 24 4:=⟨fun _=>by kernel_rfl,fun _=>by kernel_rfl⟩
instance:ZeT Tryz.prog 24 (.agg ([.int .u64 ((wd 0 0:Nat):Int),.int .u64 ((wd 1 0:Nat):Int),.int .u64 ((wd 2 0:Nat):Int),.int .u64 ((wd 3 0:Nat):Int)]).toArray):=⟨fun _=>by kernel_rfl⟩
instance:ArT Tryz.prog 24 4 22 1:=⟨by kernel_rfl,fun _=>by kernel_rfl⟩
instance:AgT Tryz.prog 26 16:=⟨fun _=>by kernel_rfl,fun _=>by kernel_rfl⟩
instance:ZeT Tryz.prog 26 (.agg ([.int .u64 ((wd 0 0:Nat):Int),.int .u64 ((wd 1 0:Nat):Int),.int .u64 ((wd 2 0:Nat):Int),.int .u64 ((wd 3 0:Nat):Int),.int .u64 ((wd 0 0:Nat):Int),.int .u64 ((wd 1 0:Nat):Int),.int .u64 ((wd 2 0:Nat):Int),.int .u64 ((wd 3 0:Nat):Int),.int .u64 ((wd 0 0:Nat):Int),.int .u64 ((wd 1 0:Nat):Int),.int .u64 ((wd 2 0:Nat):Int),.int .u64 ((wd 3 0:Nat):Int),.int .u64 ((wd 0 0:Nat):Int),.int .u64 ((wd 1 0:Nat):Int),.int .u64 ((wd 2 0:Nat):Int),.int .u64 ((wd 3 0:Nat):Int)]).toArray):=⟨fun _=>by kernel_rfl⟩
instance:BuT Tryz.prog 26 [(0,4),(4,4),(8,4),(12,4)] ([.int .u64 ((wd 0 0:Nat):Int),.int .u64 ((wd 1 0:Nat):Int),.int .u64 ((wd 2 0:Nat):Int),.int .u64 ((wd 3 0:Nat):Int),.int .u64 ((wd 0 0:Nat):Int),.int .u64 ((wd 1 0:Nat):Int),.int .u64 ((wd 2 0:Nat):Int),.int .u64 ((wd 3 0:Nat):Int),.int .u64 ((wd 0 0:Nat):Int),.int .u64 ((wd 1 0:Nat):Int),.int .u64 ((wd 2 0:Nat):Int),.int .u64 ((wd 3 0:Nat):Int),.int .u64 ((wd 0 0:Nat):Int),.int .u64 ((wd 1 0:Nat):Int),.int .u64 ((wd 2 0:Nat):Int),.int .u64 ((wd 3 0:Nat):Int)]):=⟨fun _=>by kernel_rfl,by kernel_rfl,fun _=>by kernel_rfl⟩
instance:FlT Tryz.prog 26 0 0:=⟨fun _ _=>by kernel_rfl⟩
instance:FlT Tryz.prog 26 1 4:=⟨fun _ _=>by kernel_rfl⟩
instance:FlT Tryz.prog 26 2 8:=⟨fun _ _=>by kernel_rfl⟩
instance:FlT Tryz.prog 26 3 12:=⟨fun _ _=>by kernel_rfl⟩
instance:OnT Tryz.prog 27:=⟨fun _=>by kernel_rfl,fun _=>by kernel_rfl⟩
instance:SlT Tryz.prog 27 72 8:=⟨by kernel_rfl,fun _=>by kernel_rfl⟩
instance:AgT Tryz.prog 29 19:=⟨fun _=>by kernel_rfl,fun _=>by kernel_rfl⟩
instance:ZeT Tryz.prog 29 (.agg ([.int .u64 ((wd 0 0:Nat):Int),.int .u64 ((wd 1 0:Nat):Int),.int .u64 ((wd 2 0:Nat):Int),.int .u64 ((wd 3 0:Nat):Int),.int .u64 ((wd 0 0:Nat):Int),.int .u64 ((wd 1 0:Nat):Int),.int .u64 ((wd 2 0:Nat):Int),.int .u64 ((wd 3 0:Nat):Int),.int .u64 ((wd 0 0:Nat):Int),.int .u64 ((wd 1 0:Nat):Int),.int .u64 ((wd 2 0:Nat):Int),.int .u64 ((wd 3 0:Nat):Int),.int .u64 ((wd 0 0:Nat):Int),.int .u64 ((wd 1 0:Nat):Int),.int .u64 ((wd 2 0:Nat):Int),.int .u64 ((wd 3 0:Nat):Int),.int .i64 0,.int .i64 0,.slice none 0 0]).toArray):=⟨fun _=>by kernel_rfl⟩
instance:BuT Tryz.prog 29 [(0,16),(16,1),(17,1),(18,1)] ([.int .u64 ((wd 0 0:Nat):Int),.int .u64 ((wd 1 0:Nat):Int),.int .u64 ((wd 2 0:Nat):Int),.int .u64 ((wd 3 0:Nat):Int),.int .u64 ((wd 0 0:Nat):Int),.int .u64 ((wd 1 0:Nat):Int),.int .u64 ((wd 2 0:Nat):Int),.int .u64 ((wd 3 0:Nat):Int),.int .u64 ((wd 0 0:Nat):Int),.int .u64 ((wd 1 0:Nat):Int),.int .u64 ((wd 2 0:Nat):Int),.int .u64 ((wd 3 0:Nat):Int),.int .u64 ((wd 0 0:Nat):Int),.int .u64 ((wd 1 0:Nat):Int),.int .u64 ((wd 2 0:Nat):Int),.int .u64 ((wd 3 0:Nat):Int),.int .i64 0,.int .i64 0,.slice none 0 0]):=⟨fun _=>by kernel_rfl,by kernel_rfl,fun _=>by kernel_rfl⟩
instance:FlT Tryz.prog 29 0 0:=⟨fun _ _=>by kernel_rfl⟩
instance:FlT Tryz.prog 29 1 16:=⟨fun _ _=>by kernel_rfl⟩
instance:FlT Tryz.prog 29 2 17:=⟨fun _ _=>by kernel_rfl⟩
instance:FlT Tryz.prog 29 3 18:=⟨fun _ _=>by kernel_rfl⟩
instance:OnT Tryz.prog 30:=⟨fun _=>by kernel_rfl,fun _=>by kernel_rfl⟩
instance:ZeT Tryz.prog 30 (.slice none 0 0):=⟨fun _=>by kernel_rfl⟩
instance:SlT Tryz.prog 30 24 4:=⟨by kernel_rfl,fun _=>by kernel_rfl⟩
instance:AgT Tryz.prog 32 8:=⟨fun _=>by kernel_rfl,fun _=>by kernel_rfl⟩
instance:FlT Tryz.prog 32 0 0:=⟨fun _ _=>by kernel_rfl⟩
instance:FlT Tryz.prog 32 1 1:=⟨fun _ _=>by kernel_rfl⟩
instance:FlT Tryz.prog 32 2 2:=⟨fun _ _=>by kernel_rfl⟩
instance:FlT Tryz.prog 32 3 3:=⟨fun _ _=>by kernel_rfl⟩
instance:FlT Tryz.prog 32 4 7:=⟨fun _ _=>by kernel_rfl⟩
instance:OnT Tryz.prog 33:=⟨fun _=>by kernel_rfl,fun _=>by kernel_rfl⟩
instance:SlT Tryz.prog 33 44 8:=⟨by kernel_rfl,fun _=>by kernel_rfl⟩
instance:AgT Tryz.prog 35 8:=⟨fun _=>by kernel_rfl,fun _=>by kernel_rfl⟩
instance:ZeT Tryz.prog 35 (.agg ([.int .u64 ((wd 0 0:Nat):Int),.int .u64 ((wd 1 0:Nat):Int),.int .u64 ((wd 2 0:Nat):Int),.int .u64 ((wd 3 0:Nat):Int),.int .u64 ((wd 0 0:Nat):Int),.int .u64 ((wd 1 0:Nat):Int),.int .u64 ((wd 2 0:Nat):Int),.int .u64 ((wd 3 0:Nat):Int)]).toArray):=⟨fun _=>by kernel_rfl⟩
instance:BuT Tryz.prog 35 [(0,4),(4,4)] ([.int .u64 ((wd 0 0:Nat):Int),.int .u64 ((wd 1 0:Nat):Int),.int .u64 ((wd 2 0:Nat):Int),.int .u64 ((wd 3 0:Nat):Int),.int .u64 ((wd 0 0:Nat):Int),.int .u64 ((wd 1 0:Nat):Int),.int .u64 ((wd 2 0:Nat):Int),.int .u64 ((wd 3 0:Nat):Int)]):=⟨fun _=>by kernel_rfl,by kernel_rfl,fun _=>by kernel_rfl⟩
instance:AgT Tryz.prog 37 13:=⟨fun _=>by kernel_rfl,fun _=>by kernel_rfl⟩
instance:ZeT Tryz.prog 37 (.agg ([.int .u64 0,.int .u8 0,.slice none 0 0,.slice none 0 0,.slice none 0 0,.int .u64 ((wd 0 0:Nat):Int),.int .u64 ((wd 1 0:Nat):Int),.int .u64 ((wd 2 0:Nat):Int),.int .u64 ((wd 3 0:Nat):Int),.int .u64 ((wd 0 0:Nat):Int),.int .u64 ((wd 1 0:Nat):Int),.int .u64 ((wd 2 0:Nat):Int),.int .u64 ((wd 3 0:Nat):Int)]).toArray):=⟨fun _=>by kernel_rfl⟩
instance:BuT Tryz.prog 37 [(0,1),(1,1),(2,1),(3,1),(4,1),(5,8)] ([.int .u64 0,.int .u8 0,.slice none 0 0,.slice none 0 0,.slice none 0 0,.int .u64 ((wd 0 0:Nat):Int),.int .u64 ((wd 1 0:Nat):Int),.int .u64 ((wd 2 0:Nat):Int),.int .u64 ((wd 3 0:Nat):Int),.int .u64 ((wd 0 0:Nat):Int),.int .u64 ((wd 1 0:Nat):Int),.int .u64 ((wd 2 0:Nat):Int),.int .u64 ((wd 3 0:Nat):Int)]):=⟨fun _=>by kernel_rfl,by kernel_rfl,fun _=>by kernel_rfl⟩
instance:FlT Tryz.prog 37 0 0:=⟨fun _ _=>by kernel_rfl⟩
instance:FlT Tryz.prog 37 1 1:=⟨fun _ _=>by kernel_rfl⟩
instance:FlT Tryz.prog 37 2 2:=⟨fun _ _=>by kernel_rfl⟩
instance:FlT Tryz.prog 37 3 3:=⟨fun _ _=>by kernel_rfl⟩
instance:FlT Tryz.prog 37 4 4:=⟨fun _ _=>by kernel_rfl⟩
instance:FlT Tryz.prog 37 5 5:=⟨fun _ _=>by kernel_rfl⟩
instance:OnT Tryz.prog 41:=⟨fun _=>by kernel_rfl,fun _=>by kernel_rfl⟩
instance:ZeT Tryz.prog 41 (.int .i64 0):=⟨fun _=>by kernel_rfl⟩
instance:AgT Tryz.prog 44 8:=⟨fun _=>by kernel_rfl,fun _=>by kernel_rfl⟩
instance:ZeT Tryz.prog 44 (.agg ([.int .u64 ((wd 0 0:Nat):Int),.int .u64 ((wd 1 0:Nat):Int),.int .u64 ((wd 2 0:Nat):Int),.int .u64 ((wd 3 0:Nat):Int),.int .u64 ((wd 0 0:Nat):Int),.int .u64 ((wd 1 0:Nat):Int),.int .u64 ((wd 2 0:Nat):Int),.int .u64 ((wd 3 0:Nat):Int)]).toArray):=⟨fun _=>by kernel_rfl⟩
instance:BuT Tryz.prog 44 [(0,4),(4,4)] ([.int .u64 ((wd 0 0:Nat):Int),.int .u64 ((wd 1 0:Nat):Int),.int .u64 ((wd 2 0:Nat):Int),.int .u64 ((wd 3 0:Nat):Int),.int .u64 ((wd 0 0:Nat):Int),.int .u64 ((wd 1 0:Nat):Int),.int .u64 ((wd 2 0:Nat):Int),.int .u64 ((wd 3 0:Nat):Int)]):=⟨fun _=>by kernel_rfl,by kernel_rfl,fun _=>by kernel_rfl⟩
instance:FlT Tryz.prog 44 0 0:=⟨fun _ _=>by kernel_rfl⟩
instance:FlT Tryz.prog 44 1 4:=⟨fun _ _=>by kernel_rfl⟩
instance:AgT Tryz.prog 46 15:=⟨fun _=>by kernel_rfl,fun _=>by kernel_rfl⟩
instance:ZeT Tryz.prog 46 (.agg ([.int .u64 0,.int .u8 0,.int .u8 0,.int .u64 ((wd 0 0:Nat):Int),.int .u64 ((wd 1 0:Nat):Int),.int .u64 ((wd 2 0:Nat):Int),.int .u64 ((wd 3 0:Nat):Int),.int .u64 ((wd 0 0:Nat):Int),.int .u64 ((wd 1 0:Nat):Int),.int .u64 ((wd 2 0:Nat):Int),.int .u64 ((wd 3 0:Nat):Int),.int .u64 ((wd 0 0:Nat):Int),.int .u64 ((wd 1 0:Nat):Int),.int .u64 ((wd 2 0:Nat):Int),.int .u64 ((wd 3 0:Nat):Int)]).toArray):=⟨fun _=>by kernel_rfl⟩
instance:BuT Tryz.prog 46 [(0,1),(1,1),(2,1),(3,4),(7,8)] ([.int .u64 0,.int .u8 0,.int .u8 0,.int .u64 ((wd 0 0:Nat):Int),.int .u64 ((wd 1 0:Nat):Int),.int .u64 ((wd 2 0:Nat):Int),.int .u64 ((wd 3 0:Nat):Int),.int .u64 ((wd 0 0:Nat):Int),.int .u64 ((wd 1 0:Nat):Int),.int .u64 ((wd 2 0:Nat):Int),.int .u64 ((wd 3 0:Nat):Int),.int .u64 ((wd 0 0:Nat):Int),.int .u64 ((wd 1 0:Nat):Int),.int .u64 ((wd 2 0:Nat):Int),.int .u64 ((wd 3 0:Nat):Int)]):=⟨fun _=>by kernel_rfl,by kernel_rfl,fun _=>by kernel_rfl⟩
instance:FlT Tryz.prog 46 0 0:=⟨fun _ _=>by kernel_rfl⟩
instance:FlT Tryz.prog 46 1 1:=⟨fun _ _=>by kernel_rfl⟩
instance:FlT Tryz.prog 46 2 2:=⟨fun _ _=>by kernel_rfl⟩
instance:FlT Tryz.prog 46 3 3:=⟨fun _ _=>by kernel_rfl⟩
instance:FlT Tryz.prog 46 4 7:=⟨fun _ _=>by kernel_rfl⟩
instance:OnT Tryz.prog 52:=⟨fun _=>by kernel_rfl,fun _=>by kernel_rfl⟩
instance:SlT Tryz.prog 52 5 1:=⟨by kernel_rfl,fun _=>by kernel_rfl⟩
instance:SlT Tryz.prog 54 46 15:=⟨by kernel_rfl,fun _=>by kernel_rfl⟩
instance:AgT Tryz.prog 58 75:=⟨fun _=>by kernel_rfl,fun _=>by kernel_rfl⟩
instance:ZeT Tryz.prog 58 (.agg ([.int .u64 0,.int .u8 0,.int .u8 0,.int .u64 ((wd 0 0:Nat):Int),.int .u64 ((wd 1 0:Nat):Int),.int .u64 ((wd 2 0:Nat):Int),.int .u64 ((wd 3 0:Nat):Int),.int .u64 ((wd 0 0:Nat):Int),.int .u64 ((wd 1 0:Nat):Int),.int .u64 ((wd 2 0:Nat):Int),.int .u64 ((wd 3 0:Nat):Int),.int .u64 ((wd 0 0:Nat):Int),.int .u64 ((wd 1 0:Nat):Int),.int .u64 ((wd 2 0:Nat):Int),.int .u64 ((wd 3 0:Nat):Int),.int .u64 0,.int .u8 0,.int .u8 0,.int .u64 ((wd 0 0:Nat):Int),.int .u64 ((wd 1 0:Nat):Int),.int .u64 ((wd 2 0:Nat):Int),.int .u64 ((wd 3 0:Nat):Int),.int .u64 ((wd 0 0:Nat):Int),.int .u64 ((wd 1 0:Nat):Int),.int .u64 ((wd 2 0:Nat):Int),.int .u64 ((wd 3 0:Nat):Int),.int .u64 ((wd 0 0:Nat):Int),.int .u64 ((wd 1 0:Nat):Int),.int .u64 ((wd 2 0:Nat):Int),.int .u64 ((wd 3 0:Nat):Int),.int .u64 0,.int .u8 0,.int .u8 0,.int .u64 ((wd 0 0:Nat):Int),.int .u64 ((wd 1 0:Nat):Int),.int .u64 ((wd 2 0:Nat):Int),.int .u64 ((wd 3 0:Nat):Int),.int .u64 ((wd 0 0:Nat):Int),.int .u64 ((wd 1 0:Nat):Int),.int .u64 ((wd 2 0:Nat):Int),.int .u64 ((wd 3 0:Nat):Int),.int .u64 ((wd 0 0:Nat):Int),.int .u64 ((wd 1 0:Nat):Int),.int .u64 ((wd 2 0:Nat):Int),.int .u64 ((wd 3 0:Nat):Int),.int .u64 0,.int .u8 0,.int .u8 0,.int .u64 ((wd 0 0:Nat):Int),.int .u64 ((wd 1 0:Nat):Int),.int .u64 ((wd 2 0:Nat):Int),.int .u64 ((wd 3 0:Nat):Int),.int .u64 ((wd 0 0:Nat):Int),.int .u64 ((wd 1 0:Nat):Int),.int .u64 ((wd 2 0:Nat):Int),.int .u64 ((wd 3 0:Nat):Int),.int .u64 ((wd 0 0:Nat):Int),.int .u64 ((wd 1 0:Nat):Int),.int .u64 ((wd 2 0:Nat):Int),.int .u64 ((wd 3 0:Nat):Int),.int .u64 0,.int .u8 0,.int .u8 0,.int .u64 ((wd 0 0:Nat):Int),.int .u64 ((wd 1 0:Nat):Int),.int .u64 ((wd 2 0:Nat):Int),.int .u64 ((wd 3 0:Nat):Int),.int .u64 ((wd 0 0:Nat):Int),.int .u64 ((wd 1 0:Nat):Int),.int .u64 ((wd 2 0:Nat):Int),.int .u64 ((wd 3 0:Nat):Int),.int .u64 ((wd 0 0:Nat):Int),.int .u64 ((wd 1 0:Nat):Int),.int .u64 ((wd 2 0:Nat):Int),.int .u64 ((wd 3 0:Nat):Int)]).toArray):=⟨fun _=>by kernel_rfl⟩
instance:ArT Tryz.prog 58 5 46 15:=⟨by kernel_rfl,fun _=>by kernel_rfl⟩
instance:AgT Tryz.prog 72 8:=⟨fun _=>by kernel_rfl,fun _=>by kernel_rfl⟩
instance:BuT Tryz.prog 72 [(0,4),(4,4)] ([.int .u64 ((wd 0 0:Nat):Int),.int .u64 ((wd 1 0:Nat):Int),.int .u64 ((wd 2 0:Nat):Int),.int .u64 ((wd 3 0:Nat):Int),.int .u64 ((wd 0 0:Nat):Int),.int .u64 ((wd 1 0:Nat):Int),.int .u64 ((wd 2 0:Nat):Int),.int .u64 ((wd 3 0:Nat):Int)]):=⟨fun _=>by kernel_rfl,by kernel_rfl,fun _=>by kernel_rfl⟩
instance:FlT Tryz.prog 72 0 0:=⟨fun _ _=>by kernel_rfl⟩
instance:FlT Tryz.prog 72 1 4:=⟨fun _ _=>by kernel_rfl⟩
instance:SlT Tryz.prog 73 76 8:=⟨by kernel_rfl,fun _=>by kernel_rfl⟩
instance:AgT Tryz.prog 76 8:=⟨fun _=>by kernel_rfl,fun _=>by kernel_rfl⟩
instance:ZeT Tryz.prog 76 (.agg ([.int .u64 ((wd 0 0:Nat):Int),.int .u64 ((wd 1 0:Nat):Int),.int .u64 ((wd 2 0:Nat):Int),.int .u64 ((wd 3 0:Nat):Int),.int .u64 ((wd 0 0:Nat):Int),.int .u64 ((wd 1 0:Nat):Int),.int .u64 ((wd 2 0:Nat):Int),.int .u64 ((wd 3 0:Nat):Int)]).toArray):=⟨fun _=>by kernel_rfl⟩
instance:BuT Tryz.prog 76 [(0,4),(4,4)] ([.int .u64 ((wd 0 0:Nat):Int),.int .u64 ((wd 1 0:Nat):Int),.int .u64 ((wd 2 0:Nat):Int),.int .u64 ((wd 3 0:Nat):Int),.int .u64 ((wd 0 0:Nat):Int),.int .u64 ((wd 1 0:Nat):Int),.int .u64 ((wd 2 0:Nat):Int),.int .u64 ((wd 3 0:Nat):Int)]):=⟨fun _=>by kernel_rfl,by kernel_rfl,fun _=>by kernel_rfl⟩
instance:FlT Tryz.prog 76 0 0:=⟨fun _ _=>by kernel_rfl⟩
instance:FlT Tryz.prog 76 1 4:=⟨fun _ _=>by kernel_rfl⟩
instance:OnT Tryz.prog 77:=⟨fun _=>by kernel_rfl,fun _=>by kernel_rfl⟩
instance:AgT Tryz.prog 79 2:=⟨fun _=>by kernel_rfl,fun _=>by kernel_rfl⟩
instance:ZeT Tryz.prog 79 (.agg ([.int .i64 0,.nilFunc]).toArray):=⟨fun _=>by kernel_rfl⟩
instance:BuT Tryz.prog 79 [(0,1),(1,1)] ([.int .i64 0,.nilFunc]):=⟨fun _=>by kernel_rfl,by kernel_rfl,fun _=>by kernel_rfl⟩
instance:FlT Tryz.prog 79 0 0:=⟨fun _ _=>by kernel_rfl⟩
instance:FlT Tryz.prog 79 1 1:=⟨fun _ _=>by kernel_rfl⟩
instance:FiT Tryz.prog 79 1 1 77:=⟨fun _ _=>by kernel_rfl⟩
instance:AgT Tryz.prog 86 32:=⟨fun _=>by kernel_rfl,fun _=>by kernel_rfl⟩
instance:ZeT Tryz.prog 86 (.agg (List.replicate 32 (.int .u8 0)).toArray):=⟨fun _=>by kernel_rfl⟩
instance:ArT Tryz.prog 86 32 5 1:=⟨by kernel_rfl,fun _=>by kernel_rfl⟩
instance:AgT Tryz.prog 93 2:=⟨fun _=>by kernel_rfl,fun _=>by kernel_rfl⟩
instance:ZeT Tryz.prog 93 (.agg ([.int .u64 0,.int .u64 0]).toArray):=⟨fun _=>by kernel_rfl⟩
instance:ArT Tryz.prog 93 2 22 1:=⟨by kernel_rfl,fun _=>by kernel_rfl⟩
instance:SlT Tryz.prog 96 97 15:=⟨by kernel_rfl,fun _=>by kernel_rfl⟩
instance:AgT Tryz.prog 97 15:=⟨fun _=>by kernel_rfl,fun _=>by kernel_rfl⟩
instance:ZeT Tryz.prog 97 (.agg ([.int .u64 0,.int .u8 0,.int .u8 0,.int .u64 ((wd 0 0:Nat):Int),.int .u64 ((wd 1 0:Nat):Int),.int .u64 ((wd 2 0:Nat):Int),.int .u64 ((wd 3 0:Nat):Int),.int .u64 ((wd 0 0:Nat):Int),.int .u64 ((wd 1 0:Nat):Int),.int .u64 ((wd 2 0:Nat):Int),.int .u64 ((wd 3 0:Nat):Int),.int .u64 ((wd 0 0:Nat):Int),.int .u64 ((wd 1 0:Nat):Int),.int .u64 ((wd 2 0:Nat):Int),.int .u64 ((wd 3 0:Nat):Int)]).toArray):=⟨fun _=>by kernel_rfl⟩
instance:FlT Tryz.prog 97 2 2:=⟨fun _ _=>by kernel_rfl⟩
instance:FlT Tryz.prog 97 3 3:=⟨fun _ _=>by kernel_rfl⟩
instance:OnT Tryz.prog 101:=⟨fun _=>by kernel_rfl,fun _=>by kernel_rfl⟩
instance:SlT Tryz.prog 101 3 1:=⟨by kernel_rfl,fun _=>by kernel_rfl⟩
instance:OnT Tryz.prog 123:=⟨fun _=>by kernel_rfl,fun _=>by kernel_rfl⟩
instance:ZeT Tryz.prog 123 (.slice none 0 0):=⟨fun _=>by kernel_rfl⟩
instance:SlT Tryz.prog 123 52 1:=⟨by kernel_rfl,fun _=>by kernel_rfl⟩
instance:SlT Tryz.prog 131 22 1:=⟨by kernel_rfl,fun _=>by kernel_rfl⟩
instance:AgT Tryz.prog 133 17:=⟨fun _=>by kernel_rfl,fun _=>by kernel_rfl⟩
instance:ZeT Tryz.prog 133 (.agg ([.int .u64 ((wd 0 0:Nat):Int),.int .u64 ((wd 1 0:Nat):Int),.int .u64 ((wd 2 0:Nat):Int),.int .u64 ((wd 3 0:Nat):Int),.int .u64 ((wd 0 0:Nat):Int),.int .u64 ((wd 1 0:Nat):Int),.int .u64 ((wd 2 0:Nat):Int),.int .u64 ((wd 3 0:Nat):Int),.int .u64 ((wd 0 0:Nat):Int),.int .u64 ((wd 1 0:Nat):Int),.int .u64 ((wd 2 0:Nat):Int),.int .u64 ((wd 3 0:Nat):Int),.int .u64 ((wd 0 0:Nat):Int),.int .u64 ((wd 1 0:Nat):Int),.int .u64 ((wd 2 0:Nat):Int),.int .u64 ((wd 3 0:Nat):Int),.string ⟨#[]⟩]).toArray):=⟨fun _=>by kernel_rfl⟩
instance:BuT Tryz.prog 133 [(0,16),(16,1)] ([.int .u64 ((wd 0 0:Nat):Int),.int .u64 ((wd 1 0:Nat):Int),.int .u64 ((wd 2 0:Nat):Int),.int .u64 ((wd 3 0:Nat):Int),.int .u64 ((wd 0 0:Nat):Int),.int .u64 ((wd 1 0:Nat):Int),.int .u64 ((wd 2 0:Nat):Int),.int .u64 ((wd 3 0:Nat):Int),.int .u64 ((wd 0 0:Nat):Int),.int .u64 ((wd 1 0:Nat):Int),.int .u64 ((wd 2 0:Nat):Int),.int .u64 ((wd 3 0:Nat):Int),.int .u64 ((wd 0 0:Nat):Int),.int .u64 ((wd 1 0:Nat):Int),.int .u64 ((wd 2 0:Nat):Int),.int .u64 ((wd 3 0:Nat):Int),.string ⟨#[]⟩]):=⟨fun _=>by kernel_rfl,by kernel_rfl,fun _=>by kernel_rfl⟩
instance:FlT Tryz.prog 133 0 0:=⟨fun _ _=>by kernel_rfl⟩
instance:FlT Tryz.prog 133 1 16:=⟨fun _ _=>by kernel_rfl⟩
instance:ZeT Tryz.prog 138 (.agg ([.int .u64 ((wd 0 0:Nat):Int),.int .u64 ((wd 1 0:Nat):Int),.int .u64 ((wd 2 0:Nat):Int),.int .u64 ((wd 3 0:Nat):Int),.int .u64 ((wd 0 0:Nat):Int),.int .u64 ((wd 1 0:Nat):Int),.int .u64 ((wd 2 0:Nat):Int),.int .u64 ((wd 3 0:Nat):Int),.int .u64 ((wd 0 0:Nat):Int),.int .u64 ((wd 1 0:Nat):Int),.int .u64 ((wd 2 0:Nat):Int),.int .u64 ((wd 3 0:Nat):Int),.int .u64 ((wd 0 0:Nat):Int),.int .u64 ((wd 1 0:Nat):Int),.int .u64 ((wd 2 0:Nat):Int),.int .u64 ((wd 3 0:Nat):Int)]).toArray):=⟨fun _=>by kernel_rfl⟩
instance:ArT Tryz.prog 138 4 24 4:=⟨by kernel_rfl,fun _=>by kernel_rfl⟩
instance:InT Tryz.prog 142 .u64:=⟨by kernel_rfl⟩
instance:OnT Tryz.prog 151:=⟨fun _=>by kernel_rfl,fun _=>by kernel_rfl⟩
instance:BuT Tryz.prog 153 [(0,1)] ([.nilFunc]):=⟨fun _=>by kernel_rfl,by kernel_rfl,fun _=>by kernel_rfl⟩
instance:FlT Tryz.prog 153 0 0:=⟨fun _ _=>by kernel_rfl⟩
instance:OnT Tryz.prog 156:=⟨fun _=>by kernel_rfl,fun _=>by kernel_rfl⟩
instance:ZeT Tryz.prog 156 (.pointer none):=⟨fun _=>by kernel_rfl⟩
instance:BuT Tryz.prog 158 [(0,16),(16,1)] ([.int .u64 ((wd 0 0:Nat):Int),.int .u64 ((wd 1 0:Nat):Int),.int .u64 ((wd 2 0:Nat):Int),.int .u64 ((wd 3 0:Nat):Int),.int .u64 ((wd 0 0:Nat):Int),.int .u64 ((wd 1 0:Nat):Int),.int .u64 ((wd 2 0:Nat):Int),.int .u64 ((wd 3 0:Nat):Int),.int .u64 ((wd 0 0:Nat):Int),.int .u64 ((wd 1 0:Nat):Int),.int .u64 ((wd 2 0:Nat):Int),.int .u64 ((wd 3 0:Nat):Int),.int .u64 ((wd 0 0:Nat):Int),.int .u64 ((wd 1 0:Nat):Int),.int .u64 ((wd 2 0:Nat):Int),.int .u64 ((wd 3 0:Nat):Int),.int .i64 0]):=⟨fun _=>by kernel_rfl,by kernel_rfl,fun _=>by kernel_rfl⟩
instance:FlT Tryz.prog 158 0 0:=⟨fun _ _=>by kernel_rfl⟩
instance:FlT Tryz.prog 158 1 16:=⟨fun _ _=>by kernel_rfl⟩
instance:OnT Tryz.prog 174:=⟨fun _=>by kernel_rfl,fun _=>by kernel_rfl⟩
instance:InT Tryz.prog 174 .u32:=⟨by kernel_rfl⟩
instance:AgT Tryz.prog 176 8:=⟨fun _=>by kernel_rfl,fun _=>by kernel_rfl⟩
instance:ZeT Tryz.prog 176 (.agg ([.int .u32 0,.int .u32 0,.int .u32 0,.int .u32 0,.int .u32 0,.int .u32 0,.int .u32 0,.int .u32 0]).toArray):=⟨fun _=>by kernel_rfl⟩
instance:ArT Tryz.prog 176 8 174 1:=⟨by kernel_rfl,fun _=>by kernel_rfl⟩
instance:AgT Tryz.prog 178 64:=⟨fun _=>by kernel_rfl,fun _=>by kernel_rfl⟩
instance:ArT Tryz.prog 178 64 5 1:=⟨by kernel_rfl,fun _=>by kernel_rfl⟩
instance:AgT Tryz.prog 180 74:=⟨fun _=>by kernel_rfl,fun _=>by kernel_rfl⟩
instance:ZeT Tryz.prog 180 (.agg (([.int .i64 0,.int .u32 0,.int .u32 0,.int .u32 0,.int .u32 0,.int .u32 0,.int .u32 0,.int .u32 0,.int .u32 0]:List Value)++(List.replicate 64 (.int .u8 0):List Value)++([.int .u64 0]:List Value)).toArray):=⟨fun _=>by kernel_rfl⟩
instance:BuT Tryz.prog 180 [(0,1),(1,8),(9,64),(73,1)] (([.int .i64 0,.int .u32 0,.int .u32 0,.int .u32 0,.int .u32 0,.int .u32 0,.int .u32 0,.int .u32 0,.int .u32 0]:List Value)++(List.replicate 64 (.int .u8 0):List Value)++([.int .u64 0]:List Value)):=⟨fun _=>by kernel_rfl,by kernel_rfl,fun _=>by kernel_rfl⟩
instance:FlT Tryz.prog 180 0 0:=⟨fun _ _=>by kernel_rfl⟩
instance:FlT Tryz.prog 180 1 1:=⟨fun _ _=>by kernel_rfl⟩
instance:FlT Tryz.prog 180 2 9:=⟨fun _ _=>by kernel_rfl⟩
instance:FlT Tryz.prog 180 3 73:=⟨fun _ _=>by kernel_rfl⟩
instance:AgT Tryz.prog 231 64:=⟨fun _=>by kernel_rfl,fun _=>by kernel_rfl⟩
instance:ZeT Tryz.prog 231 (.agg (List.replicate 64 (.int .u32 0)).toArray):=⟨fun _=>by kernel_rfl⟩
instance:ArT Tryz.prog 231 64 174 1:=⟨by kernel_rfl,fun _=>by kernel_rfl⟩
instance:ElT Tryz.prog 3 8 ([.int .i64 0]):=⟨(Tryz.prog.info? 3).getD default,by kernel_rfl,by kernel_rfl,by kernel_rfl,.int .i64 0,by kernel_rfl,by kernel_rfl⟩
instance:ElT Tryz.prog 5 1 ([.int .u8 0]):=⟨(Tryz.prog.info? 5).getD default,by kernel_rfl,by kernel_rfl,by kernel_rfl,.int .u8 0,by kernel_rfl,by kernel_rfl⟩
instance:ElT Tryz.prog 22 8 ([.int .u64 0]):=⟨(Tryz.prog.info? 22).getD default,by kernel_rfl,by kernel_rfl,by kernel_rfl,.int .u64 0,by kernel_rfl,by kernel_rfl⟩
instance:ElT Tryz.prog 24 32 ([.int .u64 ((wd 0 0:Nat):Int),.int .u64 ((wd 1 0:Nat):Int),.int .u64 ((wd 2 0:Nat):Int),.int .u64 ((wd 3 0:Nat):Int)]):=⟨(Tryz.prog.info? 24).getD default,by kernel_rfl,by kernel_rfl,by kernel_rfl,.agg ([.int .u64 ((wd 0 0:Nat):Int),.int .u64 ((wd 1 0:Nat):Int),.int .u64 ((wd 2 0:Nat):Int),.int .u64 ((wd 3 0:Nat):Int)]).toArray,by kernel_rfl,by kernel_rfl⟩
instance:ElT Tryz.prog 44 64 ([.int .u64 ((wd 0 0:Nat):Int),.int .u64 ((wd 1 0:Nat):Int),.int .u64 ((wd 2 0:Nat):Int),.int .u64 ((wd 3 0:Nat):Int),.int .u64 ((wd 0 0:Nat):Int),.int .u64 ((wd 1 0:Nat):Int),.int .u64 ((wd 2 0:Nat):Int),.int .u64 ((wd 3 0:Nat):Int)]):=⟨(Tryz.prog.info? 44).getD default,by kernel_rfl,by kernel_rfl,by kernel_rfl,.agg ([.int .u64 ((wd 0 0:Nat):Int),.int .u64 ((wd 1 0:Nat):Int),.int .u64 ((wd 2 0:Nat):Int),.int .u64 ((wd 3 0:Nat):Int),.int .u64 ((wd 0 0:Nat):Int),.int .u64 ((wd 1 0:Nat):Int),.int .u64 ((wd 2 0:Nat):Int),.int .u64 ((wd 3 0:Nat):Int)]).toArray,by kernel_rfl,by kernel_rfl⟩
instance:ElT Tryz.prog 46 112 ([.int .u64 0,.int .u8 0,.int .u8 0,.int .u64 ((wd 0 0:Nat):Int),.int .u64 ((wd 1 0:Nat):Int),.int .u64 ((wd 2 0:Nat):Int),.int .u64 ((wd 3 0:Nat):Int),.int .u64 ((wd 0 0:Nat):Int),.int .u64 ((wd 1 0:Nat):Int),.int .u64 ((wd 2 0:Nat):Int),.int .u64 ((wd 3 0:Nat):Int),.int .u64 ((wd 0 0:Nat):Int),.int .u64 ((wd 1 0:Nat):Int),.int .u64 ((wd 2 0:Nat):Int),.int .u64 ((wd 3 0:Nat):Int)]):=⟨(Tryz.prog.info? 46).getD default,by kernel_rfl,by kernel_rfl,by kernel_rfl,.agg ([.int .u64 0,.int .u8 0,.int .u8 0,.int .u64 ((wd 0 0:Nat):Int),.int .u64 ((wd 1 0:Nat):Int),.int .u64 ((wd 2 0:Nat):Int),.int .u64 ((wd 3 0:Nat):Int),.int .u64 ((wd 0 0:Nat):Int),.int .u64 ((wd 1 0:Nat):Int),.int .u64 ((wd 2 0:Nat):Int),.int .u64 ((wd 3 0:Nat):Int),.int .u64 ((wd 0 0:Nat):Int),.int .u64 ((wd 1 0:Nat):Int),.int .u64 ((wd 2 0:Nat):Int),.int .u64 ((wd 3 0:Nat):Int)]).toArray,by kernel_rfl,by kernel_rfl⟩
instance:ElT Tryz.prog 52 24 ([.slice none 0 0]):=⟨(Tryz.prog.info? 52).getD default,by kernel_rfl,by kernel_rfl,by kernel_rfl,.slice none 0 0,by kernel_rfl,by kernel_rfl⟩
instance:ElT Tryz.prog 72 64 ([.int .u64 ((wd 0 0:Nat):Int),.int .u64 ((wd 1 0:Nat):Int),.int .u64 ((wd 2 0:Nat):Int),.int .u64 ((wd 3 0:Nat):Int),.int .u64 ((wd 0 0:Nat):Int),.int .u64 ((wd 1 0:Nat):Int),.int .u64 ((wd 2 0:Nat):Int),.int .u64 ((wd 3 0:Nat):Int)]):=⟨(Tryz.prog.info? 72).getD default,by kernel_rfl,by kernel_rfl,by kernel_rfl,.agg ([.int .u64 ((wd 0 0:Nat):Int),.int .u64 ((wd 1 0:Nat):Int),.int .u64 ((wd 2 0:Nat):Int),.int .u64 ((wd 3 0:Nat):Int),.int .u64 ((wd 0 0:Nat):Int),.int .u64 ((wd 1 0:Nat):Int),.int .u64 ((wd 2 0:Nat):Int),.int .u64 ((wd 3 0:Nat):Int)]).toArray,by kernel_rfl,by kernel_rfl⟩
instance:ElT Tryz.prog 76 64 ([.int .u64 ((wd 0 0:Nat):Int),.int .u64 ((wd 1 0:Nat):Int),.int .u64 ((wd 2 0:Nat):Int),.int .u64 ((wd 3 0:Nat):Int),.int .u64 ((wd 0 0:Nat):Int),.int .u64 ((wd 1 0:Nat):Int),.int .u64 ((wd 2 0:Nat):Int),.int .u64 ((wd 3 0:Nat):Int)]):=⟨(Tryz.prog.info? 76).getD default,by kernel_rfl,by kernel_rfl,by kernel_rfl,.agg ([.int .u64 ((wd 0 0:Nat):Int),.int .u64 ((wd 1 0:Nat):Int),.int .u64 ((wd 2 0:Nat):Int),.int .u64 ((wd 3 0:Nat):Int),.int .u64 ((wd 0 0:Nat):Int),.int .u64 ((wd 1 0:Nat):Int),.int .u64 ((wd 2 0:Nat):Int),.int .u64 ((wd 3 0:Nat):Int)]).toArray,by kernel_rfl,by kernel_rfl⟩
instance:ElT Tryz.prog 97 112 ([.int .u64 0,.int .u8 0,.int .u8 0,.int .u64 ((wd 0 0:Nat):Int),.int .u64 ((wd 1 0:Nat):Int),.int .u64 ((wd 2 0:Nat):Int),.int .u64 ((wd 3 0:Nat):Int),.int .u64 ((wd 0 0:Nat):Int),.int .u64 ((wd 1 0:Nat):Int),.int .u64 ((wd 2 0:Nat):Int),.int .u64 ((wd 3 0:Nat):Int),.int .u64 ((wd 0 0:Nat):Int),.int .u64 ((wd 1 0:Nat):Int),.int .u64 ((wd 2 0:Nat):Int),.int .u64 ((wd 3 0:Nat):Int)]):=⟨(Tryz.prog.info? 97).getD default,by kernel_rfl,by kernel_rfl,by kernel_rfl,.agg ([.int .u64 0,.int .u8 0,.int .u8 0,.int .u64 ((wd 0 0:Nat):Int),.int .u64 ((wd 1 0:Nat):Int),.int .u64 ((wd 2 0:Nat):Int),.int .u64 ((wd 3 0:Nat):Int),.int .u64 ((wd 0 0:Nat):Int),.int .u64 ((wd 1 0:Nat):Int),.int .u64 ((wd 2 0:Nat):Int),.int .u64 ((wd 3 0:Nat):Int),.int .u64 ((wd 0 0:Nat):Int),.int .u64 ((wd 1 0:Nat):Int),.int .u64 ((wd 2 0:Nat):Int),.int .u64 ((wd 3 0:Nat):Int)]).toArray,by kernel_rfl,by kernel_rfl⟩
theorem Cal.c {f:FuncId} (h:∀ a w,(callFunc f a).run Tryz.prog w=.ok (.enter f a) w:=by intro _ _;kernel_rfl):Cal Tryz.prog f:=⟨h⟩
instance:Cal Tryz.prog 8:=Cal.c
instance:Cal Tryz.prog 9:=Cal.c
instance:Cal Tryz.prog 10:=Cal.c
instance:Cal Tryz.prog 11:=Cal.c
instance:Cal Tryz.prog 12:=Cal.c
instance:Cal Tryz.prog 13:=Cal.c
instance:Cal Tryz.prog 14:=Cal.c
instance:Cal Tryz.prog 15:=Cal.c
instance:Cal Tryz.prog 16:=Cal.c
instance:Cal Tryz.prog 17:=Cal.c
instance:Cal Tryz.prog 18:=Cal.c
instance:Cal Tryz.prog 19:=Cal.c
instance:Cal Tryz.prog 20:=Cal.c
instance:Cal Tryz.prog 21:=Cal.c
instance:Cal Tryz.prog 22:=Cal.c
instance:Cal Tryz.prog 23:=Cal.c
instance:Cal Tryz.prog 24:=Cal.c
instance:Cal Tryz.prog 25:=Cal.c
instance:Cal Tryz.prog 26:=Cal.c
instance:Cal Tryz.prog 27:=Cal.c
instance:Cal Tryz.prog 28:=Cal.c
instance:Cal Tryz.prog 29:=Cal.c
instance:Cal Tryz.prog 30:=Cal.c
instance:Cal Tryz.prog 31:=Cal.c
instance:Cal Tryz.prog 32:=Cal.c
instance:Cal Tryz.prog 33:=Cal.c
instance:Cal Tryz.prog 34:=Cal.c
instance:Cal Tryz.prog 35:=Cal.c
instance:Cal Tryz.prog 36:=Cal.c
instance:Cal Tryz.prog 37:=Cal.c
instance:Cal Tryz.prog 38:=Cal.c
instance:Cal Tryz.prog 39:=Cal.c
instance:Cal Tryz.prog 40:=Cal.c
instance:Cal Tryz.prog 41:=Cal.c
instance:Cal Tryz.prog 42:=Cal.c
instance:Cal Tryz.prog 43:=Cal.c
instance:Cal Tryz.prog 44:=Cal.c
instance:Cal Tryz.prog 45:=Cal.c
instance:Cal Tryz.prog 46:=Cal.c
instance:Cal Tryz.prog 47:=Cal.c
instance:Cal Tryz.prog 48:=Cal.c
instance:Cal Tryz.prog 49:=Cal.c
instance:Cal Tryz.prog 50:=Cal.c
instance:Cal Tryz.prog 51:=Cal.c
instance:Cal Tryz.prog 52:=Cal.c
instance:Cal Tryz.prog 53:=Cal.c
instance:Cal Tryz.prog 54:=Cal.c
instance:Cal Tryz.prog 55:=Cal.c
instance:Cal Tryz.prog 56:=Cal.c
instance:Cal Tryz.prog 57:=Cal.c
instance:Cal Tryz.prog 58:=Cal.c
instance:Cal Tryz.prog 59:=Cal.c
instance:Cal Tryz.prog 60:=Cal.c
instance:Cal Tryz.prog 61:=Cal.c
instance:Cal Tryz.prog 62:=Cal.c
instance:Cal Tryz.prog 63:=Cal.c
instance:Cal Tryz.prog 64:=Cal.c
instance:Cal Tryz.prog 65:=Cal.c
instance:Cal Tryz.prog 66:=Cal.c
instance:Cal Tryz.prog 67:=Cal.c
instance:Cal Tryz.prog 68:=Cal.c
instance:Cal Tryz.prog 69:=Cal.c
instance:Cal Tryz.prog 70:=Cal.c
instance:Cal Tryz.prog 71:=Cal.c
instance:Cal Tryz.prog 72:=Cal.c
instance:Cal Tryz.prog 73:=Cal.c
instance:Cal Tryz.prog 74:=Cal.c
instance:Cal Tryz.prog 75:=Cal.c
instance:Cal Tryz.prog 76:=Cal.c
instance:Cal Tryz.prog 77:=Cal.c
instance:Cal Tryz.prog 78:=Cal.c
instance:Cal Tryz.prog 79:=Cal.c
instance:Cal Tryz.prog 80:=Cal.c
instance:Cal Tryz.prog 81:=Cal.c
instance:Cal Tryz.prog 82:=Cal.c
instance:Cal Tryz.prog 83:=Cal.c
instance:Cal Tryz.prog 84:=Cal.c
instance:Cal Tryz.prog 85:=Cal.c
instance:Cal Tryz.prog 86:=Cal.c
instance:Cal Tryz.prog 87:=Cal.c
instance:Cal Tryz.prog 88:=Cal.c
instance:Cal Tryz.prog 89:=Cal.c
instance:Cal Tryz.prog 90:=Cal.c
instance:Cal Tryz.prog 91:=Cal.c
instance:Cal Tryz.prog 92:=Cal.c
instance:Cal Tryz.prog 93:=Cal.c
instance:Cal Tryz.prog 94:=Cal.c
instance:Cal Tryz.prog 95:=Cal.c
instance:Cal Tryz.prog 96:=Cal.c
instance:Cal Tryz.prog 98:=Cal.c
instance:Cal Tryz.prog 99:=Cal.c
instance:Cal Tryz.prog 100:=Cal.c
instance:Cal Tryz.prog 101:=Cal.c
instance:Cal Tryz.prog 102:=Cal.c
instance:Cal Tryz.prog 103:=Cal.c
instance:Cal Tryz.prog 104:=Cal.c
instance:Cal Tryz.prog 105:=Cal.c
instance:Cal Tryz.prog 106:=Cal.c
instance:Cal Tryz.prog 107:=Cal.c
instance:Cal Tryz.prog 108:=Cal.c
instance:Cal Tryz.prog 109:=Cal.c
instance:Cal Tryz.prog 110:=Cal.c
instance:Cal Tryz.prog 111:=Cal.c
instance:Cal Tryz.prog 112:=Cal.c
instance:Cal Tryz.prog 113:=Cal.c
instance:Cal Tryz.prog 114:=Cal.c
instance:Cal Tryz.prog 115:=Cal.c
instance:Cal Tryz.prog 116:=Cal.c
instance:Cal Tryz.prog 117:=Cal.c
instance:Cal Tryz.prog 118:=Cal.c
instance:Cal Tryz.prog 119:=Cal.c
instance:Cal Tryz.prog 120:=Cal.c
instance:Cal Tryz.prog 121:=Cal.c
instance:Cal Tryz.prog 122:=Cal.c
instance:Cal Tryz.prog 123:=Cal.c
instance:Cal Tryz.prog 124:=Cal.c
instance:Cal Tryz.prog 125:=Cal.c
instance:Cal Tryz.prog 134:=Cal.c
instance:Cal Tryz.prog 135:=Cal.c
instance:Cal Tryz.prog 136:=Cal.c
instance:Cal Tryz.prog 137:=Cal.c
instance:Cal Tryz.prog 138:=Cal.c
instance:Cal Tryz.prog 139:=Cal.c
instance:Cal Tryz.prog 140:=Cal.c
instance:Cal Tryz.prog 141:=Cal.c
instance:Cal Tryz.prog 144:=Cal.c
instance:Cal Tryz.prog 145:=Cal.c
instance:Cal Tryz.prog 146:=Cal.c
instance:Cal Tryz.prog 147:=Cal.c
instance:Cal Tryz.prog 148:=Cal.c
instance:Cal Tryz.prog 152:=Cal.c
instance:Cal Tryz.prog 154:=Cal.c
instance:Cal Tryz.prog 155:=Cal.c
instance:Cal Tryz.prog 156:=Cal.c
instance:Cal Tryz.prog 164:=Cal.c
instance:Cal Tryz.prog 165:=Cal.c
instance:Cal Tryz.prog 166:=Cal.c
instance:Cal Tryz.prog 176:=Cal.c
end Sx
end
end Go.Proofs.YtbhblpnjhkddbaaGreat
