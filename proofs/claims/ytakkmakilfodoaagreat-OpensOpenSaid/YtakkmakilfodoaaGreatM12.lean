/- Part 12 of the proof: SxT, SxU, Mem, Grow, Shelf -/
import Derived.Test.YtakkmakilfodoaaGreatM09
import Derived.Test.YtakkmakilfodoaaGreatM07
import Derived.Test.YtakkmakilfodoaaGreatM11
import Derived.Test.YtakkmakilfodoaaGreatProg
import Derived.WalkKit
import Derived.Lib.Hide
import Derived.Deep.Draws
import Derived.Laws.Rows
import Derived.Lib.AppendZeros
import Derived.Lib.AppendZerosOnto
import Derived.Lib.Walk
import Derived.Lib.SliceRun
import Derived.OwnWalk
import Derived.Shelf.Small.Bits
import Derived.Shelf.Strconv.Itoa0
import Derived.Shelf.Bits.Mul64
set_option linter.unusedSimpArgs false
set_option linter.unusedVariables false
/- What the table of types says, and which functions are entered: printed by genty.py for this seat. -/
namespace Go.Proofs.YtakkmakilfodoaaGreat
open Go Go.RowKit
namespace Sx
instance : Mix Tryz.prog := ⟨by kernel_rfl⟩
instance : OnT Tryz.prog 3 := ⟨fun _ => by kernel_rfl, fun _ => by kernel_rfl⟩
instance : InT Tryz.prog 3 .i64 := ⟨by kernel_rfl⟩
instance : OnT Tryz.prog 5 := ⟨fun _ => by kernel_rfl, fun _ => by kernel_rfl⟩
instance : InT Tryz.prog 5 .u8 := ⟨by kernel_rfl⟩
instance : OnT Tryz.prog 9 := ⟨fun _ => by kernel_rfl, fun _ => by kernel_rfl⟩
instance : StrT Tryz.prog 9 := ⟨by kernel_rfl⟩
instance : OnT Tryz.prog 22 := ⟨fun _ => by kernel_rfl, fun _ => by kernel_rfl⟩
instance : InT Tryz.prog 22 .u64 := ⟨by kernel_rfl⟩
instance : AgT Tryz.prog 24 4 := ⟨fun _ => by kernel_rfl, fun _ => by kernel_rfl⟩
instance : ZeT Tryz.prog 24 (.agg ([.int .u64 ((wd 0 0 : Nat) : Int), .int .u64 ((wd 1 0 : Nat) : Int), .int .u64 ((wd 2 0 : Nat) : Int), .int .u64 ((wd 3 0 : Nat) : Int)]).toArray) := ⟨fun _ => by kernel_rfl⟩
instance : ArT Tryz.prog 24 4 22 1 := ⟨by kernel_rfl, fun _ => by kernel_rfl⟩
instance : AgT Tryz.prog 26 16 := ⟨fun _ => by kernel_rfl, fun _ => by kernel_rfl⟩
instance : ZeT Tryz.prog 26 (.agg ([.int .u64 ((wd 0 0 : Nat) : Int), .int .u64 ((wd 1 0 : Nat) : Int), .int .u64 ((wd 2 0 : Nat) : Int), .int .u64 ((wd 3 0 : Nat) : Int), .int .u64 ((wd 0 0 : Nat) : Int), .int .u64 ((wd 1 0 : Nat) : Int), .int .u64 ((wd 2 0 : Nat) : Int), .int .u64 ((wd 3 0 : Nat) : Int), .int .u64 ((wd 0 0 : Nat) : Int), .int .u64 ((wd 1 0 : Nat) : Int), .int .u64 ((wd 2 0 : Nat) : Int), .int .u64 ((wd 3 0 : Nat) : Int), .int .u64 ((wd 0 0 : Nat) : Int), .int .u64 ((wd 1 0 : Nat) : Int), .int .u64 ((wd 2 0 : Nat) : Int), .int .u64 ((wd 3 0 : Nat) : Int)]).toArray) := ⟨fun _ => by kernel_rfl⟩
instance : FlT Tryz.prog 26 0 0 := ⟨fun _ _ => by kernel_rfl⟩
instance : FlT Tryz.prog 26 1 4 := ⟨fun _ _ => by kernel_rfl⟩
instance : FlT Tryz.prog 26 2 8 := ⟨fun _ _ => by kernel_rfl⟩
instance : FlT Tryz.prog 26 3 12 := ⟨fun _ _ => by kernel_rfl⟩
instance : OnT Tryz.prog 27 := ⟨fun _ => by kernel_rfl, fun _ => by kernel_rfl⟩
instance : SlT Tryz.prog 27 58 8 := ⟨by kernel_rfl, fun _ => by kernel_rfl⟩
instance : AgT Tryz.prog 29 19 := ⟨fun _ => by kernel_rfl, fun _ => by kernel_rfl⟩
instance : ZeT Tryz.prog 29 (.agg ([.int .u64 ((wd 0 0 : Nat) : Int), .int .u64 ((wd 1 0 : Nat) : Int), .int .u64 ((wd 2 0 : Nat) : Int), .int .u64 ((wd 3 0 : Nat) : Int), .int .u64 ((wd 0 0 : Nat) : Int), .int .u64 ((wd 1 0 : Nat) : Int), .int .u64 ((wd 2 0 : Nat) : Int), .int .u64 ((wd 3 0 : Nat) : Int), .int .u64 ((wd 0 0 : Nat) : Int), .int .u64 ((wd 1 0 : Nat) : Int), .int .u64 ((wd 2 0 : Nat) : Int), .int .u64 ((wd 3 0 : Nat) : Int), .int .u64 ((wd 0 0 : Nat) : Int), .int .u64 ((wd 1 0 : Nat) : Int), .int .u64 ((wd 2 0 : Nat) : Int), .int .u64 ((wd 3 0 : Nat) : Int), .int .i64 0, .int .i64 0, .slice none 0 0]).toArray) := ⟨fun _ => by kernel_rfl⟩
instance : BuT Tryz.prog 29 [(0, 16), (16, 1), (17, 1), (18, 1)] ([.int .u64 ((wd 0 0 : Nat) : Int), .int .u64 ((wd 1 0 : Nat) : Int), .int .u64 ((wd 2 0 : Nat) : Int), .int .u64 ((wd 3 0 : Nat) : Int), .int .u64 ((wd 0 0 : Nat) : Int), .int .u64 ((wd 1 0 : Nat) : Int), .int .u64 ((wd 2 0 : Nat) : Int), .int .u64 ((wd 3 0 : Nat) : Int), .int .u64 ((wd 0 0 : Nat) : Int), .int .u64 ((wd 1 0 : Nat) : Int), .int .u64 ((wd 2 0 : Nat) : Int), .int .u64 ((wd 3 0 : Nat) : Int), .int .u64 ((wd 0 0 : Nat) : Int), .int .u64 ((wd 1 0 : Nat) : Int), .int .u64 ((wd 2 0 : Nat) : Int), .int .u64 ((wd 3 0 : Nat) : Int), .int .i64 0, .int .i64 0, .slice none 0 0]) := ⟨fun _ => by kernel_rfl, by kernel_rfl, fun _ => by kernel_rfl⟩
instance : FlT Tryz.prog 29 0 0 := ⟨fun _ _ => by kernel_rfl⟩
instance : FlT Tryz.prog 29 1 16 := ⟨fun _ _ => by kernel_rfl⟩
instance : FlT Tryz.prog 29 2 17 := ⟨fun _ _ => by kernel_rfl⟩
instance : FlT Tryz.prog 29 3 18 := ⟨fun _ _ => by kernel_rfl⟩
instance : OnT Tryz.prog 30 := ⟨fun _ => by kernel_rfl, fun _ => by kernel_rfl⟩
instance : SlT Tryz.prog 30 24 4 := ⟨by kernel_rfl, fun _ => by kernel_rfl⟩
instance : OnT Tryz.prog 31 := ⟨fun _ => by kernel_rfl, fun _ => by kernel_rfl⟩
instance : SlT Tryz.prog 31 42 8 := ⟨by kernel_rfl, fun _ => by kernel_rfl⟩
instance : AgT Tryz.prog 33 8 := ⟨fun _ => by kernel_rfl, fun _ => by kernel_rfl⟩
instance : AgT Tryz.prog 35 13 := ⟨fun _ => by kernel_rfl, fun _ => by kernel_rfl⟩
instance : ZeT Tryz.prog 35 (.agg ([.int .u64 0, .int .u8 0, .slice none 0 0, .slice none 0 0, .slice none 0 0, .int .u64 ((wd 0 0 : Nat) : Int), .int .u64 ((wd 1 0 : Nat) : Int), .int .u64 ((wd 2 0 : Nat) : Int), .int .u64 ((wd 3 0 : Nat) : Int), .int .u64 ((wd 0 0 : Nat) : Int), .int .u64 ((wd 1 0 : Nat) : Int), .int .u64 ((wd 2 0 : Nat) : Int), .int .u64 ((wd 3 0 : Nat) : Int)]).toArray) := ⟨fun _ => by kernel_rfl⟩
instance : BuT Tryz.prog 35 [(0, 1), (1, 1), (2, 1), (3, 1), (4, 1), (5, 8)] ([.int .u64 0, .int .u8 0, .slice none 0 0, .slice none 0 0, .slice none 0 0, .int .u64 ((wd 0 0 : Nat) : Int), .int .u64 ((wd 1 0 : Nat) : Int), .int .u64 ((wd 2 0 : Nat) : Int), .int .u64 ((wd 3 0 : Nat) : Int), .int .u64 ((wd 0 0 : Nat) : Int), .int .u64 ((wd 1 0 : Nat) : Int), .int .u64 ((wd 2 0 : Nat) : Int), .int .u64 ((wd 3 0 : Nat) : Int)]) := ⟨fun _ => by kernel_rfl, by kernel_rfl, fun _ => by kernel_rfl⟩
instance : FlT Tryz.prog 35 0 0 := ⟨fun _ _ => by kernel_rfl⟩
instance : FlT Tryz.prog 35 1 1 := ⟨fun _ _ => by kernel_rfl⟩
instance : FlT Tryz.prog 35 2 2 := ⟨fun _ _ => by kernel_rfl⟩
instance : FlT Tryz.prog 35 3 3 := ⟨fun _ _ => by kernel_rfl⟩
instance : FlT Tryz.prog 35 4 4 := ⟨fun _ _ => by kernel_rfl⟩
instance : FlT Tryz.prog 35 5 5 := ⟨fun _ _ => by kernel_rfl⟩
instance : OnT Tryz.prog 36 := ⟨fun _ => by kernel_rfl, fun _ => by kernel_rfl⟩
instance : SlT Tryz.prog 36 44 15 := ⟨by kernel_rfl, fun _ => by kernel_rfl⟩
instance : AgT Tryz.prog 38 20 := ⟨fun _ => by kernel_rfl, fun _ => by kernel_rfl⟩
instance : FlT Tryz.prog 38 0 0 := ⟨fun _ _ => by kernel_rfl⟩
instance : FlT Tryz.prog 38 1 13 := ⟨fun _ _ => by kernel_rfl⟩
instance : FlT Tryz.prog 38 2 14 := ⟨fun _ _ => by kernel_rfl⟩
instance : FlT Tryz.prog 38 3 18 := ⟨fun _ _ => by kernel_rfl⟩
instance : FlT Tryz.prog 38 4 19 := ⟨fun _ _ => by kernel_rfl⟩
instance : AgT Tryz.prog 42 8 := ⟨fun _ => by kernel_rfl, fun _ => by kernel_rfl⟩
instance : ZeT Tryz.prog 42 (.agg ([.int .u64 ((wd 0 0 : Nat) : Int), .int .u64 ((wd 1 0 : Nat) : Int), .int .u64 ((wd 2 0 : Nat) : Int), .int .u64 ((wd 3 0 : Nat) : Int), .int .u64 ((wd 0 0 : Nat) : Int), .int .u64 ((wd 1 0 : Nat) : Int), .int .u64 ((wd 2 0 : Nat) : Int), .int .u64 ((wd 3 0 : Nat) : Int)]).toArray) := ⟨fun _ => by kernel_rfl⟩
instance : BuT Tryz.prog 42 [(0, 4), (4, 4)] ([.int .u64 ((wd 0 0 : Nat) : Int), .int .u64 ((wd 1 0 : Nat) : Int), .int .u64 ((wd 2 0 : Nat) : Int), .int .u64 ((wd 3 0 : Nat) : Int), .int .u64 ((wd 0 0 : Nat) : Int), .int .u64 ((wd 1 0 : Nat) : Int), .int .u64 ((wd 2 0 : Nat) : Int), .int .u64 ((wd 3 0 : Nat) : Int)]) := ⟨fun _ => by kernel_rfl, by kernel_rfl, fun _ => by kernel_rfl⟩
instance : FlT Tryz.prog 42 0 0 := ⟨fun _ _ => by kernel_rfl⟩
instance : FlT Tryz.prog 42 1 4 := ⟨fun _ _ => by kernel_rfl⟩
instance : AgT Tryz.prog 44 15 := ⟨fun _ => by kernel_rfl, fun _ => by kernel_rfl⟩
instance : ZeT Tryz.prog 44 (.agg ([.int .u64 0, .int .u8 0, .int .u8 0, .int .u64 ((wd 0 0 : Nat) : Int), .int .u64 ((wd 1 0 : Nat) : Int), .int .u64 ((wd 2 0 : Nat) : Int), .int .u64 ((wd 3 0 : Nat) : Int), .int .u64 ((wd 0 0 : Nat) : Int), .int .u64 ((wd 1 0 : Nat) : Int), .int .u64 ((wd 2 0 : Nat) : Int), .int .u64 ((wd 3 0 : Nat) : Int), .int .u64 ((wd 0 0 : Nat) : Int), .int .u64 ((wd 1 0 : Nat) : Int), .int .u64 ((wd 2 0 : Nat) : Int), .int .u64 ((wd 3 0 : Nat) : Int)]).toArray) := ⟨fun _ => by kernel_rfl⟩
instance : BuT Tryz.prog 44 [(0, 1), (1, 1), (2, 1), (3, 4), (7, 8)] ([.int .u64 0, .int .u8 0, .int .u8 0, .int .u64 ((wd 0 0 : Nat) : Int), .int .u64 ((wd 1 0 : Nat) : Int), .int .u64 ((wd 2 0 : Nat) : Int), .int .u64 ((wd 3 0 : Nat) : Int), .int .u64 ((wd 0 0 : Nat) : Int), .int .u64 ((wd 1 0 : Nat) : Int), .int .u64 ((wd 2 0 : Nat) : Int), .int .u64 ((wd 3 0 : Nat) : Int), .int .u64 ((wd 0 0 : Nat) : Int), .int .u64 ((wd 1 0 : Nat) : Int), .int .u64 ((wd 2 0 : Nat) : Int), .int .u64 ((wd 3 0 : Nat) : Int)]) := ⟨fun _ => by kernel_rfl, by kernel_rfl, fun _ => by kernel_rfl⟩
instance : FlT Tryz.prog 44 0 0 := ⟨fun _ _ => by kernel_rfl⟩
instance : FlT Tryz.prog 44 1 1 := ⟨fun _ _ => by kernel_rfl⟩
instance : FlT Tryz.prog 44 2 2 := ⟨fun _ _ => by kernel_rfl⟩
instance : FlT Tryz.prog 44 3 3 := ⟨fun _ _ => by kernel_rfl⟩
instance : FlT Tryz.prog 44 4 7 := ⟨fun _ _ => by kernel_rfl⟩
instance : OnT Tryz.prog 45 := ⟨fun _ => by kernel_rfl, fun _ => by kernel_rfl⟩
instance : ZeT Tryz.prog 45 (.int .i64 0) := ⟨fun _ => by kernel_rfl⟩
instance : AgT Tryz.prog 58 8 := ⟨fun _ => by kernel_rfl, fun _ => by kernel_rfl⟩
instance : ZeT Tryz.prog 58 (.agg ([.int .u64 ((wd 0 0 : Nat) : Int), .int .u64 ((wd 1 0 : Nat) : Int), .int .u64 ((wd 2 0 : Nat) : Int), .int .u64 ((wd 3 0 : Nat) : Int), .int .u64 ((wd 0 0 : Nat) : Int), .int .u64 ((wd 1 0 : Nat) : Int), .int .u64 ((wd 2 0 : Nat) : Int), .int .u64 ((wd 3 0 : Nat) : Int)]).toArray) := ⟨fun _ => by kernel_rfl⟩
instance : BuT Tryz.prog 58 [(0, 4), (4, 4)] ([.int .u64 ((wd 0 0 : Nat) : Int), .int .u64 ((wd 1 0 : Nat) : Int), .int .u64 ((wd 2 0 : Nat) : Int), .int .u64 ((wd 3 0 : Nat) : Int), .int .u64 ((wd 0 0 : Nat) : Int), .int .u64 ((wd 1 0 : Nat) : Int), .int .u64 ((wd 2 0 : Nat) : Int), .int .u64 ((wd 3 0 : Nat) : Int)]) := ⟨fun _ => by kernel_rfl, by kernel_rfl, fun _ => by kernel_rfl⟩
instance : FlT Tryz.prog 58 0 0 := ⟨fun _ _ => by kernel_rfl⟩
instance : FlT Tryz.prog 58 1 4 := ⟨fun _ _ => by kernel_rfl⟩
instance : AgT Tryz.prog 64 32 := ⟨fun _ => by kernel_rfl, fun _ => by kernel_rfl⟩
instance : ZeT Tryz.prog 64 (.agg (List.replicate 32 (.int .u8 0)).toArray) := ⟨fun _ => by kernel_rfl⟩
instance : ArT Tryz.prog 64 32 5 1 := ⟨by kernel_rfl, fun _ => by kernel_rfl⟩
instance : OnT Tryz.prog 66 := ⟨fun _ => by kernel_rfl, fun _ => by kernel_rfl⟩
instance : SlT Tryz.prog 66 5 1 := ⟨by kernel_rfl, fun _ => by kernel_rfl⟩
instance : AgT Tryz.prog 73 2 := ⟨fun _ => by kernel_rfl, fun _ => by kernel_rfl⟩
instance : ZeT Tryz.prog 73 (.agg ([.int .u64 0, .int .u64 0]).toArray) := ⟨fun _ => by kernel_rfl⟩
instance : ArT Tryz.prog 73 2 22 1 := ⟨by kernel_rfl, fun _ => by kernel_rfl⟩
instance : OnT Tryz.prog 86 := ⟨fun _ => by kernel_rfl, fun _ => by kernel_rfl⟩
instance : ZeT Tryz.prog 86 (.slice none 0 0) := ⟨fun _ => by kernel_rfl⟩
instance : SlT Tryz.prog 86 66 1 := ⟨by kernel_rfl, fun _ => by kernel_rfl⟩
instance : SlT Tryz.prog 94 22 1 := ⟨by kernel_rfl, fun _ => by kernel_rfl⟩
instance : AgT Tryz.prog 96 17 := ⟨fun _ => by kernel_rfl, fun _ => by kernel_rfl⟩
instance : ZeT Tryz.prog 96 (.agg ([.int .u64 ((wd 0 0 : Nat) : Int), .int .u64 ((wd 1 0 : Nat) : Int), .int .u64 ((wd 2 0 : Nat) : Int), .int .u64 ((wd 3 0 : Nat) : Int), .int .u64 ((wd 0 0 : Nat) : Int), .int .u64 ((wd 1 0 : Nat) : Int), .int .u64 ((wd 2 0 : Nat) : Int), .int .u64 ((wd 3 0 : Nat) : Int), .int .u64 ((wd 0 0 : Nat) : Int), .int .u64 ((wd 1 0 : Nat) : Int), .int .u64 ((wd 2 0 : Nat) : Int), .int .u64 ((wd 3 0 : Nat) : Int), .int .u64 ((wd 0 0 : Nat) : Int), .int .u64 ((wd 1 0 : Nat) : Int), .int .u64 ((wd 2 0 : Nat) : Int), .int .u64 ((wd 3 0 : Nat) : Int), .string ⟨#[]⟩]).toArray) := ⟨fun _ => by kernel_rfl⟩
instance : BuT Tryz.prog 96 [(0, 16), (16, 1)] ([.int .u64 ((wd 0 0 : Nat) : Int), .int .u64 ((wd 1 0 : Nat) : Int), .int .u64 ((wd 2 0 : Nat) : Int), .int .u64 ((wd 3 0 : Nat) : Int), .int .u64 ((wd 0 0 : Nat) : Int), .int .u64 ((wd 1 0 : Nat) : Int), .int .u64 ((wd 2 0 : Nat) : Int), .int .u64 ((wd 3 0 : Nat) : Int), .int .u64 ((wd 0 0 : Nat) : Int), .int .u64 ((wd 1 0 : Nat) : Int), .int .u64 ((wd 2 0 : Nat) : Int), .int .u64 ((wd 3 0 : Nat) : Int), .int .u64 ((wd 0 0 : Nat) : Int), .int .u64 ((wd 1 0 : Nat) : Int), .int .u64 ((wd 2 0 : Nat) : Int), .int .u64 ((wd 3 0 : Nat) : Int), .string ⟨#[]⟩]) := ⟨fun _ => by kernel_rfl, by kernel_rfl, fun _ => by kernel_rfl⟩
instance : FlT Tryz.prog 96 0 0 := ⟨fun _ _ => by kernel_rfl⟩
instance : FlT Tryz.prog 96 1 16 := ⟨fun _ _ => by kernel_rfl⟩
instance : ZeT Tryz.prog 106 (.agg ([.int .u64 ((wd 0 0 : Nat) : Int), .int .u64 ((wd 1 0 : Nat) : Int), .int .u64 ((wd 2 0 : Nat) : Int), .int .u64 ((wd 3 0 : Nat) : Int), .int .u64 ((wd 0 0 : Nat) : Int), .int .u64 ((wd 1 0 : Nat) : Int), .int .u64 ((wd 2 0 : Nat) : Int), .int .u64 ((wd 3 0 : Nat) : Int), .int .u64 ((wd 0 0 : Nat) : Int), .int .u64 ((wd 1 0 : Nat) : Int), .int .u64 ((wd 2 0 : Nat) : Int), .int .u64 ((wd 3 0 : Nat) : Int), .int .u64 ((wd 0 0 : Nat) : Int), .int .u64 ((wd 1 0 : Nat) : Int), .int .u64 ((wd 2 0 : Nat) : Int), .int .u64 ((wd 3 0 : Nat) : Int), .int .u64 ((wd 0 0 : Nat) : Int), .int .u64 ((wd 1 0 : Nat) : Int), .int .u64 ((wd 2 0 : Nat) : Int), .int .u64 ((wd 3 0 : Nat) : Int), .int .u64 ((wd 0 0 : Nat) : Int), .int .u64 ((wd 1 0 : Nat) : Int), .int .u64 ((wd 2 0 : Nat) : Int), .int .u64 ((wd 3 0 : Nat) : Int)]).toArray) := ⟨fun _ => by kernel_rfl⟩
instance : ArT Tryz.prog 106 6 24 4 := ⟨by kernel_rfl, fun _ => by kernel_rfl⟩
instance : ZeT Tryz.prog 107 (.agg ([.int .u64 ((wd 0 0 : Nat) : Int), .int .u64 ((wd 1 0 : Nat) : Int), .int .u64 ((wd 2 0 : Nat) : Int), .int .u64 ((wd 3 0 : Nat) : Int), .int .u64 ((wd 0 0 : Nat) : Int), .int .u64 ((wd 1 0 : Nat) : Int), .int .u64 ((wd 2 0 : Nat) : Int), .int .u64 ((wd 3 0 : Nat) : Int), .int .u64 ((wd 0 0 : Nat) : Int), .int .u64 ((wd 1 0 : Nat) : Int), .int .u64 ((wd 2 0 : Nat) : Int), .int .u64 ((wd 3 0 : Nat) : Int), .int .u64 ((wd 0 0 : Nat) : Int), .int .u64 ((wd 1 0 : Nat) : Int), .int .u64 ((wd 2 0 : Nat) : Int), .int .u64 ((wd 3 0 : Nat) : Int)]).toArray) := ⟨fun _ => by kernel_rfl⟩
instance : ArT Tryz.prog 107 4 24 4 := ⟨by kernel_rfl, fun _ => by kernel_rfl⟩
instance : OnT Tryz.prog 113 := ⟨fun _ => by kernel_rfl, fun _ => by kernel_rfl⟩
instance : BuT Tryz.prog 115 [(0, 1)] ([.nilFunc]) := ⟨fun _ => by kernel_rfl, by kernel_rfl, fun _ => by kernel_rfl⟩
instance : FlT Tryz.prog 115 0 0 := ⟨fun _ _ => by kernel_rfl⟩
instance : OnT Tryz.prog 122 := ⟨fun _ => by kernel_rfl, fun _ => by kernel_rfl⟩
instance : InT Tryz.prog 122 .u32 := ⟨by kernel_rfl⟩
instance : AgT Tryz.prog 123 8 := ⟨fun _ => by kernel_rfl, fun _ => by kernel_rfl⟩
instance : ZeT Tryz.prog 123 (.agg ([.int .u32 0, .int .u32 0, .int .u32 0, .int .u32 0, .int .u32 0, .int .u32 0, .int .u32 0, .int .u32 0]).toArray) := ⟨fun _ => by kernel_rfl⟩
instance : ArT Tryz.prog 123 8 122 1 := ⟨by kernel_rfl, fun _ => by kernel_rfl⟩
instance : AgT Tryz.prog 124 8 := ⟨fun _ => by kernel_rfl, fun _ => by kernel_rfl⟩
instance : ZeT Tryz.prog 124 (.agg ([.int .u32 0, .int .u32 0, .int .u32 0, .int .u32 0, .int .u32 0, .int .u32 0, .int .u32 0, .int .u32 0]).toArray) := ⟨fun _ => by kernel_rfl⟩
instance : ArT Tryz.prog 124 8 122 1 := ⟨by kernel_rfl, fun _ => by kernel_rfl⟩
instance : AgT Tryz.prog 126 64 := ⟨fun _ => by kernel_rfl, fun _ => by kernel_rfl⟩
instance : ArT Tryz.prog 126 64 5 1 := ⟨by kernel_rfl, fun _ => by kernel_rfl⟩
instance : AgT Tryz.prog 128 74 := ⟨fun _ => by kernel_rfl, fun _ => by kernel_rfl⟩
instance : ZeT Tryz.prog 128 (.agg (([.int .i64 0, .int .u32 0, .int .u32 0, .int .u32 0, .int .u32 0, .int .u32 0, .int .u32 0, .int .u32 0, .int .u32 0] : List Value) ++ (List.replicate 64 (.int .u8 0) : List Value) ++ ([.int .u64 0] : List Value)).toArray) := ⟨fun _ => by kernel_rfl⟩
instance : BuT Tryz.prog 128 [(0, 1), (1, 8), (9, 64), (73, 1)] (([.int .i64 0, .int .u32 0, .int .u32 0, .int .u32 0, .int .u32 0, .int .u32 0, .int .u32 0, .int .u32 0, .int .u32 0] : List Value) ++ (List.replicate 64 (.int .u8 0) : List Value) ++ ([.int .u64 0] : List Value)) := ⟨fun _ => by kernel_rfl, by kernel_rfl, fun _ => by kernel_rfl⟩
instance : FlT Tryz.prog 128 0 0 := ⟨fun _ _ => by kernel_rfl⟩
instance : FlT Tryz.prog 128 1 1 := ⟨fun _ _ => by kernel_rfl⟩
instance : FlT Tryz.prog 128 2 9 := ⟨fun _ _ => by kernel_rfl⟩
instance : FlT Tryz.prog 128 3 73 := ⟨fun _ _ => by kernel_rfl⟩
instance : InT Tryz.prog 135 .u64 := ⟨by kernel_rfl⟩
instance : SlT Tryz.prog 137 122 1 := ⟨by kernel_rfl, fun _ => by kernel_rfl⟩
instance : AgT Tryz.prog 160 16 := ⟨fun _ => by kernel_rfl, fun _ => by kernel_rfl⟩
instance : ZeT Tryz.prog 160 (.agg (List.replicate 16 (.int .u64 0)).toArray) := ⟨fun _ => by kernel_rfl⟩
instance : ArT Tryz.prog 160 16 22 1 := ⟨by kernel_rfl, fun _ => by kernel_rfl⟩
instance : AgT Tryz.prog 162 64 := ⟨fun _ => by kernel_rfl, fun _ => by kernel_rfl⟩
instance : ZeT Tryz.prog 162 (.agg (List.replicate 64 (.int .u32 0)).toArray) := ⟨fun _ => by kernel_rfl⟩
instance : ArT Tryz.prog 162 64 122 1 := ⟨by kernel_rfl, fun _ => by kernel_rfl⟩
instance : ZeT Tryz.prog 177 (.agg (List.replicate 32 (.int .u64 0)).toArray) := ⟨fun _ => by kernel_rfl⟩
instance : ArT Tryz.prog 177 32 22 1 := ⟨by kernel_rfl, fun _ => by kernel_rfl⟩
instance : SlT Tryz.prog 179 3 1 := ⟨by kernel_rfl, fun _ => by kernel_rfl⟩
instance : ElT Tryz.prog 3 8 ([.int .i64 0]) := ⟨(Tryz.prog.info? 3).getD default, by kernel_rfl, by kernel_rfl, by kernel_rfl, .int .i64 0, by kernel_rfl, by kernel_rfl⟩
instance : ElT Tryz.prog 5 1 ([.int .u8 0]) := ⟨(Tryz.prog.info? 5).getD default, by kernel_rfl, by kernel_rfl, by kernel_rfl, .int .u8 0, by kernel_rfl, by kernel_rfl⟩
instance : ElT Tryz.prog 22 8 ([.int .u64 0]) := ⟨(Tryz.prog.info? 22).getD default, by kernel_rfl, by kernel_rfl, by kernel_rfl, .int .u64 0, by kernel_rfl, by kernel_rfl⟩
instance : ElT Tryz.prog 24 32 ([.int .u64 ((wd 0 0 : Nat) : Int), .int .u64 ((wd 1 0 : Nat) : Int), .int .u64 ((wd 2 0 : Nat) : Int), .int .u64 ((wd 3 0 : Nat) : Int)]) := ⟨(Tryz.prog.info? 24).getD default, by kernel_rfl, by kernel_rfl, by kernel_rfl, .agg ([.int .u64 ((wd 0 0 : Nat) : Int), .int .u64 ((wd 1 0 : Nat) : Int), .int .u64 ((wd 2 0 : Nat) : Int), .int .u64 ((wd 3 0 : Nat) : Int)]).toArray, by kernel_rfl, by kernel_rfl⟩
instance : ElT Tryz.prog 42 64 ([.int .u64 ((wd 0 0 : Nat) : Int), .int .u64 ((wd 1 0 : Nat) : Int), .int .u64 ((wd 2 0 : Nat) : Int), .int .u64 ((wd 3 0 : Nat) : Int), .int .u64 ((wd 0 0 : Nat) : Int), .int .u64 ((wd 1 0 : Nat) : Int), .int .u64 ((wd 2 0 : Nat) : Int), .int .u64 ((wd 3 0 : Nat) : Int)]) := ⟨(Tryz.prog.info? 42).getD default, by kernel_rfl, by kernel_rfl, by kernel_rfl, .agg ([.int .u64 ((wd 0 0 : Nat) : Int), .int .u64 ((wd 1 0 : Nat) : Int), .int .u64 ((wd 2 0 : Nat) : Int), .int .u64 ((wd 3 0 : Nat) : Int), .int .u64 ((wd 0 0 : Nat) : Int), .int .u64 ((wd 1 0 : Nat) : Int), .int .u64 ((wd 2 0 : Nat) : Int), .int .u64 ((wd 3 0 : Nat) : Int)]).toArray, by kernel_rfl, by kernel_rfl⟩
instance : ElT Tryz.prog 58 64 ([.int .u64 ((wd 0 0 : Nat) : Int), .int .u64 ((wd 1 0 : Nat) : Int), .int .u64 ((wd 2 0 : Nat) : Int), .int .u64 ((wd 3 0 : Nat) : Int), .int .u64 ((wd 0 0 : Nat) : Int), .int .u64 ((wd 1 0 : Nat) : Int), .int .u64 ((wd 2 0 : Nat) : Int), .int .u64 ((wd 3 0 : Nat) : Int)]) := ⟨(Tryz.prog.info? 58).getD default, by kernel_rfl, by kernel_rfl, by kernel_rfl, .agg ([.int .u64 ((wd 0 0 : Nat) : Int), .int .u64 ((wd 1 0 : Nat) : Int), .int .u64 ((wd 2 0 : Nat) : Int), .int .u64 ((wd 3 0 : Nat) : Int), .int .u64 ((wd 0 0 : Nat) : Int), .int .u64 ((wd 1 0 : Nat) : Int), .int .u64 ((wd 2 0 : Nat) : Int), .int .u64 ((wd 3 0 : Nat) : Int)]).toArray, by kernel_rfl, by kernel_rfl⟩
instance : ElT Tryz.prog 66 24 ([.slice none 0 0]) := ⟨(Tryz.prog.info? 66).getD default, by kernel_rfl, by kernel_rfl, by kernel_rfl, .slice none 0 0, by kernel_rfl, by kernel_rfl⟩
instance : ElT Tryz.prog 122 4 ([.int .u32 0]) := ⟨(Tryz.prog.info? 122).getD default, by kernel_rfl, by kernel_rfl, by kernel_rfl, .int .u32 0, by kernel_rfl, by kernel_rfl⟩
instance : Cal Tryz.prog 4 := ⟨fun _ _ => by kernel_rfl⟩
instance : Cal Tryz.prog 5 := ⟨fun _ _ => by kernel_rfl⟩
instance : Cal Tryz.prog 6 := ⟨fun _ _ => by kernel_rfl⟩
instance : Cal Tryz.prog 7 := ⟨fun _ _ => by kernel_rfl⟩
instance : Cal Tryz.prog 8 := ⟨fun _ _ => by kernel_rfl⟩
instance : Cal Tryz.prog 9 := ⟨fun _ _ => by kernel_rfl⟩
instance : Cal Tryz.prog 10 := ⟨fun _ _ => by kernel_rfl⟩
instance : Cal Tryz.prog 11 := ⟨fun _ _ => by kernel_rfl⟩
instance : Cal Tryz.prog 12 := ⟨fun _ _ => by kernel_rfl⟩
instance : Cal Tryz.prog 13 := ⟨fun _ _ => by kernel_rfl⟩
instance : Cal Tryz.prog 14 := ⟨fun _ _ => by kernel_rfl⟩
instance : Cal Tryz.prog 15 := ⟨fun _ _ => by kernel_rfl⟩
instance : Cal Tryz.prog 16 := ⟨fun _ _ => by kernel_rfl⟩
instance : Cal Tryz.prog 17 := ⟨fun _ _ => by kernel_rfl⟩
instance : Cal Tryz.prog 18 := ⟨fun _ _ => by kernel_rfl⟩
instance : Cal Tryz.prog 19 := ⟨fun _ _ => by kernel_rfl⟩
instance : Cal Tryz.prog 20 := ⟨fun _ _ => by kernel_rfl⟩
instance : Cal Tryz.prog 21 := ⟨fun _ _ => by kernel_rfl⟩
instance : Cal Tryz.prog 22 := ⟨fun _ _ => by kernel_rfl⟩
instance : Cal Tryz.prog 23 := ⟨fun _ _ => by kernel_rfl⟩
instance : Cal Tryz.prog 24 := ⟨fun _ _ => by kernel_rfl⟩
instance : Cal Tryz.prog 25 := ⟨fun _ _ => by kernel_rfl⟩
instance : Cal Tryz.prog 26 := ⟨fun _ _ => by kernel_rfl⟩
instance : Cal Tryz.prog 27 := ⟨fun _ _ => by kernel_rfl⟩
instance : Cal Tryz.prog 28 := ⟨fun _ _ => by kernel_rfl⟩
instance : Cal Tryz.prog 29 := ⟨fun _ _ => by kernel_rfl⟩
instance : Cal Tryz.prog 30 := ⟨fun _ _ => by kernel_rfl⟩
instance : Cal Tryz.prog 31 := ⟨fun _ _ => by kernel_rfl⟩
instance : Cal Tryz.prog 32 := ⟨fun _ _ => by kernel_rfl⟩
instance : Cal Tryz.prog 33 := ⟨fun _ _ => by kernel_rfl⟩
instance : Cal Tryz.prog 34 := ⟨fun _ _ => by kernel_rfl⟩
instance : Cal Tryz.prog 35 := ⟨fun _ _ => by kernel_rfl⟩
instance : Cal Tryz.prog 36 := ⟨fun _ _ => by kernel_rfl⟩
instance : Cal Tryz.prog 37 := ⟨fun _ _ => by kernel_rfl⟩
instance : Cal Tryz.prog 38 := ⟨fun _ _ => by kernel_rfl⟩
instance : Cal Tryz.prog 39 := ⟨fun _ _ => by kernel_rfl⟩
instance : Cal Tryz.prog 40 := ⟨fun _ _ => by kernel_rfl⟩
instance : Cal Tryz.prog 41 := ⟨fun _ _ => by kernel_rfl⟩
instance : Cal Tryz.prog 42 := ⟨fun _ _ => by kernel_rfl⟩
instance : Cal Tryz.prog 43 := ⟨fun _ _ => by kernel_rfl⟩
instance : Cal Tryz.prog 44 := ⟨fun _ _ => by kernel_rfl⟩
instance : Cal Tryz.prog 45 := ⟨fun _ _ => by kernel_rfl⟩
instance : Cal Tryz.prog 46 := ⟨fun _ _ => by kernel_rfl⟩
instance : Cal Tryz.prog 47 := ⟨fun _ _ => by kernel_rfl⟩
instance : Cal Tryz.prog 48 := ⟨fun _ _ => by kernel_rfl⟩
instance : Cal Tryz.prog 49 := ⟨fun _ _ => by kernel_rfl⟩
instance : Cal Tryz.prog 50 := ⟨fun _ _ => by kernel_rfl⟩
instance : Cal Tryz.prog 51 := ⟨fun _ _ => by kernel_rfl⟩
instance : Cal Tryz.prog 52 := ⟨fun _ _ => by kernel_rfl⟩
instance : Cal Tryz.prog 53 := ⟨fun _ _ => by kernel_rfl⟩
instance : Cal Tryz.prog 54 := ⟨fun _ _ => by kernel_rfl⟩
instance : Cal Tryz.prog 55 := ⟨fun _ _ => by kernel_rfl⟩
instance : Cal Tryz.prog 56 := ⟨fun _ _ => by kernel_rfl⟩
instance : Cal Tryz.prog 57 := ⟨fun _ _ => by kernel_rfl⟩
instance : Cal Tryz.prog 58 := ⟨fun _ _ => by kernel_rfl⟩
instance : Cal Tryz.prog 59 := ⟨fun _ _ => by kernel_rfl⟩
instance : Cal Tryz.prog 60 := ⟨fun _ _ => by kernel_rfl⟩
instance : Cal Tryz.prog 61 := ⟨fun _ _ => by kernel_rfl⟩
instance : Cal Tryz.prog 62 := ⟨fun _ _ => by kernel_rfl⟩
instance : Cal Tryz.prog 63 := ⟨fun _ _ => by kernel_rfl⟩
instance : Cal Tryz.prog 64 := ⟨fun _ _ => by kernel_rfl⟩
instance : Cal Tryz.prog 65 := ⟨fun _ _ => by kernel_rfl⟩
instance : Cal Tryz.prog 66 := ⟨fun _ _ => by kernel_rfl⟩
instance : Cal Tryz.prog 67 := ⟨fun _ _ => by kernel_rfl⟩
instance : Cal Tryz.prog 68 := ⟨fun _ _ => by kernel_rfl⟩
instance : Cal Tryz.prog 69 := ⟨fun _ _ => by kernel_rfl⟩
instance : Cal Tryz.prog 70 := ⟨fun _ _ => by kernel_rfl⟩
instance : Cal Tryz.prog 71 := ⟨fun _ _ => by kernel_rfl⟩
instance : Cal Tryz.prog 72 := ⟨fun _ _ => by kernel_rfl⟩
instance : Cal Tryz.prog 73 := ⟨fun _ _ => by kernel_rfl⟩
instance : Cal Tryz.prog 74 := ⟨fun _ _ => by kernel_rfl⟩
instance : Cal Tryz.prog 75 := ⟨fun _ _ => by kernel_rfl⟩
instance : Cal Tryz.prog 76 := ⟨fun _ _ => by kernel_rfl⟩
instance : Cal Tryz.prog 77 := ⟨fun _ _ => by kernel_rfl⟩
instance : Cal Tryz.prog 78 := ⟨fun _ _ => by kernel_rfl⟩
instance : Cal Tryz.prog 79 := ⟨fun _ _ => by kernel_rfl⟩
instance : Cal Tryz.prog 80 := ⟨fun _ _ => by kernel_rfl⟩
instance : Cal Tryz.prog 81 := ⟨fun _ _ => by kernel_rfl⟩
instance : Cal Tryz.prog 82 := ⟨fun _ _ => by kernel_rfl⟩
instance : Cal Tryz.prog 83 := ⟨fun _ _ => by kernel_rfl⟩
instance : Cal Tryz.prog 84 := ⟨fun _ _ => by kernel_rfl⟩
instance : Cal Tryz.prog 85 := ⟨fun _ _ => by kernel_rfl⟩
instance : Cal Tryz.prog 86 := ⟨fun _ _ => by kernel_rfl⟩
instance : Cal Tryz.prog 87 := ⟨fun _ _ => by kernel_rfl⟩
instance : Cal Tryz.prog 88 := ⟨fun _ _ => by kernel_rfl⟩
instance : Cal Tryz.prog 89 := ⟨fun _ _ => by kernel_rfl⟩
instance : Cal Tryz.prog 90 := ⟨fun _ _ => by kernel_rfl⟩
instance : Cal Tryz.prog 91 := ⟨fun _ _ => by kernel_rfl⟩
instance : Cal Tryz.prog 92 := ⟨fun _ _ => by kernel_rfl⟩
instance : Cal Tryz.prog 93 := ⟨fun _ _ => by kernel_rfl⟩
instance : Cal Tryz.prog 94 := ⟨fun _ _ => by kernel_rfl⟩
instance : Cal Tryz.prog 95 := ⟨fun _ _ => by kernel_rfl⟩
instance : Cal Tryz.prog 96 := ⟨fun _ _ => by kernel_rfl⟩
instance : Cal Tryz.prog 97 := ⟨fun _ _ => by kernel_rfl⟩
instance : Cal Tryz.prog 98 := ⟨fun _ _ => by kernel_rfl⟩
instance : Cal Tryz.prog 99 := ⟨fun _ _ => by kernel_rfl⟩
instance : Cal Tryz.prog 100 := ⟨fun _ _ => by kernel_rfl⟩
instance : Cal Tryz.prog 101 := ⟨fun _ _ => by kernel_rfl⟩
instance : Cal Tryz.prog 102 := ⟨fun _ _ => by kernel_rfl⟩
instance : Cal Tryz.prog 103 := ⟨fun _ _ => by kernel_rfl⟩
instance : Cal Tryz.prog 104 := ⟨fun _ _ => by kernel_rfl⟩
instance : Cal Tryz.prog 105 := ⟨fun _ _ => by kernel_rfl⟩
instance : Cal Tryz.prog 106 := ⟨fun _ _ => by kernel_rfl⟩
instance : Cal Tryz.prog 107 := ⟨fun _ _ => by kernel_rfl⟩
instance : Cal Tryz.prog 108 := ⟨fun _ _ => by kernel_rfl⟩
instance : Cal Tryz.prog 109 := ⟨fun _ _ => by kernel_rfl⟩
instance : Cal Tryz.prog 110 := ⟨fun _ _ => by kernel_rfl⟩
instance : Cal Tryz.prog 111 := ⟨fun _ _ => by kernel_rfl⟩
instance : Cal Tryz.prog 112 := ⟨fun _ _ => by kernel_rfl⟩
instance : Cal Tryz.prog 113 := ⟨fun _ _ => by kernel_rfl⟩
instance : Cal Tryz.prog 114 := ⟨fun _ _ => by kernel_rfl⟩
instance : Cal Tryz.prog 115 := ⟨fun _ _ => by kernel_rfl⟩
instance : Cal Tryz.prog 116 := ⟨fun _ _ => by kernel_rfl⟩
instance : Cal Tryz.prog 117 := ⟨fun _ _ => by kernel_rfl⟩
instance : Cal Tryz.prog 118 := ⟨fun _ _ => by kernel_rfl⟩
instance : Cal Tryz.prog 119 := ⟨fun _ _ => by kernel_rfl⟩
instance : Cal Tryz.prog 120 := ⟨fun _ _ => by kernel_rfl⟩
instance : Cal Tryz.prog 121 := ⟨fun _ _ => by kernel_rfl⟩
instance : Cal Tryz.prog 122 := ⟨fun _ _ => by kernel_rfl⟩
instance : Cal Tryz.prog 123 := ⟨fun _ _ => by kernel_rfl⟩
instance : Cal Tryz.prog 124 := ⟨fun _ _ => by kernel_rfl⟩
instance : Cal Tryz.prog 125 := ⟨fun _ _ => by kernel_rfl⟩
instance : Cal Tryz.prog 126 := ⟨fun _ _ => by kernel_rfl⟩
instance : Cal Tryz.prog 127 := ⟨fun _ _ => by kernel_rfl⟩
instance : Cal Tryz.prog 128 := ⟨fun _ _ => by kernel_rfl⟩
instance : Cal Tryz.prog 129 := ⟨fun _ _ => by kernel_rfl⟩
instance : Cal Tryz.prog 130 := ⟨fun _ _ => by kernel_rfl⟩
instance : Cal Tryz.prog 132 := ⟨fun _ _ => by kernel_rfl⟩
instance : Cal Tryz.prog 134 := ⟨fun _ _ => by kernel_rfl⟩
instance : Cal Tryz.prog 135 := ⟨fun _ _ => by kernel_rfl⟩
instance : Cal Tryz.prog 138 := ⟨fun _ _ => by kernel_rfl⟩
instance : Cal Tryz.prog 139 := ⟨fun _ _ => by kernel_rfl⟩
instance : Cal Tryz.prog 140 := ⟨fun _ _ => by kernel_rfl⟩
instance : Cal Tryz.prog 141 := ⟨fun _ _ => by kernel_rfl⟩
instance : Cal Tryz.prog 144 := ⟨fun _ _ => by kernel_rfl⟩
instance : Cal Tryz.prog 145 := ⟨fun _ _ => by kernel_rfl⟩
instance : Cal Tryz.prog 146 := ⟨fun _ _ => by kernel_rfl⟩
instance : Cal Tryz.prog 147 := ⟨fun _ _ => by kernel_rfl⟩
instance : Cal Tryz.prog 148 := ⟨fun _ _ => by kernel_rfl⟩
instance : Cal Tryz.prog 149 := ⟨fun _ _ => by kernel_rfl⟩
instance : Cal Tryz.prog 150 := ⟨fun _ _ => by kernel_rfl⟩
instance : Cal Tryz.prog 151 := ⟨fun _ _ => by kernel_rfl⟩
instance : Cal Tryz.prog 160 := ⟨fun _ _ => by kernel_rfl⟩
end Sx
end Go.Proofs.YtakkmakilfodoaaGreat

/- The functions that genty.py's print leaves out: Cal. -/
namespace Go.Proofs.YtakkmakilfodoaaGreat
open Go Go.RowKit
namespace Sx
instance : Cal Tryz.prog 156 := ⟨fun _ _ => by kernel_rfl⟩
instance : Cal Tryz.prog 157 := ⟨fun _ _ => by kernel_rfl⟩
instance : Cal Tryz.prog 162 := ⟨fun _ _ => by kernel_rfl⟩
end Sx
end Go.Proofs.YtakkmakilfodoaaGreat

/- Words for memory: a block that is known whole, a slice that reads as a list of cells, what stays below. No program is in sight here. -/
namespace Go.Proofs.YtakkmakilfodoaaGreat
open Go.RowKit

/-- block g is just these cells, none of them frozen -/
def Blk (w : World) (g : Nat) (t : TypeId) (cs : List Value) : Prop := w.heap[g]? = some (.cells cs.toArray t (0, 0))

section
variable {w w' : World} {g : Nat} {t : TypeId} {cs : List Value}
theorem Blk.lt (h : Blk w g t cs) : g < w.heap.size := by
  rcases Nat.lt_or_ge g w.heap.size with hlt | hge
  · exact hlt
  · unfold Blk at h; rw [Array.getElem?_eq_none hge] at h; cases h
theorem Blk.cell (h : Blk w g t cs) (i : Nat) : w.cell? ⟨g, i, none⟩ = cs[i]? := by
  rw [cell_of_row w g i cs.toArray t (0, 0) h]; simp
theorem Blk.cell_at (h : Blk w g t cs) {i : Nat} {v : Value} (hv : cs[i]? = some v) : w.cell? ⟨g, i, none⟩ = some v := (h.cell i).trans hv
theorem Blk.frozen (h : Blk w g t cs) (i : Nat) : w.frozen? ⟨g, i, none⟩ = false := by
  unfold Blk at h
  simp [World.frozen?, h]
theorem Blk.new (w : World) (t : TypeId) (cs : List Value) : Blk (w.alloc (.cells cs.toArray t)) w.heap.size t cs := heap_alloc_new w _
theorem Blk.new' {t : TypeId} {cs : List Value} (h : w.heap.size = g) : Blk (w.alloc (.cells cs.toArray t)) g t cs := h ▸ Blk.new w t cs
theorem Blk.drew (h : Blk w g t cs) : Blk w.drew g t cs := h
theorem Blk.drewN (h : Blk w g t cs) (n : Nat) : Blk (w.drewN n) g t cs := h
theorem Blk.alloc (h : Blk w g t cs) (o : Obj) : Blk (w.alloc o) g t cs := (Below.heap_alloc w o g h.lt).trans h
theorem Blk.set_ (h : Blk w g t cs) (i : Nat) (u : Value) : Blk (w.setCell ⟨g, i, none⟩ u) g t (cs.set i u) := by
  unfold Blk at h ⊢
  simp [World.setCell, Array.getElem?_modify, h]
theorem Blk.put4 {a b c d : Value} (h : Blk w g t [a, b, c, d]) (u0 u1 u2 u3 : Value) :
    Blk ((((w.setCell ⟨g, 0, none⟩ u0).setCell ⟨g, 1, none⟩ u1).setCell ⟨g, 2, none⟩ u2).setCell ⟨g, 3, none⟩ u3) g t [u0, u1, u2, u3] := (((h.set_ 0 u0).set_ 1 u1).set_ 2 u2).set_ 3 u3
theorem Blk.far (h : Blk w g t cs) {p : Addr} (hp : g ≠ p.block) (u : Value) : Blk (w.setCell p u) g t cs := (Below.heap_setCell w p u g hp).trans h
theorem Blk.below {B : Nat} (h : Blk w g t cs) (hb : Below B w w') (hg : g < B) : Blk w' g t cs := (hb.block g hg).trans h
theorem Blk.grown {row : Option Nat} (h : Blk w g t cs) (hb : w.grownBy w' row) (hg : some g ≠ row) : Blk w' g t cs := (hb.block g h.lt hg).trans h
end

/-- what the rules of the walk want of a world that is as another one was below a block -/
theorem bcell {B : Nat} {W w1 : World} (hb : Below B W w1) : (∀ b o, b < B → w1.cell? ⟨b, o, none⟩ = W.cell? ⟨b, o, none⟩) ∧ (∀ b o, b < B → w1.frozen? ⟨b, o, none⟩ = W.frozen? ⟨b, o, none⟩) :=
  ⟨fun b o h => hb.cell (p := ⟨b, o, none⟩) h, fun b o h => hb.frozen (p := ⟨b, o, none⟩) h⟩

/-- new blocks alone, and draws: what was there is as it was -/
abbrev Ext (w w' : World) : Prop := Below w.heap.size w w'
theorem Ext.rfl' (w : World) : Ext w w := Below.refl _ _
theorem Ext.trans' {a b c : World} (h : Ext a b) (k : Ext b c) : Ext a c := h.trans (k.mono h.size)
theorem Ext.alloc' {a b : World} (h : Ext a b) (o : Obj) : Ext a (b.alloc o) := h.alloc h.size o
theorem Below.drewN' {B : Nat} {a w : World} (h : Below B a w) (n : Nat) : Below B a (w.drewN n) := ⟨h.os, h.tape, h.output, h.size, h.block⟩
end Go.Proofs.YtakkmakilfodoaaGreat

namespace Go.Proofs.YtakkmakilfodoaaGreat
open Go.RowKit
set_option maxRecDepth 100000 in
set_option maxHeartbeats 1000000 in
theorem slices_Grow_u64 (n : Nat) (h0 : 0 < n) (hn : n ≤ 1099511627776) (w : World) :
    Calls Tryz.prog 158 #[.slice none 0 0, .int .i64 (n : Int)] w fun e w' => ∃ v, e = .returned v ∧ w'.ownsRow w.heap.size 22 1 v 0 [] ∧ Below w.heap.size w w' := by
  have hinfo : (Tryz.prog.info? 22).map (fun i => (i.zero, i.size, i.bytes)) = some (some (.int .u64 0), 1, 8) := by kernel_rfl
  obtain ⟨i0, hi, hz0, hz1, hz2⟩ := info_parts hinfo
  have hr := fun ty => Lib.run_append_nil_zeros (P := Tryz.prog) w 94 3 ty 22 i0 (.int .u64 0) .i64 .i64 Tryz.underlying94 Tryz.underlying3 hi hz0 n h0 (by omega) (by omega) (by rw [hz2]; omega)
  have hge := grownCap_ge w n 0 22
  have hml := grownCap_le_maxLen w n 0 22 (by simp [maxLen]; omega)
  generalize grownCap w n 0 22 = G at *
  have hG63 : G ≤ 9223372036854775807 := by unfold maxLen at hml; omega
  have HM := Lib.hid hml
  clear hml
  go_enter Tryz.func158, Tryz.ntmps158
  go_wp2_with (at_builtin; refine Lib.wpList_append_run _ rfl _ _ _ _ rfl _ _ rfl rfl _ _ (hr _) ?_)
  go_ret
  refine ⟨_, rfl, ?_, (Below.refl _ _).drew.alloc (Nat.le_refl _) _⟩
  refine ⟨rfl, .inr ⟨w.heap.size, _, _, rfl, Nat.le_refl _, heap_alloc_new w.drew _, by omega, HM.out, ?_, by simp⟩⟩
  rw [Array.size_append, size_zeroCells, size_zeroCells]
  show n * 1 + (G - n) * 1 = G * 1
  omega
end Go.Proofs.YtakkmakilfodoaaGreat

/-
  DERIVED: THE SHELF's CONTRACTS AT THIS DUMP, IN PLAIN WORDS (tools/lay-plain.mjs out of 'TryzShelf.lean', which tools/lay-shelf.mjs wrote): THE SAME DECLARATIONS UNDER THE SAME NAMES: 'import', 'namespace', 'open', 'def', 'theorem' AND NOTHING ELSE: no command of the shelf's: FOR A HAND-IN. Each laying: the table of numbers ('.._ren') and one theorem, a field a fact of the dump's own or the kernel's comparison; each contract: ONE APPLICATION.
-/
namespace Go.Proofs
open Go.Shelf
def Tryz.lays134_ren : Go.Shelf.Ren := ⟨fun | 134 => 154 | 129 => 137 | n => n, fun | 53 => 22 | 3 => 3 | 4 => 4 | 46 => 135 | 5 => 5 | 9 => 9 | n => n, fun | n => n⟩
theorem Tryz.lays134 : Go.Proofs.Lays.n134 Tryz.prog Tryz.lays134_ren := {
  mixed := by kernel_rfl
  f129 := Tryz.func137.trans (congrArg some (by kernel_rfl))
  f134 := Tryz.func154.trans (congrArg some (by kernel_rfl))
  t3 := Tryz.underlying3
  a3 := Tryz.isAgg3
  z3 := Tryz.sizeOf3
  v3 := Tryz.zeroValue3
  t4 := Tryz.underlying4
  a4 := Tryz.isAgg4
  z4 := Tryz.sizeOf4
  v4 := Tryz.zeroValue4
  t5 := Tryz.underlying5
  a5 := Tryz.isAgg5
  z5 := Tryz.sizeOf5
  v5 := Tryz.zeroValue5
  t9 := Tryz.underlying9
  a9 := Tryz.isAgg9
  z9 := Tryz.sizeOf9
  v9 := Tryz.zeroValue9
  t46 := Tryz.underlying135
  a46 := Tryz.isAgg135
  z46 := Tryz.sizeOf135
  v46 := Tryz.zeroValue135
  t53 := Tryz.underlying22
  a53 := Tryz.isAgg22
  z53 := Tryz.sizeOf22
  v53 := Tryz.zeroValue22 }
/-- bits.LeadingZeros64: "LeadingZeros64 returns the number of leading zero bits in x; the result is 64 for x == 0.": IT RETURNS '64 - Lib.bitLen x'; the world is as it was. ITS CALLEE bits.Len64 IS MET BY ITS OWN CONTRACT OFF THE SHELF (lay that first): entered in place it sends the kernel out of memory. (LAID: no walk: one application.) -/
theorem Tryz.bits_LeadingZeros64 (x : Int) (w : World) (h0 : 0 ≤ x) (h1 : x ≤ 18446744073709551615) :
    Calls Tryz.prog 154 #[.int .u64 x] w fun e w' => e = .returned (.int .i64 (64 - (Lib.bitLen x.toNat : Int))) ∧ w' = w := Any.bits_LeadingZeros64 Tryz.lays134 x w h0 h1
def Tryz.lays129_ren : Go.Shelf.Ren := ⟨fun | 129 => 137 | n => n, fun | 53 => 22 | 3 => 3 | 4 => 4 | 46 => 135 | 5 => 5 | 9 => 9 | n => n, fun | n => n⟩
theorem Tryz.lays129 : Go.Proofs.Lays.n129 Tryz.prog Tryz.lays129_ren := {
  mixed := by kernel_rfl
  f129 := Tryz.func137.trans (congrArg some (by kernel_rfl))
  t3 := Tryz.underlying3
  a3 := Tryz.isAgg3
  z3 := Tryz.sizeOf3
  v3 := Tryz.zeroValue3
  t4 := Tryz.underlying4
  a4 := Tryz.isAgg4
  z4 := Tryz.sizeOf4
  v4 := Tryz.zeroValue4
  t5 := Tryz.underlying5
  a5 := Tryz.isAgg5
  z5 := Tryz.sizeOf5
  v5 := Tryz.zeroValue5
  t9 := Tryz.underlying9
  a9 := Tryz.isAgg9
  z9 := Tryz.sizeOf9
  v9 := Tryz.zeroValue9
  t46 := Tryz.underlying135
  a46 := Tryz.isAgg135
  z46 := Tryz.sizeOf135
  v46 := Tryz.zeroValue135
  t53 := Tryz.underlying22
  a53 := Tryz.isAgg22
  z53 := Tryz.sizeOf22
  v53 := Tryz.zeroValue22 }
/-- bits.Len64: "Len64 returns the minimum number of bits required to represent x; the result is 0 for x == 0.": IT RETURNS 'Lib.bitLen x'; the world is as it was. ('h0', 'h1': x is a uint64.) (LAID: no walk: one application.) -/
theorem Tryz.bits_Len64 (x : Int) (w : World) (h0 : 0 ≤ x) (h1 : x ≤ 18446744073709551615) :
    Calls Tryz.prog 137 #[.int .u64 x] w fun e w' => e = .returned (.int .i64 (Lib.bitLen x.toNat)) ∧ w' = w := Any.bits_Len64 Tryz.lays129 x w h0 h1
def Tryz.lays264_ren : Go.Shelf.Ren := ⟨fun | 264 => 138 | n => n, fun | 53 => 22 | 46 => 135 | n => n, fun | n => n⟩
theorem Tryz.lays264 : Go.Proofs.Lays.n264 Tryz.prog Tryz.lays264_ren := {
  mixed := by kernel_rfl
  f264 := Tryz.func138.trans (congrArg some (by kernel_rfl))
  t46 := Tryz.underlying135
  a46 := Tryz.isAgg135
  z46 := Tryz.sizeOf135
  v46 := Tryz.zeroValue135
  t53 := Tryz.underlying22
  a53 := Tryz.isAgg22
  z53 := Tryz.sizeOf22
  v53 := Tryz.zeroValue22 }
open Go.RowKit Go.Lib in
theorem Tryz.bits_Mul64 (x y : Nat) (hx : x < 18446744073709551616) (hy : y < 18446744073709551616) (w : World) :
    Calls Tryz.prog 138 #[.int .u64 x, .int .u64 y] w fun e w' => e = .returned (.tuple #[.int .u64 ((x * y / 18446744073709551616 : Nat) : Int), .int .u64 ((x * y % 18446744073709551616 : Nat) : Int)]) ∧ w' = w := Any.bits_Mul64 Tryz.lays264 x y hx hy w
end Go.Proofs
