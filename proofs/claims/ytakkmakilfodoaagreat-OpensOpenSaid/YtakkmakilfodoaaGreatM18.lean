/- Part 18 of the proof: ModA, CoA, ShC, ShD, SyA, SyB -/
import Derived.Test.YtakkmakilfodoaaGreatM17
import Derived.Test.YtakkmakilfodoaaGreatM08
import Derived.Test.YtakkmakilfodoaaGreatM12
import Derived.Test.YtakkmakilfodoaaGreatM11
set_option linter.unusedSimpArgs false
set_option linter.unusedVariables false
namespace Go.Proofs.YtakkmakilfodoaaGreat
open Go.RowKit
attribute [local go_sem] run_eqin_num run_eqin_zero
/-- mods.word -/
theorem mods_word (a b m : Nat) (ha : a < m) (hb : b < m) (hm : m < 18446744073709551616) (w : World) :
    Calls Tryz.prog 98 #[.int .u64 (a : Int), .int .u64 (b : Int), .int .u64 (m : Int)] w fun e w' => e = .returned (.int .u64 ((a * b % m : Nat) : Int)) ∧ Below w.heap.size w w' := by
  have hM := Tryz.bits_Mul64 a b (by omega) (by omega)
  have hlt : a * b / 18446744073709551616 < m := by
    rw [Nat.div_lt_iff_lt_mul (by omega)]
    have h1 : a * b ≤ a * m := Nat.mul_le_mul_left _ (by omega)
    have h2 : a * m ≤ 18446744073709551615 * m := Nat.mul_le_mul_right _ (by omega)
    omega
  have hD := bits_Div64 (a * b / 18446744073709551616) (a * b % 18446744073709551616) m (Nat.mod_lt _ (by omega)) hm hlt
  rw [show a * b / 18446744073709551616 * 18446744073709551616 + a * b % 18446744073709551616 = a * b by rw [Nat.mul_comm (a * b / 18446744073709551616)]; exact Nat.div_add_mod _ _] at hD
  generalize a * b % 18446744073709551616 = L at *
  generalize a * b / 18446744073709551616 = H at *
  generalize a * b / m = q at *
  generalize a * b % m = r at *
  have HM := Lib.hid hM
  have HD := Lib.hid hD
  clear hM hD
  go_enter Tryz.func98, Tryz.ntmps98
  go_wp2_with (first | (go_at_call 138; refine (HM.out _).mono ?_; rintro e w1 ⟨rfl, rfl⟩) | (go_at_call 132; refine (HD.out _).mono ?_; rintro e w1 ⟨rfl, hb1⟩))
  go_ret
  exact ⟨by simp, hb1⟩
/-- mods.times -/
theorem mods_times (a b m : Nat) (ha : a < m) (hb : b < m) (hm : m < B256) (w : World) :
    Calls Tryz.prog 91 #[numV a, numV b, numV m] w fun e w' => e = .returned (numV (a * b % m)) ∧ Below w.heap.size w w' := by
  have haB : a < B256 := by omega
  have hbB : b < B256 := by omega
  have hBi := fun w => limbs_Bits m hm w
  have hbw : Ext w w := Ext.rfl' w
  by_cases hs : m < 18446744073709551616
  · have hle : bitsN m ≤ 64 := bitsN_le (by simpa using hs)
    have hdec : decide (((bitsN m : Nat) : Int) ≤ 64) = true := by simp; omega
    have e1 : wd 0 a = a := Nat.mod_eq_of_lt (by omega)
    have e2 : wd 0 b = b := Nat.mod_eq_of_lt (by omega)
    have e3 : wd 0 m = m := Nat.mod_eq_of_lt (by omega)
    have hW : ∀ w, Calls Tryz.prog 98 #[.int .u64 ((wd 0 a : Nat) : Int), .int .u64 ((wd 0 b : Nat) : Int), .int .u64 ((wd 0 m : Nat) : Int)] w fun e w' => e = .returned (.int .u64 ((a * b % m : Nat) : Int)) ∧ Below w.heap.size w w' := by
      rw [e1, e2, e3]; exact fun w => mods_word a b m ha hb hs w
    clear e1 e2 e3
    have hO := fun w => limbs_Of (a * b % m) (Nat.lt_trans (Nat.mod_lt _ (by omega)) hs) w
    generalize bitsN m = N at *
    generalize a * b % m = r at *
    go_enter Tryz.func91, Tryz.ntmps91
    go_wp2_with (first | (go_at_call 95; refine (hBi _).mono ?_; rintro e w1 ⟨rfl, hb1⟩; have g3 : Blk w1 (w.heap.size) 24 (numC a) := Blk.below ((((Blk.new' (by first | rfl | (simp; done))).alloc _).alloc _).alloc _) hb1 (by first | (simp; done) | (simp; omega)); have g4 : Blk w1 (w.heap.size + 1) 24 (numC b) := Blk.below (((Blk.new' (by first | rfl | (simp; done))).alloc _).alloc _) hb1 (by first | (simp; done) | (simp; omega)); have g5 : Blk w1 (w.heap.size + 1 + 1) 24 (numC m) := Blk.below ((Blk.new' (by first | rfl | (simp; done))).alloc _) hb1 (by first | (simp; done) | (simp; omega)); have g6 : Blk w1 (w.heap.size + 1 + 1 + 1) 24 (zeroC) := Blk.below (Blk.new' (by first | rfl | (simp; done))) hb1 (by first | (simp; done) | (simp; omega)); replace hbw := Ext.trans' (((((hbw).alloc' _).alloc' _).alloc' _).alloc' _) hb1; clear hb1 ; have g3_0 := g3.cell_at (i := 0) rfl; have g3_1 := g3.cell_at (i := 1) rfl; have g3_2 := g3.cell_at (i := 2) rfl; have g3_3 := g3.cell_at (i := 3) rfl; have g3_f := g3.frozen; have g3_l := g3.lt; have g3_m := Nat.lt_succ_of_lt g3_l; have g3_n := Nat.lt_succ_of_lt g3_m; have g4_0 := g4.cell_at (i := 0) rfl; have g4_1 := g4.cell_at (i := 1) rfl; have g4_2 := g4.cell_at (i := 2) rfl; have g4_3 := g4.cell_at (i := 3) rfl; have g4_f := g4.frozen; have g4_l := g4.lt; have g4_m := Nat.lt_succ_of_lt g4_l; have g4_n := Nat.lt_succ_of_lt g4_m; have g5_0 := g5.cell_at (i := 0) rfl; have g5_1 := g5.cell_at (i := 1) rfl; have g5_2 := g5.cell_at (i := 2) rfl; have g5_3 := g5.cell_at (i := 3) rfl; have g5_f := g5.frozen; have g5_l := g5.lt; have g5_m := Nat.lt_succ_of_lt g5_l; have g5_n := Nat.lt_succ_of_lt g5_m; have g6_0 := g6.cell_at (i := 0) rfl; have g6_1 := g6.cell_at (i := 1) rfl; have g6_2 := g6.cell_at (i := 2) rfl; have g6_3 := g6.cell_at (i := 3) rfl; have g6_f := g6.frozen; have g6_l := g6.lt; have g6_m := Nat.lt_succ_of_lt g6_l; have g6_n := Nat.lt_succ_of_lt g6_m) | (go_at_call 98; refine (hW _).mono ?_; rintro e w2 ⟨rfl, hb1⟩; replace g3 := Blk.below (g3) hb1 (by have := g3.lt; first | exact this | (simp; omega)); replace g4 := Blk.below (g4) hb1 (by have := g4.lt; first | exact this | (simp; omega)); replace g5 := Blk.below (g5) hb1 (by have := g5.lt; first | exact this | (simp; omega)); replace g6 := Blk.below (g6) hb1 (by have := g6.lt; first | exact this | (simp; omega)); replace hbw := Ext.trans' (hbw) hb1; clear hb1 g3_0 g3_1 g3_2 g3_3 g3_f g3_l g3_m g3_n g4_0 g4_1 g4_2 g4_3 g4_f g4_l g4_m g4_n g5_0 g5_1 g5_2 g5_3 g5_f g5_l g5_m g5_n g6_0 g6_1 g6_2 g6_3 g6_f g6_l g6_m g6_n; have g6_0 := g6.cell_at (i := 0) rfl; have g6_1 := g6.cell_at (i := 1) rfl; have g6_2 := g6.cell_at (i := 2) rfl; have g6_3 := g6.cell_at (i := 3) rfl; have g6_f := g6.frozen; have g6_l := g6.lt; have g6_m := Nat.lt_succ_of_lt g6_l; have g6_n := Nat.lt_succ_of_lt g6_m) | (go_at_call 49; refine (hO _).mono ?_; rintro e w3 ⟨rfl, hb1⟩; replace g6 := Blk.below (g6) hb1 (by have := g6.lt; first | exact this | (simp; omega)); replace hbw := Ext.trans' (hbw) hb1; clear hb1 g6_0 g6_1 g6_2 g6_3 g6_f g6_l g6_m g6_n; have g6_0 := g6.cell_at (i := 0) rfl; have g6_1 := g6.cell_at (i := 1) rfl; have g6_2 := g6.cell_at (i := 2) rfl; have g6_3 := g6.cell_at (i := 3) rfl; have g6_f := g6.frozen; have g6_l := g6.lt; have g6_m := Nat.lt_succ_of_lt g6_l; have g6_n := Nat.lt_succ_of_lt g6_m))
    have hsz := hbw.size
    refine bodyPost_ret (v := numV r) ?_ rfl ⟨rfl, ?_⟩
    · simp [results, Tryz.results91, go_sem, g6_0, g6_1, g6_2, g6_3, g6_l]
    · ((repeat' (with_reducible first | exact hbw | refine Below.drew ?_ | refine Below.drewN' ?_ _ | refine Below.setCell ?_ ?_ _ | refine Below.alloc ?_ ?_ _)) <;> (first | omega | (simp; done) | (simp; omega)))
  · have hle : ¬ bitsN m ≤ 64 := by rw [bitsN_le_iff]; simpa using hs
    have hdec : decide (((bitsN m : Nat) : Int) ≤ 64) = false := by simp; omega
    have hM := fun w => limbs_Mul a b haB hbB w
    have hW := fun w => divides_Wide (a * b % B256) (a * b / B256) m (Nat.mod_lt _ B256_zero) (by
      rw [Nat.div_lt_iff_lt_mul B256_zero]
      exact Nat.mul_lt_mul'' haB hbB) hm (by omega) w
    rw [show a * b / B256 * B256 + a * b % B256 = a * b by rw [Nat.mul_comm (a * b / B256)]; exact Nat.div_add_mod _ _] at hW
    generalize bitsN m = N at *
    generalize a * b % m = r at *
    generalize a * b % B256 = lo at *
    generalize a * b / B256 = hi at *
    go_enter Tryz.func91, Tryz.ntmps91
    go_wp2_with (first | (go_at_call 95; refine (hBi _).mono ?_; rintro e w1 ⟨rfl, hb1⟩; have g3 : Blk w1 (w.heap.size) 24 (numC a) := Blk.below ((((Blk.new' (by first | rfl | (simp; done))).alloc _).alloc _).alloc _) hb1 (by first | (simp; done) | (simp; omega)); have g4 : Blk w1 (w.heap.size + 1) 24 (numC b) := Blk.below (((Blk.new' (by first | rfl | (simp; done))).alloc _).alloc _) hb1 (by first | (simp; done) | (simp; omega)); have g5 : Blk w1 (w.heap.size + 1 + 1) 24 (numC m) := Blk.below ((Blk.new' (by first | rfl | (simp; done))).alloc _) hb1 (by first | (simp; done) | (simp; omega)); have g6 : Blk w1 (w.heap.size + 1 + 1 + 1) 24 (zeroC) := Blk.below (Blk.new' (by first | rfl | (simp; done))) hb1 (by first | (simp; done) | (simp; omega)); replace hbw := Ext.trans' (((((hbw).alloc' _).alloc' _).alloc' _).alloc' _) hb1; clear hb1 ; have g3_0 := g3.cell_at (i := 0) rfl; have g3_1 := g3.cell_at (i := 1) rfl; have g3_2 := g3.cell_at (i := 2) rfl; have g3_3 := g3.cell_at (i := 3) rfl; have g3_f := g3.frozen; have g3_l := g3.lt; have g3_m := Nat.lt_succ_of_lt g3_l; have g3_n := Nat.lt_succ_of_lt g3_m; have g4_0 := g4.cell_at (i := 0) rfl; have g4_1 := g4.cell_at (i := 1) rfl; have g4_2 := g4.cell_at (i := 2) rfl; have g4_3 := g4.cell_at (i := 3) rfl; have g4_f := g4.frozen; have g4_l := g4.lt; have g4_m := Nat.lt_succ_of_lt g4_l; have g4_n := Nat.lt_succ_of_lt g4_m) | (go_at_call 136; refine (hM _).mono ?_; rintro e w2 ⟨rfl, hb1⟩; replace g3 := Blk.below (g3) hb1 (by have := g3.lt; first | exact this | (simp; omega)); replace g4 := Blk.below (g4) hb1 (by have := g4.lt; first | exact this | (simp; omega)); replace g5 := Blk.below (g5) hb1 (by have := g5.lt; first | exact this | (simp; omega)); replace g6 := Blk.below (g6) hb1 (by have := g6.lt; first | exact this | (simp; omega)); replace hbw := Ext.trans' (hbw) hb1; clear hb1 g3_0 g3_1 g3_2 g3_3 g3_f g3_l g3_m g3_n g4_0 g4_1 g4_2 g4_3 g4_f g4_l g4_m g4_n; have g5_0 := g5.cell_at (i := 0) rfl; have g5_1 := g5.cell_at (i := 1) rfl; have g5_2 := g5.cell_at (i := 2) rfl; have g5_3 := g5.cell_at (i := 3) rfl; have g5_f := g5.frozen; have g5_l := g5.lt; have g5_m := Nat.lt_succ_of_lt g5_l; have g5_n := Nat.lt_succ_of_lt g5_m) | (go_at_call 107; refine (hW _).mono ?_; rintro e w3 ⟨rfl, hb1⟩; replace g5 := Blk.below (((g5).alloc _).alloc _) hb1 (by have := g5.lt; first | exact this | (simp; omega)); replace g6 := Blk.below (((g6).alloc _).alloc _) hb1 (by have := g6.lt; first | exact this | (simp; omega)); have g7 : Blk w3 (w2.heap.size) 24 (numC lo) := Blk.below ((Blk.new' (by first | rfl | (simp; done))).alloc _) hb1 (by first | (simp; done) | (simp; omega)); have g8 : Blk w3 (w2.heap.size + 1) 24 (numC hi) := Blk.below (Blk.new' (by first | rfl | (simp; done))) hb1 (by first | (simp; done) | (simp; omega)); replace hbw := Ext.trans' (((hbw).alloc' _).alloc' _) hb1; clear hb1 g5_0 g5_1 g5_2 g5_3 g5_f g5_l g5_m g5_n; have g6_0 := g6.cell_at (i := 0) rfl; have g6_1 := g6.cell_at (i := 1) rfl; have g6_2 := g6.cell_at (i := 2) rfl; have g6_3 := g6.cell_at (i := 3) rfl; have g6_f := g6.frozen; have g6_l := g6.lt; have g6_m := Nat.lt_succ_of_lt g6_l; have g6_n := Nat.lt_succ_of_lt g6_m))
    have hsz := hbw.size
    refine bodyPost_ret (v := numV r) ?_ rfl ⟨rfl, ?_⟩
    · simp [results, Tryz.results91, go_sem, g6_0, g6_1, g6_2, g6_3, g6_l]
    · ((repeat' (with_reducible first | exact hbw | refine Below.drew ?_ | refine Below.drewN' ?_ _ | refine Below.setCell ?_ ?_ _ | refine Below.alloc ?_ ?_ _)) <;> (first | omega | (simp; done) | (simp; omega)))
end Go.Proofs.YtakkmakilfodoaaGreat

/- The contracts of layers 2 and 3 in the form of the symbolic execution; equality of long numbers. -/
namespace Go.Proofs.YtakkmakilfodoaaGreat
open Go Go.RowKit
namespace Sx
theorem Fn.of {P : Program} {f : FuncId} {args : List Value} {v : Value} (h : ∀ w, Calls P f args.toArray w fun e w' => e = .returned v ∧ Below w.heap.size w w') : Fn P f args Tr (Is v) :=
  fun w _ => (h w).mono fun _ _ ⟨h1, h2⟩ => ⟨v, [], h1, h2, .nil _ _, rfl⟩
theorem B256_one' : 1 < B256 := by unfold B256; omega
theorem B256_of {n : Nat} (h : n < 18446744073709551616) : n < B256 := by unfold B256; omega
theorem c_Of (n : Nat) (h : n < 18446744073709551616 := by omega) : Fn Tryz.prog 49 [.int .u64 (n : Int)] Tr (Is (numV n)) := .of fun w => limbs_Of n h w
theorem c_Of1 : Fn Tryz.prog 49 [.int .u64 1] Tr (Is (numV 1)) := c_Of 1
theorem c_Of0 : Fn Tryz.prog 49 [.int .u64 0] Tr (Is (numV 0)) := c_Of 0
theorem c_Cmp (a b : Nat) (ha : a < B256) (hb : b < B256) : Fn Tryz.prog 93 [numV a, numV b] Tr (Is (.int .i64 (cmpN a b))) := .of fun w => limbs_Cmp a b ha hb w
theorem c_Bits (a : Nat) (ha : a < B256) : Fn Tryz.prog 95 [numV a] Tr (Is (.int .i64 (bitsN a : Nat))) := .of fun w => limbs_Bits a ha w
theorem c_Bit (a : Nat) (i : Int) (ha : a < B256) (h0 : 0 ≤ i) (h1 : i ≤ 1000000) : Fn Tryz.prog 134 [numV a, .int .i64 i] Tr (Is (.int .u64 (bitN a i.toNat : Nat))) := .of fun w => limbs_Bit a i ha h0 h1 w
theorem c_LAdd (a b : Nat) (ha : a < B256) (hb : b < B256) : Fn Tryz.prog 129 [numV a, numV b] Tr (Is (.tuple #[numV ((a + b) % B256), .int .u64 (((a + b) / B256 : Nat) : Int)])) := .of fun w => limbs_Add a b ha hb w
theorem c_LSub (a b : Nat) (ha : a < B256) (hb : b < B256) : Fn Tryz.prog 130 [numV a, numV b] Tr (Is (.tuple #[numV ((a + B256 - b) % B256), .int .u64 ((bw a b 0 : Nat) : Int)])) := .of fun w => limbs_Sub a b ha hb w
theorem c_Div (a b : Nat) (ha : a < B256) (hb : b < B256) (h0 : 0 < b) : Fn Tryz.prog 89 [numV a, numV b] Tr (Is (.tuple #[numV (a / b), numV (a % b), .int .i64 0])) := .of fun w => divides_Div a b ha hb h0 w
theorem c_Common (a b : Nat) (ha : a < B256) (hb : b < B256) : Fn Tryz.prog 88 [numV a, numV b] Tr (Is (numV (Nat.gcd a b))) := .of fun w => divides_Common a b ha hb w
theorem c_Wide (lo hi m : Nat) (hlo : lo < B256) (hhi : hi < B256) (hm : m < B256) (h0 : 0 < m) : Fn Tryz.prog 107 [numV lo, numV hi, numV m] Tr (Is (.tuple #[numV ((hi * B256 + lo) % m), .int .i64 0])) := .of fun w => divides_Wide lo hi m hlo hhi hm h0 w
theorem c_times (a b m : Nat) (ha : a < m) (hb : b < m) (hm : m < B256) : Fn Tryz.prog 91 [numV a, numV b, numV m] Tr (Is (numV (a * b % m))) := .of fun w => mods_times a b m ha hb hm w
theorem c_word (a b m : Nat) (ha : a < m) (hb : b < m) (hm : m < 18446744073709551616) : Fn Tryz.prog 98 [.int .u64 (a : Int), .int .u64 (b : Int), .int .u64 (m : Int)] Tr (Is (.int .u64 ((a * b % m : Nat) : Int))) := .of fun w => mods_word a b m ha hb hm w

/-! equality of long numbers -/
section
variable {w0 : World} {gs : List Nat} {K : List (Nat × Value)} {L : List Ent}
theorem run_eqGuard_num (op : BinOp) (x y : Operand) (a b : Array Value) (w : World) : (eqGuard op 24 x y (.agg a) (.agg b)).run Tryz.prog w = .ok () w := by
  cases op <;> kernel_rfl
theorem a_eqNum {x y : Operand} {yt ty : TypeId} {a b : Nat} (hx : ev K x = some (numV a) := by rfl) (hy : ev K y = some (numV b) := by rfl) (ha : a < B256 := by first | assumption | omega | exact B256_one' | exact B256_zero) (hb : b < B256 := by first | assumption | omega | exact B256_one' | exact B256_zero) :
    Does Tryz.prog w0 gs K L (.binOp .eql 24 x y yt) ty (.bool (decide (a = b))) := by
  intro ac w hk _ o ho _
  have h1 := run_eq_num ha hb w
  simp only [execOp, ho, hk.eval hx, hk.eval hy, Sem.run_bind, run_eqGuard_num, Result.andThen_ok, h1, Sem.run_pure]
  rfl
theorem a_neqNum {x y : Operand} {yt ty : TypeId} {a b : Nat} (hx : ev K x = some (numV a) := by rfl) (hy : ev K y = some (numV b) := by rfl) (ha : a < B256 := by first | assumption | omega | exact B256_one' | exact B256_zero) (hb : b < B256 := by first | assumption | omega | exact B256_one' | exact B256_zero) :
    Does Tryz.prog w0 gs K L (.binOp .neq 24 x y yt) ty (.bool (decide (a ≠ b))) := by
  intro ac w hk _ o ho _
  have h1 := run_eqin_num ha hb w
  have h2 : (binOp .neq 24 (numV a) (numV b)).run Tryz.prog w = .ok (.bool (!eqN a b)) w := by
    show ((do pure (.bool (!(← Op.equal 24 (numV a) (numV b)))) : Sem Value)).run Tryz.prog w = _
    simp only [Sem.run_bind]
    show ((Op.equalIn 10000 24 (numV a) (numV b)).run Tryz.prog w).andThen _ = _
    rw [h1]; rfl
  simp only [execOp, ho, hk.eval hx, hk.eval hy, Sem.run_bind, run_eqGuard_num, Result.andThen_ok, h2, Sem.run_pure]
  simp [eqN]
end
section
variable {p q : Prop}
theorem Tc (k : p) (h : p → q := by first | exact fun k => Tb k | exact fun k => WO.does a_eqNum k | exact fun k => WO.does a_neqNum k) : q := h k
theorem Df (k : p) (h : p → q := by first | exact fun k => DQ.auto (k := k) | exact fun k => DQ.autoF (k := k) | exact fun k => DQ.does (fun s _ => a_eqNum) Dp.const k | exact fun k => DQ.does (fun s _ => a_neqNum) Dp.const k) : q := h k
theorem Dc (k : p) (h : p → q := by first | exact fun k => DQ.auto (k := k) | exact fun k => DQ.does (fun s _ => a_eqNum) Dp.const k | exact fun k => DQ.does (fun s _ => a_neqNum) Dp.const k) : q := h k
end
end Sx
end Go.Proofs.YtakkmakilfodoaaGreat

/- shas.mix, math/bits.RotateLeft32 -/
namespace Go.Proofs.YtakkmakilfodoaaGreat
open Go Go.RowKit
namespace Sx
attribute [local irreducible] wd DQ DQS WO WC WX
set_option maxHeartbeats 1000000 in
theorem c_Rot (x n : Nat) (hx : x < 4294967296) (h0 : 0 < n) (hn : n < 32) : Fn Tryz.prog 162 [.int .u32 (x : Int), .int .i64 (-((n : Nat) : Int))] Tr (Is (.int .u32 ((Sha.rotr n x : Nat) : Int))) := by
  have h1 := neg_u64 h0 hn
  have h2 := and31 h0 hn
  have h3 : IntKind.u64.wrap (32 - ((32 - n : Nat) : Int)) = ((n : Nat) : Int) := u64_in' (by omega) (by omega) (by omega)
  have h4 : IntKind.u32.wrap (((BitVec.ofInt IntKind.u32.bits ((x * 2 ^ (32 - n) % 4294967296 : Nat) : Int) ||| BitVec.ofInt IntKind.u32.bits ((x / 2 ^ n : Nat) : Int)).toNat : Nat) : Int) = ((Sha.rotr n x : Nat) : Int) := by
    rw [or_u32 (Nat.mod_lt _ (by omega)) (Nat.lt_of_le_of_lt (Nat.div_le_self _ _) hx), Sha.rotr, Nat.or_comm]
  refine Fn.enter Tryz.func162 rfl rfl rfl ?_
  intro w hw
  repeat (first | refine Ta ?_ | (refine Tm ?_; intro _) | refine WO.does (does_conv rfl h1) ?_ | refine WO.does (does_and rfl rfl h2) ?_ | refine WO.does (does_sub rfl rfl h3) ?_ | refine WO.does (does_shl rfl rfl (by omega) (shl_u32 x (32 - n) (by omega))) ?_ | refine WO.does (does_shr rfl rfl (by omega) (shr_nat (by show n ≤ 32; omega))) ?_ | refine WO.does (does_or rfl rfl h4) ?_ | refine Tc ?_ | exact Tz)
set_option maxHeartbeats 1000000 in
theorem c_mix (x b c : Nat) (ns : List Nat) (hx : x < 4294967296) (hns : ∀ n ∈ ns, 0 < n ∧ n < 32) (hl : ns.length ≤ 100) :
    Fn Tryz.prog 156 [.int .u32 (x : Int), .slice (some ⟨b, 0, none⟩) ns.length c] (fun w => Seg w b 0 (inC ns)) (Is (.int .u32 ((mixN x ns : Nat) : Int))) := by
  refine Fn.enter Tryz.func156 rfl rfl rfl ?_
  intro w hw
  repeat (first | refine Ta ?_ | (refine Tm ?_; intro _) | refine Tc ?_ | exact Tz)
  refine WC.loopI (σ := Nat) (fun i => i ≤ ns.length) (fun i => [(0, .int .u32 (x : Int)), (4, .int .u32 ((mixN x (ns.take i) : Nat) : Int)), (7, .slice (some ⟨b, 0, none⟩) ns.length c), (8, .int .i64 (ns.length : Int)), (9, .int .i64 (i : Int))]) (fun _ => []) (fun i => ns.length - i) 0 (fun i hi => ?_) (Nat.zero_le _)
  try dsimp only at hi ⊢
  by_cases hlt : i < ns.length
  · have hget : (inC ns)[i - 0]? = some (.int .i64 ((ns[i] : Nat) : Int)) := by rw [Nat.sub_zero]; exact inC_get hlt
    have hn := hns _ (List.getElem_mem hlt)
    have hR := c_Rot x ns[i] hx hn.1 hn.2
    have hnext : mixN x (ns.take i) ^^^ Sha.rotr ns[i] x = mixN x (ns.take (i + 1)) := by rw [List.take_succ_eq_append_getElem hlt, mixN_snoc]
    have hneg : IntKind.i64.wrap (0 - ((ns[i] : Nat) : Int)) = -((ns[i] : Nat) : Int) := i64_in' (by omega) (by omega) (by omega)
    have hxor := xor_u32 (mixN_lt hx (ns.take i)) (rotr_lt (n := ns[i]) hx)
    rw [hnext] at hxor
    repeat (first | refine Ta ?_ | (refine Tm ?_; intro _) | refine Tc ?_ | exact Tz)
    refine WC.dT rfl (by omega) ?_
    repeat (first | refine Ta ?_ | (refine Tm ?_; intro _) | refine WO.acall (hc := hR) (k := ?_) | (refine WO.does (does_neg rfl) ?_; rw [hneg]) | refine WO.does (does_xor rfl rfl hxor) ?_ | refine Tc ?_ | exact Tz)
    refine WX.metI (i + 1) (hs := ⟨by show i + 1 ≤ ns.length; omega, by show ns.length - (i + 1) < ns.length - i; omega⟩)
  · have hii : i = ns.length := by omega
    have hv : mixN x (ns.take i) = mixN x ns := by rw [hii, List.take_length]
    rw [hv]
    repeat (first | refine Ta ?_ | (refine Tm ?_; intro _) | refine Tc ?_ | exact Tz)
    refine WC.dF rfl (by omega) ?_
    repeat (first | refine Ta ?_ | (refine Tm ?_; intro _) | refine Tc ?_ | exact Tz)
end Sx
end Go.Proofs.YtakkmakilfodoaaGreat

/- shas: begin, steps, New; a rule for calls in drawn heads that read a row made there -/
namespace Go.Proofs.YtakkmakilfodoaaGreat
open Go Go.RowKit Go.BigFrame
namespace Sx
attribute [local irreducible] wd DQ DQS WO WC WX
section
open Kp
variable {P : Program} {w0 : World} {gs : List Nat} {n : Nat} {fl : List Nat} {Q : Exit → Act → World → Prop} {ops : List Oper} {L0 : List Ent}
variable {tail rest : List Oper} {i : Nat} {C : Nums → Prop} {K : Nums → List (Nat × Value)} {N : Nums → List (Nat × Ent)}
variable {d : Nat} {op : Op} {ty : TypeId} {pos : String} {after : Array Edge} {gd : Option (Nat × Bool)}
theorem DQ.acallB {f : FuncId} [Cal P f] {xs : Array Operand} {ats : Array TypeId} {vs : Nums → List Value} {R : Nums → World → Prop} {v : Value} (j : Nat) (e : Nums → Ent) (hc : ∀ s, Fn P f (vs s) (R s) (Is v)) (hR : ∀ s w, Mr w0 gs (e s :: L0) w → R s w)
    (k : DQ P w0 gs n fl Q ops L0 tail (i + 1) rest C (fun s => (d, v) :: K s) N) (ha : ∀ s, evs (K s) xs.toList = some (vs s) := by (intro s; rfl)) (hm : ∀ s, (j, e s) ∈ N s := by (intro s; repeat (first | exact .head _ | apply List.Mem.tail)))
    (hanc : anc ops i j = true := by decide +kernel) (hfl : fl.contains i = false := by rfl) (hw : ∀ s, wk ops (K s) gd = some true := by intro _; rfl) (hd : Nat.blt d n = true := by rfl) :
    DQ P w0 gs n fl Q ops L0 tail i (⟨some d, .call { callee := .value (.func f), args := xs, argTypes := ats }, ty, pos, after, gd⟩ :: rest) C K N :=
  DQ.callE (v := fun _ => v) (fun s => [e s]) (fun s => .cons j (hm s) hanc .nil) (fun s _ => hc s) ha (fun s _ w h => hR s w h) Dp.const k hfl hw hd
end
theorem c_begin : Fn Tryz.prog 101 [] Tr (Is (.agg (w3C Sha.H0).toArray)) := by
  refine Fn.enter Tryz.func101 rfl rfl rfl ?_
  intro w hw
  repeat (first | refine Ta ?_ | (refine Tm ?_; intro _) | refine Tc ?_ | exact Tz)
set_option maxRecDepth 100000 in
set_option maxHeartbeats 1000000 in
theorem c_steps : Fn Tryz.prog 157 [] Tr (Is (.agg (w3C Sha.K).toArray)) := by
  refine Fn.enter Tryz.func157 rfl rfl rfl ?_
  intro w hw
  repeat (first | refine Ta ?_ | (refine Tm ?_; intro _) | refine WO.does (does_buildA (cs := w3C Sha.K) rfl rfl (by kernel_rfl)) ?_ | refine Tc ?_ | exact Tz)
end Sx
end Go.Proofs.YtakkmakilfodoaaGreat

/- Symbolic execution, part 22: calls in drawn heads whose answer is a new row of bytes. No program is in sight here. -/
namespace Go.Proofs.YtakkmakilfodoaaGreat
open Go Go.RowKit Go.BigFrame
namespace Sx
/-- the bytes that numbers tell -/
def rz (x : Nat → Nat) : List Nat := (List.range (x 2)).map fun j => x (3 + j)
def zr (g c : Nat) (R : List Nat) : Nat → Nat
  | 0 => g
  | 1 => c
  | 2 => R.length
  | j + 3 => R.getD j 0
theorem rz_zr (g c : Nat) (R : List Nat) : rz (zr g c R) = R := by
  unfold rz
  apply List.ext_getElem
  · simp [zr]
  · intro i h1 h2
    simp [zr, show 3 + i = i + 3 by omega, List.getD, h2]
theorem Fn.exZ {P : Program} {f : FuncId} {fs : List Value} {R : World → Prop} {t : Nat} {X : List Nat} (h : Fn P f fs R (NewZ t X)) :
    Fn P f fs R (Ex (fun x => .slice (some ⟨x 0, 0, none⟩) X.length (x 1)) (fun x => [⟨x 0, t, byC (X ++ rz x)⟩]) (fun x => (X ++ rz x).length = x 1 ∧ x 1 < 9223372036854775808)) :=
  Fn.weak h (fun _ h => h) (fun v N ⟨g, c, R, e1, e2, h1, h2⟩ => ⟨zr g c R, e1, by show N = [⟨g, t, byC (X ++ rz (zr g c R))⟩]; rw [rz_zr]; exact e2, by show (X ++ rz (zr g c R)).length = c ∧ c < 9223372036854775808; rw [rz_zr]; exact ⟨h1, h2⟩⟩)
section
open Kp
variable {P : Program} {w0 : World} {gs : List Nat} {n : Nat} {fl : List Nat} {Q : Exit → Act → World → Prop} {ops : List Oper} {L0 : List Ent}
variable {tail rest : List Oper} {i : Nat} {C : Nums → Prop} {K : Nums → List (Nat × Value)} {N : Nums → List (Nat × Ent)}
variable {d : Nat} {op : Op} {ty : TypeId} {pos : String} {after : Array Edge} {gd : Option (Nat × Bool)}
/-- of a callee that asks nothing of memory -/
theorem DQ.acallZ {f : FuncId} [Cal P f] {xs : Array Operand} {ats : Array TypeId} {vs : List Value} {Rq : World → Prop} {t : Nat} {X : List Nat} (hc : Fn P f vs Rq (NewZ t X)) (hR : ∀ w, Rq w) (hX : X.length < 9223372036854775808) (ha : ∀ s, evs (K s) xs.toList = some vs := by (intro s; rfl))
    (k : DQ P w0 gs n fl Q ops L0 tail (i + 1) rest (fun s => C s ∧ ((X ++ rz (s i)).length = s i 1 ∧ s i 1 < 9223372036854775808)) (fun s => (d, .slice (some ⟨s i 0, 0, none⟩) X.length (s i 1)) :: K s) (fun s => (i, ⟨s i 0, t, byC (X ++ rz (s i))⟩) :: N s))
    (hfl : fl.contains i = false := by rfl) (hw : ∀ s, wk ops (K s) gd = some true := by intro _; rfl) (hd : Nat.blt d n = true := by rfl) :
    DQ P w0 gs n fl Q ops L0 tail i (⟨some d, .call { callee := .value (.func f), args := xs, argTypes := ats }, ty, pos, after, gd⟩ :: rest) C K N :=
  DQ.callsE (fs := fun _ => []) (cs := fun _ => []) (R := fun _ => Rq) (vf := fun _ x => .slice (some ⟨x 0, 0, none⟩) X.length (x 1)) (Nf := fun _ x => [⟨x 0, t, byC (X ++ rz x)⟩]) (S := fun _ x => (X ++ rz x).length = x 1 ∧ x 1 < 9223372036854775808) (fun _ => []) (fun _ => .nil)
    (fun _ => ⟨zr 0 X.length [], by show (X ++ rz (zr 0 X.length [])).length = X.length ∧ X.length < 9223372036854775808; rw [rz_zr]; exact ⟨by simp, hX⟩⟩) (fun _ _ => hc.exZ) (fun _ => rfl) ha (fun _ => by simp) (fun _ _ w _ => hR w) Dp.const Dp.const Dp.const k hfl hw hd
end
end Sx
end Go.Proofs.YtakkmakilfodoaaGreat

/- Symbolic execution, part 23: rows of structs that are read or copied whole; answers that are such rows with one place more. No program is in sight here. -/
namespace Go.Proofs.YtakkmakilfodoaaGreat
open Go Go.RowKit Go.BigFrame
namespace Sx
/-- in the world w the slice v reads as xs, each element by its cells -/
def RdF {α : Type} (f : α → List Value) (v : Value) (xs : List α) (w : World) : Prop :=
  ∃ pt c, v = .slice pt xs.length c ∧ ((pt = none ∧ xs = []) ∨ ∃ b o, pt = some ⟨b, o, none⟩ ∧ Seg w b o (xs.flatMap f))
theorem RdF.mod {α : Type} {f : α → List Value} {v : Value} {xs : List α} {w w' : World} (h : RdF f v xs w) (hm : Mod [] w w') : RdF f v xs w' := by
  obtain ⟨pt, c, e, h⟩ := h
  exact ⟨pt, c, e, h.imp id (fun ⟨b, o, e2, hs⟩ => ⟨b, o, e2, hs.mod hm (by simp)⟩)⟩
theorem RdF.seg {α : Type} {f : α → List Value} {xs : List α} {w : World} {b o c : Nat} {r : List Value} (h : Seg w b o (xs.flatMap f ++ r)) : RdF f (.slice (some ⟨b, o, none⟩) xs.length c) xs w :=
  ⟨_, c, rfl, .inr ⟨b, o, rfl, fun i v hv => h i v (by rw [List.getElem?_append_left (by rcases Nat.lt_or_ge i (xs.flatMap f).length with h1 | h1; exact h1; rw [List.getElem?_eq_none h1] at hv; cases hv)]; exact hv)⟩⟩
/-- the answer is a slice of n elements, room for c, of a new row of these cells -/
def NewC (t n c : Nat) (cs : List Value) : Value → List Ent → Prop := fun v N => ∃ g, v = .slice (some ⟨g, 0, none⟩) n c ∧ N = [⟨g, t, cs⟩]
theorem Fn.exC {P : Program} {f : FuncId} {fs : List Value} {R : World → Prop} {t n c : Nat} {cs : List Value} (h : Fn P f fs R (NewC t n c cs)) :
    Fn P f fs R (Ex (fun x => .slice (some ⟨x 0, 0, none⟩) n c) (fun x => [⟨x 0, t, cs⟩]) (fun _ => True)) :=
  Fn.weak h (fun _ h => h) (fun v N ⟨g, e1, e2⟩ => ⟨fun _ => g, e1, e2, trivial⟩)
section
variable {P : Program} {w0 : World} {gs : List Nat} {n : Nat} {ops : List Oper} {Q : Exit → Act → World → Prop} {K : List (Nat × Value)} {L : List Ent} {rest : List Oper}
variable {d : Nat} {op : Op} {ty : TypeId} {pos : String} {after : Array Edge} {gd : Option (Nat × Bool)}
theorem WX.retC {fn : Func} {r : ResultVar} {g t m c : Nat} {cs : List Value} {L' : List Ent} (hfn : fn.results = #[r] := by rfl) (hr : Rv P w0 [] K L r (.slice (some ⟨g, 0, none⟩) m c) := by exact rv_tmp rfl) (hN : Pk L g t cs L' := by (repeat (first | exact Pk.here | apply Pk.there))) :
    WX w0 [] n .ret (bodyPost P fn (FnPost w0 (NewC t m c cs))) K L := WX.ret1 hfn hr [⟨g, t, cs⟩] ⟨cs, L', hN, rfl, trivial⟩ ⟨g, rfl, rfl⟩
end
section
open Kp
variable {P : Program} {w0 : World} {gs : List Nat} {n : Nat} {fl : List Nat} {Q : Exit → Act → World → Prop} {ops : List Oper} {L0 : List Ent}
variable {tail rest : List Oper} {i : Nat} {C : Nums → Prop} {K : Nums → List (Nat × Value)} {N : Nums → List (Nat × Ent)}
variable {d : Nat} {op : Op} {ty : TypeId} {pos : String} {after : Array Edge} {gd : Option (Nat × Bool)}
/-- in a drawn head: of a callee that reads what stood there -/
theorem DQ.acallC {f : FuncId} [Cal P f] {xs : Array Operand} {ats : Array TypeId} {vs : List Value} {Rq : World → Prop} {t m c : Nat} {cs : List Value} (hc : Fn P f vs Rq (NewC t m c cs)) (hR : ∀ w, Mr w0 gs L0 w → Rq w)
    (k : DQ P w0 gs n fl Q ops L0 tail (i + 1) rest (fun s => C s ∧ True) (fun s => (d, .slice (some ⟨s i 0, 0, none⟩) m c) :: K s) (fun s => (i, ⟨s i 0, t, cs⟩) :: N s)) (ha : ∀ s, evs (K s) xs.toList = some vs := by (intro s; rfl))
    (hfl : fl.contains i = false := by rfl) (hw : ∀ s, wk ops (K s) gd = some true := by intro _; rfl) (hd : Nat.blt d n = true := by rfl) :
    DQ P w0 gs n fl Q ops L0 tail i (⟨some d, .call { callee := .value (.func f), args := xs, argTypes := ats }, ty, pos, after, gd⟩ :: rest) C K N :=
  DQ.callsE (fs := fun _ => []) (cs := fun _ => []) (R := fun _ => Rq) (vf := fun _ x => .slice (some ⟨x 0, 0, none⟩) m c) (Nf := fun _ x => [⟨x 0, t, cs⟩]) (S := fun _ _ => True) (fun _ => []) (fun _ => .nil)
    (fun _ => ⟨fun _ => 0, trivial⟩) (fun _ _ => hc.exC) (fun _ => rfl) ha (fun _ => by simp) (fun _ _ w h => hR w h) Dp.const Dp.const Dp.const k hfl hw hd
end
/-! ## rows of elements -/
theorem flat_length {α : Type} {f : α → List Value} {k : Nat} (hk : ∀ x, (f x).length = k) : ∀ xs : List α, (xs.flatMap f).length = xs.length * k
  | [] => by simp
  | x :: r => by simp [hk, flat_length hk r, Nat.add_mul]; omega
theorem mkz_drop {z : List Value} (m : Nat) : (mkz (m + 1) z).drop z.length = mkz m z := by
  unfold mkz
  rw [List.replicate_succ, List.flatten_cons, List.drop_left]
/-- one element more behind the first i -/
theorem over_twin {α : Type} {f : α → List Value} {xs : List α} {i m k : Nat} {x : α} {z : List Value} (hk : ∀ x, (f x).length = k) (hz : z.length = k) (hx : xs[i]? = some x) (hm : 0 < m) :
    over ((xs.take i).flatMap f ++ mkz m z) (i * z.length) (f x) = (xs.take (i + 1)).flatMap f ++ mkz (m - 1) z := by
  have hi : i < xs.length := by
    rcases Nat.lt_or_ge i xs.length with h | h
    · exact h
    · rw [List.getElem?_eq_none h] at hx; cases hx
  have hl : ((xs.take i).flatMap f).length = i * z.length := by
    rw [flat_length hk, List.length_take, hz, Nat.min_eq_left (by omega)]
  have e := over_end (xs := (xs.take i).flatMap f) (r := mkz m z) (ys := f x)
  rw [hl] at e
  rw [e, List.take_add_one, hx]
  obtain ⟨m', rfl⟩ : ∃ m', m = m' + 1 := ⟨m - 1, by omega⟩
  have hd := mkz_drop (z := z) m'
  rw [show z.length = (f x).length by rw [hk, hz]] at hd
  rw [hd]
  simp
/-- the last place -/
theorem over_spare {α : Type} {f : α → List Value} {xs : List α} {k : Nat} {z s : List Value} (hk : ∀ x, (f x).length = k) (hz : z.length = k) (hs : s.length = k) :
    over (xs.flatMap f ++ mkz 1 z) (xs.length * z.length) s = xs.flatMap f ++ s := by
  have hl : (xs.flatMap f).length = xs.length * z.length := by rw [flat_length hk, hz]
  have e := over_end (xs := xs.flatMap f) (r := mkz 1 z) (ys := s)
  rw [hl] at e
  rw [e]
  have : (mkz 1 z).drop s.length = [] := by
    apply List.drop_of_length_le
    rw [mkz_length, hs, hz]; omega
  rw [this, List.append_nil]
theorem cut_flatS {α : Type} {f : α → List Value} {k : Nat} {xs : List α} {r : List Value} : cut (xs.flatMap f ++ r) (xs.flatMap f).length r.length = r := by
  unfold cut
  rw [List.drop_left, List.take_of_length_le (Nat.le_refl _)]
end Sx
end Go.Proofs.YtakkmakilfodoaaGreat
