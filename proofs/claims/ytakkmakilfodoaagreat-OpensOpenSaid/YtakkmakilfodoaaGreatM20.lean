/- Part 20 of the proof: MdA, MdB, MdC, MdD, Inv -/
import Derived.Test.YtakkmakilfodoaaGreatM18
set_option linter.unusedSimpArgs false
set_option linter.unusedVariables false
/- mods: what is done by a modulus: the three closures, (deed).of, Add, Sub, Mul. -/
namespace Go.Proofs.YtakkmakilfodoaaGreat
open Go Go.RowKit
namespace Sx
attribute [local irreducible] wd DQ DQS WO WC WX
theorem cmpN_lt {a b : Nat} (h : a < b) : cmpN a b = -1 := by unfold cmpN; rw [if_neg (by omega), if_pos h]
theorem cmpN_gt {a b : Nat} (h : b < a) : cmpN a b = 1 := by unfold cmpN; rw [if_neg (by omega), if_neg (by omega)]
theorem cmpN_eq {a b : Nat} (h : a = b) : cmpN a b = 0 := by unfold cmpN; rw [if_pos h]
theorem add_casesN {a b m : Nat} (ha : a < m) (hb : b < m) (hm : m < B256) :
    ((a + b) / B256 = 0 ∧ bw ((a + b) % B256) m 0 = 1 ∧ (a + b) % m = (a + b) % B256) ∨
    ((a + b) / B256 = 1 ∧ (a + b) % m = ((a + b) % B256 + B256 - m) % B256) ∨
    ((a + b) / B256 = 0 ∧ bw ((a + b) % B256) m 0 = 0 ∧ (a + b) % m = ((a + b) % B256 + B256 - m) % B256) := by
  by_cases hc : a + b < B256
  · have e : (a + b) % B256 = a + b := Nat.mod_eq_of_lt hc
    rw [e]
    have e0 : (a + b) / B256 = 0 := Nat.div_eq_of_lt hc
    by_cases h : a + b < m
    · exact .inl ⟨e0, by simp [bw]; omega, Nat.mod_eq_of_lt h⟩
    · refine .inr (.inr ⟨e0, by simp [bw]; omega, ?_⟩)
      rw [Nat.mod_eq_sub_mod (by omega), Nat.mod_eq_of_lt (by omega), show a + b + B256 - m = (a + b - m) + B256 by omega, Nat.add_mod_right, Nat.mod_eq_of_lt (by omega)]
  · have e : (a + b) % B256 = a + b - B256 := by rw [Nat.mod_eq_sub_mod (by omega), Nat.mod_eq_of_lt (by omega)]
    refine .inr (.inl ⟨?_, ?_⟩)
    · rw [Nat.div_eq_iff B256_zero]; omega
    · rw [e, Nat.mod_eq_sub_mod (by omega), Nat.mod_eq_of_lt (by omega), show a + b - B256 + B256 - m = a + b - m by omega, Nat.mod_eq_of_lt (by omega)]
theorem sub_casesN {a b m : Nat} (ha : a < m) (hb : b < m) (hm : m < B256) :
    (bw a b 0 = 0 ∧ (a + m - b) % m = (a + B256 - b) % B256) ∨ (bw a b 0 = 1 ∧ (a + m - b) % m = ((a + B256 - b) % B256 + m) % B256) := by
  by_cases h : a < b
  · refine .inr ⟨by simp [bw]; omega, ?_⟩
    rw [Nat.mod_eq_of_lt (by omega : a + m - b < m), Nat.mod_eq_of_lt (by omega : a + B256 - b < B256), show a + B256 - b + m = (a + m - b) + B256 by omega, Nat.add_mod_right, Nat.mod_eq_of_lt (by omega)]
  · refine .inl ⟨by simp [bw]; omega, ?_⟩
    rw [show a + m - b = (a - b) + m by omega, Nat.add_mod_right, Nat.mod_eq_of_lt (by omega), show a + B256 - b = (a - b) + B256 by omega, Nat.add_mod_right, Nat.mod_eq_of_lt (by omega)]
theorem bw_two (a b c : Nat) : bw a b c = 0 ∨ bw a b c = 1 := by unfold bw; split <;> simp
theorem c_Add1 (a b m : Nat) (ha : a < m) (hb : b < m) (hm : m < B256) : Fn Tryz.prog 128 [numV a, numV b, numV m] Tr (Is (numV ((a + b) % m))) := by
  have hc := add_casesN ha hb hm
  have hA := c_LAdd a b (by omega) (by omega)
  have hS := c_LSub ((a + b) % B256) m (Nat.mod_lt _ B256_zero) hm
  have hl := bw_two ((a + b) % B256) m 0
  generalize (a + b) % m = R at *
  generalize (a + b) / B256 = c at *
  generalize ((a + b) % B256 + B256 - m) % B256 = y at *
  generalize bw ((a + b) % B256) m 0 = l at *
  generalize (a + b) % B256 = X at *
  rcases hc with ⟨rfl, rfl, rfl⟩ | ⟨rfl, rfl⟩ | ⟨rfl, rfl, rfl⟩
  · refine Fn.enter Tryz.func128 rfl rfl rfl ?_
    intro w hw
    repeat (first | refine Ta ?_ | (refine Tm ?_; intro _) | refine WO.acall (hc := hA) (k := ?_) | refine WO.acall (hc := hS) (k := ?_) | refine Tc ?_ | exact Tz)
  · rcases hl with rfl | rfl
    all_goals
      refine Fn.enter Tryz.func128 rfl rfl rfl ?_
      intro w hw
      repeat (first | refine Ta ?_ | (refine Tm ?_; intro _) | refine WO.acall (hc := hA) (k := ?_) | refine WO.acall (hc := hS) (k := ?_) | refine Tc ?_ | exact Tz)
  · refine Fn.enter Tryz.func128 rfl rfl rfl ?_
    intro w hw
    repeat (first | refine Ta ?_ | (refine Tm ?_; intro _) | refine WO.acall (hc := hA) (k := ?_) | refine WO.acall (hc := hS) (k := ?_) | refine Tc ?_ | exact Tz)
theorem c_Sub1 (a b m : Nat) (ha : a < m) (hb : b < m) (hm : m < B256) : Fn Tryz.prog 135 [numV a, numV b, numV m] Tr (Is (numV ((a + m - b) % m))) := by
  have hc := sub_casesN ha hb hm
  have hS := c_LSub a b (by omega) (by omega)
  have hA := c_LAdd ((a + B256 - b) % B256) m (Nat.mod_lt _ B256_zero) hm
  generalize (a + m - b) % m = R at *
  generalize ((a + B256 - b) % B256 + m) / B256 = c at *
  generalize ((a + B256 - b) % B256 + m) % B256 = y at *
  generalize bw a b 0 = l at *
  generalize (a + B256 - b) % B256 = X at *
  rcases hc with ⟨rfl, rfl⟩ | ⟨rfl, rfl⟩
  all_goals
    refine Fn.enter Tryz.func135 rfl rfl rfl ?_
    intro w hw
    repeat (first | refine Ta ?_ | (refine Tm ?_; intro _) | refine WO.acall (hc := hA) (k := ?_) | refine WO.acall (hc := hS) (k := ?_) | refine Tc ?_ | exact Tz)

def okE (c : Bool) : Int := if c then 0 else 1
def okV (c : Bool) (r : Nat) : Nat := if c then r else 0
def mayN (a b m : Nat) : Bool := decide (1 < m) && decide (a < m) && decide (b < m)
theorem mayN_cases (a b m : Nat) : (1 < m ∧ a < m ∧ b < m ∧ mayN a b m = true ∧ cmpN m 1 = 1 ∧ cmpN a m = -1 ∧ cmpN b m = -1) ∨
    (mayN a b m = false ∧ ((cmpN m 1 = 0 ∨ cmpN m 1 = -1) ∨ (cmpN m 1 = 1 ∧ (cmpN a m = 0 ∨ cmpN a m = 1)) ∨ (cmpN m 1 = 1 ∧ cmpN a m = -1 ∧ (cmpN b m = 0 ∨ cmpN b m = 1)))) := by
  unfold mayN cmpN
  by_cases h1 : 1 < m
  · by_cases h2 : a < m
    · by_cases h3 : b < m
      · refine .inl ⟨h1, h2, h3, by simp [h1, h2, h3], ?_, ?_, ?_⟩
        · rw [if_neg (by omega), if_neg (by omega)]
        · rw [if_neg (by omega), if_pos h2]
        · rw [if_neg (by omega), if_pos h3]
      · refine .inr ⟨by simp [h3], .inr (.inr ⟨?_, ?_, ?_⟩)⟩
        · rw [if_neg (by omega), if_neg (by omega)]
        · rw [if_neg (by omega), if_pos h2]
        · by_cases e : b = m
          · exact .inl (if_pos e)
          · exact .inr (by rw [if_neg e, if_neg h3])
    · refine .inr ⟨by simp [h2], .inr (.inl ⟨?_, ?_⟩)⟩
      · rw [if_neg (by omega), if_neg (by omega)]
      · by_cases e : a = m
        · exact .inl (if_pos e)
        · exact .inr (by rw [if_neg e, if_neg h2])
  · refine .inr ⟨by simp [h1], .inl ?_⟩
    by_cases e : m = 1
    · exact .inl (if_pos e)
    · exact .inr (by rw [if_neg e, if_pos (by omega)])
set_option maxHeartbeats 1000000 in
/-- (deed).of -/
theorem c_of {f : Nat} [Cal Tryz.prog f] (caps : List Value) (a b m r : Nat) (ha : a < B256) (hb : b < B256) (hm : m < B256) (R : World → Prop) (hst : Stable R)
    (hf : mayN a b m = true → Fn Tryz.prog f ([numV a, numV b, numV m] ++ caps) R (Is (numV r))) :
    Fn Tryz.prog 92 [.agg #[.func (.func f) #[] caps.toArray], numV a, numV b, numV m] R (Is (.tuple #[numV (okV (mayN a b m) r), .int .i64 (okE (mayN a b m))])) := by
  have hC1 := c_Cmp m 1 hm B256_one'
  have hC2 := c_Cmp a m ha hm
  have hC3 := c_Cmp b m hb hm
  rcases mayN_cases a b m with ⟨h1, h2, h3, hy, e1, e2, e3⟩ | ⟨hn, hc⟩
  · have hF := hf hy
    rw [hy]
    rw [e1] at hC1; rw [e2] at hC2; rw [e3] at hC3
    refine Fn.enter Tryz.func92 rfl rfl rfl ?_
    intro w hw
    repeat (first | refine Ta ?_ | (refine Tm ?_; intro _) | refine Tc ?_ | exact Tz)
    refine WC.adraw 16 (k := ?_)
    repeat (first | refine Da ?_ | refine DQ.acall (hc := c_Of1) (k := ?_) | refine DQ.acall (hc := hC1) (k := ?_) | refine DQ.acall (hc := hC2) (k := ?_) | refine DQ.acall (hc := hC3) (k := ?_) | refine Dc ?_)
    refine DQ.anil (k := ?_)
    intro sx _
    repeat (first | refine Ta ?_ | (refine Tm ?_; intro _) | refine WO.acallV (hc := hF) (hR := fun w' hm => hst _ _ hw hm.mod.below) (k := ?_) | refine Tc ?_ | exact Tz)
  · rw [hn]
    rcases hc with (e1 | e1) | ⟨e1, e2 | e2⟩ | ⟨e1, e2, e3 | e3⟩
    · rw [e1] at hC1
      refine Fn.enter Tryz.func92 rfl rfl rfl ?_
      intro w hw
      repeat (first | refine Ta ?_ | (refine Tm ?_; intro _) | refine Tc ?_ | exact Tz)
      refine WC.adraw 16 (k := ?_)
      repeat (first | refine Da ?_ | refine DQ.acall (hc := c_Of1) (k := ?_) | refine DQ.acall (hc := hC1) (k := ?_) | refine DQ.acall (hc := hC2) (k := ?_) | refine DQ.acall (hc := hC3) (k := ?_) | refine Dc ?_)
      refine DQ.anil (k := ?_)
      intro sx _
      repeat (first | refine Ta ?_ | (refine Tm ?_; intro _) | refine Tc ?_ | exact Tz)
    · rw [e1] at hC1
      refine Fn.enter Tryz.func92 rfl rfl rfl ?_
      intro w hw
      repeat (first | refine Ta ?_ | (refine Tm ?_; intro _) | refine Tc ?_ | exact Tz)
      refine WC.adraw 16 (k := ?_)
      repeat (first | refine Da ?_ | refine DQ.acall (hc := c_Of1) (k := ?_) | refine DQ.acall (hc := hC1) (k := ?_) | refine DQ.acall (hc := hC2) (k := ?_) | refine DQ.acall (hc := hC3) (k := ?_) | refine Dc ?_)
      refine DQ.anil (k := ?_)
      intro sx _
      repeat (first | refine Ta ?_ | (refine Tm ?_; intro _) | refine Tc ?_ | exact Tz)
    · rw [e1] at hC1; rw [e2] at hC2
      refine Fn.enter Tryz.func92 rfl rfl rfl ?_
      intro w hw
      repeat (first | refine Ta ?_ | (refine Tm ?_; intro _) | refine Tc ?_ | exact Tz)
      refine WC.adraw 16 (k := ?_)
      repeat (first | refine Da ?_ | refine DQ.acall (hc := c_Of1) (k := ?_) | refine DQ.acall (hc := hC1) (k := ?_) | refine DQ.acall (hc := hC2) (k := ?_) | refine DQ.acall (hc := hC3) (k := ?_) | refine Dc ?_)
      refine DQ.anil (k := ?_)
      intro sx _
      repeat (first | refine Ta ?_ | (refine Tm ?_; intro _) | refine Tc ?_ | exact Tz)
    · rw [e1] at hC1; rw [e2] at hC2
      refine Fn.enter Tryz.func92 rfl rfl rfl ?_
      intro w hw
      repeat (first | refine Ta ?_ | (refine Tm ?_; intro _) | refine Tc ?_ | exact Tz)
      refine WC.adraw 16 (k := ?_)
      repeat (first | refine Da ?_ | refine DQ.acall (hc := c_Of1) (k := ?_) | refine DQ.acall (hc := hC1) (k := ?_) | refine DQ.acall (hc := hC2) (k := ?_) | refine DQ.acall (hc := hC3) (k := ?_) | refine Dc ?_)
      refine DQ.anil (k := ?_)
      intro sx _
      repeat (first | refine Ta ?_ | (refine Tm ?_; intro _) | refine Tc ?_ | exact Tz)
    · rw [e1] at hC1; rw [e2] at hC2; rw [e3] at hC3
      refine Fn.enter Tryz.func92 rfl rfl rfl ?_
      intro w hw
      repeat (first | refine Ta ?_ | (refine Tm ?_; intro _) | refine Tc ?_ | exact Tz)
      refine WC.adraw 16 (k := ?_)
      repeat (first | refine Da ?_ | refine DQ.acall (hc := c_Of1) (k := ?_) | refine DQ.acall (hc := hC1) (k := ?_) | refine DQ.acall (hc := hC2) (k := ?_) | refine DQ.acall (hc := hC3) (k := ?_) | refine Dc ?_)
      refine DQ.anil (k := ?_)
      intro sx _
      repeat (first | refine Ta ?_ | (refine Tm ?_; intro _) | refine Tc ?_ | exact Tz)
    · rw [e1] at hC1; rw [e2] at hC2; rw [e3] at hC3
      refine Fn.enter Tryz.func92 rfl rfl rfl ?_
      intro w hw
      repeat (first | refine Ta ?_ | (refine Tm ?_; intro _) | refine Tc ?_ | exact Tz)
      refine WC.adraw 16 (k := ?_)
      repeat (first | refine Da ?_ | refine DQ.acall (hc := c_Of1) (k := ?_) | refine DQ.acall (hc := hC1) (k := ?_) | refine DQ.acall (hc := hC2) (k := ?_) | refine DQ.acall (hc := hC3) (k := ?_) | refine Dc ?_)
      refine DQ.anil (k := ?_)
      intro sx _
      repeat (first | refine Ta ?_ | (refine Tm ?_; intro _) | refine Tc ?_ | exact Tz)
end Sx
end Go.Proofs.YtakkmakilfodoaaGreat

/- mods: Add, Sub, Mul, and powers. -/
namespace Go.Proofs.YtakkmakilfodoaaGreat
open Go Go.RowKit
namespace Sx
attribute [local irreducible] wd DQ DQS WO WC WX
theorem mayN_spec {a b m : Nat} (h : mayN a b m = true) : 1 < m ∧ a < m ∧ b < m := by
  unfold mayN at h; simp at h; exact ⟨h.1.1, h.1.2, h.2⟩
/-- the answer of Add, Sub, Mul -/
abbrev rE (c : Bool) (r : Nat) : Value := .tuple #[numV (okV c r), .int .i64 (okE c)]
theorem c_Add (a b m : Nat) (ha : a < B256) (hb : b < B256) (hm : m < B256) : Fn Tryz.prog 86 [numV a, numV b, numV m] Tr (Is (rE (mayN a b m) ((a + b) % m))) := by
  have hO := c_of (f := 128) [] a b m ((a + b) % m) ha hb hm Tr Stable.tr (fun h => c_Add1 a b m (mayN_spec h).2.1 (mayN_spec h).2.2 hm)
  refine Fn.enter Tryz.func86 rfl rfl rfl ?_
  intro w hw
  repeat (first | refine Ta ?_ | (refine Tm ?_; intro _) | refine WO.acall (hc := hO) (k := ?_) | refine Tc ?_ | exact Tz)
theorem c_Sub (a b m : Nat) (ha : a < B256) (hb : b < B256) (hm : m < B256) : Fn Tryz.prog 90 [numV a, numV b, numV m] Tr (Is (rE (mayN a b m) ((a + m - b) % m))) := by
  have hO := c_of (f := 135) [] a b m ((a + m - b) % m) ha hb hm Tr Stable.tr (fun h => c_Sub1 a b m (mayN_spec h).2.1 (mayN_spec h).2.2 hm)
  refine Fn.enter Tryz.func90 rfl rfl rfl ?_
  intro w hw
  repeat (first | refine Ta ?_ | (refine Tm ?_; intro _) | refine WO.acall (hc := hO) (k := ?_) | refine Tc ?_ | exact Tz)
theorem c_Mul (a b m : Nat) (ha : a < B256) (hb : b < B256) (hm : m < B256) : Fn Tryz.prog 104 [numV a, numV b, numV m] Tr (Is (rE (mayN a b m) (a * b % m))) := by
  have hO := c_of (f := 91) [] a b m (a * b % m) ha hb hm Tr Stable.tr (fun h => c_times a b m (mayN_spec h).2.1 (mayN_spec h).2.2 hm)
  refine Fn.enter Tryz.func104 rfl rfl rfl ?_
  intro w hw
  repeat (first | refine Ta ?_ | (refine Tm ?_; intro _) | refine WO.acall (hc := hO) (k := ?_) | refine Tc ?_ | exact Tz)

/-! a power, bit by bit -/
def topB (n N k : Nat) : Nat := n / 2 ^ (N - k)
theorem topB_start {n N : Nat} (h : n < 2 ^ N) : topB n N 0 = 0 := Nat.div_eq_of_lt (by simpa using h)
theorem topB_end (n N : Nat) : topB n N N = n := by unfold topB; simp
theorem topB_step (n : Nat) {N k : Nat} (h : k < N) : topB n N (k + 1) = 2 * topB n N k + bitN n (N - 1 - k) := by
  unfold topB bitN
  have e : N - k = (N - 1 - k) + 1 := by omega
  have e2 : N - (k + 1) = N - 1 - k := by omega
  rw [e2, e, Nat.pow_succ, ← Nat.div_div_eq_div_mul]
  omega
theorem pow_round (a m t b : Nat) (hb : b = 0 ∨ b = 1) : a ^ (2 * t + b) % m = if b = 1 then (a ^ t % m * (a ^ t % m) % m) * a % m else a ^ t % m * (a ^ t % m) % m := by
  have h1 : a ^ (2 * t) % m = a ^ t % m * (a ^ t % m) % m := by rw [Nat.two_mul, Nat.pow_add, Nat.mul_mod]
  rcases hb with rfl | rfl
  · simpa using h1
  · rw [if_pos rfl, Nat.pow_succ, Nat.mul_mod, h1, Nat.mul_mod_mod]
theorem bitN_two (a i : Nat) : bitN a i = 0 ∨ bitN a i = 1 := by unfold bitN; omega
end Sx
end Go.Proofs.YtakkmakilfodoaaGreat

/- mods: powers, by products. -/
namespace Go.Proofs.YtakkmakilfodoaaGreat
open Go Go.RowKit
namespace Sx
attribute [local irreducible] wd DQ DQS WO WC WX
theorem lt_two_pow_bitsN (n : Nat) : n < 2 ^ bitsN n := lt_bitsN n
theorem bitsN_256 {n : Nat} (h : n < B256) : bitsN n ≤ 256 := bitsN_le (by simpa [B256] using h)
/-- what is asked of the function by which a power is made: it multiplies numbers below m -/
theorem c_powerW {f : Nat} [Cal Tryz.prog f] (caps : List Value) (a n m : Nat) (h1 : 1 < m) (ha : a < m) (hn : n < B256) (hm : m < 18446744073709551616) (R : World → Prop) (hst : Stable R)
    (hf : ∀ x y : Nat, x < m → y < m → Fn Tryz.prog f ([.int .u64 (x : Int), .int .u64 (y : Int)] ++ caps) R (Is (.int .u64 ((x * y % m : Nat) : Int)))) :
    Fn Tryz.prog 96 [.int .u64 (a : Int), .int .u64 1, numV n, .func (.func f) #[] caps.toArray] R (Is (.int .u64 ((a ^ n % m : Nat) : Int))) := by
  have hB := c_Bits n hn
  have hlt := lt_two_pow_bitsN n
  have hN := bitsN_256 hn
  have hbit : ∀ i : Int, 0 ≤ i → i ≤ 1000000 → Fn Tryz.prog 134 [numV n, .int .i64 i] Tr (Is (.int .u64 (bitN n i.toNat : Nat))) := fun i h0 h1 => c_Bit n i hn h0 h1
  have hend := topB_end n (bitsN n)
  have hst0 := topB_start hlt
  have hstep := fun k (h : k < bitsN n) => topB_step n h
  generalize bitsN n = N at *
  refine Fn.enter Tryz.func96 rfl rfl rfl ?_
  intro w hw
  repeat (first | refine Ta ?_ | (refine Tm ?_; intro _) | refine WO.acall (hc := hB) (k := ?_) | refine Tc ?_ | exact Tz)
  rename_i g6
  refine WC.loopI (σ := Nat × Nat) (fun s => s.1 ≤ N ∧ s.2 = a ^ topB n N s.1 % m) (fun s => [(0, .int .u64 (a : Int)), (3, .func (.func f) #[] caps.toArray), (6, pt g6), (9, .int .u64 (s.2 : Int)), (13, .int .i64 (N : Int)), (14, .int .i64 (s.1 : Int))]) (fun s => [⟨g6, 24, numC n⟩]) (fun s => N - s.1) (0, 1) (fun s hs => ?_) ⟨Nat.zero_le _, by rw [hst0, Nat.pow_zero, Nat.mod_eq_of_lt h1]⟩
  obtain ⟨k, x⟩ := s
  obtain ⟨hk, hx⟩ := hs
  dsimp only at hk hx ⊢
  have hxm : x < m := by rw [hx]; exact Nat.mod_lt _ (by omega)
  by_cases hlt : (k : Int) < (N : Int)
  · have hkN : k < N := by omega
    have hsq := hf x x hxm hxm
    have hma := hf (x * x % m) a (Nat.mod_lt _ (by omega)) ha
    have hbt := hbit ((N : Int) - 1 - (k : Int)) (by omega) (by omega)
    rw [show ((N : Int) - 1 - (k : Int)).toNat = N - 1 - k by omega] at hbt
    have hp := pow_round a m (topB n N k) (bitN n (N - 1 - k)) (bitN_two _ _)
    rw [← hstep k hkN, ← hx] at hp
    repeat (first | refine Ta ?_ | (refine Tm ?_; intro _) | refine Tc ?_ | exact Tz)
    refine WC.dT rfl hlt ?_
    repeat (first | refine Ta ?_ | (refine Tm ?_; intro _) | refine WO.acallV (hc := hsq) (hR := fun w' hm => hst _ _ hw hm.mod.below) (k := ?_) | refine Tc ?_ | exact Tz)
    rcases bitN_two n (N - 1 - k) with e | e
    · rw [e] at hbt hp
      refine WC.adraw 8 (k := ?_)
      repeat (first | refine Da ?_ | refine DQ.acall (hc := hB) (k := ?_) | refine DQ.acall (hc := hbt) (k := ?_) | refine Dc ?_)
      refine DQ.anil (k := ?_)
      intro sx _
      repeat (first | refine Ta ?_ | (refine Tm ?_; intro _) | refine Tc ?_ | exact Tz)
      refine WX.metI (k + 1, x * x % m) (hs := ⟨⟨by omega, by simpa using hp.symm⟩, by simp only; omega⟩)
    · rw [e] at hbt hp
      refine WC.adraw 8 (k := ?_)
      repeat (first | refine Da ?_ | refine DQ.acall (hc := hB) (k := ?_) | refine DQ.acall (hc := hbt) (k := ?_) | refine Dc ?_)
      refine DQ.anil (k := ?_)
      intro sx _
      repeat (first | refine Ta ?_ | (refine Tm ?_; intro _) | refine WO.acallV (hc := hma) (hR := fun w' hm => hst _ _ hw hm.mod.below) (k := ?_) | refine Tc ?_ | exact Tz)
      refine WX.metI (k + 1, x * x % m * a % m) (hs := ⟨⟨by omega, by simpa using hp.symm⟩, by simp only; omega⟩)
  · have hkN : k = N := by omega
    subst hkN
    rw [hend] at hx
    subst hx
    repeat (first | refine Ta ?_ | (refine Tm ?_; intro _) | refine Tc ?_ | exact Tz)
    refine WC.dF rfl hlt ?_
    repeat (first | refine Ta ?_ | (refine Tm ?_; intro _) | refine Tc ?_ | exact Tz)
end Sx
end Go.Proofs.YtakkmakilfodoaaGreat

/- mods: powers, whole: the product given as a function, Exp. -/
namespace Go.Proofs.YtakkmakilfodoaaGreat
open Go Go.RowKit
namespace Sx
attribute [local irreducible] DQ DQS WO WC WX
theorem c_powerN {f : Nat} [Cal Tryz.prog f] (caps : List Value) (a n m : Nat) (h1 : 1 < m) (ha : a < m) (hn : n < B256) (R : World → Prop) (hst : Stable R)
    (hf : ∀ x y : Nat, x < m → y < m → Fn Tryz.prog f ([numV x, numV y] ++ caps) R (Is (numV (x * y % m)))) :
    Fn Tryz.prog 99 [numV a, numV 1, numV n, .func (.func f) #[] caps.toArray] R (Is (numV (a ^ n % m))) := by
  have hB := c_Bits n hn
  have hlt := lt_two_pow_bitsN n
  have hN := bitsN_256 hn
  have hbit : ∀ i : Int, 0 ≤ i → i ≤ 1000000 → Fn Tryz.prog 134 [numV n, .int .i64 i] Tr (Is (.int .u64 (bitN n i.toNat : Nat))) := fun i h0 h1 => c_Bit n i hn h0 h1
  have hend := topB_end n (bitsN n)
  have hst0 := topB_start hlt
  have hstep := fun k (h : k < bitsN n) => topB_step n h
  generalize bitsN n = N at *
  refine Fn.enter Tryz.func99 rfl rfl rfl ?_
  intro w hw
  repeat (first | refine Ta ?_ | (refine Tm ?_; intro _) | refine WO.acall (hc := hB) (k := ?_) | refine Tc ?_ | exact Tz)
  rename_i g4 g5 g6 g8 g9
  refine WC.loopI (σ := Nat × Nat) (fun s => s.1 ≤ N ∧ s.2 = a ^ topB n N s.1 % m) (fun s => [(3, .func (.func f) #[] caps.toArray), (4, pt g4), (6, pt g6), (8, pt g8), (9, pt g9), (13, .int .i64 (N : Int)), (14, .int .i64 (s.1 : Int))])
    (fun s => [⟨g4, 24, numC a⟩, ⟨g6, 24, numC n⟩, ⟨g8, 24, numC 0⟩, ⟨g9, 24, numC s.2⟩]) (fun s => N - s.1) (0, 1) (fun s hs => ?_) ⟨Nat.zero_le _, by rw [hst0, Nat.pow_zero, Nat.mod_eq_of_lt h1]⟩
  obtain ⟨k, x⟩ := s
  obtain ⟨hk, hx⟩ := hs
  dsimp only at hk hx ⊢
  have hxm : x < m := by rw [hx]; exact Nat.mod_lt _ (by omega)
  by_cases hlt : (k : Int) < (N : Int)
  · have hkN : k < N := by omega
    have hsq := hf x x hxm hxm
    have hma := hf (x * x % m) a (Nat.mod_lt _ (by omega)) ha
    have hbt := hbit ((N : Int) - 1 - (k : Int)) (by omega) (by omega)
    rw [show ((N : Int) - 1 - (k : Int)).toNat = N - 1 - k by omega] at hbt
    have hp := pow_round a m (topB n N k) (bitN n (N - 1 - k)) (bitN_two _ _)
    rw [← hstep k hkN, ← hx] at hp
    repeat (first | refine Ta ?_ | (refine Tm ?_; intro _) | refine Tc ?_ | exact Tz)
    refine WC.dT rfl hlt ?_
    repeat (first | refine Ta ?_ | (refine Tm ?_; intro _) | refine WO.acallV (hc := hsq) (hR := fun w' hm => hst _ _ hw hm.mod.below) (k := ?_) | refine Tc ?_ | exact Tz)
    rcases bitN_two n (N - 1 - k) with e | e
    · rw [e] at hbt hp
      refine WC.adraw 8 (k := ?_)
      repeat (first | refine Da ?_ | refine DQ.acall (hc := hB) (k := ?_) | refine DQ.acall (hc := hbt) (k := ?_) | refine Dc ?_)
      refine DQ.anil (k := ?_)
      intro sx _
      repeat (first | refine Ta ?_ | (refine Tm ?_; intro _) | refine Tc ?_ | exact Tz)
      refine WX.metI (k + 1, x * x % m) (hs := ⟨⟨by omega, by simpa using hp.symm⟩, by simp only; omega⟩)
    · rw [e] at hbt hp
      refine WC.adraw 8 (k := ?_)
      repeat (first | refine Da ?_ | refine DQ.acall (hc := hB) (k := ?_) | refine DQ.acall (hc := hbt) (k := ?_) | refine Dc ?_)
      refine DQ.anil (k := ?_)
      intro sx _
      repeat (first | refine Ta ?_ | (refine Tm ?_; intro _) | refine WO.acallV (hc := hma) (hR := fun w' hm => hst _ _ hw hm.mod.below) (k := ?_) | refine Tc ?_ | exact Tz)
      refine WX.metI (k + 1, x * x % m * a % m) (hs := ⟨⟨by omega, by simpa using hp.symm⟩, by simp only; omega⟩)
  · have hkN : k = N := by omega
    subst hkN
    rw [hend] at hx
    subst hx
    repeat (first | refine Ta ?_ | (refine Tm ?_; intro _) | refine Tc ?_ | exact Tz)
    refine WC.dF rfl hlt ?_
    repeat (first | refine Ta ?_ | (refine Tm ?_; intro _) | refine Tc ?_ | exact Tz)
theorem c_Exp11 (a b m g : Nat) (ha : a < m) (hb : b < m) (hm : m < 18446744073709551616) : Fn Tryz.prog 97 [.int .u64 (a : Int), .int .u64 (b : Int), pt g] (fun w => Seg w g 0 (numC m)) (Is (.int .u64 ((a * b % m : Nat) : Int))) := by
  have hW := c_word a b m ha hb hm
  have e : wd 0 m = m := Nat.mod_eq_of_lt hm
  rw [← e] at hW
  refine Fn.enter Tryz.func97 rfl rfl rfl ?_
  intro w hw
  rw [← e]
  repeat (first | refine Ta ?_ | (refine Tm ?_; intro _) | refine WO.acall (hc := hW) (k := ?_) | refine Tc ?_ | exact Tz)
theorem c_Exp12 (a b m g : Nat) (ha : a < m) (hb : b < m) (hm : m < B256) : Fn Tryz.prog 100 [numV a, numV b, pt g] (fun w => Seg w g 0 (numC m)) (Is (numV (a * b % m))) := by
  have hW := c_times a b m ha hb hm
  refine Fn.enter Tryz.func100 rfl rfl rfl ?_
  intro w hw
  repeat (first | refine Ta ?_ | (refine Tm ?_; intro _) | refine WO.acall (hc := hW) (k := ?_) | refine Tc ?_ | exact Tz)
theorem c_Exp1 (a n m g : Nat) (h1 : 1 < m) (ha : a < m) (hm : m < B256) (hn : n < B256) : Fn Tryz.prog 94 [numV a, numV a, numV m, pt g] (fun w => Seg w g 0 (numC n)) (Is (numV (a ^ n % m))) := by
  have hB := c_Bits m hm
  by_cases hs : m < 18446744073709551616
  · have hle : ((bitsN m : Nat) : Int) ≤ 64 := by have : bitsN m ≤ 64 := bitsN_le (by simpa using hs); omega
    have ea : wd 0 a = a := Nat.mod_eq_of_lt (by omega)
    have hP : ∀ g, Fn Tryz.prog 96 [.int .u64 ((wd 0 a : Nat) : Int), .int .u64 1, numV n, .func (.func 97) #[] #[pt g]] (fun w => Seg w g 0 (numC m)) (Is (.int .u64 ((a ^ n % m : Nat) : Int))) :=
      fun g => by rw [ea]; exact c_powerW [pt g] a n m h1 ha hn hs _ Stable.seg (fun x y hx hy => c_Exp11 x y m g hx hy hs)
    have hO := c_Of (a ^ n % m) (Nat.lt_trans (Nat.mod_lt _ (by omega)) hs)
    generalize bitsN m = N at *
    refine Fn.enter Tryz.func94 rfl rfl rfl ?_
    intro w hw
    repeat (first | refine Ta ?_ | (refine Tm ?_; intro _) | refine WO.acall (hc := hB) (k := ?_) | refine Tc ?_ | exact Tz)
    refine WC.dT rfl hle ?_
    repeat (first | refine Ta ?_ | (refine Tm ?_; intro _) | refine WO.acall (hc := hO) (k := ?_) | refine WO.acallR (hc := hP _) (hR := fun w' hm => Hs.seg (by repeat (first | exact Hs.here | apply Hs.there)) hm) (k := ?_) | refine Tc ?_ | exact Tz)
  · have hle : ¬ ((bitsN m : Nat) : Int) ≤ 64 := by
      intro h
      have : bitsN m ≤ 64 := by omega
      rw [bitsN_le_iff] at this
      exact hs (by simpa using this)
    have hP : ∀ g, Fn Tryz.prog 99 [numV a, numV 1, numV n, .func (.func 100) #[] #[pt g]] (fun w => Seg w g 0 (numC m)) (Is (numV (a ^ n % m))) :=
      fun g => c_powerN [pt g] a n m h1 ha hn _ Stable.seg (fun x y hx hy => c_Exp12 x y m g hx hy hm)
    generalize bitsN m = N at *
    refine Fn.enter Tryz.func94 rfl rfl rfl ?_
    intro w hw
    repeat (first | refine Ta ?_ | (refine Tm ?_; intro _) | refine WO.acall (hc := hB) (k := ?_) | refine Tc ?_ | exact Tz)
    refine WC.dF rfl hle ?_
    repeat (first | refine Ta ?_ | (refine Tm ?_; intro _) | refine Tc ?_ | exact Tz)
    refine WC.adraw 5 (k := ?_)
    repeat (first | refine Da ?_ | refine DQ.acall (hc := c_Of1) (k := ?_) | refine DQ.acallR (hc := hP _) (hR := fun w' hm => Hs.seg (by repeat (first | exact Hs.here | apply Hs.there)) hm) (k := ?_) | refine Dc ?_)
    refine DQ.anil (k := ?_)
    intro sx _
    repeat (first | refine Ta ?_ | (refine Tm ?_; intro _) | refine Tc ?_ | exact Tz)
theorem c_Exp (a n m : Nat) (ha : a < B256) (hn : n < B256) (hm : m < B256) : Fn Tryz.prog 52 [numV a, numV n, numV m] Tr (Is (rE (mayN a a m) (a ^ n % m))) := by
  have hO := fun g => c_of (f := 94) [pt g] a a m (a ^ n % m) ha ha hm _ Stable.seg (fun h => c_Exp1 a n m g (mayN_spec h).1 (mayN_spec h).2.1 hm hn)
  refine Fn.enter Tryz.func52 rfl rfl rfl ?_
  intro w hw
  repeat (first | refine Ta ?_ | (refine Tm ?_; intro _) | refine WO.acallR (hc := hO _) (hR := fun w' hm => Hs.seg (by repeat (first | exact Hs.here | apply Hs.there)) hm) (k := ?_) | refine Tc ?_ | exact Tz)
end Sx
end Go.Proofs.YtakkmakilfodoaaGreat

/- The inverse by Euclid's way, as a function on numbers. No program is in sight here. -/
namespace Go.Proofs.YtakkmakilfodoaaGreat
namespace Sx
/-- r, s: what is left; x, y: what times a leaves these -/
def invL (m r s x y : Nat) : Nat := if h : s ≤ 1 then y else invL m s (r % s) y ((x + m - r / s * y % m) % m)
termination_by s
decreasing_by exact Nat.mod_lt _ (by omega)
def invN (a m : Nat) : Nat := if Nat.gcd a m = 1 then invL m m a 0 1 else 0
theorem emod_of_sub {a b m : Int} (h : m ∣ a - b) : a % m = b % m := by
  obtain ⟨c, hc⟩ := h
  have : a = b + m * c := by omega
  rw [this, Int.add_mul_emod_self_left]
theorem emod_sub_of {a b m : Int} (h : a % m = b % m) : m ∣ a - b := Int.dvd_of_emod_eq_zero (by rw [Int.sub_emod, h, Int.sub_self, Int.zero_emod])
theorem nat_of_dvd {a b m : Nat} (h : (m : Int) ∣ (a : Int) - (b : Int)) : a % m = b % m := by
  have := emod_of_sub h
  rw [← Int.natCast_emod, ← Int.natCast_emod] at this
  exact Int.ofNat.inj this
theorem dvd_of_nat {a b m : Nat} (h : a % m = b % m) : (m : Int) ∣ (a : Int) - (b : Int) := by
  apply emod_sub_of
  rw [← Int.natCast_emod, ← Int.natCast_emod, h]
theorem inv_step {a m r s x y : Nat} (hm : 0 < m) (h1 : x * a % m = r % m) (h2 : y * a % m = s % m) : (x + m - r / s * y % m) % m * a % m = r % s % m := by
  have ht : r / s * y % m < m := Nat.mod_lt _ hm
  have e1 : r = s * (r / s) + r % s := (Nat.div_add_mod r s).symm
  have e2 : r / s * y = m * (r / s * y / m) + r / s * y % m := (Nat.div_add_mod _ m).symm
  have e3 : x + m - r / s * y % m = m * ((x + m - r / s * y % m) / m) + (x + m - r / s * y % m) % m := (Nat.div_add_mod _ m).symm
  have d1 := dvd_of_nat h1
  have d2 := dvd_of_nat h2
  apply nat_of_dvd
  generalize hz : (x + m - r / s * y % m) % m = z at *
  generalize (x + m - r / s * y % m) / m = k at *
  generalize hu : r / s * y % m = u at *
  generalize r / s * y / m = l at *
  generalize r / s = q at *
  generalize r % s = p at *
  obtain ⟨c1, hc1⟩ := d1
  obtain ⟨c2, hc2⟩ := d2
  have f3 : (x : Int) + m - u = m * k + z := by
    have : ((x + m - u : Nat) : Int) = ((m * k + z : Nat) : Int) := by rw [e3]
    rw [Int.ofNat_sub (by omega)] at this
    push_cast at this
    exact this
  have f2 : (q : Int) * y = m * l + u := by exact_mod_cast e2
  have f1 : (r : Int) = s * q + p := by exact_mod_cast e1
  push_cast at hc1 hc2 ⊢
  refine ⟨c1 - q * c2 + a - k * a + l * a, ?_⟩
  have hz' : (z : Int) = x + m - (q * y - m * l) - m * k := by omega
  have : (z : Int) * a - p = (x * a - r) - q * (y * a - s) + m * a + m * (l * a) - m * (k * a) := by
    rw [hz', f1]
    simp only [Int.sub_mul, Int.add_mul, Int.mul_sub, Int.mul_add, Int.mul_assoc, Int.mul_comm, Int.mul_left_comm]
    omega
  rw [this, hc1, hc2]
  simp only [Int.sub_mul, Int.add_mul, Int.mul_sub, Int.mul_add, Int.mul_assoc, Int.mul_comm, Int.mul_left_comm]
  omega
theorem invL_one {m r x y : Nat} : invL m r 1 x y = y := by unfold invL; simp
theorem invL_more {m r s x y : Nat} (h : 1 < s) : invL m r s x y = invL m s (r % s) y ((x + m - r / s * y % m) % m) := by
  rw [invL]; rw [dif_neg (by omega)]
theorem left_pos {r s : Nat} (hs : 1 < s) (hg : Nat.gcd r s = 1) : 0 < r % s := by
  rcases Nat.eq_zero_or_pos (r % s) with h | h
  · exfalso
    have h1 : s ∣ r := Nat.dvd_of_mod_eq_zero h
    have : Nat.gcd r s = s := Nat.gcd_eq_right h1
    omega
  · exact h
theorem gcd_next {r s : Nat} (hg : Nat.gcd r s = 1) : Nat.gcd s (r % s) = 1 := by
  rw [Nat.gcd_comm s, ← Nat.gcd_rec, Nat.gcd_comm]; exact hg
theorem invL_spec (m a : Nat) (hm : 1 < m) : ∀ (s r x y : Nat), 0 < s → Nat.gcd r s = 1 → x * a % m = r % m → y * a % m = s % m → y < m → invL m r s x y * a % m = 1 ∧ invL m r s x y < m := by
  intro s
  induction s using Nat.strongRecOn with
  | _ s ih =>
    intro r x y hs hg h1 h2 hy
    by_cases e : s = 1
    · subst e
      rw [invL_one, h2, Nat.mod_eq_of_lt hm]
      exact ⟨rfl, hy⟩
    · rw [invL_more (by omega)]
      exact ih (r % s) (Nat.mod_lt _ hs) s y _ (left_pos (by omega) hg) (gcd_next hg) h2 (inv_step (by omega) h1 h2) (Nat.mod_lt _ (by omega))
theorem invN_spec {m a : Nat} (hm : 1 < m) (ha : a < m) (hg : Nat.gcd a m = 1) : invN a m * a % m = 1 ∧ invN a m < m := by
  unfold invN
  rw [if_pos hg]
  have h0 : 0 < a := by
    rcases Nat.eq_zero_or_pos a with h | h
    · subst h; rw [Nat.gcd_zero_left] at hg; omega
    · exact h
  exact invL_spec m a hm a m 0 1 h0 (by rw [Nat.gcd_comm]; exact hg) (by simp) (by simp) hm
theorem invN_ne {m a : Nat} (hm : 1 < m) (ha : a < m) (hg : Nat.gcd a m = 1) : invN a m ≠ 0 := by
  intro h
  have := (invN_spec hm ha hg).1
  rw [h] at this
  simp at this
theorem invN_no {m a : Nat} (hg : Nat.gcd a m ≠ 1) : invN a m = 0 := by unfold invN; rw [if_neg hg]
/-- the error of an inverse -/
def invE (a m : Nat) : Int := if mayN a a m then (if Nat.gcd a m = 1 then 0 else 7) else 1
end Sx
end Go.Proofs.YtakkmakilfodoaaGreat
