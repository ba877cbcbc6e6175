/- Part 21 of the proof: MdE, Grp -/
import Derived.Test.YtakkmakilfodoaaGreatM20
import Derived.Test.YtakkmakilfodoaaGreatM09
set_option linter.unusedSimpArgs false
set_option linter.unusedVariables false
/- mods.Inv -/
namespace Go.Proofs.YtakkmakilfodoaaGreat
open Go Go.RowKit
namespace Sx
attribute [local irreducible] wd DQ DQS WO WC WX
theorem q_lt {r s m : Nat} (hs : 1 < s) (hr : r ≤ m) (hm : 1 < m) : r / s < m := Nat.lt_of_le_of_lt (Nat.div_le_div_right hr) (Nat.div_lt_self (by omega) hs)
set_option maxHeartbeats 1000000 in
theorem c_Inv1 (a m : Nat) (h1 : 1 < m) (ha : a < m) (hm : m < B256) : Fn Tryz.prog 87 [numV a, numV a, numV m] Tr (Is (numV (invN a m))) := by
  have haB : a < B256 := by omega
  have hG := c_Common a m haB hm
  have hgB : Nat.gcd a m < B256 := Nat.lt_of_le_of_lt (Nat.gcd_le_right _ (by omega)) hm
  by_cases hg : Nat.gcd a m = 1
  · have hne : ¬ (Nat.gcd a m ≠ 1) := fun h => h hg
    have hinv : invN a m = invL m m a 0 1 := by unfold invN; rw [if_pos hg]
    have h0 : 0 < a := by
      rcases Nat.eq_zero_or_pos a with h | h
      · subst h; rw [Nat.gcd_zero_left] at hg; omega
      · exact h
    have hgm : Nat.gcd m a = 1 := by rw [Nat.gcd_comm]; exact hg
    rw [hinv]
    refine Fn.enter Tryz.func87 rfl rfl rfl ?_
    intro w hw
    repeat (first | refine Ta ?_ | (refine Tm ?_; intro _) | refine WO.acall (hc := hG) (k := ?_) | refine WO.acall (hc := c_Of1) (k := ?_) | refine Tc ?_ | exact Tz)
    refine WC.dF rfl hne ?_
    repeat (first | refine Ta ?_ | (refine Tm ?_; intro _) | refine Tc ?_ | exact Tz)
    rename_i g3 g4 g5 g6
    refine WC.adrawS [1] [(1, [⟨g3, 24, numC a⟩])] 8 (k := ?_)
    repeat (first | refine DQS.skip ?_ | refine DQS.autoM (k := ?_) | refine DQS.acall (hc := c_Of1) (k := ?_) | refine DQS.acall (hc := c_Of0) (k := ?_) | refine DQS.autoH (k := ?_) | refine DQS.auto (k := ?_) | refine DQS.autoF (k := ?_) | refine DQS.does (fun s _ => a_eqNum) Dp.const ?_ | refine DQS.does (fun s _ => a_neqNum) Dp.const ?_)
    refine DQS.anil (k := ?_)
    intro sx _
    repeat (first | refine WOS.autoS (kk := ?_) | refine WOS.auto (kk := ?_))
    refine WOS.nil ?_
    refine WX.noPanic ?_
    generalize sx 4 0 = g7
    generalize sx 5 0 = g8
    generalize sx 6 0 = g9
    generalize sx 7 0 = g10
    repeat (first | refine Ta ?_ | (refine Tm ?_; intro _) | refine Tc ?_ | exact Tz)
    refine WC.loopI (σ := Nat × Nat × Nat × Nat) (fun s => 0 < s.2.1 ∧ s.2.1 < s.1 ∧ s.1 ≤ m ∧ Nat.gcd s.1 s.2.1 = 1 ∧ s.2.2.1 < m ∧ s.2.2.2 < m ∧ invL m s.1 s.2.1 s.2.2.1 s.2.2.2 = invL m m a 0 1)
      (fun s => [(5, pt g5), (6, pt g6), (7, pt g7), (8, pt g8), (9, pt g9), (10, pt g10)])
      (fun s => [⟨g5, 24, numC m⟩, ⟨g6, 24, numC 0⟩, ⟨g7, 24, numC s.1⟩, ⟨g8, 24, numC s.2.1⟩, ⟨g9, 24, numC s.2.2.1⟩, ⟨g10, 24, numC s.2.2.2⟩]) (fun s => s.2.1) (m, a, 0, 1) (fun s hs => ?_) ⟨h0, ha, Nat.le_refl _, hgm, by show 0 < m; omega, h1, rfl⟩
    obtain ⟨r, s, x, y⟩ := s
    obtain ⟨hs0, hsr, hrm, hgc, hx, hy, heq⟩ := hs
    dsimp only at hs0 hsr hrm hgc hx hy heq ⊢
    have hsB : s < B256 := by omega
    by_cases hs1 : s = 1
    · have hno : ¬ (s ≠ 1) := fun h => h hs1
      subst hs1
      rw [invL_one] at heq
      rw [← heq]
      repeat (first | refine Ta ?_ | (refine Tm ?_; intro _) | refine Tc ?_ | exact Tz)
      refine WC.adraw 3 (k := ?_)
      repeat (first | refine Da ?_ | refine DQ.acall (hc := c_Of1) (k := ?_) | refine Dc ?_)
      refine DQ.anil (k := ?_)
      intro sx _
      repeat (first | refine Ta ?_ | (refine Tm ?_; intro _) | refine Tc ?_ | exact Tz)
    · have hD := c_Div r s (by omega) hsB hs0
      have hq := q_lt (r := r) (s := s) (m := m) (by omega) hrm h1
      have hT := c_times (r / s) y m hq hy hm
      have hS := c_Sub x (r / s * y % m) m (by omega) (Nat.lt_trans (Nat.mod_lt _ (by omega)) hm) hm
      have hmay : mayN x (r / s * y % m) m = true := by unfold mayN; simp [h1, hx, Nat.mod_lt _ (show 0 < m by omega)]
      rw [hmay] at hS
      have hnext := invL_more (m := m) (r := r) (x := x) (y := y) (show 1 < s by omega)
      have hpos := left_pos (show 1 < s by omega) hgc
      have hlt := Nat.mod_lt r hs0
      have hgn := gcd_next hgc
      have hz : (x + m - r / s * y % m) % m < m := Nat.mod_lt _ (by omega)
      rw [heq] at hnext
      generalize (x + m - r / s * y % m) % m = z at *
      generalize r / s * y % m = u at *
      generalize r / s = q at *
      generalize r % s = p at *
      repeat (first | refine Ta ?_ | (refine Tm ?_; intro _) | refine Tc ?_ | exact Tz)
      refine WC.adraw 3 (k := ?_)
      repeat (first | refine Da ?_ | refine DQ.acall (hc := c_Of1) (k := ?_) | refine Dc ?_)
      refine DQ.anil (k := ?_)
      intro sx _
      repeat (first | refine Ta ?_ | (refine Tm ?_; intro _) | refine Tc ?_ | exact Tz)
      refine WC.dT rfl hs1 ?_
      repeat (first | refine Ta ?_ | (refine Tm ?_; intro _) | refine WO.acall (hc := hD) (k := ?_) | refine Tc ?_ | exact Tz)
      rename_i g11 g12
      refine WC.adrawF [9] 11 (k := ?_)
      repeat (first | refine Da ?_ | refine DQ.acall (hc := hT) (k := ?_) | refine DQ.acall (hc := hS) (k := ?_) | refine Df ?_)
      refine DQ.anil (k := ?_)
      intro sx _
      repeat (first | refine Ta ?_ | (refine Tm ?_; intro _) | refine Tc ?_ | exact Tz)
      generalize sx 10 0 = g14
      refine WC.adrawS [1, 2, 3] [(1, [⟨g12, 24, numC p⟩]), (2, [⟨g10, 24, numC y⟩]), (3, [⟨g14, 24, numC z⟩])] 4 (k := ?_)
      repeat (first | refine DQS.skip ?_ | refine DQS.autoM (k := ?_) | refine DQS.autoH (k := ?_) | refine DQS.auto (k := ?_) | refine DQS.autoF (k := ?_) | refine DQS.does (fun s _ => a_eqNum) Dp.const ?_ | refine DQS.does (fun s _ => a_neqNum) Dp.const ?_)
      refine DQS.anil (k := ?_)
      intro sx _
      repeat (first | refine WOS.autoS (kk := ?_) | refine WOS.auto (kk := ?_))
      refine WOS.nil ?_
      refine WX.noPanic ?_
      repeat (first | refine Ta ?_ | (refine Tm ?_; intro _) | refine Tc ?_ | exact Tz)
      refine WX.metI (s, p, y, z) (hs := ⟨⟨hpos, hlt, by omega, hgn, hy, hz, hnext.symm⟩, hlt⟩)
  · have hinv : invN a m = 0 := invN_no hg
    rw [hinv]
    refine Fn.enter Tryz.func87 rfl rfl rfl ?_
    intro w hw
    repeat (first | refine Ta ?_ | (refine Tm ?_; intro _) | refine WO.acall (hc := hG) (k := ?_) | refine WO.acall (hc := c_Of1) (k := ?_) | refine Tc ?_ | exact Tz)
    refine WC.dT rfl hg ?_
    repeat (first | refine Ta ?_ | (refine Tm ?_; intro _) | refine Tc ?_ | exact Tz)
theorem invN_lt {a m : Nat} (h1 : 1 < m) (ha : a < m) : invN a m < m := by
  by_cases hg : Nat.gcd a m = 1
  · exact (invN_spec h1 ha hg).2
  · rw [invN_no hg]; omega
set_option maxHeartbeats 1000000 in
theorem c_Inv (a m : Nat) (ha : a < B256) (hm : m < B256) : Fn Tryz.prog 50 [numV a, numV m] Tr (Is (.tuple #[numV (okV (mayN a a m) (invN a m)), .int .i64 (invE a m)])) := by
  have hO := c_of (f := 87) [] a a m (invN a m) ha ha hm Tr Stable.tr (fun h => c_Inv1 a m (mayN_spec h).1 (mayN_spec h).2.1 hm)
  cases hy : mayN a a m with
  | false =>
    have he : invE a m = 1 := by unfold invE; rw [hy]; rfl
    rw [hy] at hO
    rw [he]
    refine Fn.enter Tryz.func50 rfl rfl rfl ?_
    intro w hw
    repeat (first | refine Ta ?_ | (refine Tm ?_; intro _) | refine WO.acall (hc := hO) (k := ?_) | refine Tc ?_ | exact Tz)
    refine WC.adraw 7 (k := ?_)
    repeat (first | refine Da ?_ | refine DQ.acall (hc := c_Of0) (k := ?_) | refine Dc ?_)
    refine DQ.anil (k := ?_)
    intro sx _
    repeat (first | refine Ta ?_ | (refine Tm ?_; intro _) | refine Tc ?_ | exact Tz)
  | true =>
    obtain ⟨h1, h2, _⟩ := mayN_spec hy
    have hB : invN a m < B256 := Nat.lt_trans (invN_lt h1 h2) hm
    rw [hy] at hO
    by_cases hg : Nat.gcd a m = 1
    · have he : invE a m = 0 := by unfold invE; rw [hy, if_pos hg]; rfl
      have hz : ¬ invN a m = 0 := invN_ne h1 h2 hg
      rw [he]
      generalize invN a m = v at *
      refine Fn.enter Tryz.func50 rfl rfl rfl ?_
      intro w hw
      repeat (first | refine Ta ?_ | (refine Tm ?_; intro _) | refine WO.acall (hc := hO) (k := ?_) | refine Tc ?_ | exact Tz)
      refine WC.adraw 7 (k := ?_)
      repeat (first | refine Da ?_ | refine DQ.acall (hc := c_Of0) (k := ?_) | refine Dc ?_)
      refine DQ.anil (k := ?_)
      intro sx _
      repeat (first | refine Ta ?_ | (refine Tm ?_; intro _) | refine Tc ?_ | exact Tz)
      refine WC.dF rfl hz ?_
      repeat (first | refine Ta ?_ | (refine Tm ?_; intro _) | refine Tc ?_ | exact Tz)
    · have he : invE a m = 7 := by unfold invE; rw [hy, if_neg hg]; rfl
      rw [he]
      rw [invN_no hg] at hO ⊢
      refine Fn.enter Tryz.func50 rfl rfl rfl ?_
      intro w hw
      repeat (first | refine Ta ?_ | (refine Tm ?_; intro _) | refine WO.acall (hc := hO) (k := ?_) | refine Tc ?_ | exact Tz)
      refine WC.adraw 7 (k := ?_)
      repeat (first | refine Da ?_ | refine DQ.acall (hc := c_Of0) (k := ?_) | refine Dc ?_)
      refine DQ.anil (k := ?_)
      intro sx _
      repeat (first | refine Ta ?_ | (refine Tm ?_; intro _) | refine Tc ?_ | exact Tz)
end Sx
end Go.Proofs.YtakkmakilfodoaaGreat

/- scalars; groups: may, Exp, In, Mul. -/
namespace Go.Proofs.YtakkmakilfodoaaGreat
open Go Go.RowKit
namespace Sx
attribute [local irreducible] wd DQ DQS WO WC WX
/-- a group's cells -/
abbrev grpC (p q g h : Nat) : List Value := [.int .u64 ((wd 0 p : Nat) : Int), .int .u64 ((wd 1 p : Nat) : Int), .int .u64 ((wd 2 p : Nat) : Int), .int .u64 ((wd 3 p : Nat) : Int), .int .u64 ((wd 0 q : Nat) : Int), .int .u64 ((wd 1 q : Nat) : Int), .int .u64 ((wd 2 q : Nat) : Int), .int .u64 ((wd 3 q : Nat) : Int), .int .u64 ((wd 0 g : Nat) : Int), .int .u64 ((wd 1 g : Nat) : Int), .int .u64 ((wd 2 g : Nat) : Int), .int .u64 ((wd 3 g : Nat) : Int), .int .u64 ((wd 0 h : Nat) : Int), .int .u64 ((wd 1 h : Nat) : Int), .int .u64 ((wd 2 h : Nat) : Int), .int .u64 ((wd 3 h : Nat) : Int)]
abbrev grpV (p q g h : Nat) : Value := .agg #[.int .u64 ((wd 0 p : Nat) : Int), .int .u64 ((wd 1 p : Nat) : Int), .int .u64 ((wd 2 p : Nat) : Int), .int .u64 ((wd 3 p : Nat) : Int), .int .u64 ((wd 0 q : Nat) : Int), .int .u64 ((wd 1 q : Nat) : Int), .int .u64 ((wd 2 q : Nat) : Int), .int .u64 ((wd 3 q : Nat) : Int), .int .u64 ((wd 0 g : Nat) : Int), .int .u64 ((wd 1 g : Nat) : Int), .int .u64 ((wd 2 g : Nat) : Int), .int .u64 ((wd 3 g : Nat) : Int), .int .u64 ((wd 0 h : Nat) : Int), .int .u64 ((wd 1 h : Nat) : Int), .int .u64 ((wd 2 h : Nat) : Int), .int .u64 ((wd 3 h : Nat) : Int)]
/-- may a number be multiplied? -/
def gMay (p a : Nat) : Bool := decide (1 < p) && decide (a ≠ 0) && decide (a < p)
theorem gMay_spec {p a : Nat} (h : gMay p a = true) : 1 < p ∧ a ≠ 0 ∧ a < p := by
  unfold gMay at h; simp at h; exact ⟨h.1.1, h.1.2, h.2⟩
theorem gMay_mayN {p a : Nat} (h : gMay p a = true) : mayN a a p = true := by
  obtain ⟨h1, _, h3⟩ := gMay_spec h
  simp [mayN, h1, h3]
section
variable (p q g h : Nat)
theorem c_SAdd (a b : Nat) (ha : a < B256) (hb : b < B256) (hq : q < B256) : Fn Tryz.prog 48 [grpV p q g h, numV a, numV b] Tr (Is (rE (mayN a b q) ((a + b) % q))) := by
  have hO := c_Add a b q ha hb hq
  refine Fn.enter Tryz.func48 rfl rfl rfl ?_
  intro w hw
  repeat (first | refine Td ?_ | (refine Tm ?_; intro _) | refine WO.acall (hc := hO) (k := ?_) | refine Tc ?_ | exact Tz)
theorem c_SSub (a b : Nat) (ha : a < B256) (hb : b < B256) (hq : q < B256) : Fn Tryz.prog 79 [grpV p q g h, numV a, numV b] Tr (Is (rE (mayN a b q) ((a + q - b) % q))) := by
  have hO := c_Sub a b q ha hb hq
  refine Fn.enter Tryz.func79 rfl rfl rfl ?_
  intro w hw
  repeat (first | refine Td ?_ | (refine Tm ?_; intro _) | refine WO.acall (hc := hO) (k := ?_) | refine Tc ?_ | exact Tz)
theorem c_SMul (a b : Nat) (ha : a < B256) (hb : b < B256) (hq : q < B256) : Fn Tryz.prog 63 [grpV p q g h, numV a, numV b] Tr (Is (rE (mayN a b q) (a * b % q))) := by
  have hO := c_Mul a b q ha hb hq
  refine Fn.enter Tryz.func63 rfl rfl rfl ?_
  intro w hw
  repeat (first | refine Td ?_ | (refine Tm ?_; intro _) | refine WO.acall (hc := hO) (k := ?_) | refine Tc ?_ | exact Tz)
theorem c_SInv (a : Nat) (ha : a < B256) (hq : q < B256) : Fn Tryz.prog 20 [grpV p q g h, numV a] Tr (Is (.tuple #[numV (okV (mayN a a q) (invN a q)), .int .i64 (invE a q)])) := by
  have hO := c_Inv a q ha hq
  refine Fn.enter Tryz.func20 rfl rfl rfl ?_
  intro w hw
  repeat (first | refine Td ?_ | (refine Tm ?_; intro _) | refine WO.acall (hc := hO) (k := ?_) | refine Tc ?_ | exact Tz)
theorem c_may (a : Nat) (ha : a < B256) (hp : p < B256) : Fn Tryz.prog 51 [grpV p q g h, numV a] Tr (Is (.bool (gMay p a))) := by
  have hC1 := c_Cmp p 1 hp B256_one'
  have hC2 := c_Cmp a p ha hp
  by_cases h1 : 1 < p
  · rw [cmpN_gt h1] at hC1
    by_cases h2 : a = 0
    · have e : gMay p a = false := by simp [gMay, h2]
      rw [e]
      refine Fn.enter Tryz.func51 rfl rfl rfl ?_
      intro w hw
      repeat (first | refine Td ?_ | (refine Tm ?_; intro _) | refine Tc ?_ | exact Tz)
      refine WC.adraw 18 (k := ?_)
      repeat (first | refine DQ.decT (k := ?_) | refine DQ.decF (k := ?_) | refine Da ?_ | refine DQ.acall (hc := c_Of1) (k := ?_) | refine DQ.acall (hc := c_Of0) (k := ?_) | refine DQ.acall (hc := hC1) (k := ?_) | refine DQ.acall (hc := hC2) (k := ?_) | refine Dc ?_)
      refine DQ.anil (k := ?_)
      intro sx _
      repeat (first | refine Td ?_ | (refine Tm ?_; intro _) | refine Tc ?_ | exact Tz)
    · by_cases h3 : a < p
      · have e : gMay p a = true := by simp [gMay, h1, h2, h3]
        rw [cmpN_lt h3] at hC2
        rw [e]
        refine Fn.enter Tryz.func51 rfl rfl rfl ?_
        intro w hw
        repeat (first | refine Td ?_ | (refine Tm ?_; intro _) | refine Tc ?_ | exact Tz)
        refine WC.adraw 18 (k := ?_)
        repeat (first | refine DQ.decT (k := ?_) | refine DQ.decF (k := ?_) | refine Da ?_ | refine DQ.acall (hc := c_Of1) (k := ?_) | refine DQ.acall (hc := c_Of0) (k := ?_) | refine DQ.acall (hc := hC1) (k := ?_) | refine DQ.acall (hc := hC2) (k := ?_) | refine Dc ?_)
        refine DQ.anil (k := ?_)
        intro sx _
        repeat (first | refine Td ?_ | (refine Tm ?_; intro _) | refine Tc ?_ | exact Tz)
      · have e : gMay p a = false := by simp [gMay, h3]
        have e2 : cmpN a p = 0 ∨ cmpN a p = 1 := by
          rcases Nat.lt_or_ge p a with h4 | h4
          · exact .inr (cmpN_gt h4)
          · exact .inl (cmpN_eq (by omega))
        rw [e]
        rcases e2 with e2 | e2
        all_goals
          rw [e2] at hC2
          refine Fn.enter Tryz.func51 rfl rfl rfl ?_
          intro w hw
          repeat (first | refine Td ?_ | (refine Tm ?_; intro _) | refine Tc ?_ | exact Tz)
          refine WC.adraw 18 (k := ?_)
          repeat (first | refine DQ.decT (k := ?_) | refine DQ.decF (k := ?_) | refine Da ?_ | refine DQ.acall (hc := c_Of1) (k := ?_) | refine DQ.acall (hc := c_Of0) (k := ?_) | refine DQ.acall (hc := hC1) (k := ?_) | refine DQ.acall (hc := hC2) (k := ?_) | refine Dc ?_)
          refine DQ.anil (k := ?_)
          intro sx _
          repeat (first | refine Td ?_ | (refine Tm ?_; intro _) | refine Tc ?_ | exact Tz)
  · have e : gMay p a = false := by simp [gMay, h1]
    have e2 : cmpN p 1 = 0 ∨ cmpN p 1 = -1 := by
      rcases Nat.lt_or_ge p 1 with h4 | h4
      · exact .inr (cmpN_lt h4)
      · exact .inl (cmpN_eq (by omega))
    rw [e]
    rcases e2 with e2 | e2
    all_goals
      rw [e2] at hC1
      refine Fn.enter Tryz.func51 rfl rfl rfl ?_
      intro w hw
      repeat (first | refine Td ?_ | (refine Tm ?_; intro _) | refine Tc ?_ | exact Tz)
      refine WC.adraw 18 (k := ?_)
      repeat (first | refine DQ.decT (k := ?_) | refine DQ.decF (k := ?_) | refine Da ?_ | refine DQ.acall (hc := c_Of1) (k := ?_) | refine DQ.acall (hc := c_Of0) (k := ?_) | refine DQ.acall (hc := hC1) (k := ?_) | refine DQ.acall (hc := hC2) (k := ?_) | refine Dc ?_)
      refine DQ.anil (k := ?_)
      intro sx _
      repeat (first | refine Td ?_ | (refine Tm ?_; intro _) | refine Tc ?_ | exact Tz)
theorem c_gExp (a n : Nat) (ha : a < B256) (hn : n < B256) (hp : p < B256) : Fn Tryz.prog 21 [grpV p q g h, numV a, numV n] Tr (Is (rE (gMay p a) (a ^ n % p))) := by
  have hM := c_may p q g h a ha hp
  cases hy : gMay p a with
  | true =>
    have hE := c_Exp a n p ha hn hp
    rw [gMay_mayN hy] at hE
    rw [hy] at hM
    refine Fn.enter Tryz.func21 rfl rfl rfl ?_
    intro w hw
    repeat (first | refine Td ?_ | (refine Tm ?_; intro _) | refine WO.acall (hc := hM) (k := ?_) | refine WO.acall (hc := hE) (k := ?_) | refine Tc ?_ | exact Tz)
  | false =>
    rw [hy] at hM
    refine Fn.enter Tryz.func21 rfl rfl rfl ?_
    intro w hw
    repeat (first | refine Td ?_ | (refine Tm ?_; intro _) | refine WO.acall (hc := hM) (k := ?_) | refine Tc ?_ | exact Tz)
theorem c_gMul (a b : Nat) (ha : a < B256) (hb : b < B256) (hp : p < B256) : Fn Tryz.prog 59 [grpV p q g h, numV a, numV b] Tr (Is (rE (gMay p a && gMay p b) (a * b % p))) := by
  have hM1 := c_may p q g h a ha hp
  have hM2 := c_may p q g h b hb hp
  cases hy : gMay p a with
  | true =>
    rw [hy] at hM1
    cases hz : gMay p b with
    | true =>
      rw [hz] at hM2
      have hE := c_Mul a b p ha hb hp
      have hm : mayN a b p = true := by
        obtain ⟨h1, _, h3⟩ := gMay_spec hy
        obtain ⟨_, _, h4⟩ := gMay_spec hz
        simp [mayN, h1, h3, h4]
      rw [hm] at hE
      refine Fn.enter Tryz.func59 rfl rfl rfl ?_
      intro w hw
      repeat (first | refine Td ?_ | (refine Tm ?_; intro _) | refine WO.acall (hc := hM1) (k := ?_) | refine WO.acall (hc := hM2) (k := ?_) | refine WO.acall (hc := hE) (k := ?_) | refine Tc ?_ | exact Tz)
    | false =>
      rw [hz] at hM2
      refine Fn.enter Tryz.func59 rfl rfl rfl ?_
      intro w hw
      repeat (first | refine Td ?_ | (refine Tm ?_; intro _) | refine WO.acall (hc := hM1) (k := ?_) | refine WO.acall (hc := hM2) (k := ?_) | refine Tc ?_ | exact Tz)
  | false =>
    rw [hy] at hM1
    refine Fn.enter Tryz.func59 rfl rfl rfl ?_
    intro w hw
    repeat (first | refine Td ?_ | (refine Tm ?_; intro _) | refine WO.acall (hc := hM1) (k := ?_) | refine WO.acall (hc := hM2) (k := ?_) | refine Tc ?_ | exact Tz)
/-- is a number of the group? -/
def gIn (p q a : Nat) : Bool := gMay p a && decide (a ^ q % p = 1)
theorem c_gIn (a : Nat) (ha : a < B256) (hp : p < B256) (hq : q < B256) : Fn Tryz.prog 19 [grpV p q g h, numV a] Tr (Is (.bool (gIn p q a))) := by
  have hE := c_gExp p q g h a q ha hq hp
  cases hy : gMay p a with
  | true =>
    rw [hy] at hE
    have hB : a ^ q % p < B256 := Nat.lt_trans (Nat.mod_lt _ (by have := gMay_spec hy; omega)) hp
    have e : gIn p q a = decide (a ^ q % p = 1) := by simp [gIn, hy]
    rw [e]
    generalize a ^ q % p = v at *
    refine Fn.enter Tryz.func19 rfl rfl rfl ?_
    intro w hw
    repeat (first | refine Td ?_ | (refine Tm ?_; intro _) | refine WO.acall (hc := hE) (k := ?_) | refine Tc ?_ | exact Tz)
    by_cases hv : v = 1
    · rw [decide_eq_true hv]
      refine WC.adraw 8 (k := ?_)
      repeat (first | refine DQ.decT (k := ?_) | refine DQ.decF (k := ?_) | refine Da ?_ | refine DQ.acall (hc := c_Of1) (k := ?_) | refine Dc ?_)
      refine DQ.anil (k := ?_)
      intro sx _
      repeat (first | refine Td ?_ | (refine Tm ?_; intro _) | refine Tc ?_ | exact Tz)
    · rw [decide_eq_false hv]
      refine WC.adraw 8 (k := ?_)
      repeat (first | refine DQ.decT (k := ?_) | refine DQ.decF (k := ?_) | refine Da ?_ | refine DQ.acall (hc := c_Of1) (k := ?_) | refine Dc ?_)
      refine DQ.anil (k := ?_)
      intro sx _
      repeat (first | refine Td ?_ | (refine Tm ?_; intro _) | refine Tc ?_ | exact Tz)
  | false =>
    have e : gIn p q a = false := by simp [gIn, hy]
    rw [hy] at hE
    rw [e]
    refine Fn.enter Tryz.func19 rfl rfl rfl ?_
    intro w hw
    repeat (first | refine Td ?_ | (refine Tm ?_; intro _) | refine WO.acall (hc := hE) (k := ?_) | refine Tc ?_ | exact Tz)
    refine WC.adraw 8 (k := ?_)
    repeat (first | refine DQ.decT (k := ?_) | refine DQ.decF (k := ?_) | refine Da ?_ | refine DQ.acall (hc := c_Of1) (k := ?_) | refine Dc ?_)
    refine DQ.anil (k := ?_)
    intro sx _
    repeat (first | refine Td ?_ | (refine Tm ?_; intro _) | refine Tc ?_ | exact Tz)
end
end Sx
end Go.Proofs.YtakkmakilfodoaaGreat
