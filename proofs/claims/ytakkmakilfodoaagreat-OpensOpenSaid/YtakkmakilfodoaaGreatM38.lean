/- Part 38 of the proof: PrC, PrD, RfZ, RgA, OpA, TwB -/
import Derived.Test.YtakkmakilfodoaaGreatM27
import Derived.Test.YtakkmakilfodoaaGreatM37
import Derived.Test.YtakkmakilfodoaaGreatM35
import Derived.Test.YtakkmakilfodoaaGreatM36
set_option linter.unusedSimpArgs false
set_option linter.unusedVariables false
/- proofs.Check -/
namespace Go.Proofs.YtakkmakilfodoaaGreat
open Go Go.RowKit Go.BigFrame
namespace Sx
attribute [local irreducible] wd DQ DQS WO WC WX
/-- does a proof fit? -/
def ckBack (q c : Nat) : Nat := (0 + q - c) % q
def ckC (p q : Nat) (s : List Nat) (base a y b c S : Nat) : Nat := hNum q s [be 32 base, be 32 a, be 32 y, be 32 b, be 32 (base ^ S % p * (a ^ ckBack q c % p) % p), be 32 (y ^ S % p * (b ^ ckBack q c % p) % p)]
def ckB (p q : Nat) (s : List Nat) (base a y b c S : Nat) : Bool := gIn p q base && gIn p q a && gIn p q y && gIn p q b && mayN c c q && mayN S S q && decide (ckC p q s base a y b c S = c)
/-- a proof's value -/
abbrev pfV (c s : Nat) : Value := .agg #[.int .u64 ((wd 0 c : Nat) : Int), .int .u64 ((wd 1 c : Nat) : Int), .int .u64 ((wd 2 c : Nat) : Int), .int .u64 ((wd 3 c : Nat) : Int), .int .u64 ((wd 0 s : Nat) : Int), .int .u64 ((wd 1 s : Nat) : Int), .int .u64 ((wd 2 s : Nat) : Int), .int .u64 ((wd 3 s : Nat) : Int)]
theorem gIn_may {p q a : Nat} (h : gIn p q a = true) : gMay p a = true := by
  unfold gIn at h; simp at h; exact h.1
section
variable {P : Program} {w0 : World} {gs : List Nat} {K : List (Nat × Value)} {L : List Ent}
theorem does_indexA {t len elem size i n ty : Nat} {k : IntKind} {x y : Operand} {cs vs : List Value} [ArT P t len elem size] [AgT P elem n] (hx : ev K x = some (.agg cs.toArray)) (hy : ev K y = some (.int k (i : Int))) (hi : i < len) (hc : cut cs (i * size) n = vs) (hsn : size = n := by rfl) :
    Does P w0 gs K L (.index t x y) ty (.agg vs.toArray) := by
  intro a w hk _ o ho _
  subst hc
  subst hsn
  have hu : ∀ w, (underlying t).run P w = .ok (.array len elem) w := fun w => by simp [underlying, ArT.under (P := P) (t := t)]
  simp only [execOp, ho, hk.eval hx, hk.eval hy, Instr.index, asIntOf, Sem.run_bind, Sem.run_pure, Result.andThen_ok, hu]
  rw [if_pos ⟨by omega, by omega⟩]
  simp only [Sem.run_bind, ArT.size (P := P) (t := t), Result.andThen_ok, Sem.run_pure, Int.toNat_natCast, Go.part, AgT.agg (P := P) (t := elem) w, if_true, AgT.size (P := P) (t := elem) w]
  simp [cut, List.extract_eq_take_drop]
end
section
variable (p q g h : Nat) (s : ByteArray)
set_option maxHeartbeats 4000000 in
theorem c_CheckN (base a y b c S : Nat) (hp : p < B256) (hq : q < B256) (hbs : base < B256) (ha : a < B256) (hy : y < B256) (hb : b < B256) (hc : c < B256) (hS : S < B256)
    (hB : (gIn p q base && gIn p q a && gIn p q y && gIn p q b && mayN c c q && mayN S S q) = false) :
    Fn Tryz.prog 39 [grpV p q g h, .string s, numV base, numV a, numV y, numV b, pfV c S] Tr (Is (.bool false)) := by
  have h1 := c_gIn p q g h base hbs hp hq
  have h2 := c_gIn p q g h a ha hp hq
  have h3 := c_gIn p q g h y hy hp hq
  have h4 := c_gIn p q g h b hb hp hq
  have h5 := c_fExp p q g h s c hc hq
  have h6 := c_fExp p q g h s S hS hq
  cases e1 : gIn p q base with
  | false =>
    rw [e1] at h1
    clear hB h2 h3 h4 h5 h6
    refine Fn.enter Tryz.func39 rfl rfl rfl ?_
    intro w hw
    repeat (first | refine WC.loopU 4 ?_ | refine Ta ?_ | (refine Tm ?_; intro _) | refine WO.does (does_indexA (len := 4) (i := 0) rfl rfl (by decide) rfl) ?_ | refine WO.acall (hc := h1) (k := ?_) | refine Tc ?_ | exact Tz)
    done
  | true =>
  rw [e1] at h1 hB
  cases e2 : gIn p q a with
  | false =>
    rw [e2] at h2
    clear hB h3 h4 h5 h6
    refine Fn.enter Tryz.func39 rfl rfl rfl ?_
    intro w hw
    repeat (first | refine WC.loopU 4 ?_ | refine Ta ?_ | (refine Tm ?_; intro _) | refine WO.does (does_indexA (len := 4) (i := 0) rfl rfl (by decide) rfl) ?_ | refine WO.acall (hc := h1) (k := ?_) | refine Tc ?_ | exact Tz)
    repeat (first | refine Ta ?_ | (refine Tm ?_; intro _) | refine WO.does (does_indexA (len := 4) (i := 1) rfl rfl (by decide) rfl) ?_ | refine WO.acall (hc := h2) (k := ?_) | refine Tc ?_ | exact Tz)
    done
  | true =>
  rw [e2] at h2 hB
  cases e3 : gIn p q y with
  | false =>
    rw [e3] at h3
    clear hB h4 h5 h6
    refine Fn.enter Tryz.func39 rfl rfl rfl ?_
    intro w hw
    repeat (first | refine WC.loopU 4 ?_ | refine Ta ?_ | (refine Tm ?_; intro _) | refine WO.does (does_indexA (len := 4) (i := 0) rfl rfl (by decide) rfl) ?_ | refine WO.acall (hc := h1) (k := ?_) | refine Tc ?_ | exact Tz)
    repeat (first | refine Ta ?_ | (refine Tm ?_; intro _) | refine WO.does (does_indexA (len := 4) (i := 1) rfl rfl (by decide) rfl) ?_ | refine WO.acall (hc := h2) (k := ?_) | refine Tc ?_ | exact Tz)
    repeat (first | refine Ta ?_ | (refine Tm ?_; intro _) | refine WO.does (does_indexA (len := 4) (i := 2) rfl rfl (by decide) rfl) ?_ | refine WO.acall (hc := h3) (k := ?_) | refine Tc ?_ | exact Tz)
    done
  | true =>
  rw [e3] at h3 hB
  cases e4 : gIn p q b with
  | false =>
    rw [e4] at h4
    clear hB h5 h6
    refine Fn.enter Tryz.func39 rfl rfl rfl ?_
    intro w hw
    repeat (first | refine WC.loopU 4 ?_ | refine Ta ?_ | (refine Tm ?_; intro _) | refine WO.does (does_indexA (len := 4) (i := 0) rfl rfl (by decide) rfl) ?_ | refine WO.acall (hc := h1) (k := ?_) | refine Tc ?_ | exact Tz)
    repeat (first | refine Ta ?_ | (refine Tm ?_; intro _) | refine WO.does (does_indexA (len := 4) (i := 1) rfl rfl (by decide) rfl) ?_ | refine WO.acall (hc := h2) (k := ?_) | refine Tc ?_ | exact Tz)
    repeat (first | refine Ta ?_ | (refine Tm ?_; intro _) | refine WO.does (does_indexA (len := 4) (i := 2) rfl rfl (by decide) rfl) ?_ | refine WO.acall (hc := h3) (k := ?_) | refine Tc ?_ | exact Tz)
    repeat (first | refine Ta ?_ | (refine Tm ?_; intro _) | refine WO.does (does_indexA (len := 4) (i := 3) rfl rfl (by decide) rfl) ?_ | refine WO.acall (hc := h4) (k := ?_) | refine Tc ?_ | exact Tz)
    done
  | true =>
  rw [e4] at h4 hB
  cases e5 : mayN c c q with
  | false =>
    rw [e5] at h5
    clear hB h6
    refine Fn.enter Tryz.func39 rfl rfl rfl ?_
    intro w hw
    repeat (first | refine WC.loopU 4 ?_ | refine Ta ?_ | (refine Tm ?_; intro _) | refine WO.does (does_indexA (len := 4) (i := 0) rfl rfl (by decide) rfl) ?_ | refine WO.acall (hc := h1) (k := ?_) | refine Tc ?_ | exact Tz)
    repeat (first | refine Ta ?_ | (refine Tm ?_; intro _) | refine WO.does (does_indexA (len := 4) (i := 1) rfl rfl (by decide) rfl) ?_ | refine WO.acall (hc := h2) (k := ?_) | refine Tc ?_ | exact Tz)
    repeat (first | refine Ta ?_ | (refine Tm ?_; intro _) | refine WO.does (does_indexA (len := 4) (i := 2) rfl rfl (by decide) rfl) ?_ | refine WO.acall (hc := h3) (k := ?_) | refine Tc ?_ | exact Tz)
    repeat (first | refine Ta ?_ | (refine Tm ?_; intro _) | refine WO.does (does_indexA (len := 4) (i := 3) rfl rfl (by decide) rfl) ?_ | refine WO.acall (hc := h4) (k := ?_) | refine Tc ?_ | exact Tz)
    repeat (first | refine Ta ?_ | (refine Tm ?_; intro _) | refine WO.acall (hc := h5) (k := ?_) | refine Tc ?_ | exact Tz)
    done
  | true =>
  rw [e5] at h5 hB
  have e6 : mayN S S q = false := by simpa using hB
  rw [e6] at h6
  clear hB
  refine Fn.enter Tryz.func39 rfl rfl rfl ?_
  intro w hw
  repeat (first | refine WC.loopU 4 ?_ | refine Ta ?_ | (refine Tm ?_; intro _) | refine WO.does (does_indexA (len := 4) (i := 0) rfl rfl (by decide) rfl) ?_ | refine WO.acall (hc := h1) (k := ?_) | refine Tc ?_ | exact Tz)
  repeat (first | refine Ta ?_ | (refine Tm ?_; intro _) | refine WO.does (does_indexA (len := 4) (i := 1) rfl rfl (by decide) rfl) ?_ | refine WO.acall (hc := h2) (k := ?_) | refine Tc ?_ | exact Tz)
  repeat (first | refine Ta ?_ | (refine Tm ?_; intro _) | refine WO.does (does_indexA (len := 4) (i := 2) rfl rfl (by decide) rfl) ?_ | refine WO.acall (hc := h3) (k := ?_) | refine Tc ?_ | exact Tz)
  repeat (first | refine Ta ?_ | (refine Tm ?_; intro _) | refine WO.does (does_indexA (len := 4) (i := 3) rfl rfl (by decide) rfl) ?_ | refine WO.acall (hc := h4) (k := ?_) | refine Tc ?_ | exact Tz)
  repeat (first | refine Ta ?_ | (refine Tm ?_; intro _) | refine WO.acall (hc := h5) (k := ?_) | refine WO.acall (hc := h6) (k := ?_) | refine Tc ?_ | exact Tz)
  done
end
end Sx
end Go.Proofs.YtakkmakilfodoaaGreat

/- proofs.Check, whole -/
namespace Go.Proofs.YtakkmakilfodoaaGreat
open Go Go.RowKit Go.BigFrame
namespace Sx
attribute [local irreducible] wd DQ DQS WO WC WX
section
variable (p q g h : Nat) (s : ByteArray)
set_option maxHeartbeats 4000000 in
theorem c_CheckY (base a y b c S : Nat) (hp : p < B256) (hq : q < B256) (hbs : base < B256) (ha : a < B256) (hy : y < B256) (hb : b < B256) (hc : c < B256) (hS : S < B256) (hs : s.size ≤ 68719476736)
    (hB : (gIn p q base && gIn p q a && gIn p q y && gIn p q b && mayN c c q && mayN S S q) = true) :
    Fn Tryz.prog 39 [grpV p q g h, .string s, numV base, numV a, numV y, numV b, pfV c S] Tr (Is (.bool (decide (ckC p q (strB s) base a y b c S = c)))) := by
  have h1 := c_gIn p q g h base hbs hp hq
  have h2 := c_gIn p q g h a ha hp hq
  have h3 := c_gIn p q g h y hy hp hq
  have h4 := c_gIn p q g h b hb hp hq
  have h5 := c_fExp p q g h s c hc hq
  have h6 := c_fExp p q g h s S hS hq
  simp only [Bool.and_eq_true] at hB
  obtain ⟨⟨⟨⟨⟨e1, e2⟩, e3⟩, e4⟩, e5⟩, e6⟩ := hB
  rw [e1] at h1
  rw [e2] at h2
  rw [e3] at h3
  rw [e4] at h4
  rw [e5] at h5
  rw [e6] at h6
  obtain ⟨hq1, hcq, _⟩ := mayN_spec e5
  have hbk : ckBack q c < q := Nat.mod_lt _ (by omega)
  have hU := c_SSub p q g h 0 c B256_zero hc hq
  rw [show mayN 0 c q = true by simp [mayN, hq1, hcq]; omega, show (0 + q - c) % q = ckBack q c from rfl] at hU
  have m1 := c_fMeet p q g h s base S a (ckBack q c) hbs hS ha (by omega) hp (gIn_may e1) (gIn_may e2)
  have m2 := c_fMeet p q g h s y S b (ckBack q c) hy hS hb (by omega) hp (gIn_may e3) (gIn_may e4)
  have hC := fun j => c_fChal p q g h s base a y b (base ^ S % p * (a ^ ckBack q c % p) % p) (y ^ S % p * (b ^ ckBack q c % p) % p) j 0 6 hq (by omega) (by omega)
  have hcl : ckC p q (strB s) base a y b c S < B256 := Nat.lt_trans (hNum_lt (by omega) _ _) hq
  rw [show hNum q (strB s) [be 32 base, be 32 a, be 32 y, be 32 b, be 32 (base ^ S % p * (a ^ ckBack q c % p) % p), be 32 (y ^ S % p * (b ^ ckBack q c % p) % p)] = ckC p q (strB s) base a y b c S from rfl] at hC
  generalize ckC p q (strB s) base a y b c S = R at *
  generalize base ^ S % p * (a ^ ckBack q c % p) % p = P1 at *
  generalize y ^ S % p * (b ^ ckBack q c % p) % p = P2 at *
  generalize ckBack q c = B at *
  clear e1 e2 e3 e4 e5 e6
  refine Fn.enter Tryz.func39 rfl rfl rfl ?_
  intro w hw
  repeat (first | refine WC.loopU 4 ?_ | refine Ta ?_ | (refine Tm ?_; intro _) | refine WO.does (does_indexA (len := 4) (i := 0) rfl rfl (by decide) rfl) ?_ | refine WO.acall (hc := h1) (k := ?_) | refine Tc ?_ | exact Tz)
  repeat (first | refine Ta ?_ | (refine Tm ?_; intro _) | refine WO.does (does_indexA (len := 4) (i := 1) rfl rfl (by decide) rfl) ?_ | refine WO.acall (hc := h2) (k := ?_) | refine Tc ?_ | exact Tz)
  repeat (first | refine Ta ?_ | (refine Tm ?_; intro _) | refine WO.does (does_indexA (len := 4) (i := 2) rfl rfl (by decide) rfl) ?_ | refine WO.acall (hc := h3) (k := ?_) | refine Tc ?_ | exact Tz)
  repeat (first | refine Ta ?_ | (refine Tm ?_; intro _) | refine WO.does (does_indexA (len := 4) (i := 3) rfl rfl (by decide) rfl) ?_ | refine WO.acall (hc := h4) (k := ?_) | refine Tc ?_ | exact Tz)
  repeat (first | refine Ta ?_ | (refine Tm ?_; intro _) | refine WO.acall (hc := h5) (k := ?_) | refine WO.acall (hc := h6) (k := ?_) | refine WO.acall (hc := hU) (k := ?_) | refine Tc ?_ | exact Tz)
  refine WC.adraw 25 (k := ?_)
  repeat (first | refine Da ?_ | refine DQ.acall (hc := m1) (k := ?_) | refine DQ.acall (hc := m2) (k := ?_) | refine DQ.makes (fun s _ => makes_build (cs := numC base ++ (numC a ++ (numC y ++ (numC b ++ (numC P1 ++ numC P2))))) rfl (by decide) rfl) Dp.const Dp.const ?_ | refine DQ.acallB 19 (fun s => ⟨s 19 0, 24, numC base ++ (numC a ++ (numC y ++ (numC b ++ (numC P1 ++ numC P2))))⟩) (fun s => hC (s 19 0)) (fun s w hm => Hs.seg Hs.here hm) ?_ | refine DQ.does (fun s _ => a_eqNum) Dp.const ?_ | refine Dc ?_)
  refine DQ.anil (k := ?_)
  intro sx _
  repeat (first | refine Ta ?_ | (refine Tm ?_; intro _) | refine Tc ?_ | exact Tz)
  done
theorem c_Check (base a y b c S : Nat) (hp : p < B256) (hq : q < B256) (hbs : base < B256) (ha : a < B256) (hy : y < B256) (hb : b < B256) (hc : c < B256) (hS : S < B256) (hs : s.size ≤ 68719476736) :
    Fn Tryz.prog 39 [grpV p q g h, .string s, numV base, numV a, numV y, numV b, pfV c S] Tr (Is (.bool (ckB p q (strB s) base a y b c S))) := by
  unfold ckB
  cases hB : (gIn p q base && gIn p q a && gIn p q y && gIn p q b && mayN c c q && mayN S S q) with
  | false => rw [Bool.false_and]; exact c_CheckN p q g h s base a y b c S hp hq hbs ha hy hb hc hS hB
  | true => rw [Bool.true_and]; exact c_CheckY p q g h s base a y b c S hp hq hbs ha hy hb hc hS hs hB
end
end Sx
end Go.Proofs.YtakkmakilfodoaaGreat

/- balefireref14.Check: refused -/
namespace Go.Proofs.YtakkmakilfodoaaGreat
open Go Go.RowKit Go.BigFrame
namespace Sx
attribute [local irreducible] wd DQ DQS WO WC WX
section
variable (p q g h : Nat) (s : ByteArray)
set_option maxHeartbeats 4000000 in
theorem r14_CheckN (base a y b c S : Nat) (hp : p < B256) (hq : q < B256) (hbs : base < B256) (ha : a < B256) (hy : y < B256) (hb : b < B256) (hc : c < B256) (hS : S < B256)
    (hB : (gIn p q base && gIn p q a && gIn p q y && gIn p q b && mayN c c q && mayN S S q) = false) :
    Fn Tryz.prog 40 [grpV p q g h, .string s, numV base, numV a, numV y, numV b, pfV c S] Tr (Is (.bool false)) := by
  have h1 := r8_In p q g h base hbs hp hq
  have h2 := r8_In p q g h a ha hp hq
  have h3 := r8_In p q g h y hy hp hq
  have h4 := r8_In p q g h b hb hp hq
  have h5 := r14_exponent p q g h c hc hq
  have h6 := r14_exponent p q g h S hS hq
  cases e1 : gIn p q base with
  | false =>
    rw [e1] at h1
    clear hB h2 h3 h4 h5 h6
    refine Fn.enter Tryz.func40 rfl rfl rfl ?_
    intro w hw
    repeat (first | refine Ta ?_ | (refine Tm ?_; intro _) | refine WO.acall (hc := h1) (k := ?_) | refine Tc ?_ | exact Tz)
  | true =>
  rw [e1] at h1 hB
  cases e2 : gIn p q a with
  | false =>
    rw [e2] at h2
    clear hB h3 h4 h5 h6
    refine Fn.enter Tryz.func40 rfl rfl rfl ?_
    intro w hw
    repeat (first | refine Ta ?_ | (refine Tm ?_; intro _) | refine WO.acall (hc := h1) (k := ?_) | refine WO.acall (hc := h2) (k := ?_) | refine Tc ?_ | exact Tz)
  | true =>
  rw [e2] at h2 hB
  cases e3 : gIn p q y with
  | false =>
    rw [e3] at h3
    clear hB h4 h5 h6
    refine Fn.enter Tryz.func40 rfl rfl rfl ?_
    intro w hw
    repeat (first | refine Ta ?_ | (refine Tm ?_; intro _) | refine WO.acall (hc := h1) (k := ?_) | refine WO.acall (hc := h2) (k := ?_) | refine WO.acall (hc := h3) (k := ?_) | refine Tc ?_ | exact Tz)
  | true =>
  rw [e3] at h3 hB
  cases e4 : gIn p q b with
  | false =>
    rw [e4] at h4
    clear hB h5 h6
    refine Fn.enter Tryz.func40 rfl rfl rfl ?_
    intro w hw
    repeat (first | refine Ta ?_ | (refine Tm ?_; intro _) | refine WO.acall (hc := h1) (k := ?_) | refine WO.acall (hc := h2) (k := ?_) | refine WO.acall (hc := h3) (k := ?_) | refine WO.acall (hc := h4) (k := ?_) | refine Tc ?_ | exact Tz)
  | true =>
  rw [e4] at h4 hB
  cases e5 : mayN c c q with
  | false =>
    rw [e5] at h5
    clear hB h6
    refine Fn.enter Tryz.func40 rfl rfl rfl ?_
    intro w hw
    repeat (first | refine Ta ?_ | (refine Tm ?_; intro _) | refine WO.acall (hc := h1) (k := ?_) | refine WO.acall (hc := h2) (k := ?_) | refine WO.acall (hc := h3) (k := ?_) | refine WO.acall (hc := h4) (k := ?_) | refine WO.acall (hc := h5) (k := ?_) | refine Tc ?_ | exact Tz)
  | true =>
  rw [e5] at h5 hB
  have e6 : mayN S S q = false := by simpa using hB
  rw [e6] at h6
  clear hB
  refine Fn.enter Tryz.func40 rfl rfl rfl ?_
  intro w hw
  repeat (first | refine Ta ?_ | (refine Tm ?_; intro _) | refine WO.acall (hc := h1) (k := ?_) | refine WO.acall (hc := h2) (k := ?_) | refine WO.acall (hc := h3) (k := ?_) | refine WO.acall (hc := h4) (k := ?_) | refine WO.acall (hc := h5) (k := ?_) | refine WO.acall (hc := h6) (k := ?_) | refine Tc ?_ | exact Tz)
end
end Sx
end Go.Proofs.YtakkmakilfodoaaGreat

/- balefireref14.Check, whole -/
namespace Go.Proofs.YtakkmakilfodoaaGreat
open Go Go.RowKit Go.BigFrame
namespace Sx
attribute [local irreducible] wd DQ DQS WO WC WX
theorem okV_mul {p u v : Nat} (h : 1 < p) (hu : u < p) (hv : v < p) : okV (gMay p u && gMay p v) (u * v % p) = u * v % p := by
  unfold okV gMay
  by_cases h1 : u = 0
  · subst h1; simp
  · by_cases h2 : v = 0
    · subst h2; simp
    · simp [h, h1, h2, hu, hv]
section
variable (p q g h : Nat)
/-- the product of powers, and an error that nobody looks at -/
theorem r8_MulV (u v : Nat) (h1 : 1 < p) (hu : u < p) (hv : v < p) (hp : p < B256) : ∃ e : Int, Fn Tryz.prog 82 [grpV p q g h, numV u, numV v] Tr (Is (.tuple #[numV (u * v % p), .int .i64 e])) :=
  ⟨_, by rw [← okV_mul h1 hu hv]; exact r8_Mul p q g h u v (by omega) (by omega) hp⟩
variable (s : ByteArray)
set_option maxHeartbeats 4000000 in
theorem r14_CheckY (base a y b c S : Nat) (hp : p < B256) (hq : q < B256) (hbs : base < B256) (ha : a < B256) (hy : y < B256) (hb : b < B256) (hc : c < B256) (hS : S < B256) (hs : s.size ≤ 68719476736)
    (hB : (gIn p q base && gIn p q a && gIn p q y && gIn p q b && mayN c c q && mayN S S q) = true) :
    Fn Tryz.prog 40 [grpV p q g h, .string s, numV base, numV a, numV y, numV b, pfV c S] Tr (Is (.bool (decide (ckC p q (strB s) base a y b c S = c)))) := by
  have h1 := r8_In p q g h base hbs hp hq
  have h2 := r8_In p q g h a ha hp hq
  have h3 := r8_In p q g h y hy hp hq
  have h4 := r8_In p q g h b hb hp hq
  have h5 := r14_exponent p q g h c hc hq
  have h6 := r14_exponent p q g h S hS hq
  simp only [Bool.and_eq_true] at hB
  obtain ⟨⟨⟨⟨⟨e1, e2⟩, e3⟩, e4⟩, e5⟩, e6⟩ := hB
  rw [e1] at h1
  rw [e2] at h2
  rw [e3] at h3
  rw [e4] at h4
  rw [e5] at h5
  rw [e6] at h6
  obtain ⟨hq1, hcq, _⟩ := mayN_spec e5
  have hp1 := (gMay_spec (gIn_may e1)).1
  have hbk : ckBack q c < q := Nat.mod_lt _ (by omega)
  have hU := r9_Sub p q g h 0 c B256_zero hc hq
  rw [show mayN 0 c q = true by simp [mayN, hq1, hcq]; omega, show (0 + q - c) % q = ckBack q c from rfl] at hU
  have p1 := r14_power p q g h base S hbs hS hp
  have p2 := r14_power p q g h a (ckBack q c) ha (by omega) hp
  have p3 := r14_power p q g h y S hy hS hp
  have p4 := r14_power p q g h b (ckBack q c) hb (by omega) hp
  rw [gIn_may e1] at p1
  rw [gIn_may e2] at p2
  rw [gIn_may e3] at p3
  rw [gIn_may e4] at p4
  have hm0 : ∀ x, x % p < p := fun x => Nat.mod_lt _ (by omega)
  obtain ⟨E1, m1⟩ := r8_MulV p q g h (base ^ S % p) (a ^ ckBack q c % p) hp1 (hm0 _) (hm0 _) hp
  obtain ⟨E2, m2⟩ := r8_MulV p q g h (y ^ S % p) (b ^ ckBack q c % p) hp1 (hm0 _) (hm0 _) hp
  have hC := r14_challenge p q g h s base a y b (base ^ S % p * (a ^ ckBack q c % p) % p) (y ^ S % p * (b ^ ckBack q c % p) % p) hq (by omega) (by omega)
  have hcl : ckC p q (strB s) base a y b c S < B256 := Nat.lt_trans (hNum_lt (by omega) _ _) hq
  rw [show hNum q (strB s) [be 32 base, be 32 a, be 32 y, be 32 b, be 32 (base ^ S % p * (a ^ ckBack q c % p) % p), be 32 (y ^ S % p * (b ^ ckBack q c % p) % p)] = ckC p q (strB s) base a y b c S from rfl] at hC
  generalize ckC p q (strB s) base a y b c S = R at *
  generalize base ^ S % p * (a ^ ckBack q c % p) % p = P1 at *
  generalize y ^ S % p * (b ^ ckBack q c % p) % p = P2 at *
  generalize base ^ S % p = U1 at *
  generalize a ^ ckBack q c % p = U2 at *
  generalize y ^ S % p = U3 at *
  generalize b ^ ckBack q c % p = U4 at *
  generalize ckBack q c = B at *
  clear e1 e2 e3 e4 e5 e6 hm0
  refine Fn.enter Tryz.func40 rfl rfl rfl ?_
  intro w hw
  repeat (first | refine Ta ?_ | (refine Tm ?_; intro _) | refine WO.acall (hc := h1) (k := ?_) | refine WO.acall (hc := h2) (k := ?_) | refine WO.acall (hc := h3) (k := ?_) | refine WO.acall (hc := h4) (k := ?_) | refine WO.acall (hc := h5) (k := ?_) | refine WO.acall (hc := h6) (k := ?_) | refine WO.acall (hc := hU) (k := ?_) | refine Tc ?_ | exact Tz)
  refine WC.adrawF [13] 15 (k := ?_)
  repeat (first | refine Da ?_ | refine DQ.acall (hc := p1) (k := ?_) | refine DQ.acall (hc := p2) (k := ?_) | refine DQ.acall (hc := m1) (k := ?_) | refine Df ?_)
  refine DQ.anil (k := ?_)
  intro sx _
  repeat (first | refine Ta ?_ | (refine Tm ?_; intro _) | refine Tc ?_ | exact Tz)
  refine WC.adrawF [13] 15 (k := ?_)
  repeat (first | refine Da ?_ | refine DQ.acall (hc := p3) (k := ?_) | refine DQ.acall (hc := p4) (k := ?_) | refine DQ.acall (hc := m2) (k := ?_) | refine Df ?_)
  refine DQ.anil (k := ?_)
  intro sx _
  repeat (first | refine Ta ?_ | (refine Tm ?_; intro _) | refine Tc ?_ | exact Tz)
  refine WC.adraw 14 (k := ?_)
  repeat (first | refine Da ?_ | refine DQ.acall (hc := hC) (k := ?_) | refine DQ.does (fun s _ => a_eqNum) Dp.const ?_ | refine Dc ?_)
  refine DQ.anil (k := ?_)
  intro sx _
  repeat (first | refine Ta ?_ | (refine Tm ?_; intro _) | refine Tc ?_ | exact Tz)
  done
theorem r14_Check (base a y b c S : Nat) (hp : p < B256) (hq : q < B256) (hbs : base < B256) (ha : a < B256) (hy : y < B256) (hb : b < B256) (hc : c < B256) (hS : S < B256) (hs : s.size ≤ 68719476736) :
    Fn Tryz.prog 40 [grpV p q g h, .string s, numV base, numV a, numV y, numV b, pfV c S] Tr (Is (.bool (ckB p q (strB s) base a y b c S))) := by
  unfold ckB
  cases hB : (gIn p q base && gIn p q a && gIn p q y && gIn p q b && mayN c c q && mayN S S q) with
  | false => rw [Bool.false_and]; exact r14_CheckN p q g h s base a y b c S hp hq hbs ha hy hb hc hS hB
  | true => rw [Bool.true_and]; exact r14_CheckY p q g h s base a y b c S hp hq hbs ha hy hb hc hS hs hB
end
end Sx
end Go.Proofs.YtakkmakilfodoaaGreat

/- opens: of; the answers of Open and Check. -/
namespace Go.Proofs.YtakkmakilfodoaaGreat
open Go Go.RowKit Go.BigFrame
namespace Sx
attribute [local irreducible] wd DQ DQS WO WC WX
/-- a dealing's value -/
abbrev dlV (ep d : Nat) (v y pr : Value) (c s : Nat) : Value := .agg #[.int .u64 (ep : Int), .int .u8 (d : Int), v, y, pr, .int .u64 ((wd 0 c : Nat) : Int), .int .u64 ((wd 1 c : Nat) : Int), .int .u64 ((wd 2 c : Nat) : Int), .int .u64 ((wd 3 c : Nat) : Int), .int .u64 ((wd 0 s : Nat) : Int), .int .u64 ((wd 1 s : Nat) : Int), .int .u64 ((wd 2 s : Nat) : Int), .int .u64 ((wd 3 s : Nat) : Int)]
abbrev dlC (ep d : Nat) (v y pr : Value) (c s : Nat) : List Value := [.int .u64 (ep : Int), .int .u8 (d : Int), v, y, pr, .int .u64 ((wd 0 c : Nat) : Int), .int .u64 ((wd 1 c : Nat) : Int), .int .u64 ((wd 2 c : Nat) : Int), .int .u64 ((wd 3 c : Nat) : Int), .int .u64 ((wd 0 s : Nat) : Int), .int .u64 ((wd 1 s : Nat) : Int), .int .u64 ((wd 2 s : Nat) : Int), .int .u64 ((wd 3 s : Nat) : Int)]
/-- an opened share's value -/
abbrev opC (ep d n z c s : Nat) : List Value := [.int .u64 (ep : Int), .int .u8 (d : Int), .int .u8 (n : Int), .int .u64 ((wd 0 z : Nat) : Int), .int .u64 ((wd 1 z : Nat) : Int), .int .u64 ((wd 2 z : Nat) : Int), .int .u64 ((wd 3 z : Nat) : Int), .int .u64 ((wd 0 c : Nat) : Int), .int .u64 ((wd 1 c : Nat) : Int), .int .u64 ((wd 2 c : Nat) : Int), .int .u64 ((wd 3 c : Nat) : Int), .int .u64 ((wd 0 s : Nat) : Int), .int .u64 ((wd 1 s : Nat) : Int), .int .u64 ((wd 2 s : Nat) : Int), .int .u64 ((wd 3 s : Nat) : Int)]
abbrev opV (ep d n z c s : Nat) : Value := .agg #[.int .u64 (ep : Int), .int .u8 (d : Int), .int .u8 (n : Int), .int .u64 ((wd 0 z : Nat) : Int), .int .u64 ((wd 1 z : Nat) : Int), .int .u64 ((wd 2 z : Nat) : Int), .int .u64 ((wd 3 z : Nat) : Int), .int .u64 ((wd 0 c : Nat) : Int), .int .u64 ((wd 1 c : Nat) : Int), .int .u64 ((wd 2 c : Nat) : Int), .int .u64 ((wd 3 c : Nat) : Int), .int .u64 ((wd 0 s : Nat) : Int), .int .u64 ((wd 1 s : Nat) : Int), .int .u64 ((wd 2 s : Nat) : Int), .int .u64 ((wd 3 s : Nat) : Int)]
def sOpen : ByteArray := ⟨#[111, 112, 101, 110]⟩
/-- a node's key for shares -/
def shK (N : List (Nat × Nat)) (n : Nat) : Nat := (N.getD (n - 1) (0, 0)).2
/-- what a node opens -/
def opZ (p q x y : Nat) : Nat := y ^ invN x q % p
def opH (ep d n y z : Nat) : List Nat := hOf (strB sOpen) [abL ep d n, be 32 y, be 32 z]
def opD (q x ep d n y z : Nat) : Nat := drawN q x (opH ep d n y z)
def opCc (p q h x z draw : Nat) : Nat := okV (prB p q x h z draw) (prC p q (strB sOpen) x h z draw)
def opS (p q h x z draw : Nat) : Nat := okV (prB p q x h z draw) ((draw + x * prC p q (strB sOpen) x h z draw % q) % q)
def opOk (p q h ep d n x y : Nat) : Value := opV ep d n (opZ p q x y) (opCc p q h x (opZ p q x y) (opD q x ep d n y (opZ p q x y))) (opS p q h x (opZ p q x y) (opD q x ep d n y (opZ p q x y)))
/-- may it be opened? -/
def opA (p q g h : Nat) (f sec : Int) (N : List (Nat × Nat)) (n x : Nat) : Bool := setB p q g h f sec N && nodeB n N && secB p q h x (shK N n)
def opF (p q : Nat) (N : List (Nat × Nat)) (Y : List Nat) (n : Nat) : Bool := decide (Y.length = N.length) && gIn p q (Y.getD (n - 1) 0)
def opE (k : Int) : Value := .tuple #[opV 0 0 0 0 0 0, .int .i64 k]
/-- the answer of Open -/
def opR (p q g h : Nat) (f sec : Int) (N : List (Nat × Nat)) (ep d n x : Nat) (Y : List Nat) : Value :=
  if opA p q g h f sec N n x then (if opF p q N Y n then (if invE x q = 0 then .tuple #[opOk p q h ep d n x (Y.getD (n - 1) 0), .int .i64 0] else opE 7) else opE 4) else opE 1
/-- the answer of Check -/
def opCk (p q g h : Nat) (f sec : Int) (N : List (Nat × Nat)) (ep d : Nat) (Y : List Nat) (oe od n z c s : Nat) : Bool :=
  setB p q g h f sec N && decide (oe = ep) && decide (od = d) && nodeB n N && decide (Y.length = N.length) && ckB p q (strB sOpen) h (shK N n) z (Y.getD (n - 1) 0) c s
theorem nodeB_spec {n : Nat} {N : List (Nat × Nat)} (h : nodeB n N = true) : 1 ≤ n ∧ n ≤ N.length := by
  unfold nodeB at h; simp at h; exact h
theorem shK_get {n : Nat} {N : List (Nat × Nat)} (h1 : 1 ≤ n) (h2 : n ≤ N.length) : ∃ k, N[n - 1]? = some k ∧ shK N n = k.2 := by
  have hlt : n - 1 < N.length := by omega
  exact ⟨_, List.getElem?_eq_getElem hlt, by simp [shK, List.getD, List.getElem?_eq_getElem hlt]⟩
theorem setB_may {p q g h : Nat} {f sec : Int} {N : List (Nat × Nat)} (hs : setB p q g h f sec N = true) : gMay p h = true := by
  unfold setB at hs
  simp only [Bool.and_eq_true] at hs
  have hk := hs.1.2
  unfold kB at hk
  rw [Bool.and_eq_true] at hk
  exact gIn_may hk.1
theorem secB_may {p q h x key : Nat} (hs : secB p q h x key = true) : mayN x x q = true := by
  unfold secB at hs
  simp only [Bool.and_eq_true] at hs
  exact hs.1.1
theorem drawN_lt {q x : Nat} {H : List Nat} (h0 : 0 < q) (hq : q < B256) : drawN q x H < B256 := by
  unfold drawN
  split
  · exact B256_one'
  · exact Nat.lt_trans (hNum_lt h0 _ _) hq
theorem be_one {n : Nat} (h : n < 256) : be 1 n = [n] := by
  simp [be, List.range, List.range.loop]; omega
theorem abL_cells {ep d n : Nat} (hd : d < 256) (hn : n < 256) : byC (be 8 ep) ++ [.int .u8 (d : Int), .int .u8 (n : Int)] = byC (abL ep d n) := by
  unfold abL
  rw [be_one hd, be_one hn, byC_append, byC_append]
  simp [byC]
theorem abL_lt {ep d n : Nat} : ∀ b ∈ abL ep d n, b < 256 := by
  intro b hb
  unfold abL at hb
  rcases List.mem_append.1 hb with hb | hb
  · rcases List.mem_append.1 hb with hb | hb <;> exact be_lt b hb
  · exact be_lt b hb
theorem abL_parts (ep d n y z : Nat) : ∀ X ∈ [abL ep d n, be 32 y, be 32 z], ∀ x ∈ X, x < 256 := by
  intro X hX
  simp only [List.mem_cons, List.not_mem_nil, or_false] at hX
  rcases hX with rfl | rfl | rfl
  · exact abL_lt
  · exact be_lt
  · exact be_lt
theorem abL_bytes (ep d n y z : Nat) : (hBytes (strB sOpen) [abL ep d n, be 32 y, be 32 z]).length ≤ 274877906944 := by
  simp only [hBytes, hHead, hBody, List.flatMap_cons, List.flatMap_nil, List.length_append, be_length, strB_length, List.length_nil, abL_length]
  decide
section
variable {P : Program} {w0 : World} {gs : List Nat} {K : List (Nat × Value)} {L : List Ent}
theorem does_eqlY {x y : Operand} {t yt ty : TypeId} {k : IntKind} {m n : Int} (hx : ev K x = some (.int k m)) (hy : ev K y = some (.int k n)) (h : m = n) : Does P w0 gs K L (.binOp .eql t x y yt) ty (.bool true) := by
  have := does_eql (P := P) (w0 := w0) (gs := gs) (L := L) (t := t) (yt := yt) (ty := ty) hx hy
  rw [decide_eq_true h] at this
  exact this
theorem does_neqY {x y : Operand} {t yt ty : TypeId} {k : IntKind} {m n : Int} (hx : ev K x = some (.int k m)) (hy : ev K y = some (.int k n)) (h : m ≠ n) : Does P w0 gs K L (.binOp .neq t x y yt) ty (.bool true) := by
  have := does_neq (P := P) (w0 := w0) (gs := gs) (L := L) (t := t) (yt := yt) (ty := ty) hx hy
  rw [decide_eq_true h] at this
  exact this
theorem does_neqN {x y : Operand} {t yt ty : TypeId} {k : IntKind} {m n : Int} (hx : ev K x = some (.int k m)) (hy : ev K y = some (.int k n)) (h : m = n) : Does P w0 gs K L (.binOp .neq t x y yt) ty (.bool false) := by
  have := does_neq (P := P) (w0 := w0) (gs := gs) (L := L) (t := t) (yt := yt) (ty := ty) hx hy
  rw [decide_eq_false (fun hn => hn h)] at this
  exact this
end
theorem c_oof (ep d : Nat) (hd : d < 256) : Fn Tryz.prog 38 [.int .u64 (ep : Int), .int .u8 (d : Int)] Tr (Is (.agg #[.int .u64 (ep : Int), .int .u64 (d : Int)])) := by
  have hcv : IntKind.u64.wrap (d : Int) = (d : Int) := u64_in (by omega) (by omega)
  refine Fn.enter Tryz.func38 rfl rfl rfl ?_
  intro w hw
  repeat (first | refine Ta ?_ | (refine Tm ?_; intro _) | refine WO.does (does_conv rfl hcv) ?_ | refine WO.does (does_buildA (cs := [.int .u64 (ep : Int), .int .u64 (d : Int)]) rfl rfl rfl) ?_ | refine Tc ?_ | exact Tz)
/-! pairs of words -/
theorem key_pair (a b : Nat) (ha : a < 18446744073709551616) (hb : b < 18446744073709551616) : Tryz.prog.keyLits 2 73 [.int .u64 (a : Int), .int .u64 (b : Int)] = some [.int .u64 (a : Int), .int .u64 (b : Int)] := by
  have c1 : Tryz.prog.cellsOf 73 = 2 := by kernel_rfl
  have c2 : Tryz.prog.cellsOf 22 = 1 := by kernel_rfl
  have k1 := key_word a ha
  have k2 := key_word b hb
  have r : List.range 2 = [0, 1] := rfl
  unfold Program.keyLits
  simp [Tryz.underlying73, c1, c2, r, k1, k2]
theorem guard_pair (op : BinOp) (x y : Operand) (a b : Array Value) (w : World) : (eqGuard op 73 x y (.agg a) (.agg b)).run Tryz.prog w = .ok () w := by cases op <;> kernel_rfl
section
variable {w0 : World} {gs : List Nat} {K : List (Nat × Value)} {L : List Ent}
theorem a_neqPair {x y : Operand} {yt ty : TypeId} {a b c d : Nat} (hx : ev K x = some (.agg #[.int .u64 (a : Int), .int .u64 (b : Int)])) (hy : ev K y = some (.agg #[.int .u64 (c : Int), .int .u64 (d : Int)]))
    (ha : a < 18446744073709551616) (hb : b < 18446744073709551616) (hc : c < 18446744073709551616) (hd : d < 18446744073709551616) :
    Does Tryz.prog w0 gs K L (.binOp .neq 73 x y yt) ty (.bool (!(decide (a = c) && decide (b = d)))) := by
  intro ac w hk _ o ho _
  obtain ⟨r, hr, hiff⟩ := run_equalIn_deep (P := Tryz.prog) 9998 2 73 (by kernel_rfl) w 2 2 (.agg #[.int .u64 (a : Int), .int .u64 (b : Int)]) (.agg #[.int .u64 (c : Int), .int .u64 (d : Int)])
    [.int .u64 (a : Int), .int .u64 (b : Int)] [.int .u64 (c : Int), .int .u64 (d : Int)] (by kernel_rfl) (by kernel_rfl) (key_pair a b ha hb) (key_pair c d hc hd)
  have e : r = (decide (a = c) && decide (b = d)) := by
    rw [Bool.eq_iff_iff, hiff]
    simp only [Bool.and_eq_true, decide_eq_true_eq, List.cons.injEq, Lit.int.injEq, true_and, and_true, Int.ofNat_inj]
  subst e
  simp only [execOp, ho, hk.eval hx, hk.eval hy, Sem.run_bind, guard_pair, Result.andThen_ok, run_neq_struct, hr, Sem.run_pure]
theorem a_neqPairV {x y : Operand} {yt ty : TypeId} {a b c d : Nat} {r : Bool} (hx : ev K x = some (.agg #[.int .u64 (a : Int), .int .u64 (b : Int)])) (hy : ev K y = some (.agg #[.int .u64 (c : Int), .int .u64 (d : Int)]))
    (ha : a < 18446744073709551616) (hb : b < 18446744073709551616) (hc : c < 18446744073709551616) (hd : d < 18446744073709551616) (hr : (!(decide (a = c) && decide (b = d))) = r) :
    Does Tryz.prog w0 gs K L (.binOp .neq 73 x y yt) ty (.bool r) := by
  subst hr
  exact a_neqPair hx hy ha hb hc hd
end
end Sx
end Go.Proofs.YtakkmakilfodoaaGreat

/- Twins of settings and dealings; that they are left as they were: balefirelaw01.TwinSetting, TwinDealing, LeftSetting, LeftDealing; balefirelaw16.great. -/
namespace Go.Proofs.YtakkmakilfodoaaGreat
open Go Go.RowKit Go.BigFrame
namespace Sx
attribute [local irreducible] wd DQ DQS WO WC WX
section
variable {w0 : World} {gs : List Nat} {K : List (Nat × Value)} {L : List Ent}
theorem a_eqGroup {x y : Operand} {yt ty : TypeId} {p q g h : Nat} (hx : ev K x = some (.agg (grpC p q g h).toArray)) (hy : ev K y = some (.agg (grpC p q g h).toArray)) : Does Tryz.prog w0 gs K L (.binOp .eql 26 x y yt) ty (.bool true) :=
  a_eqSame hx hy (fun w => same_group p q g h w) (fun w => guard_group _ _ _ _ _ w)
theorem a_eqSig {x y : Operand} {yt ty : TypeId} {a b : Nat} (hx : ev K x = some (.agg (twoC a b).toArray)) (hy : ev K y = some (.agg (twoC a b).toArray)) : Does Tryz.prog w0 gs K L (.binOp .eql 33 x y yt) ty (.bool true) :=
  a_eqSame hx hy (fun w => same_sig a b w) (fun w => guard_sig _ _ _ _ _ w)
end
section
variable (p q g h : Nat) (f sec : Int) (pt : Option Addr) (c : Nat) (N : List (Nat × Nat))
set_option maxHeartbeats 2000000 in
theorem t_TwinSetting (hNl : N.length ≤ 100) :
    Fn Tryz.prog 5 [stV p q g h f sec (.slice pt N.length c)] (RdF keyC (.slice pt N.length c) N)
      (Ex (fun s => stV p q g h f sec (.slice (some ⟨s 0, 0, none⟩) N.length (N.length + 1))) (fun s => [⟨s 0, 58, N.flatMap keyC ++ twoC 77 0⟩]) (fun _ => True)) := by
  have hT := t_TwinKeys N pt c hNl
  refine Fn.enter Tryz.func5 rfl rfl rfl ?_
  intro w hw
  repeat (first | refine Ta ?_ | (refine Tm ?_; intro _) | refine Tc ?_ | exact Tz)
  refine WC.adraw 10 (k := ?_)
  repeat (first | refine Da ?_ | refine DQ.acallC (hc := hT) (hR := fun w hm => hw.mod hm.mod) (k := ?_) | refine Dc ?_)
  refine DQ.anil (k := ?_)
  intro sx _
  generalize sx 8 0 = gN
  repeat (first | refine Ta ?_ | (refine Tm ?_; intro _) | refine Tc ?_ | exact Tz)
  exact WX.ret1 rfl a_rvc [⟨gN, 58, N.flatMap keyC ++ twoC 77 0⟩] (Lle.cons (by repeat (first | exact Pk.here | apply Pk.there)) rfl Lle.nil) ⟨fun _ => gN, rfl, rfl, trivial⟩
set_option maxHeartbeats 2000000 in
theorem t_LeftSetting (bt : Nat) (hNl : N.length ≤ 100) :
    Fn Tryz.prog 11 [stV p q g h f sec (.slice (some ⟨bt, 0, none⟩) N.length (N.length + 1)), stV p q g h f sec (.slice pt N.length c)]
      (fun w => Seg w bt 0 (N.flatMap keyC ++ twoC 77 0) ∧ RdF keyC (.slice pt N.length c) N w) (Is (.bool true)) := by
  have hL := t_LeftKeys N pt c bt hNl
  refine Fn.enter Tryz.func11 rfl rfl rfl ?_
  intro w hw
  repeat (first | refine Ta ?_ | (refine Tm ?_; intro _) | refine WO.does (a_eqGroup (p := p) (q := q) (g := g) (h := h) rfl rfl) ?_ | refine WO.does (does_eqlY rfl rfl rfl) ?_ | refine WO.acallR (hc := hL) (hR := fun w hm => ⟨hw.1.mod hm.mod (by simp), hw.2.mod hm.mod⟩) (k := ?_) | refine Tc ?_ | exact Tz)
  done
variable (ep d : Nat) (sC sS : Nat) (pV pY pP : Option Addr) (cV cY cP : Nat) (V Y : List Nat) (Pr : List (Nat × Nat))
set_option maxHeartbeats 2000000 in
theorem t_TwinDealing (hV : V.length ≤ 100) (hY : Y.length ≤ 100) (hP : Pr.length ≤ 100) :
    Fn Tryz.prog 6 [dlV ep d (.slice pV V.length cV) (.slice pY Y.length cY) (.slice pP Pr.length cP) sC sS] (fun w => RdF numC (.slice pV V.length cV) V w ∧ RdF numC (.slice pY Y.length cY) Y w ∧ RdF pfC (.slice pP Pr.length cP) Pr w)
      (Ex (fun s => dlV ep d (.slice (some ⟨s 0, 0, none⟩) V.length (V.length + 1)) (.slice (some ⟨s 1, 0, none⟩) Y.length (Y.length + 1)) (.slice (some ⟨s 2, 0, none⟩) Pr.length (Pr.length + 1)) sC sS)
        (fun s => [⟨s 2, 42, Pr.flatMap pfC ++ twoC 77 0⟩, ⟨s 1, 24, Y.flatMap numC ++ numC 77⟩, ⟨s 0, 24, V.flatMap numC ++ numC 77⟩]) (fun _ => True)) := by
  have h1 := t_TwinNums V pV cV hV
  have h2 := t_TwinNums Y pY cY hY
  have h3 := t_TwinProofs Pr pP cP hP
  refine Fn.enter Tryz.func6 rfl rfl rfl ?_
  intro w hw
  obtain ⟨w1, w2, w3⟩ := hw
  repeat (first | refine Ta ?_ | (refine Tm ?_; intro _) | refine Tc ?_ | exact Tz)
  refine WC.adraw 16 (k := ?_)
  iterate 6 (refine DQ.auto (k := ?_))
  refine DQ.acallC (hc := h1) (hR := fun w hm => w1.mod hm.mod) (k := ?_)
  iterate 2 (refine DQ.auto (k := ?_))
  refine DQ.acallC (hc := h2) (hR := fun w hm => w2.mod hm.mod) (k := ?_)
  iterate 2 (refine DQ.auto (k := ?_))
  refine DQ.acallC (hc := h3) (hR := fun w hm => w3.mod hm.mod) (k := ?_)
  iterate 2 (refine DQ.auto (k := ?_))
  refine DQ.auto (k := ?_)
  refine DQ.anil (k := ?_)
  intro sx _
  generalize sx 6 0 = gV
  generalize sx 9 0 = gY
  generalize sx 12 0 = gP
  repeat (first | refine Ta ?_ | (refine Tm ?_; intro _) | refine Tc ?_ | exact Tz)
  exact WX.ret1 rfl a_rvc [⟨gP, 42, Pr.flatMap pfC ++ twoC 77 0⟩, ⟨gY, 24, Y.flatMap numC ++ numC 77⟩, ⟨gV, 24, V.flatMap numC ++ numC 77⟩] (Lle.cons (by repeat (first | exact Pk.here | apply Pk.there)) rfl (Lle.cons (by repeat (first | exact Pk.here | apply Pk.there)) rfl (Lle.cons (by repeat (first | exact Pk.here | apply Pk.there)) rfl Lle.nil))) ⟨fun i => if i = 0 then gV else if i = 1 then gY else gP, rfl, rfl, trivial⟩
set_option maxHeartbeats 2000000 in
theorem t_LeftDealing (bV bY bP : Nat) (hV : V.length ≤ 100) (hY : Y.length ≤ 100) (hP : Pr.length ≤ 100) :
    Fn Tryz.prog 12 [dlV ep d (.slice (some ⟨bV, 0, none⟩) V.length (V.length + 1)) (.slice (some ⟨bY, 0, none⟩) Y.length (Y.length + 1)) (.slice (some ⟨bP, 0, none⟩) Pr.length (Pr.length + 1)) sC sS, dlV ep d (.slice pV V.length cV) (.slice pY Y.length cY) (.slice pP Pr.length cP) sC sS]
      (fun w => (Seg w bV 0 (V.flatMap numC ++ numC 77) ∧ Seg w bY 0 (Y.flatMap numC ++ numC 77) ∧ Seg w bP 0 (Pr.flatMap pfC ++ twoC 77 0)) ∧ RdF numC (.slice pV V.length cV) V w ∧ RdF numC (.slice pY Y.length cY) Y w ∧ RdF pfC (.slice pP Pr.length cP) Pr w) (Is (.bool true)) := by
  have h1 := t_LeftNums V pV cV bV hV
  have h2 := t_LeftNums Y pY cY bY hY
  have h3 := t_LeftProofs Pr pP cP bP hP
  refine Fn.enter Tryz.func12 rfl rfl rfl ?_
  intro w hw
  obtain ⟨⟨v1, v2, v3⟩, w1, w2, w3⟩ := hw
  repeat (first | refine Ta ?_ | (refine Tm ?_; intro _) | refine WO.does (a_eqSig (a := sC) (b := sS) rfl rfl) ?_ | refine WO.does (does_eqlY rfl rfl rfl) ?_ | refine WO.acallR (hc := h1) (hR := fun w hm => ⟨v1.mod hm.mod (by simp), w1.mod hm.mod⟩) (k := ?_) | refine WO.acallR (hc := h2) (hR := fun w hm => ⟨v2.mod hm.mod (by simp), w2.mod hm.mod⟩) (k := ?_) | refine WO.acallR (hc := h3) (hR := fun w hm => ⟨v3.mod hm.mod (by simp), w3.mod hm.mod⟩) (k := ?_) | refine Tc ?_ | exact Tz)
  done
end
end Sx
end Go.Proofs.YtakkmakilfodoaaGreat
