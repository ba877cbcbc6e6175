/- Part 39 of the proof: LwA, OpB -/
import Derived.Test.YtakkmakilfodoaaGreatM38
set_option linter.unusedSimpArgs false
set_option linter.unusedVariables false
/- balefirelaw16.great; the values of the statement OpensOpen. -/
namespace Go.Proofs.YtakkmakilfodoaaGreat
open Go Go.RowKit Go.BigFrame
namespace Sx
attribute [local irreducible] wd DQ DQS WO WC WX
section
variable {P : Program} {w0 : World} {gs : List Nat} {K : List (Nat × Value)} {L : List Ent}
theorem does_gtrY {x y : Operand} {t yt ty : TypeId} {k : IntKind} {m n : Int} (hx : ev K x = some (.int k m)) (hy : ev K y = some (.int k n)) (h : n < m) : Does P w0 gs K L (.binOp .gtr t x y yt) ty (.bool true) := by
  have := does_gtr (P := P) (w0 := w0) (gs := gs) (L := L) (t := t) (yt := yt) (ty := ty) hx hy
  rw [decide_eq_true h] at this
  exact this
theorem does_gtrN {x y : Operand} {t yt ty : TypeId} {k : IntKind} {m n : Int} (hx : ev K x = some (.int k m)) (hy : ev K y = some (.int k n)) (h : ¬ n < m) : Does P w0 gs K L (.binOp .gtr t x y yt) ty (.bool false) := by
  have := does_gtr (P := P) (w0 := w0) (gs := gs) (L := L) (t := t) (yt := yt) (ty := ty) hx hy
  rw [decide_eq_false h] at this
  exact this
end
/-- the value of a Given -/
abbrev gvV (ep d : Nat) (v y pr : Value) (c s n x : Nat) (l pp : Value) : Value := .agg #[.int .u64 (ep : Int), .int .u8 (d : Int), v, y, pr, .int .u64 ((wd 0 c : Nat) : Int), .int .u64 ((wd 1 c : Nat) : Int), .int .u64 ((wd 2 c : Nat) : Int), .int .u64 ((wd 3 c : Nat) : Int), .int .u64 ((wd 0 s : Nat) : Int), .int .u64 ((wd 1 s : Nat) : Int), .int .u64 ((wd 2 s : Nat) : Int), .int .u64 ((wd 3 s : Nat) : Int), .int .u8 (n : Int), .int .u64 ((wd 0 x : Nat) : Int), .int .u64 ((wd 1 x : Nat) : Int), .int .u64 ((wd 2 x : Nat) : Int), .int .u64 ((wd 3 x : Nat) : Int), l, pp]
abbrev gvC (ep d : Nat) (v y pr : Value) (c s n x : Nat) (l pp : Value) : List Value := [.int .u64 (ep : Int), .int .u8 (d : Int), v, y, pr, .int .u64 ((wd 0 c : Nat) : Int), .int .u64 ((wd 1 c : Nat) : Int), .int .u64 ((wd 2 c : Nat) : Int), .int .u64 ((wd 3 c : Nat) : Int), .int .u64 ((wd 0 s : Nat) : Int), .int .u64 ((wd 1 s : Nat) : Int), .int .u64 ((wd 2 s : Nat) : Int), .int .u64 ((wd 3 s : Nat) : Int), .int .u8 (n : Int), .int .u64 ((wd 0 x : Nat) : Int), .int .u64 ((wd 1 x : Nat) : Int), .int .u64 ((wd 2 x : Nat) : Int), .int .u64 ((wd 3 x : Nat) : Int), l, pp]
section
variable (p q g h : Nat) (f sec : Int) (ep d sC sS n x : Nat) (p0 p1 p2 p3 p4 p5 : Option Addr) (n0 n1 n2 n3 n4 n5 c0 c1 c2 c3 c4 c5 : Nat)
set_option maxHeartbeats 2000000
theorem great0 (h0 : (100 : Int) < (n0 : Int)) : Fn Tryz.prog 4 [stV p q g h f sec (.slice p0 n0 c0), gvV ep d (.slice p1 n1 c1) (.slice p2 n2 c2) (.slice p3 n3 c3) sC sS n x (.slice p4 n4 c4) (.slice p5 n5 c5)] Tr (Is (.bool true)) := by
  refine Fn.enter Tryz.func4 rfl rfl rfl ?_
  intro w hw
  repeat (first | refine Ta ?_ | (refine Tm ?_; intro _) | refine WO.does (does_gtrY rfl rfl h0) ?_ | refine Tc ?_ | exact Tz)
  done
theorem great1 (h0 : ¬ (100 : Int) < (n0 : Int)) (h1 : (100 : Int) < (n1 : Int)) : Fn Tryz.prog 4 [stV p q g h f sec (.slice p0 n0 c0), gvV ep d (.slice p1 n1 c1) (.slice p2 n2 c2) (.slice p3 n3 c3) sC sS n x (.slice p4 n4 c4) (.slice p5 n5 c5)] Tr (Is (.bool true)) := by
  refine Fn.enter Tryz.func4 rfl rfl rfl ?_
  intro w hw
  repeat (first | refine Ta ?_ | (refine Tm ?_; intro _) | refine WO.does (does_gtrN rfl rfl h0) ?_ | refine WO.does (does_gtrY rfl rfl h1) ?_ | refine Tc ?_ | exact Tz)
  done
theorem great2 (h0 : ¬ (100 : Int) < (n0 : Int)) (h1 : ¬ (100 : Int) < (n1 : Int)) (h2 : (100 : Int) < (n2 : Int)) : Fn Tryz.prog 4 [stV p q g h f sec (.slice p0 n0 c0), gvV ep d (.slice p1 n1 c1) (.slice p2 n2 c2) (.slice p3 n3 c3) sC sS n x (.slice p4 n4 c4) (.slice p5 n5 c5)] Tr (Is (.bool true)) := by
  refine Fn.enter Tryz.func4 rfl rfl rfl ?_
  intro w hw
  repeat (first | refine Ta ?_ | (refine Tm ?_; intro _) | refine WO.does (does_gtrN rfl rfl h0) ?_ | refine WO.does (does_gtrN rfl rfl h1) ?_ | refine WO.does (does_gtrY rfl rfl h2) ?_ | refine Tc ?_ | exact Tz)
  done
theorem great3 (h0 : ¬ (100 : Int) < (n0 : Int)) (h1 : ¬ (100 : Int) < (n1 : Int)) (h2 : ¬ (100 : Int) < (n2 : Int)) (h3 : (100 : Int) < (n3 : Int)) : Fn Tryz.prog 4 [stV p q g h f sec (.slice p0 n0 c0), gvV ep d (.slice p1 n1 c1) (.slice p2 n2 c2) (.slice p3 n3 c3) sC sS n x (.slice p4 n4 c4) (.slice p5 n5 c5)] Tr (Is (.bool true)) := by
  refine Fn.enter Tryz.func4 rfl rfl rfl ?_
  intro w hw
  repeat (first | refine Ta ?_ | (refine Tm ?_; intro _) | refine WO.does (does_gtrN rfl rfl h0) ?_ | refine WO.does (does_gtrN rfl rfl h1) ?_ | refine WO.does (does_gtrN rfl rfl h2) ?_ | refine WO.does (does_gtrY rfl rfl h3) ?_ | refine Tc ?_ | exact Tz)
  done
theorem great4 (h0 : ¬ (100 : Int) < (n0 : Int)) (h1 : ¬ (100 : Int) < (n1 : Int)) (h2 : ¬ (100 : Int) < (n2 : Int)) (h3 : ¬ (100 : Int) < (n3 : Int)) (h4 : (100 : Int) < (n4 : Int)) : Fn Tryz.prog 4 [stV p q g h f sec (.slice p0 n0 c0), gvV ep d (.slice p1 n1 c1) (.slice p2 n2 c2) (.slice p3 n3 c3) sC sS n x (.slice p4 n4 c4) (.slice p5 n5 c5)] Tr (Is (.bool true)) := by
  refine Fn.enter Tryz.func4 rfl rfl rfl ?_
  intro w hw
  repeat (first | refine Ta ?_ | (refine Tm ?_; intro _) | refine WO.does (does_gtrN rfl rfl h0) ?_ | refine WO.does (does_gtrN rfl rfl h1) ?_ | refine WO.does (does_gtrN rfl rfl h2) ?_ | refine WO.does (does_gtrN rfl rfl h3) ?_ | refine WO.does (does_gtrY rfl rfl h4) ?_ | refine Tc ?_ | exact Tz)
  done
theorem great5 (h0 : ¬ (100 : Int) < (n0 : Int)) (h1 : ¬ (100 : Int) < (n1 : Int)) (h2 : ¬ (100 : Int) < (n2 : Int)) (h3 : ¬ (100 : Int) < (n3 : Int)) (h4 : ¬ (100 : Int) < (n4 : Int)) (h5 : (100 : Int) < (n5 : Int)) : Fn Tryz.prog 4 [stV p q g h f sec (.slice p0 n0 c0), gvV ep d (.slice p1 n1 c1) (.slice p2 n2 c2) (.slice p3 n3 c3) sC sS n x (.slice p4 n4 c4) (.slice p5 n5 c5)] Tr (Is (.bool true)) := by
  refine Fn.enter Tryz.func4 rfl rfl rfl ?_
  intro w hw
  repeat (first | refine Ta ?_ | (refine Tm ?_; intro _) | refine WO.does (does_gtrN rfl rfl h0) ?_ | refine WO.does (does_gtrN rfl rfl h1) ?_ | refine WO.does (does_gtrN rfl rfl h2) ?_ | refine WO.does (does_gtrN rfl rfl h3) ?_ | refine WO.does (does_gtrN rfl rfl h4) ?_ | refine WO.does (does_gtrY rfl rfl h5) ?_ | refine Tc ?_ | exact Tz)
  done
theorem great6 (h0 : ¬ (100 : Int) < (n0 : Int)) (h1 : ¬ (100 : Int) < (n1 : Int)) (h2 : ¬ (100 : Int) < (n2 : Int)) (h3 : ¬ (100 : Int) < (n3 : Int)) (h4 : ¬ (100 : Int) < (n4 : Int)) (h5 : ¬ (100 : Int) < (n5 : Int)) : Fn Tryz.prog 4 [stV p q g h f sec (.slice p0 n0 c0), gvV ep d (.slice p1 n1 c1) (.slice p2 n2 c2) (.slice p3 n3 c3) sC sS n x (.slice p4 n4 c4) (.slice p5 n5 c5)] Tr (Is (.bool false)) := by
  refine Fn.enter Tryz.func4 rfl rfl rfl ?_
  intro w hw
  repeat (first | refine Ta ?_ | (refine Tm ?_; intro _) | refine WO.does (does_gtrN rfl rfl h0) ?_ | refine WO.does (does_gtrN rfl rfl h1) ?_ | refine WO.does (does_gtrN rfl rfl h2) ?_ | refine WO.does (does_gtrN rfl rfl h3) ?_ | refine WO.does (does_gtrN rfl rfl h4) ?_ | refine WO.does (does_gtrN rfl rfl h5) ?_ | refine Tc ?_ | exact Tz)
  done
/-- more than a hundred -/
def grtB (n0 n1 n2 n3 n4 n5 : Nat) : Bool := decide (100 < n0) || decide (100 < n1) || decide (100 < n2) || decide (100 < n3) || decide (100 < n4) || decide (100 < n5)
theorem t_great : Fn Tryz.prog 4 [stV p q g h f sec (.slice p0 n0 c0), gvV ep d (.slice p1 n1 c1) (.slice p2 n2 c2) (.slice p3 n3 c3) sC sS n x (.slice p4 n4 c4) (.slice p5 n5 c5)] Tr (Is (.bool (grtB n0 n1 n2 n3 n4 n5))) := by
  by_cases h0 : 100 < n0
  · rw [show grtB n0 n1 n2 n3 n4 n5 = true by simp [grtB, h0]]
    exact great0 p q g h f sec ep d sC sS n x p0 p1 p2 p3 p4 p5 n0 n1 n2 n3 n4 n5 c0 c1 c2 c3 c4 c5 (by omega)
  by_cases h1 : 100 < n1
  · rw [show grtB n0 n1 n2 n3 n4 n5 = true by simp [grtB, h1]]
    exact great1 p q g h f sec ep d sC sS n x p0 p1 p2 p3 p4 p5 n0 n1 n2 n3 n4 n5 c0 c1 c2 c3 c4 c5 (by omega) (by omega)
  by_cases h2 : 100 < n2
  · rw [show grtB n0 n1 n2 n3 n4 n5 = true by simp [grtB, h2]]
    exact great2 p q g h f sec ep d sC sS n x p0 p1 p2 p3 p4 p5 n0 n1 n2 n3 n4 n5 c0 c1 c2 c3 c4 c5 (by omega) (by omega) (by omega)
  by_cases h3 : 100 < n3
  · rw [show grtB n0 n1 n2 n3 n4 n5 = true by simp [grtB, h3]]
    exact great3 p q g h f sec ep d sC sS n x p0 p1 p2 p3 p4 p5 n0 n1 n2 n3 n4 n5 c0 c1 c2 c3 c4 c5 (by omega) (by omega) (by omega) (by omega)
  by_cases h4 : 100 < n4
  · rw [show grtB n0 n1 n2 n3 n4 n5 = true by simp [grtB, h4]]
    exact great4 p q g h f sec ep d sC sS n x p0 p1 p2 p3 p4 p5 n0 n1 n2 n3 n4 n5 c0 c1 c2 c3 c4 c5 (by omega) (by omega) (by omega) (by omega) (by omega)
  by_cases h5 : 100 < n5
  · rw [show grtB n0 n1 n2 n3 n4 n5 = true by simp [grtB, h5]]
    exact great5 p q g h f sec ep d sC sS n x p0 p1 p2 p3 p4 p5 n0 n1 n2 n3 n4 n5 c0 c1 c2 c3 c4 c5 (by omega) (by omega) (by omega) (by omega) (by omega) (by omega)
  rw [show grtB n0 n1 n2 n3 n4 n5 = false by simp [grtB]; omega]
  exact great6 p q g h f sec ep d sC sS n x p0 p1 p2 p3 p4 p5 n0 n1 n2 n3 n4 n5 c0 c1 c2 c3 c4 c5 (by omega) (by omega) (by omega) (by omega) (by omega) (by omega)
end
end Sx
end Go.Proofs.YtakkmakilfodoaaGreat

/- opens.Open: what it refuses -/
namespace Go.Proofs.YtakkmakilfodoaaGreat
open Go Go.RowKit Go.BigFrame
namespace Sx
attribute [local irreducible] wd DQ DQS WO WC WX
section
variable (p q g h : Nat) (f sec : Int) (pt : Option Addr) (c : Nat) (N : List (Nat × Nat)) (ep d n x : Nat) (pY : Option Addr) (cY : Nat) (Y : List Nat) (sC sS : Nat)
set_option maxHeartbeats 4000000 in
theorem c_OOpenA (pV pP : Value) (hp : p < B256) (hq : q < B256) (hg : g < B256) (hh : h < B256) (hN : NumsOk N) (hNl : N.length ≤ 100)
    (hf1 : -9223372036854775808 ≤ f) (hf2 : f ≤ 9223372036854775807) (hs1 : -9223372036854775808 ≤ sec) (hs2 : sec ≤ 9223372036854775807) (hn : n < 256) (hx : x < B256)
    (hA : opA p q g h f sec N n x = false) :
    Fn Tryz.prog 7 [stV p q g h f sec (.slice pt N.length c), dlV ep d pV (.slice pY Y.length cY) pP sC sS, .int .u8 (n : Int), numV x] (fun w => RdK (.slice pt N.length c) N w ∧ RdF numC (.slice pY Y.length cY) Y w) (Is (opE 1)) := by
  have hS := c_Setting p q g h f sec pt c N hp hq hg hh hN (by omega) hf1 hf2 hs1 hs2
  have hNd := c_node p q g h f sec pt c N n hn (by omega)
  cases e1 : setB p q g h f sec N with
  | false =>
    rw [e1] at hS
    clear hA hNd hN hNl hf1 hf2 hs1 hs2 hn hx hp hq hg hh
    refine Fn.enter Tryz.func7 rfl rfl rfl ?_
    intro w hw
    obtain ⟨hwK, hwY⟩ := hw
    repeat (first | refine Ta ?_ | (refine Tm ?_; intro _) | refine Tc ?_ | exact Tz)
    refine WC.adraw 23 (k := ?_)
    iterate 23 (first | refine Da ?_ | refine DQ.acallR (hc := hS) (hR := fun w hm => hwK.mod hm.mod) (k := ?_) | refine Dc ?_)
    refine DQ.anil (k := ?_)
    intro sx _
    repeat (first | refine Ta ?_ | (refine Tm ?_; intro _) | refine Tc ?_ | exact Tz)
    done
  | true =>
  rw [e1] at hS
  cases e2 : nodeB n N with
  | false =>
    rw [e2] at hNd
    clear hA hN hNl hf1 hf2 hs1 hs2 hn hx hp hq hg hh
    refine Fn.enter Tryz.func7 rfl rfl rfl ?_
    intro w hw
    obtain ⟨hwK, hwY⟩ := hw
    repeat (first | refine Ta ?_ | (refine Tm ?_; intro _) | refine Tc ?_ | exact Tz)
    refine WC.adraw 23 (k := ?_)
    iterate 23 (first | refine Da ?_ | refine DQ.acallR (hc := hS) (hR := fun w hm => hwK.mod hm.mod) (k := ?_) | refine DQ.acall (hc := hNd) (k := ?_) | refine Dc ?_)
    refine DQ.anil (k := ?_)
    intro sx _
    repeat (first | refine Ta ?_ | (refine Tm ?_; intro _) | refine Tc ?_ | exact Tz)
    done
  | true =>
  rw [e2] at hNd
  have e3 : secB p q h x (shK N n) = false := by simpa [opA, e1, e2] using hA
  obtain ⟨hn1, hn2⟩ := nodeB_spec e2
  obtain ⟨k, hk, hsk⟩ := shK_get hn1 hn2
  have hkb := (hN k (List.mem_of_getElem? hk)).2
  have hSec := c_osecret p q g h x k.2 hx hkb hp hq hh
  rw [hsk] at e3
  rw [e3] at hSec
  have hsub : IntKind.u8.wrap ((n : Int) - 1) = ((n - 1 : Nat) : Int) := u8_in' (by omega) (by omega) (by omega)
  have hlt : n - 1 < N.length := by omega
  clear hA hN hNl hf1 hf2 hs1 hs2 hx hp hq hg hh hkb
  refine Fn.enter Tryz.func7 rfl rfl rfl ?_
  intro w hw
  obtain ⟨hwK, hwY⟩ := hw
  obtain ⟨pt', c', e, hpc⟩ := id hwK
  cases e
  rcases hpc with ⟨_, h0⟩ | ⟨b, o, rfl, hs⟩
  · rw [h0] at hlt; simp at hlt
  repeat (first | refine Ta ?_ | (refine Tm ?_; intro _) | refine Tc ?_ | exact Tz)
  refine WC.adraw 23 (k := ?_)
  iterate 23 (first | refine Da ?_ | refine DQ.acallR (hc := hS) (hR := fun w hm => hwK.mod hm.mod) (k := ?_) | refine DQ.acall (hc := hNd) (k := ?_) | refine DQ.acall (hc := hSec) (k := ?_) | refine DQ.does (fun s _ => does_sub rfl rfl hsub) Dp.const ?_ | refine DQ.does (fun s _ => does_indexSlice (i := n - 1) (o' := o + (n - 1) * 8) rfl rfl hlt rfl) Dp.const ?_ | refine DQ.does (fun s _ => a_loadF (vs := numC k.2) (hs := hs) (hle := by omega) (hc := cut_key2 hk)) Dp.const ?_ | refine Dc ?_)
  refine DQ.anil (k := ?_)
  intro sx _
  repeat (first | refine Ta ?_ | (refine Tm ?_; intro _) | refine Tc ?_ | exact Tz)
  done
set_option maxHeartbeats 4000000 in
theorem c_OOpenF (pV pP : Value) (hp : p < B256) (hq : q < B256) (hg : g < B256) (hh : h < B256) (hN : NumsOk N) (hNl : N.length ≤ 100)
    (hf1 : -9223372036854775808 ≤ f) (hf2 : f ≤ 9223372036854775807) (hs1 : -9223372036854775808 ≤ sec) (hs2 : sec ≤ 9223372036854775807) (hn : n < 256) (hx : x < B256) (hYb : ∀ y ∈ Y, y < B256)
    (hA : opA p q g h f sec N n x = true) (hF : opF p q N Y n = false) :
    Fn Tryz.prog 7 [stV p q g h f sec (.slice pt N.length c), dlV ep d pV (.slice pY Y.length cY) pP sC sS, .int .u8 (n : Int), numV x] (fun w => RdK (.slice pt N.length c) N w ∧ RdF numC (.slice pY Y.length cY) Y w) (Is (opE 4)) := by
  have hS := c_Setting p q g h f sec pt c N hp hq hg hh hN (by omega) hf1 hf2 hs1 hs2
  have hNd := c_node p q g h f sec pt c N n hn (by omega)
  simp only [opA, Bool.and_eq_true] at hA
  obtain ⟨⟨e1, e2⟩, e3⟩ := hA
  rw [e1] at hS
  rw [e2] at hNd
  obtain ⟨hn1, hn2⟩ := nodeB_spec e2
  obtain ⟨k, hk, hsk⟩ := shK_get hn1 hn2
  have hkb := (hN k (List.mem_of_getElem? hk)).2
  have hSec := c_osecret p q g h x k.2 hx hkb hp hq hh
  rw [hsk] at e3
  rw [e3] at hSec
  have hsub : IntKind.u8.wrap ((n : Int) - 1) = ((n - 1 : Nat) : Int) := u8_in' (by omega) (by omega) (by omega)
  have hlt : n - 1 < N.length := by omega
  by_cases hYl : Y.length = N.length
  · have hly : n - 1 < Y.length := by omega
    obtain ⟨y, hy⟩ : ∃ y, Y[n - 1]? = some y := ⟨_, List.getElem?_eq_getElem hly⟩
    have hgy : Y.getD (n - 1) 0 = y := by simp [List.getD, hy]
    have hyb := hYb y (List.mem_of_getElem? hy)
    have hIn := c_gIn p q g h y hyb hp hq
    have e4 : gIn p q y = false := by unfold opF at hF; rw [hgy, decide_eq_true hYl, Bool.true_and] at hF; exact hF
    rw [e4] at hIn
    have heq : (Y.length : Int) = (N.length : Int) := by omega
    clear hF hYb hN hNl hf1 hf2 hs1 hs2 hx hp hq hg hh hkb hyb e1 e2 e3
    refine Fn.enter Tryz.func7 rfl rfl rfl ?_
    intro w hw
    obtain ⟨hwK, hwY⟩ := hw
    obtain ⟨pt', c', e, hpc⟩ := id hwK
    cases e
    rcases hpc with ⟨_, h0⟩ | ⟨b, o, rfl, hs⟩
    · rw [h0] at hlt; simp at hlt
    obtain ⟨pt2, c2, e, hpy⟩ := hwY
    cases e
    rcases hpy with ⟨_, h0⟩ | ⟨bY, oY, rfl, hY⟩
    · rw [h0] at hly; simp at hly
    have hcy : cut (Y.flatMap numC) (oY + (n - 1) * 4 - oY) 4 = numC y := by rw [Nat.add_sub_cancel_left]; exact cut_flat numC_len hy
    repeat (first | refine Ta ?_ | (refine Tm ?_; intro _) | refine Tc ?_ | exact Tz)
    refine WC.adraw 23 (k := ?_)
    iterate 23 (first | refine Da ?_ | refine DQ.acallR (hc := hS) (hR := fun w hm => hwK.mod hm.mod) (k := ?_) | refine DQ.acall (hc := hNd) (k := ?_) | refine DQ.acall (hc := hSec) (k := ?_) | refine DQ.does (fun s _ => does_sub rfl rfl hsub) Dp.const ?_ | refine DQ.does (fun s _ => does_indexSlice (i := n - 1) (o' := o + (n - 1) * 8) rfl rfl hlt rfl) Dp.const ?_ | refine DQ.does (fun s _ => a_loadF (vs := numC k.2) (hs := hs) (hle := by omega) (hc := cut_key2 hk)) Dp.const ?_ | refine Dc ?_)
    refine DQ.anil (k := ?_)
    intro sx _
    repeat (first | refine Ta ?_ | (refine Tm ?_; intro _) | refine Tc ?_ | exact Tz)
    refine WC.adraw 18 (k := ?_)
    iterate 18 (first | refine Da ?_ | refine DQ.does (fun s _ => does_neqN rfl rfl heq) Dp.const ?_ | refine DQ.acall (hc := hIn) (k := ?_) | refine DQ.does (fun s _ => does_sub rfl rfl hsub) Dp.const ?_ | refine DQ.does (fun s _ => does_indexSlice (i := n - 1) (o' := oY + (n - 1) * 4) rfl rfl hly rfl) Dp.const ?_ | refine DQ.does (fun s _ => a_loadF (vs := numC y) (hs := hY) (hle := Nat.le_add_right _ _) (hc := hcy)) Dp.const ?_ | refine Dc ?_)
    refine DQ.anil (k := ?_)
    intro sx _
    repeat (first | refine Ta ?_ | (refine Tm ?_; intro _) | refine Tc ?_ | exact Tz)
    done
  · have hne : (Y.length : Int) ≠ (N.length : Int) := by omega
    clear hF hYb hN hNl hf1 hf2 hs1 hs2 hx hp hq hg hh hkb e1 e2 e3
    refine Fn.enter Tryz.func7 rfl rfl rfl ?_
    intro w hw
    obtain ⟨hwK, hwY⟩ := hw
    obtain ⟨pt', c', e, hpc⟩ := id hwK
    cases e
    rcases hpc with ⟨_, h0⟩ | ⟨b, o, rfl, hs⟩
    · rw [h0] at hlt; simp at hlt
    repeat (first | refine Ta ?_ | (refine Tm ?_; intro _) | refine Tc ?_ | exact Tz)
    refine WC.adraw 23 (k := ?_)
    iterate 23 (first | refine Da ?_ | refine DQ.acallR (hc := hS) (hR := fun w hm => hwK.mod hm.mod) (k := ?_) | refine DQ.acall (hc := hNd) (k := ?_) | refine DQ.acall (hc := hSec) (k := ?_) | refine DQ.does (fun s _ => does_sub rfl rfl hsub) Dp.const ?_ | refine DQ.does (fun s _ => does_indexSlice (i := n - 1) (o' := o + (n - 1) * 8) rfl rfl hlt rfl) Dp.const ?_ | refine DQ.does (fun s _ => a_loadF (vs := numC k.2) (hs := hs) (hle := by omega) (hc := cut_key2 hk)) Dp.const ?_ | refine Dc ?_)
    refine DQ.anil (k := ?_)
    intro sx _
    repeat (first | refine Ta ?_ | (refine Tm ?_; intro _) | refine Tc ?_ | exact Tz)
    refine WC.adraw 18 (k := ?_)
    iterate 18 (first | refine Da ?_ | refine DQ.does (fun s _ => does_neqY rfl rfl hne) Dp.const ?_ | refine Dc ?_)
    refine DQ.anil (k := ?_)
    intro sx _
    repeat (first | refine Ta ?_ | (refine Tm ?_; intro _) | refine Tc ?_ | exact Tz)
    done
set_option maxHeartbeats 4000000 in
theorem c_OOpenI (pV pP : Value) (hp : p < B256) (hq : q < B256) (hg : g < B256) (hh : h < B256) (hN : NumsOk N) (hNl : N.length ≤ 100)
    (hf1 : -9223372036854775808 ≤ f) (hf2 : f ≤ 9223372036854775807) (hs1 : -9223372036854775808 ≤ sec) (hs2 : sec ≤ 9223372036854775807) (hn : n < 256) (hx : x < B256) (hYb : ∀ y ∈ Y, y < B256)
    (hA : opA p q g h f sec N n x = true) (hF : opF p q N Y n = true) (hI : invE x q ≠ 0) :
    Fn Tryz.prog 7 [stV p q g h f sec (.slice pt N.length c), dlV ep d pV (.slice pY Y.length cY) pP sC sS, .int .u8 (n : Int), numV x] (fun w => RdK (.slice pt N.length c) N w ∧ RdF numC (.slice pY Y.length cY) Y w) (Is (opE 7)) := by
  have hS := c_Setting p q g h f sec pt c N hp hq hg hh hN (by omega) hf1 hf2 hs1 hs2
  have hNd := c_node p q g h f sec pt c N n hn (by omega)
  simp only [opA, Bool.and_eq_true] at hA
  obtain ⟨⟨e1, e2⟩, e3⟩ := hA
  rw [e1] at hS
  rw [e2] at hNd
  obtain ⟨hn1, hn2⟩ := nodeB_spec e2
  obtain ⟨k, hk, hsk⟩ := shK_get hn1 hn2
  have hkb := (hN k (List.mem_of_getElem? hk)).2
  have hSec := c_osecret p q g h x k.2 hx hkb hp hq hh
  rw [hsk] at e3
  rw [e3] at hSec
  have hsub : IntKind.u8.wrap ((n : Int) - 1) = ((n - 1 : Nat) : Int) := u8_in' (by omega) (by omega) (by omega)
  have hlt : n - 1 < N.length := by omega
  simp only [opF, Bool.and_eq_true, decide_eq_true_eq] at hF
  obtain ⟨hYl, e4⟩ := hF
  have hly : n - 1 < Y.length := by omega
  obtain ⟨y, hy⟩ : ∃ y, Y[n - 1]? = some y := ⟨_, List.getElem?_eq_getElem hly⟩
  have hgy : Y.getD (n - 1) 0 = y := by simp [List.getD, hy]
  rw [hgy] at e4
  have hyb := hYb y (List.mem_of_getElem? hy)
  have hIn := c_gIn p q g h y hyb hp hq
  rw [e4] at hIn
  have heq : (Y.length : Int) = (N.length : Int) := by omega
  have hmx := secB_may e3
  have hInv := c_SInv p q g h x hx hq
  rw [hmx, okV_true] at hInv
  clear hYb hN hNl hf1 hf2 hs1 hs2 hx hp hq hg hh hkb hyb e1 e2 e3
  generalize invE x q = E at *
  generalize invN x q = V at *
  refine Fn.enter Tryz.func7 rfl rfl rfl ?_
  intro w hw
  obtain ⟨hwK, hwY⟩ := hw
  obtain ⟨pt', c', e, hpc⟩ := id hwK
  cases e
  rcases hpc with ⟨_, h0⟩ | ⟨b, o, rfl, hs⟩
  · rw [h0] at hlt; simp at hlt
  obtain ⟨pt2, c2, e, hpy⟩ := hwY
  cases e
  rcases hpy with ⟨_, h0⟩ | ⟨bY, oY, rfl, hY⟩
  · rw [h0] at hly; simp at hly
  have hcy : cut (Y.flatMap numC) (oY + (n - 1) * 4 - oY) 4 = numC y := by rw [Nat.add_sub_cancel_left]; exact cut_flat numC_len hy
  repeat (first | refine Ta ?_ | (refine Tm ?_; intro _) | refine Tc ?_ | exact Tz)
  refine WC.adraw 23 (k := ?_)
  iterate 23 (first | refine Da ?_ | refine DQ.acallR (hc := hS) (hR := fun w hm => hwK.mod hm.mod) (k := ?_) | refine DQ.acall (hc := hNd) (k := ?_) | refine DQ.acall (hc := hSec) (k := ?_) | refine DQ.does (fun s _ => does_sub rfl rfl hsub) Dp.const ?_ | refine DQ.does (fun s _ => does_indexSlice (i := n - 1) (o' := o + (n - 1) * 8) rfl rfl hlt rfl) Dp.const ?_ | refine DQ.does (fun s _ => a_loadF (vs := numC k.2) (hs := hs) (hle := by omega) (hc := cut_key2 hk)) Dp.const ?_ | refine Dc ?_)
  refine DQ.anil (k := ?_)
  intro sx _
  repeat (first | refine Ta ?_ | (refine Tm ?_; intro _) | refine Tc ?_ | exact Tz)
  refine WC.adraw 18 (k := ?_)
  iterate 18 (first | refine Da ?_ | refine DQ.does (fun s _ => does_neqN rfl rfl heq) Dp.const ?_ | refine DQ.acall (hc := hIn) (k := ?_) | refine DQ.does (fun s _ => does_sub rfl rfl hsub) Dp.const ?_ | refine DQ.does (fun s _ => does_indexSlice (i := n - 1) (o' := oY + (n - 1) * 4) rfl rfl hly rfl) Dp.const ?_ | refine DQ.does (fun s _ => a_loadF (vs := numC y) (hs := hY) (hle := Nat.le_add_right _ _) (hc := hcy)) Dp.const ?_ | refine Dc ?_)
  refine DQ.anil (k := ?_)
  intro sx _
  repeat (first | refine Ta ?_ | (refine Tm ?_; intro _) | refine WO.does (does_sub rfl rfl hsub) ?_ | refine WO.does (does_indexSlice (i := n - 1) (o' := oY + (n - 1) * 4) rfl rfl hly rfl) ?_ | refine WO.does (a_loadF (vs := numC y) (hs := hY) (hle := Nat.le_add_right _ _) (hc := hcy)) ?_ | refine WO.acall (hc := hInv) (k := ?_) | refine WO.does (does_neqY rfl rfl hI) ?_ | refine Tc ?_ | exact Tz)
  done
set_option maxHeartbeats 8000000 in
theorem c_OOpenY (pV pP : Value) (hp : p < B256) (hq : q < B256) (hg : g < B256) (hh : h < B256) (hN : NumsOk N) (hNl : N.length ≤ 100)
    (hf1 : -9223372036854775808 ≤ f) (hf2 : f ≤ 9223372036854775807) (hs1 : -9223372036854775808 ≤ sec) (hs2 : sec ≤ 9223372036854775807) (hn : n < 256) (hx : x < B256) (hYb : ∀ y ∈ Y, y < B256) (hep : ep < 18446744073709551616) (hd : d < 256)
    (hA : opA p q g h f sec N n x = true) (hF : opF p q N Y n = true) (hI : invE x q = 0) :
    Fn Tryz.prog 7 [stV p q g h f sec (.slice pt N.length c), dlV ep d pV (.slice pY Y.length cY) pP sC sS, .int .u8 (n : Int), numV x] (fun w => RdK (.slice pt N.length c) N w ∧ RdF numC (.slice pY Y.length cY) Y w) (Is (.tuple #[opOk p q h ep d n x (Y.getD (n - 1) 0), .int .i64 0])) := by
  have hS := c_Setting p q g h f sec pt c N hp hq hg hh hN (by omega) hf1 hf2 hs1 hs2
  have hNd := c_node p q g h f sec pt c N n hn (by omega)
  simp only [opA, Bool.and_eq_true] at hA
  obtain ⟨⟨e1, e2⟩, e3⟩ := hA
  rw [e1] at hS
  rw [e2] at hNd
  obtain ⟨hn1, hn2⟩ := nodeB_spec e2
  obtain ⟨k, hk, hsk⟩ := shK_get hn1 hn2
  have hkb := (hN k (List.mem_of_getElem? hk)).2
  have hSec := c_osecret p q g h x k.2 hx hkb hp hq hh
  rw [hsk] at e3
  rw [e3] at hSec
  have hsub : IntKind.u8.wrap ((n : Int) - 1) = ((n - 1 : Nat) : Int) := u8_in' (by omega) (by omega) (by omega)
  have hlt : n - 1 < N.length := by omega
  simp only [opF, Bool.and_eq_true, decide_eq_true_eq] at hF
  obtain ⟨hYl, e4⟩ := hF
  have hly : n - 1 < Y.length := by omega
  obtain ⟨y, hy⟩ : ∃ y, Y[n - 1]? = some y := ⟨_, List.getElem?_eq_getElem hly⟩
  have hgy : Y.getD (n - 1) 0 = y := by simp [List.getD, hy]
  rw [hgy] at e4
  have hyb := hYb y (List.mem_of_getElem? hy)
  have hIn := c_gIn p q g h y hyb hp hq
  rw [e4] at hIn
  have heq : (Y.length : Int) = (N.length : Int) := by omega
  have hmx := secB_may e3
  have hInv := c_SInv p q g h x hx hq
  rw [hmx, okV_true] at hInv
  rw [hgy]
  have hib : invN x q < B256 := Nat.lt_trans (invN_lt (mayN_spec hmx).1 (mayN_spec hmx).2.1) hq
  have hE := c_gExp p q g h y (invN x q) hyb hib hp
  rw [gIn_may e4] at hE
  simp only [rE, okV_true] at hE
  have hzb : y ^ invN x q % p < B256 := Nat.lt_trans (pow_lt (gIn_may e4)) hp
  have hq0 : 0 < q := by have := (mayN_spec hmx).1; omega
  have hHlen : (byC (opH ep d n y (opZ p q x y))).length = 32 := by rw [byC_length]; exact hOf_len' _ _
  have hDr := c_odraw p q g h x (opH ep d n y (opZ p q x y)) hx hq hq0 (hOf_lt _ _) (hOf_len' _ _)
  have hdb : opD q x ep d n y (opZ p q x y) < B256 := drawN_lt hq0 hq
  have hPr := c_Prove p q g h sOpen x h (opZ p q x y) (opD q x ep d n y (opZ p q x y)) hp hq hx hh hzb hdb (by decide)
  have hPl := abL_parts ep d n y (opZ p q x y)
  have hHl := abL_bytes ep d n y (opZ p q x y)
  unfold opOk
  rw [show drawN q x (opH ep d n y (opZ p q x y)) = opD q x ep d n y (opZ p q x y) from rfl] at hDr
  simp only [prV] at hPr
  rw [show okV (prB p q x h (opZ p q x y) (opD q x ep d n y (opZ p q x y))) (prC p q (strB sOpen) x h (opZ p q x y) (opD q x ep d n y (opZ p q x y))) = opCc p q h x (opZ p q x y) (opD q x ep d n y (opZ p q x y)) from rfl, show okV (prB p q x h (opZ p q x y) (opD q x ep d n y (opZ p q x y))) ((opD q x ep d n y (opZ p q x y) + x * prC p q (strB sOpen) x h (opZ p q x y) (opD q x ep d n y (opZ p q x y)) % q) % q) = opS p q h x (opZ p q x y) (opD q x ep d n y (opZ p q x y)) from rfl] at hPr
  generalize okE (prB p q x h (opZ p q x y) (opD q x ep d n y (opZ p q x y))) = pE at hPr
  generalize opCc p q h x (opZ p q x y) (opD q x ep d n y (opZ p q x y)) = cc at *
  generalize opS p q h x (opZ p q x y) (opD q x ep d n y (opZ p q x y)) = cs at *
  generalize opD q x ep d n y (opZ p q x y) = D at *
  rw [show y ^ invN x q % p = opZ p q x y from rfl] at hE hzb
  generalize opZ p q x y = z at *
  have hP0 := c_Put [] ep 8 0 none (by decide) (by decide)
  rw [List.nil_append, be_length] at hP0
  have hPy := c_PutLong [] y 0 none (by decide)
  rw [List.nil_append, be_length] at hPy
  have hPz := c_PutLong [] z 0 none (by decide)
  rw [List.nil_append, be_length] at hPz
  have hO := fun g1 c1 g2 g3 gR => c_hOf sOpen [.slice (some ⟨g1, 0, none⟩) 10 c1, .slice (some ⟨g2, 0, none⟩) 32 32, .slice (some ⟨g3, 0, none⟩) 32 32] [abL ep d n, be 32 y, be 32 z] gR 0 3 hPl (Nat.le_trans hHl (by decide)) (by decide)
  rw [show hOf (strB sOpen) [abL ep d n, be 32 y, be 32 z] = opH ep d n y z from rfl] at hO
  generalize opH ep d n y z = H at *
  generalize invN x q = V at *
  generalize invE x q = E at *
  subst hI
  clear hYb hN hNl hf1 hf2 hs1 hs2 hx hp hq hg hh hkb hyb e1 e2 e3 hib hdb hzb
  refine Fn.enter Tryz.func7 rfl rfl rfl ?_
  intro w hw
  obtain ⟨hwK, hwY⟩ := hw
  obtain ⟨pt', c', e, hpc⟩ := id hwK
  cases e
  rcases hpc with ⟨_, h0⟩ | ⟨b, o, rfl, hs⟩
  · rw [h0] at hlt; simp at hlt
  obtain ⟨pt2, c2, e, hpy⟩ := hwY
  cases e
  rcases hpy with ⟨_, h0⟩ | ⟨bY, oY, rfl, hY⟩
  · rw [h0] at hly; simp at hly
  have hcy : cut (Y.flatMap numC) (oY + (n - 1) * 4 - oY) 4 = numC y := by rw [Nat.add_sub_cancel_left]; exact cut_flat numC_len hy
  repeat (first | refine Ta ?_ | (refine Tm ?_; intro _) | refine Tc ?_ | exact Tz)
  refine WC.adraw 23 (k := ?_)
  iterate 23 (first | refine Da ?_ | refine DQ.acallR (hc := hS) (hR := fun w hm => hwK.mod hm.mod) (k := ?_) | refine DQ.acall (hc := hNd) (k := ?_) | refine DQ.acall (hc := hSec) (k := ?_) | refine DQ.does (fun s _ => does_sub rfl rfl hsub) Dp.const ?_ | refine DQ.does (fun s _ => does_indexSlice (i := n - 1) (o' := o + (n - 1) * 8) rfl rfl hlt rfl) Dp.const ?_ | refine DQ.does (fun s _ => a_loadF (vs := numC k.2) (hs := hs) (hle := by omega) (hc := cut_key2 hk)) Dp.const ?_ | refine Dc ?_)
  refine DQ.anil (k := ?_)
  intro sx _
  repeat (first | refine Ta ?_ | (refine Tm ?_; intro _) | refine Tc ?_ | exact Tz)
  refine WC.adraw 18 (k := ?_)
  iterate 18 (first | refine Da ?_ | refine DQ.does (fun s _ => does_neqN rfl rfl heq) Dp.const ?_ | refine DQ.acall (hc := hIn) (k := ?_) | refine DQ.does (fun s _ => does_sub rfl rfl hsub) Dp.const ?_ | refine DQ.does (fun s _ => does_indexSlice (i := n - 1) (o' := oY + (n - 1) * 4) rfl rfl hly rfl) Dp.const ?_ | refine DQ.does (fun s _ => a_loadF (vs := numC y) (hs := hY) (hle := Nat.le_add_right _ _) (hc := hcy)) Dp.const ?_ | refine Dc ?_)
  refine DQ.anil (k := ?_)
  intro sx _
  repeat (first | refine Ta ?_ | (refine Tm ?_; intro _) | refine WO.does (does_sub rfl rfl hsub) ?_ | refine WO.does (does_indexSlice (i := n - 1) (o' := oY + (n - 1) * 4) rfl rfl hly rfl) ?_ | refine WO.does (a_loadF (vs := numC y) (hs := hY) (hle := Nat.le_add_right _ _) (hc := hcy)) ?_ | refine WO.acall (hc := hInv) (k := ?_) | refine WO.does (does_neqN rfl rfl rfl) ?_ | refine WO.acall (hc := hE) (k := ?_) | refine Tc ?_ | exact Tz)
  refine WC.adraw 15 (k := ?_)
  iterate 2 (refine DQ.auto (k := ?_))
  refine DQ.acallS (hc := hP0) (hR := fun _ => Rd.nil) (k := ?_)
  iterate 3 (refine DQ.auto (k := ?_))
  refine DQ.makes (vf := fun _ g => .slice (some ⟨g, 0, none⟩) 2 2) (t := 5) (cs := fun _ => [.int .u8 (d : Int), .int .u8 (n : Int)]) (fun s _ => makes_build rfl (by decide) rfl) Dp.const Dp.const ?_
  refine DQ.newsE (vf := fun _ x => .slice (some ⟨x 0, 0, none⟩) 10 (x 1)) (Nf := fun _ x => [⟨x 0, 5, byC (be 8 ep) ++ [.int .u8 (d : Int), .int .u8 (n : Int)] ++ mkz (x 1 - 10) [.int .u8 0]⟩]) (S := fun _ x => 10 ≤ x 1 ∧ x 1 < 9223372036854775808)
    (fun s => [⟨s 6 0, 5, [.int .u8 (d : Int), .int .u8 (n : Int)]⟩, ⟨s 2 0, 5, byC (be 8 ep)⟩]) (fun s => .cons 6 (.head _) (by decide +kernel) (.cons 2 (by repeat (first | exact .head _ | apply List.Mem.tail)) (by decide +kernel) .nil)) (fun _ => ⟨fun _ => 10, by decide, by decide⟩)
    (fun s _ => app_new (z := [Value.int .u8 0]) (len := 8) (n := 2) rfl rfl (ys := byC (be 8 ep)) (Rds.own (m := 8) (Hs.there Hs.here) (cut_all (by rw [byC_length, be_length]))) (by rw [byC_length, be_length]; rfl) (xs := [.int .u8 (d : Int), .int .u8 (n : Int)]) (Rds.own (m := 2) Hs.here rfl) rfl (by decide) (by decide) (by decide) (by decide) rfl) Dp.const Dp.const Dp.const ?_
  try dsimp only [List.map_cons, List.map_nil, List.cons_append, List.nil_append]
  refine DQ.auto (k := ?_)
  refine DQ.acallS (hc := hPy) (hR := fun _ => Rd.nil) (k := ?_)
  refine DQ.auto (k := ?_)
  refine DQ.acallS (hc := hPz) (hR := fun _ => Rd.nil) (k := ?_)
  refine DQ.makes (vf := fun _ g => .slice (some ⟨g, 0, none⟩) 3 3) (t := 66) (cs := fun s => [.slice (some ⟨s 7 0, 0, none⟩) 10 (s 7 1), .slice (some ⟨s 9 0, 0, none⟩) 32 32, .slice (some ⟨s 11 0, 0, none⟩) 32 32]) (fun s _ => makes_build rfl (by decide) rfl) Dp.const (by intro s s' h; dsimp only; rw [h, h, h] <;> decide +kernel) ?_
  refine DQ.callE (v := fun _ => .agg (byC H).toArray) (fun s => [⟨s 12 0, 66, [.slice (some ⟨s 7 0, 0, none⟩) 10 (s 7 1), .slice (some ⟨s 9 0, 0, none⟩) 32 32, .slice (some ⟨s 11 0, 0, none⟩) 32 32]⟩, ⟨s 11 0, 5, byC (be 32 z)⟩, ⟨s 9 0, 5, byC (be 32 y)⟩, ⟨s 7 0, 5, byC (be 8 ep) ++ [.int .u8 (d : Int), .int .u8 (n : Int)] ++ mkz (s 7 1 - 10) [.int .u8 0]⟩])
    (fun s => .cons 12 (.head _) (by decide +kernel) (.cons 11 (by repeat (first | exact .head _ | apply List.Mem.tail)) (by decide +kernel) (.cons 9 (by repeat (first | exact .head _ | apply List.Mem.tail)) (by decide +kernel) (.cons 7 (by repeat (first | exact .head _ | apply List.Mem.tail)) (by decide +kernel) .nil)))) (fun s _ => hO (s 7 0) (s 7 1) (s 9 0) (s 11 0) (s 12 0)) (fun s => rfl)
    (fun s hC w hm => ⟨Hs.seg Hs.here hm, Parts.cons (by
        have hab := RdP.own (g := s 7 0) (c := s 7 1) (X := abL ep d n) (r := mkz (s 7 1 - 10) [Value.int .u8 0]) (t := 5) hm (by rw [← abL_cells hd hn]; exact Hs.there (Hs.there (Hs.there Hs.here))) (by rw [abL_length]; exact hC.1.1.2.1) hC.1.1.2.2
        rw [abL_length] at hab
        exact hab) (Parts.cons (by have := RdP.own0 (g := s 9 0) (c := 32) (X := be 32 y) (t := 5) hm (Hs.there (Hs.there Hs.here)) (by rw [be_length]; decide) (by decide); rw [be_length] at this; exact this) (Parts.cons (by have := RdP.own0 (g := s 11 0) (c := 32) (X := be 32 z) (t := 5) hm (Hs.there Hs.here) (by rw [be_length]; decide) (by decide); rw [be_length] at this; exact this) Parts.nil))⟩) Dp.const ?_
  refine DQ.autoM (k := ?_)
  refine DQ.anil (k := ?_)
  intro sx _
  refine WO.stores (a_store (vs := byC H) (cs' := byC H) (hl := hHlen) (h1 := byC_one _) (hc := over_all (by rw [hHlen]; rfl)) (hle := by rw [hHlen]; rfl)) ?_
  generalize sx 14 0 = gH
  repeat (first | refine Ta ?_ | (refine Tm ?_; intro _) | refine Tc ?_ | exact Tz)
  refine WC.adrawF [12] 14 (k := ?_)
  repeat (first | refine Da ?_ | refine DQ.does (fun s _ => a_load (vs := byC H) (hc := cut_all (by rw [hHlen])) (hl := hHlen)) Dp.const ?_ | refine DQ.acall (hc := hDr) (k := ?_) | refine DQ.acall (hc := hPr) (k := ?_) | refine Df ?_)
  refine DQ.anil (k := ?_)
  intro sx _
  generalize sx 13 0 = gP
  repeat (first | refine Ta ?_ | (refine Tm ?_; intro _) | refine Tc ?_ | exact Tz)
  done
theorem c_OOpen (pV pP : Value) (hp : p < B256) (hq : q < B256) (hg : g < B256) (hh : h < B256) (hN : NumsOk N) (hNl : N.length ≤ 100)
    (hf1 : -9223372036854775808 ≤ f) (hf2 : f ≤ 9223372036854775807) (hs1 : -9223372036854775808 ≤ sec) (hs2 : sec ≤ 9223372036854775807) (hn : n < 256) (hx : x < B256) (hYb : ∀ y ∈ Y, y < B256) (hep : ep < 18446744073709551616) (hd : d < 256) :
    Fn Tryz.prog 7 [stV p q g h f sec (.slice pt N.length c), dlV ep d pV (.slice pY Y.length cY) pP sC sS, .int .u8 (n : Int), numV x] (fun w => RdK (.slice pt N.length c) N w ∧ RdF numC (.slice pY Y.length cY) Y w) (Is (opR p q g h f sec N ep d n x Y)) := by
  unfold opR
  cases hA : opA p q g h f sec N n x with
  | false => exact c_OOpenA p q g h f sec pt c N ep d n x pY cY Y sC sS pV pP hp hq hg hh hN hNl hf1 hf2 hs1 hs2 hn hx hA
  | true =>
  rw [if_pos rfl]
  cases hF : opF p q N Y n with
  | false => exact c_OOpenF p q g h f sec pt c N ep d n x pY cY Y sC sS pV pP hp hq hg hh hN hNl hf1 hf2 hs1 hs2 hn hx hYb hA hF
  | true =>
  rw [if_pos rfl]
  by_cases hI : invE x q = 0
  · rw [if_pos hI]
    exact c_OOpenY p q g h f sec pt c N ep d n x pY cY Y sC sS pV pP hp hq hg hh hN hNl hf1 hf2 hs1 hs2 hn hx hYb hep hd hA hF hI
  · rw [if_neg hI]
    exact c_OOpenI p q g h f sec pt c N ep d n x pY cY Y sC sS pV pP hp hq hg hh hN hNl hf1 hf2 hs1 hs2 hn hx hYb hA hF hI
end
end Sx
end Go.Proofs.YtakkmakilfodoaaGreat
