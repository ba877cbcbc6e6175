/- Part 40 of the proof: OpC, OpD -/
import Derived.Test.YtakkmakilfodoaaGreatM38
set_option linter.unusedSimpArgs false
set_option linter.unusedVariables false
/- balefireref16.Open: what it refuses -/
namespace Go.Proofs.YtakkmakilfodoaaGreat
open Go Go.RowKit Go.BigFrame
namespace Sx
attribute [local irreducible] wd DQ DQS WO WC WX
section
variable (p q g h : Nat) (f sec : Int) (pt : Option Addr) (c : Nat) (N : List (Nat × Nat)) (ep d n x : Nat) (pY : Option Addr) (cY : Nat) (Y : List Nat) (sC sS : Nat)
theorem r16_secretB (key : Nat) (hx : x < B256) (hk : key < B256) (hp : p < B256) (hq : q < B256) (hh : h < B256) (hm : gMay p h = true) : Fn Tryz.prog 29 [grpV p q g h, numV x, numV key] Tr (Is (.bool (secB p q h x key))) := by
  have hS := r16_secret p q g h x key hx hk hp hq hh
  rw [hm, okV_true] at hS
  unfold secB
  rw [hm, Bool.and_true]
  exact hS
set_option maxHeartbeats 4000000 in
theorem r16_OpenA (pV pP : Value) (hp : p < B256) (hq : q < B256) (hg : g < B256) (hh : h < B256) (hN : NumsOk N) (hNl : N.length ≤ 100)
    (hf1 : -9223372036854775808 ≤ f) (hf2 : f ≤ 9223372036854775807) (hs1 : -9223372036854775808 ≤ sec) (hs2 : sec ≤ 9223372036854775807) (hn : n < 256) (hx : x < B256)
    (hA : opA p q g h f sec N n x = false) :
    Fn Tryz.prog 8 [stV p q g h f sec (.slice pt N.length c), dlV ep d pV (.slice pY Y.length cY) pP sC sS, .int .u8 (n : Int), numV x] (fun w => RdK (.slice pt N.length c) N w ∧ RdF numC (.slice pY Y.length cY) Y w) (Is (opE 1)) := by
  have hS := r15_Setting p q g h f sec pt c N hp hq hg hh hN (by omega) hf1 hf2 hs1 hs2
  have hNd := r15_Node p q g h f sec pt c N n hn (by omega)
  cases e1 : setB p q g h f sec N with
  | false =>
    rw [e1] at hS
    clear hA hNd hN hNl hf1 hf2 hs1 hs2 hn hx hp hq hg hh
    refine Fn.enter Tryz.func8 rfl rfl rfl ?_
    intro w hw
    obtain ⟨hwK, hwY⟩ := hw
    repeat (first | refine Ta ?_ | (refine Tm ?_; intro _) | refine Tc ?_ | exact Tz)
    refine WC.adraw 23 (k := ?_)
    iterate 23 (first | refine Da ?_ | refine DQ.acallR (hc := hS) (hR := fun w hm => hwK.mod hm.mod) (k := ?_) | refine Dc ?_)
    refine DQ.anil (k := ?_)
    intro sx _
    repeat (first | refine Ta ?_ | (refine Tm ?_; intro _) | refine Tc ?_ | exact Tz)
    done
  | true =>
  rw [e1] at hS
  cases e2 : nodeB n N with
  | false =>
    rw [e2] at hNd
    clear hA hN hNl hf1 hf2 hs1 hs2 hn hx hp hq hg hh
    refine Fn.enter Tryz.func8 rfl rfl rfl ?_
    intro w hw
    obtain ⟨hwK, hwY⟩ := hw
    repeat (first | refine Ta ?_ | (refine Tm ?_; intro _) | refine Tc ?_ | exact Tz)
    refine WC.adraw 23 (k := ?_)
    iterate 23 (first | refine Da ?_ | refine DQ.acallR (hc := hS) (hR := fun w hm => hwK.mod hm.mod) (k := ?_) | refine DQ.acall (hc := hNd) (k := ?_) | refine Dc ?_)
    refine DQ.anil (k := ?_)
    intro sx _
    repeat (first | refine Ta ?_ | (refine Tm ?_; intro _) | refine Tc ?_ | exact Tz)
    done
  | true =>
  rw [e2] at hNd
  have e3 : secB p q h x (shK N n) = false := by simpa [opA, e1, e2] using hA
  obtain ⟨hn1, hn2⟩ := nodeB_spec e2
  obtain ⟨k, hk, hsk⟩ := shK_get hn1 hn2
  have hkb := (hN k (List.mem_of_getElem? hk)).2
  have hSec := r16_secretB p q g h x k.2 hx hkb hp hq hh (setB_may e1)
  rw [hsk] at e3
  rw [e3] at hSec
  have hsub : IntKind.u8.wrap ((n : Int) - 1) = ((n - 1 : Nat) : Int) := u8_in' (by omega) (by omega) (by omega)
  have hlt : n - 1 < N.length := by omega
  clear hA hN hNl hf1 hf2 hs1 hs2 hx hp hq hg hh hkb
  refine Fn.enter Tryz.func8 rfl rfl rfl ?_
  intro w hw
  obtain ⟨hwK, hwY⟩ := hw
  obtain ⟨pt', c', e, hpc⟩ := id hwK
  cases e
  rcases hpc with ⟨_, h0⟩ | ⟨b, o, rfl, hs⟩
  · rw [h0] at hlt; simp at hlt
  repeat (first | refine Ta ?_ | (refine Tm ?_; intro _) | refine Tc ?_ | exact Tz)
  refine WC.adraw 23 (k := ?_)
  iterate 23 (first | refine Da ?_ | refine DQ.acallR (hc := hS) (hR := fun w hm => hwK.mod hm.mod) (k := ?_) | refine DQ.acall (hc := hNd) (k := ?_) | refine DQ.acall (hc := hSec) (k := ?_) | refine DQ.does (fun s _ => does_sub rfl rfl hsub) Dp.const ?_ | refine DQ.does (fun s _ => does_indexSlice (i := n - 1) (o' := o + (n - 1) * 8) rfl rfl hlt rfl) Dp.const ?_ | refine DQ.does (fun s _ => a_loadF (vs := numC k.2) (hs := hs) (hle := by omega) (hc := cut_key2 hk)) Dp.const ?_ | refine Dc ?_)
  refine DQ.anil (k := ?_)
  intro sx _
  repeat (first | refine Ta ?_ | (refine Tm ?_; intro _) | refine Tc ?_ | exact Tz)
  done
set_option maxHeartbeats 4000000 in
theorem r16_OpenF (pV pP : Value) (hp : p < B256) (hq : q < B256) (hg : g < B256) (hh : h < B256) (hN : NumsOk N) (hNl : N.length ≤ 100)
    (hf1 : -9223372036854775808 ≤ f) (hf2 : f ≤ 9223372036854775807) (hs1 : -9223372036854775808 ≤ sec) (hs2 : sec ≤ 9223372036854775807) (hn : n < 256) (hx : x < B256) (hYb : ∀ y ∈ Y, y < B256)
    (hA : opA p q g h f sec N n x = true) (hF : opF p q N Y n = false) :
    Fn Tryz.prog 8 [stV p q g h f sec (.slice pt N.length c), dlV ep d pV (.slice pY Y.length cY) pP sC sS, .int .u8 (n : Int), numV x] (fun w => RdK (.slice pt N.length c) N w ∧ RdF numC (.slice pY Y.length cY) Y w) (Is (opE 4)) := by
  have hS := r15_Setting p q g h f sec pt c N hp hq hg hh hN (by omega) hf1 hf2 hs1 hs2
  have hNd := r15_Node p q g h f sec pt c N n hn (by omega)
  simp only [opA, Bool.and_eq_true] at hA
  obtain ⟨⟨e1, e2⟩, e3⟩ := hA
  rw [e1] at hS
  rw [e2] at hNd
  obtain ⟨hn1, hn2⟩ := nodeB_spec e2
  obtain ⟨k, hk, hsk⟩ := shK_get hn1 hn2
  have hkb := (hN k (List.mem_of_getElem? hk)).2
  have hSec := r16_secretB p q g h x k.2 hx hkb hp hq hh (setB_may e1)
  rw [hsk] at e3
  rw [e3] at hSec
  have hsub : IntKind.u8.wrap ((n : Int) - 1) = ((n - 1 : Nat) : Int) := u8_in' (by omega) (by omega) (by omega)
  have hlt : n - 1 < N.length := by omega
  by_cases hYl : Y.length = N.length
  · have hly : n - 1 < Y.length := by omega
    obtain ⟨y, hy⟩ : ∃ y, Y[n - 1]? = some y := ⟨_, List.getElem?_eq_getElem hly⟩
    have hgy : Y.getD (n - 1) 0 = y := by simp [List.getD, hy]
    have hyb := hYb y (List.mem_of_getElem? hy)
    have hIn := r8_In p q g h y hyb hp hq
    have e4 : gIn p q y = false := by unfold opF at hF; rw [hgy, decide_eq_true hYl, Bool.true_and] at hF; exact hF
    rw [e4] at hIn
    have heq : (Y.length : Int) = (N.length : Int) := by omega
    clear hF hYb hN hNl hf1 hf2 hs1 hs2 hx hp hq hg hh hkb hyb e1 e2 e3
    refine Fn.enter Tryz.func8 rfl rfl rfl ?_
    intro w hw
    obtain ⟨hwK, hwY⟩ := hw
    obtain ⟨pt', c', e, hpc⟩ := id hwK
    cases e
    rcases hpc with ⟨_, h0⟩ | ⟨b, o, rfl, hs⟩
    · rw [h0] at hlt; simp at hlt
    obtain ⟨pt2, c2, e, hpy⟩ := hwY
    cases e
    rcases hpy with ⟨_, h0⟩ | ⟨bY, oY, rfl, hY⟩
    · rw [h0] at hly; simp at hly
    have hcy : cut (Y.flatMap numC) (oY + (n - 1) * 4 - oY) 4 = numC y := by rw [Nat.add_sub_cancel_left]; exact cut_flat numC_len hy
    repeat (first | refine Ta ?_ | (refine Tm ?_; intro _) | refine Tc ?_ | exact Tz)
    refine WC.adraw 23 (k := ?_)
    iterate 23 (first | refine Da ?_ | refine DQ.acallR (hc := hS) (hR := fun w hm => hwK.mod hm.mod) (k := ?_) | refine DQ.acall (hc := hNd) (k := ?_) | refine DQ.acall (hc := hSec) (k := ?_) | refine DQ.does (fun s _ => does_sub rfl rfl hsub) Dp.const ?_ | refine DQ.does (fun s _ => does_indexSlice (i := n - 1) (o' := o + (n - 1) * 8) rfl rfl hlt rfl) Dp.const ?_ | refine DQ.does (fun s _ => a_loadF (vs := numC k.2) (hs := hs) (hle := by omega) (hc := cut_key2 hk)) Dp.const ?_ | refine Dc ?_)
    refine DQ.anil (k := ?_)
    intro sx _
    repeat (first | refine Ta ?_ | (refine Tm ?_; intro _) | refine Tc ?_ | exact Tz)
    refine WC.adraw 18 (k := ?_)
    iterate 18 (first | refine Da ?_ | refine DQ.does (fun s _ => does_neqN rfl rfl heq) Dp.const ?_ | refine DQ.acall (hc := hIn) (k := ?_) | refine DQ.does (fun s _ => does_sub rfl rfl hsub) Dp.const ?_ | refine DQ.does (fun s _ => does_indexSlice (i := n - 1) (o' := oY + (n - 1) * 4) rfl rfl hly rfl) Dp.const ?_ | refine DQ.does (fun s _ => a_loadF (vs := numC y) (hs := hY) (hle := Nat.le_add_right _ _) (hc := hcy)) Dp.const ?_ | refine Dc ?_)
    refine DQ.anil (k := ?_)
    intro sx _
    repeat (first | refine Ta ?_ | (refine Tm ?_; intro _) | refine Tc ?_ | exact Tz)
    done
  · have hne : (Y.length : Int) ≠ (N.length : Int) := by omega
    clear hF hYb hN hNl hf1 hf2 hs1 hs2 hx hp hq hg hh hkb e1 e2 e3
    refine Fn.enter Tryz.func8 rfl rfl rfl ?_
    intro w hw
    obtain ⟨hwK, hwY⟩ := hw
    obtain ⟨pt', c', e, hpc⟩ := id hwK
    cases e
    rcases hpc with ⟨_, h0⟩ | ⟨b, o, rfl, hs⟩
    · rw [h0] at hlt; simp at hlt
    repeat (first | refine Ta ?_ | (refine Tm ?_; intro _) | refine Tc ?_ | exact Tz)
    refine WC.adraw 23 (k := ?_)
    iterate 23 (first | refine Da ?_ | refine DQ.acallR (hc := hS) (hR := fun w hm => hwK.mod hm.mod) (k := ?_) | refine DQ.acall (hc := hNd) (k := ?_) | refine DQ.acall (hc := hSec) (k := ?_) | refine DQ.does (fun s _ => does_sub rfl rfl hsub) Dp.const ?_ | refine DQ.does (fun s _ => does_indexSlice (i := n - 1) (o' := o + (n - 1) * 8) rfl rfl hlt rfl) Dp.const ?_ | refine DQ.does (fun s _ => a_loadF (vs := numC k.2) (hs := hs) (hle := by omega) (hc := cut_key2 hk)) Dp.const ?_ | refine Dc ?_)
    refine DQ.anil (k := ?_)
    intro sx _
    repeat (first | refine Ta ?_ | (refine Tm ?_; intro _) | refine Tc ?_ | exact Tz)
    refine WC.adraw 18 (k := ?_)
    iterate 18 (first | refine Da ?_ | refine DQ.does (fun s _ => does_neqY rfl rfl hne) Dp.const ?_ | refine Dc ?_)
    refine DQ.anil (k := ?_)
    intro sx _
    repeat (first | refine Ta ?_ | (refine Tm ?_; intro _) | refine Tc ?_ | exact Tz)
    done
set_option maxHeartbeats 4000000 in
theorem r16_OpenI (pV pP : Value) (hp : p < B256) (hq : q < B256) (hg : g < B256) (hh : h < B256) (hN : NumsOk N) (hNl : N.length ≤ 100)
    (hf1 : -9223372036854775808 ≤ f) (hf2 : f ≤ 9223372036854775807) (hs1 : -9223372036854775808 ≤ sec) (hs2 : sec ≤ 9223372036854775807) (hn : n < 256) (hx : x < B256) (hYb : ∀ y ∈ Y, y < B256)
    (hA : opA p q g h f sec N n x = true) (hF : opF p q N Y n = true) (hI : invE x q ≠ 0) :
    Fn Tryz.prog 8 [stV p q g h f sec (.slice pt N.length c), dlV ep d pV (.slice pY Y.length cY) pP sC sS, .int .u8 (n : Int), numV x] (fun w => RdK (.slice pt N.length c) N w ∧ RdF numC (.slice pY Y.length cY) Y w) (Is (opE 7)) := by
  have hS := r15_Setting p q g h f sec pt c N hp hq hg hh hN (by omega) hf1 hf2 hs1 hs2
  have hNd := r15_Node p q g h f sec pt c N n hn (by omega)
  simp only [opA, Bool.and_eq_true] at hA
  obtain ⟨⟨e1, e2⟩, e3⟩ := hA
  rw [e1] at hS
  rw [e2] at hNd
  obtain ⟨hn1, hn2⟩ := nodeB_spec e2
  obtain ⟨k, hk, hsk⟩ := shK_get hn1 hn2
  have hkb := (hN k (List.mem_of_getElem? hk)).2
  have hSec := r16_secretB p q g h x k.2 hx hkb hp hq hh (setB_may e1)
  rw [hsk] at e3
  rw [e3] at hSec
  have hsub : IntKind.u8.wrap ((n : Int) - 1) = ((n - 1 : Nat) : Int) := u8_in' (by omega) (by omega) (by omega)
  have hlt : n - 1 < N.length := by omega
  simp only [opF, Bool.and_eq_true, decide_eq_true_eq] at hF
  obtain ⟨hYl, e4⟩ := hF
  have hly : n - 1 < Y.length := by omega
  obtain ⟨y, hy⟩ : ∃ y, Y[n - 1]? = some y := ⟨_, List.getElem?_eq_getElem hly⟩
  have hgy : Y.getD (n - 1) 0 = y := by simp [List.getD, hy]
  rw [hgy] at e4
  have hyb := hYb y (List.mem_of_getElem? hy)
  have hIn := r8_In p q g h y hyb hp hq
  rw [e4] at hIn
  have heq : (Y.length : Int) = (N.length : Int) := by omega
  have hmx := secB_may e3
  have hInv := r9_Inv p q g h x hx hq
  rw [hmx, okV_true] at hInv
  clear hYb hN hNl hf1 hf2 hs1 hs2 hx hp hq hg hh hkb hyb e1 e2 e3
  generalize invE x q = E at *
  generalize invN x q = V at *
  refine Fn.enter Tryz.func8 rfl rfl rfl ?_
  intro w hw
  obtain ⟨hwK, hwY⟩ := hw
  obtain ⟨pt', c', e, hpc⟩ := id hwK
  cases e
  rcases hpc with ⟨_, h0⟩ | ⟨b, o, rfl, hs⟩
  · rw [h0] at hlt; simp at hlt
  obtain ⟨pt2, c2, e, hpy⟩ := hwY
  cases e
  rcases hpy with ⟨_, h0⟩ | ⟨bY, oY, rfl, hY⟩
  · rw [h0] at hly; simp at hly
  have hcy : cut (Y.flatMap numC) (oY + (n - 1) * 4 - oY) 4 = numC y := by rw [Nat.add_sub_cancel_left]; exact cut_flat numC_len hy
  repeat (first | refine Ta ?_ | (refine Tm ?_; intro _) | refine Tc ?_ | exact Tz)
  refine WC.adraw 23 (k := ?_)
  iterate 23 (first | refine Da ?_ | refine DQ.acallR (hc := hS) (hR := fun w hm => hwK.mod hm.mod) (k := ?_) | refine DQ.acall (hc := hNd) (k := ?_) | refine DQ.acall (hc := hSec) (k := ?_) | refine DQ.does (fun s _ => does_sub rfl rfl hsub) Dp.const ?_ | refine DQ.does (fun s _ => does_indexSlice (i := n - 1) (o' := o + (n - 1) * 8) rfl rfl hlt rfl) Dp.const ?_ | refine DQ.does (fun s _ => a_loadF (vs := numC k.2) (hs := hs) (hle := by omega) (hc := cut_key2 hk)) Dp.const ?_ | refine Dc ?_)
  refine DQ.anil (k := ?_)
  intro sx _
  repeat (first | refine Ta ?_ | (refine Tm ?_; intro _) | refine Tc ?_ | exact Tz)
  refine WC.adraw 18 (k := ?_)
  iterate 18 (first | refine Da ?_ | refine DQ.does (fun s _ => does_neqN rfl rfl heq) Dp.const ?_ | refine DQ.acall (hc := hIn) (k := ?_) | refine DQ.does (fun s _ => does_sub rfl rfl hsub) Dp.const ?_ | refine DQ.does (fun s _ => does_indexSlice (i := n - 1) (o' := oY + (n - 1) * 4) rfl rfl hly rfl) Dp.const ?_ | refine DQ.does (fun s _ => a_loadF (vs := numC y) (hs := hY) (hle := Nat.le_add_right _ _) (hc := hcy)) Dp.const ?_ | refine Dc ?_)
  refine DQ.anil (k := ?_)
  intro sx _
  repeat (first | refine Ta ?_ | (refine Tm ?_; intro _) | refine WO.does (does_sub rfl rfl hsub) ?_ | refine WO.does (does_indexSlice (i := n - 1) (o' := oY + (n - 1) * 4) rfl rfl hly rfl) ?_ | refine WO.does (a_loadF (vs := numC y) (hs := hY) (hle := Nat.le_add_right _ _) (hc := hcy)) ?_ | refine WO.acall (hc := hInv) (k := ?_) | refine WO.does (does_neqY rfl rfl hI) ?_ | refine Tc ?_ | exact Tz)
  done
set_option maxHeartbeats 8000000 in
theorem r16_OpenY (pV pP : Value) (hp : p < B256) (hq : q < B256) (hg : g < B256) (hh : h < B256) (hN : NumsOk N) (hNl : N.length ≤ 100)
    (hf1 : -9223372036854775808 ≤ f) (hf2 : f ≤ 9223372036854775807) (hs1 : -9223372036854775808 ≤ sec) (hs2 : sec ≤ 9223372036854775807) (hn : n < 256) (hx : x < B256) (hYb : ∀ y ∈ Y, y < B256) (hep : ep < 18446744073709551616) (hd : d < 256)
    (hA : opA p q g h f sec N n x = true) (hF : opF p q N Y n = true) (hI : invE x q = 0) :
    Fn Tryz.prog 8 [stV p q g h f sec (.slice pt N.length c), dlV ep d pV (.slice pY Y.length cY) pP sC sS, .int .u8 (n : Int), numV x] (fun w => RdK (.slice pt N.length c) N w ∧ RdF numC (.slice pY Y.length cY) Y w) (Is (.tuple #[opOk p q h ep d n x (Y.getD (n - 1) 0), .int .i64 0])) := by
  have hS := r15_Setting p q g h f sec pt c N hp hq hg hh hN (by omega) hf1 hf2 hs1 hs2
  have hNd := r15_Node p q g h f sec pt c N n hn (by omega)
  simp only [opA, Bool.and_eq_true] at hA
  obtain ⟨⟨e1, e2⟩, e3⟩ := hA
  rw [e1] at hS
  rw [e2] at hNd
  obtain ⟨hn1, hn2⟩ := nodeB_spec e2
  obtain ⟨k, hk, hsk⟩ := shK_get hn1 hn2
  have hkb := (hN k (List.mem_of_getElem? hk)).2
  have hSec := r16_secretB p q g h x k.2 hx hkb hp hq hh (setB_may e1)
  rw [hsk] at e3
  rw [e3] at hSec
  have hsub : IntKind.u8.wrap ((n : Int) - 1) = ((n - 1 : Nat) : Int) := u8_in' (by omega) (by omega) (by omega)
  have hlt : n - 1 < N.length := by omega
  simp only [opF, Bool.and_eq_true, decide_eq_true_eq] at hF
  obtain ⟨hYl, e4⟩ := hF
  have hly : n - 1 < Y.length := by omega
  obtain ⟨y, hy⟩ : ∃ y, Y[n - 1]? = some y := ⟨_, List.getElem?_eq_getElem hly⟩
  have hgy : Y.getD (n - 1) 0 = y := by simp [List.getD, hy]
  rw [hgy] at e4
  have hyb := hYb y (List.mem_of_getElem? hy)
  have hIn := r8_In p q g h y hyb hp hq
  rw [e4] at hIn
  have heq : (Y.length : Int) = (N.length : Int) := by omega
  have hmx := secB_may e3
  have hInv := r9_Inv p q g h x hx hq
  rw [hmx, okV_true] at hInv
  rw [hgy]
  have hib : invN x q < B256 := Nat.lt_trans (invN_lt (mayN_spec hmx).1 (mayN_spec hmx).2.1) hq
  have hE := r8_Exp p q g h y (invN x q) hyb hib hp
  rw [gIn_may e4] at hE
  simp only [rE, okV_true] at hE
  have hzb : y ^ invN x q % p < B256 := Nat.lt_trans (pow_lt (gIn_may e4)) hp
  have hq0 : 0 < q := by have := (mayN_spec hmx).1; omega
  have hHlen : (byC (opH ep d n y (opZ p q x y))).length = 32 := by rw [byC_length]; exact hOf_len' _ _
  have hDr := r15_Draw p q g h x (opH ep d n y (opZ p q x y)) hx hq hq0 (hOf_lt _ _) (hOf_len' _ _)
  have hdb : opD q x ep d n y (opZ p q x y) < B256 := drawN_lt hq0 hq
  have hPr := r14_Prove p q g h sOpen x h (opZ p q x y) (opD q x ep d n y (opZ p q x y)) hp hq hx hh hzb hdb (by decide)
  have hPl := abL_parts ep d n y (opZ p q x y)
  have hHl := abL_bytes ep d n y (opZ p q x y)
  unfold opOk
  rw [show drawN q x (opH ep d n y (opZ p q x y)) = opD q x ep d n y (opZ p q x y) from rfl] at hDr
  simp only [prV] at hPr
  rw [show okV (prB p q x h (opZ p q x y) (opD q x ep d n y (opZ p q x y))) (prC p q (strB sOpen) x h (opZ p q x y) (opD q x ep d n y (opZ p q x y))) = opCc p q h x (opZ p q x y) (opD q x ep d n y (opZ p q x y)) from rfl, show okV (prB p q x h (opZ p q x y) (opD q x ep d n y (opZ p q x y))) ((opD q x ep d n y (opZ p q x y) + x * prC p q (strB sOpen) x h (opZ p q x y) (opD q x ep d n y (opZ p q x y)) % q) % q) = opS p q h x (opZ p q x y) (opD q x ep d n y (opZ p q x y)) from rfl] at hPr
  generalize okE (prB p q x h (opZ p q x y) (opD q x ep d n y (opZ p q x y))) = pE at hPr
  generalize opCc p q h x (opZ p q x y) (opD q x ep d n y (opZ p q x y)) = cc at *
  generalize opS p q h x (opZ p q x y) (opD q x ep d n y (opZ p q x y)) = cs at *
  generalize opD q x ep d n y (opZ p q x y) = D at *
  rw [show y ^ invN x q % p = opZ p q x y from rfl] at hE hzb
  generalize opZ p q x y = z at *
  have hAb := r15_About ep d n hep hd hn
  have hPy := r_PutLong [] y 0 none (by decide)
  rw [List.nil_append] at hPy
  have hPz := r_PutLong [] z 0 none (by decide)
  rw [List.nil_append] at hPz
  have hO := fun g1 c1 g2 c2 g3 c3 gR => r6_Of sOpen [.slice (some ⟨g1, 0, none⟩) 10 c1, .slice (some ⟨g2, 0, none⟩) 32 c2, .slice (some ⟨g3, 0, none⟩) 32 c3] [abL ep d n, be 32 y, be 32 z] gR 0 3 hPl hHl
  have hbl : ∀ u, (be 32 u).length = 32 := fun u => be_length _ _
  rw [show hOf (strB sOpen) [abL ep d n, be 32 y, be 32 z] = opH ep d n y z from rfl] at hO
  generalize opH ep d n y z = H at *
  generalize invN x q = V at *
  generalize invE x q = E at *
  subst hI
  clear hYb hN hNl hf1 hf2 hs1 hs2 hx hp hq hg hh hkb hyb e1 e2 e3 hib hdb hzb
  refine Fn.enter Tryz.func8 rfl rfl rfl ?_
  intro w hw
  obtain ⟨hwK, hwY⟩ := hw
  obtain ⟨pt', c', e, hpc⟩ := id hwK
  cases e
  rcases hpc with ⟨_, h0⟩ | ⟨b, o, rfl, hs⟩
  · rw [h0] at hlt; simp at hlt
  obtain ⟨pt2, c2, e, hpy⟩ := hwY
  cases e
  rcases hpy with ⟨_, h0⟩ | ⟨bY, oY, rfl, hY⟩
  · rw [h0] at hly; simp at hly
  have hcy : cut (Y.flatMap numC) (oY + (n - 1) * 4 - oY) 4 = numC y := by rw [Nat.add_sub_cancel_left]; exact cut_flat numC_len hy
  repeat (first | refine Ta ?_ | (refine Tm ?_; intro _) | refine Tc ?_ | exact Tz)
  refine WC.adraw 23 (k := ?_)
  iterate 23 (first | refine Da ?_ | refine DQ.acallR (hc := hS) (hR := fun w hm => hwK.mod hm.mod) (k := ?_) | refine DQ.acall (hc := hNd) (k := ?_) | refine DQ.acall (hc := hSec) (k := ?_) | refine DQ.does (fun s _ => does_sub rfl rfl hsub) Dp.const ?_ | refine DQ.does (fun s _ => does_indexSlice (i := n - 1) (o' := o + (n - 1) * 8) rfl rfl hlt rfl) Dp.const ?_ | refine DQ.does (fun s _ => a_loadF (vs := numC k.2) (hs := hs) (hle := by omega) (hc := cut_key2 hk)) Dp.const ?_ | refine Dc ?_)
  refine DQ.anil (k := ?_)
  intro sx _
  repeat (first | refine Ta ?_ | (refine Tm ?_; intro _) | refine Tc ?_ | exact Tz)
  refine WC.adraw 18 (k := ?_)
  iterate 18 (first | refine Da ?_ | refine DQ.does (fun s _ => does_neqN rfl rfl heq) Dp.const ?_ | refine DQ.acall (hc := hIn) (k := ?_) | refine DQ.does (fun s _ => does_sub rfl rfl hsub) Dp.const ?_ | refine DQ.does (fun s _ => does_indexSlice (i := n - 1) (o' := oY + (n - 1) * 4) rfl rfl hly rfl) Dp.const ?_ | refine DQ.does (fun s _ => a_loadF (vs := numC y) (hs := hY) (hle := Nat.le_add_right _ _) (hc := hcy)) Dp.const ?_ | refine Dc ?_)
  refine DQ.anil (k := ?_)
  intro sx _
  repeat (first | refine Ta ?_ | (refine Tm ?_; intro _) | refine WO.does (does_sub rfl rfl hsub) ?_ | refine WO.does (does_indexSlice (i := n - 1) (o' := oY + (n - 1) * 4) rfl rfl hly rfl) ?_ | refine WO.does (a_loadF (vs := numC y) (hs := hY) (hle := Nat.le_add_right _ _) (hc := hcy)) ?_ | refine WO.acall (hc := hInv) (k := ?_) | refine WO.does (does_neqN rfl rfl rfl) ?_ | refine WO.acall (hc := hE) (k := ?_) | refine Tc ?_ | exact Tz)
  refine WC.adraw 13 (k := ?_)
  iterate 5 (refine DQ.auto (k := ?_))
  refine DQ.acallZ (hc := hAb) (hR := fun _ => trivial) (hX := by rw [abL_length]; decide) (k := ?_)
  rw [abL_length]
  refine DQ.auto (k := ?_)
  refine DQ.acallZ (hc := hPy) (hR := fun _ => Rd.nil) (hX := by rw [hbl]; decide) (k := ?_)
  rw [hbl]
  refine DQ.auto (k := ?_)
  refine DQ.acallZ (hc := hPz) (hR := fun _ => Rd.nil) (hX := by rw [hbl]; decide) (k := ?_)
  rw [hbl]
  refine DQ.makes (vf := fun _ g => .slice (some ⟨g, 0, none⟩) 3 3) (t := 66) (cs := fun s => [.slice (some ⟨s 5 0, 0, none⟩) 10 (s 5 1), .slice (some ⟨s 7 0, 0, none⟩) 32 (s 7 1), .slice (some ⟨s 9 0, 0, none⟩) 32 (s 9 1)]) (fun s _ => makes_build rfl (by decide) rfl) Dp.const (by intro s s' h; dsimp only; rw [h, h, h] <;> decide +kernel) ?_
  refine DQ.callE (v := fun _ => .agg (byC H).toArray) (fun s => [⟨s 10 0, 66, [.slice (some ⟨s 5 0, 0, none⟩) 10 (s 5 1), .slice (some ⟨s 7 0, 0, none⟩) 32 (s 7 1), .slice (some ⟨s 9 0, 0, none⟩) 32 (s 9 1)]⟩, ⟨s 9 0, 5, byC (be 32 z ++ rz (s 9))⟩, ⟨s 7 0, 5, byC (be 32 y ++ rz (s 7))⟩, ⟨s 5 0, 5, byC (abL ep d n ++ rz (s 5))⟩])
    (fun s => .cons 10 (.head _) (by decide +kernel) (.cons 9 (by repeat (first | exact .head _ | apply List.Mem.tail)) (by decide +kernel) (.cons 7 (by repeat (first | exact .head _ | apply List.Mem.tail)) (by decide +kernel) (.cons 5 (by repeat (first | exact .head _ | apply List.Mem.tail)) (by decide +kernel) .nil)))) (fun s _ => hO (s 5 0) (s 5 1) (s 7 0) (s 7 1) (s 9 0) (s 9 1) (s 10 0)) (fun s => rfl)
    (fun s hC w hm => ⟨Hs.seg Hs.here hm, Parts.cons (by
        have hab := RdP.own (g := s 5 0) (c := s 5 1) (X := abL ep d n) (r := byC (rz (s 5))) (t := 5) hm (by rw [← byC_append]; exact Hs.there (Hs.there (Hs.there Hs.here))) (by have h1 : (abL ep d n ++ rz (s 5)).length = s 5 1 := hC.1.1.2.1; rw [List.length_append] at h1; omega) hC.1.1.2.2
        rw [abL_length] at hab
        exact hab) (Parts.cons (by
        have hab := RdP.own (g := s 7 0) (c := s 7 1) (X := be 32 y) (r := byC (rz (s 7))) (t := 5) hm (by rw [← byC_append]; exact Hs.there (Hs.there Hs.here)) (by have h1 : (be 32 y ++ rz (s 7)).length = s 7 1 := hC.1.2.1; rw [List.length_append] at h1; omega) hC.1.2.2
        rw [hbl] at hab
        exact hab) (Parts.cons (by
        have hab := RdP.own (g := s 9 0) (c := s 9 1) (X := be 32 z) (r := byC (rz (s 9))) (t := 5) hm (by rw [← byC_append]; exact Hs.there Hs.here) (by have h1 : (be 32 z ++ rz (s 9)).length = s 9 1 := hC.2.1; rw [List.length_append] at h1; omega) hC.2.2
        rw [hbl] at hab
        exact hab) Parts.nil))⟩) Dp.const ?_
  refine DQ.autoM (k := ?_)
  refine DQ.anil (k := ?_)
  intro sx _
  refine WO.stores (a_store (vs := byC H) (cs' := byC H) (hl := hHlen) (h1 := byC_one _) (hc := over_all (by rw [hHlen]; rfl)) (hle := by rw [hHlen]; rfl)) ?_
  generalize sx 12 0 = gH
  repeat (first | refine Ta ?_ | (refine Tm ?_; intro _) | refine Tc ?_ | exact Tz)
  refine WC.adrawF [12] 14 (k := ?_)
  repeat (first | refine Da ?_ | refine DQ.does (fun s _ => a_load (vs := byC H) (hc := cut_all (by rw [hHlen])) (hl := hHlen)) Dp.const ?_ | refine DQ.acall (hc := hDr) (k := ?_) | refine DQ.acall (hc := hPr) (k := ?_) | refine Df ?_)
  refine DQ.anil (k := ?_)
  intro sx _
  generalize sx 13 0 = gP
  repeat (first | refine Ta ?_ | (refine Tm ?_; intro _) | refine Tc ?_ | exact Tz)
  done
theorem r16_Open (pV pP : Value) (hp : p < B256) (hq : q < B256) (hg : g < B256) (hh : h < B256) (hN : NumsOk N) (hNl : N.length ≤ 100)
    (hf1 : -9223372036854775808 ≤ f) (hf2 : f ≤ 9223372036854775807) (hs1 : -9223372036854775808 ≤ sec) (hs2 : sec ≤ 9223372036854775807) (hn : n < 256) (hx : x < B256) (hYb : ∀ y ∈ Y, y < B256) (hep : ep < 18446744073709551616) (hd : d < 256) :
    Fn Tryz.prog 8 [stV p q g h f sec (.slice pt N.length c), dlV ep d pV (.slice pY Y.length cY) pP sC sS, .int .u8 (n : Int), numV x] (fun w => RdK (.slice pt N.length c) N w ∧ RdF numC (.slice pY Y.length cY) Y w) (Is (opR p q g h f sec N ep d n x Y)) := by
  unfold opR
  cases hA : opA p q g h f sec N n x with
  | false => exact r16_OpenA p q g h f sec pt c N ep d n x pY cY Y sC sS pV pP hp hq hg hh hN hNl hf1 hf2 hs1 hs2 hn hx hA
  | true =>
  rw [if_pos rfl]
  cases hF : opF p q N Y n with
  | false => exact r16_OpenF p q g h f sec pt c N ep d n x pY cY Y sC sS pV pP hp hq hg hh hN hNl hf1 hf2 hs1 hs2 hn hx hYb hA hF
  | true =>
  rw [if_pos rfl]
  by_cases hI : invE x q = 0
  · rw [if_pos hI]
    exact r16_OpenY p q g h f sec pt c N ep d n x pY cY Y sC sS pV pP hp hq hg hh hN hNl hf1 hf2 hs1 hs2 hn hx hYb hep hd hA hF hI
  · rw [if_neg hI]
    exact r16_OpenI p q g h f sec pt c N ep d n x pY cY Y sC sS pV pP hp hq hg hh hN hNl hf1 hf2 hs1 hs2 hn hx hYb hA hF hI
end
end Sx
end Go.Proofs.YtakkmakilfodoaaGreat

/- opens.Check -/
namespace Go.Proofs.YtakkmakilfodoaaGreat
open Go Go.RowKit Go.BigFrame
namespace Sx
attribute [local irreducible] wd DQ DQS WO WC WX
section
variable (p q g h : Nat) (f sec : Int) (pt : Option Addr) (c : Nat) (N : List (Nat × Nat)) (ep d : Nat) (pY : Option Addr) (cY : Nat) (Y : List Nat) (sC sS oe od n z oc os : Nat)
set_option maxHeartbeats 4000000 in
theorem c_OCheck (pV pP : Value) (hp : p < B256) (hq : q < B256) (hg : g < B256) (hh : h < B256) (hN : NumsOk N) (hNl : N.length ≤ 100)
    (hf1 : -9223372036854775808 ≤ f) (hf2 : f ≤ 9223372036854775807) (hs1 : -9223372036854775808 ≤ sec) (hs2 : sec ≤ 9223372036854775807) (hep : ep < 18446744073709551616) (hd : d < 256) (hYb : ∀ y ∈ Y, y < B256)
    (hoe : oe < 18446744073709551616) (hod : od < 256) (hn : n < 256) (hz : z < B256) (hoc : oc < B256) (hos : os < B256) :
    Fn Tryz.prog 9 [stV p q g h f sec (.slice pt N.length c), dlV ep d pV (.slice pY Y.length cY) pP sC sS, opV oe od n z oc os] (fun w => RdK (.slice pt N.length c) N w ∧ RdF numC (.slice pY Y.length cY) Y w) (Is (.bool (opCk p q g h f sec N ep d Y oe od n z oc os))) := by
  have hS := c_Setting p q g h f sec pt c N hp hq hg hh hN (by omega) hf1 hf2 hs1 hs2
  have hNd := c_node p q g h f sec pt c N n hn (by omega)
  unfold opCk
  have hO1 := c_oof oe od hod
  have hO2 := c_oof ep d hd
  cases e1 : setB p q g h f sec N with
  | false =>
    rw [e1] at hS
    clear hNd hN hNl hf1 hf2 hs1 hs2 hp hq hg hh hYb hz hoc hos
    simp only [Bool.false_and]
    refine Fn.enter Tryz.func9 rfl rfl rfl ?_
    intro w hw
    obtain ⟨hwK, hwY⟩ := hw
    repeat (first | refine Ta ?_ | (refine Tm ?_; intro _) | refine Tc ?_ | exact Tz)
    refine WC.adraw 32 (k := ?_)
    iterate 32 (first | refine Da ?_ | refine DQ.acallR (hc := hS) (hR := fun w hm => hwK.mod hm.mod) (k := ?_) | refine Dc ?_)
    refine DQ.anil (k := ?_)
    intro sx _
    repeat (first | refine Ta ?_ | (refine Tm ?_; intro _) | refine Tc ?_ | exact Tz)
    done
  | true =>
  rw [e1] at hS
  rw [Bool.true_and]
  cases e2 : (decide (oe = ep) && decide (od = d)) with
  | false =>
    clear hNd hN hNl hf1 hf2 hs1 hs2 hp hq hg hh hYb hz hoc hos
    simp only [Bool.false_and]
    have hPn : (!(decide (oe = ep) && decide (od = d))) = true := by rw [e2]; rfl
    refine Fn.enter Tryz.func9 rfl rfl rfl ?_
    intro w hw
    obtain ⟨hwK, hwY⟩ := hw
    repeat (first | refine Ta ?_ | (refine Tm ?_; intro _) | refine Tc ?_ | exact Tz)
    refine WC.adraw 32 (k := ?_)
    iterate 32 (first | refine Da ?_ | refine DQ.acallR (hc := hS) (hR := fun w hm => hwK.mod hm.mod) (k := ?_) | refine DQ.acall (hc := hO1) (k := ?_) | refine DQ.acall (hc := hO2) (k := ?_) | refine DQ.does (fun s _ => a_neqPairV rfl rfl hoe (by omega) hep (by omega) hPn) Dp.const ?_ | refine Dc ?_)
    refine DQ.anil (k := ?_)
    intro sx _
    repeat (first | refine Ta ?_ | (refine Tm ?_; intro _) | refine Tc ?_ | exact Tz)
    done
  | true =>
  rw [Bool.true_and]
  have hPn : (!(decide (oe = ep) && decide (od = d))) = false := by rw [e2]; rfl
  cases e4 : nodeB n N with
  | false =>
    rw [e4] at hNd
    clear hN hNl hf1 hf2 hs1 hs2 hp hq hg hh hYb hz hoc hos
    simp only [Bool.false_and]
    refine Fn.enter Tryz.func9 rfl rfl rfl ?_
    intro w hw
    obtain ⟨hwK, hwY⟩ := hw
    repeat (first | refine Ta ?_ | (refine Tm ?_; intro _) | refine Tc ?_ | exact Tz)
    refine WC.adraw 32 (k := ?_)
    iterate 32 (first | refine Da ?_ | refine DQ.acallR (hc := hS) (hR := fun w hm => hwK.mod hm.mod) (k := ?_) | refine DQ.acall (hc := hO1) (k := ?_) | refine DQ.acall (hc := hO2) (k := ?_) | refine DQ.does (fun s _ => a_neqPairV rfl rfl hoe (by omega) hep (by omega) hPn) Dp.const ?_ | refine DQ.acall (hc := hNd) (k := ?_) | refine Dc ?_)
    refine DQ.anil (k := ?_)
    intro sx _
    repeat (first | refine Ta ?_ | (refine Tm ?_; intro _) | refine Tc ?_ | exact Tz)
    done
  | true =>
  rw [e4] at hNd
  rw [Bool.true_and]
  by_cases hYl : Y.length = N.length
  rotate_left
  · have hne : (Y.length : Int) ≠ (N.length : Int) := by omega
    clear hN hNl hf1 hf2 hs1 hs2 hp hq hg hh hYb hz hoc hos
    rw [decide_eq_false hYl, Bool.false_and]
    refine Fn.enter Tryz.func9 rfl rfl rfl ?_
    intro w hw
    obtain ⟨hwK, hwY⟩ := hw
    repeat (first | refine Ta ?_ | (refine Tm ?_; intro _) | refine Tc ?_ | exact Tz)
    refine WC.adraw 32 (k := ?_)
    iterate 32 (first | refine Da ?_ | refine DQ.acallR (hc := hS) (hR := fun w hm => hwK.mod hm.mod) (k := ?_) | refine DQ.acall (hc := hO1) (k := ?_) | refine DQ.acall (hc := hO2) (k := ?_) | refine DQ.does (fun s _ => a_neqPairV rfl rfl hoe (by omega) hep (by omega) hPn) Dp.const ?_ | refine DQ.acall (hc := hNd) (k := ?_) | refine DQ.does (fun s _ => does_neqY rfl rfl hne) Dp.const ?_ | refine Dc ?_)
    refine DQ.anil (k := ?_)
    intro sx _
    repeat (first | refine Ta ?_ | (refine Tm ?_; intro _) | refine Tc ?_ | exact Tz)
    done
  have heq : (Y.length : Int) = (N.length : Int) := by omega
  rw [decide_eq_true hYl, Bool.true_and]
  obtain ⟨hn1, hn2⟩ := nodeB_spec e4
  obtain ⟨k, hk, hsk⟩ := shK_get hn1 hn2
  have hkb := (hN k (List.mem_of_getElem? hk)).2
  have hsub : IntKind.u8.wrap ((n : Int) - 1) = ((n - 1 : Nat) : Int) := u8_in' (by omega) (by omega) (by omega)
  have hlt : n - 1 < N.length := by omega
  have hly : n - 1 < Y.length := by omega
  obtain ⟨y, hy⟩ : ∃ y, Y[n - 1]? = some y := ⟨_, List.getElem?_eq_getElem hly⟩
  have hgy : Y.getD (n - 1) 0 = y := by simp [List.getD, hy]
  have hyb := hYb y (List.mem_of_getElem? hy)
  rw [hgy, hsk]
  have hCk := c_Check p q g h sOpen h k.2 z y oc os hp hq hh hkb hz hyb hoc hos (by decide)
  generalize ckB p q (strB sOpen) h k.2 z y oc os = R at *
  clear hN hNl hf1 hf2 hs1 hs2 hp hq hg hh hYb hz hoc hos hkb hyb e1
  refine Fn.enter Tryz.func9 rfl rfl rfl ?_
  intro w hw
  obtain ⟨hwK, hwY⟩ := hw
  obtain ⟨pt', c', e, hpc⟩ := id hwK
  cases e
  rcases hpc with ⟨_, h0⟩ | ⟨b, o, rfl, hs⟩
  · rw [h0] at hlt; simp at hlt
  obtain ⟨pt2, c2, e, hpy⟩ := hwY
  cases e
  rcases hpy with ⟨_, h0⟩ | ⟨bY, oY, rfl, hY⟩
  · rw [h0] at hly; simp at hly
  have hcy : cut (Y.flatMap numC) (oY + (n - 1) * 4 - oY) 4 = numC y := by rw [Nat.add_sub_cancel_left]; exact cut_flat numC_len hy
  repeat (first | refine Ta ?_ | (refine Tm ?_; intro _) | refine Tc ?_ | exact Tz)
  refine WC.adraw 32 (k := ?_)
  iterate 32 (first | refine Da ?_ | refine DQ.acallR (hc := hS) (hR := fun w hm => hwK.mod hm.mod) (k := ?_) | refine DQ.acall (hc := hO1) (k := ?_) | refine DQ.acall (hc := hO2) (k := ?_) | refine DQ.does (fun s _ => a_neqPairV rfl rfl hoe (by omega) hep (by omega) hPn) Dp.const ?_ | refine DQ.acall (hc := hNd) (k := ?_) | refine DQ.does (fun s _ => does_neqN rfl rfl heq) Dp.const ?_ | refine Dc ?_)
  refine DQ.anil (k := ?_)
  intro sx _
  repeat (first | refine Ta ?_ | (refine Tm ?_; intro _) | refine Tc ?_ | exact Tz)
  refine WC.adraw 26 (k := ?_)
  iterate 26 (first | refine Da ?_ | refine DQ.acall (hc := hCk) (k := ?_) | refine DQ.does (fun s _ => does_sub rfl rfl hsub) Dp.const ?_ | refine DQ.does (fun s _ => does_indexSlice (i := n - 1) (o' := o + (n - 1) * 8) rfl rfl hlt rfl) Dp.const ?_ | refine DQ.does (fun s _ => a_loadF (vs := numC k.2) (hs := hs) (hle := by omega) (hc := cut_key2 hk)) Dp.const ?_ | refine DQ.does (fun s _ => does_indexSlice (i := n - 1) (o' := oY + (n - 1) * 4) rfl rfl hly rfl) Dp.const ?_ | refine DQ.does (fun s _ => a_loadF (vs := numC y) (hs := hY) (hle := Nat.le_add_right _ _) (hc := hcy)) Dp.const ?_ | refine Dc ?_)
  refine DQ.anil (k := ?_)
  intro sx _
  repeat (first | refine Ta ?_ | (refine Tm ?_; intro _) | refine Tc ?_ | exact Tz)
  done
end
end Sx
end Go.Proofs.YtakkmakilfodoaaGreat
