/- Part 41 of the proof: OpE, LwB, RoA -/
import Derived.Test.YtakkmakilfodoaaGreatM38
import Derived.Test.YtakkmakilfodoaaGreatM39
import Derived.Test.YtakkmakilfodoaaGreatM40
import Derived.ChangeArms
import Derived.OpenShut
import Derived.DataReads
import Derived.WideShapes
set_option linter.unusedSimpArgs false
set_option linter.unusedVariables false
/- balefireref16.Check -/
namespace Go.Proofs.YtakkmakilfodoaaGreat
open Go Go.RowKit Go.BigFrame
namespace Sx
attribute [local irreducible] wd DQ DQS WO WC WX
section
variable (p q g h : Nat) (f sec : Int) (pt : Option Addr) (c : Nat) (N : List (Nat × Nat)) (ep d : Nat) (pY : Option Addr) (cY : Nat) (Y : List Nat) (sC sS oe od n z oc os : Nat)
set_option maxHeartbeats 4000000 in
theorem r16_Check (pV pP : Value) (hp : p < B256) (hq : q < B256) (hg : g < B256) (hh : h < B256) (hN : NumsOk N) (hNl : N.length ≤ 100)
    (hf1 : -9223372036854775808 ≤ f) (hf2 : f ≤ 9223372036854775807) (hs1 : -9223372036854775808 ≤ sec) (hs2 : sec ≤ 9223372036854775807) (hep : ep < 18446744073709551616) (hd : d < 256) (hYb : ∀ y ∈ Y, y < B256)
    (hoe : oe < 18446744073709551616) (hod : od < 256) (hn : n < 256) (hz : z < B256) (hoc : oc < B256) (hos : os < B256) :
    Fn Tryz.prog 10 [stV p q g h f sec (.slice pt N.length c), dlV ep d pV (.slice pY Y.length cY) pP sC sS, opV oe od n z oc os] (fun w => RdK (.slice pt N.length c) N w ∧ RdF numC (.slice pY Y.length cY) Y w) (Is (.bool (opCk p q g h f sec N ep d Y oe od n z oc os))) := by
  have hS := r15_Setting p q g h f sec pt c N hp hq hg hh hN (by omega) hf1 hf2 hs1 hs2
  have hNd := r15_Node p q g h f sec pt c N n hn (by omega)
  unfold opCk
  cases e1 : setB p q g h f sec N with
  | false =>
    rw [e1] at hS
    clear hNd hN hNl hf1 hf2 hs1 hs2 hp hq hg hh hYb hz hoc hos
    simp only [Bool.false_and]
    refine Fn.enter Tryz.func10 rfl rfl rfl ?_
    intro w hw
    obtain ⟨hwK, hwY⟩ := hw
    repeat (first | refine Ta ?_ | (refine Tm ?_; intro _) | refine WO.acallR (hc := hS) (hR := fun w hm => hwK.mod hm.mod) (k := ?_) | refine Tc ?_ | exact Tz)
    repeat (first | refine Ta ?_ | (refine Tm ?_; intro _) | refine Tc ?_ | exact Tz)
    done
  | true =>
  rw [e1] at hS
  rw [Bool.true_and]
  by_cases e2 : oe = ep
  rotate_left
  · have hPn : (oe : Int) ≠ (ep : Int) := by omega
    clear hNd hN hNl hf1 hf2 hs1 hs2 hp hq hg hh hYb hz hoc hos
    rw [decide_eq_false e2]
    simp only [Bool.false_and]
    refine Fn.enter Tryz.func10 rfl rfl rfl ?_
    intro w hw
    obtain ⟨hwK, hwY⟩ := hw
    repeat (first | refine Ta ?_ | (refine Tm ?_; intro _) | refine WO.acallR (hc := hS) (hR := fun w hm => hwK.mod hm.mod) (k := ?_) | refine WO.does (does_neqY rfl rfl hPn) ?_ | refine Tc ?_ | exact Tz)
    repeat (first | refine Ta ?_ | (refine Tm ?_; intro _) | refine Tc ?_ | exact Tz)
    done
  by_cases e3 : od = d
  rotate_left
  · have hPn : (oe : Int) = (ep : Int) := by omega
    have hPm : (od : Int) ≠ (d : Int) := by omega
    clear hNd hN hNl hf1 hf2 hs1 hs2 hp hq hg hh hYb hz hoc hos
    rw [decide_eq_true e2, decide_eq_false e3]
    simp only [Bool.true_and, Bool.false_and]
    refine Fn.enter Tryz.func10 rfl rfl rfl ?_
    intro w hw
    obtain ⟨hwK, hwY⟩ := hw
    repeat (first | refine Ta ?_ | (refine Tm ?_; intro _) | refine WO.acallR (hc := hS) (hR := fun w hm => hwK.mod hm.mod) (k := ?_) | refine WO.does (does_neqN rfl rfl hPn) ?_ | refine WO.does (does_neqY rfl rfl hPm) ?_ | refine Tc ?_ | exact Tz)
    repeat (first | refine Ta ?_ | (refine Tm ?_; intro _) | refine Tc ?_ | exact Tz)
    done
  rw [decide_eq_true e2, decide_eq_true e3, Bool.true_and, Bool.true_and]
  have hPn : (oe : Int) = (ep : Int) := by omega
  have hPm : (od : Int) = (d : Int) := by omega
  cases e4 : nodeB n N with
  | false =>
    rw [e4] at hNd
    clear hN hNl hf1 hf2 hs1 hs2 hp hq hg hh hYb hz hoc hos
    simp only [Bool.false_and]
    refine Fn.enter Tryz.func10 rfl rfl rfl ?_
    intro w hw
    obtain ⟨hwK, hwY⟩ := hw
    repeat (first | refine Ta ?_ | (refine Tm ?_; intro _) | refine WO.acallR (hc := hS) (hR := fun w hm => hwK.mod hm.mod) (k := ?_) | refine WO.does (does_neqN rfl rfl hPn) ?_ | refine WO.does (does_neqN rfl rfl hPm) ?_ | refine WO.acall (hc := hNd) (k := ?_) | refine Tc ?_ | exact Tz)
    repeat (first | refine Ta ?_ | (refine Tm ?_; intro _) | refine Tc ?_ | exact Tz)
    done
  | true =>
  rw [e4] at hNd
  rw [Bool.true_and]
  by_cases hYl : Y.length = N.length
  rotate_left
  · have hne : (Y.length : Int) ≠ (N.length : Int) := by omega
    clear hN hNl hf1 hf2 hs1 hs2 hp hq hg hh hYb hz hoc hos
    rw [decide_eq_false hYl, Bool.false_and]
    refine Fn.enter Tryz.func10 rfl rfl rfl ?_
    intro w hw
    obtain ⟨hwK, hwY⟩ := hw
    repeat (first | refine Ta ?_ | (refine Tm ?_; intro _) | refine WO.acallR (hc := hS) (hR := fun w hm => hwK.mod hm.mod) (k := ?_) | refine WO.does (does_neqN rfl rfl hPn) ?_ | refine WO.does (does_neqN rfl rfl hPm) ?_ | refine WO.acall (hc := hNd) (k := ?_) | refine WO.does (does_neqY rfl rfl hne) ?_ | refine Tc ?_ | exact Tz)
    repeat (first | refine Ta ?_ | (refine Tm ?_; intro _) | refine Tc ?_ | exact Tz)
    done
  have heq : (Y.length : Int) = (N.length : Int) := by omega
  rw [decide_eq_true hYl, Bool.true_and]
  obtain ⟨hn1, hn2⟩ := nodeB_spec e4
  obtain ⟨k, hk, hsk⟩ := shK_get hn1 hn2
  have hkb := (hN k (List.mem_of_getElem? hk)).2
  have hsub : IntKind.u8.wrap ((n : Int) - 1) = ((n - 1 : Nat) : Int) := u8_in' (by omega) (by omega) (by omega)
  have hlt : n - 1 < N.length := by omega
  have hly : n - 1 < Y.length := by omega
  obtain ⟨y, hy⟩ : ∃ y, Y[n - 1]? = some y := ⟨_, List.getElem?_eq_getElem hly⟩
  have hgy : Y.getD (n - 1) 0 = y := by simp [List.getD, hy]
  have hyb := hYb y (List.mem_of_getElem? hy)
  rw [hgy, hsk]
  have hCk := r14_Check p q g h sOpen h k.2 z y oc os hp hq hh hkb hz hyb hoc hos (by decide)
  generalize ckB p q (strB sOpen) h k.2 z y oc os = R at *
  clear hN hNl hf1 hf2 hs1 hs2 hp hq hg hh hYb hz hoc hos hkb hyb e1
  refine Fn.enter Tryz.func10 rfl rfl rfl ?_
  intro w hw
  obtain ⟨hwK, hwY⟩ := hw
  obtain ⟨pt', c', e, hpc⟩ := id hwK
  cases e
  rcases hpc with ⟨_, h0⟩ | ⟨b, o, rfl, hs⟩
  · rw [h0] at hlt; simp at hlt
  obtain ⟨pt2, c2, e, hpy⟩ := hwY
  cases e
  rcases hpy with ⟨_, h0⟩ | ⟨bY, oY, rfl, hY⟩
  · rw [h0] at hly; simp at hly
  have hcy : cut (Y.flatMap numC) (oY + (n - 1) * 4 - oY) 4 = numC y := by rw [Nat.add_sub_cancel_left]; exact cut_flat numC_len hy
  repeat (first | refine Ta ?_ | (refine Tm ?_; intro _) | refine WO.acallR (hc := hS) (hR := fun w hm => hwK.mod hm.mod) (k := ?_) | refine WO.does (does_neqN rfl rfl hPn) ?_ | refine WO.does (does_neqN rfl rfl hPm) ?_ | refine WO.acall (hc := hNd) (k := ?_) | refine WO.does (does_neqN rfl rfl heq) ?_ | refine Tc ?_ | exact Tz)
  repeat (first | refine Ta ?_ | (refine Tm ?_; intro _) | refine Tc ?_ | exact Tz)
  refine WC.adraw 24 (k := ?_)
  iterate 24 (first | refine Da ?_ | refine DQ.acall (hc := hCk) (k := ?_) | refine DQ.does (fun s _ => does_sub rfl rfl hsub) Dp.const ?_ | refine DQ.does (fun s _ => does_indexSlice (i := n - 1) (o' := o + (n - 1) * 8) rfl rfl hlt rfl) Dp.const ?_ | refine DQ.does (fun s _ => a_loadF (vs := numC k.2) (hs := hs) (hle := by omega) (hc := cut_key2 hk)) Dp.const ?_ | refine DQ.does (fun s _ => does_indexSlice (i := n - 1) (o' := oY + (n - 1) * 4) rfl rfl hly rfl) Dp.const ?_ | refine DQ.does (fun s _ => a_loadF (vs := numC y) (hs := hY) (hle := Nat.le_add_right _ _) (hc := hcy)) Dp.const ?_ | refine Dc ?_)
  refine DQ.anil (k := ?_)
  intro sx _
  repeat (first | refine Ta ?_ | (refine Tm ?_; intro _) | refine Tc ?_ | exact Tz)
  done
end
end Sx
end Go.Proofs.YtakkmakilfodoaaGreat

/- The statement OpensOpen: what its function answers. -/
namespace Go.Proofs.YtakkmakilfodoaaGreat
open Go Go.RowKit Go.BigFrame
namespace Sx
attribute [local irreducible] wd DQ DQS WO WC WX
/-- an opened share's numbers -/
structure Od where
  e : Nat
  d : Nat
  n : Nat
  z : Nat
  c : Nat
  s : Nat
structure OdOk (o : Od) : Prop where
  e : o.e < 18446744073709551616
  d : o.d < 256
  n : o.n < 256
  z : o.z < B256
  c : o.c < B256
  s : o.s < B256
abbrev odC (o : Od) : List Value := opC o.e o.d o.n o.z o.c o.s
theorem odC_len (o : Od) : (odC o).length = 15 := rfl
theorem wd_wf (i a : Nat) : (Lit.int .u64 ((wd i a : Nat) : Int)).wf = true := by
  have := wd_lt i a
  simp [Lit.wf, IntKind.min, IntKind.max, IntKind.signed, IntKind.bits]; omega
theorem key_opened (o : Od) (ho : OdOk o) : ∃ l, Tryz.prog.keyLits 4 44 (odC o) = some l := by
  have c1 : Tryz.prog.cellsOf 44 = 15 := by kernel_rfl
  have c2 : Tryz.prog.cellsOf 24 = 4 := by kernel_rfl
  have c3 : Tryz.prog.cellsOf 42 = 8 := by kernel_rfl
  have c4 : Tryz.prog.cellsOf 22 = 1 := by kernel_rfl
  have c5 : Tryz.prog.cellsOf 5 = 1 := by kernel_rfl
  have w1 : (Lit.int .u64 (o.e : Int)).wf = true := by have := ho.e; simp [Lit.wf, IntKind.min, IntKind.max, IntKind.signed, IntKind.bits]; omega
  have w2 : (Lit.int .u8 (o.d : Int)).wf = true := by have := ho.d; simp [Lit.wf, IntKind.min, IntKind.max, IntKind.signed, IntKind.bits]; omega
  have w3 : (Lit.int .u8 (o.n : Int)).wf = true := by have := ho.n; simp [Lit.wf, IntKind.min, IntKind.max, IntKind.signed, IntKind.bits]; omega
  have k1 : Tryz.prog.keyLits 3 22 [.int .u64 (o.e : Int)] = some [.int .u64 (o.e : Int)] := by simp [Program.keyLits, Tryz.underlying22, w1]
  have k2 : Tryz.prog.keyLits 3 5 [.int .u8 (o.d : Int)] = some [.int .u8 (o.d : Int)] := by simp [Program.keyLits, Tryz.underlying5, w2]
  have k3 : Tryz.prog.keyLits 3 5 [.int .u8 (o.n : Int)] = some [.int .u8 (o.n : Int)] := by simp [Program.keyLits, Tryz.underlying5, w3]
  have k4 : ∃ l, Tryz.prog.keyLits 3 24 (numC o.z) = some l := by
    have k := fun i => wd_wf i o.z
    have r : List.range 4 = [0, 1, 2, 3] := rfl
    unfold Program.keyLits
    simp [Tryz.underlying24, c2, c4, r, Program.keyLits, Tryz.underlying22, k]
  obtain ⟨l4, k4⟩ := k4
  obtain ⟨l5, k5⟩ := key_proof o.c o.s
  unfold Program.keyLits
  simp [Tryz.underlying44, c1, c2, c3, c4, c5, numC] at k1 k2 k3 k4 k5 ⊢
  simp [k1, k2, k3, k4, k5]
theorem same_opened (o : Od) (ho : OdOk o) (w : World) : (Op.equalIn 10000 44 (.agg (odC o).toArray) (.agg (odC o).toArray)).run Tryz.prog w = .ok true w := run_same (d := 9996) (m := 4) (D := 4) (by kernel_rfl) rfl (by kernel_rfl) (key_opened o ho) w
theorem guard_opened (op : BinOp) (x y : Operand) (a b : Array Value) (w : World) : (eqGuard op 44 x y (.agg a) (.agg b)).run Tryz.prog w = .ok () w := by cases op <;> kernel_rfl
section
variable {w0 : World} {gs : List Nat} {K : List (Nat × Value)} {L : List Ent}
theorem a_neqOpened {x y : Operand} {yt ty : TypeId} {o : Od} (ho : OdOk o) (hx : ev K x = some (.agg (odC o).toArray)) (hy : ev K y = some (.agg (odC o).toArray)) : Does Tryz.prog w0 gs K L (.binOp .neq 44 x y yt) ty (.bool false) :=
  a_neqSame hx hy (fun w => same_opened o ho w) (fun w => guard_opened _ _ _ _ _ w)
theorem run_neqB (b : Bool) (w : World) : (binOp .neq 4 (.bool b) (.bool b)).run Tryz.prog w = .ok (.bool false) w := by cases b <;> kernel_rfl
theorem guard_bool (op : BinOp) (x y : Operand) (a b : Bool) (w : World) : (eqGuard op 4 x y (.bool a) (.bool b)).run Tryz.prog w = .ok () w := by cases op <;> kernel_rfl
theorem a_neqB {x y : Operand} {yt ty : TypeId} {b : Bool} (hx : ev K x = some (.bool b)) (hy : ev K y = some (.bool b)) : Does Tryz.prog w0 gs K L (.binOp .neq 4 x y yt) ty (.bool false) := by
  intro ac w hk _ o ho _
  simp only [execOp, ho, hk.eval hx, hk.eval hy, Sem.run_bind, guard_bool, Result.andThen_ok, run_neqB, Sem.run_pure]
end
theorem okV_B {b : Bool} {r : Nat} (h : r < B256) : okV b r < B256 := by
  cases b with
  | true => exact h
  | false => exact B256_zero
/-- what Open answers: an opened share, and an error's number -/
theorem opR_form (p q g h : Nat) (f sec : Int) (N : List (Nat × Nat)) (ep d n x : Nat) (Y : List Nat) (hp : p < B256) (hq : q < B256) (hep : ep < 18446744073709551616) (hd : d < 256) (hn : n < 256) :
    ∃ o E, OdOk o ∧ opR p q g h f sec N ep d n x Y = .tuple #[.agg (odC o).toArray, .int .i64 E] := by
  have h0 : OdOk ⟨0, 0, 0, 0, 0, 0⟩ := ⟨by decide, by decide, by decide, B256_zero, B256_zero, B256_zero⟩
  unfold opR
  cases hA : opA p q g h f sec N n x with
  | false => exact ⟨⟨0, 0, 0, 0, 0, 0⟩, 1, h0, rfl⟩
  | true =>
  cases hF : opF p q N Y n with
  | false => exact ⟨⟨0, 0, 0, 0, 0, 0⟩, 4, h0, rfl⟩
  | true =>
  by_cases hI : invE x q = 0
  · rw [if_pos rfl, if_pos rfl, if_pos hI]
    simp only [opA, Bool.and_eq_true] at hA
    have hq1 := (mayN_spec (secB_may hA.2)).1
    have hp1 := (gMay_spec (setB_may hA.1.1)).1
    refine ⟨⟨ep, d, n, opZ p q x (Y.getD (n - 1) 0), opCc p q h x (opZ p q x (Y.getD (n - 1) 0)) (opD q x ep d n (Y.getD (n - 1) 0) (opZ p q x (Y.getD (n - 1) 0))), opS p q h x (opZ p q x (Y.getD (n - 1) 0)) (opD q x ep d n (Y.getD (n - 1) 0) (opZ p q x (Y.getD (n - 1) 0)))⟩, 0, ⟨hep, hd, hn, ?_, okV_B (Nat.lt_trans (hNum_lt (by omega) _ _) hq), okV_B (Nat.lt_trans (Nat.mod_lt _ (by omega)) hq)⟩, rfl⟩
    exact Nat.lt_trans (Nat.mod_lt _ (by omega)) hp
  · rw [if_pos rfl, if_pos rfl, if_neg hI]
    exact ⟨⟨0, 0, 0, 0, 0, 0⟩, 7, h0, rfl⟩
section
variable (p q g h : Nat) (f sec : Int) (ep d sC sS n x : Nat) (p0 p1 p2 p3 p4 p5 : Option Addr) (c0 c1 c2 c3 c4 c5 n5 : Nat) (N : List (Nat × Nat)) (V Y : List Nat) (Pr : List (Nat × Nat)) (Ol : List Od)
set_option maxHeartbeats 8000000 in
theorem t_OpensOpen (hp : p < B256) (hq : q < B256) (hg : g < B256) (hh : h < B256) (hN : NumsOk N)
    (hf1 : -9223372036854775808 ≤ f) (hf2 : f ≤ 9223372036854775807) (hs1 : -9223372036854775808 ≤ sec) (hs2 : sec ≤ 9223372036854775807) (hep : ep < 18446744073709551616) (hd : d < 256) (hYb : ∀ y ∈ Y, y < B256)
    (hn : n < 256) (hx : x < B256) (hO : ∀ o ∈ Ol, OdOk o) :
    Fn Tryz.prog 3 [stV p q g h f sec (.slice p0 N.length c0), gvV ep d (.slice p1 V.length c1) (.slice p2 Y.length c2) (.slice p3 Pr.length c3) sC sS n x (.slice p4 Ol.length c4) (.slice p5 n5 c5)]
      (fun w => RdF keyC (.slice p0 N.length c0) N w ∧ RdF numC (.slice p1 V.length c1) V w ∧ RdF numC (.slice p2 Y.length c2) Y w ∧ RdF pfC (.slice p3 Pr.length c3) Pr w ∧ RdF odC (.slice p4 Ol.length c4) Ol w) (Is (.bool true)) := by
  have hG := t_great p q g h f sec ep d sC sS n x p0 p1 p2 p3 p4 p5 N.length V.length Y.length Pr.length Ol.length n5 c0 c1 c2 c3 c4 c5
  cases hgr : grtB N.length V.length Y.length Pr.length Ol.length n5 with
  | true =>
    rw [hgr] at hG
    clear hp hq hg hh hN hf1 hf2 hs1 hs2 hep hd hYb hn hx hO
    refine Fn.enter Tryz.func3 rfl rfl rfl ?_
    intro w hw
    repeat (first | refine Ta ?_ | (refine Tm ?_; intro _) | refine WO.acall (hc := hG) (k := ?_) | refine Tc ?_ | exact Tz)
    done
  | false =>
  rw [hgr] at hG
  simp only [grtB, Bool.or_eq_false_iff, decide_eq_false_iff_not] at hgr
  obtain ⟨⟨⟨⟨⟨b0, b1⟩, b2⟩, b3⟩, b4⟩, b5⟩ := hgr
  have hTS := t_TwinSetting p q g h f sec p0 c0 N (by omega)
  have hTD := t_TwinDealing ep d sC sS p1 p2 p3 c1 c2 c3 V Y Pr (by omega) (by omega) (by omega)
  have hOp := fun gN gV gY gP => c_OOpen p q g h f sec (some ⟨gN, 0, none⟩) (N.length + 1) N ep d n x (some ⟨gY, 0, none⟩) (Y.length + 1) Y sC sS (.slice (some ⟨gV, 0, none⟩) V.length (V.length + 1)) (.slice (some ⟨gP, 0, none⟩) Pr.length (Pr.length + 1)) hp hq hg hh hN (by omega) hf1 hf2 hs1 hs2 hn hx hYb hep hd
  have hOr := r16_Open p q g h f sec p0 c0 N ep d n x p2 c2 Y sC sS (.slice p1 V.length c1) (.slice p3 Pr.length c3) hp hq hg hh hN (by omega) hf1 hf2 hs1 hs2 hn hx hYb hep hd
  have hCp := fun gN gV gY gP (o : Od) (ho : OdOk o) => c_OCheck p q g h f sec (some ⟨gN, 0, none⟩) (N.length + 1) N ep d (some ⟨gY, 0, none⟩) (Y.length + 1) Y sC sS o.e o.d o.n o.z o.c o.s (.slice (some ⟨gV, 0, none⟩) V.length (V.length + 1)) (.slice (some ⟨gP, 0, none⟩) Pr.length (Pr.length + 1)) hp hq hg hh hN (by omega) hf1 hf2 hs1 hs2 hep hd hYb ho.e ho.d ho.n ho.z ho.c ho.s
  have hCr := fun (o : Od) (ho : OdOk o) => r16_Check p q g h f sec p0 c0 N ep d p2 c2 Y sC sS o.e o.d o.n o.z o.c o.s (.slice p1 V.length c1) (.slice p3 Pr.length c3) hp hq hg hh hN (by omega) hf1 hf2 hs1 hs2 hep hd hYb ho.e ho.d ho.n ho.z ho.c ho.s
  have hLS := fun gN => t_LeftSetting p q g h f sec p0 c0 N gN (by omega)
  have hLD := fun gV gY gP => t_LeftDealing ep d sC sS p1 p2 p3 c1 c2 c3 V Y Pr gV gY gP (by omega) (by omega) (by omega)
  obtain ⟨o, E, ho, hR⟩ := opR_form p q g h f sec N ep d n x Y hp hq hep hd hn
  rw [hR] at hOr
  simp only [hR] at hOp
  have hcp := fun gN gV gY gP => hCp gN gV gY gP o ho
  have hcr := hCr o ho
  generalize opCk p q g h f sec N ep d Y o.e o.d o.n o.z o.c o.s = B0 at hcp hcr
  clear hp hq hg hh hN hf1 hf2 hs1 hs2 hep hd hYb hn hx hR b0 b1 b2 b3 b5
  refine Fn.enter Tryz.func3 rfl rfl rfl ?_
  intro w hw
  obtain ⟨w1, w2, w3, w4, w5⟩ := hw
  repeat (first | refine Ta ?_ | (refine Tm ?_; intro _) | refine WO.acall (hc := hG) (k := ?_) | refine Tc ?_ | exact Tz)
  rename_i g2 g3
  refine WO.acallX (hc := hTS) (hR := fun w hm => w1.mod hm.mod) (k := fun s1 hs1 => ?_)
  clear hs1
  generalize s1 0 = gN
  clear s1
  simp only [List.cons_append, List.nil_append]
  repeat (first | refine Ta ?_ | (refine Tm ?_; intro _) | refine Tc ?_ | exact Tz)
  rename_i g5
  refine WO.acallX (hc := hTD) (hR := fun w hm => ⟨w2.mod hm.mod, w3.mod hm.mod, w4.mod hm.mod⟩) (k := fun s1 hs1 => ?_)
  clear hs1
  generalize s1 0 = gV
  generalize s1 1 = gY
  generalize s1 2 = gP
  clear s1
  simp only [List.cons_append, List.nil_append]
  repeat (first | refine Ta ?_ | (refine Tm ?_; intro _) | refine WO.acallR (hc := hOp gN gV gY gP) (hR := fun w hm => ⟨RdF.seg (Hs.seg (by repeat (first | exact Hs.here | apply Hs.there)) hm), RdF.seg (Hs.seg (by repeat (first | exact Hs.here | apply Hs.there)) hm)⟩) (k := ?_) | refine WO.acallR (hc := hOr) (hR := fun w hm => ⟨w1.mod hm.mod, w3.mod hm.mod⟩) (k := ?_) | refine Tc ?_ | exact Tz)
  rename_i g6 g7 g9
  refine WC.adraw 20 (k := ?_)
  iterate 20 (first | refine Da ?_ | refine DQ.does (fun s _ => a_neqOpened ho rfl rfl) Dp.const ?_ | refine DQ.does (fun s _ => does_neqN rfl rfl rfl) Dp.const ?_ | refine DQ.does (fun s _ => a_neqB rfl rfl) Dp.const ?_ | refine DQ.acallR (hc := hcp gN gV gY gP) (hR := fun w hm => ⟨RdF.seg (Hs.seg (by repeat (first | exact Hs.here | apply Hs.there)) hm), RdF.seg (Hs.seg (by repeat (first | exact Hs.here | apply Hs.there)) hm)⟩) (k := ?_) | refine DQ.acallR (hc := hcr) (hR := fun w hm => ⟨w1.mod hm.mod, w3.mod hm.mod⟩) (k := ?_) | refine Dc ?_)
  refine DQ.anil (k := ?_)
  intro sx _
  clear hcp hcr hOp hOr hTS hTD hG
  repeat (first | refine Ta ?_ | (refine Tm ?_; intro _) | refine Tc ?_ | exact Tz)
  refine WC.loopI (σ := Nat) (fun i => i ≤ Ol.length) (fun i => [(2, pt g2), (3, pt g3), (5, pt g5), (6, pt g6), (11, .int .i64 (i : Int))])
    (fun _ => [⟨g6, 35, dlC ep d (.slice (some ⟨gV, 0, none⟩) V.length (V.length + 1)) (.slice (some ⟨gY, 0, none⟩) Y.length (Y.length + 1)) (.slice (some ⟨gP, 0, none⟩) Pr.length (Pr.length + 1)) sC sS⟩, ⟨gP, 42, Pr.flatMap pfC ++ twoC 77 0⟩, ⟨gY, 24, Y.flatMap numC ++ numC 77⟩, ⟨gV, 24, V.flatMap numC ++ numC 77⟩,
      ⟨g5, 29, stC p q g h f sec (.slice (some ⟨gN, 0, none⟩) N.length (N.length + 1))⟩, ⟨gN, 58, N.flatMap keyC ++ twoC 77 0⟩, ⟨g3, 38, gvC ep d (.slice p1 V.length c1) (.slice p2 Y.length c2) (.slice p3 Pr.length c3) sC sS n x (.slice p4 Ol.length c4) (.slice p5 n5 c5)⟩, ⟨g2, 29, stC p q g h f sec (.slice p0 N.length c0)⟩])
    (fun i => Ol.length - i) 0 (fun i hi => ?_) (Nat.zero_le _)
  try dsimp only at hi ⊢
  by_cases hlt : i < Ol.length
  · obtain ⟨u, hu⟩ : ∃ u, Ol[i]? = some u := ⟨_, List.getElem?_eq_getElem hlt⟩
    obtain ⟨p4', c4', e, hpo⟩ := w5
    cases e
    rcases hpo with ⟨_, h0⟩ | ⟨b, o2, rfl, hs⟩
    · rw [h0] at hlt; simp at hlt
    have hou := hO u (List.mem_of_getElem? hu)
    have hcp := hCp gN gV gY gP u hou
    have hcr := hCr u hou
    generalize opCk p q g h f sec N ep d Y u.e u.d u.n u.z u.c u.s = B1 at hcp hcr
    have hadd2 : IntKind.i64.wrap ((i : Int) + 1) = ((i + 1 : Nat) : Int) := i64_in' (by omega) (by omega) (by omega)
    have hcx : cut (Ol.flatMap odC) (o2 + i * 15 - o2) 15 = odC u := by rw [Nat.add_sub_cancel_left]; exact cut_flat odC_len hu
    clear hCp hCr hLS hLD hO
    repeat (first | refine Ta ?_ | (refine Tm ?_; intro _) | refine Tc ?_ | exact Tz)
    refine WC.dT rfl (by omega) ?_
    repeat (first | refine Ta ?_ | (refine Tm ?_; intro _) | refine Tc ?_ | exact Tz)
    refine WC.adraw 18 (k := ?_)
    iterate 18 (first | refine Da ?_ | refine DQ.does (fun s _ => does_indexSlice (o' := o2 + i * 15) rfl rfl hlt rfl) Dp.const ?_ | refine DQ.does (fun s _ => a_loadF (vs := odC u) (hs := hs) (hle := Nat.le_add_right _ _) (hc := hcx)) Dp.const ?_ | refine DQ.does (fun s _ => a_neqB rfl rfl) Dp.const ?_ | refine DQ.acallR (hc := hcp) (hR := fun w hm => ⟨RdF.seg (Hs.seg (by repeat (first | exact Hs.here | apply Hs.there)) hm), RdF.seg (Hs.seg (by repeat (first | exact Hs.here | apply Hs.there)) hm)⟩) (k := ?_) | refine DQ.acallR (hc := hcr) (hR := fun w hm => ⟨w1.mod hm.mod, w3.mod hm.mod⟩) (k := ?_) | refine Dc ?_)
    refine DQ.anil (k := ?_)
    intro sx _
    repeat (first | refine Ta ?_ | (refine Tm ?_; intro _) | refine WO.does (does_add rfl rfl hadd2) ?_ | refine Tc ?_ | exact Tz)
    exact WX.metI (i + 1) (hs := ⟨by show i + 1 ≤ Ol.length; omega, by show Ol.length - (i + 1) < Ol.length - i; omega⟩)
  · clear hCp hCr hO
    repeat (first | refine Ta ?_ | (refine Tm ?_; intro _) | refine Tc ?_ | exact Tz)
    refine WC.dF rfl (by omega) ?_
    repeat (first | refine Ta ?_ | (refine Tm ?_; intro _) | refine WO.acallR (hc := hLS gN) (hR := fun w hm => ⟨Hs.seg (by repeat (first | exact Hs.here | apply Hs.there)) hm, w1.mod hm.mod⟩) (k := ?_) | refine WO.acallR (hc := hLD gV gY gP) (hR := fun w hm => ⟨⟨Hs.seg (by repeat (first | exact Hs.here | apply Hs.there)) hm, Hs.seg (by repeat (first | exact Hs.here | apply Hs.there)) hm, Hs.seg (by repeat (first | exact Hs.here | apply Hs.there)) hm⟩, w2.mod hm.mod, w3.mod hm.mod, w4.mod hm.mod⟩) (k := ?_) | refine Tc ?_ | exact Tz)
    done
end
end Sx
end Go.Proofs.YtakkmakilfodoaaGreat

/- What values that can be read as data are: numbers, structs of numbers, rows of them. -/
namespace Go.Proofs.YtakkmakilfodoaaGreat
open Go Go.RowKit Go.BigFrame Go.WideShapes
namespace Sx
theorem cut_join (cs : List Value) (a b c : Nat) : cut cs a b ++ cut cs (a + b) c = cut cs a (b + c) := by
  unfold cut
  rw [List.take_add, List.drop_drop]
section
variable {H : Type} {enc : TypeId × Value → H} {P : Program} {w : World} {base : Nat} {spare : Nat → Bool} {held : Bool} {fuel : Nat} {cs : List Value} {x : DataW H × List MemPlace}
theorem reads_len {t : TypeId} {fs : Array Field} {m : Nat} (ht : P.underlying t = some (.struct fs)) (hm : P.cellsOf t = m) (h : DataW.trod enc P w base spare held fuel t cs = some x) : cs.length = m := by
  obtain ⟨xs, n, _, _, hl, _⟩ := DataW.trod_struct ht h
  rw [hl, hm]
/-- a struct's part -/
theorem reads_at {t : TypeId} {fs : Array Field} (ht : P.underlying t = some (.struct fs)) (h : DataW.trod enc P w base spare held fuel t cs = some x) {i off ty sz : Nat} {f : Field} (hf : fs[i]? = some f) (ho : f.offset = off) (hty : f.type = ty) (hs : P.cellsOf ty = sz) :
    ∃ n y, DataW.trod enc P w base spare held n ty (cut cs off sz) = some y := by
  obtain ⟨xs, n, _, _, _, hlen, hp⟩ := DataW.trod_struct ht h
  have h1 := hp i f hf
  subst ho hty hs
  have hi : i < xs.length := by
    rw [hlen]
    rcases Nat.lt_or_ge i fs.size with h2 | h2
    · exact h2
    · rw [Array.getElem?_eq_none h2] at hf; cases hf
  rw [List.getElem?_eq_getElem hi] at h1
  exact ⟨n, _, h1⟩
theorem reads_u64 {t : TypeId} (ht : P.underlying t = some (.int .u64)) (h : DataW.trod enc P w base spare held fuel t cs = some x) : ∃ n : Nat, n < 18446744073709551616 ∧ cs = [.int .u64 (n : Int)] := by
  obtain ⟨n, rfl, _, hw⟩ := DataW.trod_int ht h
  simp only [Lit.wf, IntKind.min, IntKind.max, IntKind.signed, IntKind.bits, Bool.and_eq_true, decide_eq_true_eq] at hw
  have h1 : (0 : Int) ≤ n := by simpa using hw.1
  have h2 : n ≤ 18446744073709551615 := by simpa using hw.2
  exact ⟨n.toNat, by omega, by rw [Int.toNat_of_nonneg h1]⟩
theorem reads_u8 {t : TypeId} (ht : P.underlying t = some (.int .u8)) (h : DataW.trod enc P w base spare held fuel t cs = some x) : ∃ n : Nat, n < 256 ∧ cs = [.int .u8 (n : Int)] := by
  obtain ⟨n, rfl, _, hw⟩ := DataW.trod_int ht h
  simp only [Lit.wf, IntKind.min, IntKind.max, IntKind.signed, IntKind.bits, Bool.and_eq_true, decide_eq_true_eq] at hw
  have h1 : (0 : Int) ≤ n := by simpa using hw.1
  have h2 : n ≤ 255 := by simpa using hw.2
  exact ⟨n.toNat, by omega, by rw [Int.toNat_of_nonneg h1]⟩
theorem reads_i64 {t : TypeId} (ht : P.underlying t = some (.int .i64)) (h : DataW.trod enc P w base spare held fuel t cs = some x) : ∃ n : Int, -9223372036854775808 ≤ n ∧ n ≤ 9223372036854775807 ∧ cs = [.int .i64 n] := by
  obtain ⟨n, rfl, _, hw⟩ := DataW.trod_int ht h
  simp only [Lit.wf, IntKind.min, IntKind.max, IntKind.signed, IntKind.bits, Bool.and_eq_true, decide_eq_true_eq] at hw
  exact ⟨n, by simpa using hw.1, by simpa using hw.2, rfl⟩
/-- an array of four words -/
theorem reads_num {t e : TypeId} (ht : P.underlying t = some (.array 4 e)) (he : P.underlying e = some (.int .u64)) (h4 : P.cellsOf t = 4) (h1 : P.cellsOf e = 1) (h : DataW.trod enc P w base spare held fuel t cs = some x) : ∃ n : Nat, n < B256 ∧ cs = numC n := by
  obtain ⟨xs, m, _, _, hl, hlen, hp⟩ := DataW.trod_array ht h
  rw [h4] at hl
  match cs, hl with
  | [c0, c1, c2, c3], _ =>
    have k : ∀ (i : Nat), i < 4 → ∃ y, DataW.trod enc P w base spare held m e (([c0, c1, c2, c3].drop (i * P.cellsOf e)).take (P.cellsOf e)) = some y := fun i hi => by
      have h2 := hp i hi
      rw [List.getElem?_eq_getElem (by omega)] at h2
      exact ⟨_, h2⟩
    rw [h1] at k
    obtain ⟨y0, k0⟩ := k 0 (by omega)
    obtain ⟨y1, k1⟩ := k 1 (by omega)
    obtain ⟨y2, k2⟩ := k 2 (by omega)
    obtain ⟨y3, k3⟩ := k 3 (by omega)
    obtain ⟨a0, b0, e0⟩ := reads_u64 he k0
    obtain ⟨a1, b1, e1⟩ := reads_u64 he k1
    obtain ⟨a2, b2, e2⟩ := reads_u64 he k2
    obtain ⟨a3, b3, e3⟩ := reads_u64 he k3
    simp at e0 e1 e2 e3
    subst e0 e1 e2 e3
    obtain ⟨w0, w1, w2, w3⟩ := wd_val4 b0 b1 b2 b3
    exact ⟨val4 a0 a1 a2 a3, val4_lt b0 b1 b2 b3, by rw [numC, w0, w1, w2, w3]⟩
theorem Seg.app {b o : Nat} {A B : List Value} (hA : Seg w b o A) (hB : Seg w b (o + A.length) B) : Seg w b o (A ++ B) := by
  intro i v hv
  rcases Nat.lt_or_ge i A.length with h | h
  · rw [List.getElem?_append_left h] at hv; exact hA i v hv
  · rw [List.getElem?_append_right h] at hv
    have := hB _ v hv
    rwa [show o + A.length + (i - A.length) = o + i by omega] at this
theorem seg_of_cells {b o n : Nat} {l : List Value} (h : w.cells? base ⟨b, o, none⟩ n = some l) : Seg w b o l := by
  obtain ⟨_, hl, hc⟩ := World.cells?_some h
  intro i v hv
  have hi : i < n := by
    rw [← hl]
    rcases Nat.lt_or_ge i l.length with h1 | h1
    · exact h1
    · rw [List.getElem?_eq_none h1] at hv; cases hv
  have := hc i hi
  rw [add_mk] at this
  rw [this, hv]
/-- a slice of elements that are read one by one -/
theorem reads_row {α : Type} {f : α → List Value} {ok : α → Prop} {t e : TypeId} {k : Nat} (ht : P.underlying t = some (.slice e)) (hk : P.cellsOf e = k) (hf : ∀ a, (f a).length = k)
    (hE : ∀ (fuel : Nat) (cs : List Value) (x : DataW H × List MemPlace), DataW.trod enc P w base spare held fuel e cs = some x → ∃ a, ok a ∧ cs = f a)
    (h : DataW.trod enc P w base spare held fuel t cs = some x) (hs : ∀ a l c, cs = [.slice (some a) l c] → a.spot = none) :
    ∃ pt xs c, cs = [.slice pt xs.length c] ∧ (∀ a ∈ xs, ok a) ∧ RdF f (.slice pt xs.length c) xs w := by
  rcases DataW.trod_slice ht h with ⟨rfl, _⟩ | ⟨a, len, cap, elems, rest, n, _, rfl, _, _, _, _, hlen, hel, _⟩
  · exact ⟨none, [], 0, rfl, by simp, none, 0, rfl, .inl ⟨rfl, rfl⟩⟩
  have ha := hs a len cap rfl
  obtain ⟨b, o, sp⟩ := a
  simp only at ha
  subst ha
  have key : ∀ m, m ≤ len → ∃ xs : List α, xs.length = m ∧ (∀ a ∈ xs, ok a) ∧ Seg w b o (xs.flatMap f) := by
    intro m
    induction m with
    | zero => exact fun _ => ⟨[], rfl, by simp, fun i v hv => by simp at hv⟩
    | succ m ih =>
      intro hm
      obtain ⟨xs, h1, h2, h3⟩ := ih (by omega)
      have h4 := hel m (by omega)
      rw [List.getElem?_eq_getElem (by omega), hk, add_mk] at h4
      cases h5 : w.cells? base ⟨b, o + m * k, none⟩ k with
      | none => rw [h5] at h4; cases h4
      | some l =>
        rw [h5] at h4
        obtain ⟨y, hy, rfl⟩ := hE n l _ h4
        refine ⟨xs ++ [y], by simp [h1], fun a ha => ?_, ?_⟩
        · rcases List.mem_append.1 ha with ha | ha
          · exact h2 a ha
          · obtain rfl := List.mem_singleton.1 ha; exact hy
        · rw [List.flatMap_append]
          refine h3.app ?_
          rw [flat_length hf, h1]
          simpa using seg_of_cells h5
  obtain ⟨xs, rfl, h2, h3⟩ := key len (Nat.le_refl _)
  exact ⟨some ⟨b, o, none⟩, xs, cap, rfl, h2, _, cap, rfl, .inr ⟨b, o, rfl, h3⟩⟩
/-- a slice in a cell of a struct that came in lies at no spot -/
theorem okWide_spot {r : Reach} {b0 : Nat} {t u e : TypeId} {cs : Array Value} {ts : List TypeId} {fs : Array Field} {i : Nat} (ht : P.underlying t = some (.struct fs)) (hts : P.cellTypes P.depth t = some ts) (hn : ts.length = P.cellsOf t)
    (hv : Value.okWide P w r b0 t (.agg cs)) (hu : ts[i]? = some u) (hue : P.underlying u = some (.slice e)) : ∀ a l c, cs[i]? = some (.slice (some a) l c) → a.spot = none := by
  intro a l c hc
  unfold Value.okWide at hv
  rw [ht] at hv
  obtain ⟨cs', h1, h2, ts', h3, _, h4⟩ := hv
  cases h1
  rw [hts] at h3
  cases h3
  obtain ⟨u', h5, h6⟩ := h4 i _ hc
  have hi : i < ts.length := by
    rcases Nat.lt_or_ge i ts.length with h | h
    · exact h
    · rw [List.getElem?_eq_none h] at hu; cases hu
  rw [Nat.mod_eq_of_lt hi, hu] at h5
  cases h5
  unfold Cell.okWide Cell.ok at h6
  rw [hue] at h6
  exact h6.2.2.2.1
end
end Sx
end Go.Proofs.YtakkmakilfodoaaGreat
