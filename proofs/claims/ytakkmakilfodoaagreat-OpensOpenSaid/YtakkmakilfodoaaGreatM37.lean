/- Part 37 of the proof: ReA, ReB, ReC, ReD, ReE, ReF, RfY -/
import Derived.Test.YtakkmakilfodoaaGreatM36
import Derived.Test.YtakkmakilfodoaaGreatM18
import Derived.Test.YtakkmakilfodoaaGreatM34
import Derived.Test.YtakkmakilfodoaaGreatM27
set_option linter.unusedSimpArgs false
set_option linter.unusedVariables false
/- The references' settings: balefireref15.key, Setting, Node. -/
namespace Go.Proofs.YtakkmakilfodoaaGreat
open Go Go.RowKit Go.BigFrame
namespace Sx
theorem wd0_lt {n : Nat} (h : n < 18446744073709551616) : wd 0 n = n := Nat.mod_eq_of_lt h
attribute [local irreducible] wd DQ DQS WO WC WX
theorem cut_key1 {N : List (Nat × Nat)} {o i : Nat} {k : Nat × Nat} (h : N[i]? = some k) : cut (N.flatMap keyC) (o + i * 8 - o) 4 = numC k.1 := by
  have := cut_flat keyC_len h
  rw [Nat.add_sub_cancel_left]
  unfold cut at *
  rw [show (4 : Nat) = min 4 8 by decide, ← List.take_take, this]
  rfl
theorem cut_key2 {N : List (Nat × Nat)} {o i : Nat} {k : Nat × Nat} (h : N[i]? = some k) : cut (N.flatMap keyC) (o + i * 8 + 4 - o) 4 = numC k.2 := by
  have := cut_flat keyC_len h
  rw [show o + i * 8 + 4 - o = i * 8 + 4 by omega]
  unfold cut at *
  rw [← List.drop_drop]
  have h2 : (List.drop 4 (List.drop (i * 8) (N.flatMap keyC))).take 4 = (List.take 8 (List.drop (i * 8) (N.flatMap keyC))).drop 4 := by
    rw [List.drop_take]
  rw [h2, this]
  rfl
theorem all_false {α : Type} {P : α → Bool} {xs : List α} {i : Nat} {x : α} (hx : xs[i]? = some x) (h : P x = false) : xs.all P = false := by
  rw [List.all_eq_false]; exact ⟨x, List.mem_of_getElem? hx, by simp [h]⟩
theorem all_true {α : Type} {P : α → Bool} {xs : List α} (h : ∀ j, j < xs.length → ∀ x, xs[j]? = some x → P x = true) : xs.all P = true := by
  rw [List.all_eq_true]
  intro x hx
  obtain ⟨j, hj⟩ := List.mem_iff_getElem?.1 hx
  exact h j (by rcases Nat.lt_or_ge j xs.length with h1 | h1; exact h1; rw [List.getElem?_eq_none h1] at hj; cases hj) x hj
section
variable (p q g h : Nat)
theorem r15_key (a : Nat) (ha : a < B256) (hp : p < B256) (hq : q < B256) : Fn Tryz.prog 65 [grpV p q g h, numV a] Tr (Is (.bool (kB p q a))) := by
  have hI := r8_In p q g h a ha hp hq
  unfold kB
  cases e : gIn p q a with
  | false =>
    rw [e] at hI
    rw [Bool.false_and]
    refine Fn.enter Tryz.func65 rfl rfl rfl ?_
    intro w hw
    repeat (first | refine Td ?_ | (refine Tm ?_; intro _) | refine WO.acall (hc := hI) (k := ?_) | refine Tc ?_ | exact Tz)
  | true =>
    rw [e] at hI
    rw [Bool.true_and]
    by_cases h1 : a = 1
    · rw [decide_eq_false (by omega : ¬ a ≠ 1)]
      refine Fn.enter Tryz.func65 rfl rfl rfl ?_
      intro w hw
      repeat (first | refine Td ?_ | (refine Tm ?_; intro _) | refine WO.acall (hc := hI) (k := ?_) | refine WO.does (does_buildA (cs := numC 1) rfl rfl (by kernel_rfl)) ?_ | refine WO.does a_neqNum ?_ | refine Tc ?_ | exact Tz)
    · rw [decide_eq_true (by omega : a ≠ 1)]
      refine Fn.enter Tryz.func65 rfl rfl rfl ?_
      intro w hw
      repeat (first | refine Td ?_ | (refine Tm ?_; intro _) | refine WO.acall (hc := hI) (k := ?_) | refine WO.does (does_buildA (cs := numC 1) rfl rfl (by kernel_rfl)) ?_ | refine WO.does a_neqNum ?_ | refine Tc ?_ | exact Tz)
set_option maxHeartbeats 4000000 in
theorem r15_Setting (f sec : Int) (pt : Option Addr) (c : Nat) (N : List (Nat × Nat)) (hp : p < B256) (hq : q < B256) (hg : g < B256) (hh : h < B256) (hN : NumsOk N) (hNl : N.length ≤ 1099511627776)
    (hf1 : -9223372036854775808 ≤ f) (hf2 : f ≤ 9223372036854775807) (hs1 : -9223372036854775808 ≤ sec) (hs2 : sec ≤ 9223372036854775807) :
    Fn Tryz.prog 27 [stV p q g h f sec (.slice pt N.length c)] (RdK (.slice pt N.length c) N) (Is (.bool (setB p q g h f sec N))) := by
  by_cases t1 : f < 0
  · rw [show setB p q g h f sec N = false by simp [setB]; omega]
    refine Fn.enter Tryz.func27 rfl rfl rfl ?_
    intro w hw
    repeat (first | refine Td ?_ | (refine Tm ?_; intro _) | refine Tc ?_ | exact Tz)
  by_cases t2 : 2 < f
  · rw [show setB p q g h f sec N = false by simp [setB]; omega]
    refine Fn.enter Tryz.func27 rfl rfl rfl ?_
    intro w hw
    repeat (first | refine Td ?_ | (refine Tm ?_; intro _) | refine Tc ?_ | exact Tz)
  by_cases t3 : sec < 1
  · rw [show setB p q g h f sec N = false by simp [setB]; omega]
    refine Fn.enter Tryz.func27 rfl rfl rfl ?_
    intro w hw
    repeat (first | refine Td ?_ | (refine Tm ?_; intro _) | refine Tc ?_ | exact Tz)
  by_cases t4 : 3 < sec
  · rw [show setB p q g h f sec N = false by simp [setB]; omega]
    refine Fn.enter Tryz.func27 rfl rfl rfl ?_
    intro w hw
    repeat (first | refine Td ?_ | (refine Tm ?_; intro _) | refine Tc ?_ | exact Tz)
  by_cases t4' : f + 1 < sec
  · rw [show setB p q g h f sec N = false by simp [setB]; omega]
    refine Fn.enter Tryz.func27 rfl rfl rfl ?_
    intro w hw
    repeat (first | refine Td ?_ | (refine Tm ?_; intro _) | refine Tc ?_ | exact Tz)
  by_cases t5 : (N.length : Int) < 3 * f + 1
  · rw [show setB p q g h f sec N = false by simp [setB]; omega]
    refine Fn.enter Tryz.func27 rfl rfl rfl ?_
    intro w hw
    repeat (first | refine Td ?_ | (refine Tm ?_; intro _) | refine Tc ?_ | exact Tz)
  by_cases t6 : 7 < (N.length : Int)
  · rw [show setB p q g h f sec N = false by simp [setB]; omega]
    refine Fn.enter Tryz.func27 rfl rfl rfl ?_
    intro w hw
    repeat (first | refine Td ?_ | (refine Tm ?_; intro _) | refine Tc ?_ | exact Tz)
  obtain ⟨m, hm⟩ : ∃ m : Nat, (m : Int) = (N.length : Int) + sec := ⟨((N.length : Int) + sec).toNat, by omega⟩
  have hadd : IntKind.i64.wrap ((N.length : Int) + sec) = (m : Int) := i64_in' (by omega) (by omega) (by omega)
  have hcv : IntKind.u64.wrap (m : Int) = (m : Int) := u64_in (by omega) (by omega)
  have hSB : setB p q g h f sec N = (decide (m < q) && (kB p q g && kB p q h) && N.all (fun k => kB p q k.1 && kB p q k.2)) := by
    have e1 : decide ((N.length : Int) + sec < (q : Int)) = decide (m < q) := by rw [← hm]; simp
    unfold setB
    rw [e1, decide_eq_true (by omega : 0 ≤ f), decide_eq_true (by omega : f ≤ 2), decide_eq_true (by omega : 1 ≤ sec), decide_eq_true (by omega : sec ≤ 3), decide_eq_true (by omega : sec ≤ f + 1), decide_eq_true (by omega : 3 * f + 1 ≤ (N.length : Int)), decide_eq_true (by omega : (N.length : Int) ≤ 7)]
    simp only [Bool.true_and, Bool.and_assoc]
  rw [hSB]
  clear hSB
  have hwp := word_parts hq
  have hm32 : m < 18446744073709551616 := by omega
  by_cases t7 : m < q
  · rw [decide_eq_true t7, Bool.true_and]
    have hK1 := r15_key p q g h g hg hp hq
    have hK2 := r15_key p q g h h hh hp hq
    have hKs := fun a (ha : a < B256) => r15_key p q g h a ha hp hq
    refine Fn.enter Tryz.func27 rfl rfl rfl ?_
    intro w hw
    obtain ⟨pt', c', e, hpc⟩ := hw
    cases e
    rcases hpc with ⟨_, h0⟩ | ⟨b, o, rfl, hs⟩
    · rw [h0] at t5; simp at t5; omega
    refine WC.seq ?_
    repeat (first | refine Tf ?_ | (refine Tm ?_; intro _) | refine Tc ?_ | exact Tz)
    refine WX.seq ?_
    refine WC.seq ?_
    repeat (first | refine Tf ?_ | (refine Tm ?_; intro _) | refine Tc ?_ | exact Tz)
    refine WX.seq ?_
    refine WC.seq ?_
    refine WC.seq ?_
    repeat (first | refine Tf ?_ | (refine Tm ?_; intro _) | refine Tc ?_ | exact Tz)
    refine WX.seq ?_
    repeat (first | refine Tf ?_ | (refine Tm ?_; intro _) | refine Tc ?_ | exact Tz)
    refine WX.seq ?_
    refine WC.seq ?_
    repeat (first | refine Tf ?_ | (refine Tm ?_; intro _) | refine Tc ?_ | exact Tz)
    rename_i g1 g4
    refine WX.seq ?_
    refine WC.joinI (σ := Unit) (fun _ => True) (fun _ => [(1, pt g1), (2, .bool false), (3, .int .i64 (N.length : Int))]) (fun _ => [⟨g1, 29, stC p q g h f sec (.slice (some ⟨b, o, none⟩) N.length c)⟩]) ?_ (fun _ hTr => ?_)
    · clear hK1 hK2 hKs
      by_cases w1 : wd 1 q = 0
      · have d1 : ((wd 1 q : Nat) : Int) = 0 := by omega
        by_cases w2 : wd 2 q = 0
        · have d2 : ((wd 2 q : Nat) : Int) = 0 := by omega
          by_cases w3 : wd 3 q = 0
          · have d3 : ((wd 3 q : Nat) : Int) = 0 := by omega
            have w0 : wd 0 q = q := wd0_lt (hwp.2 ⟨w1, w2, w3⟩)
            have d0 : ¬ ((wd 0 q : Nat) : Int) ≤ (m : Int) := by omega
            clear w1 w2 w3 w0 hwp
            repeat (first | refine Td ?_ | (refine Tm ?_; intro _) | refine WO.does (does_add rfl rfl hadd) ?_ | refine WO.does (does_conv rfl hcv) ?_ | refine Tc ?_ | exact Tz)
            exact WX.metI () (hs := trivial)
          · have d3 : ¬ ((wd 3 q : Nat) : Int) = 0 := by omega
            repeat (first | refine Td ?_ | (refine Tm ?_; intro _) | refine Tc ?_ | exact Tz)
            exact WX.metI () (hs := trivial)
        · have d2 : ¬ ((wd 2 q : Nat) : Int) = 0 := by omega
          repeat (first | refine Td ?_ | (refine Tm ?_; intro _) | refine Tc ?_ | exact Tz)
          exact WX.metI () (hs := trivial)
      · have d1 : ¬ ((wd 1 q : Nat) : Int) = 0 := by omega
        repeat (first | refine Td ?_ | (refine Tm ?_; intro _) | refine Tc ?_ | exact Tz)
        exact WX.metI () (hs := trivial)
    clear hTr hadd hcv hm hwp hm32 t7 m
    cases e1 : kB p q g with
    | false =>
      rw [e1] at hK1
      rw [Bool.false_and, Bool.false_and]
      repeat (first | refine Ta ?_ | (refine Tm ?_; intro _) | refine WO.acall (hc := hK1) (k := ?_) | refine Tc ?_ | exact Tz)
    | true =>
    rw [e1] at hK1
    cases e2 : kB p q h with
    | false =>
      rw [e2] at hK2
      rw [Bool.and_false, Bool.false_and]
      repeat (first | refine Ta ?_ | (refine Tm ?_; intro _) | refine WO.acall (hc := hK1) (k := ?_) | refine WO.acall (hc := hK2) (k := ?_) | refine Tc ?_ | exact Tz)
    | true =>
    rw [e2] at hK2
    rw [Bool.true_and, Bool.true_and]
    repeat (first | refine Ta ?_ | (refine Tm ?_; intro _) | refine WO.acall (hc := hK1) (k := ?_) | refine WO.acall (hc := hK2) (k := ?_) | refine Tc ?_ | exact Tz)
    refine WC.loopI (σ := Nat) (fun i => i ≤ N.length ∧ ∀ j, j < i → ∀ x, N[j]? = some x → (kB p q x.1 && kB p q x.2) = true) (fun i => [(1, pt g1), (2, .bool false), (3, .int .i64 (N.length : Int)), (5, .int .i64 (i : Int))]) (fun _ => [⟨g1, 29, stC p q g h f sec (.slice (some ⟨b, o, none⟩) N.length c)⟩]) (fun i => N.length - i) 0 (fun i hi => ?_) ⟨Nat.zero_le _, fun j hj => by omega⟩
    try dsimp only at hi ⊢
    obtain ⟨hi, h0⟩ := hi
    by_cases hlt : i < N.length
    · obtain ⟨k, hx⟩ : ∃ k, N[i]? = some k := ⟨_, List.getElem?_eq_getElem hlt⟩
      have hkb := hN k (List.mem_of_getElem? hx)
      have hk1 := hKs k.1 hkb.1
      have hk2 := hKs k.2 hkb.2
      clear hK1 hK2 hKs
      cases q1 : kB p q k.1 with
      | false =>
        rw [all_false (P := fun k => kB p q k.1 && kB p q k.2) hx (by simp [q1])]
        rw [q1] at hk1
        repeat (first | refine Ta ?_ | (refine Tm ?_; intro _) | refine Tc ?_ | exact Tz)
        refine WC.dT rfl (by omega) ?_
        repeat (first | refine Ta ?_ | (refine Tm ?_; intro _) | refine Tc ?_ | exact Tz)
        refine WC.adraw 22 (k := ?_)
        iterate 22 (first | refine Da ?_ | refine DQ.does (fun s _ => does_indexSlice (o' := o + i * 8) rfl rfl hlt rfl) Dp.const ?_ | refine DQ.does (fun s _ => a_loadF (vs := numC k.1) (hs := hs) (hle := by omega) (hc := cut_key1 hx)) Dp.const ?_ | refine DQ.does (fun s _ => a_loadF (vs := numC k.2) (hs := hs) (hle := by omega) (hc := cut_key2 hx)) Dp.const ?_ | refine DQ.acall (hc := hk1) (k := ?_) | refine DQ.acall (hc := hk2) (k := ?_) | refine Dc ?_)
        refine DQ.anil (k := ?_)
        intro sx _
        repeat (first | refine Ta ?_ | (refine Tm ?_; intro _) | refine Tc ?_ | exact Tz)
      | true =>
        rw [q1] at hk1
        cases q2 : kB p q k.2 with
        | false =>
          rw [all_false (P := fun k => kB p q k.1 && kB p q k.2) hx (by simp [q2])]
          rw [q2] at hk2
          repeat (first | refine Ta ?_ | (refine Tm ?_; intro _) | refine Tc ?_ | exact Tz)
          refine WC.dT rfl (by omega) ?_
          repeat (first | refine Ta ?_ | (refine Tm ?_; intro _) | refine Tc ?_ | exact Tz)
          refine WC.adraw 22 (k := ?_)
          iterate 22 (first | refine Da ?_ | refine DQ.does (fun s _ => does_indexSlice (o' := o + i * 8) rfl rfl hlt rfl) Dp.const ?_ | refine DQ.does (fun s _ => a_loadF (vs := numC k.1) (hs := hs) (hle := by omega) (hc := cut_key1 hx)) Dp.const ?_ | refine DQ.does (fun s _ => a_loadF (vs := numC k.2) (hs := hs) (hle := by omega) (hc := cut_key2 hx)) Dp.const ?_ | refine DQ.acall (hc := hk1) (k := ?_) | refine DQ.acall (hc := hk2) (k := ?_) | refine Dc ?_)
          refine DQ.anil (k := ?_)
          intro sx _
          repeat (first | refine Ta ?_ | (refine Tm ?_; intro _) | refine Tc ?_ | exact Tz)
        | true =>
          rw [q2] at hk2
          repeat (first | refine Ta ?_ | (refine Tm ?_; intro _) | refine Tc ?_ | exact Tz)
          refine WC.dT rfl (by omega) ?_
          repeat (first | refine Ta ?_ | (refine Tm ?_; intro _) | refine Tc ?_ | exact Tz)
          refine WC.adraw 22 (k := ?_)
          iterate 22 (first | refine Da ?_ | refine DQ.does (fun s _ => does_indexSlice (o' := o + i * 8) rfl rfl hlt rfl) Dp.const ?_ | refine DQ.does (fun s _ => a_loadF (vs := numC k.1) (hs := hs) (hle := by omega) (hc := cut_key1 hx)) Dp.const ?_ | refine DQ.does (fun s _ => a_loadF (vs := numC k.2) (hs := hs) (hle := by omega) (hc := cut_key2 hx)) Dp.const ?_ | refine DQ.acall (hc := hk1) (k := ?_) | refine DQ.acall (hc := hk2) (k := ?_) | refine Dc ?_)
          refine DQ.anil (k := ?_)
          intro sx _
          repeat (first | refine Ta ?_ | (refine Tm ?_; intro _) | refine Tc ?_ | exact Tz)
          refine WX.metI (i + 1) (hs := ⟨⟨by show i + 1 ≤ N.length; omega, fun j hj y hy => by
            rcases Nat.lt_or_ge j i with h | h
            · exact h0 j h y hy
            · have : j = i := by omega
              subst this
              rw [hx] at hy; cases hy; rw [q1, q2]; rfl⟩, by show N.length - (i + 1) < N.length - i; omega⟩)
    · have hi2 : i = N.length := by omega
      rw [all_true (xs := N) (P := fun k => kB p q k.1 && kB p q k.2) (by rw [← hi2]; exact h0)]
      repeat (first | refine Ta ?_ | (refine Tm ?_; intro _) | refine Tc ?_ | exact Tz)
      refine WC.dF rfl (by omega) ?_
      repeat (first | refine Ta ?_ | (refine Tm ?_; intro _) | refine Tc ?_ | exact Tz)
  · rw [decide_eq_false t7, Bool.false_and, Bool.false_and]
    obtain ⟨w1, w2, w3⟩ := hwp.1 (by omega)
    have w0 : wd 0 q = q := wd0_lt (by omega)
    have d1 : ((wd 1 q : Nat) : Int) = 0 := by omega
    have d2 : ((wd 2 q : Nat) : Int) = 0 := by omega
    have d3 : ((wd 3 q : Nat) : Int) = 0 := by omega
    have d0 : ((wd 0 q : Nat) : Int) ≤ (m : Int) := by omega
    clear w1 w2 w3 w0 hwp
    refine Fn.enter Tryz.func27 rfl rfl rfl ?_
    intro w hw
    repeat (first | refine Td ?_ | (refine Tm ?_; intro _) | refine WO.does (does_add rfl rfl hadd) ?_ | refine WO.does (does_conv rfl hcv) ?_ | refine Tc ?_ | exact Tz)
end
end Sx
end Go.Proofs.YtakkmakilfodoaaGreat

/- The references' settings and draws: balefireref15.Node, About, Draw; opens.node. -/
namespace Go.Proofs.YtakkmakilfodoaaGreat
open Go Go.RowKit Go.BigFrame
namespace Sx
attribute [local irreducible] wd DQ DQS WO WC WX
/-- is it a node? -/
def nodeB (n : Nat) (N : List (Nat × Nat)) : Bool := decide (1 ≤ n) && decide (n ≤ N.length)
section
variable (p q g h : Nat) (f sec : Int) (pt : Option Addr) (c : Nat) (N : List (Nat × Nat))
theorem r15_Node (n : Nat) (hn : n < 256) (hNl : N.length ≤ 1099511627776) : Fn Tryz.prog 28 [stV p q g h f sec (.slice pt N.length c), .int .u8 (n : Int)] Tr (Is (.bool (nodeB n N))) := by
  have hcv : IntKind.i64.wrap (n : Int) = (n : Int) := i64_in (by omega) (by omega)
  unfold nodeB
  by_cases h1 : 1 ≤ n
  · rw [decide_eq_true h1, Bool.true_and]
    have d1 : decide ((1 : Int) ≤ (n : Int)) = true := decide_eq_true (by omega)
    have d2 : decide ((n : Int) ≤ (N.length : Int)) = decide (n ≤ N.length) := by simp
    refine Fn.enter Tryz.func28 rfl rfl rfl ?_
    intro w hw
    repeat (first | refine Ta ?_ | (refine Tm ?_; intro _) | refine Tc ?_ | exact Tz)
    rw [d1]
    repeat (first | refine Ta ?_ | (refine Tm ?_; intro _) | refine WO.does (does_conv rfl hcv) ?_ | refine Tc ?_ | exact Tz)
    rw [d2]
    repeat (first | refine Ta ?_ | (refine Tm ?_; intro _) | refine Tc ?_ | exact Tz)
  · rw [decide_eq_false h1, Bool.false_and]
    have d1 : decide ((1 : Int) ≤ (n : Int)) = false := decide_eq_false (by omega)
    refine Fn.enter Tryz.func28 rfl rfl rfl ?_
    intro w hw
    repeat (first | refine Ta ?_ | (refine Tm ?_; intro _) | refine Tc ?_ | exact Tz)
    rw [d1]
    repeat (first | refine Ta ?_ | (refine Tm ?_; intro _) | refine Tc ?_ | exact Tz)
theorem c_node (n : Nat) (hn : n < 256) (hNl : N.length ≤ 1099511627776) : Fn Tryz.prog 17 [stV p q g h f sec (.slice pt N.length c), .int .u8 (n : Int)] Tr (Is (.bool (nodeB n N))) := by
  have hcv : IntKind.i64.wrap (n : Int) = (n : Int) := i64_in (by omega) (by omega)
  unfold nodeB
  by_cases h1 : 1 ≤ n
  · rw [decide_eq_true h1, Bool.true_and]
    have d1 : decide ((1 : Int) ≤ (n : Int)) = true := decide_eq_true (by omega)
    have d2 : decide ((n : Int) ≤ (N.length : Int)) = decide (n ≤ N.length) := by simp
    refine Fn.enter Tryz.func17 rfl rfl rfl ?_
    intro w hw
    repeat (first | refine Ta ?_ | (refine Tm ?_; intro _) | refine Tc ?_ | exact Tz)
    rw [d1]
    repeat (first | refine Ta ?_ | (refine Tm ?_; intro _) | refine WO.does (does_conv rfl hcv) ?_ | refine Tc ?_ | exact Tz)
    rw [d2]
    repeat (first | refine Ta ?_ | (refine Tm ?_; intro _) | refine Tc ?_ | exact Tz)
  · rw [decide_eq_false h1, Bool.false_and]
    have d1 : decide ((1 : Int) ≤ (n : Int)) = false := decide_eq_false (by omega)
    refine Fn.enter Tryz.func17 rfl rfl rfl ?_
    intro w hw
    repeat (first | refine Ta ?_ | (refine Tm ?_; intro _) | refine Tc ?_ | exact Tz)
    rw [d1]
    repeat (first | refine Ta ?_ | (refine Tm ?_; intro _) | refine Tc ?_ | exact Tz)
end
end Sx
end Go.Proofs.YtakkmakilfodoaaGreat

/- The references' secrets: balefireref15.About, balefireref16.secret; opens.secret, of. -/
namespace Go.Proofs.YtakkmakilfodoaaGreat
open Go Go.RowKit Go.BigFrame
namespace Sx
attribute [local irreducible] wd DQ DQS WO WC WX
/-- whose share something is for -/
def abL (ep d n : Nat) : List Nat := be 8 ep ++ be 1 d ++ be 1 n
theorem abL_length (ep d n : Nat) : (abL ep d n).length = 10 := by unfold abL; simp only [List.length_append, be_length]
theorem r15_About (ep d n : Nat) (he : ep < 18446744073709551616) (hd : d < 256) (hn : n < 256) : Fn Tryz.prog 34 [.int .u64 (ep : Int), .int .u8 (d : Int), .int .u8 (n : Int)] Tr (NewZ 5 (abL ep d n)) := by
  have p0 := r_Put [] ep 8 0 none (by decide) (by decide) he (by decide)
  have p1 := fun g c => r_Put (be 8 ep) d 1 c (some ⟨g, 0, none⟩) (by decide) (by decide) (by omega) (by rw [be_length]; decide)
  have p2 := fun g c => r_Put (be 8 ep ++ be 1 d) n 1 c (some ⟨g, 0, none⟩) (by decide) (by decide) (by omega) (by simp only [List.length_append, be_length]; decide)
  rw [List.nil_append] at p0
  have hc1 : IntKind.u64.wrap (d : Int) = (d : Int) := u64_in (by omega) (by omega)
  have hc2 : IntKind.u64.wrap (n : Int) = (n : Int) := u64_in (by omega) (by omega)
  unfold abL
  generalize be 8 ep ++ be 1 d ++ be 1 n = X2 at *
  generalize be 8 ep ++ be 1 d = X1 at *
  generalize be 8 ep = X0 at *
  refine Fn.enter Tryz.func34 rfl rfl rfl ?_
  intro w hw
  repeat (first | refine Ta ?_ | (refine Tm ?_; intro _) | refine Tc ?_ | exact Tz)
  refine WO.acallZ (hc := p0) (hR := fun w1 hm => Rd.nil) (hm := rfl) (k := fun g1 c1 R1 a1 b1 => ?_)
  repeat (first | refine Ta ?_ | (refine Tm ?_; intro _) | refine WO.does (does_conv rfl hc1) ?_ | refine Tc ?_ | exact Tz)
  refine WO.acallZ (hc := p1 g1 c1) (hR := fun w1 hm => rd_ownZ hm Hs.here a1 b1) (hm := rfl) (k := fun g2 c2 R2 a2 b2 => ?_)
  repeat (first | refine Ta ?_ | (refine Tm ?_; intro _) | refine WO.does (does_conv rfl hc2) ?_ | refine Tc ?_ | exact Tz)
  refine WO.acallZ (hc := p2 g2 c2) (hR := fun w1 hm => rd_ownZ hm Hs.here a2 b2) (hm := rfl) (k := fun g3 c3 R3 a3 b3 => ?_)
  repeat (first | refine Ta ?_ | (refine Tm ?_; intro _) | refine Tc ?_ | exact Tz)
  exact WX.retZ a3 b3 rfl
/-- is x the secret of a key? -/
def secB (p q h x key : Nat) : Bool := mayN x x q && gMay p h && decide (h ^ x % p = key)
section
variable (p q g h : Nat)
theorem okV_true (r : Nat) : okV true r = r := rfl
theorem pow_lt {p h x : Nat} (hm : gMay p h = true) : h ^ x % p < p := Nat.mod_lt _ (by have := (gMay_spec hm).1; omega)
theorem c_osecret (x key : Nat) (hx : x < B256) (hk : key < B256) (hp : p < B256) (hq : q < B256) (hh : h < B256) : Fn Tryz.prog 18 [grpV p q g h, numV x, numV key] Tr (Is (.bool (secB p q h x key))) := by
  have hA := c_SAdd p q g h x x hx hx hq
  have hE := c_gExp p q g h h x hh hx hp
  unfold secB
  cases e1 : mayN x x q with
  | false =>
    rw [e1] at hA
    rw [Bool.false_and, Bool.false_and]
    generalize (x + x) % q = R at *
    refine Fn.enter Tryz.func18 rfl rfl rfl ?_
    intro w hw
    repeat (first | refine Ta ?_ | (refine Tm ?_; intro _) | refine WO.acall (hc := hA) (k := ?_) | refine WO.acall (hc := hE) (k := ?_) | refine Tc ?_ | exact Tz)
  | true =>
    rw [e1] at hA
    cases e2 : gMay p h with
    | false =>
      rw [e2] at hE
      rw [Bool.and_false, Bool.false_and]
      generalize (x + x) % q = R at *
      generalize h ^ x % p = R' at *
      refine Fn.enter Tryz.func18 rfl rfl rfl ?_
      intro w hw
      repeat (first | refine Ta ?_ | (refine Tm ?_; intro _) | refine WO.acall (hc := hA) (k := ?_) | refine WO.acall (hc := hE) (k := ?_) | refine Tc ?_ | exact Tz)
    | true =>
      rw [e2] at hE
      have hl : h ^ x % p < B256 := Nat.lt_trans (pow_lt e2) hp
      rw [Bool.true_and, Bool.true_and]
      simp only [rE, okV_true] at hA hE
      generalize (x + x) % q = R at *
      generalize h ^ x % p = R' at *
      refine Fn.enter Tryz.func18 rfl rfl rfl ?_
      intro w hw
      repeat (first | refine Ta ?_ | (refine Tm ?_; intro _) | refine WO.acall (hc := hA) (k := ?_) | refine WO.acall (hc := hE) (k := ?_) | refine WO.does a_eqNum ?_ | refine Tc ?_ | exact Tz)
end
end Sx
end Go.Proofs.YtakkmakilfodoaaGreat

/- balefireref16.secret; opens.of. -/
namespace Go.Proofs.YtakkmakilfodoaaGreat
open Go Go.RowKit Go.BigFrame
namespace Sx
attribute [local irreducible] wd DQ DQS WO WC WX
section
variable (p q g h : Nat)
theorem okV_no (r : Nat) : okV false r = 0 := rfl
theorem r16_secret (x key : Nat) (hx : x < B256) (hk : key < B256) (hp : p < B256) (hq : q < B256) (hh : h < B256) : Fn Tryz.prog 29 [grpV p q g h, numV x, numV key] Tr (Is (.bool (mayN x x q && decide (okV (gMay p h) (h ^ x % p) = key)))) := by
  have hA := r9_Add p q g h x x hx hx hq
  have hE := r8_Exp p q g h h x hh hx hp
  have hl : okV (gMay p h) (h ^ x % p) < B256 := by
    cases e2 : gMay p h with
    | false => rw [okV_no]; exact B256_zero
    | true => rw [okV_true]; exact Nat.lt_trans (pow_lt e2) hp
  cases e1 : mayN x x q with
  | false =>
    rw [e1] at hA
    rw [Bool.false_and]
    generalize (x + x) % q = R at *
    refine Fn.enter Tryz.func29 rfl rfl rfl ?_
    intro w hw
    repeat (first | refine Ta ?_ | (refine Tm ?_; intro _) | refine WO.acall (hc := hA) (k := ?_) | refine WO.acall (hc := hE) (k := ?_) | refine Tc ?_ | exact Tz)
  | true =>
    rw [e1] at hA
    rw [Bool.true_and]
    simp only [rE] at hA hE
    generalize (x + x) % q = R at *
    generalize okV (gMay p h) (h ^ x % p) = R' at *
    generalize okE (gMay p h) = E' at *
    refine Fn.enter Tryz.func29 rfl rfl rfl ?_
    intro w hw
    repeat (first | refine Ta ?_ | (refine Tm ?_; intro _) | refine WO.acall (hc := hA) (k := ?_) | refine WO.acall (hc := hE) (k := ?_) | refine WO.does a_eqNum ?_ | refine Tc ?_ | exact Tz)
end
end Sx
end Go.Proofs.YtakkmakilfodoaaGreat

/- balefireref15.Draw -/
namespace Go.Proofs.YtakkmakilfodoaaGreat
open Go Go.RowKit Go.BigFrame
namespace Sx
attribute [local irreducible] wd DQ DQS WO WC WX
def sDraw : ByteArray := ⟨#[100, 114, 97, 119]⟩
/-- what is drawn -/
def drawN (q x : Nat) (H : List Nat) : Nat := if hNum q (strB sDraw) [be 32 x, H] = 0 then 1 else hNum q (strB sDraw) [be 32 x, H]
section
variable (p q g h : Nat)
set_option maxHeartbeats 2000000 in
theorem r15_Draw (x : Nat) (H : List Nat) (hx : x < B256) (hq : q < B256) (h0 : 0 < q) (hH : ∀ b ∈ H, b < 256) (hl : H.length = 32) : Fn Tryz.prog 37 [grpV p q g h, numV x, .agg (byC H).toArray] Tr (Is (numV (drawN q x H))) := by
  have hP := r_PutLong [] x 0 none (by decide)
  rw [List.nil_append] at hP
  have hN := fun g3 c3 g5 gR => r6_Number q sDraw [.slice (some ⟨g3, 0, none⟩) 32 c3, .slice (some ⟨g5, 0, none⟩) 32 32] [be 32 x, H] gR 0 2 hq h0 (by
    intro X hX
    simp only [List.mem_cons, List.not_mem_nil, or_false] at hX
    rcases hX with rfl | rfl
    · exact be_lt
    · exact hH) (by
    simp only [hBytes, hHead, hBody, List.flatMap_cons, List.flatMap_nil, List.length_append, be_length, strB_length, List.length_nil, hl]
    decide) (by simp)
  have hlt : hNum q (strB sDraw) [be 32 x, H] < B256 := Nat.lt_trans (Nat.mod_lt _ h0) hq
  unfold drawN
  generalize hNum q (strB sDraw) [be 32 x, H] = R at *
  have hbl : (be 32 x).length = 32 := be_length _ _
  have hbH : (byC H).length = 32 := by rw [byC_length, hl]
  refine Fn.enter Tryz.func37 rfl rfl rfl ?_
  intro w hw
  repeat (first | refine Ta ?_ | (refine Tm ?_; intro _) | refine Tc ?_ | exact Tz)
  rename_i g3 g4 g5 g6
  refine WC.adrawF [9] 11 (k := ?_)
  iterate 3 (refine DQ.auto (k := ?_))
  refine DQ.acallZ (hc := hP) (hR := fun _ => Rd.nil) (hX := by rw [hbl]; decide) (k := ?_)
  refine DQ.does (v := fun _ => .slice (some ⟨g5, 0, none⟩) 32 32) (fun s _ => does_sliceA rfl) Dp.const ?_
  rw [hbl]
  refine DQ.makes (vf := fun _ g => .slice (some ⟨g, 0, none⟩) 2 2) (t := 66) (cs := fun s => [.slice (some ⟨s 3 0, 0, none⟩) 32 (s 3 1), .slice (some ⟨g5, 0, none⟩) 32 32]) (fun s _ => makes_build rfl (by decide) rfl) Dp.const (by intro s s' h; dsimp only; rw [h] <;> decide +kernel) ?_
  refine DQ.callE (v := fun _ => .tuple #[numV R, .int .i64 0]) (fun s => [⟨s 5 0, 66, [.slice (some ⟨s 3 0, 0, none⟩) 32 (s 3 1), .slice (some ⟨g5, 0, none⟩) 32 32]⟩, ⟨s 3 0, 5, byC (be 32 x ++ rz (s 3))⟩]) (fun s => .cons 5 (.head _) (by decide +kernel) (.cons 3 (by repeat (first | exact .head _ | apply List.Mem.tail)) (by decide +kernel) .nil)) (fun s _ => hN (s 3 0) (s 3 1) g5 (s 5 0)) (fun s => rfl) (fun s hC w hm => ⟨Hs.seg Hs.here hm, Parts.cons (RdP.own (g := s 3 0) (c := s 3 1) (X := be 32 x) (r := byC (rz (s 3))) (t := 5) hm (by rw [← byC_append]; exact Hs.there Hs.here) (by have h1 : (be 32 x ++ rz (s 3)).length = s 3 1 := hC.2.1; rw [List.length_append] at h1; omega) hC.2.2) (Parts.cons (by have := RdP.own0 (g := g5) (c := 32) (X := H) (t := 64) hm (by repeat (first | exact Hs.here | apply Hs.there)) (by omega) (by decide); rw [hl] at this; exact this) Parts.nil)⟩) Dp.const ?_
  repeat (first | refine Da ?_ | refine Df ?_)
  refine DQ.anil (k := ?_)
  intro sx _
  repeat (first | refine Ta ?_ | (refine Tm ?_; intro _) | refine WO.does a_eqNum ?_ | refine Tc ?_ | exact Tz)
  by_cases hR : R = 0
  · have d : decide (R = 0) = true := decide_eq_true hR
    rw [if_pos hR, d]
    repeat (first | refine Ta ?_ | (refine Tm ?_; intro _) | refine WO.does (does_buildA (cs := numC 1) rfl rfl (by kernel_rfl)) ?_ | refine Tc ?_ | exact Tz)
  · have d : decide (R = 0) = false := decide_eq_false hR
    rw [if_neg hR, d]
    repeat (first | refine Ta ?_ | (refine Tm ?_; intro _) | refine Tc ?_ | exact Tz)
end
end Sx
end Go.Proofs.YtakkmakilfodoaaGreat

/- opens.draw -/
namespace Go.Proofs.YtakkmakilfodoaaGreat
open Go Go.RowKit Go.BigFrame
namespace Sx
attribute [local irreducible] wd DQ DQS WO WC WX
section
open Kp
variable {P : Program} {w0 : World} {gs : List Nat} {n : Nat} {fl : List Nat} {Q : Exit → Act → World → Prop} {ops : List Oper} {L0 : List Ent}
variable {tail rest : List Oper} {i : Nat} {C : Nums → Prop} {K : Nums → List (Nat × Value)} {N : Nums → List (Nat × Ent)}
variable {d : Nat} {op : Op} {ty : TypeId} {pos : String} {after : Array Edge} {gd : Option (Nat × Bool)}
theorem DQ.acallS {f : FuncId} [Cal P f] {xs : Array Operand} {ats : Array TypeId} {vs : List Value} {Rq : World → Prop} {t m : Nat} {cs : List Value} (hc : Fn P f vs Rq (NewS t m cs)) (hR : ∀ w, Rq w) (ha : ∀ s, evs (K s) xs.toList = some vs := by (intro s; rfl))
    (k : DQ P w0 gs n fl Q ops L0 tail (i + 1) rest (fun s => C s ∧ True) (fun s => (d, .slice (some ⟨s i 0, 0, none⟩) m m) :: K s) (fun s => (i, ⟨s i 0, t, cs⟩) :: N s))
    (hfl : fl.contains i = false := by rfl) (hw : ∀ s, wk ops (K s) gd = some true := by intro _; rfl) (hd : Nat.blt d n = true := by rfl) :
    DQ P w0 gs n fl Q ops L0 tail i (⟨some d, .call { callee := .value (.func f), args := xs, argTypes := ats }, ty, pos, after, gd⟩ :: rest) C K N :=
  DQ.callsE (fs := fun _ => []) (cs := fun _ => []) (R := fun _ => Rq) (vf := fun _ x => .slice (some ⟨x 0, 0, none⟩) m m) (Nf := fun _ x => [⟨x 0, t, cs⟩]) (S := fun _ _ => True) (fun _ => []) (fun _ => .nil)
    (fun _ => ⟨fun _ => 0, trivial⟩) (fun _ _ => Fn.weak hc (fun _ h => h) (fun v N ⟨g, e1, e2⟩ => ⟨fun _ => g, e1, e2, trivial⟩)) (fun _ => rfl) ha (fun _ => by simp) (fun _ _ w _ => hR w) Dp.const Dp.const Dp.const k hfl hw hd
end
section
variable (p q g h : Nat)
set_option maxHeartbeats 2000000 in
theorem c_odraw (x : Nat) (H : List Nat) (hx : x < B256) (hq : q < B256) (h0 : 0 < q) (hH : ∀ b ∈ H, b < 256) (hl : H.length = 32) : Fn Tryz.prog 26 [grpV p q g h, numV x, .agg (byC H).toArray] Tr (Is (numV (drawN q x H))) := by
  have hP := c_PutLong [] x 0 none (by decide)
  rw [List.nil_append] at hP
  have hbl : (be 32 x).length = 32 := be_length _ _
  rw [hbl] at hP
  have hN := fun g3 g5 gR => c_Number q sDraw [.slice (some ⟨g3, 0, none⟩) 32 32, .slice (some ⟨g5, 0, none⟩) 32 32] [be 32 x, H] gR 0 2 hq h0 (by
    intro X hX
    simp only [List.mem_cons, List.not_mem_nil, or_false] at hX
    rcases hX with rfl | rfl
    · exact be_lt
    · exact hH) (by
    simp only [hBytes, hHead, hBody, List.flatMap_cons, List.flatMap_nil, List.length_append, be_length, strB_length, List.length_nil, hl]
    decide) (by decide)
  have hlt : hNum q (strB sDraw) [be 32 x, H] < B256 := Nat.lt_trans (Nat.mod_lt _ h0) hq
  unfold drawN
  generalize hNum q (strB sDraw) [be 32 x, H] = R at *
  have hbH : (byC H).length = 32 := by rw [byC_length, hl]
  refine Fn.enter Tryz.func26 rfl rfl rfl ?_
  intro w hw
  repeat (first | refine Ta ?_ | (refine Tm ?_; intro _) | refine Tc ?_ | exact Tz)
  rename_i g3 g4 g5 g6
  refine WC.adrawF [9] 11 (k := ?_)
  iterate 3 (refine DQ.auto (k := ?_))
  refine DQ.acallS (hc := hP) (hR := fun _ => Rd.nil) (k := ?_)
  refine DQ.does (v := fun _ => .slice (some ⟨g5, 0, none⟩) 32 32) (fun s _ => does_sliceA rfl) Dp.const ?_
  refine DQ.makes (vf := fun _ g => .slice (some ⟨g, 0, none⟩) 2 2) (t := 66) (cs := fun s => [.slice (some ⟨s 3 0, 0, none⟩) 32 32, .slice (some ⟨g5, 0, none⟩) 32 32]) (fun s _ => makes_build rfl (by decide) rfl) Dp.const (by intro s s' h; dsimp only; rw [h] <;> decide +kernel) ?_
  refine DQ.callE (v := fun _ => .tuple #[numV R, .int .i64 0]) (fun s => [⟨s 5 0, 66, [.slice (some ⟨s 3 0, 0, none⟩) 32 32, .slice (some ⟨g5, 0, none⟩) 32 32]⟩, ⟨s 3 0, 5, byC (be 32 x)⟩]) (fun s => .cons 5 (.head _) (by decide +kernel) (.cons 3 (by repeat (first | exact .head _ | apply List.Mem.tail)) (by decide +kernel) .nil)) (fun s _ => hN (s 3 0) g5 (s 5 0)) (fun s => rfl) (fun s hC w hm => ⟨Hs.seg Hs.here hm, Parts.cons (by have := RdP.own0 (g := s 3 0) (c := 32) (X := be 32 x) (t := 5) hm (Hs.there Hs.here) (by omega) (by decide); rw [hbl] at this; exact this) (Parts.cons (by have := RdP.own0 (g := g5) (c := 32) (X := H) (t := 64) hm (by repeat (first | exact Hs.here | apply Hs.there)) (by omega) (by decide); rw [hl] at this; exact this) Parts.nil)⟩) Dp.const ?_
  repeat (first | refine Da ?_ | refine Df ?_)
  refine DQ.anil (k := ?_)
  intro sx _
  repeat (first | refine Ta ?_ | (refine Tm ?_; intro _) | refine WO.does a_eqNum ?_ | refine Tc ?_ | exact Tz)
  by_cases hR : R = 0
  · have d : decide (R = 0) = true := decide_eq_true hR
    rw [if_pos hR, d]
    repeat (first | refine Ta ?_ | (refine Tm ?_; intro _) | refine WO.does (does_buildA (cs := numC 1) rfl rfl (by kernel_rfl)) ?_ | refine Tc ?_ | exact Tz)
  · have d : decide (R = 0) = false := decide_eq_false hR
    rw [if_neg hR, d]
    repeat (first | refine Ta ?_ | (refine Tm ?_; intro _) | refine Tc ?_ | exact Tz)
end
end Sx
end Go.Proofs.YtakkmakilfodoaaGreat

/- The references' proofs: balefireref14.Prove. -/
namespace Go.Proofs.YtakkmakilfodoaaGreat
open Go Go.RowKit Go.BigFrame
namespace Sx
attribute [local irreducible] wd DQ DQS WO WC WX
set_option maxHeartbeats 2000000 in
theorem r14_ProveN (p q g h : Nat) (s : ByteArray) (x base y draw c S : Nat) (hp : p < B256) (hq : q < B256) (hx : x < B256) (hb : base < B256) (hy : y < B256) (hd : draw < B256) (hB : prB p q x base y draw = false) :
    Fn Tryz.prog 36 [grpV p q g h, .string s, numV x, numV base, numV y, numV draw] Tr (Is (prV false c S)) := by
  have h1 := r8_May p q g h base hb hp
  have h1' := r8_May p q g h y hy hp
  have h2 := r14_exponent p q g h x hx hq
  have h3 := r14_exponent p q g h draw hd hq
  unfold prB at hB
  cases e2 : mayN x x q with
  | false =>
    rw [e2] at h2
    clear hB e2
    refine Fn.enter Tryz.func36 rfl rfl rfl ?_
    intro w hw
    repeat (first | refine Td ?_ | (refine Tm ?_; intro _) | refine WO.acall (hc := h1) (k := ?_) | refine WO.acall (hc := h1') (k := ?_) | refine WO.acall (hc := h2) (k := ?_) | refine WO.acall (hc := h3) (k := ?_) | refine Tc ?_ | exact Tz)
    done
  | true =>
  rw [e2] at h2 hB
  clear e2
  cases e0 : gMay p base with
  | false =>
    rw [e0] at h1
    clear hB e0
    refine Fn.enter Tryz.func36 rfl rfl rfl ?_
    intro w hw
    repeat (first | refine Td ?_ | (refine Tm ?_; intro _) | refine WO.acall (hc := h1) (k := ?_) | refine WO.acall (hc := h1') (k := ?_) | refine WO.acall (hc := h2) (k := ?_) | refine WO.acall (hc := h3) (k := ?_) | refine Tc ?_ | exact Tz)
    done
  | true =>
  rw [e0] at h1 hB
  clear e0
  cases e1 : gMay p y with
  | false =>
    rw [e1] at h1'
    clear hB e1
    refine Fn.enter Tryz.func36 rfl rfl rfl ?_
    intro w hw
    repeat (first | refine Td ?_ | (refine Tm ?_; intro _) | refine WO.acall (hc := h1) (k := ?_) | refine WO.acall (hc := h1') (k := ?_) | refine WO.acall (hc := h2) (k := ?_) | refine WO.acall (hc := h3) (k := ?_) | refine Tc ?_ | exact Tz)
    done
  | true =>
  rw [e1] at h1' hB
  clear e1
  cases e3 : mayN draw draw q with
  | false =>
    rw [e3] at h3
    clear hB e3
    refine Fn.enter Tryz.func36 rfl rfl rfl ?_
    intro w hw
    repeat (first | refine Td ?_ | (refine Tm ?_; intro _) | refine WO.acall (hc := h1) (k := ?_) | refine WO.acall (hc := h1') (k := ?_) | refine WO.acall (hc := h2) (k := ?_) | refine WO.acall (hc := h3) (k := ?_) | refine Tc ?_ | exact Tz)
    done
  | true =>
  rw [e3] at h3 hB
  clear e3
  have e4 : draw = 0 := by simpa using hB
  refine Fn.enter Tryz.func36 rfl rfl rfl ?_
  intro w hw
  repeat (first | refine Td ?_ | (refine Tm ?_; intro _) | refine WO.acall (hc := h1) (k := ?_) | refine WO.acall (hc := h1') (k := ?_) | refine WO.acall (hc := h2) (k := ?_) | refine WO.acall (hc := h3) (k := ?_) | refine WO.does a_eqNum ?_ | refine Tc ?_ | exact Tz)
  done
set_option maxHeartbeats 2000000 in
theorem r14_ProveY (p q g h : Nat) (s : ByteArray) (x base y draw c : Nat) (hp : p < B256) (hq : q < B256) (hx : x < B256) (hb : base < B256) (hy : y < B256) (hd : draw < B256) (hs : s.size ≤ 68719476736) (hB : prB p q x base y draw = true) (hc : prC p q (strB s) x base y draw = c) :
    Fn Tryz.prog 36 [grpV p q g h, .string s, numV x, numV base, numV y, numV draw] Tr (Is (prV true c ((draw + x * c % q) % q))) := by
  have h1 := r8_May p q g h base hb hp
  have h1' := r8_May p q g h y hy hp
  have h2 := r14_exponent p q g h x hx hq
  have h3 := r14_exponent p q g h draw hd hq
  unfold prB at hB
  simp only [Bool.and_eq_true, decide_eq_true_eq] at hB
  obtain ⟨⟨⟨⟨hgb, hgy⟩, e2⟩, e3⟩, e4⟩ := hB
  rw [hgb] at h1
  rw [hgy] at h1'
  rw [e2] at h2
  rw [e3] at h3
  have hq1 := (mayN_spec e2).1
  have p1 := r14_power p q g h base x hb hx hp
  have p2 := r14_power p q g h y x hy hx hp
  have p3 := r14_power p q g h base draw hb hd hp
  have p4 := r14_power p q g h y draw hy hd hp
  rw [hgb] at p1 p3
  rw [hgy] at p2 p4
  have hC := r14_challenge p q g h s base (base ^ x % p) y (y ^ x % p) (base ^ draw % p) (y ^ draw % p) hq (by omega) hs
  have hcl : prC p q (strB s) x base y draw < q := hNum_lt (by omega) _ _
  rw [show hNum q (strB s) [be 32 base, be 32 (base ^ x % p), be 32 y, be 32 (y ^ x % p), be 32 (base ^ draw % p), be 32 (y ^ draw % p)] = prC p q (strB s) x base y draw from rfl] at hC
  rw [hc] at hC hcl
  clear hc
  have hM := r9_Mul p q g h x c hx (Nat.lt_trans hcl hq) hq
  have hxq := (mayN_spec e2).2.1
  have hdq := (mayN_spec e3).2.1
  rw [show mayN x c q = true by simp [mayN, hq1, hxq, hcl]] at hM
  have hml : x * c % q < q := Nat.mod_lt _ (by omega)
  have hA := r9_Add p q g h draw (x * c % q) hd (Nat.lt_trans hml hq) hq
  rw [show mayN draw (x * c % q) q = true by simp [mayN, hq1, hdq, hml]] at hA
  generalize (draw + x * c % q) % q = S at *
  generalize x * c % q = M at *
  generalize base ^ x % p = P1 at *
  generalize y ^ x % p = P2 at *
  generalize base ^ draw % p = P3 at *
  generalize y ^ draw % p = P4 at *
  refine Fn.enter Tryz.func36 rfl rfl rfl ?_
  intro w hw
  repeat (first | refine Td ?_ | (refine Tm ?_; intro _) | refine WO.acall (hc := h1) (k := ?_) | refine WO.acall (hc := h1') (k := ?_) | refine WO.acall (hc := h2) (k := ?_) | refine WO.acall (hc := h3) (k := ?_) | refine WO.does a_eqNum ?_ | refine Tc ?_ | exact Tz)
  refine WC.adraw 23 (k := ?_)
  repeat (first | refine Da ?_ | refine DQ.acall (hc := p1) (k := ?_) | refine DQ.acall (hc := p2) (k := ?_) | refine DQ.acall (hc := p3) (k := ?_) | refine DQ.acall (hc := p4) (k := ?_) | refine DQ.acall (hc := hC) (k := ?_) | refine Dc ?_)
  refine DQ.anil (k := ?_)
  intro sx _
  generalize sx 22 0 = gK
  repeat (first | refine Td ?_ | (refine Tm ?_; intro _) | refine WO.acall (hc := hM) (k := ?_) | refine WO.acall (hc := hA) (k := ?_) | refine Tc ?_ | exact Tz)
  done
theorem r14_Prove (p q g h : Nat) (s : ByteArray) (x base y draw : Nat) (hp : p < B256) (hq : q < B256) (hx : x < B256) (hb : base < B256) (hy : y < B256) (hd : draw < B256) (hs : s.size ≤ 68719476736) :
    Fn Tryz.prog 36 [grpV p q g h, .string s, numV x, numV base, numV y, numV draw] Tr (Is (prV (prB p q x base y draw) (prC p q (strB s) x base y draw) ((draw + x * prC p q (strB s) x base y draw % q) % q))) := by
  generalize hc : prC p q (strB s) x base y draw = c
  cases hB : prB p q x base y draw with
  | false => exact r14_ProveN p q g h s x base y draw c _ hp hq hx hb hy hd hB
  | true => exact r14_ProveY p q g h s x base y draw c hp hq hx hb hy hd hs hB hc
end Sx
end Go.Proofs.YtakkmakilfodoaaGreat
