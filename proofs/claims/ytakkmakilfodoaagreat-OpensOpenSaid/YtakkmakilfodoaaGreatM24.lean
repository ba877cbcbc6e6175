/- Part 24 of the proof: ShH, ShI, ShJ, ShK, NuA -/
import Derived.Test.YtakkmakilfodoaaGreatM23
import Derived.Test.YtakkmakilfodoaaGreatM11
import Derived.Test.YtakkmakilfodoaaGreatM10
import Derived.Test.YtakkmakilfodoaaGreatM18
set_option linter.unusedSimpArgs false
set_option linter.unusedVariables false
/- (*shas.Sum).writes -/
namespace Go.Proofs.YtakkmakilfodoaaGreat
open Go Go.RowKit Go.BigFrame
namespace Sx
attribute [local irreducible] wd DQ DQS WO WC WX
/-- the cells of a Sum: it lives; the eight; the block begun; the count -/
def sumC (s buf : List Nat) (n : Nat) : List Value := [.int .i64 1] ++ w3C s ++ (byC buf ++ [.int .u64 (n : Int)])
theorem over_in {A M B y : List Value} {off : Nat} (h : off + y.length ≤ M.length) : over (A ++ M ++ B) (A.length + off) y = A ++ over M off y ++ B := by
  unfold over
  have h1 : (A ++ M ++ B).take (A.length + off) = A ++ M.take off := by
    rw [List.append_assoc, List.take_append, List.take_of_length_le (by omega), show A.length + off - A.length = off by omega, List.take_append_of_le_length (by omega)]
  have h2 : (A ++ M ++ B).drop (A.length + off + y.length) = M.drop (off + y.length) ++ B := by
    rw [List.append_assoc, List.drop_append, List.drop_of_length_le (by omega), show A.length + off + y.length - A.length = off + y.length by omega, List.drop_append_of_le_length (by omega), List.nil_append]
  rw [h1, h2]; simp
theorem cut_in {A M B : List Value} : cut (A ++ M ++ B) A.length M.length = M := by
  unfold cut
  rw [List.append_assoc, List.drop_left, List.take_left]
theorem sumC_length {s buf : List Nat} {n : Nat} (h1 : s.length = 8) (h2 : buf.length = 64) : (sumC s buf n).length = 74 := by simp [sumC, w3C_length, byC_length, h1, h2]
theorem sumC_s {s buf : List Nat} {n : Nat} (h1 : s.length = 8) : cut (sumC s buf n) 1 8 = w3C s := by
  have := cut_in (A := [.int .i64 1]) (M := w3C s) (B := byC buf ++ [.int .u64 (n : Int)])
  rwa [w3C_length, h1] at this
theorem sumC_buf {s buf : List Nat} {n : Nat} (h1 : s.length = 8) (h2 : buf.length = 64) : cut (sumC s buf n) 9 64 = byC buf := by
  have := cut_in (A := [.int .i64 1] ++ w3C s) (M := byC buf) (B := [.int .u64 (n : Int)])
  rw [byC_length, h2, List.length_append, w3C_length, h1, List.append_assoc _ (byC buf)] at this
  exact this
theorem sumC_n {s buf : List Nat} {n : Nat} (h1 : s.length = 8) (h2 : buf.length = 64) : (sumC s buf n)[73]? = some (.int .u64 (n : Int)) := by
  unfold sumC
  rw [List.getElem?_append_right (by simp [w3C_length, h1]), List.getElem?_append_right (by simp [w3C_length, byC_length, h1, h2])]
  simp [w3C_length, byC_length, h1, h2]
theorem sumC_ovBuf {s buf Y : List Nat} {n off : Nat} (h1 : s.length = 8) (h2 : buf.length = 64) (h : off + Y.length ≤ 64) : over (sumC s buf n) (9 + off) (byC Y) = sumC s (ovN buf off Y) n := by
  have := over_in (A := [.int .i64 1] ++ w3C s) (M := byC buf) (B := [.int .u64 (n : Int)]) (y := byC Y) (off := off) (by rw [byC_length, byC_length]; omega)
  rw [ovN_byC, List.length_append, w3C_length, h1, List.append_assoc _ (byC buf), List.append_assoc _ (byC _)] at this
  exact this
theorem sumC_ovS {s s' buf : List Nat} {n : Nat} (h1 : s.length = 8) (h2 : s'.length = 8) : over (sumC s buf n) 1 (w3C s') = sumC s' buf n := by
  have := over_in (A := [.int .i64 1]) (M := w3C s) (B := byC buf ++ [.int .u64 (n : Int)]) (y := w3C s') (off := 0) (by rw [w3C_length, w3C_length]; omega)
  have e : over (w3C s) 0 (w3C s') = w3C s' := by simp [over, w3C_length, h1, h2]
  rw [e] at this
  exact this
theorem sumC_ovN {s buf : List Nat} {n m : Nat} (h1 : s.length = 8) (h2 : buf.length = 64) : over (sumC s buf n) 73 [.int .u64 (m : Int)] = sumC s buf m := by
  have := over_in (A := [.int .i64 1] ++ w3C s ++ byC buf) (M := [.int .u64 (n : Int)]) (B := []) (y := [.int .u64 (m : Int)]) (off := 0) (by simp)
  rw [List.length_append, List.length_append, w3C_length, byC_length, h1, h2] at this
  simp only [List.append_nil, List.append_assoc] at this
  unfold sumC
  simp only [List.append_assoc]
  exact this
theorem rem64 (n : Nat) : ((n : Nat) : Int).tmod 64 = ((n % 64 : Nat) : Int) := by
  rw [Int.tmod_eq_emod_of_nonneg (by omega)]; rfl
theorem take_len {s b : List Nat} (h : s.length = 8) : (Sha.take s b).length = 8 := by
  unfold Sha.take
  rw [addW_length (by rw [rnds_eight h, h]), rnds_eight h]
theorem addW_lt {r s : List Nat} : ∀ x ∈ Sha.addW r s, x < 4294967296 := by
  intro x hx
  unfold Sha.addW at hx
  obtain ⟨i, hi, rfl⟩ := List.getElem_of_mem hx
  rw [List.getElem_zipWith]
  exact Nat.mod_lt _ (by omega)
set_option maxHeartbeats 1000000 in
theorem c_writes (g c : Nat) (p : Option Addr) (s0 b0 : List Nat) (n0 : Nat) (X : List Nat) (hX : ∀ x ∈ X, x < 256) (hs8 : s0.length = 8) (hsl : ∀ x ∈ s0, x < 4294967296) (hb64 : b0.length = 64) (hbl : ∀ x ∈ b0, x < 256) (hn : n0 + X.length ≤ 1152921504606846976) :
    FnM Tryz.prog 102 [pt g, .slice p X.length c] g 128 (sumC s0 b0 n0) (sumC (wr s0 b0 n0 X).1 (wr s0 b0 n0 X).2.1 (wr s0 b0 n0 X).2.2) (RdN g (.slice p X.length c) X.length (byC X)) (.tuple #[]) := by
  refine FnM.enter Tryz.func102 rfl rfl rfl ?_
  intro w hw
  generalize hF : wr s0 b0 n0 X = F
  repeat (first | refine Ta ?_ | (refine Tm ?_; intro _) | refine Tc ?_ | exact Tz)
  refine WC.loopI (σ := List Nat × List Nat × Nat × Nat × Value) (fun x => x.2.2.2.1 ≤ X.length ∧ wr x.1 x.2.1 x.2.2.1 (X.drop x.2.2.2.1) = F ∧ x.1.length = 8 ∧ (∀ y ∈ x.1, y < 4294967296) ∧ x.2.1.length = 64 ∧ (∀ y ∈ x.2.1, y < 256) ∧ x.2.2.1 + (X.length - x.2.2.2.1) ≤ 1152921504606846976 ∧ RdN g x.2.2.2.2 (X.length - x.2.2.2.1) (byC (X.drop x.2.2.2.1)) w)
    (fun x => [(0, pt g), (1, x.2.2.2.2)]) (fun x => [⟨g, 128, sumC x.1 x.2.1 x.2.2.1⟩]) (fun x => X.length - x.2.2.2.1) (s0, b0, n0, 0, .slice p X.length c) (fun x hx => ?_) ⟨Nat.zero_le _, hF, hs8, hsl, hb64, hbl, hn, hw⟩
  obtain ⟨s, buf, n, j, v⟩ := x
  obtain ⟨hj, hwr, h8, hsl, h64, hbl, hn, hv⟩ := hx
  dsimp only at hj hwr h8 hsl h64 hbl hn hv ⊢
  by_cases hlt : j < X.length
  · have hD : X.drop j ≠ [] := by intro h; have := congrArg List.length h; rw [List.length_drop] at this; simp at this; omega
    have hDl : (X.drop j).length = X.length - j := List.length_drop
    have hDb : ∀ x ∈ X.drop j, x < 256 := byte_drop hX j
    rw [wr_more hD] at hwr
    have hkp := wrK_pos (n := n) hD
    have hkle : wrK n (X.drop j) ≤ X.length - j := by unfold wrK; omega
    have hoff := Nat.mod_lt n (show 0 < 64 by omega)
    have hk64 : n % 64 + wrK n (X.drop j) ≤ 64 := by unfold wrK; omega
    have hkd : wrK n (X.drop j) = min (X.length - j) (64 - n % 64) := by unfold wrK; rw [hDl]
    rw [List.drop_drop] at hwr
    have hYl : ((X.drop j).take (wrK n (X.drop j))).length = wrK n (X.drop j) := by rw [List.length_take]; omega
    have hYb := byte_take hDb (wrK n (X.drop j))
    have hYt : (byC (X.drop j)).take (wrK n (X.drop j)) = byC ((X.drop j).take (wrK n (X.drop j))) := byC_take _ _
    generalize hk : wrK n (X.drop j) = k at *
    generalize (X.drop j).take k = Y at *
    have hBl : (ovN buf (n % 64) Y).length = 64 := by rw [ovN_length (by omega), h64]
    have hBb : ∀ y ∈ ovN buf (n % 64) Y, y < 256 := by
      intro y hy
      unfold ovN at hy
      rcases List.mem_append.1 hy with hy | hy
      · rcases List.mem_append.1 hy with hy | hy
        · exact hbl y (List.mem_of_mem_take hy)
        · exact hYb y hy
      · exact hbl y (List.mem_of_mem_drop hy)
    have hov := sumC_ovBuf (s := s) (n := n) h8 h64 (show n % 64 + Y.length ≤ 64 by omega)
    generalize hB : ovN buf (n % 64) Y = B at *
    have hovn := sumC_ovN (s := s) (buf := B) (n := n) (m := n + k) h8 hBl
    have hgn := sumC_n (n := n) h8 h64
    have hgn2 := sumC_n (n := n) h8 hBl
    have hl74 := sumC_length (n := n) h8 h64
    have hl74b := sumC_length (n := n) h8 hBl
    have hvv := hv
    obtain ⟨q, cc, rfl, hcc⟩ := hv
    have hnext := hvv.from (l := k) (by omega)
    rw [byC_drop, List.drop_drop, Nat.sub_sub] at hnext
    have hrem : ((n : Nat) : Int).tmod 64 = ((n % 64 : Nat) : Int) := rem64 n
    have hadd : IntKind.u64.wrap ((n : Int) + (k : Int)) = ((n + k : Nat) : Int) := u64_in' (by omega) (by omega) (by omega)
    have hsum : IntKind.i64.wrap (((n % 64 : Nat) : Int) + (k : Int)) = ((n % 64 + k : Nat) : Int) := i64_in' (by omega) (by omega) (by omega)
    have hgt : (((0 : Int)) < ((X.length - j : Nat) : Int)) := by omega
    repeat (first | refine Ta ?_ | (refine Tm ?_; intro _) | refine Tc ?_ | exact Tz)
    refine WC.dT rfl hgt ?_
    repeat (first | refine WO.does (a_load1 (hc := hgn)) ?_ | refine WO.does (a_load1 (hc := hgn2)) ?_ | refine WO.does (does_add rfl rfl hadd) ?_ | refine WO.does (does_add rfl rfl hsum) ?_ | refine WO.stores (a_store (hc := hovn) (hle := by rw [hl74b]; rfl)) ?_ | refine Ta ?_ | (refine Tm ?_; intro _) | refine WO.does (does_rem rfl rfl (by decide) hrem) ?_ | refine WO.does (does_sliceAFrom rfl rfl hoff (by rw [Nat.mul_one])) ?_ | refine WO.both (both_copy (st := 66) rfl rfl rfl hvv.rds (by rw [byC_length, hDl, Nat.mul_one]) (m := k) hkd.symm (ys := byC Y) (by rw [Nat.mul_one]; exact hYt) (byC_one Y) .here hov (by rw [hl74, byC_length]; omega) (by decide)) ?_ | refine WO.does (does_sliceFromR rfl rfl (by omega)) ?_ | refine Tc ?_ | exact Tz)
    by_cases hf : n % 64 + k = 64
    · rw [if_pos hf] at hwr
      have hcs := sumC_s (buf := B) (n := n + k) h8
      have hcb := sumC_buf (n := n + k) h8 hBl
      have htl := take_len (b := B) h8
      have hovs := sumC_ovS (buf := B) (n := n + k) h8 htl
      have hl74c := sumC_length (n := n + k) h8 hBl
      obtain ⟨s0', s1', s2', s3', s4', s5', s6', s7', rfl⟩ := eight h8
      have hT := c_take s0' s1' s2' s3' s4' s5' s6' s7' B hBb hBl hsl
      have htlt : ∀ x ∈ Sha.take [s0', s1', s2', s3', s4', s5', s6', s7'] B, x < 4294967296 := addW_lt
      generalize Sha.take [s0', s1', s2', s3', s4', s5', s6', s7'] B = s' at *
      generalize [s0', s1', s2', s3', s4', s5', s6', s7'] = sv at *
      refine WC.dT rfl (by omega) ?_
      repeat (first | refine Ta ?_ | (refine Tm ?_; intro _) | refine Tc ?_ | exact Tz)
      refine WC.adraw 12 (k := ?_)
      repeat (first | refine Da ?_ | refine DQ.acall (hc := hT) (k := ?_) | refine DQ.does (fun s _ => a_load (vs := w3C sv) (hc := hcs) (hl := by rw [w3C_length, h8])) Dp.const ?_ | refine DQ.does (fun s _ => a_load (vs := byC B) (hc := hcb) (hl := by rw [byC_length, hBl])) Dp.const ?_ | refine Dc ?_)
      refine DQ.anil (k := ?_)
      intro sx _
      repeat (first | refine WO.stores (a_store (vs := w3C s') (hl := by rw [w3C_length, htl]) (h1 := w3C_one s') (hc := hovs) (hle := by rw [hl74c, w3C_length, htl]; rfl)) ?_ | refine Ta ?_ | (refine Tm ?_; intro _) | refine Tc ?_ | exact Tz)
      refine WX.metI (s', B, n + k, j + k, .slice (cutP q cc k 1) (X.length - j - k) (cc - k)) (hs := ⟨⟨by show j + k ≤ X.length; omega, hwr, htl, htlt, hBl, hBb, by show n + k + (X.length - (j + k)) ≤ _; omega, by rw [Nat.sub_sub]; exact hnext⟩, by show X.length - (j + k) < X.length - j; omega⟩)
    · rw [if_neg hf] at hwr
      refine WC.dF rfl (by omega) ?_
      repeat (first | refine Ta ?_ | (refine Tm ?_; intro _) | refine Tc ?_ | exact Tz)
      refine WX.metI (s, B, n + k, j + k, .slice (cutP q cc k 1) (X.length - j - k) (cc - k)) (hs := ⟨⟨by show j + k ≤ X.length; omega, hwr, h8, hsl, hBl, hBb, by show n + k + (X.length - (j + k)) ≤ _; omega, by rw [Nat.sub_sub]; exact hnext⟩, by show X.length - (j + k) < X.length - j; omega⟩)
  · have hj2 : j = X.length := by omega
    have hdr : X.drop j = [] := by rw [hj2, List.drop_length]
    rw [hdr, wr_nil] at hwr
    obtain ⟨q, cc, rfl, hcc⟩ := hv
    subst hwr
    repeat (first | refine Ta ?_ | (refine Tm ?_; intro _) | refine Tc ?_ | exact Tz)
    refine WC.dF rfl (by omega) ?_
    repeat (first | refine Ta ?_ | (refine Tm ?_; intro _) | refine Tc ?_ | exact Tz)
    exact WX.retM_ofN (res0 rfl) Hs.here
end Sx
end Go.Proofs.YtakkmakilfodoaaGreat

/- shas: New, (*Sum).Write -/
namespace Go.Proofs.YtakkmakilfodoaaGreat
open Go Go.RowKit Go.BigFrame
namespace Sx
attribute [local irreducible] wd DQ DQS WO WC WX
section
variable {P : Program} {w0 : World} {gs : List Nat} {K : List (Nat × Value)} {L : List Ent}
theorem does_ptrNil {x y : Operand} {t yt ty e : TypeId} {p : Addr} (hu : P.underlying t = some (.pointer e)) (hx : ev K x = some (.pointer (some p))) (hy : ev K y = some (.pointer none)) : Does P w0 gs K L (.binOp .eql t x y yt) ty (.bool false) := by
  intro a w hk _ o ho _
  have h1 : (eqGuard .eql t x y (.pointer (some p)) (.pointer none)).run P w = .ok () w := by unfold eqGuard; rfl
  have h4 : ∀ d, (Op.equalIn (d + 1) t (.pointer (some p)) (.pointer none)).run P w = .ok false w := fun d => by
    simp [Op.equalIn, underlying, hu]
  have h3 : (Op.equalIn 10000 t (.pointer (some p)) (.pointer none)).run P w = .ok false w := h4 9999
  have h2 : (binOp .eql t (.pointer (some p)) (.pointer none)).run P w = .ok (.bool false) w := by
    simp only [binOp, Op.equal, Op.maxDepth, Sem.run_bind, h3, Result.andThen_ok, Sem.run_pure]
  simp only [execOp, ho, hk.eval hx, hk.eval hy, Sem.run_bind, h1, Result.andThen_ok, h2, Sem.run_pure]
end
theorem RdN.mr {g : Nat} {v : Value} {n : Nat} {xs : List Value} {w0 w : World} {L : List Ent} (h : RdN g v n xs w0) (hm : Mr w0 [g] L w) : RdN g v n xs w := by
  obtain ⟨p, c, e, h1, h2, h3, h4⟩ := h
  exact ⟨p, c, e, h1, h2, h3, h4.imp id fun ⟨b, o, e, hb, hs⟩ => ⟨b, o, e, hb, hs.mod hm.mod (by simpa using hb)⟩⟩
set_option maxHeartbeats 1000000 in
theorem c_SumWrite (g c : Nat) (p : Option Addr) (s0 b0 : List Nat) (n0 : Nat) (X : List Nat) (hX : ∀ x ∈ X, x < 256) (hs8 : s0.length = 8) (hsl : ∀ x ∈ s0, x < 4294967296) (hb64 : b0.length = 64) (hbl : ∀ x ∈ b0, x < 256) (hn : n0 + X.length ≤ 1152921504606846976) :
    FnM Tryz.prog 54 [pt g, .slice p X.length c] g 128 (sumC s0 b0 n0) (sumC (wr s0 b0 n0 X).1 (wr s0 b0 n0 X).2.1 (wr s0 b0 n0 X).2.2) (RdN g (.slice p X.length c) X.length (byC X)) (.int .i64 0) := by
  have hW := c_writes g c p s0 b0 n0 X hX hs8 hsl hb64 hbl hn
  refine FnM.enter Tryz.func54 rfl rfl rfl ?_
  intro w hw
  generalize sumC (wr s0 b0 n0 X).1 (wr s0 b0 n0 X).2.1 (wr s0 b0 n0 X).2.2 = cs' at *
  repeat (first | refine Ta ?_ | (refine Tm ?_; intro _) | refine WO.does (does_ptrNil (t := 87) (e := 128) (by kernel_rfl) rfl rfl) ?_ | refine Tc ?_ | exact Tz)
  refine WO.callM (hc := hW) rfl Rp.here (fun w' hm => hw.mr hm) (by decide) ?_ rfl rfl
  repeat (first | refine Ta ?_ | (refine Tm ?_; intro _) | refine Tc ?_ | exact Tz)
  exact WX.retM_of (res1 rfl (rv_tmp rfl)) Hs.here
theorem c_SumNew : Fn Tryz.prog 53 [] Tr (Ex (fun s => pt (s 0)) (fun s => [⟨s 0, 128, sumC Sha.H0 (List.replicate 64 0) 0⟩]) (fun _ => True)) := by
  refine Fn.enter Tryz.func53 rfl rfl rfl ?_
  intro w hw
  repeat (first | refine Ta ?_ | (refine Tm ?_; intro _) | refine WO.acall (hc := c_begin) (k := ?_) | refine WO.does (a_buildT (cs := sumC Sha.H0 (List.replicate 64 0) 0) (h2 := rfl)) ?_ | refine Tc ?_ | exact Tz)
  rename_i g
  exact WX.ret1 rfl (rv_tmp rfl) [⟨g, 128, sumC Sha.H0 (List.replicate 64 0) 0⟩] (Lle.cons Pk.here rfl Lle.nil) ⟨fun _ => g, rfl, rfl, trivial⟩
end Sx
end Go.Proofs.YtakkmakilfodoaaGreat

/- What (*Sum).Hash answers: the padding and the bytes out. No program is in sight here. -/
namespace Go.Proofs.YtakkmakilfodoaaGreat
open Go Go.RowKit Go.BigFrame
namespace Sx
theorem be8_eq (x : Nat) : Sha.be8 x = be 8 x := by
  simp only [Sha.be8, be, List.range_succ, List.range_zero, List.nil_append, List.cons_append, List.map_cons, List.map_nil, Nat.reduceMul, Nat.reduceSub, Nat.reducePow, Nat.div_one]
/-- the padding behind n bytes -/
def padL (n : Nat) : List Nat := 128 :: List.replicate (Sha.pad n) 0 ++ be 8 (8 * n)
theorem padL_eq {m : List Nat} (h : 8 * m.length < 18446744073709551616) : Sha.padded m = m ++ padL m.length := by
  unfold Sha.padded padL
  rw [Nat.mod_eq_of_lt h, be8_eq]
  simp
theorem padL_length (n : Nat) : (padL n).length = Sha.pad n + 9 := by simp [padL, be_length]
theorem padL_lt (n : Nat) : ∀ x ∈ padL n, x < 256 := by
  intro x hx
  unfold padL at hx
  rcases List.mem_append.1 hx with hx | hx
  · rcases List.mem_cons.1 hx with rfl | hx
    · omega
    · have := List.eq_of_mem_replicate hx; omega
  · unfold be at hx
    obtain ⟨j, _, rfl⟩ := List.mem_map.1 hx
    exact Nat.mod_lt _ (by omega)
theorem pad_stop {n l : Nat} (h1 : 1 ≤ l) (h2 : l ≤ Sha.pad n + 1) : (n + l) % 64 = 56 ↔ l = Sha.pad n + 1 := by
  unfold Sha.pad at *; omega
theorem outs_length (s : List Nat) : (Sha.outs s).length = 4 * s.length := by
  induction s with
  | nil => rfl
  | cons x s ih =>
    have : Sha.outs (x :: s) = [x / 16777216 % 256, x / 65536 % 256, x / 256 % 256, x % 256] ++ Sha.outs s := by simp [Sha.outs]
    rw [this, List.length_append, ih]; simp; omega
theorem outs_eq (s : List Nat) : Sha.outs s = beL 4 s := by
  unfold Sha.outs beL
  congr 1
  funext x
  simp only [be, List.range_succ, List.range_zero, List.nil_append, List.cons_append, List.map_cons, List.map_nil, Nat.reduceMul, Nat.reduceSub, Nat.reducePow, Nat.div_one]
theorem outs_get {s : List Nat} {i : Nat} (h : i < 4 * s.length) : (Sha.outs s)[i]? = some (s.getD (i / 4) 0 / 2 ^ (8 * (3 - i % 4)) % 256) := by
  have hi : i / 4 < s.length := by omega
  have hm : i % 4 < 4 := Nat.mod_lt _ (by omega)
  have := beL_get (wd := 4) hm hi
  rw [outs_eq]
  rw [show i / 4 * 4 + i % 4 = i by omega] at this
  rw [this]
  simp [List.getD, hi]
end Sx
end Go.Proofs.YtakkmakilfodoaaGreat

/- (*Sum).Hash -/
namespace Go.Proofs.YtakkmakilfodoaaGreat
open Go Go.RowKit Go.BigFrame
namespace Sx
theorem sumC_all {s buf : List Nat} {n : Nat} (h1 : s.length = 8) (h2 : buf.length = 64) : cut (sumC s buf n) 0 74 = sumC s buf n := by
  unfold cut; rw [List.drop_zero, List.take_of_length_le (by rw [sumC_length h1 h2]; omega)]
theorem sumC_one (s buf : List Nat) (n : Nat) : (sumC s buf n).all Value.oneCell' = true := by
  simp [sumC, List.all_append, w3C, byC, Value.oneCell']
theorem over_all {cs vs : List Value} (h : cs.length = vs.length) : over cs 0 vs = vs := by
  unfold over; rw [List.take_zero, Nat.zero_add, List.drop_of_length_le (by omega)]; simp
theorem WC.ndp {P : Program} {w0 : World} {gs : List Nat} {n : Nat} {c : Code} {Q : Exit → Act → World → Prop} {K : List (Nat × Value)} {L : List Ent} (k : (L.map Ent.g).Nodup → WC P w0 gs n c Q K L) : WC P w0 gs n c Q K L := fun a w h1 h2 h3 h4 => k h4.nodup a w h1 h2 h3 h4
attribute [local irreducible] wd DQ DQS WO WC WX
theorem takes_len {s b : List Nat} (h : s.length = 8) : ∀ q, (Sha.takes s b q).length = 8
  | 0 => h
  | q + 1 => take_len (takes_len h q)
theorem sumC_w {s buf : List Nat} {n i : Nat} (h1 : s.length = 8) (hi : i < 8) : (sumC s buf n)[1 + i]? = some (.int .u32 ((s.getD i 0 : Nat) : Int)) := by
  unfold sumC
  rw [List.append_assoc, List.getElem?_append_right (by simp), List.getElem?_append_left (by simp [w3C_length, h1]; omega)]
  simp [w3C, List.getD, show i < s.length by omega]
theorem cut_all {cs : List Value} {n : Nat} (h : cs.length = n) : cut cs 0 n = cs := by
  unfold cut; rw [List.drop_zero, List.take_of_length_le (by omega)]
set_option maxHeartbeats 2000000 in
theorem c_SumHash (g : Nat) (m s buf : List Nat) (n : Nat) (hH : Held m s buf n) (hs8 : s.length = 8) (hsl : ∀ x ∈ s, x < 4294967296) (hbl : ∀ x ∈ buf, x < 256) (hn : n ≤ 1152921504606846000) :
    Fn Tryz.prog 56 [pt g] (fun w => Seg w g 0 (sumC s buf n)) (Is (.agg (byC (Sha.sum m)).toArray)) := by
  have hb64 := hH.len
  have hcut := sumC_all (n := n) hs8 hb64
  have hl74 := sumC_length (n := n) hs8 hb64
  have hgn := sumC_n (n := n) hs8 hb64
  have h8n : IntKind.u64.wrap (8 * (n : Int)) = ((8 * n : Nat) : Int) := u64_in' (by omega) (by omega) (by omega)
  have hpl : Sha.pad n < 64 := Nat.mod_lt _ (by omega)
  have h88 := be_length 8 (8 * n)
  refine Fn.enter Tryz.func56 rfl rfl rfl ?_
  intro w hw
  repeat (first | refine WO.does (a_loadF (vs := sumC s buf n) (hs := hw) (hc := hcut) (hl := hl74)) ?_ | refine WO.stores (a_store (vs := sumC s buf n) (cs' := sumC s buf n) (hl := hl74) (h1 := sumC_one s buf n) (hc := over_all (by rw [hl74]; simp)) (hle := by rw [hl74]; rfl)) ?_ | refine WO.does (a_loadF1 (hs := hw) (hc := hgn)) ?_ | refine WO.does (does_mul rfl rfl h8n) ?_ | refine Ta ?_ | (refine Tm ?_; intro _) | refine WO.does (does_ptrNil (t := 87) (e := 128) (by kernel_rfl) rfl rfl) ?_ | (refine WO.makes (makes_slice (l := 1) (c := 64) rfl rfl (by decide) (by decide) (by decide)) ?_; intro q) | refine Tc ?_ | exact Tz)
  rename_i g2 g3
  refine WC.loopI (σ := Nat × Nat × Nat × List Value) (fun x => 1 ≤ x.1 ∧ x.1 ≤ Sha.pad n + 1 ∧ (byC (128 :: List.replicate (x.1 - 1) 0) ++ x.2.2.2).length = x.2.2.1 ∧ x.2.2.1 < 9223372036854775808)
    (fun x => [(0, pt g), (2, pt g2), (3, pt g3), (4, .int .u64 ((8 * n : Nat) : Int)), (5, .slice (some ⟨x.2.1, 0, none⟩) x.1 x.2.2.1)])
    (fun x => [⟨x.2.1, 5, byC (128 :: List.replicate (x.1 - 1) 0) ++ x.2.2.2⟩, ⟨g3, 128, sumC s buf n⟩, ⟨g2, 64, List.replicate 32 (.int .u8 0)⟩]) (fun x => Sha.pad n + 1 - x.1)
    (1, q, 64, (mkz 64 [Value.int .u8 0]).drop 1) (fun x hx => ?_) ⟨Nat.le_refl _, by show 1 ≤ Sha.pad n + 1; omega, by simp [byC_length, mkz_length], by show 64 < 9223372036854775808; omega⟩
  obtain ⟨l, q', c, r⟩ := x
  obtain ⟨hl1, hl2, hlc, hc⟩ := hx
  dsimp only at hl1 hl2 hlc hc ⊢
  have hst := pad_stop (n := n) hl1 hl2
  have ha : IntKind.u64.wrap ((n : Int) + ((l : Nat) : Int)) = ((n + l : Nat) : Int) := u64_in' (by omega) (by omega) (by omega)
  have hcv : IntKind.u64.wrap ((l : Nat) : Int) = ((l : Nat) : Int) := u64_in (by omega) (by omega)
  have hrm : ((n + l : Nat) : Int).tmod 64 = (((n + l) % 64 : Nat) : Int) := rem64 (n + l)
  have hbl1 : (byC (128 :: List.replicate (l - 1) 0)).length = l := by rw [byC_length]; simp; omega
  repeat (first | refine WO.does (a_loadF1 (hs := hw) (hc := hgn)) ?_ | refine WO.does (does_add rfl rfl ha) ?_ | refine WO.does (does_conv rfl hcv) ?_ | refine WO.does (does_rem rfl rfl (by decide) hrm) ?_ | refine Ta ?_ | (refine Tm ?_; intro _) | refine Tc ?_ | exact Tz)
  by_cases hs : l = Sha.pad n + 1
  · have h56 : (n + l) % 64 = 56 := hst.2 hs
    subst hs
    refine WC.dF rfl (by rw [h56]; decide) ?_
    repeat (first | refine Ta ?_ | (refine Tm ?_; intro _) | refine Tc ?_ | exact Tz)
    have hsh : ∀ k, k < 8 → (((8 * n : Nat) : Int)).fdiv (2 ^ min (((56 - 8 * k : Nat) : Int)).toNat IntKind.u64.bits) = ((8 * n / 2 ^ (8 * (7 - k)) : Nat) : Int) := fun k hk => by
      rw [shr_nat (by show 56 - 8 * k ≤ 64; omega), show 56 - 8 * k = 8 * (7 - k) by omega]
    refine WC.loopI (σ := Nat × Nat × Nat × List Value) (fun x => x.1 ≤ 8 ∧ (byC (128 :: List.replicate (Sha.pad n) 0 ++ (be 8 (8 * n)).take x.1) ++ x.2.2.2).length = x.2.2.1 ∧ x.2.2.1 < 9223372036854775808)
      (fun x => [(0, pt g), (2, pt g2), (3, pt g3), (4, .int .u64 ((8 * n : Nat) : Int)), (5, .slice (some ⟨x.2.1, 0, none⟩) (Sha.pad n + 1 + x.1) x.2.2.1), (42, .int .i64 (x.1 : Int))])
      (fun x => [⟨x.2.1, 5, byC (128 :: List.replicate (Sha.pad n) 0 ++ (be 8 (8 * n)).take x.1) ++ x.2.2.2⟩, ⟨g3, 128, sumC s buf n⟩, ⟨g2, 64, List.replicate 32 (.int .u8 0)⟩]) (fun x => 8 - x.1)
      (0, q', c, r) (hl := (by repeat (first | exact Lle.nil | refine Lle.cons (by repeat (first | exact Pk.here | apply Pk.there)) (by first | rfl | simp) ?_))) (fun x hx => ?_) ⟨Nat.zero_le _, by simpa using hlc, hc⟩
    clear hlc hc r c q' ha hcv hrm
    obtain ⟨k, q', c, r⟩ := x
    obtain ⟨hk8, hlc, hc⟩ := hx
    dsimp only at hk8 hlc hc ⊢
    have hbl2 : (byC (128 :: List.replicate (Sha.pad n) 0 ++ (be 8 (8 * n)).take k)).length = Sha.pad n + 1 + k := by rw [byC_length]; simp; omega
    repeat (first | refine Ta ?_ | (refine Tm ?_; intro _) | refine Tc ?_ | exact Tz)
    by_cases hk : k < 8
    · refine WC.dT rfl (by omega) ?_
      have hm : IntKind.i64.wrap (8 * ((k : Nat) : Int)) = ((8 * k : Nat) : Int) := i64_in' (by omega) (by omega) (by omega)
      have hsb : IntKind.i64.wrap (56 - ((8 * k : Nat) : Int)) = ((56 - 8 * k : Nat) : Int) := i64_in' (by omega) (by omega) (by omega)
      have hk1 : IntKind.i64.wrap (((k : Nat) : Int) + 1) = ((k + 1 : Nat) : Int) := i64_in' (by omega) (by omega) (by omega)
      have hgt : (be 8 (8 * n)).take (k + 1) = (be 8 (8 * n)).take k ++ [8 * n / 2 ^ (8 * (7 - k)) % 256] := by
        rw [List.take_add_one, be_get hk, show 8 - 1 - k = 7 - k by omega]; rfl
      have hbk : byC (128 :: List.replicate (Sha.pad n) 0 ++ (be 8 (8 * n)).take (k + 1)) = byC (128 :: List.replicate (Sha.pad n) 0 ++ (be 8 (8 * n)).take k) ++ [.int .u8 ((8 * n / 2 ^ (8 * (7 - k)) % 256 : Nat) : Int)] := by
        rw [hgt, ← List.append_assoc, byC_append]; rfl
      repeat (first | refine WO.does (does_mul rfl rfl hm) ?_ | refine WO.does (does_sub rfl rfl hsb) ?_ | refine WO.does (does_shr rfl rfl (by omega) (hsh k hk)) ?_ | refine WO.does (does_conv rfl (u8_nat _)) ?_ | refine Ta ?_ | (refine Tm ?_; intro _) | (refine WO.makes (makes_build (cs := [.int .u8 ((8 * n / 2 ^ (8 * (7 - k)) % 256 : Nat) : Int)]) rfl (by decide) rfl) ?_; intro gb) | refine Tc ?_ | exact Tz)
      refine WO.appB (m := 1) (l := Sha.pad n + 1 + (k + 1)) rfl rfl hbl2 hlc (Pk.there Pk.here) (Rds.own (m := 1) Hs.here rfl) rfl rfl (by omega) (by omega) hc (by omega) (by decide) (by decide) (fun q2 c2 r2 hr2 hc2 => ?_)
      repeat (first | refine WO.does (does_add rfl rfl hk1) ?_ | refine Ta ?_ | (refine Tm ?_; intro _) | refine Tc ?_ | exact Tz)
      exact WX.metI (k + 1, q2, c2, r2) (hl := (by repeat (first | exact Lle.nil | refine Lle.cons (by repeat (first | exact Pk.here | apply Pk.there)) (by first | rfl | (rw [hbk]; rfl)) ?_))) (hs := ⟨⟨by show k + 1 ≤ 8; omega, by dsimp only; rw [hbk]; exact hr2, hc2⟩, by show 8 - (k + 1) < 8 - k; omega⟩)
    · have hk8 : k = 8 := by omega
      subst hk8
      have htk : (be 8 (8 * n)).take 8 = be 8 (8 * n) := List.take_of_length_le (by rw [h88]; omega)
      refine WC.dF rfl (by omega) ?_
      have hW := c_writes g3 c (some ⟨q', 0, none⟩) s buf n (padL n) (padL_lt n) hs8 hsl hb64 hbl (by rw [padL_length]; omega)
      have hHw := Held.wr (padL n).length (Nat.le_refl _) hH (X := padL n)
      have hT : Sha.sum m = Sha.outs (wr s buf n (padL n)).1 := by
        unfold Sha.sum
        have := hH.n
        rw [padL_eq (by omega), ← this, ← hHw.s]
      have hs8' : (wr s buf n (padL n)).1.length = 8 := by rw [hHw.s]; exact takes_len rfl _
      have hb64' := hHw.len
      rw [padL_length] at hW
      rw [hT]
      have hrow : byC (128 :: List.replicate (Sha.pad n) 0 ++ (be 8 (8 * n)).take 8) = byC (padL n) := by rw [htk]; rfl
      rw [hrow] at hlc ⊢
      clear hHw hT hH hrow htk hsh
      generalize (wr s buf n (padL n)).1 = s' at *
      generalize (wr s buf n (padL n)).2.1 = b' at *
      generalize (wr s buf n (padL n)).2.2 = n' at *
      have hl74' := sumC_length (n := n') hs8' hb64'
      refine WC.ndp (fun hnd => ?_)
      have hne : q' ≠ g3 := by simp at hnd; exact hnd.1.1
      repeat (first | refine Ta ?_ | (refine Tm ?_; intro _) | refine Tc ?_ | exact Tz)
      refine WO.callM (hc := hW) rfl (Rp.there Rp.here) (fun w' hm => ⟨some ⟨q', 0, none⟩, c, rfl, by rw [← hlc, List.length_append, byC_length, padL_length]; omega, hc, by rw [byC_length, padL_length], .inr ⟨q', 0, rfl, hne, ((Hs.here).seg hm).sub (k := 0) (m := Sha.pad n + 9) (by unfold cut; rw [List.drop_zero, List.take_append_of_le_length (by rw [byC_length, padL_length]; omega), List.take_of_length_le (by rw [byC_length, padL_length]; omega)])⟩⟩) (by decide) ?_ rfl rfl
      repeat (first | refine Ta ?_ | (refine Tm ?_; intro _) | refine Tc ?_ | exact Tz)
      have hT32 : (Sha.outs s').length = 32 := by rw [outs_length, hs8']
      refine WC.loopI (σ := Nat) (fun i => i ≤ 32) (fun i => [(2, pt g2), (3, pt g3), (57, .int .i64 (i : Int))]) (fun i => [⟨g3, 128, sumC s' b' n'⟩, ⟨g2, 64, pad (Sha.outs s') i⟩]) (fun i => 32 - i) 0 (hl := (by repeat (first | exact Lle.nil | refine Lle.cons (by repeat (first | exact Pk.here | apply Pk.there)) (by first | rfl | (unfold pad; rw [hT32]; rfl)) ?_))) (fun i hi => ?_) (Nat.zero_le _)
      repeat (first | refine Ta ?_ | (refine Tm ?_; intro _) | refine Tc ?_ | exact Tz)
      by_cases hi2 : i < 32
      · refine WC.dT rfl (by omega) ?_
        have hT1 := outs_get (s := s') (i := i) (by omega)
        have hov := pad_over hT1
        have hq : IntKind.i64.wrap (((i : Nat) : Int).tdiv 4) = ((i / 4 : Nat) : Int) := i64_in' (by rw [Int.tdiv_eq_ediv_of_nonneg (by omega)]; omega) (by rw [Int.tdiv_eq_ediv_of_nonneg (by omega)]; omega) (by rw [Int.tdiv_eq_ediv_of_nonneg (by omega)]; omega)
        have hr : ((i : Nat) : Int).tmod 4 = ((i % 4 : Nat) : Int) := by rw [Int.tmod_eq_emod_of_nonneg (by omega)]; omega
        have hm : IntKind.i64.wrap (((i % 4 : Nat) : Int) * 8) = ((8 * (i % 4) : Nat) : Int) := i64_in' (by omega) (by omega) (by omega)
        have hsb : IntKind.i64.wrap (24 - ((8 * (i % 4) : Nat) : Int)) = ((8 * (3 - i % 4) : Nat) : Int) := i64_in' (by omega) (by omega) (by omega)
        have hi1 : IntKind.i64.wrap (((i : Nat) : Int) + 1) = ((i + 1 : Nat) : Int) := i64_in' (by omega) (by omega) (by omega)
        have hw1 := sumC_w (s := s') (buf := b') (n := n') hs8' (show i / 4 < 8 by omega)
        have hsh : ((s'.getD (i / 4) 0 : Nat) : Int).fdiv (2 ^ min (((8 * (3 - i % 4) : Nat) : Int)).toNat IntKind.u32.bits) = ((s'.getD (i / 4) 0 / 2 ^ (8 * (3 - i % 4)) : Nat) : Int) := shr_nat (by show 8 * (3 - i % 4) ≤ 32; omega)
        have hpl1 : (pad (Sha.outs s') i).length = 32 := by rw [pad_length (by omega), hT32]
        generalize s'.getD (i / 4) 0 / 2 ^ (8 * (3 - i % 4)) = vv at *
        repeat (first | refine WO.does (does_quo rfl rfl (by decide) hq) ?_ | refine WO.does (does_indexAddr (o' := 1 + i / 4) rfl rfl (by omega) (by omega)) ?_ | refine WO.does (a_load1 (hc := hw1)) ?_ | refine WO.does (does_rem rfl rfl (by decide) hr) ?_ | refine WO.does (does_mul rfl rfl hm) ?_ | refine WO.does (does_sub rfl rfl hsb) ?_ | refine WO.does (does_shr rfl rfl (by omega) hsh) ?_ | refine WO.does (does_conv rfl (u8_nat _)) ?_ | refine WO.does (does_indexAddr (o' := i) rfl rfl (by omega) (by omega)) ?_ | refine WO.stores (a_store (hc := hov) (hle := by rw [hpl1]; exact Nat.ble_eq_true_of_le hi2)) ?_ | refine WO.does (does_add rfl rfl hi1) ?_ | refine Ta ?_ | (refine Tm ?_; intro _) | refine Tc ?_ | exact Tz)
        exact WX.metI (i + 1) (hs := ⟨by omega, by omega⟩)
      · have hi3 : i = 32 := by omega
        subst hi3
        have hpf : pad (Sha.outs s') 32 = byC (Sha.outs s') := by rw [← hT32]; exact pad_full _
        have hbl32 : (byC (Sha.outs s')).length = 32 := by rw [byC_length, hT32]
        rw [hpf]
        refine WC.dF rfl (by omega) ?_
        repeat (first | refine WO.does (a_load (vs := byC (Sha.outs s')) (hc := cut_all hbl32) (hl := hbl32)) ?_ | refine WO.stores (a_store (vs := byC (Sha.outs s')) (cs' := byC (Sha.outs s')) (hl := hbl32) (h1 := byC_one _) (hc := over_all rfl) (hle := by rw [hbl32]; rfl)) ?_ | refine Ta ?_ | (refine Tm ?_; intro _) | refine Tc ?_ | exact Tz)
        exact WX.aret1 (hr := a_rvc (vs := byC (Sha.outs s')) (hc := cut_all hbl32) (hl := hbl32)) (hp := rfl)
  · refine WC.dT rfl (by omega) ?_
    have hbk : byC (128 :: List.replicate (l + 1 - 1) 0) = byC (128 :: List.replicate (l - 1) 0) ++ [.int .u8 0] := by
      rw [show l + 1 - 1 = l - 1 + 1 by omega, List.replicate_succ', ← List.cons_append, byC_append]; rfl
    repeat (first | refine Ta ?_ | (refine Tm ?_; intro _) | (refine WO.makes (makes_build (cs := [.int .u8 0]) rfl (by decide) rfl) ?_; intro gb) | refine Tc ?_ | exact Tz)
    refine WO.appB (m := 1) (l := l + 1) rfl rfl hbl1 hlc (Pk.there Pk.here) (Rds.own (m := 1) Hs.here rfl) rfl rfl (by omega) (by omega) hc (by omega) (by decide) (by decide) (fun q2 c2 r2 hr2 hc2 => ?_)
    repeat (first | refine Ta ?_ | (refine Tm ?_; intro _) | refine Tc ?_ | exact Tz)
    exact WX.metI (l + 1, q2, c2, r2) (hl := (by repeat (first | exact Lle.nil | refine Lle.cons (by repeat (first | exact Pk.here | apply Pk.there)) (by first | rfl | (rw [hbk]; rfl)) ?_))) (hs := ⟨⟨by show 1 ≤ l + 1; omega, by show l + 1 ≤ Sha.pad n + 1; omega, by dsimp only; rw [hbk]; exact hr2, hc2⟩, by show Sha.pad n + 1 - (l + 1) < Sha.pad n + 1 - l; omega⟩)
end Sx
end Go.Proofs.YtakkmakilfodoaaGreat

/- nums.put -/
namespace Go.Proofs.YtakkmakilfodoaaGreat
open Go Go.RowKit
namespace Sx
attribute [local irreducible] wd DQ DQS WO WC WX
set_option maxHeartbeats 1000000 in
theorem c_put (B W : List Nat) (wd c cw : Nat) (p : Option Addr) (bw ow : Nat) (h8 : wd ≤ 8) (hl : B.length + W.length * wd ≤ 1099511627776) (hWl : W.length ≤ 1099511627776) :
    Fn Tryz.prog 57 [.slice p B.length c, .int .i64 (wd : Int), .slice (some ⟨bw, ow, none⟩) W.length cw] (fun w => Rd (.slice p B.length c) B.length (byC B) w ∧ Seg w bw ow (woC W))
      (NewS 5 (B ++ beL wd W).length (byC (B ++ beL wd W))) := by
  have hT : (B ++ beL wd W).length = B.length + W.length * wd := by rw [List.length_append, beL_length]
  have hmul : IntKind.i64.wrap ((wd : Int) * (W.length : Int)) = ((W.length * wd : Nat) : Int) := by
    rw [Int.mul_comm, ← Int.natCast_mul]; exact i64_in (by omega) (by omega)
  have hadd : IntKind.i64.wrap ((B.length : Int) + ((W.length * wd : Nat) : Int)) = (((B ++ beL wd W).length : Nat) : Int) := by
    rw [← Int.natCast_add, hT]; exact i64_in (by omega) (by omega)
  generalize hTT : B ++ beL wd W = T at *
  refine Fn.enter Tryz.func57 rfl rfl rfl ?_
  intro w hw
  obtain ⟨hB, hW⟩ := hw
  repeat (first | refine Td ?_ | (refine Tm ?_; intro _) | refine WO.does (does_mul rfl rfl hmul) ?_ | refine WO.does (does_add rfl rfl hadd) ?_ | (refine WO.makes (makes_slice rfl rfl (by rw [hT]; omega) (by rw [hT]; omega) (by rw [hT]; omega)) ?_; intro _) | refine WO.both (both_copy (st := 66) rfl rfl rfl hB.rds (by rw [byC_length, Nat.mul_one]) (m := B.length) (by simp) (ys := byC B) (by rw [Nat.mul_one, ← byC_length, List.take_length]) (byC_one B) .here (cs' := pad T B.length) (by rw [mkz_one, ← hTT]; exact pad_copy B _) (by rw [mkz_one, List.length_replicate, byC_length, hT]; omega) (by decide)) ?_ | refine Tc ?_ | exact Tz)
  rename_i g
  refine WC.loopI (σ := Nat) (fun i => i ≤ W.length) (fun i => [(1, .int .i64 (wd : Int)), (7, .slice (some ⟨g, 0, none⟩) (B.length + i * wd) T.length), (24, .slice (some ⟨bw, ow, none⟩) W.length cw), (25, .int .i64 (W.length : Int)), (26, .int .i64 (i : Int))])
    (fun i => [⟨g, 5, pad T (B.length + i * wd)⟩]) (fun i => W.length - i) 0 (fun i hi => ?_) (Nat.zero_le _) (by
      rw [Nat.zero_mul, Nat.add_zero]
      repeat (first | exact Kle.nil | refine Kle.cons rfl rfl ?_)) (by
      rw [Nat.zero_mul, Nat.add_zero]
      repeat (first | exact Lle.nil | refine Lle.cons (by repeat (first | exact Pk.here | apply Pk.there)) rfl ?_))
  try dsimp only at hi ⊢
  by_cases hlt : i < W.length
  · have hge : i * wd + wd ≤ W.length * wd := by have := Nat.mul_le_mul_right wd (Nat.succ_le_of_lt hlt); rwa [Nat.succ_mul] at this
    have hget : (woC W)[ow + i - ow]? = some (.int .u64 ((W[i] : Nat) : Int)) := by rw [Nat.add_sub_cancel_left]; exact woC_get hlt
    repeat (first | refine Td ?_ | (refine Tm ?_; intro _) | refine Tc ?_ | exact Tz)
    refine WC.dT rfl (by omega) ?_
    repeat (first | refine Td ?_ | (refine Tm ?_; intro _) | refine Tc ?_ | exact Tz)
    refine WC.loopI (σ := Nat) (fun j => j ≤ wd) (fun j => [(1, .int .i64 (wd : Int)), (7, .slice (some ⟨g, 0, none⟩) (B.length + i * wd + j) T.length), (9, .int .u64 ((W[i] : Nat) : Int)), (24, .slice (some ⟨bw, ow, none⟩) W.length cw), (25, .int .i64 (W.length : Int)), (26, .int .i64 (i : Int)), (30, .int .i64 (wd : Int)), (31, .int .i64 (j : Int))])
      (fun j => [⟨g, 5, pad T (B.length + i * wd + j)⟩]) (fun j => wd - j) 0 (fun j hj => ?_) (Nat.zero_le _)
    try dsimp only at hj ⊢
    by_cases hlj : j < wd
    · have hTg : T[B.length + i * wd + j]? = some (W[i] / 2 ^ (8 * (wd - 1 - j)) % 256) := by
        rw [← hTT, List.getElem?_append_right (by omega), show B.length + i * wd + j - B.length = i * wd + j by omega]
        exact beL_get hlj hlt
      have h40 : IntKind.i64.wrap (8 * ((wd : Int) - 1 - (j : Int))) = ((8 * (wd - 1 - j) : Nat) : Int) := by
        rw [show (8 * ((wd : Int) - 1 - (j : Int))) = ((8 * (wd - 1 - j) : Nat) : Int) by omega]; exact i64_in (by omega) (by omega)
      repeat (first | refine Td ?_ | (refine Tm ?_; intro _) | refine Tc ?_ | exact Tz)
      refine WC.dT rfl (by omega) ?_
      repeat (first | refine Td ?_ | (refine Tm ?_; intro _) | refine WO.does (does_mul rfl rfl h40) ?_ | refine WO.does (does_shr rfl rfl (by omega) (shr_nat (by show 8 * (wd - 1 - j) ≤ 64; omega))) ?_ | refine WO.does (does_conv rfl (u8_nat _)) ?_ | (refine WO.makes (makes_build (cs := [.int .u8 ((W[i] / 2 ^ (8 * (wd - 1 - j)) % 256 : Nat) : Int)]) rfl (by decide) rfl) ?_; intro g2) | refine Tc ?_ | exact Tz)
      refine WO.both (app_in (n := 1) (xs := [.int .u8 ((W[i] / 2 ^ (8 * (wd - 1 - j)) % 256 : Nat) : Int)]) rfl rfl (Rds.own (m := 1) Hs.here rfl) rfl (by omega) rfl (Rp.there Rp.here) (pad_over hTg) (by rw [pad_length (by omega)]; omega) (by decide) rfl) ?_
      repeat (first | refine Td ?_ | (refine Tm ?_; intro _) | refine Tc ?_ | exact Tz)
      refine WX.metI (j + 1) (hs := ⟨by show j + 1 ≤ wd; omega, by show wd - (j + 1) < wd - j; omega⟩)
    · have : j = wd := by omega
      subst this
      rw [show B.length + i * j + j = B.length + (i + 1) * j by rw [Nat.succ_mul]; omega]
      repeat (first | refine Td ?_ | (refine Tm ?_; intro _) | refine Tc ?_ | exact Tz)
      refine WC.dF rfl (by omega) ?_
      repeat (first | refine Td ?_ | (refine Tm ?_; intro _) | refine Tc ?_ | exact Tz)
      refine WX.metI (i + 1) (hs := ⟨by show i + 1 ≤ W.length; omega, by show W.length - (i + 1) < W.length - i; omega⟩)
  · have : i = W.length := by omega
    subst this
    rw [← hT, pad_full]
    repeat (first | refine Td ?_ | (refine Tm ?_; intro _) | refine Tc ?_ | exact Tz)
    refine WC.dF rfl (by omega) ?_
    repeat (first | refine Td ?_ | (refine Tm ?_; intro _) | refine Tc ?_ | exact Tz)
    exact WX.retN

end Sx
end Go.Proofs.YtakkmakilfodoaaGreat
