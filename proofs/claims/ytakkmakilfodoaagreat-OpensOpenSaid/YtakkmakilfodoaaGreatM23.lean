/- Part 23 of the proof: GpB, SxY, ShF -/
import Derived.Test.YtakkmakilfodoaaGreatM22
import Derived.Test.YtakkmakilfodoaaGreatM19
import Derived.Test.YtakkmakilfodoaaGreatM18
import Derived.Test.YtakkmakilfodoaaGreatM11
import Derived.RangeFuncLeaves
import Derived.LoopN
set_option linter.unusedSimpArgs false
set_option linter.unusedVariables false
/- groups.Product -/
namespace Go.Proofs.YtakkmakilfodoaaGreat
open Go Go.RowKit Go.BigFrame
namespace Sx
/-- what lies on from round to round -/
def KpB (ks : List Nat) (A B : World) : Prop := KeepB ks A B ∧ A.heap.size ≤ B.heap.size
theorem KpB.trans {ks : List Nat} {A B C : World} (h : KpB ks A B) (k : KpB ks B C) : KpB ks A C := ⟨h.1.trans k.1, Nat.le_trans h.2 k.2⟩
theorem KpB.put {ks : List Nat} {n : Nat} (hk : ∀ k ∈ ks, k < n) (W : World) (l : Nat) (o o' : Obj) (hl : n ≤ l) (h1 : W.heap[l]? = some o) (h2 : o.isCells = false) (h3 : o.isWalk = false) : KpB ks W (W.putObj l o') := ⟨KeepB.put hk W l o o' hl h1 h2 h3, by simp⟩
theorem pairs_stops (m : Nat) {α : Type} (fa fn : α → Nat) (xs : List α) (gA gN bA oA bN oN cA cN : Nat) (hn : xs.length ≤ 1099511627776) (w : World) (hlt : ∀ k ∈ [gA, gN, bA, bN], k < w.heap.size)
    (hA : Seg w gA 0 [.slice (some ⟨bA, oA, none⟩) xs.length cA]) (hN : Seg w gN 0 [.slice (some ⟨bN, oN, none⟩) xs.length cN]) (hSA : ∀ k x, xs[k]? = some x → Seg w bA (oA + k * 4) (numC (fa x))) (hSN : ∀ k x, xs[k]? = some x → Seg w bN (oN + k * 4) (numC (fn x))) :
    SeqStopsK Fence.wide m Tryz.prog 161 #[pt gA, pt gN] (fun x : α => #[numV (fa x), numV (fn x)]) (KpB [gA, gN, bA, bN]) (fun ys => ys = xs) (fun _ => True) xs.length w := fun l J Jx W hW hJ hJx hY h0 => by
  have hk : KeepB [gA, gN, bA, bN] w W := fun k hk => hW.block k (hlt k hk)
  refine pairs_in m fa fn xs gA gN bA oA bN oN cA cN l J Jx hn (fun s A B h hm => hJ s A B none h ⟨hm.os, hm.tape, hm.output, hm.size, fun k hk _ => hm.block k hk (by simp)⟩ (by simp)) (fun s A B h hm => hJx s A B none h ⟨hm.os, hm.tape, hm.output, hm.size, fun k hk _ => hm.block k hk (by simp)⟩ (by simp))
    hY W (hk.seg (by simp) hA) (hk.seg (by simp) hN) (fun k x h => hk.seg (by simp) (hSA k x h)) (fun k x h => hk.seg (by simp) (hSN k x h)) (fun k hk => Nat.lt_of_lt_of_le (hlt k hk) hW.size) h0
/-- a number that may be multiplied, and an exponent -/
abbrev PwT (p : Nat) : Type := { x : Nat × Nat // x.1 < B256 ∧ x.2 < B256 ∧ gMay p x.1 = true }
def prodN (p : Nat) (l : List (PwT p)) : Nat := l.foldl (fun r x => r * (x.1.1 ^ x.1.2 % p) % p) 1
theorem prodN_snoc (p : Nat) (l : List (PwT p)) (x : PwT p) : prodN p (l ++ [x]) = prodN p l * (x.1.1 ^ x.1.2 % p) % p := by unfold prodN; rw [List.foldl_append]; rfl
theorem prodN_lt {p : Nat} (h : 1 < p) (l : List (PwT p)) : prodN p l < p := by
  rcases List.eq_nil_or_concat l with rfl | ⟨l, x, rfl⟩
  · exact h
  · rw [List.concat_eq_append, prodN_snoc]; exact Nat.mod_lt _ (by omega)
set_option maxHeartbeats 2000000 in
theorem c_Product (p q g h : Nat) (hp : p < B256) (h1 : 1 < p) (xs : List (PwT p)) (bA oA bN oN cA cN : Nat) (hn : xs.length ≤ 1099511627776) :
    Fn Tryz.prog 126 [grpV p q g h, .slice (some ⟨bA, oA, none⟩) xs.length cA, .slice (some ⟨bN, oN, none⟩) xs.length cN]
      (fun w => bA < w.heap.size ∧ bN < w.heap.size ∧ (∀ (k : Nat) (x : PwT p), xs[k]? = some x → Seg w bA (oA + k * 4) (numC x.1.1)) ∧ (∀ (k : Nat) (x : PwT p), xs[k]? = some x → Seg w bN (oN + k * 4) (numC x.1.2))) (Is (.tuple #[numV (prodN p xs), .int .i64 0])) := by
  intro w ⟨hbA, hbN, hSA, hSN⟩
  have hC := c_Cmp p 1 hp B256_one'
  rw [cmpN_gt h1] at hC
  have hPr := c_pairs (some ⟨bA, oA, none⟩) (some ⟨bN, oN, none⟩) xs.length xs.length cA cN
  refine calls_enterM (n := 52) 3 Tryz.func126 rfl rfl rfl ?_
  repeat (first | refine Ta ?_ | (refine Tm ?_; intro _) | refine WO.acall (hc := c_Of1) (k := ?_) | refine WO.acall (hc := hC) (k := ?_) | refine WO.acallX (hc := hPr) (hR := fun _ _ => trivial) (k := fun s _ => ?_) | refine Tc ?_ | exact Tz)
  rename_i g3 g6 g7 g8
  refine WC.condF (show some (Value.bool (decide ((xs.length : Int) ≠ (xs.length : Int)))) = some (Value.bool false) by simp) ?_
  repeat (first | refine Ta ?_ | (refine Tm ?_; intro _) | refine WO.acallX (hc := hPr) (hR := fun _ _ => trivial) (k := fun s _ => ?_) | refine Tc ?_ | exact Tz)
  generalize s 0 = gA
  generalize s 1 = gN
  refine WC.ndp' (fun hnd => ?_)
  refine WC.mine (fun hmn => ?_)
  simp only [List.map_append, List.map_cons, List.map_nil, List.cons_append, List.nil_append] at hnd hmn
  intro a w1 d1 d2 d3 d4
  have l3 := (d4.ok ⟨g3, _, _⟩ (Hs.mem (by repeat (first | exact Hs.here | apply Hs.there)))).lt
  have l6 := (d4.ok ⟨g6, _, _⟩ (Hs.mem (by repeat (first | exact Hs.here | apply Hs.there)))).lt
  have l7 := (d4.ok ⟨g7, _, _⟩ (Hs.mem (by repeat (first | exact Hs.here | apply Hs.there)))).lt
  have l8 := (d4.ok ⟨g8, _, _⟩ (Hs.mem (by repeat (first | exact Hs.here | apply Hs.there)))).lt
  have lA := (d4.ok ⟨gA, _, _⟩ (Hs.mem (by repeat (first | exact Hs.here | apply Hs.there)))).lt
  have lN := (d4.ok ⟨gN, _, _⟩ (Hs.mem (by repeat (first | exact Hs.here | apply Hs.there)))).lt
  have sA := (d4.ok ⟨gA, _, _⟩ (Hs.mem (by repeat (first | exact Hs.here | apply Hs.there)))).seg 0
  have sN := (d4.ok ⟨gN, _, _⟩ (Hs.mem (by repeat (first | exact Hs.here | apply Hs.there)))).seg 0
  simp only [List.drop_zero] at l3 l6 l7 l8 lA lN sA sN
  have hn0 := d4.mod.size
  have B8 : w.heap.size ≤ g8 := (hmn _ (List.mem_cons_of_mem _ (List.mem_cons_of_mem _ (List.mem_cons_self ..)))).resolve_right (by simp)
  have hne : gN ≠ g8 ∧ gA ≠ g8 ∧ g8 ≠ g3 ∧ g8 ≠ g7 ∧ g8 ≠ g6 ∧ g7 ≠ g6 := by
    simp only [List.nodup_cons, List.mem_cons, List.not_mem_nil, or_false, not_or] at hnd
    exact ⟨hnd.1.2.1, hnd.2.1.1, hnd.2.2.1.2.2, hnd.2.2.1.1, hnd.2.2.1.2.1, hnd.2.2.2.1.1⟩
  have B7 : w.heap.size ≤ g7 := (hmn _ (List.mem_cons_of_mem _ (List.mem_cons_of_mem _ (List.mem_cons_of_mem _ (List.mem_cons_self ..))))).resolve_right (by simp)
  have B6 : w.heap.size ≤ g6 := (hmn _ (List.mem_cons_of_mem _ (List.mem_cons_of_mem _ (List.mem_cons_of_mem _ (List.mem_cons_of_mem _ (List.mem_cons_self ..)))))).resolve_right (by simp)
  obtain ⟨hne1, hne2, hne3, hne4, hne5, hne6⟩ := hne
  clear hnd hmn
  have hbA8 : bA ≠ g8 := by omega
  have hbN8 : bN ≠ g8 := by omega
  have mA : KeepB [bA, bN] w w1 := KeepB.of_mod d4.mod (fun k hk => ⟨by simp at hk; omega, by simp⟩)
  have hks : ∀ k ∈ [gA, gN, bA, bN], k < w1.heap.size ∧ k ≠ g8 := by
    intro k hk
    simp at hk
    omega
  refine (wpIn_wide (n := 3)).1 ?_
  refine wpIn_rangeFunc_ownH (F := Fence.wide) rfl (by omega) (gf := 161) (lb := #[pt gA, pt gN]) (d3.eval (x := .tmp 29) rfl) trivial (enters_of Tryz.func161 (by kernel_rfl) rfl)
    (pairs_stops 2 (fun x : PwT p => x.1.1) (fun x => x.1.2) xs gA gN bA oA bN oN cA cN hn w1 (fun k hk => (hks k hk).1) sA sN (fun k x hx => mA.seg (by simp) (hSA k x hx)) (fun k x hx => mA.seg (by simp) (hSN k x hx)))
    KpB.trans (KpB.put (fun k hk => (hks k hk).1)) (Below.refl _ _) (fun _ => rfl)
    (fun pre W => Me w [] [⟨g8, 24, numC (prodN p pre)⟩, ⟨g7, 45, [.int .i64 0]⟩, ⟨g6, 24, numC 0⟩, ⟨g3, 26, grpC p q g h⟩] W ∧ w1.heap.size ≤ W.heap.size)
    (fun _ _ _ => False)
    (fun pre A B row hs hg hr => ⟨hs.1.own hn0 hg hr, Nat.le_trans hs.2 hg.size⟩)
    (fun _ _ _ _ _ hs _ _ => hs)
    ⟨Lle.me (L' := [⟨g8, 24, numC (prodN p [])⟩, ⟨g7, 45, [.int .i64 0]⟩, ⟨g6, 24, numC 0⟩, ⟨g3, 26, grpC p q g h⟩]) (by repeat (first | exact Lle.nil | refine Lle.cons (by repeat (first | exact Pk.here | apply Pk.there)) rfl ?_)) d4, Nat.le_refl _⟩
    (fun x a' W => a'.defers = [] ∧ a'.tmps.size = 52 ∧ ∃ q9 q10, Kn [(3, pt g3), (6, pt g6), (7, pt g7), (8, pt g8), (9, pt q9), (10, pt q10)] a' ∧ (⟨q9, 24, numC x.1.1⟩ : Ent).ok W ∧ (⟨q10, 24, numC x.1.2⟩ : Ent).ok W ∧ w1.heap.size ≤ q9 ∧ w1.heap.size ≤ q10)
    (fun x a' _ A B row ⟨e1, e2, q9, q10, e3, e4, e5, e6⟩ hg hr => ⟨e1, e2, q9, q10, e3, e4.own hg hr, e5.own hg hr, e6⟩)
    ?assign ?body ?done ?stop
  case assign =>
    intro l pre x W K hI hK
    have hQ : ¬ LetsOut (Exit.then K (fun _ _ _ => False)) := fun ⟨_, _, h⟩ => h
    have hkn : Kn [(30, numV x.1.1), (31, numV x.1.2), (3, pt g3), (6, pt g6), (7, pt g7), (8, pt g8)] { tmps := ((#[30, 31] : Array Tmp).zip #[numV x.1.1, numV x.1.2]).foldl (fun t (p, v) => t.setIfInBounds p v) a.tmps, defers := [] } := by
      have k00 : Kn [(3, pt g3), (6, pt g6), (7, pt g7), (8, pt g8)] a := Kle.kn d3 (by repeat (first | exact Kle.nil | refine Kle.cons rfl rfl ?_))
      have k0 : Kn [(3, pt g3), (6, pt g6), (7, pt g7), (8, pt g8)] ({ a with defers := [] } : Act) := k00
      have k1 := k0.put (d := 30) (by show 30 < a.tmps.size; omega) (numV x.1.1)
      have k2 := k1.put (d := 31) (by rw [put_size]; show 31 < a.tmps.size; omega) (numV x.1.2)
      have k3 : Kn [(30, numV x.1.1), (31, numV x.1.2), (3, pt g3), (6, pt g6), (7, pt g7), (8, pt g8)] _ := Kle.kn k2 (by repeat (first | exact Kle.nil | refine Kle.cons rfl rfl ?_))
      intro t v ht; have k4 := k3 t v ht; simpa [Act.put, Array.zip] using k4
    suffices HH : WI (some l) 1 Tryz.prog W [] 52 _ (Exit.then K (fun _ _ _ => False)) [(30, numV x.1.1), (31, numV x.1.2), (3, pt g3), (6, pt g6), (7, pt g7), (8, pt g8)] [] from HH _ W rfl (by simp [d2]) hkn (Me.refl W [])
    repeat (first | refine WO.nil ?_ | refine WO.skip ?_ | refine WX.seqI ?_ | refine WI.seq ?_ | refine WI.region ?_ (by exact hQ) | refine WO.autoS (k := ?_) | (refine WO.autoM (k := ?_); intro _) | refine WO.auto (k := ?_) | refine WO.does a_eqNum ?_ | refine WO.does a_neqNum ?_ | refine WI.ret ?_ | refine WI.skip ?_ | refine WX.then_ret ?_ | refine WX.noPanic ?_ | refine WX.blk_normal ?_ | refine WX.blk_ret ?_ | refine WX.then_exit ?_ | refine WX.blk_exit ?_ | refine WX.blk_pass rfl ?_ | refine WI.exit ?_ | refine WI.block ?_ | refine WX.scp_normal ?_ | refine WX.scp_ret ?_ | refine WX.scp_exit ?_ | refine WI.condT rfl ?_ | refine WI.condF rfl ?_)
    rename_i q9 q10
    intro a2 W2 e1 e2 e3 e4
    have o9 := e4.ok ⟨q9, _, _⟩ (Hs.mem (by repeat (first | exact Hs.here | apply Hs.there)))
    have o10 := e4.ok ⟨q10, _, _⟩ (Hs.mem (by repeat (first | exact Hs.here | apply Hs.there)))
    have m9 := (e4.mine ⟨q9, _, _⟩ (Hs.mem (by repeat (first | exact Hs.here | apply Hs.there)))).resolve_right (by simp)
    have m10 := (e4.mine ⟨q10, _, _⟩ (Hs.mem (by repeat (first | exact Hs.here | apply Hs.there)))).resolve_right (by simp)
    refine hK a2 W2 ⟨e4.mod.size, fun k o _ hk _ => (e4.mod.block k (Array.getElem?_eq_some_iff.1 hk).1 (by simp)).trans hk⟩ ⟨KeepB.of_mod e4.mod (fun k hk => ⟨Nat.lt_of_lt_of_le (hks k hk).1 hI.2, by simp⟩), e4.mod.size⟩ ⟨hI.1.below e4.mod.below, Nat.le_trans hI.2 e4.mod.size⟩
      ⟨e1, e2, q9, q10, Kle.kn e3 (by repeat (first | exact Kle.nil | refine Kle.cons rfl rfl ?_)), o9, o10, Nat.le_trans hI.2 m9, Nat.le_trans hI.2 m10⟩
  case body =>
    rintro l pre x a' W hl _ ⟨hI, hIs⟩ ⟨e1, e2, q9, q10, e3, o9, o10, hq9, hq10⟩ _
    obtain ⟨⟨xa, xn⟩, hxa, hxn, hxm⟩ := x
    dsimp only at o9 o10 hxa hxn hxm
    have hE := c_gExp p q g h xa xn hxa hxn hp
    rw [hxm] at hE
    have hPl := prodN_lt h1 pre
    have hsn := prodN_snoc p pre ⟨(xa, xn), hxa, hxn, hxm⟩
    dsimp only at hsn
    have hEl : xa ^ xn % p < p := Nat.mod_lt _ (by omega)
    have hM := c_Mul (prodN p pre) (xa ^ xn % p) p (Nat.lt_trans hPl hp) (Nat.lt_trans hEl hp) hp
    have hmay : mayN (prodN p pre) (xa ^ xn % p) p = true := by simp [mayN, h1, hPl, hEl]
    rw [hmay, ← hsn] at hM
    have i8 := hI.ok ⟨g8, _, _⟩ (Hs.mem (by repeat (first | exact Hs.here | apply Hs.there)))
    have i3 := hI.ok ⟨g3, _, _⟩ (Hs.mem (by repeat (first | exact Hs.here | apply Hs.there)))
    have s3 := i3.seg 0
    have s9 := o9.seg 0
    have s10 := o10.seg 0
    have b3 : g3 ∉ [g8] := by simp; omega
    have b9 : q9 ∉ [g8] := by simp; omega
    have b10 : q10 ∉ [g8] := by simp; omega
    simp only [List.drop_zero] at s3 s9 s10
    have hm0 : Me W [g8] [⟨g8, 24, numC (prodN p pre)⟩] W := ⟨.refl _ _, by simpa using i8, by simp, by simp⟩
    generalize hRg : prodN p (pre ++ [⟨(xa, xn), hxa, hxn, hxm⟩]) = R at *
    have hRR := Lib.hid hRg
    clear hRg
    generalize hgP : prodN p pre = Pp at *
    generalize xa ^ xn % p = E at *
    have hQ : ¬ LetsOut (ownPostG w1.heap.size (KpB [gA, gN, bA, bN]) (fun (pre : List (PwT p)) W => Me w [] [⟨g8, 24, numC (prodN p pre)⟩, ⟨g7, 45, [.int .i64 0]⟩, ⟨g6, 24, numC 0⟩, ⟨g3, 26, grpC p q g h⟩] W ∧ w1.heap.size ≤ W.heap.size) (fun _ _ _ => False) (pre ++ [⟨(xa, xn), hxa, hxn, hxm⟩]) W) := fun ⟨_, _, h⟩ => h
    suffices HH : WI (some l) 1 Tryz.prog W [g8] 52 _ (ownPostG w1.heap.size (KpB [gA, gN, bA, bN]) (fun (pre : List (PwT p)) W => Me w [] [⟨g8, 24, numC (prodN p pre)⟩, ⟨g7, 45, [.int .i64 0]⟩, ⟨g6, 24, numC 0⟩, ⟨g3, 26, grpC p q g h⟩] W ∧ w1.heap.size ≤ W.heap.size) (fun _ _ _ => False) (pre ++ [⟨(xa, xn), hxa, hxn, hxm⟩]) W) [(3, pt g3), (6, pt g6), (7, pt g7), (8, pt g8), (9, pt q9), (10, pt q10)] [⟨g8, 24, numC Pp⟩] from HH a' W e1 e2 e3 hm0
    have hE' : okV true E = E := rfl
    repeat (first | refine WO.does (a_loadF (hs := s3) (hb := b3)) ?_ | refine WO.does (a_loadF (hs := s9) (hb := b9)) ?_ | refine WO.does (a_loadF (hs := s10) (hb := b10)) ?_ | refine WO.nil ?_ | refine WO.skip ?_ | refine WX.seqI ?_ | refine WI.seq ?_ | refine WI.region ?_ (by exact hQ) | refine WO.autoS (k := ?_) | (refine WO.autoM (k := ?_); intro _) | refine WO.acall (hc := hE) (k := ?_) | refine WO.acall (hc := hM) (k := ?_) | refine WO.auto (k := ?_) | refine WO.does a_eqNum ?_ | refine WO.does a_neqNum ?_ | refine WI.ret ?_ | refine WI.skip ?_ | refine WX.then_ret ?_ | refine WX.noPanic ?_ | refine WX.blk_normal ?_ | refine WX.blk_ret ?_ | refine WX.then_exit ?_ | refine WX.blk_exit ?_ | refine WX.blk_pass rfl ?_ | refine WI.exit ?_ | refine WI.block ?_ | refine WX.scp_normal ?_ | refine WX.scp_ret ?_ | refine WX.scp_exit ?_ | refine WI.condT rfl ?_ | refine WI.condF rfl ?_)
    rename_i q11
    intro a2 W2 f1 f2 f3 f4
    have f8 := f4.ok ⟨g8, _, _⟩ (Hs.mem (by repeat (first | exact Hs.here | apply Hs.there)))
    refine ⟨⟨f4.mod.size, fun k o hk0 hk _ => (f4.mod.block k (Array.getElem?_eq_some_iff.1 hk).1 (by simp; omega)).trans hk⟩, ⟨KeepB.of_mod f4.mod (fun k hk => ⟨Nat.lt_of_lt_of_le (hks k hk).1 hIs, by simpa using (hks k hk).2⟩), f4.mod.size⟩, ?_, Nat.le_trans hIs f4.mod.size⟩
    rw [hRR.out]
    exact hI.callM Rp.here f4.mod f8 (by decide)
  case done =>
    rintro D ys W hD rfl ⟨hI, hIs⟩ hK
    have i8 := hI.ok ⟨g8, _, _⟩ (Hs.mem (by repeat (first | exact Hs.here | apply Hs.there)))
    have i7 := hI.ok ⟨g7, _, _⟩ (Hs.mem (by repeat (first | exact Hs.here | apply Hs.there)))
    have i6 := hI.ok ⟨g6, _, _⟩ (Hs.mem (by repeat (first | exact Hs.here | apply Hs.there)))
    have s8 := i8.seg 0
    simp only [List.drop_zero] at s8
    have b8 : g8 ∉ [g7, g6] := by simp; exact ⟨hne4, hne5⟩
    have hm0 : Me W [g7, g6] [⟨g7, 45, [.int .i64 0]⟩, ⟨g6, 24, numC 0⟩] W := ⟨.refl _ _, by simpa using ⟨i7, i6⟩, by simp, by simpa using hne6⟩
    have hlD : D < W.heap.size := (Array.getElem?_eq_some_iff.1 hK).1
    refine WO.tail (w0 := W) (gs := [g7, g6]) (n := 52) (K := [(3, pt g3), (6, pt g6), (7, pt g7), (8, pt g8)]) (L := [⟨g7, 45, [.int .i64 0]⟩, ⟨g6, 24, numC 0⟩]) rfl d2 (Kle.kn d3 (by repeat (first | exact Kle.nil | refine Kle.cons rfl rfl ?_))) hm0 ?_
    repeat (first | refine WO.does (a_loadF (hs := s8) (hb := b8)) ?_ | refine Ta ?_ | (refine Tm ?_; intro _) | refine Tc ?_ | exact Tz)
    intro a2 W2 f1 f2 f3 f4
    have hK2 : W2.heap[D]? = some (.deferred (some [])) := (f4.mod.block D hlD (by simp; omega)).trans hK
    refine wp_ret ?_
    have hdf : (dfA ({ target := .collected D, args := #[] } :: a.defers) a2).defers = [{ target := .collected D, args := #[] }] := by simp [dfA, f1, d1]
    show LeavesInM Fence.wide 3 Tryz.prog Tryz.f126 a2.tmps _ (dfA ({ target := .collected D, args := #[] } :: a.defers) a2).defers .returning W2
    rw [hdf]
    refine ⟨by simp, .inl ⟨_, _, rfl, run_takeDeferred hK2, ?_⟩⟩
    have f7 := f4.ok ⟨g7, _, _⟩ (Hs.mem (by repeat (first | exact Hs.here | apply Hs.there)))
    have f6 := f4.ok ⟨g6, _, _⟩ (Hs.mem (by repeat (first | exact Hs.here | apply Hs.there)))
    have hB : Below w.heap.size w W2 := ⟨f4.mod.os.trans hI.mod.os, f4.mod.tape.trans hI.mod.tape, f4.mod.output.trans hI.mod.output, Nat.le_trans hI.mod.size f4.mod.size, fun k hk => (f4.mod.block k (Nat.lt_of_lt_of_le hk hI.mod.size) (by simp; omega)).trans (hI.mod.block k hk (by simp))⟩
    have hB3 := hB.trans (belowK_b (w := w) (Nat.le_refl _) W2 D _ (.deferred none) (by omega) hK2 rfl rfl)
    have p7 := f7.keep (w' := W2.putObj D (.deferred none)) (World.putObj_heap_other (by show g7 ≠ D; omega))
    have p6 := f6.keep (w' := W2.putObj D (.deferred none)) (World.putObj_heap_other (by show g6 ≠ D; omega))
    generalize W2.putObj D (.deferred none) = W3 at *
    have hm3 : Me W3 [g7, g6] _ W3 := ⟨.refl _ _, fun e he => (List.mem_cons.1 he).elim (fun h => h ▸ p7) (fun he => (List.mem_singleton.1 he) ▸ p6), by simp, by simpa using hne6⟩
    have h := mapM2 (P := Tryz.prog) (rv_cell (P := Tryz.prog) (p := 6) (t := 24) (K := [(3, pt g3), (6, pt g6), (7, pt g7), (8, pt g8)]) rfl (Hs.there Hs.here) (vs := numC (prodN p ys)) rfl rfl a2 W3 (Kle.kn f3 (by repeat (first | exact Kle.nil | refine Kle.cons rfl rfl ?_))) hm3) (rv_cell1 (P := Tryz.prog) (p := 7) (t := 45) (K := [(3, pt g3), (6, pt g6), (7, pt g7), (8, pt g8)]) rfl Hs.here (v := .int .i64 0) rfl a2 W3 (Kle.kn f3 (by repeat (first | exact Kle.nil | refine Kle.cons rfl rfl ?_))) hm3)
    refine ⟨.tuple #[numV (prodN p ys), .int .i64 0], ?_, _, [], rfl, hB3, News.nil _ _, rfl⟩
    rw [results_eq, show Tryz.f126.results = #[.cell 6 24, .cell 7 45] from rfl, Sem.run_bind, h]; rfl
  case stop =>
    rintro D c pre W _ _ h _
    exact h.elim
end Sx
end Go.Proofs.YtakkmakilfodoaaGreat

/- Symbolic execution, part 20: loops that are gone through round by round. No program is in sight here. -/
namespace Go.Proofs.YtakkmakilfodoaaGreat
open Go Go.RowKit Go.BigFrame
namespace Sx
section
variable {P : Program} {w0 : World} {gs : List Nat} {n : Nat} {Q : Exit → Act → World → Prop} {K : List (Nat × Value)} {L : List Ent}
/-- at most m rounds and one -/
theorem WC.loopU {c : Code} (m : Nat) (k : WC P w0 gs n c (Exit.then (Code.rounds P c Q m) Q) K L) : WC P w0 gs n (.loop c) Q K L := fun a w h1 h2 h3 h4 => wp_loop_rounds (m + 1) (k a w h1 h2 h3 h4)
theorem WX.rounds {c : Code} {m : Nat} {Q' : Exit → Act → World → Prop} (k : WC P w0 gs n c (Exit.then (Code.rounds P c Q m) Q) K L) : WX w0 gs n .normal (Exit.then (Code.rounds P c Q (m + 1)) Q') K L := k
end
end Sx
end Go.Proofs.YtakkmakilfodoaaGreat

/- (shas.state).take -/
namespace Go.Proofs.YtakkmakilfodoaaGreat
open Go Go.RowKit Go.BigFrame
namespace Sx
attribute [local irreducible] wd DQ DQS WO WC WX
set_option maxHeartbeats 2000000 in
theorem c_take (s0 s1 s2 s3 s4 s5 s6 s7 : Nat) (b : List Nat) (hb : ∀ x ∈ b, x < 256) (hbl : b.length = 64) (hs : ∀ x ∈ [s0, s1, s2, s3, s4, s5, s6, s7], x < 4294967296) :
    Fn Tryz.prog 139 [.agg (w3C [s0, s1, s2, s3, s4, s5, s6, s7]).toArray, .agg (byC b).toArray] Tr (Is (.agg (w3C (Sha.take [s0, s1, s2, s3, s4, s5, s6, s7] b)).toArray)) := by
  generalize hS : [s0, s1, s2, s3, s4, s5, s6, s7] = S at *
  have hS8 : S.length = 8 := by rw [← hS]; rfl
  refine Fn.enter Tryz.func139 rfl rfl rfl ?_
  intro w hw
  repeat (first | refine Ta ?_ | (refine Tm ?_; intro _) | refine Tc ?_ | exact Tz)
  rename_i g2 g3 g4 g5
  refine WC.loopI (σ := Nat) (fun i => i ≤ 64) (fun i => [(2, pt g2), (3, pt g3), (4, pt g4), (5, pt g5), (22, .int .i64 (i : Int))])
    (fun i => [⟨g2, 124, w3C S⟩, ⟨g3, 126, byC b⟩, ⟨g4, 124, w3C [0, 0, 0, 0, 0, 0, 0, 0]⟩, ⟨g5, 162, wpad (Sha.words b i) 64⟩]) (fun i => 64 - i) 0 (fun i hi => ?_) (Nat.zero_le _)
  try dsimp only at hi ⊢
  by_cases hlt : i < 64
  · have hwl := words_length b i
    have hwords : Sha.words b (i + 1) = Sha.words b i ++ [if i < 16 then Sha.w16 b i else Sha.wnext (Sha.words b i) i] := rfl
    repeat (first | refine Ta ?_ | (refine Tm ?_; intro _) | refine Tc ?_ | exact Tz)
    refine WC.dT rfl (by omega) ?_
    repeat (first | refine Ta ?_ | (refine Tm ?_; intro _) | refine Tc ?_ | exact Tz)
    by_cases h16 : i < 16
    · rw [if_pos h16] at hwords
      have hm4 : IntKind.i64.wrap (4 * (i : Int)) = ((4 * i : Nat) : Int) := i64_in' (by omega) (by omega) (by omega)
      have ha1 : IntKind.i64.wrap (((4 * i : Nat) : Int) + 1) = ((4 * i + 1 : Nat) : Int) := i64_in' (by omega) (by omega) (by omega)
      have ha2 : IntKind.i64.wrap (((4 * i : Nat) : Int) + 2) = ((4 * i + 2 : Nat) : Int) := i64_in' (by omega) (by omega) (by omega)
      have ha3 : IntKind.i64.wrap (((4 * i : Nat) : Int) + 3) = ((4 * i + 3 : Nat) : Int) := i64_in' (by omega) (by omega) (by omega)
      have hb0 := byC_getD (b := b) (i := 4 * i) (by omega)
      have hb1 := byC_getD (b := b) (i := 4 * i + 1) (by omega)
      have hb2 := byC_getD (b := b) (i := 4 * i + 2) (by omega)
      have hb3 := byC_getD (b := b) (i := 4 * i + 3) (by omega)
      have hl0 := getD_lt hb (by omega) (4 * i)
      have hl1 := getD_lt hb (by omega) (4 * i + 1)
      have hl2 := getD_lt hb (by omega) (4 * i + 2)
      have hl3 := getD_lt hb (by omega) (4 * i + 3)
      have hw16 : Sha.w16 b i = b.getD (4 * i) 0 * 16777216 + b.getD (4 * i + 1) 0 * 65536 + b.getD (4 * i + 2) 0 * 256 + b.getD (4 * i + 3) 0 := rfl
      rw [hw16] at hwords
      generalize b.getD (4 * i) 0 = b0 at *
      generalize b.getD (4 * i + 1) 0 = b1 at *
      generalize b.getD (4 * i + 2) 0 = b2 at *
      generalize b.getD (4 * i + 3) 0 = b3 at *
      have hs0 := e_shl b0 24 24 rfl (by omega)
      have hs1 := e_shl b1 16 16 rfl (by omega)
      have hs2 := e_shl b2 8 8 rfl (by omega)
      rw [show b0 * 2 ^ 24 % 4294967296 = b0 * 16777216 by omega] at hs0
      rw [show b1 * 2 ^ 16 % 4294967296 = b1 * 65536 by omega] at hs1
      rw [show b2 * 2 ^ 8 % 4294967296 = b2 * 256 by omega] at hs2
      have ho1 := e_or (a := b0 * 16777216) (b := b1 * 65536) (by omega) (by omega)
      have ho1l := or_lt (a := b0 * 16777216) (b := b1 * 65536) (by omega) (by omega)
      have ho2 := e_or (b := b2 * 256) ho1l (by omega)
      have ho2l := or_lt (b := b2 * 256) ho1l (by omega)
      have ho3 := e_or (b := b3) ho2l (by omega)
      rw [or3_w16 b0 b1 b2 b3 hl1 hl2 hl3] at ho3
      have hov := wpad_over (l := Sha.words b i) (n := 64) (x := b0 * 16777216 + b1 * 65536 + b2 * 256 + b3) (by omega)
      rw [hwl, ← hwords] at hov
      refine WC.dT rfl (by omega) ?_
      repeat (first | refine Ta ?_ | (refine Tm ?_; intro _) | refine Tc ?_ | exact Tz)
      refine WC.adraw 31 (k := ?_)
      repeat (first | refine Da ?_ | refine DQ.does (fun s _ => does_mul rfl rfl hm4) Dp.const ?_ | refine DQ.does (fun s _ => does_add rfl rfl ha1) Dp.const ?_ | refine DQ.does (fun s _ => does_add rfl rfl ha2) Dp.const ?_ | refine DQ.does (fun s _ => does_add rfl rfl ha3) Dp.const ?_ | refine DQ.does (fun s _ => a_load1 (hc := hb0)) Dp.const ?_ | refine DQ.does (fun s _ => a_load1 (hc := hb1)) Dp.const ?_ | refine DQ.does (fun s _ => a_load1 (hc := hb2)) Dp.const ?_ | refine DQ.does (fun s _ => a_load1 (hc := hb3)) Dp.const ?_ | refine DQ.does (fun s _ => h_shl rfl rfl hs0 (by decide)) Dp.const ?_ | refine DQ.does (fun s _ => h_shl rfl rfl hs1 (by decide)) Dp.const ?_ | refine DQ.does (fun s _ => h_shl rfl rfl hs2 (by decide)) Dp.const ?_ | refine DQ.does (fun s _ => h_or rfl rfl ho1) Dp.const ?_ | refine DQ.does (fun s _ => h_or rfl rfl ho2) Dp.const ?_ | refine DQ.does (fun s _ => h_or rfl rfl ho3) Dp.const ?_ | refine Dc ?_)
      refine DQ.anil (k := ?_)
      intro sx _
      repeat (first | refine Ta ?_ | (refine Tm ?_; intro _) | refine WO.stores (a_store (hc := hov) (hle := by rw [wpad_length (by omega)]; simp; omega)) ?_ | refine Tc ?_ | exact Tz)
      refine WX.metI (i + 1) (hs := ⟨by show i + 1 ≤ 64; omega, by show 64 - (i + 1) < 64 - i; omega⟩)
    · rw [if_neg h16] at hwords
      have hc15 : IntKind.i64.wrap ((i : Int) - 15) = ((i - 15 : Nat) : Int) := i64_in' (by omega) (by omega) (by omega)
      have hc2 : IntKind.i64.wrap ((i : Int) - 2) = ((i - 2 : Nat) : Int) := i64_in' (by omega) (by omega) (by omega)
      have hc16 : IntKind.i64.wrap ((i : Int) - 16) = ((i - 16 : Nat) : Int) := i64_in' (by omega) (by omega) (by omega)
      have hc7 : IntKind.i64.wrap ((i : Int) - 7) = ((i - 7 : Nat) : Int) := i64_in' (by omega) (by omega) (by omega)
      have hwlt := words_lt hb i
      have hx15 := wpad_get (n := 64) (getD_get (l := Sha.words b i) (i := i - 15) (by omega))
      have hx2 := wpad_get (n := 64) (getD_get (l := Sha.words b i) (i := i - 2) (by omega))
      have hx16 := wpad_get (n := 64) (getD_get (l := Sha.words b i) (i := i - 16) (by omega))
      have hx7 := wpad_get (n := 64) (getD_get (l := Sha.words b i) (i := i - 7) (by omega))
      have hl15 := getD_lt hwlt (by omega) (i - 15)
      have hl2 := getD_lt hwlt (by omega) (i - 2)
      have hwn : Sha.wnext (Sha.words b i) i = ((Sha.words b i).getD (i - 16) 0 + (Sha.words b i).getD (i - 7) 0 + Sha.sig0 ((Sha.words b i).getD (i - 15) 0) + Sha.sig1 ((Sha.words b i).getD (i - 2) 0)) % 4294967296 := rfl
      rw [hwn] at hwords
      generalize (Sha.words b i).getD (i - 15) 0 = x15 at *
      generalize (Sha.words b i).getD (i - 2) 0 = x2 at *
      generalize (Sha.words b i).getD (i - 16) 0 = x16 at *
      generalize (Sha.words b i).getD (i - 7) 0 = x7 at *
      have hq1 := e_add x16 x7
      have hq2 := e_shr x15 3 3 rfl (by omega)
      have hq3 := e_xor (mixN_lt hl15 [7, 18]) (Nat.lt_of_le_of_lt (Nat.div_le_self x15 (2 ^ 3)) hl15)
      rw [show mixN x15 [7, 18] ^^^ x15 / 2 ^ 3 = Sha.sig0 x15 from sig0_mix] at hq3
      have hq4 := e_add ((x16 + x7) % 4294967296) (Sha.sig0 x15)
      have hq5 := e_shr x2 10 10 rfl (by omega)
      have hq6 := e_xor (mixN_lt hl2 [17, 19]) (Nat.lt_of_le_of_lt (Nat.div_le_self x2 (2 ^ 10)) hl2)
      rw [show mixN x2 [17, 19] ^^^ x2 / 2 ^ 10 = Sha.sig1 x2 from sig1_mix] at hq6
      have hq7 := e_add (((x16 + x7) % 4294967296 + Sha.sig0 x15) % 4294967296) (Sha.sig1 x2)
      rw [show ((((x16 + x7) % 4294967296 + Sha.sig0 x15) % 4294967296) + Sha.sig1 x2) % 4294967296 = (x16 + x7 + Sha.sig0 x15 + Sha.sig1 x2) % 4294967296 by omega] at hq7
      have hm1 := fun g => c_mix x15 g 2 [7, 18] hl15 (by decide) (by decide)
      have hm2 := fun g => c_mix x2 g 2 [17, 19] hl2 (by decide) (by decide)
      have hov := wpad_over (l := Sha.words b i) (n := 64) (x := (x16 + x7 + Sha.sig0 x15 + Sha.sig1 x2) % 4294967296) (by omega)
      rw [hwl, ← hwords] at hov
      refine WC.dF rfl (by omega) ?_
      repeat (first | refine Ta ?_ | (refine Tm ?_; intro _) | refine Tc ?_ | exact Tz)
      refine WC.adraw 10 (k := ?_)
      repeat (first | refine Da ?_ | refine DQ.does (fun s _ => does_sub rfl rfl hc15) Dp.const ?_ | refine DQ.does (fun s _ => does_sub rfl rfl hc2) Dp.const ?_ | refine DQ.does (fun s _ => a_load1 (hc := hx15)) Dp.const ?_ | refine DQ.does (fun s _ => a_load1 (hc := hx2)) Dp.const ?_ | refine Dc ?_)
      refine DQ.anil (k := ?_)
      intro sx _
      repeat (first | refine Ta ?_ | (refine Tm ?_; intro _) | refine Tc ?_ | exact Tz)
      refine WC.adraw 25 (k := ?_)
      repeat (first | refine Da ?_ | refine DQ.does (fun s _ => does_sub rfl rfl hc16) Dp.const ?_ | refine DQ.does (fun s _ => does_sub rfl rfl hc7) Dp.const ?_ | refine DQ.does (fun s _ => a_load1 (hc := hx16)) Dp.const ?_ | refine DQ.does (fun s _ => a_load1 (hc := hx7)) Dp.const ?_ | refine DQ.does (fun s _ => h_add rfl rfl hq1) Dp.const ?_ | refine DQ.does (fun s _ => h_add rfl rfl hq4) Dp.const ?_ | refine DQ.does (fun s _ => h_add rfl rfl hq7) Dp.const ?_ | refine DQ.does (fun s _ => h_shr rfl rfl hq2 (by decide)) Dp.const ?_ | refine DQ.does (fun s _ => h_shr rfl rfl hq5 (by decide)) Dp.const ?_ | refine DQ.does (fun s _ => h_xor rfl rfl hq3) Dp.const ?_ | refine DQ.does (fun s _ => h_xor rfl rfl hq6) Dp.const ?_ | refine DQ.makes (fun s _ => makes_build (cs := inC [7, 18]) rfl (by decide) rfl) Dp.const Dp.const ?_ | refine DQ.makes (fun s _ => makes_build (cs := inC [17, 19]) rfl (by decide) rfl) Dp.const Dp.const ?_ | refine DQ.acallB 11 (fun s => ⟨s 11 0, 3, inC [7, 18]⟩) (fun s => hm1 (s 11 0)) (fun s w hm => Hs.here.seg hm) ?_ | refine DQ.acallB 18 (fun s => ⟨s 18 0, 3, inC [17, 19]⟩) (fun s => hm2 (s 18 0)) (fun s w hm => Hs.here.seg hm) ?_ | refine Dc ?_)
      refine DQ.anil (k := ?_)
      intro sx _
      repeat (first | refine Ta ?_ | (refine Tm ?_; intro _) | refine WO.stores (a_store (hc := hov) (hle := by rw [wpad_length (by omega)]; simp; omega)) ?_ | refine Tc ?_ | exact Tz)
      refine WX.metI (i + 1) (hs := ⟨by show i + 1 ≤ 64; omega, by show 64 - (i + 1) < 64 - i; omega⟩)
  · have hi64 : i = 64 := by omega
    subst hi64
    have hWl := words_length b 64
    have hWlt := words_lt hb 64
    have hwp : wpad (Sha.words b 64) 64 = w3C (Sha.words b 64) := by unfold wpad; rw [hWl]; simp
    have htk : Sha.take S b = Sha.addW (Sha.rnds S (Sha.words b 64) 64) S := rfl
    rw [hwp, htk]
    generalize Sha.words b 64 = W at *
    have hcut : cut (w3C S) 0 8 = w3C S := by unfold cut; rw [List.drop_zero, List.take_of_length_le (by rw [w3C_length, hS8]; omega)]
    have hov8 : over [.int .u32 0, .int .u32 0, .int .u32 0, .int .u32 0, .int .u32 0, .int .u32 0, .int .u32 0, .int .u32 0] 0 (w3C S) = w3C S := by simp [over, w3C_length, hS8]
    repeat (first | refine Ta ?_ | (refine Tm ?_; intro _) | refine WO.does (a_load (vs := w3C S) (hc := hcut) (hl := by rw [w3C_length, hS8])) ?_ | refine WO.stores (a_store (vs := w3C S) (hl := by rw [w3C_length, hS8]) (h1 := w3C_one S) (hc := hov8) (hle := by rw [w3C_length, hS8]; rfl)) ?_ | refine WO.acall (hc := c_steps) (k := ?_) | refine Tc ?_ | exact Tz)
    rename_i g9
    refine WC.loopI (σ := Nat) (fun i => i ≤ 64) (fun i => [(2, pt g2), (4, pt g4), (5, pt g5), (9, pt g9), (93, .agg (w3C Sha.K).toArray), (94, .int .i64 (i : Int))])
      (fun i => [⟨g2, 124, w3C S⟩, ⟨g4, 124, w3C [0, 0, 0, 0, 0, 0, 0, 0]⟩, ⟨g5, 162, w3C W⟩, ⟨g9, 124, w3C (Sha.rnds S W i)⟩]) (fun i => 64 - i) 0 (fun i hi => ?_) (Nat.zero_le _)
    try dsimp only at hi ⊢
    by_cases hlt : i < 64
    · have hr8 := rnds_eight (w := W) hS8 i
      have hrl := rnds_lt (w := W) hs hS8 i
      have hnext : Sha.rnds S W (i + 1) = Sha.rnd (Sha.rnds S W i) (Sha.K.getD i 0) (W.getD i 0) := rfl
      have hk := w3C_get (getD_get (l := Sha.K) (i := i) (by show i < 64; exact hlt))
      have hw0 := w3C_get (getD_get (l := W) (i := i) (by omega))
      obtain ⟨a, bb, c, d, e, f, g, h, hr⟩ := eight hr8
      rw [hr] at hnext hrl
      have hla : a < 4294967296 := hrl a (by simp)
      have hlb : bb < 4294967296 := hrl bb (by simp)
      have hlc : c < 4294967296 := hrl c (by simp)
      have hle : e < 4294967296 := hrl e (by simp)
      have hlf : f < 4294967296 := hrl f (by simp)
      have hlg : g < 4294967296 := hrl g (by simp)
      clear hrl
      generalize Sha.K.getD i 0 = k at *
      generalize W.getD i 0 = x at *
      have hm1 := fun q => c_mix e q 3 [6, 11, 25] hle (by decide) (by decide)
      have hm2 := fun q => c_mix a q 3 [2, 13, 22] hla (by decide) (by decide)
      rw [Sig1_mix] at hm1
      rw [Sig0_mix] at hm2
      have hq1 := e_add h (Sha.Sig1 e)
      have hq2 := e_xor hlf hlg
      have hq3 := e_and hle (xor_lt hlf hlg)
      have hq4 := e_xor hlg (and_lt (b := f ^^^ g) hle)
      rw [show g ^^^ e &&& (f ^^^ g) = Sha.ch e f g from rfl] at hq4
      have hq5 := e_add ((h + Sha.Sig1 e) % 4294967296) (Sha.ch e f g)
      have hq6 := e_add (((h + Sha.Sig1 e) % 4294967296 + Sha.ch e f g) % 4294967296) k
      have hq7 := e_add ((((h + Sha.Sig1 e) % 4294967296 + Sha.ch e f g) % 4294967296 + k) % 4294967296) x
      rw [show (((((h + Sha.Sig1 e) % 4294967296 + Sha.ch e f g) % 4294967296 + k) % 4294967296) + x) % 4294967296 = (h + Sha.Sig1 e + Sha.ch e f g + k + x) % 4294967296 by omega] at hq7
      have hst : Sha.rnd [a, bb, c, d, e, f, g, h] k x = [((h + Sha.Sig1 e + Sha.ch e f g + k + x) % 4294967296 + Sha.Sig0 a + Sha.maj a bb c) % 4294967296, a, bb, c, (d + (h + Sha.Sig1 e + Sha.ch e f g + k + x) % 4294967296) % 4294967296, e, f, g] := rfl
      rw [hst] at hnext
      generalize (h + Sha.Sig1 e + Sha.ch e f g + k + x) % 4294967296 = T at *
      have hp1 := e_add T (Sha.Sig0 a)
      have hp2 := e_and hla hlb
      have hp3 := e_and hla hlc
      have hp4 := e_xor (and_lt (b := bb) hla) (and_lt (b := c) hla)
      have hp5 := e_and hlb hlc
      have hp6 := e_xor (xor_lt (and_lt (b := bb) hla) (and_lt (b := c) hla)) (and_lt (b := c) hlb)
      rw [show a &&& bb ^^^ a &&& c ^^^ bb &&& c = Sha.maj a bb c from rfl] at hp6
      have hp7 := e_add ((T + Sha.Sig0 a) % 4294967296) (Sha.maj a bb c)
      rw [show ((T + Sha.Sig0 a) % 4294967296 + Sha.maj a bb c) % 4294967296 = (T + Sha.Sig0 a + Sha.maj a bb c) % 4294967296 by omega] at hp7
      have hp8 := e_add d T
      have hov : over [.int .u32 (a : Int), .int .u32 (bb : Int), .int .u32 (c : Int), .int .u32 (d : Int), .int .u32 (e : Int), .int .u32 (f : Int), .int .u32 (g : Int), .int .u32 (h : Int)] 0 (w3C [(T + Sha.Sig0 a + Sha.maj a bb c) % 4294967296, a, bb, c, (d + T) % 4294967296, e, f, g]) = w3C (Sha.rnds S W (i + 1)) := by rw [hnext]; rfl
      rw [hr, show w3C [a, bb, c, d, e, f, g, h] = [.int .u32 (a : Int), .int .u32 (bb : Int), .int .u32 (c : Int), .int .u32 (d : Int), .int .u32 (e : Int), .int .u32 (f : Int), .int .u32 (g : Int), .int .u32 (h : Int)] from rfl]
      repeat (first | refine Ta ?_ | (refine Tm ?_; intro _) | refine Tc ?_ | exact Tz)
      refine WC.dT rfl (by omega) ?_
      repeat (first | refine Ta ?_ | (refine Tm ?_; intro _) | refine WO.does (does_index1 rfl rfl hlt rfl hk) ?_ | refine Tc ?_ | exact Tz)
      refine WC.adraw 24 (k := ?_)
      repeat (first | refine Da ?_ | refine Dc ?_)
      refine DQ.anil (k := ?_)
      intro sx _
      repeat (first | refine Ta ?_ | (refine Tm ?_; intro _) | refine Tc ?_ | exact Tz)
      refine WC.adraw 20 (k := ?_)
      repeat (first | refine Da ?_ | refine DQ.does (fun s _ => h_add rfl rfl hq1) Dp.const ?_ | refine DQ.does (fun s _ => h_add rfl rfl hq5) Dp.const ?_ | refine DQ.does (fun s _ => h_add rfl rfl hq6) Dp.const ?_ | refine DQ.does (fun s _ => h_add rfl rfl hq7) Dp.const ?_ | refine DQ.does (fun s _ => h_xor rfl rfl hq2) Dp.const ?_ | refine DQ.does (fun s _ => h_and rfl rfl hq3) Dp.const ?_ | refine DQ.does (fun s _ => h_xor rfl rfl hq4) Dp.const ?_ | refine DQ.does (fun s _ => a_load1 (hc := hw0)) Dp.const ?_ | refine DQ.makes (fun s _ => makes_build (cs := inC [6, 11, 25]) rfl (by decide) rfl) Dp.const Dp.const ?_ | refine DQ.acallB 2 (fun s => ⟨s 2 0, 3, inC [6, 11, 25]⟩) (fun s => hm1 (s 2 0)) (fun s w hm => Hs.here.seg hm) ?_ | refine Dc ?_)
      refine DQ.anil (k := ?_)
      intro sx _
      repeat (first | refine WO.stores (a_store (vs := w3C [(T + Sha.Sig0 a + Sha.maj a bb c) % 4294967296, a, bb, c, (d + T) % 4294967296, e, f, g]) (hc := hov)) ?_ | refine Ta ?_ | (refine Tm ?_; intro _) | refine WO.does (h_add rfl rfl hp1) ?_ | refine WO.does (h_add rfl rfl hp7) ?_ | refine WO.does (h_add rfl rfl hp8) ?_ | refine WO.does (h_and rfl rfl hp2) ?_ | refine WO.does (h_and rfl rfl hp3) ?_ | refine WO.does (h_and rfl rfl hp5) ?_ | refine WO.does (h_xor rfl rfl hp4) ?_ | refine WO.does (h_xor rfl rfl hp6) ?_ | (refine WO.makes (makes_build (cs := inC [2, 13, 22]) rfl (by decide) rfl) ?_; intro q) | refine WO.acallR (hc := hm2 _) (hR := fun w' hm => Hs.here.seg hm) (k := ?_) | refine WO.does (does_buildA (cs := w3C [(T + Sha.Sig0 a + Sha.maj a bb c) % 4294967296, a, bb, c, (d + T) % 4294967296, e, f, g]) rfl rfl rfl) ?_ | refine Tc ?_ | exact Tz)
      refine WX.metI (i + 1) (hs := ⟨by show i + 1 ≤ 64; omega, by show 64 - (i + 1) < 64 - i; omega⟩)
    · have hi64 : i = 64 := by omega
      subst hi64
      have hR8 := rnds_eight (w := W) hS8 64
      generalize Sha.rnds S W 64 = R at *
      have hRS : R.length = S.length := by omega
      have hR0 : w3C R = w3C (mxW R S 0) := by simp [mxW]
      rw [hR0]
      repeat (first | refine Ta ?_ | (refine Tm ?_; intro _) | refine Tc ?_ | exact Tz)
      refine WC.loopI (σ := Nat) (fun i => i ≤ 8) (fun i => [(2, pt g2), (4, pt g4), (9, pt g9), (161, .int .i64 (i : Int))])
        (fun i => [⟨g2, 124, w3C S⟩, ⟨g4, 124, w3C [0, 0, 0, 0, 0, 0, 0, 0]⟩, ⟨g9, 124, w3C (mxW R S i)⟩]) (fun i => 8 - i) 0 (fun i hi => ?_) (Nat.zero_le _)
      try dsimp only at hi ⊢
      by_cases hlt : i < 8
      · have h1 := mxW_get hRS (i := i) (by omega)
        have h2 := w3C_get (getD_get (l := S) (i := i) (by omega))
        have h3 := e_add (R.getD i 0) (S.getD i 0)
        have hov := mxW_over hRS (i := i) (by omega)
        have hml : (mxW R S i).length = 8 := by unfold mxW; rw [List.length_append, List.length_take, List.length_drop, addW_length hRS]; omega
        generalize R.getD i 0 = r at *
        generalize S.getD i 0 = y at *
        repeat (first | refine Ta ?_ | (refine Tm ?_; intro _) | refine Tc ?_ | exact Tz)
        refine WC.dT rfl (by omega) ?_
        repeat (first | refine Ta ?_ | (refine Tm ?_; intro _) | refine Tc ?_ | exact Tz)
        refine WC.adraw 8 (k := ?_)
        repeat (first | refine Da ?_ | refine DQ.does (fun s _ => a_load1 (hc := h1)) Dp.const ?_ | refine DQ.does (fun s _ => a_load1 (hc := h2)) Dp.const ?_ | refine DQ.does (fun s _ => h_add rfl rfl h3) Dp.const ?_ | refine Dc ?_)
        refine DQ.anil (k := ?_)
        intro sx _
        repeat (first | refine Ta ?_ | (refine Tm ?_; intro _) | refine WO.stores (a_store (hc := hov) (hle := by rw [w3C_length, hml]; simp; omega)) ?_ | refine Tc ?_ | exact Tz)
        refine WX.metI (i + 1) (hs := ⟨by show i + 1 ≤ 8; omega, by show 8 - (i + 1) < 8 - i; omega⟩)
      · have hi8 : i = 8 := by omega
        subst hi8
        have hfull : mxW R S 8 = Sha.addW R S := by have := mxW_full hRS; rwa [hR8] at this
        have hA8 : (Sha.addW R S).length = 8 := by rw [addW_length hRS, hR8]
        rw [hfull]
        generalize Sha.addW R S = A at *
        have hcut : cut (w3C A) 0 8 = w3C A := by unfold cut; rw [List.drop_zero, List.take_of_length_le (by rw [w3C_length, hA8]; omega)]
        have hovA : over (w3C [0, 0, 0, 0, 0, 0, 0, 0]) 0 (w3C A) = w3C A := by simp [over, w3C_length, hA8]
        repeat (first | refine Ta ?_ | (refine Tm ?_; intro _) | refine WO.does (a_load (vs := w3C A) (hc := hcut) (hl := by rw [w3C_length, hA8])) ?_ | refine WO.stores (a_store (vs := w3C A) (hl := by rw [w3C_length, hA8]) (h1 := w3C_one A) (hc := hovA) (hle := by rw [w3C_length, hA8]; rfl)) ?_ | refine Tc ?_ | exact Tz)
        exact WX.aret1 (hr := a_rvc (vs := w3C A) (hc := hcut) (hl := by rw [w3C_length, hA8])) (hp := rfl)
end Sx
end Go.Proofs.YtakkmakilfodoaaGreat
