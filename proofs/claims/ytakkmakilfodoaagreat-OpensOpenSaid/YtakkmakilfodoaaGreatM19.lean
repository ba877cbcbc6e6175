/- Part 19 of the proof: SxW, SxX -/
import Derived.Test.YtakkmakilfodoaaGreatM11
import Derived.RangeFuncNested
import Derived.OrdersIn
import Derived.TacticsIn
set_option linter.unusedSimpArgs false
set_option linter.unusedVariables false
/- Symbolic execution, part 18: regions that draw their order, whatever their operations do: all orders are gone through; callees that write a block of the caller's in a way that is not known whole. No program is in sight here. -/
namespace Go.Proofs.YtakkmakilfodoaaGreat
open Go Go.RowKit Go.BigFrame
namespace Sx
/-- on to K where it ends as it should -/
def Qk (k : Act → World → Prop) (Q : Exit → Act → World → Prop) : Exit → Act → World → Prop
  | .normal, a, w => k a w
  | e, a, w => Q e a w
theorem Qk.out {k : Act → World → Prop} {Q : Exit → Act → World → Prop} (h : LetsOut (Qk k Q)) : LetsOut Q := h
theorem wp_Qk {P : Program} {o : Oper} {a : Act} {w : World} {k : Act → World → Prop} {Q : Exit → Act → World → Prop} (h : o.wp P a w (fun a w => Qk k Q .normal a w) (Qk k Q)) : o.wp P a w k Q := by
  unfold Oper.wp at *
  generalize (execOp a.eval o).run P w = r at *
  cases r with
  | ok n w' =>
    cases n <;> simp only [Oper.upon] at h ⊢ <;> first | exact h | exact Calls.mono h (fun e w'' he => by cases e <;> first | exact he | exact Qk.out he)
  | halt x w' => cases x <;> simp only [Oper.upon] at h ⊢ <;> exact h
theorem wpOp_Qk {P : Program} {ops : Array Oper} {i : Nat} {o : Oper} {a : Act} {w : World} {k : Act → World → Prop} {Q : Exit → Act → World → Prop} (ho : ops[i]? = some o) (h : wpList P ops (Qk k Q) [o] a w) : wpOp P ops Q i k a w := by
  unfold wpOp
  rw [ho]
  unfold wpList at h
  split at h
  · rename_i hw
    simp only [hw, if_true]
    exact h.imp (fun h => wp_Qk h) (fun h => ⟨h.1, Qk.out h.2⟩)
  · rename_i hw
    simp only [hw]
    exact h
section
variable (P : Program) (w0 : World) (gs : List Nat) (n : Nat) (ops : List Oper) (Q : Exit → Act → World → Prop) (K : List (Nat × Value)) (L : List Ent)
/-- those of S have come up; f are left -/
def WA (S : List Bool) (f : Nat) : Prop := ∀ a w, a.defers = [] → a.tmps.size = n → Kn K a → Me w0 gs L w → wpAny P .any ops.toArray Q f S.toArray a w
/-- each of rs may come up next -/
def Each (S : List Bool) (f : Nat) : List Nat → Prop
  | [] => True
  | i :: r => (∃ o, nth ops i = some o ∧ WO P w0 gs n ops (Qk (wpAny P .any ops.toArray Q f (S.set i true).toArray) Q) K L [o]) ∧ Each S f r
end
section
variable {P : Program} {w0 : World} {gs : List Nat} {n : Nat} {ops : List Oper} {Q : Exit → Act → World → Prop} {K : List (Nat × Value)} {L : List Ent}
theorem Each.at {S : List Bool} {f : Nat} : ∀ {rs : List Nat}, Each P w0 gs n ops Q K L S f rs → ∀ i ∈ rs, ∃ o, nth ops i = some o ∧ WO P w0 gs n ops (Qk (wpAny P .any ops.toArray Q f (S.set i true).toArray) Q) K L [o]
  | i :: r, h, j, hj => by
    rcases List.mem_cons.1 hj with rfl | hj
    · exact h.1
    · exact Each.at h.2 j hj
theorem WA.step {S : List Bool} {f : Nat} (rs : List Nat) (k : Each P w0 gs n ops Q K L S f rs) (hr : Region.ready .any ops.toArray S.toArray = rs := by decide +kernel) (hne : rs ≠ [] := by decide) : WA P w0 gs n ops Q K L S (f + 1) := by
  intro a w h1 h2 h3 h4
  refine ⟨fun h0 => absurd (hr.symm.trans h0) hne, fun i hi => ?_⟩
  rw [hr] at hi
  obtain ⟨o, ho, hk⟩ := k.at i hi
  have := wpOp_Qk (k := wpAny P .any ops.toArray Q f (S.set i true).toArray) (Q := Q) (ops := ops.toArray) (i := i) (o := o) (P := P) (by simpa [nth_eq] using ho) (hk a w h1 h2 h3 h4)
  simpa using this
theorem WA.done {S : List Bool} (k : WX w0 gs n .normal Q K L) (hr : Region.ready .any ops.toArray S.toArray = [] := by decide +kernel) : WA P w0 gs n ops Q K L S 0 := fun a w h1 h2 h3 h4 => ⟨hr, k a w h1 h2 h3 h4⟩
theorem Each.nil {S : List Bool} {f : Nat} : Each P w0 gs n ops Q K L S f [] := trivial
theorem Each.cons {S : List Bool} {f i : Nat} {r : List Nat} {o : Oper} (k : WO P w0 gs n ops (Qk (wpAny P .any ops.toArray Q f (S.set i true).toArray) Q) K L [o]) (kr : Each P w0 gs n ops Q K L S f r) (ho : nth ops i = some o := by rfl) : Each P w0 gs n ops Q K L S f (i :: r) := ⟨⟨o, ho, k⟩, kr⟩
theorem WX.wa {S S' : List Bool} {f i : Nat} {Q' : Exit → Act → World → Prop} (k : WA P w0 gs n ops Q K L S' f) (hS : S.set i true = S' := by rfl) : WX w0 gs n .normal (Qk (wpAny P .any ops.toArray Q f (S.set i true).toArray) Q') K L := by
  subst hS
  exact k
theorem WA.less {S : List Bool} {f : Nat} (K' : List (Nat × Value)) (L' : List Ent) (k : WA P w0 gs n ops Q K' L' S f)
    (hk : Kle K' K := by (repeat (first | exact Kle.nil | refine Kle.cons rfl rfl ?_)))
    (hl : Lle L' L := by (repeat (first | exact Lle.nil | refine Lle.cons (by repeat (first | exact Pk.here | apply Pk.there)) rfl ?_))) : WA P w0 gs n ops Q K L S f := fun a w h1 h2 h3 h4 => k a w h1 h2 (hk.kn h3) (hl.me h4)
theorem Me.drawn {w : World} {d : Nat} (h : Me w0 gs L w) : Me w0 gs L { w with drawn := d } :=
  ⟨⟨h.mod.os, h.mod.tape, h.mod.output, h.mod.size, h.mod.block⟩, h.ok, h.mine, h.nodup⟩
theorem WC.all {id : Nat} {l : List Oper} [Mix P] (k : WA P w0 gs n l Q K L (List.replicate l.length false) l.length) : WC P w0 gs n (.region id l.toArray true) Q K L := by
  intro a w h1 h2 h3 h4
  refine wp_region_any Mix.out ?_
  have := k a { w with drawn := w.drawn + 1 } h1 h2 h3 h4.drawn
  simpa using this
/-- the same, with a short name for what is to be shown -/
theorem WC.allA {id : Nat} {l : List Oper} [Mix P] (k : ∀ A : List (Nat × Value) → List Ent → List Bool → Nat → Prop, (∀ K L S f, A K L S f ↔ WA P w0 gs n l Q K L S f) → A K L (List.replicate l.length false) l.length) : WC P w0 gs n (.region id l.toArray true) Q K L :=
  WC.all ((k _ (fun _ _ _ _ => Iff.rfl)))
end
/-! ## callees that write a block of the caller's -/
/-- C holds of block g's cells ahead of the call and behind it -/
def FnI (P : Program) (f : FuncId) (args : List Value) (g t : Nat) (C : List Value → Prop) (R : World → Prop) (v : Value) : Prop :=
  ∀ w cs, C cs → (⟨g, t, cs⟩ : Ent).ok w → R w → Calls P f args.toArray w (fun e w' => e = .returned v ∧ Mod [g] w w' ∧ ∃ cs', C cs' ∧ (⟨g, t, cs'⟩ : Ent).ok w')
def IPost (w : World) (g t : Nat) (C : List Value → Prop) (v : Value) : Ending → World → Prop := fun e w' => e = .returned v ∧ Mod [g] w w' ∧ ∃ cs', C cs' ∧ (⟨g, t, cs'⟩ : Ent).ok w'
theorem FnI.enter {P : Program} {n : Nat} {f : FuncId} {fn : Func} {c : Code} {args : List Value} {g t : Nat} {C : List Value → Prop} {R : World → Prop} {v : Value} (hf : P.funcs[f]? = some fn) (hb : fn.body = some c) (hn : fn.ntmps = n) (hle : Nat.ble args.length n = true)
    (k : ∀ w cs, C cs → R w → WC P w [g] n c (bodyPost P fn (IPost w g t C v)) (kin args 0) [⟨g, t, cs⟩]) : FnI P f args g t C R v := by
  intro w cs hC hok hw
  refine calls_of_wp hf hb ?_
  have hle' : args.length ≤ n := by simpa using hle
  refine k w cs hC hw _ w rfl (by simp [hn]; omega) (fun t v hv => ?_) ⟨.refl _ _, by simpa using hok, by simp, by simp⟩
  obtain ⟨j, h1, h2⟩ := kin_spec args 0 t v hv
  subst h1
  have hj : j < args.length := by
    rcases Nat.lt_or_ge j args.length with h | h
    · exact h
    · rw [List.getElem?_eq_none h] at h2; cases h2
  simp only [Nat.zero_add]
  rw [Array.getElem?_append_left (by simpa using hj)]
  simpa using h2
section
variable {P : Program} {w0 : World} {gs : List Nat} {n : Nat} {ops : List Oper} {Q : Exit → Act → World → Prop} {K : List (Nat × Value)} {L : List Ent} {rest : List Oper}
variable {d : Nat} {op : Op} {ty : TypeId} {pos : String} {after : Array Edge} {gd : Option (Nat × Bool)}
theorem WO.callI {f : FuncId} [Cal P f] {x : Operand} {xs : Array Operand} {ats : Array TypeId} {as fs ks as' : List Value} {g t : Nat} {C : List Value → Prop} {cs : List Value} {L2 : List Ent} {R : World → Prop} {v : Value} (hc : FnI P f as' g t C R v) (hx : ev K x = some (.func (.func f) fs.toArray ks.toArray))
    (ha : evs K xs.toList = some as) (hh : fs ++ as ++ ks = as') (hp : Pk L g t cs L2) (hC : C cs) (hR : ∀ w, Me w0 gs L w → R w) (ht : t ≠ 0)
    (k : ∀ cs', C cs' → WO P w0 gs n ops Q ((d, v) :: K) (⟨g, t, cs'⟩ :: L2) rest) (hd : Nat.blt d n = true) (hw : wk ops K gd = some true) :
    WO P w0 gs n ops Q K L (⟨some d, .call { callee := .value x, args := xs, argTypes := ats }, ty, pos, after, gd⟩ :: rest) := by
  subst hh
  intro a w hdf hsz hk hme
  refine wpList_step fun F hF => ?_
  rw [if_pos (wk_spec (o := ⟨some d, .call { callee := .value x, args := xs, argTypes := ats }, ty, pos, after, gd⟩) hk hw)]
  have hd' : d < n := by simpa [Nat.blt_eq] using hd
  unfold Oper.wp
  rw [run_call hk hx ha, Oper.upon_enter]
  have hme2 := hme.perm hp.perm
  refine (hc w cs hC (hme2.ok _ (by simp)) (hR w hme)).mono ?_
  rintro e w' ⟨rfl, hm, cs', hC', hok⟩
  exact hF _ _ (k cs' hC' _ _ (by rw [put_defers]; exact hdf) (by rw [put_size]; exact hsz) (hk.put (by omega) v) (hme2.callM Rp.here hm hok ht))
theorem WX.retI {fn : Func} {g t : Nat} {C : List Value → Prop} {cs : List Value} {v : Value} (hr : ∀ a w, Kn K a → Me w0 [g] L w → (results fn a.tmps).run P w = .ok v w) (hN : Hs L g t cs) (hC : C cs) : WX w0 [g] n .ret (bodyPost P fn (IPost w0 g t C v)) K L := fun a w h1 _ h3 h4 =>
  ⟨h1, v, hr a w h3 h4, rfl, h4.mod, cs, hC, h4.ok _ hN.mem⟩
end
end Sx
end Go.Proofs.YtakkmakilfodoaaGreat

/- Symbolic execution, part 19: code within a round of a range over a function; drawn regions of iterators. No program is in sight here. -/
namespace Go.Proofs.YtakkmakilfodoaaGreat
open Go Go.RowKit Go.BigFrame
namespace Sx
/-- the widest fence, within a round or not -/
def fw (ro : Option Nat) : Fence := { fn := fun _ => True, depth := none, alive := false, round := ro }
theorem callsIn_fw {ro : Option Nat} {m : Nat} {P : Program} {f : FuncId} {args : Array Value} {w : World} {R : Ending → World → Prop} (h : Calls P f args w R) : CallsIn (fw ro) m P f args w R := callsIn_wide.2 h
theorem rowsIn_fw {ro : Option Nat} {m : Nat} {P : Program} {f : String} {args : Array Value} {w : World} {R : Value → World → Prop} (h : Rows P f args w R) : RowsIn (fw ro) m P f args w R :=
  fun c cs _ => let ⟨v, w', r, s⟩ := h c cs; ⟨v, w', r, stepsIn_wide.2 s⟩
theorem oper_fw {ro : Option Nat} {m : Nat} {P : Program} {o : Oper} {a : Act} {w : World} {next : Act → World → Prop} {Q : Exit → Act → World → Prop} (hd : ∀ c, o.op ≠ .defer c) (h : o.wp P a w next Q) : o.wpIn (fw ro) m P a w next Q := by
  refine ⟨fun _ _ => trivial, ?_⟩
  rw [Oper.semAt_eq _ _ _ hd]
  unfold Oper.wp at h
  generalize (execOp a.eval o).run P w = r at *
  cases r with
  | ok x w' =>
    cases x <;> simp only [Oper.upon, Oper.uponIn] at h ⊢ <;>
      first
        | exact h
        | exact ⟨fun h => by simp [fw] at h, callsIn_fw h⟩
        | exact ⟨fun h => by simp [fw] at h, rowsIn_fw h⟩
  | halt x w' => cases x <;> simp only [Oper.upon, Oper.uponIn] at h ⊢ <;> exact h
def nodef (l : List Oper) : Bool := l.all (fun o => match o.op with | .defer _ => false | _ => true)
theorem nodef_at {l : List Oper} (h : nodef l = true) : ∀ o ∈ l, ∀ c, o.op ≠ .defer c := by
  intro o ho c hc
  have := List.all_eq_true.1 h o ho
  rw [hc] at this
  cases this
theorem list_fw {ro : Option Nat} {m : Nat} {P : Program} {ops : Array Oper} {Q : Exit → Act → World → Prop} (hQ : ¬ LetsOut Q) : ∀ {l : List Oper} {a : Act} {w : World}, (∀ o ∈ l, ∀ c, o.op ≠ .defer c) → wpList P ops Q l a w → wpListIn (fw ro) m P ops Q l a w
  | [], _, _, _, h => h
  | o :: r, a, w, hd, h => by
    unfold wpList at h
    unfold wpListIn
    split at h
    · rename_i hw
      rw [if_pos hw]
      rcases h with h | h
      · exact Oper.wpIn_mono (fun a w h => list_fw hQ (fun o ho => hd o (by simp [ho])) h) (oper_fw (hd o (by simp)) h)
      · exact absurd h.2 hQ
    · rename_i hw
      rw [if_neg hw]
      exact ⟨fun _ _ => trivial, list_fw hQ (fun o ho => hd o (by simp [ho])) h⟩
section
variable (ro : Option Nat) (m : Nat) (P : Program) (w0 : World) (gs : List Nat) (n : Nat)
/-- code within the fence -/
def WI (c : Code) (Q : Exit → Act → World → Prop) (K : List (Nat × Value)) (L : List Ent) : Prop :=
  ∀ a w, a.defers = [] → a.tmps.size = n → Kn K a → Me w0 gs L w → c.wpIn (fw ro) m P Q a w
end
section
variable {ro : Option Nat} {m : Nat} {P : Program} {w0 : World} {gs : List Nat} {n : Nat} {Q : Exit → Act → World → Prop} {K : List (Nat × Value)} {L : List Ent}
theorem WI.skip (k : WX w0 gs n .normal Q K L) : WI ro m P w0 gs n .skip Q K L := fun a w h1 h2 h3 h4 => wpIn_skip (k a w h1 h2 h3 h4)
theorem WI.seq {x y : Code} (k : WI ro m P w0 gs n x (Exit.then (y.wpIn (fw ro) m P Q) Q) K L) : WI ro m P w0 gs n (.seq x y) Q K L := fun a w h1 h2 h3 h4 => wpIn_seq (k a w h1 h2 h3 h4)
theorem WI.condT {c : Operand} {x y : Code} (hc : ev K c = some (.bool true)) (k : WI ro m P w0 gs n x Q K L) : WI ro m P w0 gs n (.cond c x y) Q K L := fun a w h1 h2 h3 h4 => wpIn_cond_true (h3.eval hc) (k a w h1 h2 h3 h4)
theorem WI.condF {c : Operand} {x y : Code} (hc : ev K c = some (.bool false)) (k : WI ro m P w0 gs n y Q K L) : WI ro m P w0 gs n (.cond c x y) Q K L := fun a w h1 h2 h3 h4 => wpIn_cond_false (h3.eval hc) (k a w h1 h2 h3 h4)
theorem WI.region {id : Nat} {l : List Oper} (k : WO P w0 gs n l Q K L l) (hQ : ¬ LetsOut Q) (hd : nodef l = true := by rfl) : WI ro m P w0 gs n (.region id l.toArray false) Q K L := fun a w h1 h2 h3 h4 =>
  wpIn_region_lit (list_fw hQ (nodef_at hd) (k a w h1 h2 h3 h4))
theorem WI.block {id : Nat} {c : Code} (k : WI ro m P w0 gs n c (Exit.inBlock id Q) K L) : WI ro m P w0 gs n (.block id c) Q K L := fun a w h1 h2 h3 h4 => wpIn_block (k a w h1 h2 h3 h4)
theorem WI.exit {id : Nat} (k : WX w0 gs n (.exit id) Q K L) : WI ro m P w0 gs n (.exit id) Q K L := fun a w h1 h2 h3 h4 => wpIn_exit (k a w h1 h2 h3 h4)
theorem WI.ret (k : WX w0 gs n .ret Q K L) : WI ro m P w0 gs n .ret Q K L := fun a w h1 h2 h3 h4 => wpIn_ret (k a w h1 h2 h3 h4)
/-- the worlds of a loop that turn in ways that are not known whole -/
def MetW {σ : Type} (n : Nat) (Ks : σ → List (Nat × Value)) (Inv : σ → World → Prop) (ok : σ → Prop) : Act → World → Prop := fun a w => ∃ s, ok s ∧ a.defers = [] ∧ a.tmps.size = n ∧ Kn (Ks s) a ∧ Inv s w
theorem WI.loopW {σ : Type} {c : Code} (Ks : σ → List (Nat × Value)) (Inv : σ → World → Prop) (μ : σ → Nat) (s0 : σ) (h0 : ∀ w, Me w0 gs L w → Inv s0 w) (hk : Kle (Ks s0) K)
    (k : ∀ s w, Inv s w → WI ro m P w [] n c (Exit.then (MetW n Ks Inv (fun s' => μ s' < μ s)) Q) (Ks s) []) : WI ro m P w0 gs n (.loop c) Q K L := fun a w h1 h2 h3 h4 => by
  refine wpIn_loop (fun a w => ∃ j s, μ s = j ∧ a.defers = [] ∧ a.tmps.size = n ∧ Kn (Ks s) a ∧ Inv s w) (fun a w => leastOf (fun j => ∃ s, μ s = j ∧ a.defers = [] ∧ a.tmps.size = n ∧ Kn (Ks s) a ∧ Inv s w)) ⟨_, s0, rfl, h1, h2, hk.kn h3, h0 w h4⟩ ?_
  intro a w hI
  obtain ⟨s, hs, g1, g2, g3, g4⟩ := (leastOf_spec hI).1
  refine wpIn_mono (k s w g4 a w g1 g2 g3 (Me.refl w [])) ?_
  intro e a' w' hq
  cases e with
  | normal =>
    obtain ⟨s', hlt, hI'⟩ := hq
    refine show (∃ j s, μ s = j ∧ _) ∧ leastOf _ < leastOf _ from ⟨⟨_, s', rfl, hI'⟩, Nat.lt_of_le_of_lt ((leastOf_spec ⟨_, s', rfl, hI'⟩).2 (μ s') ⟨s', rfl, hI'⟩) ?_⟩
    rw [← hs]
    exact hlt
  | _ => exact hq
theorem WX.metW {σ : Type} {Ks : σ → List (Nat × Value)} {Inv : σ → World → Prop} {ok : σ → Prop} (s : σ) (hs : ok s) (hk : Kle (Ks s) K) (hi : ∀ w, Me w0 gs L w → Inv s w) : WX w0 gs n .normal (Exit.then (MetW n Ks Inv ok) Q) K L :=
  fun _ w h1 h2 h3 h4 => ⟨s, hs, h1, h2, hk.kn h3, hi w h4⟩
theorem WX.seqI {y : Code} {Q' : Exit → Act → World → Prop} (k : WI ro m P w0 gs n y Q K L) : WX w0 gs n .normal (Exit.then (y.wpIn (fw ro) m P Q) Q') K L := k
end
/-! ## calls that were deferred: regions do not look at them -/
def dfA (ds : List Deferred) (a : Act) : Act := { a with defers := a.defers ++ ds }
theorem dfA_put (ds : List Deferred) (a : Act) (d : Option Tmp) (v : Value) : (dfA ds a).put d v = dfA ds (a.put d v) := by cases d <;> rfl
theorem list_df {P : Program} {ops : Array Oper} {Q : Exit → Act → World → Prop} (ds : List Deferred) : ∀ {l : List Oper} {a : Act} {w : World}, wpList P ops (fun e a w => Q e (dfA ds a) w) l a w → wpList P ops Q l (dfA ds a) w
  | [], _, _, h => h
  | o :: r, a, w, h => by
    unfold wpList at h ⊢
    have ht : (dfA ds a).tmps = a.tmps := rfl
    have he : (dfA ds a).eval = a.eval := rfl
    rw [ht]
    split at h
    · rename_i hw
      rw [if_pos hw]
      rcases h with h | ⟨h, hl⟩
      · refine .inl ?_
        unfold Oper.wp at h ⊢
        rw [he]
        generalize (execOp a.eval o).run P w = x at *
        cases x with
        | ok n w' =>
          cases n with
          | value v => simp only [Oper.upon] at h ⊢; rw [dfA_put]; exact list_df ds h
          | skip => simp only [Oper.upon] at h ⊢; rw [dfA_put]; exact list_df ds h
          | defer dd => simp only [Oper.upon] at h ⊢; exact (dfA_put ds { a with defers := dd :: a.defers } o.dst undef) ▸ list_df ds h
          | enter f args =>
            simp only [Oper.upon] at h ⊢
            exact Calls.mono h (fun e w'' hq => by
              cases e with
              | returned v => simp only at hq ⊢; rw [dfA_put]; exact list_df ds hq
              | panicked c => exact hq
              | outgrown => obtain ⟨a', w', hq⟩ := hq; exact ⟨_, w', hq⟩)
          | row f args => simp only [Oper.upon] at h ⊢; exact Rows.mono h (fun v w'' hq => by rw [dfA_put]; exact list_df ds hq)
          | _ => simp only [Oper.upon] at h
        | halt x w' => cases x <;> simp only [Oper.upon] at h ⊢ <;> exact h
      · obtain ⟨a', w', hl⟩ := hl
        exact .inr ⟨h, _, w', hl⟩
    · rename_i hw
      rw [if_neg hw, dfA_put]
      exact list_df ds h
theorem WO.tail {P : Program} {w0 : World} {gs : List Nat} {n : Nat} {Q : Exit → Act → World → Prop} {K : List (Nat × Value)} {L : List Ent} {ds : List Deferred} {id : Nat} {l : List Oper} {c : Code} {a : Act} {w : World} (hd : a.defers = ds) (hs : a.tmps.size = n) (hk : Kn K a) (hm : Me w0 gs L w)
    (k : WO P w0 gs n l (fun e a w => (Exit.then (c.wp P Q) Q) e (dfA ds a) w) K L l) : (Code.seq (.region id l.toArray false) c).wp P Q a w := by
  refine wp_seq (wp_region_lit ?_)
  have e : a = dfA ds { tmps := a.tmps, defers := [] } := by
    cases a; subst hd; rfl
  rw [e]
  exact list_df ds (k { tmps := a.tmps, defers := [] } w rfl hs hk hm)
/-! ## drawn regions -/
section
variable (m : Nat) (P : Program) (w0 : World) (gs : List Nat) (n : Nat) (ops : List Oper) (Q : Exit → Act → World → Prop) (K : List (Nat × Value)) (L : List Ent)
/-- those of S have come up; f are left -/
def VA (S : List Bool) (f : Nat) : Prop := ¬ LetsOut Q → nodef ops = true → ∀ a w, a.defers = [] → a.tmps.size = n → Kn K a → Me w0 gs L w → wpAnyIn (fw none) m P .any ops.toArray Q f S.toArray a w
def EachV (S : List Bool) (f : Nat) : List Nat → Prop
  | [] => True
  | i :: r => (∃ o, nth ops i = some o ∧ (¬ LetsOut Q → nodef ops = true → WO P w0 gs n ops (Qk (wpAnyIn (fw none) m P .any ops.toArray Q f (S.set i true).toArray) Q) K L [o])) ∧ EachV S f r
end
section
variable {m : Nat} {P : Program} {w0 : World} {gs : List Nat} {n : Nat} {ops : List Oper} {Q : Exit → Act → World → Prop} {K : List (Nat × Value)} {L : List Ent}
theorem wpOpIn_Qk {i : Nat} {o : Oper} {a : Act} {w : World} {k : Act → World → Prop} {ops : Array Oper} (hQ : ¬ LetsOut Q) (hd : ∀ c, o.op ≠ .defer c) (ho : ops[i]? = some o) (h : wpList P ops (Qk k Q) [o] a w) : wpOpIn (fw none) m P ops Q i k a w := by
  unfold wpOpIn
  rw [ho]
  unfold wpList at h
  split at h
  · rename_i hw
    simp only [hw, if_true]
    rcases h with h | h
    · exact oper_fw hd (wp_Qk h)
    · exact absurd (Qk.out h.2) hQ
  · rename_i hw
    simp only [hw]
    exact ⟨fun _ _ => trivial, h⟩
theorem EachV.at {S : List Bool} {f : Nat} : ∀ {rs : List Nat}, EachV m P w0 gs n ops Q K L S f rs → ∀ i ∈ rs, ∃ o, nth ops i = some o ∧ (¬ LetsOut Q → nodef ops = true → WO P w0 gs n ops (Qk (wpAnyIn (fw none) m P .any ops.toArray Q f (S.set i true).toArray) Q) K L [o])
  | i :: r, h, j, hj => by
    rcases List.mem_cons.1 hj with rfl | hj
    · exact h.1
    · exact EachV.at h.2 j hj
theorem VA.step {S : List Bool} {f : Nat} (rs : List Nat) (k : EachV m P w0 gs n ops Q K L S f rs) (hr : Region.ready .any ops.toArray S.toArray = rs := by decide +kernel) (hne : rs ≠ [] := by decide) : VA m P w0 gs n ops Q K L S (f + 1) := by
  intro hQ hd a w h1 h2 h3 h4
  refine ⟨fun h0 => absurd (hr.symm.trans h0) hne, fun i hi => ?_⟩
  rw [hr] at hi
  obtain ⟨o, ho, hk⟩ := k.at i hi
  have ho' : ops[i]? = some o := by simpa [nth_eq] using ho
  have := wpOpIn_Qk (m := m) (k := wpAnyIn (fw none) m P .any ops.toArray Q f (S.set i true).toArray) (Q := Q) (ops := ops.toArray) (i := i) (o := o) (P := P) hQ (nodef_at hd o (List.mem_of_getElem? ho')) (by simpa using ho') (hk hQ hd a w h1 h2 h3 h4)
  simpa using this
theorem VA.done {S : List Bool} (k : WX w0 gs n .normal Q K L) (hr : Region.ready .any ops.toArray S.toArray = [] := by decide +kernel) : VA m P w0 gs n ops Q K L S 0 := fun _ _ a w h1 h2 h3 h4 => ⟨hr, k a w h1 h2 h3 h4⟩
theorem EachV.nil {S : List Bool} {f : Nat} : EachV m P w0 gs n ops Q K L S f [] := trivial
theorem EachV.cons {S : List Bool} {f i : Nat} {r : List Nat} {o : Oper} (k : ¬ LetsOut Q → nodef ops = true → WO P w0 gs n ops (Qk (wpAnyIn (fw none) m P .any ops.toArray Q f (S.set i true).toArray) Q) K L [o]) (kr : EachV m P w0 gs n ops Q K L S f r) (ho : nth ops i = some o := by rfl) : EachV m P w0 gs n ops Q K L S f (i :: r) := ⟨⟨o, ho, k⟩, kr⟩
theorem WX.va {S S' : List Bool} {f i : Nat} {Q' : Exit → Act → World → Prop} (k : VA m P w0 gs n ops Q K L S' f) (hQ : ¬ LetsOut Q) (hd : nodef ops = true) (hS : S.set i true = S' := by rfl) : WX w0 gs n .normal (Qk (wpAnyIn (fw none) m P .any ops.toArray Q f (S.set i true).toArray) Q') K L := by
  subst hS
  exact k hQ hd
theorem VA.less {S : List Bool} {f : Nat} (K' : List (Nat × Value)) (L' : List Ent) (k : VA m P w0 gs n ops Q K' L' S f)
    (hk : Kle K' K := by (repeat (first | exact Kle.nil | refine Kle.cons rfl rfl ?_)))
    (hl : Lle L' L := by (repeat (first | exact Lle.nil | refine Lle.cons (by repeat (first | exact Pk.here | apply Pk.there)) rfl ?_))) : VA m P w0 gs n ops Q K L S f := fun hQ hd a w h1 h2 h3 h4 => k hQ hd a w h1 h2 (hk.kn h3) (hl.me h4)
theorem VA.all {id : Nat} {l : List Oper} [Mix P] (hQ : ¬ LetsOut Q) (k : VA m P w0 gs n l Q K L (List.replicate l.length false) l.length) (hd : nodef l = true := by rfl) : WI none m P w0 gs n (.region id l.toArray true) Q K L := by
  intro a w h1 h2 h3 h4
  refine wpIn_region_any Mix.out ?_
  have := k hQ hd a { w with drawn := w.drawn + 1 } h1 h2 h3 h4.drawn
  simpa using this
theorem WI.headV {id : Nat} {l : List Oper} [Mix P] (K' : List (Nat × Value)) (L' : List Ent) (S' : List Bool) (f : Nat) (hQ : ¬ LetsOut Q) (h : ∀ Q, ∀ A : List (Nat × Value) → List Ent → List Bool → Nat → Prop, (∀ K L S f, A K L S f ↔ VA m P w0 gs n l Q K L S f) → A K' L' S' f → A K L (List.replicate l.length false) l.length)
    (hC : VA m P w0 gs n l Q K' L' S' f) (hd : nodef l = true := by rfl) : WI none m P w0 gs n (.region id l.toArray true) Q K L := VA.all hQ (h Q _ (fun _ _ _ _ => Iff.rfl) hC) hd
/-- a round is asked for: behind it the world is another one -/
theorem VA.yield {S S' : List Bool} {f i d l : Nat} {x : Operand} {xs : Array Operand} {ats : Array TypeId} {ty : TypeId} {pos : String} {after : Array Edge} {vs : List Value} {R : World → Ending → World → Prop} 
    (hx : ev K x = some (.func (.yield l) #[] #[])) (ha : evs K xs.toList = some vs) 
    (hy : ∀ w, Me w0 gs L w → YieldAt (fw none) (m - 1) P l vs.toArray w (R w))
    (k : ∀ w e w', Me w0 gs L w → R w e w' → ∃ b, e = .returned (.bool b) ∧ VA m P w' [] n ops Q ((d, .bool b) :: K) [] S' f)
    (ho : nth ops i = some ⟨some d, .call { callee := .value x, args := xs, argTypes := ats }, ty, pos, after, none⟩ := by rfl) (hS : S.set i true = S' := by rfl) (hd : Nat.blt d n = true := by rfl)
    (hr : Region.ready .any ops.toArray S.toArray = [i] := by decide +kernel) : VA m P w0 gs n ops Q K L S (f + 1) := by
  intro hQ hd0 a w h1 h2 h3 h4
  refine ⟨fun h0 => absurd (hr.symm.trans h0) (by simp), fun j hj => ?_⟩
  rw [hr] at hj
  obtain rfl := List.mem_singleton.1 hj
  have ho' : ops.toArray[j]? = some ⟨some d, .call { callee := .value x, args := xs, argTypes := ats }, ty, pos, after, none⟩ := by simpa [nth_eq] using ho
  unfold wpOpIn
  rw [ho']
  have hd' : d < n := by simpa [Nat.blt_eq] using hd
  simp only [Region.wanted]
  rw [if_pos trivial]
  refine ⟨fun _ _ => trivial, ?_⟩
  rw [Oper.semAt_eq _ _ _ (by intro c hc; cases hc)]
  obtain ⟨fn, tmps, assign, body, h5, h6⟩ := hy w h4
  have hrun : (execOp a.eval ⟨some d, .call { callee := .value x, args := xs, argTypes := ats }, ty, pos, after, none⟩).run P w = .ok (.round l fn tmps assign body) w := by
    have e1 := h3.eval hx
    have e2 : xs.map a.eval = vs.toArray := by have h := h3.evals ha; apply Array.ext'; simpa using h
    simp only [execOp, resolve, e1, e2, Deferred.ofValue, Sem.run_bind, Sem.run_pure, Result.andThen_ok, invoke]
    simpa using h5
  rw [hrun]
  refine ⟨fun h => by simp [fw] at h, h6.mono ?_⟩
  intro e w' hR
  obtain ⟨b, rfl, hk⟩ := k w e w' h4 hR
  have := hk hQ hd0 (a.put (some d) (.bool b)) w' (by rw [put_defers]; exact h1) (by rw [put_size]; exact h2) (h3.put (by omega) _) (Me.refl w' [])
  subst hS
  simpa using this
end
theorem kin_kn {args : List Value} {n : Nat} (hle : args.length ≤ n) (t : Nat) (v : Value) (hv : lk (kin args 0) t = some v) : (args.toArray ++ Array.replicate (n - args.length) undef)[t]? = some v := by
  obtain ⟨j, h1, h2⟩ := kin_spec args 0 t v hv
  subst h1
  have hj : j < args.length := by
    rcases Nat.lt_or_ge j args.length with h | h
    · exact h
    · rw [List.getElem?_eq_none h] at h2; cases h2
  simp only [Nat.zero_add]
  rw [Array.getElem?_append_left (by simpa using hj)]
  simpa using h2
theorem callsIn_enter {m n : Nat} {P : Program} {f : FuncId} {fn : Func} {c : Code} {args : List Value} {w : World} {R : Ending → World → Prop} (hf : P.funcs[f]? = some fn) (hb : fn.body = some c) (hn : fn.ntmps = n) (hle : Nat.ble args.length n = true)
    (k : WI none m P w [] n c (bodyPost P fn R) (kin args 0) []) : CallsIn (fw none) m P f args.toArray w R := by
  refine callsIn_of_wp hf hb trivial ?_ rfl
  subst hn
  have hle' : args.length ≤ fn.ntmps := by simpa using hle
  exact k _ w rfl (by simp; omega) (kin_kn hle') (Me.refl w [])
theorem calls_enterM {n : Nat} (m : Nat) {P : Program} {f : FuncId} {fn : Func} {c : Code} {args : List Value} {w : World} {R : Ending → World → Prop} (hf : P.funcs[f]? = some fn) (hb : fn.body = some c) (hn : fn.ntmps = n) (hle : Nat.ble args.length n = true)
    (k : WC P w [] n c (bodyPostM Fence.wide m P fn R) (kin args 0) []) : Calls P f args.toArray w R := by
  refine (callsIn_wide (n := m)).1 (callsIn_of_wp_marks hf hb trivial ?_ rfl)
  refine wpIn_wide.2 ?_
  subst hn
  have hle' : args.length ≤ fn.ntmps := by simpa using hle
  exact k _ w rfl (by simp; omega) (kin_kn hle') (Me.refl w [])
/-- blocks that lie as they lay -/
def KeepB (ks : List Nat) (A B : World) : Prop := ∀ k ∈ ks, B.heap[k]? = A.heap[k]?
theorem KeepB.trans {ks : List Nat} {A B C : World} (h : KeepB ks A B) (k : KeepB ks B C) : KeepB ks A C := fun i hi => (k i hi).trans (h i hi)
theorem KeepB.seg {ks : List Nat} {A B : World} (h : KeepB ks A B) {b o : Nat} {cs : List Value} (hb : b ∈ ks) (hs : Seg A b o cs) : Seg B b o cs := fun i v hv => (World.cell?_of_block (a := ⟨b, o + i, none⟩) (h b hb)).trans (hs i v hv)
theorem KeepB.of_mod {ks gs : List Nat} {A B : World} (h : Mod gs A B) (hk : ∀ k ∈ ks, k < A.heap.size ∧ k ∉ gs) : KeepB ks A B := fun k hm => h.block k (hk k hm).1 (hk k hm).2
theorem KeepB.put {ks : List Nat} {n : Nat} (hk : ∀ k ∈ ks, k < n) (W : World) (l : Nat) (o o' : Obj) (hl : n ≤ l) (_ : W.heap[l]? = some o) (_ : o.isCells = false) (_ : o.isWalk = false) : KeepB ks W (W.putObj l o') := fun k hm => World.putObj_heap_other (by have := hk k hm; omega)
theorem Me.own {w0 : World} {L : List Ent} {A B : World} {row : Option Nat} {n : Nat} (h : Me w0 [] L A) (hn : w0.heap.size ≤ n) (hg : A.grownBy B row) (hr : ∀ r, row = some r → n ≤ r ∧ ∃ o : Obj, A.heap[r]? = some o ∧ o.isCells = false) : Me w0 [] L B := by
  have hb : Below w0.heap.size w0 B := h.mod.below.grown hg h.mod.size (fun k e => Nat.le_trans hn (hr k e).1)
  refine ⟨.of_below hb [], fun e he => (h.ok e he).keep ?_, h.mine, h.nodup⟩
  refine hg.block e.g (h.ok e he).lt (fun hk => ?_)
  obtain ⟨_, o, h1, h2⟩ := hr e.g hk.symm
  obtain ⟨t, fr, h3, _⟩ := h.ok e he
  rw [h1] at h3
  cases h3
  cases h2
theorem Ent.ok.own {e : Ent} {A B : World} {row : Option Nat} {n : Nat} (h : e.ok A) (hg : A.grownBy B row) (hr : ∀ r, row = some r → n ≤ r ∧ ∃ o : Obj, A.heap[r]? = some o ∧ o.isCells = false) : e.ok B := by
  refine h.keep (hg.block e.g h.lt (fun hk => ?_))
  obtain ⟨_, o, h1, h2⟩ := hr e.g hk.symm
  obtain ⟨t, fr, h3, _⟩ := h
  rw [h1] at h3
  cases h3
  cases h2
end Sx
end Go.Proofs.YtakkmakilfodoaaGreat
