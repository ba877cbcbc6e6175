/- Part 18 of the proof: SxX, MdA, MdB, MdC -/
import Derived.Test.YtiiacjladnljhaaGreatDoorM17
import Derived.RangeFuncNested
import Derived.OrdersIn
import Derived.TacticsIn
set_option linter.unusedSimpArgs false
set_option linter.unusedVariables false
namespace Go.Proofs.YtiiacjladnljhaaGreatDoor
open Go Go.RowKit Go.BigFrame
namespace Sx
def fw (ro:Option Nat):Fence:={ fn:=fun _=>True,depth:=none,alive:=false,round:=ro }
theorem callsIn_fw {ro:Option Nat} {m:Nat} {P:Program} {f:FuncId} {args:Array Value} {w:World} {R:Ending→World→Prop} (h:Calls P f args w R):CallsIn (fw ro) m P f args w R:=callsIn_wide.2 h
theorem rowsIn_fw {ro:Option Nat} {m:Nat} {P:Program} {f:String} {args:Array Value} {w:World} {R:Value→World→Prop} (h:Rows P f args w R):RowsIn (fw ro) m P f args w R :=
  fun c cs _=>let ⟨v,w',r,s⟩:=h c cs;⟨v,w',r,stepsIn_wide.2 s⟩
theorem oper_fw {ro:Option Nat} {m:Nat} {P:Program} {o:Oper} {a:Act} {w:World} {next:Act→World→Prop} {Q:Exit→Act→World→Prop} (hd:∀ c,o.op≠.defer c) (h:o.wp P a w next Q):o.wpIn (fw ro) m P a w next Q:=by
  refine⟨fun _ _=>trivial,?_⟩
  rw[Oper.semAt_eq _ _ _ hd]
  unfold Oper.wp at h
  generalize (execOp a.eval o).run P w=r at *
  cases r with
  | ok x w' =>
    cases x<;>simp only[Oper.upon,Oper.uponIn] at h ⊢ <;>
      first
        | exact h
        | exact⟨fun h=>by simp[fw] at h,callsIn_fw h⟩
        | exact⟨fun h=>by simp[fw] at h,rowsIn_fw h⟩
  | halt x w'=>cases x<;>simp only[Oper.upon,Oper.uponIn] at h ⊢<;>exact h
def nodef (l:List Oper):Bool:=l.all (fun o=>match o.op with|.defer _=>false|_=>true)
theorem nodef_at {l:List Oper} (h:nodef l=true):∀ o∈l,∀ c,o.op≠.defer c:=by
  intro o ho c hc
  have:=List.all_eq_true.1 h o ho
  rw[hc] at this
  cases this
theorem list_fw {ro:Option Nat} {m:Nat} {P:Program} {ops:Array Oper} {Q:Exit→Act→World→Prop} (hQ:¬ LetsOut Q):∀ {l:List Oper} {a:Act} {w:World},(∀ o∈l,∀ c,o.op≠.defer c)→wpList P ops Q l a w→wpListIn (fw ro) m P ops Q l a w
  | [],_,_,_,h=>h
  | o::r,a,w,hd,h=>by
    unfold wpList at h
    unfold wpListIn
    split at h
    · rename_i hw
      rw[if_pos hw]
      rcases h with h|h
      · exact Oper.wpIn_mono (fun a w h=>list_fw hQ (fun o ho=>hd o (by simp[ho])) h) (oper_fw (hd o (by simp)) h)
      · exact absurd h.2 hQ
    · rename_i hw
      rw[if_neg hw]
      exact⟨fun _ _=>trivial,list_fw hQ (fun o ho=>hd o (by simp[ho])) h⟩
section
variable (ro:Option Nat) (m:Nat) (P:Program) (w0:World) (gs:List Nat) (n:Nat)
def WI (c:Code) (Q:Exit→Act→World→Prop) (K:List (Nat × Value)) (L:List Ent):Prop :=
  ∀ a w,a.defers=[]→a.tmps.size=n→Kn K a→Me w0 gs L w→c.wpIn (fw ro) m P Q a w
end
section
variable {ro:Option Nat} {m:Nat} {P:Program} {w0:World} {gs:List Nat} {n:Nat} {Q:Exit→Act→World→Prop} {K:List (Nat × Value)} {L:List Ent}
theorem WI.skip (k:WX w0 gs n .normal Q K L):WI ro m P w0 gs n .skip Q K L:=fun a w h1 h2 h3 h4=>wpIn_skip (k a w h1 h2 h3 h4)
theorem WI.seq {x y:Code} (k:WI ro m P w0 gs n x (Exit.then (y.wpIn (fw ro) m P Q) Q) K L):WI ro m P w0 gs n (.seq x y) Q K L:=fun a w h1 h2 h3 h4=>wpIn_seq (k a w h1 h2 h3 h4)
theorem WI.condT {c:Operand} {x y:Code} (hc:ev K c=some (.bool true)) (k:WI ro m P w0 gs n x Q K L):WI ro m P w0 gs n (.cond c x y) Q K L:=fun a w h1 h2 h3 h4=>wpIn_cond_true (h3.eval hc) (k a w h1 h2 h3 h4)
theorem WI.condF {c:Operand} {x y:Code} (hc:ev K c=some (.bool false)) (k:WI ro m P w0 gs n y Q K L):WI ro m P w0 gs n (.cond c x y) Q K L:=fun a w h1 h2 h3 h4=>wpIn_cond_false (h3.eval hc) (k a w h1 h2 h3 h4)
theorem WI.region {id:Nat} {l:List Oper} (k:WO P w0 gs n l Q K L l) (hQ:¬ LetsOut Q) (hd:nodef l=true:=by rfl):WI ro m P w0 gs n (.region id l.toArray false) Q K L:=fun a w h1 h2 h3 h4 =>
  wpIn_region_lit (list_fw hQ (nodef_at hd) (k a w h1 h2 h3 h4))
theorem WI.block {id:Nat} {c:Code} (k:WI ro m P w0 gs n c (Exit.inBlock id Q) K L):WI ro m P w0 gs n (.block id c) Q K L:=fun a w h1 h2 h3 h4=>wpIn_block (k a w h1 h2 h3 h4)
theorem WI.exit {id:Nat} (k:WX w0 gs n (.exit id) Q K L):WI ro m P w0 gs n (.exit id) Q K L:=fun a w h1 h2 h3 h4=>wpIn_exit (k a w h1 h2 h3 h4)
theorem WI.ret (k:WX w0 gs n .ret Q K L):WI ro m P w0 gs n .ret Q K L:=fun a w h1 h2 h3 h4=>wpIn_ret (k a w h1 h2 h3 h4)
def MetW {σ:Type} (n:Nat) (Ks:σ→List (Nat × Value)) (Inv:σ→World→Prop) (ok:σ→Prop):Act→World→Prop:=fun a w=>∃ s,ok s∧a.defers=[]∧a.tmps.size=n∧Kn (Ks s) a∧Inv s w
theorem WI.loopW {σ:Type} {c:Code} (Ks:σ→List (Nat × Value)) (Inv:σ→World→Prop) (μ:σ→Nat) (s0:σ) (h0:∀ w,Me w0 gs L w→Inv s0 w) (hk:Kle (Ks s0) K)
    (k:∀ s w,Inv s w→WI ro m P w [] n c (Exit.then (MetW n Ks Inv (fun s'=>μ s' < μ s)) Q) (Ks s) []):WI ro m P w0 gs n (.loop c) Q K L:=fun a w h1 h2 h3 h4=>by
  refine wpIn_loop (fun a w=>∃ j s,μ s=j∧a.defers=[]∧a.tmps.size=n∧Kn (Ks s) a∧Inv s w) (fun a w=>leastOf (fun j=>∃ s,μ s=j∧a.defers=[]∧a.tmps.size=n∧Kn (Ks s) a∧Inv s w)) ⟨_,s0,rfl,h1,h2,hk.kn h3,h0 w h4⟩ ?_
  intro a w hI
  obtain⟨s,hs,g1,g2,g3,g4⟩:=(leastOf_spec hI).1
  refine wpIn_mono (k s w g4 a w g1 g2 g3 (Me.refl w [])) ?_
  intro e a' w' hq
  cases e with
  | normal =>
    obtain⟨s',hlt,hI'⟩:=hq
    refine show (∃ j s,μ s=j∧_)∧leastOf _<leastOf _ from ⟨⟨_,s',rfl,hI'⟩,Nat.lt_of_le_of_lt ((leastOf_spec ⟨_,s',rfl,hI'⟩).2 (μ s') ⟨s',rfl,hI'⟩) ?_⟩
    rw[← hs]
    exact hlt
  | _=>exact hq
theorem WX.metW {σ:Type} {Ks:σ→List (Nat × Value)} {Inv:σ→World→Prop} {ok:σ→Prop} (s:σ) (hs:ok s) (hk:Kle (Ks s) K) (hi:∀ w,Me w0 gs L w→Inv s w):WX w0 gs n .normal (Exit.then (MetW n Ks Inv ok) Q) K L :=
  fun _ w h1 h2 h3 h4=>⟨s,hs,h1,h2,hk.kn h3,hi w h4⟩
theorem WX.seqI {y:Code} {Q' : Exit→Act→World→Prop} (k:WI ro m P w0 gs n y Q K L):WX w0 gs n .normal (Exit.then (y.wpIn (fw ro) m P Q) Q') K L:=k
end
def dfA (ds:List Deferred) (a:Act):Act:={ a with defers:=a.defers++ds }
theorem dfA_put (ds:List Deferred) (a:Act) (d:Option Tmp) (v:Value):(dfA ds a).put d v=dfA ds (a.put d v):=by cases d<;>rfl
theorem list_df {P:Program} {ops:Array Oper} {Q:Exit→Act→World→Prop} (ds:List Deferred):∀ {l:List Oper} {a:Act} {w:World},wpList P ops (fun e a w=>Q e (dfA ds a) w) l a w→wpList P ops Q l (dfA ds a) w
  | [],_,_,h=>h
  | o::r,a,w,h=>by
    unfold wpList at h ⊢
    have ht:(dfA ds a).tmps=a.tmps:=rfl
    have he:(dfA ds a).eval=a.eval:=rfl
    rw[ht]
    split at h
    · rename_i hw
      rw[if_pos hw]
      rcases h with h|⟨h,hl⟩
      · refine .inl ?_
        unfold Oper.wp at h ⊢
        rw[he]
        generalize (execOp a.eval o).run P w=x at *
        cases x with
        | ok n w' =>
          cases n with
          | value v=>simp only[Oper.upon] at h ⊢;rw[dfA_put];exact list_df ds h
          | skip=>simp only[Oper.upon] at h ⊢;rw[dfA_put];exact list_df ds h
          | defer dd=>simp only[Oper.upon] at h ⊢;exact (dfA_put ds { a with defers:=dd::a.defers } o.dst undef) ▸ list_df ds h
          | enter f args =>
            simp only[Oper.upon] at h ⊢
            exact Calls.mono h (fun e w'' hq=>by
              cases e with
              | returned v=>simp only at hq ⊢;rw[dfA_put];exact list_df ds hq
              | panicked c=>exact hq
              | outgrown=>obtain⟨a',w',hq⟩:=hq;exact⟨_,w',hq⟩)
          | row f args=>simp only[Oper.upon] at h ⊢;exact Rows.mono h (fun v w'' hq=>by rw[dfA_put];exact list_df ds hq)
          | _=>simp only[Oper.upon] at h
        | halt x w'=>cases x<;>simp only[Oper.upon] at h ⊢<;>exact h
      · obtain⟨a',w',hl⟩:=hl
        exact .inr ⟨h,_,w',hl⟩
    · rename_i hw
      rw[if_neg hw,dfA_put]
      exact list_df ds h
theorem WO.tail {P:Program} {w0:World} {gs:List Nat} {n:Nat} {Q:Exit→Act→World→Prop} {K:List (Nat × Value)} {L:List Ent} {ds:List Deferred} {id:Nat} {l:List Oper} {c:Code} {a:Act} {w:World} (hd:a.defers=ds) (hs:a.tmps.size=n) (hk:Kn K a) (hm:Me w0 gs L w)
    (k:WO P w0 gs n l (fun e a w=>(Exit.then (c.wp P Q) Q) e (dfA ds a) w) K L l):(Code.seq (.region id l.toArray false) c).wp P Q a w:=by
  refine wp_seq (wp_region_lit ?_)
  have e:a=dfA ds { tmps:=a.tmps,defers:=[] }:=by
    cases a;subst hd;rfl
  rw[e]
  exact list_df ds (k { tmps:=a.tmps,defers:=[] } w rfl hs hk hm)
section
variable (m:Nat) (P:Program) (w0:World) (gs:List Nat) (n:Nat) (ops:List Oper) (Q:Exit→Act→World→Prop) (K:List (Nat × Value)) (L:List Ent)
def VA (S:List Bool) (f:Nat):Prop:=¬ LetsOut Q→nodef ops=true→∀ a w,a.defers=[]→a.tmps.size=n→Kn K a→Me w0 gs L w→wpAnyIn (fw none) m P .any ops.toArray Q f S.toArray a w
def EachV (S:List Bool) (f:Nat):List Nat→Prop
  | []=>True
  | i::r=>(∃ o,nth ops i=some o∧(¬ LetsOut Q→nodef ops=true→WO P w0 gs n ops (Qk (wpAnyIn (fw none) m P .any ops.toArray Q f (S.set i true).toArray) Q) K L [o]))∧EachV S f r
end
section
variable {m:Nat} {P:Program} {w0:World} {gs:List Nat} {n:Nat} {ops:List Oper} {Q:Exit→Act→World→Prop} {K:List (Nat × Value)} {L:List Ent}
theorem wpOpIn_Qk {i:Nat} {o:Oper} {a:Act} {w:World} {k:Act→World→Prop} {ops:Array Oper} (hQ:¬ LetsOut Q) (hd:∀ c,o.op≠.defer c) (ho:ops[i]?=some o) (h:wpList P ops (Qk k Q) [o] a w):wpOpIn (fw none) m P ops Q i k a w:=by
  unfold wpOpIn
  rw[ho]
  unfold wpList at h
  split at h
  · rename_i hw
    simp only[hw,if_true]
    rcases h with h|h
    · exact oper_fw hd (wp_Qk h)
    · exact absurd (Qk.out h.2) hQ
  · rename_i hw
    simp only[hw]
    exact⟨fun _ _=>trivial,h⟩
theorem EachV.at {S:List Bool} {f:Nat}:∀ {rs:List Nat},EachV m P w0 gs n ops Q K L S f rs→∀ i∈rs,∃ o,nth ops i=some o∧(¬ LetsOut Q→nodef ops=true→WO P w0 gs n ops (Qk (wpAnyIn (fw none) m P .any ops.toArray Q f (S.set i true).toArray) Q) K L [o])
  | i::r,h,j,hj=>by
    rcases List.mem_cons.1 hj with rfl|hj
    · exact h.1
    · exact EachV.at h.2 j hj
theorem VA.step {S:List Bool} {f:Nat} (rs:List Nat) (k:EachV m P w0 gs n ops Q K L S f rs) (hr:Region.ready .any ops.toArray S.toArray=rs:=by decide +kernel) (hne:rs≠[]:=by decide):VA m P w0 gs n ops Q K L S (f+1):=by
  intro hQ hd a w h1 h2 h3 h4
  refine⟨fun h0=>absurd (hr.symm.trans h0) hne,fun i hi=>?_⟩
  rw[hr] at hi
  obtain⟨o,ho,hk⟩:=k.at i hi
  have ho' : ops[i]?=some o:=by simpa [nth_eq] using ho
  have:=wpOpIn_Qk (m:=m) (k:=wpAnyIn (fw none) m P .any ops.toArray Q f (S.set i true).toArray) (Q:=Q) (ops:=ops.toArray) (i:=i) (o:=o) (P:=P) hQ (nodef_at hd o (List.mem_of_getElem? ho')) (by simpa using ho') (hk hQ hd a w h1 h2 h3 h4)
  simpa using this
theorem VA.done {S:List Bool} (k:WX w0 gs n .normal Q K L) (hr:Region.ready .any ops.toArray S.toArray=[]:=by decide +kernel):VA m P w0 gs n ops Q K L S 0:=fun _ _ a w h1 h2 h3 h4=>⟨hr,k a w h1 h2 h3 h4⟩
theorem EachV.nil {S:List Bool} {f:Nat}:EachV m P w0 gs n ops Q K L S f []:=trivial
theorem EachV.cons {S:List Bool} {f i:Nat} {r:List Nat} {o:Oper} (k:¬ LetsOut Q→nodef ops=true→WO P w0 gs n ops (Qk (wpAnyIn (fw none) m P .any ops.toArray Q f (S.set i true).toArray) Q) K L [o]) (kr:EachV m P w0 gs n ops Q K L S f r) (ho:nth ops i=some o:=by rfl):EachV m P w0 gs n ops Q K L S f (i::r):=⟨⟨o,ho,k⟩,kr⟩
theorem WX.va {S S' : List Bool} {f i:Nat} {Q' : Exit→Act→World→Prop} (k:VA m P w0 gs n ops Q K L S' f) (hQ:¬ LetsOut Q) (hd:nodef ops=true) (hS:S.set i true=S':=by rfl):WX w0 gs n .normal (Qk (wpAnyIn (fw none) m P .any ops.toArray Q f (S.set i true).toArray) Q') K L:=by
  subst hS
  exact k hQ hd
theorem VA.less {S:List Bool} {f:Nat} (K' : List (Nat × Value)) (L' : List Ent) (k:VA m P w0 gs n ops Q K' L' S f)
    (hk:Kle K' K:=by (repeat (first|exact Kle.nil|refine Kle.cons rfl rfl ?_)))
    (hl:Lle L' L:=by (repeat (first|exact Lle.nil|refine Lle.cons (by repeat (first|exact Pk.here|apply Pk.there)) rfl ?_))):VA m P w0 gs n ops Q K L S f:=fun hQ hd a w h1 h2 h3 h4=>k hQ hd a w h1 h2 (hk.kn h3) (hl.me h4)
theorem VA.all {id:Nat} {l:List Oper} [Mix P] (hQ:¬ LetsOut Q) (k:VA m P w0 gs n l Q K L (List.replicate l.length false) l.length) (hd:nodef l=true:=by rfl):WI none m P w0 gs n (.region id l.toArray true) Q K L:=by
  intro a w h1 h2 h3 h4
  refine wpIn_region_any Mix.out ?_
  have:=k hQ hd a { w with drawn:=w.drawn+1 } h1 h2 h3 h4.drawn
  simpa using this
theorem WI.headV {id:Nat} {l:List Oper} [Mix P] (K' : List (Nat × Value)) (L' : List Ent) (S' : List Bool) (f:Nat) (hQ:¬ LetsOut Q) (h:∀ Q,∀ A:List (Nat × Value)→List Ent→List Bool→Nat→Prop,(∀ K L S f,A K L S f↔VA m P w0 gs n l Q K L S f)→A K' L' S' f→A K L (List.replicate l.length false) l.length)
    (hC:VA m P w0 gs n l Q K' L' S' f) (hd:nodef l=true:=by rfl):WI none m P w0 gs n (.region id l.toArray true) Q K L:=VA.all hQ (h Q _ (fun _ _ _ _=>Iff.rfl) hC) hd
theorem VA.yield {S S' : List Bool} {f i d l:Nat} {x:Operand} {xs:Array Operand} {ats:Array TypeId} {ty:TypeId} {pos:String} {after:Array Edge} {vs:List Value} {R:World→Ending→World→Prop}
    (hx:ev K x=some (.func (.yield l) #[] #[])) (ha:evs K xs.toList=some vs)
    (hy:∀ w,Me w0 gs L w→YieldAt (fw none) (m - 1) P l vs.toArray w (R w))
    (k:∀ w e w',Me w0 gs L w→R w e w'→∃ b,e=.returned (.bool b)∧VA m P w' [] n ops Q ((d,.bool b)::K) [] S' f)
    (ho:nth ops i=some ⟨some d,.call { callee:=.value x,args:=xs,argTypes:=ats },ty,pos,after,none⟩:=by rfl) (hS:S.set i true=S':=by rfl) (hd:Nat.blt d n=true:=by rfl)
    (hr:Region.ready .any ops.toArray S.toArray=[i]:=by decide +kernel):VA m P w0 gs n ops Q K L S (f+1):=by
  intro hQ hd0 a w h1 h2 h3 h4
  refine⟨fun h0=>absurd (hr.symm.trans h0) (by simp),fun j hj=>?_⟩
  rw[hr] at hj
  obtain rfl:=List.mem_singleton.1 hj
  have ho' : ops.toArray[j]?=some ⟨some d,.call { callee:=.value x,args:=xs,argTypes:=ats },ty,pos,after,none⟩:=by simpa [nth_eq] using ho
  unfold wpOpIn
  rw[ho']
  have hd' : d<n:=by simpa [Nat.blt_eq] using hd
  simp only[Region.wanted]
  rw[if_pos trivial]
  refine⟨fun _ _=>trivial,?_⟩
  rw[Oper.semAt_eq _ _ _ (by intro c hc;cases hc)]
  obtain⟨fn,tmps,assign,body,h5,h6⟩:=hy w h4
  have hrun:(execOp a.eval ⟨some d,.call { callee:=.value x,args:=xs,argTypes:=ats },ty,pos,after,none⟩).run P w=.ok (.round l fn tmps assign body) w:=by
    have e1:=h3.eval hx
    have e2:xs.map a.eval=vs.toArray:=by have h:=h3.evals ha;apply Array.ext';simpa using h
    simp only[execOp,resolve,e1,e2,Deferred.ofValue,Sem.run_bind,Sem.run_pure,Result.andThen_ok,invoke]
    simpa using h5
  rw[hrun]
  refine⟨fun h=>by simp[fw] at h,h6.mono ?_⟩
  intro e w' hR
  obtain⟨b,rfl,hk⟩:=k w e w' h4 hR
  have:=hk hQ hd0 (a.put (some d) (.bool b)) w' (by rw[put_defers];exact h1) (by rw[put_size];exact h2) (h3.put (by omega) _) (Me.refl w' [])
  subst hS
  simpa using this
end
theorem kin_kn {args:List Value} {n:Nat} (hle:args.length≤n) (t:Nat) (v:Value) (hv:lk (kin args 0) t=some v):(args.toArray++Array.replicate (n - args.length) undef)[t]?=some v:=by
  obtain⟨j,h1,h2⟩:=kin_spec args 0 t v hv
  subst h1
  have hj:j<args.length:=by
    rcases Nat.lt_or_ge j args.length with h|h
    · exact h
    · rw[List.getElem?_eq_none h] at h2;cases h2
  simp only[Nat.zero_add]
  rw[Array.getElem?_append_left (by simpa using hj)]
  simpa using h2
theorem callsIn_enter {m n:Nat} {P:Program} {f:FuncId} {fn:Func} {c:Code} {args:List Value} {w:World} {R:Ending→World→Prop} (hf:P.funcs[f]?=some fn) (hb:fn.body=some c) (hn:fn.ntmps=n) (hle:Nat.ble args.length n=true)
    (k:WI none m P w [] n c (bodyPost P fn R) (kin args 0) []):CallsIn (fw none) m P f args.toArray w R:=by
  refine callsIn_of_wp hf hb trivial ?_ rfl
  subst hn
  have hle' : args.length≤fn.ntmps:=by simpa using hle
  exact k _ w rfl (by simp;omega) (kin_kn hle') (Me.refl w [])
theorem calls_enterM {n:Nat} (m:Nat) {P:Program} {f:FuncId} {fn:Func} {c:Code} {args:List Value} {w:World} {R:Ending→World→Prop} (hf:P.funcs[f]?=some fn) (hb:fn.body=some c) (hn:fn.ntmps=n) (hle:Nat.ble args.length n=true)
    (k:WC P w [] n c (bodyPostM Fence.wide m P fn R) (kin args 0) []):Calls P f args.toArray w R:=by
  refine (callsIn_wide (n:=m)).1 (callsIn_of_wp_marks hf hb trivial ?_ rfl)
  refine wpIn_wide.2 ?_
  subst hn
  have hle' : args.length≤fn.ntmps:=by simpa using hle
  exact k _ w rfl (by simp;omega) (kin_kn hle') (Me.refl w [])
def KeepB (ks:List Nat) (A B:World):Prop:=∀ k∈ks,B.heap[k]?=A.heap[k]?
theorem KeepB.trans {ks:List Nat} {A B C:World} (h:KeepB ks A B) (k:KeepB ks B C):KeepB ks A C:=fun i hi=>(k i hi).trans (h i hi)
theorem KeepB.seg {ks:List Nat} {A B:World} (h:KeepB ks A B) {b o:Nat} {cs:List Value} (hb:b∈ks) (hs:Seg A b o cs):Seg B b o cs:=fun i v hv=>(World.cell?_of_block (a:=⟨b,o+i,none⟩) (h b hb)).trans (hs i v hv)
theorem KeepB.of_mod {ks gs:List Nat} {A B:World} (h:Mod gs A B) (hk:∀ k∈ks,k<A.heap.size∧k ∉ gs):KeepB ks A B:=fun k hm=>h.block k (hk k hm).1 (hk k hm).2
theorem KeepB.put {ks:List Nat} {n:Nat} (hk:∀ k∈ks,k<n) (W:World) (l:Nat) (o o' : Obj) (hl:n≤l) (_:W.heap[l]?=some o) (_:o.isCells=false) (_:o.isWalk=false):KeepB ks W (W.putObj l o'):=fun k hm=>World.putObj_heap_other (by have:=hk k hm;omega)
theorem Me.own {w0:World} {L:List Ent} {A B:World} {row:Option Nat} {n:Nat} (h:Me w0 [] L A) (hn:w0.heap.size≤n) (hg:A.grownBy B row) (hr:∀ r,row=some r→n≤r∧∃ o:Obj,A.heap[r]?=some o∧o.isCells=false):Me w0 [] L B:=by
  have hb:Below w0.heap.size w0 B:=h.mod.below.grown hg h.mod.size (fun k e=>Nat.le_trans hn (hr k e).1)
  refine⟨.of_below hb [],fun e he=>(h.ok e he).keep ?_,h.mine,h.nodup⟩
  refine hg.block e.g (h.ok e he).lt (fun hk=>?_)
  obtain⟨_,o,h1,h2⟩:=hr e.g hk.symm
  obtain⟨t,fr,h3,_⟩:=h.ok e he
  rw[h1] at h3
  cases h3
  cases h2
theorem Ent.ok.own {e:Ent} {A B:World} {row:Option Nat} {n:Nat} (h:e.ok A) (hg:A.grownBy B row) (hr:∀ r,row=some r→n≤r∧∃ o:Obj,A.heap[r]?=some o∧o.isCells=false):e.ok B:=by
  refine h.keep (hg.block e.g h.lt (fun hk=>?_))
  obtain⟨_,o,h1,h2⟩:=hr e.g hk.symm
  obtain⟨t,fr,h3,_⟩:=h
  rw[h1] at h3
  cases h3
  cases h2
end Sx
end Go.Proofs.YtiiacjladnljhaaGreatDoor
namespace Go.Proofs.YtiiacjladnljhaaGreatDoor
open Go Go.RowKit
namespace Sx
attribute [local irreducible] wd DQ DQS WO WC WX
theorem cmpN_lt {a b:Nat} (h:a<b):cmpN a b = -1:=by unfold cmpN;rw[if_neg (by omega),if_pos h]
theorem cmpN_gt {a b:Nat} (h:b<a):cmpN a b=1:=by unfold cmpN;rw[if_neg (by omega),if_neg (by omega)]
theorem cmpN_eq {a b:Nat} (h:a=b):cmpN a b=0:=by unfold cmpN;rw[if_pos h]
theorem add_casesN {a b m:Nat} (ha:a<m) (hb:b<m) (hm:m<B256) :
    ((a+b) / B256=0∧bw ((a+b)%B256) m 0=1∧(a+b)%m=(a+b)%B256) ∨
    ((a+b) / B256=1∧(a+b)%m=((a+b)%B256+B256 - m)%B256) ∨
    ((a+b) / B256=0∧bw ((a+b)%B256) m 0=0∧(a+b)%m=((a+b)%B256+B256 - m)%B256):=by
  by_cases hc:a+b<B256
  · have e:(a+b)%B256=a+b:=Nat.mod_eq_of_lt hc
    rw[e]
    have e0:(a+b) / B256=0:=Nat.div_eq_of_lt hc
    by_cases h:a+b<m
    · exact .inl ⟨e0,by simp[bw];omega,Nat.mod_eq_of_lt h⟩
    · refine .inr (.inr ⟨e0,by simp[bw];omega,?_⟩)
      rw[Nat.mod_eq_sub_mod (by omega),Nat.mod_eq_of_lt (by omega),show a+b+B256 - m=(a+b - m)+B256 by omega,Nat.add_mod_right,Nat.mod_eq_of_lt (by omega)]
  · have e:(a+b)%B256=a+b - B256:=by rw[Nat.mod_eq_sub_mod (by omega),Nat.mod_eq_of_lt (by omega)]
    refine .inr (.inl ⟨?_,?_⟩)
    · rw[Nat.div_eq_iff B256_zero];omega
    · rw[e,Nat.mod_eq_sub_mod (by omega),Nat.mod_eq_of_lt (by omega),show a+b - B256+B256 - m=a+b - m by omega,Nat.mod_eq_of_lt (by omega)]
theorem sub_casesN {a b m:Nat} (ha:a<m) (hb:b<m) (hm:m<B256) :
    (bw a b 0=0∧(a+m - b)%m=(a+B256 - b)%B256)∨(bw a b 0=1∧(a+m - b)%m=((a+B256 - b)%B256+m)%B256):=by
  by_cases h:a<b
  · refine .inr ⟨by simp[bw];omega,?_⟩
    rw[Nat.mod_eq_of_lt (by omega:a+m - b<m),Nat.mod_eq_of_lt (by omega:a+B256 - b<B256),show a+B256 - b+m=(a+m - b)+B256 by omega,Nat.add_mod_right,Nat.mod_eq_of_lt (by omega)]
  · refine .inl ⟨by simp[bw];omega,?_⟩
    rw[show a+m - b=(a - b)+m by omega,Nat.add_mod_right,Nat.mod_eq_of_lt (by omega),show a+B256 - b=(a - b)+B256 by omega,Nat.add_mod_right,Nat.mod_eq_of_lt (by omega)]
theorem bw_two (a b c:Nat):bw a b c=0∨bw a b c=1:=by unfold bw;split<;>simp
theorem c_Add1 (a b m:Nat) (ha:a<m) (hb:b<m) (hm:m<B256):Fn Tryz.prog 228 [numV a,numV b,numV m] Tr (Is (numV ((a+b)%m))):=by
  have hc:=add_casesN ha hb hm
  have hA:=c_LAdd a b (by omega) (by omega)
  have hS:=c_LSub ((a+b)%B256) m (Nat.mod_lt _ B256_zero) hm
  have hl:=bw_two ((a+b)%B256) m 0
  generalize (a+b)%m=R at *
  generalize (a+b) / B256=c at *
  generalize ((a+b)%B256+B256 - m)%B256=y at *
  generalize bw ((a+b)%B256) m 0=l at *
  generalize (a+b)%B256=X at *
  rcases hc with ⟨rfl,rfl,rfl⟩|⟨rfl,rfl⟩|⟨rfl,rfl,rfl⟩
  · refine Fn.enter Tryz.func228 rfl rfl rfl ?_
    intro w hw
    repeat (first|refine Ta ?_|(refine Tm ?_;intro _)|refine WO.acall (hc:=hA) (k:=?_)|refine WO.acall (hc:=hS) (k:=?_)|refine Tc ?_|exact Tz)
  · rcases hl with rfl|rfl
    all_goals
      refine Fn.enter Tryz.func228 rfl rfl rfl ?_
      intro w hw
      repeat (first|refine Ta ?_|(refine Tm ?_;intro _)|refine WO.acall (hc:=hA) (k:=?_)|refine WO.acall (hc:=hS) (k:=?_)|refine Tc ?_|exact Tz)
  · refine Fn.enter Tryz.func228 rfl rfl rfl ?_
    intro w hw
    repeat (first|refine Ta ?_|(refine Tm ?_;intro _)|refine WO.acall (hc:=hA) (k:=?_)|refine WO.acall (hc:=hS) (k:=?_)|refine Tc ?_|exact Tz)
theorem c_Sub1 (a b m:Nat) (ha:a<m) (hb:b<m) (hm:m<B256):Fn Tryz.prog 230 [numV a,numV b,numV m] Tr (Is (numV ((a+m - b)%m))):=by
  have hc:=sub_casesN ha hb hm
  have hS:=c_LSub a b (by omega) (by omega)
  have hA:=c_LAdd ((a+B256 - b)%B256) m (Nat.mod_lt _ B256_zero) hm
  generalize (a+m - b)%m=R at *
  generalize ((a+B256 - b)%B256+m) / B256=c at *
  generalize ((a+B256 - b)%B256+m)%B256=y at *
  generalize bw a b 0=l at *
  generalize (a+B256 - b)%B256=X at *
  rcases hc with ⟨rfl,rfl⟩|⟨rfl,rfl⟩
  all_goals
    refine Fn.enter Tryz.func230 rfl rfl rfl ?_
    intro w hw
    repeat (first|refine Ta ?_|(refine Tm ?_;intro _)|refine WO.acall (hc:=hA) (k:=?_)|refine WO.acall (hc:=hS) (k:=?_)|refine Tc ?_|exact Tz)
def okE (c:Bool):Int:=if c then 0 else 1
def okV (c:Bool) (r:Nat):Nat:=if c then r else 0
def mayN (a b m:Nat):Bool:=decide (1<m) && decide (a<m) && decide (b<m)
theorem mayN_cases (a b m:Nat):(1<m∧a<m∧b<m∧mayN a b m=true∧cmpN m 1=1∧cmpN a m = -1∧cmpN b m = -1) ∨
    (mayN a b m=false∧((cmpN m 1=0∨cmpN m 1 = -1)∨(cmpN m 1=1∧(cmpN a m=0∨cmpN a m=1))∨(cmpN m 1=1∧cmpN a m = -1∧(cmpN b m=0∨cmpN b m=1)))):=by
  unfold mayN cmpN
  by_cases h1:1<m
  · by_cases h2:a<m
    · by_cases h3:b<m
      · refine .inl ⟨h1,h2,h3,by simp[h1,h2,h3],?_,?_,?_⟩
        · rw[if_neg (by omega),if_neg (by omega)]
        · rw[if_neg (by omega),if_pos h2]
        · rw[if_neg (by omega),if_pos h3]
      · refine .inr ⟨by simp[h3],.inr (.inr ⟨?_,?_,?_⟩)⟩
        · rw[if_neg (by omega),if_neg (by omega)]
        · rw[if_neg (by omega),if_pos h2]
        · by_cases e:b=m
          · exact .inl (if_pos e)
          · exact .inr (by rw[if_neg e,if_neg h3])
    · refine .inr ⟨by simp[h2],.inr (.inl ⟨?_,?_⟩)⟩
      · rw[if_neg (by omega),if_neg (by omega)]
      · by_cases e:a=m
        · exact .inl (if_pos e)
        · exact .inr (by rw[if_neg e,if_neg h2])
  · refine .inr ⟨by simp[h1],.inl ?_⟩
    by_cases e:m=1
    · exact .inl (if_pos e)
    · exact .inr (by rw[if_neg e,if_pos (by omega)])
set_option maxHeartbeats 1000000 in
theorem c_of {f:Nat} [Cal Tryz.prog f] (caps:List Value) (a b m r:Nat) (ha:a<B256) (hb:b<B256) (hm:m<B256) (R:World→Prop) (hst:Stable R)
    (hf:mayN a b m=true→Fn Tryz.prog f ([numV a,numV b,numV m]++caps) R (Is (numV r))) :
    Fn Tryz.prog 168 [.agg #[.func (.func f) #[] caps.toArray],numV a,numV b,numV m] R (Is (.tuple #[numV (okV (mayN a b m) r),.int .i64 (okE (mayN a b m))])):=by
  have hC1:=c_Cmp m 1 hm B256_one'
  have hC2:=c_Cmp a m ha hm
  have hC3:=c_Cmp b m hb hm
  rcases mayN_cases a b m with ⟨h1,h2,h3,hy,e1,e2,e3⟩|⟨hn,hc⟩
  · have hF:=hf hy
    rw[hy]
    rw[e1] at hC1;rw[e2] at hC2;rw[e3] at hC3
    refine Fn.enter Tryz.func168 rfl rfl rfl ?_
    intro w hw
    repeat (first|refine Ta ?_|(refine Tm ?_;intro _)|refine Tc ?_|exact Tz)
    refine WC.adraw 16 (k:=?_)
    repeat (first|refine Da ?_|refine DQ.acall (hc:=c_Of1) (k:=?_)|refine DQ.acall (hc:=hC1) (k:=?_)|refine DQ.acall (hc:=hC2) (k:=?_)|refine DQ.acall (hc:=hC3) (k:=?_)|refine Dc ?_)
    refine DQ.anil (k:=?_)
    intro sx _
    repeat (first|refine Ta ?_|(refine Tm ?_;intro _)|refine WO.acallV (hc:=hF) (hR:=fun w' hm=>hst _ _ hw hm.mod.below) (k:=?_)|refine Tc ?_|exact Tz)
  · rw[hn]
    rcases hc with (e1|e1)|⟨e1,e2|e2⟩|⟨e1,e2,e3|e3⟩
    · rw[e1] at hC1
      refine Fn.enter Tryz.func168 rfl rfl rfl ?_
      intro w hw
      repeat (first|refine Ta ?_|(refine Tm ?_;intro _)|refine Tc ?_|exact Tz)
      refine WC.adraw 16 (k:=?_)
      repeat (first|refine Da ?_|refine DQ.acall (hc:=c_Of1) (k:=?_)|refine DQ.acall (hc:=hC1) (k:=?_)|refine DQ.acall (hc:=hC2) (k:=?_)|refine DQ.acall (hc:=hC3) (k:=?_)|refine Dc ?_)
      refine DQ.anil (k:=?_)
      intro sx _
      repeat (first|refine Ta ?_|(refine Tm ?_;intro _)|refine Tc ?_|exact Tz)
    · rw[e1] at hC1
      refine Fn.enter Tryz.func168 rfl rfl rfl ?_
      intro w hw
      repeat (first|refine Ta ?_|(refine Tm ?_;intro _)|refine Tc ?_|exact Tz)
      refine WC.adraw 16 (k:=?_)
      repeat (first|refine Da ?_|refine DQ.acall (hc:=c_Of1) (k:=?_)|refine DQ.acall (hc:=hC1) (k:=?_)|refine DQ.acall (hc:=hC2) (k:=?_)|refine DQ.acall (hc:=hC3) (k:=?_)|refine Dc ?_)
      refine DQ.anil (k:=?_)
      intro sx _
      repeat (first|refine Ta ?_|(refine Tm ?_;intro _)|refine Tc ?_|exact Tz)
    · rw[e1] at hC1;rw[e2] at hC2
      refine Fn.enter Tryz.func168 rfl rfl rfl ?_
      intro w hw
      repeat (first|refine Ta ?_|(refine Tm ?_;intro _)|refine Tc ?_|exact Tz)
      refine WC.adraw 16 (k:=?_)
      repeat (first|refine Da ?_|refine DQ.acall (hc:=c_Of1) (k:=?_)|refine DQ.acall (hc:=hC1) (k:=?_)|refine DQ.acall (hc:=hC2) (k:=?_)|refine DQ.acall (hc:=hC3) (k:=?_)|refine Dc ?_)
      refine DQ.anil (k:=?_)
      intro sx _
      repeat (first|refine Ta ?_|(refine Tm ?_;intro _)|refine Tc ?_|exact Tz)
    · rw[e1] at hC1;rw[e2] at hC2
      refine Fn.enter Tryz.func168 rfl rfl rfl ?_
      intro w hw
      repeat (first|refine Ta ?_|(refine Tm ?_;intro _)|refine Tc ?_|exact Tz)
      refine WC.adraw 16 (k:=?_)
      repeat (first|refine Da ?_|refine DQ.acall (hc:=c_Of1) (k:=?_)|refine DQ.acall (hc:=hC1) (k:=?_)|refine DQ.acall (hc:=hC2) (k:=?_)|refine DQ.acall (hc:=hC3) (k:=?_)|refine Dc ?_)
      refine DQ.anil (k:=?_)
      intro sx _
      repeat (first|refine Ta ?_|(refine Tm ?_;intro _)|refine Tc ?_|exact Tz)
    · rw[e1] at hC1;rw[e2] at hC2;rw[e3] at hC3
      refine Fn.enter Tryz.func168 rfl rfl rfl ?_
      intro w hw
      repeat (first|refine Ta ?_|(refine Tm ?_;intro _)|refine Tc ?_|exact Tz)
      refine WC.adraw 16 (k:=?_)
      repeat (first|refine Da ?_|refine DQ.acall (hc:=c_Of1) (k:=?_)|refine DQ.acall (hc:=hC1) (k:=?_)|refine DQ.acall (hc:=hC2) (k:=?_)|refine DQ.acall (hc:=hC3) (k:=?_)|refine Dc ?_)
      refine DQ.anil (k:=?_)
      intro sx _
      repeat (first|refine Ta ?_|(refine Tm ?_;intro _)|refine Tc ?_|exact Tz)
    · rw[e1] at hC1;rw[e2] at hC2;rw[e3] at hC3
      refine Fn.enter Tryz.func168 rfl rfl rfl ?_
      intro w hw
      repeat (first|refine Ta ?_|(refine Tm ?_;intro _)|refine Tc ?_|exact Tz)
      refine WC.adraw 16 (k:=?_)
      repeat (first|refine Da ?_|refine DQ.acall (hc:=c_Of1) (k:=?_)|refine DQ.acall (hc:=hC1) (k:=?_)|refine DQ.acall (hc:=hC2) (k:=?_)|refine DQ.acall (hc:=hC3) (k:=?_)|refine Dc ?_)
      refine DQ.anil (k:=?_)
      intro sx _
      repeat (first|refine Ta ?_|(refine Tm ?_;intro _)|refine Tc ?_|exact Tz)
end Sx
end Go.Proofs.YtiiacjladnljhaaGreatDoor
namespace Go.Proofs.YtiiacjladnljhaaGreatDoor
open Go Go.RowKit
namespace Sx
attribute [local irreducible] wd DQ DQS WO WC WX
theorem mayN_spec {a b m:Nat} (h:mayN a b m=true):1<m∧a<m∧b<m:=by
  unfold mayN at h;simp at h;exact⟨h.1.1,h.1.2,h.2⟩
abbrev rE (c:Bool) (r:Nat):Value:=.tuple #[numV (okV c r),.int .i64 (okE c)]
theorem c_Add (a b m:Nat) (ha:a<B256) (hb:b<B256) (hm:m<B256):Fn Tryz.prog 183 [numV a,numV b,numV m] Tr (Is (rE (mayN a b m) ((a+b)%m))):=by
  have hO:=c_of (f:=228) [] a b m ((a+b)%m) ha hb hm Tr Stable.tr (fun h=>c_Add1 a b m (mayN_spec h).2.1 (mayN_spec h).2.2 hm)
  refine Fn.enter Tryz.func183 rfl rfl rfl ?_
  intro w hw
  repeat (first|refine Ta ?_|(refine Tm ?_;intro _)|refine WO.acall (hc:=hO) (k:=?_)|refine Tc ?_|exact Tz)
theorem c_Sub (a b m:Nat) (ha:a<B256) (hb:b<B256) (hm:m<B256):Fn Tryz.prog 184 [numV a,numV b,numV m] Tr (Is (rE (mayN a b m) ((a+m - b)%m))):=by
  have hO:=c_of (f:=230) [] a b m ((a+m - b)%m) ha hb hm Tr Stable.tr (fun h=>c_Sub1 a b m (mayN_spec h).2.1 (mayN_spec h).2.2 hm)
  refine Fn.enter Tryz.func184 rfl rfl rfl ?_
  intro w hw
  repeat (first|refine Ta ?_|(refine Tm ?_;intro _)|refine WO.acall (hc:=hO) (k:=?_)|refine Tc ?_|exact Tz)
theorem c_Mul (a b m:Nat) (ha:a<B256) (hb:b<B256) (hm:m<B256):Fn Tryz.prog 194 [numV a,numV b,numV m] Tr (Is (rE (mayN a b m) (a*b%m))):=by
  have hO:=c_of (f:=167) [] a b m (a*b%m) ha hb hm Tr Stable.tr (fun h=>c_times a b m (mayN_spec h).2.1 (mayN_spec h).2.2 hm)
  refine Fn.enter Tryz.func194 rfl rfl rfl ?_
  intro w hw
  repeat (first|refine Ta ?_|(refine Tm ?_;intro _)|refine WO.acall (hc:=hO) (k:=?_)|refine Tc ?_|exact Tz)
def topB (n N k:Nat):Nat:=n / 2 ^ (N - k)
theorem topB_start {n N:Nat} (h:n<2 ^ N):topB n N 0=0:=Nat.div_eq_of_lt (by simpa using h)
theorem topB_end (n N:Nat):topB n N N=n:=by unfold topB;simp
theorem topB_step (n:Nat) {N k:Nat} (h:k<N):topB n N (k+1)=2*topB n N k+bitN n (N - 1 - k):=by
  unfold topB bitN
  have e:N - k=(N - 1 - k)+1:=by omega
  have e2:N - (k+1)=N - 1 - k:=by omega
  rw[e2,e,Nat.pow_succ,← Nat.div_div_eq_div_mul]
  omega
theorem pow_round (a m t b:Nat) (hb:b=0∨b=1):a ^ (2*t+b)%m=if b=1 then (a ^ t%m*(a ^ t%m)%m)*a%m else a ^ t%m*(a ^ t%m)%m:=by
  have h1:a ^ (2*t)%m=a ^ t%m*(a ^ t%m)%m:=by rw[Nat.two_mul,Nat.pow_add,Nat.mul_mod]
  rcases hb with rfl|rfl
  · simpa using h1
  · rw[if_pos rfl,Nat.pow_succ,Nat.mul_mod,h1,Nat.mul_mod_mod]
theorem bitN_two (a i:Nat):bitN a i=0∨bitN a i=1:=by unfold bitN;omega
end Sx
end Go.Proofs.YtiiacjladnljhaaGreatDoor
namespace Go.Proofs.YtiiacjladnljhaaGreatDoor
open Go Go.RowKit
namespace Sx
attribute [local irreducible] wd DQ DQS WO WC WX
theorem lt_two_pow_bitsN (n:Nat):n<2 ^ bitsN n:=lt_bitsN n
theorem bitsN_256 {n:Nat} (h:n<B256):bitsN n≤256:=bitsN_le (by simpa [B256] using h)
theorem c_powerW {f:Nat} [Cal Tryz.prog f] (caps:List Value) (a n m:Nat) (h1:1<m) (ha:a<m) (hn:n<B256) (hm:m<18446744073709551616) (R:World→Prop) (hst:Stable R)
    (hf:∀ x y:Nat,x<m→y<m→Fn Tryz.prog f ([.int .u64 (x:Int),.int .u64 (y:Int)]++caps) R (Is (.int .u64 ((x*y%m:Nat):Int)))) :
    Fn Tryz.prog 162 [.int .u64 (a:Int),.int .u64 1,numV n,.func (.func f) #[] caps.toArray] R (Is (.int .u64 ((a ^ n%m:Nat):Int))):=by
  have hB:=c_Bits n hn
  have hlt:=lt_two_pow_bitsN n
  have hN:=bitsN_256 hn
  have hbit:∀ i:Int,0≤i→i≤1000000→Fn Tryz.prog 218 [numV n,.int .i64 i] Tr (Is (.int .u64 (bitN n i.toNat:Nat))):=fun i h0 h1=>c_Bit n i hn h0 h1
  have hend:=topB_end n (bitsN n)
  have hst0:=topB_start hlt
  have hstep:=fun k (h:k<bitsN n)=>topB_step n h
  generalize bitsN n=N at *
  refine Fn.enter Tryz.func162 rfl rfl rfl ?_
  intro w hw
  repeat (first|refine Ta ?_|(refine Tm ?_;intro _)|refine WO.acall (hc:=hB) (k:=?_)|refine Tc ?_|exact Tz)
  rename_i g6
  refine WC.loopI (σ:=Nat × Nat) (fun s=>s.1≤N∧s.2=a ^ topB n N s.1%m) (fun s=>[(0,.int .u64 (a:Int)),(3,.func (.func f) #[] caps.toArray),(6,pt g6),(9,.int .u64 (s.2:Int)),(13,.int .i64 (N:Int)),(14,.int .i64 (s.1:Int))]) (fun s=>[⟨g6,24,numC n⟩]) (fun s=>N - s.1) (0,1) (fun s hs=>?_) ⟨Nat.zero_le _,by rw[hst0,Nat.pow_zero,Nat.mod_eq_of_lt h1]⟩
  obtain⟨k,x⟩:=s
  obtain⟨hk,hx⟩:=hs
  dsimp only at hk hx ⊢
  have hxm:x<m:=by rw[hx];exact Nat.mod_lt _ (by omega)
  by_cases hlt:(k:Int)<(N:Int)
  · have hkN:k<N:=by omega
    have hsq:=hf x x hxm hxm
    have hma:=hf (x*x%m) a (Nat.mod_lt _ (by omega)) ha
    have hbt:=hbit ((N:Int) - 1 - (k:Int)) (by omega) (by omega)
    rw[show ((N:Int) - 1 - (k:Int)).toNat=N - 1 - k by omega] at hbt
    have hp:=pow_round a m (topB n N k) (bitN n (N - 1 - k)) (bitN_two _ _)
    rw[← hstep k hkN,← hx] at hp
    repeat (first|refine Ta ?_|(refine Tm ?_;intro _)|refine Tc ?_|exact Tz)
    refine WC.dT rfl hlt ?_
    repeat (first|refine Ta ?_|(refine Tm ?_;intro _)|refine WO.acallV (hc:=hsq) (hR:=fun w' hm=>hst _ _ hw hm.mod.below) (k:=?_)|refine Tc ?_|exact Tz)
    rcases bitN_two n (N - 1 - k) with e|e
    · rw[e] at hbt hp
      refine WC.adraw 8 (k:=?_)
      repeat (first|refine Da ?_|refine DQ.acall (hc:=hB) (k:=?_)|refine DQ.acall (hc:=hbt) (k:=?_)|refine Dc ?_)
      refine DQ.anil (k:=?_)
      intro sx _
      repeat (first|refine Ta ?_|(refine Tm ?_;intro _)|refine Tc ?_|exact Tz)
      refine WX.metI (k+1,x*x%m) (hs:=⟨⟨by omega,by simpa using hp.symm⟩,by simp only;omega⟩)
    · rw[e] at hbt hp
      refine WC.adraw 8 (k:=?_)
      repeat (first|refine Da ?_|refine DQ.acall (hc:=hB) (k:=?_)|refine DQ.acall (hc:=hbt) (k:=?_)|refine Dc ?_)
      refine DQ.anil (k:=?_)
      intro sx _
      repeat (first|refine Ta ?_|(refine Tm ?_;intro _)|refine WO.acallV (hc:=hma) (hR:=fun w' hm=>hst _ _ hw hm.mod.below) (k:=?_)|refine Tc ?_|exact Tz)
      refine WX.metI (k+1,x*x%m*a%m) (hs:=⟨⟨by omega,by simpa using hp.symm⟩,by simp only;omega⟩)
  · have hkN:k=N:=by omega
    subst hkN
    rw[hend] at hx
    subst hx
    repeat (first|refine Ta ?_|(refine Tm ?_;intro _)|refine Tc ?_|exact Tz)
    refine WC.dF rfl hlt ?_
    repeat (first|refine Ta ?_|(refine Tm ?_;intro _)|refine Tc ?_|exact Tz)
end Sx
end Go.Proofs.YtiiacjladnljhaaGreatDoor
