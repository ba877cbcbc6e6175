/- Part 12 of the proof. -/
import Derived.Test.YtiaibpcaloigkaaGreatDoorG06
import Derived.RangeFuncNested
import Derived.OrdersIn
import Derived.TacticsIn
import Derived.LoopN
set_option linter.unusedSimpArgs false
set_option linter.unusedVariables false
namespace Go.Proofs.YtiaibpcaloigkaaGreatDoor
section
open Go Go.RowKit Go.BigFrame
namespace Sx
def fw (ro:Option Nat):Fence:={ fn:=fun _=>True,depth:=none,alive:=false,round:=ro }
theorem iZ {ro:Option Nat} {m:Nat} {P:Program} {f:FuncId} {args:Array Value} {w:World} {R:Ending→World→Prop} (h:Calls P f args w R):CallsIn (fw ro) m P f args w R:=callsIn_wide.2 h
theorem eM {ro:Option Nat} {m:Nat} {P:Program} {f:String} {args:Array Value} {w:World} {R:Value→World→Prop} (h:Rows P f args w R):RowsIn (fw ro) m P f args w R :=
 fun c cs _=>let ⟨v,w',r,s⟩:=h c cs;⟨v,w',r,stepsIn_wide.2 s⟩
theorem rx {ro:Option Nat} {m:Nat} {P:Program} {o:Oper} {a:Act} {w:World} {next:Act→World→Prop} {Q:Exit→Act→World→Prop} (hd:∀ c,o.op≠.defer c) (h:o.wp P a w next Q):o.wpIn (fw ro) m P a w next Q:=by
 refine⟨fun _ _=>trivial,?_⟩;rw[Oper.semAt_eq _ _ _ hd];unfold Oper.wp at h;generalize (execOp a.eval o).run P w=r at *;cases r with
 | ok x w' =>
  cases x<;>simp only[Oper.upon,Oper.uponIn] at h ⊢ <;>
   first
    | exact h
    | exact⟨fun h=>by simp[fw] at h,iZ h⟩
    | exact⟨fun h=>by simp[fw] at h,eM h⟩
 | halt x w'=>cases x<;>simp only[Oper.upon,Oper.uponIn] at h ⊢<;>exact h
def tq (l:List Oper):Bool:=l.all (fun o=>match o.op with|.defer _=>false|_=>true)
theorem tm {l:List Oper} (h:tq l=true):∀ o∈l,∀ c,o.op≠.defer c:=by
 intro o ho c hc;have:=List.all_eq_true.1 h o ho;rw[hc] at this;cases this
theorem oF {ro:Option Nat} {m:Nat} {P:Program} {ops:Array Oper} {Q:Exit→Act→World→Prop} (hQ:¬ LetsOut Q):∀ {l:List Oper} {a:Act} {w:World},(∀ o∈l,∀ c,o.op≠.defer c)→wpList P ops Q l a w→wpListIn (fw ro) m P ops Q l a w
 | [],_,_,_,h=>h
 | o::r,a,w,hd,h=>by
  unfold wpList at h;unfold wpListIn
  split at h
  ·rename_i hw;rw[if_pos hw]
   rcases h with h|h
   ·exact Oper.wpIn_mono (fun a w h=>oF hQ (fun o ho=>hd o (by simp[ho])) h) (rx (hd o Sm) h)
   ·exact absurd h.2 hQ
  ·rename_i hw;rw[if_neg hw];exact⟨fun _ _=>trivial,oF hQ (fun o ho=>hd o (by simp[ho])) h⟩
section
variable (ro:Option Nat) (m:Nat) (P:Program) (w0:World) (gs:LN) (n:Nat)
def WI (c:Code) (Q:Exit→Act→World→Prop) (K:List (Nat × Value)) (L:List Ent):Prop :=
 ∀ a w,a.defers=[]→a.tmps.size=n→Kn K a→Me w0 gs L w→c.wpIn (fw ro) m P Q a w
end
section
variable {ro:Option Nat} {m:Nat} {P:Program} {w0:World} {gs:LN} {n:Nat} {Q:Exit→Act→World→Prop} {K:List (Nat × Value)} {L:List Ent}
theorem WI.skip (k:WX w0 gs n .normal Q K L):WI ro m P w0 gs n .skip Q K L:=fun a w h1 h2 h3 h4=>wpIn_skip (k a w h1 h2 h3 h4)
theorem WI.seq {x y:Code} (k:WI ro m P w0 gs n x (Exit.then (y.wpIn (fw ro) m P Q) Q) K L):WI ro m P w0 gs n (.seq x y) Q K L:=fun a w h1 h2 h3 h4=>wpIn_seq (k a w h1 h2 h3 h4)
theorem WI.condT {c:Operand} {x y:Code} (hc:ev K c=some (.bool true)) (k:WI ro m P w0 gs n x Q K L):WI ro m P w0 gs n (.cond c x y) Q K L:=fun a w h1 h2 h3 h4=>wpIn_cond_true (h3.eval hc) (k a w h1 h2 h3 h4)
theorem WI.condF {c:Operand} {x y:Code} (hc:ev K c=some (.bool false)) (k:WI ro m P w0 gs n y Q K L):WI ro m P w0 gs n (.cond c x y) Q K L:=fun a w h1 h2 h3 h4=>wpIn_cond_false (h3.eval hc) (k a w h1 h2 h3 h4)
theorem WI.region {id:Nat} {l:List Oper} (k:WO P w0 gs n l Q K L l) (hQ:¬ LetsOut Q) (hd:tq l=true:=by rfl):WI ro m P w0 gs n (.region id l.toArray false) Q K L:=fun a w h1 h2 h3 h4 =>
 wpIn_region_lit (oF hQ (tm hd) (k a w h1 h2 h3 h4))
theorem WI.block {id:Nat} {c:Code} (k:WI ro m P w0 gs n c (Exit.inBlock id Q) K L):WI ro m P w0 gs n (.block id c) Q K L:=fun a w h1 h2 h3 h4=>wpIn_block (k a w h1 h2 h3 h4)
theorem WI.exit {id:Nat} (k:WX w0 gs n (.exit id) Q K L):WI ro m P w0 gs n (.exit id) Q K L:=fun a w h1 h2 h3 h4=>wpIn_exit (k a w h1 h2 h3 h4)
theorem WI.ret (k:WX w0 gs n .ret Q K L):WI ro m P w0 gs n .ret Q K L:=fun a w h1 h2 h3 h4=>wpIn_ret (k a w h1 h2 h3 h4)
def ahK {σ:Type} (n:Nat) (Ks:σ→List (Nat × Value)) (Inv:σ→World→Prop) (ok:σ→Prop):Act→World→Prop:=fun a w=>∃ s,ok s∧a.defers=[]∧a.tmps.size=n∧Kn (Ks s) a∧Inv s w
theorem WI.loopW {σ:Type} {c:Code} (Ks:σ→List (Nat × Value)) (Inv:σ→World→Prop) (μ:σ→Nat) (s0:σ) (h0:∀ w,Me w0 gs L w→Inv s0 w) (hk:Kle (Ks s0) K)
  (k:∀ s w,Inv s w→WI ro m P w [] n c (Exit.then (ahK n Ks Inv (fun s'=>μ s' < μ s)) Q) (Ks s) []):WI ro m P w0 gs n (.loop c) Q K L:=fun a w h1 h2 h3 h4=>by
 refine wpIn_loop (fun a w=>∃ j s,μ s=j∧a.defers=[]∧a.tmps.size=n∧Kn (Ks s) a∧Inv s w) (fun a w=>leastOf (fun j=>∃ s,μ s=j∧a.defers=[]∧a.tmps.size=n∧Kn (Ks s) a∧Inv s w)) ⟨_,s0,rfl,h1,h2,hk.kn h3,h0 w h4⟩ ?_;intro a w hI;obtain⟨s,hs,g1,g2,g3,g4⟩:=(leastOf_spec hI).1;refine wpIn_mono (k s w g4 a w g1 g2 g3 (Me.refl w [])) ?_;intro e a' w' hq;cases e with
 | normal =>
  obtain⟨s',hlt,hI'⟩:=hq;refine show (∃ j s,μ s=j∧_)∧leastOf _<leastOf _ from ⟨⟨_,s',rfl,hI'⟩,Nat.lt_of_le_of_lt ((leastOf_spec ⟨_,s',rfl,hI'⟩).2 (μ s') ⟨s',rfl,hI'⟩) ?_⟩;rw[← hs];exact hlt
 | _=>exact hq
theorem WX.metW {σ:Type} {Ks:σ→List (Nat × Value)} {Inv:σ→World→Prop} {ok:σ→Prop} (s:σ) (hs:ok s) (hk:Kle (Ks s) K) (hi:∀ w,Me w0 gs L w→Inv s w):WX w0 gs n .normal (Exit.then (ahK n Ks Inv ok) Q) K L :=
 fun _ w h1 h2 h3 h4=>⟨s,hs,h1,h2,hk.kn h3,hi w h4⟩
theorem WX.seqI {y:Code} {Q' : Exit→Act→World→Prop} (k:WI ro m P w0 gs n y Q K L):WX w0 gs n .normal (Exit.then (y.wpIn (fw ro) m P Q) Q') K L:=k
end
def dfA (ds:List Deferred) (a:Act):Act:={ a with defers:=a.defers++ds }
theorem tE (ds:List Deferred) (a:Act) (d:Option Tmp) (v:Value):(dfA ds a).put d v=dfA ds (a.put d v):=by cases d<;>rfl
theorem uA {P:Program} {ops:Array Oper} {Q:Exit→Act→World→Prop} (ds:List Deferred):∀ {l:List Oper} {a:Act} {w:World},wpList P ops (fun e a w=>Q e (dfA ds a) w) l a w→wpList P ops Q l (dfA ds a) w
 | [],_,_,h=>h
 | o::r,a,w,h=>by
  unfold wpList at h ⊢;have ht:(dfA ds a).tmps=a.tmps:=rfl;have he:(dfA ds a).eval=a.eval:=rfl;rw[ht]
  split at h
  ·rename_i hw;rw[if_pos hw]
   rcases h with h|⟨h,hl⟩
   ·refine .inl ?_;unfold Oper.wp at h ⊢;rw[he];generalize (execOp a.eval o).run P w=x at *;cases x with
    | ok n w' =>
     cases n with
     | value v=>simp only[Oper.upon] at h ⊢;rw[tE];exact uA ds h
     | skip=>simp only[Oper.upon] at h ⊢;rw[tE];exact uA ds h
     | defer dd=>simp only[Oper.upon] at h ⊢;exact (tE ds { a with defers:=dd::a.defers } o.dst undef) ▸ uA ds h
     | enter f args =>
      simp only[Oper.upon] at h ⊢;exact Calls.mono h (fun e w'' hq=>by
       cases e with
       | returned v=>simp only at hq ⊢;rw[tE];exact uA ds hq
       | panicked c=>exact hq
       | outgrown=>obtain⟨a',w',hq⟩:=hq;exact⟨_,w',hq⟩)
     | row f args=>simp only[Oper.upon] at h ⊢;exact Rows.mono h (fun v w'' hq=>by rw[tE];exact uA ds hq)
     | _=>simp only[Oper.upon] at h
    | halt x w'=>cases x<;>simp only[Oper.upon] at h ⊢<;>exact h
   ·obtain⟨a',w',hl⟩:=hl;exact .inr ⟨h,_,w',hl⟩
  ·rename_i hw;rw[if_neg hw,tE];exact uA ds h
theorem WO.tail {P:Program} {w0:World} {gs:LN} {n:Nat} {Q:Exit→Act→World→Prop} {K:List (Nat × Value)} {L:List Ent} {ds:List Deferred} {id:Nat} {l:List Oper} {c:Code} {a:Act} {w:World} (hd:a.defers=ds) (hs:a.tmps.size=n) (hk:Kn K a) (hm:Me w0 gs L w)
  (k:WO P w0 gs n l (fun e a w=>(Exit.then (c.wp P Q) Q) e (dfA ds a) w) K L l):(Code.seq (.region id l.toArray false) c).wp P Q a w:=by
 refine wp_seq (wp_region_lit ?_);have e:a=dfA ds { tmps:=a.tmps,defers:=[] }:=by
  cases a;subst hd;rfl
 rw[e];exact uA ds (k { tmps:=a.tmps,defers:=[] } w rfl hs hk hm)
section
variable (m:Nat) (P:Program) (w0:World) (gs:LN) (n:Nat) (ops:List Oper) (Q:Exit→Act→World→Prop) (K:List (Nat × Value)) (L:List Ent)
def VA (S:List Bool) (f:Nat):Prop:=¬ LetsOut Q→tq ops=true→∀ a w,a.defers=[]→a.tmps.size=n→Kn K a→Me w0 gs L w→wpAnyIn (fw none) m P .any ops.toArray Q f S.toArray a w
def tX (S:List Bool) (f:Nat):List Nat→Prop
 | []=>True
 | i::r=>(∃ o,nth ops i=some o∧(¬ LetsOut Q→tq ops=true→WO P w0 gs n ops (Qk (wpAnyIn (fw none) m P .any ops.toArray Q f (S.set i true).toArray) Q) K L [o]))∧tX S f r
end
section
variable {m:Nat} {P:Program} {w0:World} {gs:LN} {n:Nat} {ops:List Oper} {Q:Exit→Act→World→Prop} {K:List (Nat × Value)} {L:List Ent}
theorem eD {i:Nat} {o:Oper} {a:Act} {w:World} {k:Act→World→Prop} {ops:Array Oper} (hQ:¬ LetsOut Q) (hd:∀ c,o.op≠.defer c) (ho:ops[i]?=some o) (h:wpList P ops (Qk k Q) [o] a w):wpOpIn (fw none) m P ops Q i k a w:=by
 unfold wpOpIn;rw[ho];unfold wpList at h
 split at h
 ·rename_i hw;simp only[hw,if_true]
  rcases h with h|h
  ·exact rx hd (afH h)
  ·exact absurd (Qk.out h.2) hQ
 ·rename_i hw;simp only[hw];exact⟨fun _ _=>trivial,h⟩
theorem tX.at {S:List Bool} {f:Nat}:∀ {rs:LN},tX m P w0 gs n ops Q K L S f rs→∀ i∈rs,∃ o,nth ops i=some o∧(¬ LetsOut Q→tq ops=true→WO P w0 gs n ops (Qk (wpAnyIn (fw none) m P .any ops.toArray Q f (S.set i true).toArray) Q) K L [o])
 | i::r,h,j,hj=>by
  rcases List.mem_cons.1 hj with rfl|hj
  ·exact h.1
  ·exact tX.at h.2 j hj
theorem VA.step {S:List Bool} {f:Nat} (rs:LN) (k:tX m P w0 gs n ops Q K L S f rs) (hr:Region.ready .any ops.toArray S.toArray=rs:=by decide +kernel) (hne:rs≠[]:=by decide):VA m P w0 gs n ops Q K L S (f+1):=by
 intro hQ hd a w h1 h2 h3 h4;refine⟨fun h0=>absurd (hr.symm.trans h0) hne,fun i hi=>?_⟩;rw[hr] at hi;obtain⟨o,ho,hk⟩:=k.at i hi;have ho' : ops[i]?=some o:=by simpa [um] using ho
 have:=eD (m:=m) (k:=wpAnyIn (fw none) m P .any ops.toArray Q f (S.set i true).toArray) (Q:=Q) (ops:=ops.toArray) (i:=i) (o:=o) (P:=P) hQ (tm hd o (List.mem_of_getElem? ho')) (by simpa using ho') (hk hQ hd a w h1 h2 h3 h4);simpa using this
theorem VA.done {S:List Bool} (k:WX w0 gs n .normal Q K L) (hr:Region.ready .any ops.toArray S.toArray=[]:=by decide +kernel):VA m P w0 gs n ops Q K L S 0:=fun _ _ a w h1 h2 h3 h4=>⟨hr,k a w h1 h2 h3 h4⟩
theorem tX.nil {S:List Bool} {f:Nat}:tX m P w0 gs n ops Q K L S f []:=trivial
theorem tX.cons {S:List Bool} {f i:Nat} {r:LN} {o:Oper} (k:¬ LetsOut Q→tq ops=true→WO P w0 gs n ops (Qk (wpAnyIn (fw none) m P .any ops.toArray Q f (S.set i true).toArray) Q) K L [o]) (kr:tX m P w0 gs n ops Q K L S f r) (ho:nth ops i=some o:=by rfl):tX m P w0 gs n ops Q K L S f (i::r):=⟨⟨o,ho,k⟩,kr⟩
theorem WX.va {S S' : List Bool} {f i:Nat} {Q' : Exit→Act→World→Prop} (k:VA m P w0 gs n ops Q K L S' f) (hQ:¬ LetsOut Q) (hd:tq ops=true) (hS:S.set i true=S':=by rfl):WX w0 gs n .normal (Qk (wpAnyIn (fw none) m P .any ops.toArray Q f (S.set i true).toArray) Q') K L:=by
 subst hS;exact k hQ hd
theorem VA.yield {S S' : List Bool} {f i d l:Nat} {x:Operand} {xs:Array Operand} {ats:Array TypeId} {ty:TypeId} {pos:String} {after:Array Edge} {vs:LV} {R:World→Ending→World→Prop}
  (hx:ev K x=some (.func (.yield l) #[] #[])) (ha:evs K xs.toList=some vs)
  (hy:∀ w,Me w0 gs L w→YieldAt (fw none) (m - 1) P l vs.toArray w (R w))
  (k:∀ w e w',Me w0 gs L w→R w e w'→∃ b,e=.returned (.bool b)∧VA m P w' [] n ops Q ((d,.bool b)::K) [] S' f)
  (ho:nth ops i=some ⟨some d,.call { callee:=.value x,args:=xs,argTypes:=ats },ty,pos,after,none⟩:=by rfl) (hS:S.set i true=S':=by rfl) (hd:Nat.blt d n=true:=by rfl)
  (hr:Region.ready .any ops.toArray S.toArray=[i]:=by decide +kernel):VA m P w0 gs n ops Q K L S (f+1):=by
 intro hQ hd0 a w h1 h2 h3 h4;refine⟨fun h0=>absurd (hr.symm.trans h0) Sm,fun j hj=>?_⟩;rw[hr] at hj;obtain rfl:=List.mem_singleton.1 hj;have ho' : ops.toArray[j]?=some ⟨some d,.call { callee:=.value x,args:=xs,argTypes:=ats },ty,pos,after,none⟩:=by simpa [um] using ho
 unfold wpOpIn;rw[ho'];have hd' : d<n:=by simpa [Nat.blt_eq] using hd
 simp only[Region.wanted];rw[if_pos trivial];refine⟨fun _ _=>trivial,?_⟩;rw[Oper.semAt_eq _ _ _ (by intro c hc;cases hc)];obtain⟨fn,tmps,assign,body,h5,h6⟩:=hy w h4;have hrun:(execOp a.eval ⟨some d,.call { callee:=.value x,args:=xs,argTypes:=ats },ty,pos,after,none⟩).run P w=.ok (.round l fn tmps assign body) w:=by
  have e1:=h3.eval hx;have e2:xs.map a.eval=vs.toArray:=by have h:=h3.evals ha;apply Array.ext';simpa using h
  simp only[execOp,resolve,e1,e2,Deferred.ofValue,Sem.run_bind,Sem.run_pure,Result.andThen_ok,invoke];simpa using h5
 rw[hrun];refine⟨fun h=>by simp[fw] at h,h6.mono ?_⟩;intro e w' hR;obtain⟨b,rfl,hk⟩:=k w e w' h4 hR;have:=hk hQ hd0 (a.put (some d) (.bool b)) w' (by rw[put_defers];exact h1) (by rw[yk];exact h2) (h3.put Om _) (Me.refl w' []);subst hS;simpa using this
end
theorem pv {args:LV} {n:Nat} (hle:args.length≤n) (t:Nat) (v:Value) (hv:lk (kin args 0) t=some v):(args.toArray++Array.replicate (n - args.length) undef)[t]?=some v:=by
 obtain⟨j,h1,h2⟩:=v6 args 0 t v hv;subst h1;have hj:j<args.length:=by
  rcases Nat.lt_or_ge j args.length with h|h
  ·exact h
  ·rw[List.getElem?_eq_none h] at h2;cases h2
 simp only[Nat.zero_add];rw[Array.getElem?_append_left (by simpa using hj)];simpa using h2
theorem uN {m n:Nat} {P:Program} {f:FuncId} {fn:Func} {c:Code} {args:LV} {w:World} {R:Ending→World→Prop} (hf:P.funcs[f]?=some fn) (hb:fn.body=some c) (hn:fn.ntmps=n) (hle:Nat.ble args.length n=true)
  (k:WI none m P w [] n c (bodyPost P fn R) (kin args 0) []):CallsIn (fw none) m P f args.toArray w R:=by
 refine callsIn_of_wp hf hb trivial ?_ rfl;subst hn;have hle' : args.length≤fn.ntmps:=by simpa using hle
 exact k _ w rfl (by simp;omega) (pv hle') (Me.refl w [])
theorem sJ {n:Nat} (m:Nat) {P:Program} {f:FuncId} {fn:Func} {c:Code} {args:LV} {w:World} {R:Ending→World→Prop} (hf:P.funcs[f]?=some fn) (hb:fn.body=some c) (hn:fn.ntmps=n) (hle:Nat.ble args.length n=true)
  (k:WC P w [] n c (bodyPostM Fence.wide m P fn R) (kin args 0) []):Calls P f args.toArray w R:=by
 refine (callsIn_wide (n:=m)).1 (callsIn_of_wp_marks hf hb trivial ?_ rfl);refine wpIn_wide.2 ?_;subst hn;have hle' : args.length≤fn.ntmps:=by simpa using hle
 exact k _ w rfl (by simp;omega) (pv hle') (Me.refl w [])
def yA (ks:LN) (A B:World):Prop:=∀ k∈ks,B.heap[k]?=A.heap[k]?
theorem yA.trans {ks:LN} {A B C:World} (h:yA ks A B) (k:yA ks B C):yA ks A C:=fun i hi=>(k i hi).trans (h i hi)
theorem yA.seg {ks:LN} {A B:World} (h:yA ks A B) {b o:Nat} {cs:LV} (hb:b∈ks) (hs:Seg A b o cs):Seg B b o cs:=fun i v hv=>(World.cell?_of_block (a:=⟨b,o+i,none⟩) (h b hb)).trans (hs i v hv)
theorem yA.of_mod {ks gs:LN} {A B:World} (h:Mod gs A B) (hk:∀ k∈ks,k<A.heap.size∧k ∉ gs):yA ks A B:=fun k hm=>h.block k (hk k hm).1 (hk k hm).2
theorem yA.put {ks:LN} {n:Nat} (hk:∀ k∈ks,k<n) (W:World) (l:Nat) (o o' : Obj) (hl:n≤l) (_:W.heap[l]?=some o) (_:o.isCells=false) (_:o.isWalk=false):yA ks W (W.putObj l o'):=fun k hm=>World.putObj_heap_other (by have:=hk k hm;omega)
theorem okK.far {g:Nat} {t:TypeId} {cs:LV} {w:World} {o:Obj} (h:okK false g t cs w) (h1:w.heap[g]?=some o) (h2:o.isCells=false):False:=by
 obtain⟨t,fr,h3,_⟩:=h;rw[h1] at h3;cases h3;cases h2
theorem Ent.ok.far {e:Ent} {w:World} {o:Obj} (h:e.ok w) (hk:e.k.map=false) (h1:w.heap[e.g]?=some o) (h2:o.isCells=false):False:=by
 have h:okK e.k.map e.g e.t e.cs w:=h;rw[hk] at h;exact h.far h1 h2
theorem Me.ownM {w0:World} {gs:LN} {L:List Ent} {A B:World} {row:Option Nat} {n:Nat} (h:Me w0 gs L A) (hn:w0.heap.size≤n) (hg:A.grownBy B row) (hr:∀ r,row=some r→n≤r∧∃ o:Obj,A.heap[r]?=some o∧o.isCells=false)
  (hm:∀ e∈L,e.k.map=true→e.g<n):Me w0 gs L B:=by
 have hne:∀ k,k<A.heap.size→(∀ r,row=some r→k≠r)→B.heap[k]?=A.heap[k]?:=fun k hk h=>hg.block k hk (fun e=>h k e.symm rfl);have hb:Below w0.heap.size A B:=(Below.refl _ A).grown hg h.mod.size (fun k e=>Nat.le_trans hn (hr k e).1);refine⟨⟨hb.os.trans h.mod.os,hb.tape.trans h.mod.tape,hb.output.trans h.mod.output,Nat.le_trans h.mod.size hb.size,fun k hk hk2=>?_⟩,fun e he=>?_,h.mine,h.nodup⟩
 ·refine (hne k (Nat.lt_of_lt_of_le hk h.mod.size) (fun r e=>?_)).trans (h.mod.block k hk hk2);have:=(hr r e).1;omega
 ·refine (h.ok e he).keep (hne e.g (h.ok e he).lt (fun r e' hx=>?_));obtain⟨h0,o,h1,h2⟩:=hr r e';cases hk:e.k.map with
  | false=>exact (h.ok e he).far hk (by rw[hx];exact h1) h2
  | true=>have:=hm e he hk;omega
theorem Me.own {w0:World} {L:List Ent} {A B:World} {row:Option Nat} {n:Nat} (h:Me w0 [] L A) (hn:w0.heap.size≤n) (hg:A.grownBy B row) (hr:∀ r,row=some r→n≤r∧∃ o:Obj,A.heap[r]?=some o∧o.isCells=false)
  (hk:(L.all fun e=>!e.k.map)=true:=by rfl):Me w0 [] L B:=h.ownM hn hg hr (fun e he hm=>by
 have:=List.all_eq_true.1 hk e he;rw[hm] at this;cases this)
theorem Ent.ok.own {e:Ent} {A B:World} {row:Option Nat} {n:Nat} (h:e.ok A) (hg:A.grownBy B row) (hr:∀ r,row=some r→n≤r∧∃ o:Obj,A.heap[r]?=some o∧o.isCells=false) (hk:e.k.map=false:=by rfl):e.ok B:=by
 refine h.keep (hg.block e.g h.lt (fun hx=>?_));obtain⟨_,o,h1,h2⟩:=hr e.g hx.symm;exact h.far hk h1 h2
theorem afe {P:Program} {o:Oper} {a:Act} {w:World} {k next:Act→World→Prop} {Q:Exit→Act→World→Prop} (h:o.wp P a w next (Qk k Q)):o.wp P a w next Q:=by
 unfold Oper.wp at *;generalize (execOp a.eval o).run P w=r at *;cases r with
 | ok n w' =>
  cases n<;>simp only[Oper.upon] at h ⊢<;>first|exact h|exact Calls.mono h (fun e w'' he=>by cases e<;>first|exact he|exact Qk.out he)
 | halt x w'=>cases x<;>simp only[Oper.upon] at h ⊢<;>exact h
theorem nr {ro:Option Nat} {m:Nat} {P:Program} {ops:Array Oper} {Q:Exit→Act→World→Prop} {k:Act→World→Prop} {rest:List Oper} (hQ:¬ LetsOut Q) (hk:∀ a w,k a w→wpListIn (fw ro) m P ops Q rest a w) :
  ∀ {l:List Oper} {a:Act} {w:World},(∀ o∈l,∀ c,o.op≠.defer c)→wpList P ops (Qk k Q) l a w→wpListIn (fw ro) m P ops Q (l++rest) a w
 | [],_,_,_,h=>hk _ _ h
 | o::r,a,w,hd,h=>by
  unfold wpList at h;rw[List.cons_append];unfold wpListIn
  split at h
  ·rename_i hw;rw[if_pos hw]
   rcases h with h|h
   ·exact Oper.wpIn_mono (fun a w h=>nr hQ hk (fun o ho=>hd o (by simp[ho])) h) (rx (hd o Sm) (afe h))
   ·exact absurd (Qk.out h.2) hQ
  ·rename_i hw;rw[if_neg hw];exact⟨fun _ _=>trivial,nr hQ hk (fun o ho=>hd o (by simp[ho])) h⟩
section
variable (m:Nat) (P:Program) (w0:World) (gs:LN) (n:Nat) (ops:List Oper) (Q:Exit→Act→World→Prop) (K:List (Nat × Value)) (L:List Ent)
def WOI (rest:List Oper):Prop:=∀ a w,a.defers=[]→a.tmps.size=n→Kn K a→Me w0 gs L w→wpListIn (fw none) m P ops.toArray Q rest a w
end
section
variable {m:Nat} {P:Program} {w0:World} {gs:LN} {n:Nat} {ops:List Oper} {Q:Exit→Act→World→Prop} {K:List (Nat × Value)} {L:List Ent}
theorem WOI.of {rest:List Oper} (hQ:¬ LetsOut Q) (k:WO P w0 gs n ops Q K L rest) (hd:tq rest=true:=by rfl):WOI m P w0 gs n ops Q K L rest:=fun a w h1 h2 h3 h4=>oF hQ (tm hd) (k a w h1 h2 h3 h4)
theorem WX.woi {rest:List Oper} {Q' : Exit→Act→World→Prop} (k:WOI m P w0 gs n ops Q K L rest):WX w0 gs n .normal (Qk (wpListIn (fw none) m P ops.toArray Q rest) Q') K L:=k
theorem WI.regionY {id:Nat} {l:List Oper} (j:Nat) (hQ:¬ LetsOut Q) (k:WO P w0 gs n l (Qk (wpListIn (fw none) m P l.toArray Q (l.drop j)) Q) K L (l.take j)) (hd:tq l=true:=by rfl):WI none m P w0 gs n (.region id l.toArray false) Q K L:=fun a w h1 h2 h3 h4=>by
 refine wpIn_region_lit ?_;have h:=nr (ro:=none) (m:=m) (rest:=l.drop j) hQ (fun _ _ h=>h) (l:=l.take j) (fun o ho=>tm hd o (List.mem_of_mem_take ho)) (k a w h1 h2 h3 h4);rwa [List.take_append_drop] at h
theorem WOI.yield {rest:List Oper} {d l:Nat} {x:Operand} {xs:Array Operand} {ats:Array TypeId} {ty:TypeId} {pos:String} {after:Array Edge} {vs:LV} {R:World→Ending→World→Prop}
  (hx:ev K x=some (.func (.yield l) #[] #[])) (ha:evs K xs.toList=some vs)
  (hy:∀ w,Me w0 gs L w→YieldAt (fw none) (m - 1) P l vs.toArray w (R w))
  (k:∀ w e w',Me w0 gs L w→R w e w'→∃ b,e=.returned (.bool b)∧WOI m P w' [] n ops Q ((d,.bool b)::K) [] rest)
  (hd:Nat.blt d n=true:=by rfl):WOI m P w0 gs n ops Q K L (⟨some d,.call { callee:=.value x,args:=xs,argTypes:=ats },ty,pos,after,none⟩::rest):=by
 intro a w h1 h2 h3 h4;have hd' : d<n:=by simpa [Nat.blt_eq] using hd
 unfold wpListIn;simp only[Region.wanted];rw[if_pos trivial];refine⟨fun _ _=>trivial,?_⟩;rw[Oper.semAt_eq _ _ _ (by intro c hc;cases hc)];obtain⟨fn,tmps,assign,body,h5,h6⟩:=hy w h4;have hrun:(execOp a.eval ⟨some d,.call { callee:=.value x,args:=xs,argTypes:=ats },ty,pos,after,none⟩).run P w=.ok (.round l fn tmps assign body) w:=by
  have e1:=h3.eval hx;have e2:xs.map a.eval=vs.toArray:=by have h:=h3.evals ha;apply Array.ext';simpa using h
  simp only[execOp,resolve,e1,e2,Deferred.ofValue,Sem.run_bind,Sem.run_pure,Result.andThen_ok,invoke];simpa using h5
 rw[hrun];refine⟨fun h=>by simp[fw] at h,h6.mono ?_⟩;intro e w' hR;obtain⟨b,rfl,hk⟩:=k w e w' h4 hR;exact hk (a.put (some d) (.bool b)) w' (by rw[put_defers];exact h1) (by rw[yk];exact h2) (h3.put Om _) (Me.refl w' [])
end
theorem yS (a:Act) (d:Option Tmp) (v:Value) {t:Nat} (h:d≠some t):(a.put d v).tmps[t]?=a.tmps[t]?:=by
 cases d with
 | none=>rfl
 | some d =>
  simp only[Act.put];rw[Array.getElem?_setIfInBounds];rw[if_neg (fun e=>h (by rw[e]))]
theorem mq {P:Program} {ops:Array Oper} {Q:Exit→Act→World→Prop} {i:Nat} {o:Oper} {a:Act} {w:World} {K:Act→World→Prop} (ho:ops[i]?=some o) (h:wpOp P ops Q i K a w) :
  wpOp P ops Q i (fun a' w'=>K a' w'∧∀ t,o.dst≠some t→a'.tmps[t]?=a.tmps[t]?) a w:=by
 unfold wpOp at *;simp only[ho] at h ⊢
 split at h
 ·rename_i hw;rw[if_pos hw];refine h.imp (fun h=>?_) id;unfold Oper.wp at *;generalize (execOp a.eval o).run P w=r at *;cases r with
  | ok n w' =>
   cases n with
   | value v=>exact⟨h,fun t ht=>yS _ _ _ ht⟩
   | skip=>exact⟨h,fun t ht=>yS _ _ _ ht⟩
   | defer d=>exact⟨h,fun t ht=>yS _ _ _ ht⟩
   | enter f args =>
    refine Calls.mono h (fun e w'' he=>?_);cases e with
    | returned v=>exact⟨he,fun t ht=>yS _ _ _ ht⟩
    | panicked c=>exact he
    | outgrown=>exact he
   | row r args=>exact Rows.mono h (fun v w'' he=>⟨he,fun t ht=>yS _ _ _ ht⟩)
   | _=>exact h
  | halt x w'=>cases x<;>exact h
 ·rename_i hw;rw[if_neg hw];exact⟨h,fun t ht=>yS _ _ _ ht⟩
def dps (ops:List Oper) (i:Nat):List Nat:=match nth ops i with
 | none=>[]
 | some o=>(o.after.toList.filter fun e=>Region.binds .any e).map fun e=>e.on
def sR (ops:List Oper) (i:Nat):Nat:=match nth ops i with
 | some ⟨some d,_,_,_,_,_⟩=>d
 | _=>0
def mG (ops:List Oper) (i:Nat):Bool:=match nth ops i with
 | some ⟨some _,_,_,_,_,none⟩=>true
 | _=>false
def tvs (ops:List Oper) (T:List (Nat × Value)):List Nat→List (Nat × Value)
 | []=>[]
 | j::r=>match lk T j with
  | some v=>(sR ops j,v)::tvs ops T r
  | none=>tvs ops T r
theorem ln {ops:List Oper} {T:List (Nat × Value)} {a:Act}:∀ {l:LN},(∀ j∈l,∀ v,lk T j=some v→a.tmps[sR ops j]?=some v)→Kn (tvs ops T l) a
 | [],_,t,v,h=>by cases h
 | j::r,h,t,v,ht=>by
  have ih:=ln (ops:=ops) (T:=T) (a:=a) (l:=r) (fun k hk=>h k (by simp[hk]));unfold tvs at ht;cases hl:lk T j with
  | none=>rw[hl] at ht;exact ih t v ht
  | some u =>
   rw[hl] at ht;unfold lk at ht;cases hb:Nat.beq (sR ops j) t with
   | true =>
    rw[hb] at ht;have e:sR ops j=t:=Nat.eq_of_beq_eq_true hb;cases ht;rw[← e];exact h j Sm _ hl
   | false=>rw[hb] at ht;exact ih t v ht
theorem sq {k:Nat} {u:Value} {r:List (Nat × Value)} {t:Nat}:lk ((k,u)::r) t=bif Nat.beq k t then some u else lk r t:=rfl
theorem bT {K' : List (Nat × Value)} {t:Nat}:∀ {K:List (Nat × Value)},lk (K++K') t=(lk K t).or (lk K' t)
 | []=>rfl
 | (k,u)::r=>by
  rw[List.cons_append,sq,sq];cases Nat.beq k t with
  | true=>rfl
  | false=>exact bT
theorem je {K K' : List (Nat × Value)} {a:Act} (h1:Kn K a) (h2:Kn K' a):Kn (K++K') a:=by
 intro t v ht;rw[bT] at ht;cases h:lk K t with
 | some u=>rw[h] at ht;cases ht;exact h1 t v h
 | none=>rw[h] at ht;exact h2 t v ht
theorem vH {ops:List Oper} {S:List Bool} (hl:S.length=ops.length) {i:Nat} (h:i∈Region.ready .any ops.toArray S.toArray):i<ops.length∧S[i]?=some false∧∀ j∈dps ops i,S[j]?=some true:=by
 unfold Region.ready at h;rw[List.mem_filter] at h;obtain⟨h1,h2⟩:=h;have hi:i<ops.length:=by simpa using List.mem_range.1 h1
 rw[Bool.and_eq_true] at h2;obtain⟨h2,h3⟩:=h2;have hiS:i<S.length:=by omega
 refine⟨hi,?_,fun j hj=>?_⟩
 ·rw[List.getElem?_eq_getElem hiS];simp only[Array.getD_eq_getD_getElem?,List.getElem?_toArray,List.getElem?_eq_getElem hiS] at h2;simpa using h2
 ·unfold dps at hj;have ho:nth ops i=some ops[i]:=by rw[um,List.getElem?_eq_getElem hi]
  rw[ho] at hj;have ho2:ops.toArray[i]?=some ops[i]:=by simp[hi]
  rw[ho2] at h3;simp only[Option.map_some,Option.getD_some,Array.all_eq_true'] at h3;obtain⟨e,he,rfl⟩:=List.mem_map.1 hj;obtain⟨he1,he2⟩:=List.mem_filter.1 he;have:=h3 e (by simpa using he1);rw[he2] at this;simp only[Bool.not_true,Bool.false_or] at this;simp only[Array.getD_eq_getD_getElem?,List.getElem?_toArray] at this;cases hS:S[e.on]? with
  | none=>rw[hS] at this;simp at this
  | some b=>rw[hS] at this;simp at this;rw[this]
theorem sj {ops:List Oper} {S:List Bool} (hl:S.length=ops.length) (hac:∀ i,i<ops.length→∀ j∈dps ops i,j<i) (h:Region.ready .any ops.toArray S.toArray=[]):∀ i,i<ops.length→S[i]?=some true:=by
 intro i
 induction i using Nat.strongRecOn with
 | ind i ih =>
  intro hi;have hiS:i<S.length:=by omega
  cases hb:S[i] with
  | true=>rw[List.getElem?_eq_getElem hiS,hb]
  | false =>
   exfalso;have hm:i∈Region.ready .any ops.toArray S.toArray:=by
    unfold Region.ready;rw[List.mem_filter];refine⟨by simpa using hi,?_⟩;rw[Bool.and_eq_true];refine⟨by simp only[Array.getD_eq_getD_getElem?,List.getElem?_toArray,List.getElem?_eq_getElem hiS,hb];rfl,?_⟩;have ho2:ops.toArray[i]?=some ops[i]:=by simp[hi]
    rw[ho2];simp only[Option.map_some,Option.getD_some,Array.all_eq_true'];intro e he;cases hbd:Region.binds .any e with
    | false=>rfl
    | true =>
     have hj:e.on∈dps ops i:=by
      unfold dps;have ho:nth ops i=some ops[i]:=by rw[um,List.getElem?_eq_getElem hi]
      rw[ho];exact List.mem_map.2 ⟨e,List.mem_filter.2 ⟨by simpa using he,hbd⟩,rfl⟩
     have hlt:=hac i hi _ hj;have:=ih e.on hlt Om;simp only[Bool.not_true,Bool.false_or,Array.getD_eq_getD_getElem?,List.getElem?_toArray,this];rfl
   rw[h] at hm;cases hm
theorem pG {T:List (Nat × Value)} {i:Nat}:(∃ v,lk T i=some v)↔i∈T.map Prod.fst:=by
 induction T with
 | nil=>simp[lk]
 | cons p r ih =>
  obtain⟨k,u⟩:=p;rw[sq];cases hb:Nat.beq k i with
  | true =>
   have e:k=i:=Nat.eq_of_beq_eq_true hb;simp[e]
  | false =>
   have e:¬ i=k:=fun e=>by subst e;rw[Nat.beq_refl] at hb;cases hb
   simp only[cond_false,ih,List.map_cons,List.mem_cons,e,false_or]
theorem rH {S:List Bool} {i f:Nat} (h:S[i]?=some false) (hc:S.count false≤f+1):(S.set i true).count false≤f:=by
 induction S generalizing i f with
 | nil=>cases h
 | cons b r ih =>
  cases i with
  | zero =>
   have e:b=false:=by simpa using h
   subst e;simp only[List.set_cons_zero,List.count_cons] at hc ⊢;simp at hc ⊢;omega
  | succ i =>
   have h' : r[i]?=some false:=by simpa using h
   have h0:0<r.count false:=List.count_pos_iff.2 (List.mem_of_getElem? h');simp only[List.set_cons_succ,List.count_cons] at hc ⊢;cases b with
   | true=>simp at hc ⊢;exact ih h' hc
   | false =>
    simp at hc ⊢;have:=ih (f:=r.count false - 1) h' Om;omega
section
variable {P:Program} {w0:World} {gs:LN} {n:Nat} {ops:List Oper} {Q:Exit→Act→World→Prop} {main:LN} {T K0 K:List (Nat × Value)} {Lc L:List Ent} {done:Nat}
theorem ace {ops:List Oper} {S:List Bool} {i:Nat} (hi:i<S.length) (hcl:∀ i,S[i]?=some true→∀ j∈dps ops i,S[j]?=some true) (hid:∀ j∈dps ops i,S[j]?=some true):∀ k,(S.set i true)[k]?=some true→∀ j∈dps ops k,(S.set i true)[j]?=some true:=by
 have up:∀ j,S[j]?=some true→(S.set i true)[j]?=some true:=fun j hj=>by
  by_cases e:i=j
  ·subst e;rw[List.getElem?_set_self hi]
  ·rw[List.getElem?_set_ne e];exact hj
 intro k hk j hj
 by_cases e:i=k
 ·subst e;exact up j (hid j hj)
 ·rw[List.getElem?_set_ne e] at hk;exact up j (hcl k hk j hj)
end
section
variable {P:Program} {w0:World} {gs:LN} {n:Nat} {Q:Exit→Act→World→Prop} {K:List (Nat × Value)} {L:List Ent}
theorem WC.loopU {c:Code} (m:Nat) (k:WC P w0 gs n c (Exit.then (Code.rounds P c Q m) Q) K L):WC P w0 gs n (.loop c) Q K L:=fun a w h1 h2 h3 h4=>wp_loop_rounds (m+1) (k a w h1 h2 h3 h4)
theorem WX.rounds {c:Code} {m:Nat} {Q' : Exit→Act→World→Prop} (k:WC P w0 gs n c (Exit.then (Code.rounds P c Q m) Q) K L):WX w0 gs n .normal (Exit.then (Code.rounds P c Q (m+1)) Q') K L:=k
end
end Sx
end
section
open Go Go.RowKit Go.BigFrame
namespace Sx
open Kp
def HS (n:Nat) (ops:List Oper):List Bool:=List.replicate n true++List.replicate (ops.length - n) false
section
variable {ro:Option Nat} {m:Nat} {P:Program} {ops:List Oper} {n:Nat} {Q:Exit→Act→World→Prop}
theorem aaL (hQ:¬ LetsOut Q) (hnd:tq ops=true) (hB:yL ops [] n=true) (hg:((ops.take n).all fun o=>o.guard.isNone)=true) :
  ∀ (f:Nat) (L L' : Array Bool) (a:Act) (w:World),L.size=ops.length→L'.size=n→(∀ j,j<n→L'.getD j false=L.getD j false)→(∀ j,n≤j→L.getD j false=false) →
   (∀ j o,ops[j]?=some o→L.getD j false=true→∀ e∈o.after,Region.binds .any e=true→L.getD e.on false=true)→((List.range n).filter fun j=>!L.getD j false).length=f →
   wpAny P .any (ops.take n).toArray (Qk (wpAnyIn (fw ro) m P .any ops.toArray Q (ops.length - n) (HS n ops).toArray) Q) f L' a w→wpAnyIn (fw ro) m P .any ops.toArray Q (f+(ops.length - n)) L a w:=by
 unfold yL at hB;simp only[Bool.and_eq_true,decide_eq_true_eq] at hB;obtain⟨⟨⟨⟨⟨⟨⟨_,hn⟩,hback⟩,_⟩,_⟩,htail⟩,_⟩,_⟩:=hB;intro f
 induction f with
 | zero =>
  intro L L' a w hs _ _ ht _ hf h;have hall:∀ j,j<n→L.getD j false=true:=by
   intro j hj;cases hl:L.getD j false with
   | true=>rfl
   | false =>
    have:j∈(List.range n).filter fun j=>!L.getD j false:=List.mem_filter.2 ⟨List.mem_range.2 hj,by rw[hl];rfl⟩;rw[List.length_eq_zero_iff.1 hf] at this;cases this
  have hlist:L=(HS n ops).toArray:=by
   unfold HS;apply Array.ext
   ·simp[hs];omega
   ·intro i h1 h2;have h3:L.getD i false=L[i]:=by simp[h1]
    rw[← h3]
    rcases Nat.lt_or_ge i n with hi|hi
    ·rw[hall i hi];simp[List.getElem_append,hi]
    ·rw[ht i hi];simp[List.getElem_append,Nat.not_lt.2 hi]
  rw[Nat.zero_add,hlist];exact h.2
 | succ f ih =>
  intro L L' a w hs hs' hLL ht hcl hf h;have hex:∃ m,m<n∧L.getD m false=false:=by
   cases hl:(List.range n).filter fun j=>!L.getD j false with
   | nil=>rw[hl] at hf;cases hf
   | cons m l =>
    have hm:m∈(List.range n).filter fun j=>!L.getD j false:=by rw[hl];simp
    rw[List.mem_filter] at hm;exact⟨m,List.mem_range.1 hm.1,by simpa using hm.2⟩
  obtain⟨m0,⟨hmn,hml⟩,hleast⟩:=exists_least hex;have hmr:m0∈Region.ready .any ops.toArray L:=by
   rw[mem_ready];have hmo:ops[m0]?=some (ops[m0]' Om):=List.getElem?_eq_getElem Om;refine⟨getD_in (by rw[hs];omega) hml,ops[m0]' Om,by simp,fun e he hb=>?_⟩;have hlt:=yg hback hmo e he hb;cases hle:L.getD e.on false with
   | true=>rfl
   | false=>have:=hleast e.on ⟨by omega,hle⟩;omega
  have hne:Region.ready .any ops.toArray L≠[]:=fun h0=>by rw[h0] at hmr;cases hmr
  rw[show f+1+(ops.length - n)=(f+(ops.length - n))+1 by omega];refine⟨fun h0=>absurd h0 hne,fun i hi=>?_⟩;obtain⟨hiun,o,ho,hwait⟩:=mem_ready.1 hi;have ho' : ops[i]?=some o:=by simpa using ho
  have hil:i<ops.length:=(List.getElem?_eq_some_iff.1 ho').1;have hancl:=yf (L:=fun j=>L.getD j false) hcl i o ho' hwait;have hin:i<n:=by
   rcases Nat.lt_or_ge i n with h1|h1
   ·exact h1
   ·exfalso;have h2:=List.all_eq_true.1 htail i (List.mem_range.2 hil);simp only[Bool.or_eq_true,decide_eq_true_eq] at h2
    rcases h2 with h2|h2
    ·omega
    ·have h3:=List.all_eq_true.1 h2 m0 (List.mem_range.2 Om);simp only[Bool.or_eq_true,Bool.and_eq_true] at h3
     rcases h3 with h3|⟨h3,_⟩
     ·have h4:=hancl m0 h3;simp only[hml] at h4;cases h4
     ·simp at h3
  have ht' : (ops.take n)[i]?=some o:=by rw[List.getElem?_take,if_pos hin];exact ho'
  have hiu:L.getD i false=false:=getD_both hiun;have hi' : i∈Region.ready .any (ops.take n).toArray L':=by
   rw[mem_ready];refine⟨getD_in (by rw[hs'];exact hin) (by rw[hLL i hin];exact hiu),o,by simpa using ht',fun e he hb=>?_⟩;have hlt:=yg hback ho' e he hb;rw[hLL e.on Om];exact hwait e he hb
  have hgi:o.guard=none:=by
   have:=List.all_eq_true.1 hg o (List.mem_of_getElem? ht');simpa using this
  have hw:∀ v,Region.wanted o v=true:=fun v=>by unfold Region.wanted;rw[hgi]
  have h1:=h.2 i hi';unfold wpOp at h1;unfold wpOpIn;have ht2:(ops.take n).toArray[i]?=some o:=by simpa using ht'
  rw[ht2] at h1;rw[ho];simp only[hw,if_true] at h1 ⊢
  rcases h1 with h1|h1
  ·refine Oper.wpIn_mono (fun a' w' h'=>ih _ _ a' w' (by simp[hs]) (by simp[hs']) (fun j hj=>?_) (fun j hj=>?_) (fun j oj hoj hlj e he hb=>?_) ?_ h') (rx (tm hnd o (List.mem_of_getElem? ho')) (afe h1))
   ·by_cases hji:j=i
    ·subst hji;simp[hs,hs',hil,hin]
    ·rw[getD_set_ne false (Ne.symm hji),getD_set_ne false (Ne.symm hji)];exact hLL j hj
   ·rw[getD_set_ne false Om];exact ht j hj
   ·by_cases hei:e.on=i
    ·rw[hei];simp[hs,hil]
    ·rw[getD_set_ne false (Ne.symm hei)]
     by_cases hji:j=i
     ·subst hji;rw[ho'] at hoj;cases hoj;exact hwait e he hb
     ·rw[getD_set_ne false (Ne.symm hji)] at hlj;exact hcl j oj hoj hlj e he hb
   ·have:=uO (List.range n) List.nodup_range i (List.mem_range.2 hin) (p:=fun j=>!L.getD j false) (q:=fun j=>!(L.setIfInBounds i true).getD j false) (by simp only[hiu];rfl) (by simp[hs,hil])
     (fun j hj=>by simp only[getD_set_ne false (Ne.symm hj)])
    omega
  ·exact absurd (Qk.out h1.2) hQ
end
section
variable {ro:Option Nat} {m:Nat} {P:Program} {w0:World} {gs:LN} {n:Nat} {Q:Exit→Act→World→Prop} {K:List (Nat × Value)} {L:List Ent}
theorem WI.headQ {id:Nat} {l hd:List Oper} [Mix P] (h:Nat) (hQ:¬ LetsOut Q) (k:DQ P w0 gs n [] (Qk (wpAnyIn (fw ro) m P .any l.toArray Q (l.length - h) (HS h l).toArray) Q) hd L [] 0 hd (fun _=>True) (fun _=>K) (fun _=>[]))
  (h1:l.take h=hd:=by (simp only[List.take_succ_cons,List.take_zero]<;>rfl)) (hB:yL l [] h=true:=by decide +kernel) (hB' : yL hd [] h=true:=by decide +kernel) (hg:(hd.all fun o=>o.guard.isNone)=true:=by rfl) (hnd:tq l=true:=by rfl):WI ro m P w0 gs n (.region id l.toArray true) Q K L:=by
 intro a w g1 g2 g3 g4;subst h1;obtain⟨ks,k1,k2,k3⟩:=k;refine wpIn_region_any Mix.out ?_;have hn:h≤l.length:=by
  unfold yL at hB;simp only[Bool.and_eq_true,decide_eq_true_eq] at hB;exact hB.1.1.1.1.1.1.2
 have e1:(l.take h).take h=l.take h:=by rw[List.take_take,Nat.min_self]
 have e2:(l.take h).drop h=[]:=by rw[List.drop_eq_nil_iff];simp;omega
 have hl:(l.take h).length=h:=by simp;omega
 have hq:=lT (P:=P) (a:=a) (w:=w) (l:=l.take h) [] h ks hB' (.inl rfl) (fun i=>k1 i (Nat.zero_le _)) (fun i s=>k2 i s (Nat.zero_le _)) (by
  rw[e1,e2];exact fun s=>k3 s a w (fun _ _=>True) [] trivial g1 g2 g3 g4 .nil Sm (fun _ _ _=>trivial) Sm Sm)
 have hr:((List.range h).filter fun j=>!(Array.replicate l.toArray.size false).getD j false)=List.range h:=by
  apply List.filter_eq_self.2;intro j _;rw[getD_replicate_false];rfl
 have:=aaL (ro:=ro) (m:=m) hQ hnd hB hg h (Array.replicate l.toArray.size false) (Array.replicate (l.take h).toArray.size false) a { w with drawn:=w.drawn+1 } Sm (by simp;omega) (fun j _=>by rw[getD_replicate_false,getD_replicate_false]) (fun j _=>getD_replicate_false _ _)
  (fun j o _ hl'=>by rw[getD_replicate_false] at hl';cases hl') (by rw[hr];simp) (by
   have e3:(l.take h).toArray.size=h:=by simpa using hl
   rw[e3] at hq;rw[e3];exact hq)
 rwa [show h+(l.length - h)=l.toArray.size by simp;omega] at this
theorem WX.headV {S:List Bool} {f:Nat} {ops:List Oper} {Q' : Exit→Act→World→Prop} (k:VA m P w0 gs n ops Q K L S f) (hQ:¬ LetsOut Q) (hd:tq ops=true:=by rfl):WX w0 gs n .normal (Qk (wpAnyIn (fw none) m P .any ops.toArray Q f S.toArray) Q') K L:=k hQ hd
end
end Sx
end
end Go.Proofs.YtiaibpcaloigkaaGreatDoor
