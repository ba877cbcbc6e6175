/- Part 20 of the proof. -/
import Derived.Test.YteibfbjpkjkejaaGreatDoorM08
import Derived.RangeFuncNested
import Derived.OrdersIn
import Derived.TacticsIn
import Derived.DeepKeys3
import Derived.WideLaws
set_option linter.unusedSimpArgs false
set_option linter.unusedVariables false
namespace Go.Proofs.YteibfbjpkjkejaaGreatDoor
section
open Go Go.RowKit Go.BigFrame
namespace Sx
def Qk (k:Act→World→Prop) (Q:Exit→Act→World→Prop):Exit→Act→World→Prop
 | .normal,a,w=>k a w
 | e,a,w=>Q e a w
theorem Qk.out {k:Act→World→Prop} {Q:Exit→Act→World→Prop} (h:LetsOut (Qk k Q)):LetsOut Q:=h
theorem abM {P:Program} {o:Oper} {a:Act} {w:World} {k:Act→World→Prop} {Q:Exit→Act→World→Prop} (h:o.wp P a w (fun a w=>Qk k Q .normal a w) (Qk k Q)):o.wp P a w k Q:=by
 unfold Oper.wp at *;generalize (execOp a.eval o).run P w=r at *;cases r with
 | ok n w' =>
  cases n<;>simp only[Oper.upon] at h ⊢<;>first|exact h|exact Calls.mono h (fun e w'' he=>by cases e<;>first|exact he|exact Qk.out he)
 | halt x w'=>cases x<;>simp only[Oper.upon] at h ⊢<;>exact h
theorem mF {P:Program} {ops:Array Oper} {i:Nat} {o:Oper} {a:Act} {w:World} {k:Act→World→Prop} {Q:Exit→Act→World→Prop} (ho:ops[i]?=some o) (h:wpList P ops (Qk k Q) [o] a w):wpOp P ops Q i k a w:=by
 unfold wpOp;rw[ho];unfold wpList at h
 split at h
 ·rename_i hw;simp only[hw,if_true];exact h.imp (fun h=>abM h) (fun h=>⟨h.1,Qk.out h.2⟩)
 ·rename_i hw;simp only[hw];exact h
section
variable (P:Program) (w0:World) (gs:List Nat) (n:Nat) (ops:List Oper) (Q:Exit→Act→World→Prop) (K:List (Nat × Value)) (L:List Ent)
def WA (S:List Bool) (f:Nat):Prop:=∀ a w,a.defers=[]→a.tmps.size=n→Kn K a→Me w0 gs L w→wpAny P .any ops.toArray Q f S.toArray a w
def dy (S:List Bool) (f:Nat):List Nat→Prop
 | []=>True
 | i::r=>(∃ o,nth ops i=some o∧WO P w0 gs n ops (Qk (wpAny P .any ops.toArray Q f (S.set i true).toArray) Q) K L [o])∧dy S f r
end
section
variable {P:Program} {w0:World} {gs:List Nat} {n:Nat} {ops:List Oper} {Q:Exit→Act→World→Prop} {K:List (Nat × Value)} {L:List Ent}
theorem dy.at {S:List Bool} {f:Nat}:∀ {rs:List Nat},dy P w0 gs n ops Q K L S f rs→∀ i∈rs,∃ o,nth ops i=some o∧WO P w0 gs n ops (Qk (wpAny P .any ops.toArray Q f (S.set i true).toArray) Q) K L [o]
 | i::r,h,j,hj=>by
  rcases List.mem_cons.1 hj with rfl|hj
  ·exact h.1
  ·exact dy.at h.2 j hj
theorem WA.step {S:List Bool} {f:Nat} (rs:List Nat) (k:dy P w0 gs n ops Q K L S f rs) (hr:Region.ready .any ops.toArray S.toArray=rs:=by decide +kernel) (hne:rs≠[]:=by decide):WA P w0 gs n ops Q K L S (f+1):=by
 intro a w h1 h2 h3 h4;refine⟨fun h0=>absurd (hr.symm.trans h0) hne,fun i hi=>?_⟩;rw[hr] at hi;obtain⟨o,ho,hk⟩:=k.at i hi;have:=mF (k:=wpAny P .any ops.toArray Q f (S.set i true).toArray) (Q:=Q) (ops:=ops.toArray) (i:=i) (o:=o) (P:=P) (by simpa [vI] using ho) (hk a w h1 h2 h3 h4);simpa using this
theorem WA.done {S:List Bool} (k:WX w0 gs n .normal Q K L) (hr:Region.ready .any ops.toArray S.toArray=[]:=by decide +kernel):WA P w0 gs n ops Q K L S 0:=fun a w h1 h2 h3 h4=>⟨hr,k a w h1 h2 h3 h4⟩
theorem dy.nil {S:List Bool} {f:Nat}:dy P w0 gs n ops Q K L S f []:=trivial
theorem dy.cons {S:List Bool} {f i:Nat} {r:List Nat} {o:Oper} (k:WO P w0 gs n ops (Qk (wpAny P .any ops.toArray Q f (S.set i true).toArray) Q) K L [o]) (kr:dy P w0 gs n ops Q K L S f r) (ho:nth ops i=some o:=by rfl):dy P w0 gs n ops Q K L S f (i::r):=⟨⟨o,ho,k⟩,kr⟩
theorem WX.wa {S S' : List Bool} {f i:Nat} {Q' : Exit→Act→World→Prop} (k:WA P w0 gs n ops Q K L S' f) (hS:S.set i true=S':=by rfl):WX w0 gs n .normal (Qk (wpAny P .any ops.toArray Q f (S.set i true).toArray) Q') K L:=by
 subst hS;exact k
theorem WA.less {S:List Bool} {f:Nat} (K' : List (Nat × Value)) (L' : List Ent) (k:WA P w0 gs n ops Q K' L' S f)
  (hk:Kle K' K:=by (repeat (first|exact Kle.nil|refine Kle.cons rfl rfl ?_)))
  (hl:Lle L' L:=by (repeat (first|exact Lle.nil|refine Lle.c ?_))):WA P w0 gs n ops Q K L S f:=fun a w h1 h2 h3 h4=>k a w h1 h2 (hk.kn h3) (hl.me h4)
def bt:Nat→Nat→List Bool
 | 0,_=>[]
 | n+1,m=>(m%2 == 1)::bt n (m / 2)
theorem WA.go {S S' : List Bool} {f i:Nat} {K' : List (Nat × Value)} {L' : List Ent} {Q' : Exit→Act→World→Prop} {A:List (Nat × Value)→List Ent→List Bool→Nat→Prop} (hA:∀ K L S f,A K L S f↔WA P w0 gs n ops Q K L S f) (h:A K' L' S' f)
  (hk:Kle K' K:=by (repeat (first|exact Kle.nil|refine Kle.cons rfl rfl ?_)))
  (hl:Lle L' L:=by (repeat (first|exact Lle.nil|refine Lle.c ?_))) (hS:S.set i true=S':=by rfl):WO P w0 gs n ops (Qk (wpAny P .any ops.toArray Q f (S.set i true).toArray) Q') K L []:=WO.nil (WX.wa (WA.less K' L' ((hA _ _ _ _).1 h) hk hl) hS)
theorem Me.drawn {w:World} {d:Nat} (h:Me w0 gs L w):Me w0 gs L { w with drawn:=d } :=
 ⟨⟨h.mod.os,h.mod.tape,h.mod.output,h.mod.size,h.mod.block⟩,h.ok,h.mine,h.nodup⟩
theorem WC.all {id:Nat} {l:List Oper} [Mix P] (k:WA P w0 gs n l Q K L (List.replicate l.length false) l.length):WC P w0 gs n (.region id l.toArray true) Q K L:=by
 intro a w h1 h2 h3 h4;refine wp_region_any Mix.out ?_;have:=k a { w with drawn:=w.drawn+1 } h1 h2 h3 h4.drawn;simpa using this
theorem WC.allA {id:Nat} {l:List Oper} [Mix P] (k:∀ A:List (Nat × Value)→List Ent→List Bool→Nat→Prop,(∀ K L S f,A K L S f↔WA P w0 gs n l Q K L S f)→A K L (List.replicate l.length false) l.length):WC P w0 gs n (.region id l.toArray true) Q K L :=
 WC.all ((k _ (fun _ _ _ _=>Iff.rfl)))
end
def FnI (P:Program) (f:FuncId) (args:List Value) (g t:Nat) (C:List Value→Prop) (R:World→Prop) (v:Value):Prop :=
 ∀ w cs,C cs→(⟨g,t,cs⟩ : Ent).ok w→R w→Calls P f args.toArray w (fun e w'=>e=.returned v∧Mod [g] w w'∧∃ cs',C cs'∧(⟨g,t,cs'⟩ : Ent).ok w')
def ady (w:World) (g t:Nat) (C:List Value→Prop) (v:Value):Ending→World→Prop:=fun e w'=>e=.returned v∧Mod [g] w w'∧∃ cs',C cs'∧(⟨g,t,cs'⟩ : Ent).ok w'
theorem FnI.enter {P:Program} {n:Nat} {f:FuncId} {fn:Func} {c:Code} {args:List Value} {g t:Nat} {C:List Value→Prop} {R:World→Prop} {v:Value} (hf:P.funcs[f]?=some fn) (hb:fn.body=some c) (hn:fn.ntmps=n) (hle:Nat.ble args.length n=true)
  (k:∀ w cs,C cs→R w→WC P w [g] n c (bodyPost P fn (ady w g t C v)) (kin args 0) [⟨g,t,cs⟩]):FnI P f args g t C R v:=by
 intro w cs hC hok hw;refine calls_of_wp hf hb ?_;have hle' : args.length≤n:=by simpa using hle
 refine k w cs hC hw _ w rfl (by simp[hn];omega) (fun t v hv=>?_) ⟨.refl _ _,by simpa using hok,by simp,by simp⟩;obtain⟨j,h1,h2⟩:=uT args 0 t v hv;subst h1;have hj:j<args.length:=by
  rcases Nat.lt_or_ge j args.length with h|h
  ·exact h
  ·rw[List.getElem?_eq_none h] at h2;cases h2
 simp only[Nat.zero_add];rw[Array.getElem?_append_left (by simpa using hj)];simpa using h2
section
variable {P:Program} {w0:World} {gs:List Nat} {n:Nat} {ops:List Oper} {Q:Exit→Act→World→Prop} {K:List (Nat × Value)} {L:List Ent} {rest:List Oper}
variable {d:Nat} {op:Op} {ty:TypeId} {pos:String} {after:Array Edge} {gd:Option (Nat × Bool)}
theorem WO.callI {f:FuncId} [Cal P f] {x:Operand} {xs:Array Operand} {ats:Array TypeId} {aq fs ks aq' : List Value} {g t:Nat} {C:List Value→Prop} {cs:List Value} {L2:List Ent} {R:World→Prop} {v:Value} (hc:FnI P f aq' g t C R v) (hx:ev K x=some (.func (.func f) fs.toArray ks.toArray))
  (ha:evs K xs.toList=some aq) (hh:fs++aq++ks=aq') (hp:Pk L g t cs L2) (hC:C cs) (hR:∀ w,Me w0 gs L w→R w) (ht:t≠0)
  (k:∀ cs',C cs'→WO P w0 gs n ops Q ((d,v)::K) (⟨g,t,cs'⟩::L2) rest) (hd:Nat.blt d n=true) (hw:wk ops K gd=some true) :
  WO P w0 gs n ops Q K L (⟨some d,.call { callee:=.value x,args:=xs,argTypes:=ats },ty,pos,after,gd⟩::rest):=by
 subst hh;intro a w hdf hsz hk hme;refine wpList_step fun F hF=>?_;rw[if_pos (zU (o:=⟨some d,.call { callee:=.value x,args:=xs,argTypes:=ats },ty,pos,after,gd⟩) hk hw)];have hd' : d<n:=by simpa [Nat.blt_eq] using hd
 unfold Oper.wp;rw[y9 hk hx ha,Oper.upon_enter];have hme2:=hme.perm hp.perm;refine (hc w cs hC (hme2.ok _ (by simp)) (hR w hme)).mono ?_;rintro e w' ⟨rfl,hm,cs',hC',hok⟩;exact hF _ _ (k cs' hC' _ _ (by rw[put_defers];exact hdf) (by rw[zR];exact hsz) (hk.put (by omega) v) (hme2.callM Rp.here hm hok ht))
theorem WX.retI {fn:Func} {g t:Nat} {C:List Value→Prop} {cs:List Value} {v:Value} (hr:∀ a w,Kn K a→Me w0 [g] L w→(results fn a.tmps).run P w=.ok v w) (hN:Hs L g t cs) (hC:C cs):WX w0 [g] n .ret (bodyPost P fn (ady w0 g t C v)) K L:=fun a w h1 _ h3 h4 =>
 ⟨h1,v,hr a w h3 h4,rfl,h4.mod,cs,hC,h4.ok _ hN.mem⟩
end
def fw (ro:Option Nat):Fence:={ fn:=fun _=>True,depth:=none,alive:=false,round:=ro }
theorem j4 {ro:Option Nat} {m:Nat} {P:Program} {f:FuncId} {args:Array Value} {w:World} {R:Ending→World→Prop} (h:Calls P f args w R):CallsIn (fw ro) m P f args w R:=callsIn_wide.2 h
theorem fv {ro:Option Nat} {m:Nat} {P:Program} {f:String} {args:Array Value} {w:World} {R:Value→World→Prop} (h:Rows P f args w R):RowsIn (fw ro) m P f args w R :=
 fun c cs _=>let ⟨v,w',r,s⟩:=h c cs;⟨v,w',r,stepsIn_wide.2 s⟩
theorem tV {ro:Option Nat} {m:Nat} {P:Program} {o:Oper} {a:Act} {w:World} {next:Act→World→Prop} {Q:Exit→Act→World→Prop} (hd:∀ c,o.op≠.defer c) (h:o.wp P a w next Q):o.wpIn (fw ro) m P a w next Q:=by
 refine⟨fun _ _=>trivial,?_⟩;rw[Oper.semAt_eq _ _ _ hd];unfold Oper.wp at h;generalize (execOp a.eval o).run P w=r at *;cases r with
 | ok x w' =>
  cases x<;>simp only[Oper.upon,Oper.uponIn] at h ⊢ <;>
   first
    | exact h
    | exact⟨fun h=>by simp[fw] at h,j4 h⟩
    | exact⟨fun h=>by simp[fw] at h,fv h⟩
 | halt x w'=>cases x<;>simp only[Oper.upon,Oper.uponIn] at h ⊢<;>exact h
def vt (l:List Oper):Bool:=l.all (fun o=>match o.op with|.defer _=>false|_=>true)
theorem uo {l:List Oper} (h:vt l=true):∀ o∈l,∀ c,o.op≠.defer c:=by
 intro o ho c hc;have:=List.all_eq_true.1 h o ho;rw[hc] at this;cases this
theorem pu {ro:Option Nat} {m:Nat} {P:Program} {ops:Array Oper} {Q:Exit→Act→World→Prop} (hQ:¬ LetsOut Q):∀ {l:List Oper} {a:Act} {w:World},(∀ o∈l,∀ c,o.op≠.defer c)→wpList P ops Q l a w→wpListIn (fw ro) m P ops Q l a w
 | [],_,_,_,h=>h
 | o::r,a,w,hd,h=>by
  unfold wpList at h;unfold wpListIn
  split at h
  ·rename_i hw;rw[if_pos hw]
   rcases h with h|h
   ·exact Oper.wpIn_mono (fun a w h=>pu hQ (fun o ho=>hd o (by simp[ho])) h) (tV (hd o (by simp)) h)
   ·exact absurd h.2 hQ
  ·rename_i hw;rw[if_neg hw];exact⟨fun _ _=>trivial,pu hQ (fun o ho=>hd o (by simp[ho])) h⟩
section
variable (ro:Option Nat) (m:Nat) (P:Program) (w0:World) (gs:List Nat) (n:Nat)
def WI (c:Code) (Q:Exit→Act→World→Prop) (K:List (Nat × Value)) (L:List Ent):Prop :=
 ∀ a w,a.defers=[]→a.tmps.size=n→Kn K a→Me w0 gs L w→c.wpIn (fw ro) m P Q a w
end
section
variable {ro:Option Nat} {m:Nat} {P:Program} {w0:World} {gs:List Nat} {n:Nat} {Q:Exit→Act→World→Prop} {K:List (Nat × Value)} {L:List Ent}
theorem WI.skip (k:WX w0 gs n .normal Q K L):WI ro m P w0 gs n .skip Q K L:=fun a w h1 h2 h3 h4=>wpIn_skip (k a w h1 h2 h3 h4)
theorem WI.seq {x y:Code} (k:WI ro m P w0 gs n x (Exit.then (y.wpIn (fw ro) m P Q) Q) K L):WI ro m P w0 gs n (.seq x y) Q K L:=fun a w h1 h2 h3 h4=>wpIn_seq (k a w h1 h2 h3 h4)
theorem WI.condT {c:Operand} {x y:Code} (hc:ev K c=some (.bool true)) (k:WI ro m P w0 gs n x Q K L):WI ro m P w0 gs n (.cond c x y) Q K L:=fun a w h1 h2 h3 h4=>wpIn_cond_true (h3.eval hc) (k a w h1 h2 h3 h4)
theorem WI.condF {c:Operand} {x y:Code} (hc:ev K c=some (.bool false)) (k:WI ro m P w0 gs n y Q K L):WI ro m P w0 gs n (.cond c x y) Q K L:=fun a w h1 h2 h3 h4=>wpIn_cond_false (h3.eval hc) (k a w h1 h2 h3 h4)
theorem WI.region {id:Nat} {l:List Oper} (k:WO P w0 gs n l Q K L l) (hQ:¬ LetsOut Q) (hd:vt l=true:=by rfl):WI ro m P w0 gs n (.region id l.toArray false) Q K L:=fun a w h1 h2 h3 h4 =>
 wpIn_region_lit (pu hQ (uo hd) (k a w h1 h2 h3 h4))
theorem WI.block {id:Nat} {c:Code} (k:WI ro m P w0 gs n c (Exit.inBlock id Q) K L):WI ro m P w0 gs n (.block id c) Q K L:=fun a w h1 h2 h3 h4=>wpIn_block (k a w h1 h2 h3 h4)
theorem WI.exit {id:Nat} (k:WX w0 gs n (.exit id) Q K L):WI ro m P w0 gs n (.exit id) Q K L:=fun a w h1 h2 h3 h4=>wpIn_exit (k a w h1 h2 h3 h4)
theorem WI.ret (k:WX w0 gs n .ret Q K L):WI ro m P w0 gs n .ret Q K L:=fun a w h1 h2 h3 h4=>wpIn_ret (k a w h1 h2 h3 h4)
def aeF {σ:Type} (n:Nat) (Ks:σ→List (Nat × Value)) (Inv:σ→World→Prop) (ok:σ→Prop):Act→World→Prop:=fun a w=>∃ s,ok s∧a.defers=[]∧a.tmps.size=n∧Kn (Ks s) a∧Inv s w
theorem WI.loopW {σ:Type} {c:Code} (Ks:σ→List (Nat × Value)) (Inv:σ→World→Prop) (μ:σ→Nat) (s0:σ) (h0:∀ w,Me w0 gs L w→Inv s0 w) (hk:Kle (Ks s0) K)
  (k:∀ s w,Inv s w→WI ro m P w [] n c (Exit.then (aeF n Ks Inv (fun s'=>μ s' < μ s)) Q) (Ks s) []):WI ro m P w0 gs n (.loop c) Q K L:=fun a w h1 h2 h3 h4=>by
 refine wpIn_loop (fun a w=>∃ j s,μ s=j∧a.defers=[]∧a.tmps.size=n∧Kn (Ks s) a∧Inv s w) (fun a w=>leastOf (fun j=>∃ s,μ s=j∧a.defers=[]∧a.tmps.size=n∧Kn (Ks s) a∧Inv s w)) ⟨_,s0,rfl,h1,h2,hk.kn h3,h0 w h4⟩ ?_;intro a w hI;obtain⟨s,hs,g1,g2,g3,g4⟩:=(leastOf_spec hI).1;refine wpIn_mono (k s w g4 a w g1 g2 g3 (Me.refl w [])) ?_;intro e a' w' hq;cases e with
 | normal =>
  obtain⟨s',hlt,hI'⟩:=hq;refine show (∃ j s,μ s=j∧_)∧leastOf _<leastOf _ from ⟨⟨_,s',rfl,hI'⟩,Nat.lt_of_le_of_lt ((leastOf_spec ⟨_,s',rfl,hI'⟩).2 (μ s') ⟨s',rfl,hI'⟩) ?_⟩;rw[← hs];exact hlt
 | _=>exact hq
theorem WX.metW {σ:Type} {Ks:σ→List (Nat × Value)} {Inv:σ→World→Prop} {ok:σ→Prop} (s:σ) (hs:ok s) (hk:Kle (Ks s) K) (hi:∀ w,Me w0 gs L w→Inv s w):WX w0 gs n .normal (Exit.then (aeF n Ks Inv ok) Q) K L :=
 fun _ w h1 h2 h3 h4=>⟨s,hs,h1,h2,hk.kn h3,hi w h4⟩
theorem WX.seqI {y:Code} {Q' : Exit→Act→World→Prop} (k:WI ro m P w0 gs n y Q K L):WX w0 gs n .normal (Exit.then (y.wpIn (fw ro) m P Q) Q') K L:=k
end
def dfA (ds:List Deferred) (a:Act):Act:={ a with defers:=a.defers++ds }
theorem tb (ds:List Deferred) (a:Act) (d:Option Tmp) (v:Value):(dfA ds a).put d v=dfA ds (a.put d v):=by cases d<;>rfl
theorem uk {P:Program} {ops:Array Oper} {Q:Exit→Act→World→Prop} (ds:List Deferred):∀ {l:List Oper} {a:Act} {w:World},wpList P ops (fun e a w=>Q e (dfA ds a) w) l a w→wpList P ops Q l (dfA ds a) w
 | [],_,_,h=>h
 | o::r,a,w,h=>by
  unfold wpList at h ⊢;have ht:(dfA ds a).tmps=a.tmps:=rfl;have he:(dfA ds a).eval=a.eval:=rfl;rw[ht]
  split at h
  ·rename_i hw;rw[if_pos hw]
   rcases h with h|⟨h,hl⟩
   ·refine .inl ?_;unfold Oper.wp at h ⊢;rw[he];generalize (execOp a.eval o).run P w=x at *;cases x with
    | ok n w' =>
     cases n with
     | value v=>simp only[Oper.upon] at h ⊢;rw[tb];exact uk ds h
     | skip=>simp only[Oper.upon] at h ⊢;rw[tb];exact uk ds h
     | defer dd=>simp only[Oper.upon] at h ⊢;exact (tb ds { a with defers:=dd::a.defers } o.dst undef) ▸ uk ds h
     | enter f args =>
      simp only[Oper.upon] at h ⊢;exact Calls.mono h (fun e w'' hq=>by
       cases e with
       | returned v=>simp only at hq ⊢;rw[tb];exact uk ds hq
       | panicked c=>exact hq
       | outgrown=>obtain⟨a',w',hq⟩:=hq;exact⟨_,w',hq⟩)
     | row f args=>simp only[Oper.upon] at h ⊢;exact Rows.mono h (fun v w'' hq=>by rw[tb];exact uk ds hq)
     | _=>simp only[Oper.upon] at h
    | halt x w'=>cases x<;>simp only[Oper.upon] at h ⊢<;>exact h
   ·obtain⟨a',w',hl⟩:=hl;exact .inr ⟨h,_,w',hl⟩
  ·rename_i hw;rw[if_neg hw,tb];exact uk ds h
theorem WO.tail {P:Program} {w0:World} {gs:List Nat} {n:Nat} {Q:Exit→Act→World→Prop} {K:List (Nat × Value)} {L:List Ent} {ds:List Deferred} {id:Nat} {l:List Oper} {c:Code} {a:Act} {w:World} (hd:a.defers=ds) (hs:a.tmps.size=n) (hk:Kn K a) (hm:Me w0 gs L w)
  (k:WO P w0 gs n l (fun e a w=>(Exit.then (c.wp P Q) Q) e (dfA ds a) w) K L l):(Code.seq (.region id l.toArray false) c).wp P Q a w:=by
 refine wp_seq (wp_region_lit ?_);have e:a=dfA ds { tmps:=a.tmps,defers:=[] }:=by
  cases a;subst hd;rfl
 rw[e];exact uk ds (k { tmps:=a.tmps,defers:=[] } w rfl hs hk hm)
section
variable (m:Nat) (P:Program) (w0:World) (gs:List Nat) (n:Nat) (ops:List Oper) (Q:Exit→Act→World→Prop) (K:List (Nat × Value)) (L:List Ent)
def VA (S:List Bool) (f:Nat):Prop:=¬ LetsOut Q→vt ops=true→∀ a w,a.defers=[]→a.tmps.size=n→Kn K a→Me w0 gs L w→wpAnyIn (fw none) m P .any ops.toArray Q f S.toArray a w
def tn (S:List Bool) (f:Nat):List Nat→Prop
 | []=>True
 | i::r=>(∃ o,nth ops i=some o∧(¬ LetsOut Q→vt ops=true→WO P w0 gs n ops (Qk (wpAnyIn (fw none) m P .any ops.toArray Q f (S.set i true).toArray) Q) K L [o]))∧tn S f r
end
section
variable {m:Nat} {P:Program} {w0:World} {gs:List Nat} {n:Nat} {ops:List Oper} {Q:Exit→Act→World→Prop} {K:List (Nat × Value)} {L:List Ent}
theorem ew {i:Nat} {o:Oper} {a:Act} {w:World} {k:Act→World→Prop} {ops:Array Oper} (hQ:¬ LetsOut Q) (hd:∀ c,o.op≠.defer c) (ho:ops[i]?=some o) (h:wpList P ops (Qk k Q) [o] a w):wpOpIn (fw none) m P ops Q i k a w:=by
 unfold wpOpIn;rw[ho];unfold wpList at h
 split at h
 ·rename_i hw;simp only[hw,if_true]
  rcases h with h|h
  ·exact tV hd (abM h)
  ·exact absurd (Qk.out h.2) hQ
 ·rename_i hw;simp only[hw];exact⟨fun _ _=>trivial,h⟩
theorem tn.at {S:List Bool} {f:Nat}:∀ {rs:List Nat},tn m P w0 gs n ops Q K L S f rs→∀ i∈rs,∃ o,nth ops i=some o∧(¬ LetsOut Q→vt ops=true→WO P w0 gs n ops (Qk (wpAnyIn (fw none) m P .any ops.toArray Q f (S.set i true).toArray) Q) K L [o])
 | i::r,h,j,hj=>by
  rcases List.mem_cons.1 hj with rfl|hj
  ·exact h.1
  ·exact tn.at h.2 j hj
theorem VA.step {S:List Bool} {f:Nat} (rs:List Nat) (k:tn m P w0 gs n ops Q K L S f rs) (hr:Region.ready .any ops.toArray S.toArray=rs:=by decide +kernel) (hne:rs≠[]:=by decide):VA m P w0 gs n ops Q K L S (f+1):=by
 intro hQ hd a w h1 h2 h3 h4;refine⟨fun h0=>absurd (hr.symm.trans h0) hne,fun i hi=>?_⟩;rw[hr] at hi;obtain⟨o,ho,hk⟩:=k.at i hi;have ho' : ops[i]?=some o:=by simpa [vI] using ho
 have:=ew (m:=m) (k:=wpAnyIn (fw none) m P .any ops.toArray Q f (S.set i true).toArray) (Q:=Q) (ops:=ops.toArray) (i:=i) (o:=o) (P:=P) hQ (uo hd o (List.mem_of_getElem? ho')) (by simpa using ho') (hk hQ hd a w h1 h2 h3 h4);simpa using this
theorem VA.done {S:List Bool} (k:WX w0 gs n .normal Q K L) (hr:Region.ready .any ops.toArray S.toArray=[]:=by decide +kernel):VA m P w0 gs n ops Q K L S 0:=fun _ _ a w h1 h2 h3 h4=>⟨hr,k a w h1 h2 h3 h4⟩
theorem tn.nil {S:List Bool} {f:Nat}:tn m P w0 gs n ops Q K L S f []:=trivial
theorem tn.cons {S:List Bool} {f i:Nat} {r:List Nat} {o:Oper} (k:¬ LetsOut Q→vt ops=true→WO P w0 gs n ops (Qk (wpAnyIn (fw none) m P .any ops.toArray Q f (S.set i true).toArray) Q) K L [o]) (kr:tn m P w0 gs n ops Q K L S f r) (ho:nth ops i=some o:=by rfl):tn m P w0 gs n ops Q K L S f (i::r):=⟨⟨o,ho,k⟩,kr⟩
theorem WX.va {S S' : List Bool} {f i:Nat} {Q' : Exit→Act→World→Prop} (k:VA m P w0 gs n ops Q K L S' f) (hQ:¬ LetsOut Q) (hd:vt ops=true) (hS:S.set i true=S':=by rfl):WX w0 gs n .normal (Qk (wpAnyIn (fw none) m P .any ops.toArray Q f (S.set i true).toArray) Q') K L:=by
 subst hS;exact k hQ hd
theorem VA.yield {S S' : List Bool} {f i d l:Nat} {x:Operand} {xs:Array Operand} {ats:Array TypeId} {ty:TypeId} {pos:String} {after:Array Edge} {vs:List Value} {R:World→Ending→World→Prop}
  (hx:ev K x=some (.func (.yield l) #[] #[])) (ha:evs K xs.toList=some vs)
  (hy:∀ w,Me w0 gs L w→YieldAt (fw none) (m - 1) P l vs.toArray w (R w))
  (k:∀ w e w',Me w0 gs L w→R w e w'→∃ b,e=.returned (.bool b)∧VA m P w' [] n ops Q ((d,.bool b)::K) [] S' f)
  (ho:nth ops i=some ⟨some d,.call { callee:=.value x,args:=xs,argTypes:=ats },ty,pos,after,none⟩:=by rfl) (hS:S.set i true=S':=by rfl) (hd:Nat.blt d n=true:=by rfl)
  (hr:Region.ready .any ops.toArray S.toArray=[i]:=by decide +kernel):VA m P w0 gs n ops Q K L S (f+1):=by
 intro hQ hd0 a w h1 h2 h3 h4;refine⟨fun h0=>absurd (hr.symm.trans h0) (by simp),fun j hj=>?_⟩;rw[hr] at hj;obtain rfl:=List.mem_singleton.1 hj;have ho' : ops.toArray[j]?=some ⟨some d,.call { callee:=.value x,args:=xs,argTypes:=ats },ty,pos,after,none⟩:=by simpa [vI] using ho
 unfold wpOpIn;rw[ho'];have hd' : d<n:=by simpa [Nat.blt_eq] using hd
 simp only[Region.wanted];rw[if_pos trivial];refine⟨fun _ _=>trivial,?_⟩;rw[Oper.semAt_eq _ _ _ (by intro c hc;cases hc)];obtain⟨fn,tmps,assign,body,h5,h6⟩:=hy w h4;have hrun:(execOp a.eval ⟨some d,.call { callee:=.value x,args:=xs,argTypes:=ats },ty,pos,after,none⟩).run P w=.ok (.round l fn tmps assign body) w:=by
  have e1:=h3.eval hx;have e2:xs.map a.eval=vs.toArray:=by have h:=h3.evals ha;apply Array.ext';simpa using h
  simp only[execOp,resolve,e1,e2,Deferred.ofValue,Sem.run_bind,Sem.run_pure,Result.andThen_ok,invoke];simpa using h5
 rw[hrun];refine⟨fun h=>by simp[fw] at h,h6.mono ?_⟩;intro e w' hR;obtain⟨b,rfl,hk⟩:=k w e w' h4 hR;have:=hk hQ hd0 (a.put (some d) (.bool b)) w' (by rw[put_defers];exact h1) (by rw[zR];exact h2) (h3.put (by omega) _) (Me.refl w' []);subst hS;simpa using this
end
theorem pd {args:List Value} {n:Nat} (hle:args.length≤n) (t:Nat) (v:Value) (hv:lk (kin args 0) t=some v):(args.toArray++Array.replicate (n - args.length) undef)[t]?=some v:=by
 obtain⟨j,h1,h2⟩:=uT args 0 t v hv;subst h1;have hj:j<args.length:=by
  rcases Nat.lt_or_ge j args.length with h|h
  ·exact h
  ·rw[List.getElem?_eq_none h] at h2;cases h2
 simp only[Nat.zero_add];rw[Array.getElem?_append_left (by simpa using hj)];simpa using h2
theorem vq {m n:Nat} {P:Program} {f:FuncId} {fn:Func} {c:Code} {args:List Value} {w:World} {R:Ending→World→Prop} (hf:P.funcs[f]?=some fn) (hb:fn.body=some c) (hn:fn.ntmps=n) (hle:Nat.ble args.length n=true)
  (k:WI none m P w [] n c (bodyPost P fn R) (kin args 0) []):CallsIn (fw none) m P f args.toArray w R:=by
 refine callsIn_of_wp hf hb trivial ?_ rfl;subst hn;have hle' : args.length≤fn.ntmps:=by simpa using hle
 exact k _ w rfl (by simp;omega) (pd hle') (Me.refl w [])
theorem uQ {n:Nat} (m:Nat) {P:Program} {f:FuncId} {fn:Func} {c:Code} {args:List Value} {w:World} {R:Ending→World→Prop} (hf:P.funcs[f]?=some fn) (hb:fn.body=some c) (hn:fn.ntmps=n) (hle:Nat.ble args.length n=true)
  (k:WC P w [] n c (bodyPostM Fence.wide m P fn R) (kin args 0) []):Calls P f args.toArray w R:=by
 refine (callsIn_wide (n:=m)).1 (callsIn_of_wp_marks hf hb trivial ?_ rfl);refine wpIn_wide.2 ?_;subst hn;have hle' : args.length≤fn.ntmps:=by simpa using hle
 exact k _ w rfl (by simp;omega) (pd hle') (Me.refl w [])
def zV (ks:List Nat) (A B:World):Prop:=∀ k∈ks,B.heap[k]?=A.heap[k]?
theorem zV.trans {ks:List Nat} {A B C:World} (h:zV ks A B) (k:zV ks B C):zV ks A C:=fun i hi=>(k i hi).trans (h i hi)
theorem zV.seg {ks:List Nat} {A B:World} (h:zV ks A B) {b o:Nat} {cs:List Value} (hb:b∈ks) (hs:Seg A b o cs):Seg B b o cs:=fun i v hv=>(World.cell?_of_block (a:=⟨b,o+i,none⟩) (h b hb)).trans (hs i v hv)
theorem zV.of_mod {ks gs:List Nat} {A B:World} (h:Mod gs A B) (hk:∀ k∈ks,k<A.heap.size∧k ∉ gs):zV ks A B:=fun k hm=>h.block k (hk k hm).1 (hk k hm).2
theorem zV.put {ks:List Nat} {n:Nat} (hk:∀ k∈ks,k<n) (W:World) (l:Nat) (o o' : Obj) (hl:n≤l) (_:W.heap[l]?=some o) (_:o.isCells=false) (_:o.isWalk=false):zV ks W (W.putObj l o'):=fun k hm=>World.putObj_heap_other (by have:=hk k hm;omega)
theorem okK.far {g:Nat} {t:TypeId} {cs:List Value} {w:World} {o:Obj} (h:okK false g t cs w) (h1:w.heap[g]?=some o) (h2:o.isCells=false):False:=by
 obtain⟨t,fr,h3,_⟩:=h;rw[h1] at h3;cases h3;cases h2
theorem Ent.ok.far {e:Ent} {w:World} {o:Obj} (h:e.ok w) (hk:e.k.map=false) (h1:w.heap[e.g]?=some o) (h2:o.isCells=false):False:=by
 have h:okK e.k.map e.g e.t e.cs w:=h;rw[hk] at h;exact h.far h1 h2
theorem Me.ownM {w0:World} {gs:List Nat} {L:List Ent} {A B:World} {row:Option Nat} {n:Nat} (h:Me w0 gs L A) (hn:w0.heap.size≤n) (hg:A.grownBy B row) (hr:∀ r,row=some r→n≤r∧∃ o:Obj,A.heap[r]?=some o∧o.isCells=false)
  (hm:∀ e∈L,e.k.map=true→e.g<n):Me w0 gs L B:=by
 have hne:∀ k,k<A.heap.size→(∀ r,row=some r→k≠r)→B.heap[k]?=A.heap[k]?:=fun k hk h=>hg.block k hk (fun e=>h k e.symm rfl);have hb:Below w0.heap.size A B:=(Below.refl _ A).grown hg h.mod.size (fun k e=>Nat.le_trans hn (hr k e).1);refine⟨⟨hb.os.trans h.mod.os,hb.tape.trans h.mod.tape,hb.output.trans h.mod.output,Nat.le_trans h.mod.size hb.size,fun k hk hk2=>?_⟩,fun e he=>?_,h.mine,h.nodup⟩
 ·refine (hne k (Nat.lt_of_lt_of_le hk h.mod.size) (fun r e=>?_)).trans (h.mod.block k hk hk2);have:=(hr r e).1;omega
 ·refine (h.ok e he).keep (hne e.g (h.ok e he).lt (fun r e' hx=>?_));obtain⟨h0,o,h1,h2⟩:=hr r e';cases hk:e.k.map with
  | false=>exact (h.ok e he).far hk (by rw[hx];exact h1) h2
  | true=>have:=hm e he hk;omega
theorem Me.own {w0:World} {L:List Ent} {A B:World} {row:Option Nat} {n:Nat} (h:Me w0 [] L A) (hn:w0.heap.size≤n) (hg:A.grownBy B row) (hr:∀ r,row=some r→n≤r∧∃ o:Obj,A.heap[r]?=some o∧o.isCells=false)
  (hk:(L.all fun e=>!e.k.map)=true:=by rfl):Me w0 [] L B:=h.ownM hn hg hr (fun e he hm=>by
 have:=List.all_eq_true.1 hk e he;rw[hm] at this;cases this)
theorem Ent.ok.own {e:Ent} {A B:World} {row:Option Nat} {n:Nat} (h:e.ok A) (hg:A.grownBy B row) (hr:∀ r,row=some r→n≤r∧∃ o:Obj,A.heap[r]?=some o∧o.isCells=false) (hk:e.k.map=false:=by rfl):e.ok B:=by
 refine h.keep (hg.block e.g h.lt (fun hx=>?_));obtain⟨_,o,h1,h2⟩:=hr e.g hx.symm;exact h.far hk h1 h2
theorem yF (a:Act) (d:Option Tmp) (v:Value) {t:Nat} (h:d≠some t):(a.put d v).tmps[t]?=a.tmps[t]?:=by
 cases d with
 | none=>rfl
 | some d =>
  simp only[Act.put];rw[Array.getElem?_setIfInBounds];rw[if_neg (fun e=>h (by rw[e]))]
theorem dp {P:Program} {ops:Array Oper} {Q:Exit→Act→World→Prop} {i:Nat} {o:Oper} {a:Act} {w:World} {K:Act→World→Prop} (ho:ops[i]?=some o) (h:wpOp P ops Q i K a w) :
  wpOp P ops Q i (fun a' w'=>K a' w'∧∀ t,o.dst≠some t→a'.tmps[t]?=a.tmps[t]?) a w:=by
 unfold wpOp at *;simp only[ho] at h ⊢
 split at h
 ·rename_i hw;rw[if_pos hw];refine h.imp (fun h=>?_) id;unfold Oper.wp at *;generalize (execOp a.eval o).run P w=r at *;cases r with
  | ok n w' =>
   cases n with
   | value v=>exact⟨h,fun t ht=>yF _ _ _ ht⟩
   | skip=>exact⟨h,fun t ht=>yF _ _ _ ht⟩
   | defer d=>exact⟨h,fun t ht=>yF _ _ _ ht⟩
   | enter f args =>
    refine Calls.mono h (fun e w'' he=>?_);cases e with
    | returned v=>exact⟨he,fun t ht=>yF _ _ _ ht⟩
    | panicked c=>exact he
    | outgrown=>exact he
   | row r args=>exact Rows.mono h (fun v w'' he=>⟨he,fun t ht=>yF _ _ _ ht⟩)
   | _=>exact h
  | halt x w'=>cases x<;>exact h
 ·rename_i hw;rw[if_neg hw];exact⟨h,fun t ht=>yF _ _ _ ht⟩
def dps (ops:List Oper) (i:Nat):List Nat:=match nth ops i with
 | none=>[]
 | some o=>(o.after.toList.filter fun e=>Region.binds .any e).map fun e=>e.on
def sJ (ops:List Oper) (i:Nat):Nat:=match nth ops i with
 | some ⟨some d,_,_,_,_,_⟩=>d
 | _=>0
def na (ops:List Oper) (i:Nat):Bool:=match nth ops i with
 | some ⟨some _,_,_,_,_,none⟩=>true
 | _=>false
def tvs (ops:List Oper) (T:List (Nat × Value)):List Nat→List (Nat × Value)
 | []=>[]
 | j::r=>match lk T j with
  | some v=>(sJ ops j,v)::tvs ops T r
  | none=>tvs ops T r
theorem mg {ops:List Oper} {T:List (Nat × Value)} {a:Act}:∀ {l:List Nat},(∀ j∈l,∀ v,lk T j=some v→a.tmps[sJ ops j]?=some v)→Kn (tvs ops T l) a
 | [],_,t,v,h=>by cases h
 | j::r,h,t,v,ht=>by
  have ih:=mg (ops:=ops) (T:=T) (a:=a) (l:=r) (fun k hk=>h k (by simp[hk]));unfold tvs at ht;cases hl:lk T j with
  | none=>rw[hl] at ht;exact ih t v ht
  | some u =>
   rw[hl] at ht;unfold lk at ht;cases hb:Nat.beq (sJ ops j) t with
   | true =>
    rw[hb] at ht;have e:sJ ops j=t:=Nat.eq_of_beq_eq_true hb;cases ht;rw[← e];exact h j (by simp) _ hl
   | false=>rw[hb] at ht;exact ih t v ht
theorem rh {k:Nat} {u:Value} {r:List (Nat × Value)} {t:Nat}:lk ((k,u)::r) t=bif Nat.beq k t then some u else lk r t:=rfl
theorem fp {K' : List (Nat × Value)} {t:Nat}:∀ {K:List (Nat × Value)},lk (K++K') t=(lk K t).or (lk K' t)
 | []=>rfl
 | (k,u)::r=>by
  rw[List.cons_append,rh,rh];cases Nat.beq k t with
  | true=>rfl
  | false=>exact fp
theorem lT {K K' : List (Nat × Value)} {a:Act} (h1:Kn K a) (h2:Kn K' a):Kn (K++K') a:=by
 intro t v ht;rw[fp] at ht;cases h:lk K t with
 | some u=>rw[h] at ht;cases ht;exact h1 t v h
 | none=>rw[h] at ht;exact h2 t v ht
def jG (ops:List Oper) (main ts:List Nat) (n:Nat):Bool :=
 ((List.range ops.length).all fun i=>(main.contains i != ts.contains i) && (dps ops i).all fun j=>decide (j<i)) &&
 (ts.all fun i=>na ops i && decide (sJ ops i<n) && (dps ops i).all (fun j=>ts.contains j) && (List.range ops.length).all fun j=>decide (j=i) || ((nth ops j).map (fun o=>decide (o.dst≠some (sJ ops i)))).getD true) &&
 (List.range (main.length - 1)).all (fun k=>(dps ops (main.getD (k+1) 0)).contains (main.getD k 0)) && main.all fun i=>decide (i<ops.length)
section
variable (P:Program) (w0:World) (gs:List Nat) (n:Nat) (ops:List Oper) (Q:Exit→Act→World→Prop)
inductive Tls (K0:List (Nat × Value)) (Lc:List Ent) (T:List (Nat × Value)):List (Nat × Value)→Prop
 | nil:Tls K0 Lc T []
 | cons {i:Nat} {v:Value} {r:List (Nat × Value)} {o:Oper}:nth ops i=some o→Does P w0 gs (tvs ops T (dps ops i)++K0) Lc o.op o.type v→Tls K0 Lc T r→Tls K0 Lc T ((i,v)::r)
variable (main:List Nat) (T:List (Nat × Value))
def WM (done:Nat) (K:List (Nat × Value)) (L:List Ent):Prop :=
 ∀ (f:Nat) (S:List Bool) (a:Act) (w:World),S.length=ops.length→S.count false≤f→(∀ k m,main[k]?=some m→(S[m]?=some true↔k<done))→(∀ i,S[i]?=some true→∀ j∈dps ops i,S[j]?=some true)→a.defers=[]→a.tmps.size=n→Kn K a →
  (∀ i v,lk T i=some v→S[i]?=some true→a.tmps[sJ ops i]?=some v)→Me w0 gs L w→wpAny P .any ops.toArray Q f S.toArray a w
def MR (o:Oper) (K:List (Nat × Value)) (done:Nat):Act→World→Prop:=fun a w=>a.defers=[]∧a.tmps.size=n∧∃ K' L,WM P w0 gs n ops Q main T done (K'++K) L∧Kn K' a∧Me w0 gs L w∧(∀ d,o.dst=some d→(∃ v,lk K' d=some v)∨lk K d=none)
end
theorem vB {ops:List Oper} {S:List Bool} (hl:S.length=ops.length) {i:Nat} (h:i∈Region.ready .any ops.toArray S.toArray):i<ops.length∧S[i]?=some false∧∀ j∈dps ops i,S[j]?=some true:=by
 unfold Region.ready at h;rw[List.mem_filter] at h;obtain⟨h1,h2⟩:=h;have hi:i<ops.length:=by simpa using List.mem_range.1 h1
 rw[Bool.and_eq_true] at h2;obtain⟨h2,h3⟩:=h2;have hiS:i<S.length:=by omega
 refine⟨hi,?_,fun j hj=>?_⟩
 ·rw[List.getElem?_eq_getElem hiS];simp only[Array.getD_eq_getD_getElem?,List.getElem?_toArray,List.getElem?_eq_getElem hiS] at h2;simpa using h2
 ·unfold dps at hj;have ho:nth ops i=some ops[i]:=by rw[vI,List.getElem?_eq_getElem hi]
  rw[ho] at hj;have ho2:ops.toArray[i]?=some ops[i]:=by simp[hi]
  rw[ho2] at h3;simp only[Option.map_some,Option.getD_some,Array.all_eq_true'] at h3;obtain⟨e,he,rfl⟩:=List.mem_map.1 hj;obtain⟨he1,he2⟩:=List.mem_filter.1 he;have:=h3 e (by simpa using he1);rw[he2] at this;simp only[Bool.not_true,Bool.false_or] at this;simp only[Array.getD_eq_getD_getElem?,List.getElem?_toArray] at this;cases hS:S[e.on]? with
  | none=>rw[hS] at this;simp at this
  | some b=>rw[hS] at this;simp at this;rw[this]
theorem tU {ops:List Oper} {S:List Bool} (hl:S.length=ops.length) (hac:∀ i,i<ops.length→∀ j∈dps ops i,j<i) (h:Region.ready .any ops.toArray S.toArray=[]):∀ i,i<ops.length→S[i]?=some true:=by
 intro i
 induction i using Nat.strongRecOn with
 | ind i ih =>
  intro hi;have hiS:i<S.length:=by omega
  cases hb:S[i] with
  | true=>rw[List.getElem?_eq_getElem hiS,hb]
  | false =>
   exfalso;have hm:i∈Region.ready .any ops.toArray S.toArray:=by
    unfold Region.ready;rw[List.mem_filter];refine⟨by simpa using hi,?_⟩;rw[Bool.and_eq_true];refine⟨by simp only[Array.getD_eq_getD_getElem?,List.getElem?_toArray,List.getElem?_eq_getElem hiS,hb];rfl,?_⟩;have ho2:ops.toArray[i]?=some ops[i]:=by simp[hi]
    rw[ho2];simp only[Option.map_some,Option.getD_some,Array.all_eq_true'];intro e he;cases hbd:Region.binds .any e with
    | false=>rfl
    | true =>
     have hj:e.on∈dps ops i:=by
      unfold dps;have ho:nth ops i=some ops[i]:=by rw[vI,List.getElem?_eq_getElem hi]
      rw[ho];exact List.mem_map.2 ⟨e,List.mem_filter.2 ⟨by simpa using he,hbd⟩,rfl⟩
     have hlt:=hac i hi _ hj;have:=ih e.on hlt (by omega);simp only[Bool.not_true,Bool.false_or,Array.getD_eq_getD_getElem?,List.getElem?_toArray,this];rfl
   rw[h] at hm;cases hm
theorem o6 {T:List (Nat × Value)} {i:Nat}:(∃ v,lk T i=some v)↔i∈T.map Prod.fst:=by
 induction T with
 | nil=>simp[lk]
 | cons p r ih =>
  obtain⟨k,u⟩:=p;rw[rh];cases hb:Nat.beq k i with
  | true =>
   have e:k=i:=Nat.eq_of_beq_eq_true hb;simp[e]
  | false =>
   have e:¬ i=k:=fun e=>by subst e;rw[Nat.beq_refl] at hb;cases hb
   simp only[cond_false,ih,List.map_cons,List.mem_cons,e,false_or]
theorem Tls.at {P:Program} {w0:World} {gs:List Nat} {ops:List Oper} {K0:List (Nat × Value)} {Lc:List Ent} {T:List (Nat × Value)} {i:Nat} {v:Value}:∀ {R:List (Nat × Value)},Tls P w0 gs ops K0 Lc T R→lk R i=some v→∃ o,nth ops i=some o∧Does P w0 gs (tvs ops T (dps ops i)++K0) Lc o.op o.type v
 | _,.nil,h=>by cases h
 | (k,u)::r,.cons h1 h2 h3,h=>by
  rw[rh] at h;cases hb:Nat.beq k i with
  | true =>
   rw[hb] at h;have e:k=i:=Nat.eq_of_beq_eq_true hb;subst e;cases h;exact⟨_,h1,h2⟩
  | false=>rw[hb] at h;exact h3.at h
theorem rr {S:List Bool} {i f:Nat} (h:S[i]?=some false) (hc:S.count false≤f+1):(S.set i true).count false≤f:=by
 induction S generalizing i f with
 | nil=>cases h
 | cons b r ih =>
  cases i with
  | zero =>
   have e:b=false:=by simpa using h
   subst e;simp only[List.set_cons_zero,List.count_cons] at hc ⊢;simp at hc ⊢;omega
  | succ i =>
   have h' : r[i]?=some false:=by simpa using h
   have h0:0<r.count false:=List.count_pos_iff.2 (List.mem_of_getElem? h');simp only[List.set_cons_succ,List.count_cons] at hc ⊢;cases b with
   | true=>simp at hc ⊢;exact ih h' hc
   | false =>
    simp at hc ⊢;have:=ih (f:=r.count false - 1) h' (by omega);omega
section
variable {P:Program} {w0:World} {gs:List Nat} {n:Nat} {ops:List Oper} {Q:Exit→Act→World→Prop} {main:List Nat} {T K0 K:List (Nat × Value)} {Lc L:List Ent} {done:Nat}
structure Stg (n:Nat) (w0:World) (gs:List Nat) (ops:List Oper) (main:List Nat) (T:List (Nat × Value)) (done:Nat) (K:List (Nat × Value)) (L:List Ent) (f:Nat) (S:List Bool) (a:Act) (w:World):Prop where
 len:S.length=ops.length
 cnt:S.count false≤f
 mn:∀ k m,main[k]?=some m→(S[m]?=some true↔k<done)
 cl:∀ i,S[i]?=some true→∀ j∈dps ops i,S[j]?=some true
 df:a.defers=[]
 sz:a.tmps.size=n
 kn:Kn K a
 tl:∀ i v,lk T i=some v→S[i]?=some true→a.tmps[sJ ops i]?=some v
 me:Me w0 gs L w
structure Chk (ops:List Oper) (main ts:List Nat) (n:Nat):Prop where
 one:∀ i,i<ops.length→(main.contains i≠ts.contains i)
 ac:∀ i,i<ops.length→∀ j∈dps ops i,j<i
 dst:∀ i∈ts,na ops i=true∧sJ ops i<n
 tdep:∀ i∈ts,∀ j∈dps ops i,j∈ts
 apart:∀ i∈ts,∀ j o,nth ops j=some o→j≠i→o.dst≠some (sJ ops i)
 chain:∀ k m m',main[k]?=some m→main[k+1]?=some m'→m∈dps ops m'
theorem jG.spec {ts:List Nat} (h:jG ops main ts n=true):Chk ops main ts n:=by
 unfold jG at h;simp only[Bool.and_eq_true,List.all_eq_true,List.mem_range,bne_iff_ne,decide_eq_true_eq,Bool.or_eq_true,List.contains_iff_mem] at h;obtain⟨⟨⟨h1,h2⟩,h3⟩,h4⟩:=h;refine⟨fun i hi=>?_,fun i hi=>(h1 i hi).2,fun i hi=>(h2 i hi).1.1,fun i hi=>(h2 i hi).1.2,fun i hi j o ho hne=>?_,fun k m m' hm hm'=>?_⟩
 ·exact (h1 i hi).1
 ·have hj:j<ops.length:=by
   rcases Nat.lt_or_ge j ops.length with h|h
   ·exact h
   ·rw[vI,List.getElem?_eq_none h] at ho;cases ho
  rcases (h2 i hi).2 j hj with e|e
  ·exact absurd e hne
  ·rw[ho] at e;simpa using e
 ·have hk:k<main.length - 1:=by
   have:k+1<main.length:=by
    rcases Nat.lt_or_ge (k+1) main.length with h|h
    ·exact h
    ·rw[List.getElem?_eq_none h] at hm';cases hm'
   omega
  have:=h3 k hk;simpa [List.getD,hm,hm'] using this
theorem aad {ops:List Oper} {S:List Bool} {i:Nat} (hi:i<S.length) (hcl:∀ i,S[i]?=some true→∀ j∈dps ops i,S[j]?=some true) (hid:∀ j∈dps ops i,S[j]?=some true):∀ k,(S.set i true)[k]?=some true→∀ j∈dps ops k,(S.set i true)[j]?=some true:=by
 have up:∀ j,S[j]?=some true→(S.set i true)[j]?=some true:=fun j hj=>by
  by_cases e:i=j
  ·subst e;rw[List.getElem?_set_self hi]
  ·rw[List.getElem?_set_ne e];exact hj
 intro k hk j hj
 by_cases e:i=k
 ·subst e;exact up j (hid j hj)
 ·rw[List.getElem?_set_ne e] at hk;exact up j (hcl k hk j hj)
theorem WM.loop (hc:jG ops main (T.map Prod.fst) n=true) (hT:Tls P w0 gs ops K0 Lc T T) (hk0:Kle K0 K) (hl0:Lle Lc L) (hfree:((T.map Prod.fst).all fun i=>(lk K (sJ ops i)).isNone)=true)
  (hmain:∀ f S a w,Stg n w0 gs ops main T done K L (f+1) S a w→∀ i,main.contains i=true→i∈Region.ready .any ops.toArray S.toArray→wpOp P ops.toArray Q i (wpAny P .any ops.toArray Q f (S.set i true).toArray) a w)
  (hfin:∀ f S a w,Stg n w0 gs ops main T done K L f S a w→(∀ i,i<ops.length→S[i]?=some true)→Q .normal a w):WM P w0 gs n ops Q main T done K L:=by
 have C:=jG.spec hc;have hfree:∀ i∈T.map Prod.fst,lk K (sJ ops i)=none:=fun i hi=>by simpa using List.all_eq_true.1 hfree i hi
 intro f
 induction f with
 | zero =>
  intro S a w h1 h2 h3 hcl h4 h5 h6 h7 h8;have hs:Stg n w0 gs ops main T done K L 0 S a w:=⟨h1,h2,h3,hcl,h4,h5,h6,h7,h8⟩;have hr:Region.ready .any ops.toArray S.toArray=[]:=by
   rw[List.eq_nil_iff_forall_not_mem];intro i hi;have:=(vB h1 hi).2.1;have:0<S.count false:=List.count_pos_iff.2 (List.mem_of_getElem? this);omega
  exact⟨hr,hfin _ _ _ _ hs (tU h1 C.ac hr)⟩
 | succ f ih =>
  intro S a w h1 h2 h3 hcl h4 h5 h6 h7 h8;have hs:Stg n w0 gs ops main T done K L (f+1) S a w:=⟨h1,h2,h3,hcl,h4,h5,h6,h7,h8⟩;refine⟨fun hr=>hfin _ _ _ _ hs (tU h1 C.ac hr),fun i hi=>?_⟩;rw[List.setIfInBounds_toArray];cases hm:main.contains i with
  | true=>exact hmain f S a w hs i hm hi
  | false =>
   obtain⟨hil,hiS,hid⟩:=vB h1 hi;have hits:i∈T.map Prod.fst:=by
    have:=C.one i hil;rw[hm] at this;cases h:(T.map Prod.fst).contains i with
    | true=>simpa using h
    | false=>exact absurd h.symm this
   obtain⟨v,hv⟩:=o6.2 hits;obtain⟨o,ho,hdo⟩:=hT.at hv;obtain⟨hd1,hd2⟩:=C.dst i hits;have hod:o.dst=some (sJ ops i)∧o.guard=none:=by
    unfold na at hd1;unfold sJ;rw[ho] at hd1 ⊢;obtain⟨od,_,_,_,_,og⟩:=o;cases od with
    | none=>simp at hd1
    | some d=>cases og with
     | none=>exact⟨rfl,rfl⟩
     | some g=>simp at hd1
   have hkn:Kn (tvs ops T (dps ops i)++K0) a:=lT (mg fun j hj u hu=>h7 j u hu (hid j hj)) (hk0.kn h6);have hrun:=hdo a w hkn (hl0.me h8).mr o rfl rfl;have ho2:ops.toArray[i]?=some o:=by simpa [vI] using ho
   unfold wpOp;simp only[ho2];have hw:Region.wanted o (yielded ops.toArray a.tmps)=true:=by unfold Region.wanted;rw[hod.2]
   rw[if_pos hw];left;unfold Oper.wp;rw[hrun];show wpAny P .any ops.toArray Q f (S.set i true).toArray (a.put o.dst v) w;refine ih _ _ _ (by rw[List.length_set];exact h1) (rr hiS h2) (fun k m hkm=>?_) (aad (by omega) hcl hid) (by rw[put_defers];exact h4) (by rw[zR];exact h5) (fun t u ht=>?_) (fun j u hu hj=>?_) h8
   ·have hne:¬ i=m:=fun e=>by
     subst e;have:main.contains i=true:=by simpa using List.mem_of_getElem? hkm
     rw[hm] at this;cases this
    rw[List.getElem?_set_ne hne];exact h3 k m hkm
   ·have hne:o.dst≠some t:=fun e=>by
     rw[hod.1] at e;cases e;rw[hfree i hits] at ht;cases ht
    rw[yF _ _ _ hne];exact h6 t u ht
   ·by_cases e:j=i
    ·subst e;rw[hv] at hu;cases hu;rw[hod.1];simp only[Act.put];rw[Array.getElem?_setIfInBounds,if_pos rfl,if_pos (by omega)]
    ·rw[List.getElem?_set_ne (fun h=>e h.symm)] at hj;have hjt:j∈T.map Prod.fst:=o6.1 ⟨u,hu⟩;have hne:o.dst≠some (sJ ops j):=C.apart j hjt i o ho (fun h=>e h.symm);rw[yF _ _ _ hne];exact h7 j u hu hj
theorem WM.step {m:Nat} {o:Oper} (hm:main[done]?=some m) (ho:nth ops m=some o) (hc:jG ops main (T.map Prod.fst) n=true) (hT:Tls P w0 gs ops K0 Lc T T)
  (k:WO P w0 gs n ops (Qk (MR P w0 gs n ops Q main T o K (done+1)) Q) (tvs ops T (dps ops m)++K) L [o]) (hk0:Kle K0 K:=by (repeat (first|exact Kle.nil|refine Kle.cons rfl rfl ?_))) (hl0:Lle Lc L:=by (repeat (first|exact Lle.nil|refine Lle.c ?_))) (hfree:((T.map Prod.fst).all fun i=>(lk K (sJ ops i)).isNone)=true:=by rfl):WM P w0 gs n ops Q main T done K L:=by
 have C:=jG.spec hc;have hml:m<ops.length:=by
  rcases Nat.lt_or_ge m ops.length with h|h
  ·exact h
  ·rw[vI,List.getElem?_eq_none h] at ho;cases ho
 have hmm:main.contains m=true:=by simpa using List.mem_of_getElem? hm
 have ho2:ops.toArray[m]?=some o:=by simpa [vI] using ho
 have hdl:done<main.length:=by
  rcases Nat.lt_or_ge done main.length with h|h
  ·exact h
  ·rw[List.getElem?_eq_none h] at hm;cases hm
 have only:∀ {S:List Bool},(∀ k m,main[k]?=some m→(S[m]?=some true↔k<done))→∀ {k' i:Nat},main[k']?=some i→S[i]?=some false→(∀ j∈dps ops i,S[j]?=some true)→k'=done:=by
  intro S hmn k' i hki hiS hid;have h1:¬ k' < done:=fun h=>by have:=(hmn k' i hki).2 h;rw[hiS] at this;cases this
  rcases Nat.lt_or_ge done k' with h|h
  ·exfalso;obtain⟨q,rfl⟩ : ∃ q,k'=q+1:=⟨k' - 1,by omega⟩
   obtain⟨mq,hmq⟩ : ∃ x,main[q]?=some x:=by
    have:q<main.length:=by
     rcases Nat.lt_or_ge (q+1) main.length with h|h
     ·omega
     ·rw[List.getElem?_eq_none h] at hki;cases hki
    exact⟨_,List.getElem?_eq_getElem this⟩
   have:=hid mq (C.chain q mq i hmq hki);have:=(hmn q mq hmq).1 this;omega
  ·omega
 refine WM.loop hc hT hk0 hl0 hfree (fun f S a w hs i hi hr=>?_) (fun f S a w hs hall=>?_)
 ·obtain⟨hil,hiS,hid⟩:=vB hs.len hr;obtain⟨k',hk'⟩:=List.getElem?_of_mem (by simpa using hi:i∈main);have e:=only hs.mn hk' hiS hid;subst e;have e2:i=m:=by rw[hm] at hk';cases hk';rfl
  subst e2;have hkn:Kn (tvs ops T (dps ops i)++K) a:=lT (mg fun j hj u hu=>hs.tl j u hu (hid j hj)) hs.kn;have h1:=dp ho2 (mF ho2 (k a w hs.df hs.sz hkn hs.me));refine wpOp_mono (fun a' w' hh=>?_) h1;obtain⟨⟨g1,g2,K',L',g3,g4',g5,g7⟩,g6⟩:=hh;have g4:Kn (K'++K) a':=by
   intro t v ht;rw[fp] at ht;cases h:lk K' t with
   | some u=>rw[h] at ht;cases ht;exact g4' t v h
   | none =>
    rw[h] at ht;have ht:lk K t=some v:=ht;have hne:o.dst≠some t:=fun e=>by
     rcases g7 t e with ⟨v',hv'⟩|h2
     ·rw[h] at hv';cases hv'
     ·rw[h2] at ht;cases ht
    rw[g6 t hne];exact hs.kn t v ht
  refine g3 f (S.set i true) a' w' (by rw[List.length_set];exact hs.len) (rr hiS hs.cnt) (fun q mq hq=>?_) (aad (by rw[hs.len];exact hil) hs.cl hid) g1 g2 g4 (fun j u hu hj=>?_) g5
  ·by_cases e:i=mq
   ·subst e;have:=only hs.mn hq hiS hid;subst this;rw[List.getElem?_set_self (by rw[hs.len];exact hil)];simp
   ·rw[List.getElem?_set_ne e,hs.mn q mq hq];constructor
    ·intro h;omega
    ·intro h
     rcases Nat.lt_or_ge q k' with h2|h2
     ·exact h2
     ·exfalso;have:q=k':=by omega
      subst this;rw[hk'] at hq;cases hq;exact e rfl
  ·have hjt:j∈T.map Prod.fst:=o6.1 ⟨u,hu⟩;have hne:j≠i:=fun e=>by
    subst e;have:=C.one j hil;rw[hi] at this;exact this (by simpa using hjt)
   rw[List.getElem?_set_ne (fun h=>hne h.symm)] at hj;rw[g6 _ (C.apart j hjt i o ho (fun h=>hne h.symm))];exact hs.tl j u hu hj
 ·exfalso;have:=(hs.mn done m hm).1 (hall m hml);omega
theorem WM.fin {m:Nat} (hc:jG ops main (T.map Prod.fst) n=true) (hm:main[done - 1]?=some m) (hd:done=main.length) (hall:(T.map Prod.fst).all (fun i=>(dps ops m).contains i)=true)
  (k:WX w0 gs n .normal Q K L) (h0:0<done:=by decide):WM P w0 gs n ops Q main T done K L:=by
 have C:=jG.spec hc;have key:∀ (f:Nat) (S:List Bool) (a:Act) (w:World),S.length=ops.length→(∀ k m,main[k]?=some m→(S[m]?=some true↔k<done))→(∀ i,S[i]?=some true→∀ j∈dps ops i,S[j]?=some true)→a.defers=[]→a.tmps.size=n→Kn K a→Me w0 gs L w→wpAny P .any ops.toArray Q f S.toArray a w:=by
  intro f S a w h1 h3 hcl h4 h5 h6 h8;have hr:Region.ready .any ops.toArray S.toArray=[]:=by
   rw[List.eq_nil_iff_forall_not_mem];intro i hi;obtain⟨hil,hiS,hid⟩:=vB h1 hi;cases hmi:main.contains i with
   | true =>
    obtain⟨k',hk'⟩:=List.getElem?_of_mem (by simpa using hmi:i∈main);have hkl:k' < main.length:=by
     rcases Nat.lt_or_ge k' main.length with h|h
     ·exact h
     ·rw[List.getElem?_eq_none h] at hk';cases hk'
    have:=(h3 k' i hk').2 (by omega);rw[hiS] at this;cases this
   | false =>
    have hits:i∈T.map Prod.fst:=by
     have:=C.one i hil;rw[hmi] at this;cases h:(T.map Prod.fst).contains i with
     | true=>simpa using h
     | false=>exact absurd h.symm this
    have hmS:=(h3 (done - 1) m hm).2 (by omega);have hin:i∈dps ops m:=by simpa using List.all_eq_true.1 hall i hits
    have:=hcl m hmS i hin;rw[hiS] at this;cases this
  cases f with
  | zero=>exact⟨hr,k a w h4 h5 h6 h8⟩
  | succ f=>exact⟨fun _=>k a w h4 h5 h6 h8,fun i hi=>by rw[hr] at hi;cases hi⟩
 exact fun f S a w h1 _ h3 hcl h4 h5 h6 _ h8=>key f S a w h1 h3 hcl h4 h5 h6 h8
theorem WX.wm {o:Oper} {d:Nat} {Q' : Exit→Act→World→Prop} {K1:List (Nat × Value)} (K' : List (Nat × Value)) (k:WM P w0 gs n ops Q main T d (K'++K) L) (hk:Kle K' K1:=by (repeat (first|exact Kle.nil|refine Kle.cons rfl rfl ?_))) (hd:∀ t,o.dst=some t→(∃ v,lk K' t=some v)∨lk K t=none:=by (intro t ht;first|(cases ht;done)|(cases ht;first|exact .inl ⟨_,rfl⟩|exact .inr rfl))):WX w0 gs n .normal (Qk (MR P w0 gs n ops Q main T o K d) Q') K1 L:=fun _ _ h1 h2 h3 h4 =>
 ⟨h1,h2,K',L,k,hk.kn h3,h4,hd⟩
theorem WM.with (Lc:List Ent) (hc:jG ops main (T.map Prod.fst) n=true) (hT:Tls P w0 gs ops K Lc T T) (k:jG ops main (T.map Prod.fst) n=true→Tls P w0 gs ops K Lc T T→WM P w0 gs n ops Q main T 0 K L):WM P w0 gs n ops Q main T 0 K L:=k hc hT
theorem WC.mains {id:Nat} {l:List Oper} [Mix P] (main:List Nat) (T:List (Nat × Value)) (hml:main.all (fun i=>decide (i<l.length))=true) (k:WM P w0 gs n l Q main T 0 K L):WC P w0 gs n (.region id l.toArray true) Q K L:=by
 refine WC.all (fun a w h1 h2 h3 h4=>k _ _ a w (by simp) (by rw[List.count_replicate];split<;>omega) (fun q m hq=>?_) (fun i hi=>?_) h1 h2 h3 (fun i v _ hi=>?_) h4)
 ·have hm:m<l.length:=by
   have:=List.all_eq_true.1 hml m (List.mem_of_getElem? hq);simpa using this
  rw[List.getElem?_replicate,if_pos hm];simp
 ·rw[List.getElem?_replicate] at hi
  split at hi<;>simp at hi
 ·rw[List.getElem?_replicate] at hi
  split at hi<;>simp at hi
end
class MpT (P:Program) (t:TypeId) (kt et:outParam TypeId):Prop where
 under:P.underlying t=some (.map kt et)
def mpC (M:List (Value × Value)):List Value:=M.flatMap fun x=>[x.1,x.2]
abbrev mpE (g:Nat) (M:List (Value × Value)):Ent:=@Ent.mk g 0 (mpC M) mapK
theorem iG:∀ {A B:List (Value × Value)},mpC A=mpC B→A=B
 | [],[],_=>rfl
 | [],b::B,h=>by simp[mpC] at h
 | a::A,[],h=>by simp[mpC] at h
 | (a1,a2)::A,(b1,b2)::B,h=>by
  have h' : a1::a2::mpC A=b1::b2::mpC B:=h;injection h' with h1 h2
  injection h2 with h2 h3
  rw[h1,h2,iG h3]
theorem gv {g:Nat} {M:List (Value × Value)} {w:World} (h:(mpE g M).ok w):∃ es clk,w.heap[g]?=some (.map es clk)∧M=es.toList.map fun x=>(x.key,x.val):=by
 obtain⟨es,clk,h1,h2⟩ : ∃ es clk,w.heap[g]?=some (.map es clk)∧mpC M=es.toList.flatMap fun x=>[x.key,x.val]:=h;refine⟨es,clk,h1,iG (h2.trans ?_)⟩;rw[mpC,List.flatMap_map]
theorem aH {g:Nat} {es:Array MapEntry} {clk:Nat} {w:World} (h:w.heap[g]?=some (.map es clk)):(mpE g (es.toList.map fun x=>(x.key,x.val))).ok w:=by
 refine⟨es,clk,h,?_⟩;show mpC _=_;rw[mpC,List.flatMap_map]
theorem Lle.m {g:Nat} {M M' : List (Value × Value)} {L L' r:List Ent} (hr:Lle r L') (h:PkK mapK L g 0 (mpC M) L':=by repeat (first|exact Pk.here|apply Pk.there)) (e:M=M':=by rfl):Lle (mpE g M'::r) L:=⟨mpC M,L',h,by rw[e],hr⟩
structure sF (P:Program) (kt:TypeId) (M:List (Value × Value)):Prop where
 ok:∀ x∈M,∃ l,keyOf P kt x.1=some l
 nd:(M.map Prod.fst).Nodup
theorem o5:∀ {M:List (Value × Value)},(M.map Prod.fst).Nodup→∀ {k a b:Value},(k,a)∈M→(k,b)∈M→a=b
 | [],_,_,_,_,h,_=>by cases h
 | (x,y)::M,h,k,a,b,h1,h2=>by
  rw[List.map_cons,List.nodup_cons] at h
  rcases List.mem_cons.1 h1 with e1|e1<;>rcases List.mem_cons.1 h2 with e2|e2
  ·cases e1;cases e2;rfl
  ·cases e1;exact absurd (List.mem_map.2 ⟨_,e2,rfl⟩) h.1
  ·cases e2;exact absurd (List.mem_map.2 ⟨_,e1,rfl⟩) h.1
  ·exact o5 h.2 e1 e2
theorem Me.turn {w0 w w' : World} {gs:List Nat} {L R:List Ent} {e e' : Ent} (h:Me w0 gs L w) (hp:L.Perm (e::R)) (hg:e'.g=e.g)
  (hos:w'.os=w.os) (htape:w'.tape=w.tape) (hout:w'.output=w.output) (hsz:w.heap.size≤w'.heap.size)
  (hne:∀ k,k<w.heap.size→k≠e.g→w'.heap[k]?=w.heap[k]?) (hok:e'.ok w'):Me w0 gs (e'::R) w':=by
 have h:=h.perm hp;have hm:=h.mine e (by simp);have hnd:=h.nodup;rw[List.map_cons,List.nodup_cons] at hnd;refine⟨⟨hos.trans h.mod.os,htape.trans h.mod.tape,hout.trans h.mod.output,Nat.le_trans h.mod.size hsz,fun k hk hn=>?_⟩,fun x hx=>?_,fun x hx=>?_,?_⟩
 ·refine (hne k (Nat.lt_of_lt_of_le hk h.mod.size) (fun e2=>?_)).trans (h.mod.block k hk hn);subst e2
  rcases hm with hm|hm
  ·omega
  ·exact hn hm
 ·rcases List.mem_cons.1 hx with rfl|hx
  ·exact hok
  ·have hok:=h.ok x (List.mem_cons_of_mem _ hx);exact hok.keep (hne x.g hok.lt (fun e2=>hnd.1 (e2 ▸ List.mem_map.2 ⟨x,hx,rfl⟩)))
 ·rcases List.mem_cons.1 hx with rfl|hx
  ·rw[hg];exact hm
  ·exact h.mine x (List.mem_cons_of_mem _ hx)
 ·rw[List.map_cons,List.nodup_cons,hg];exact hnd
theorem Me.allocM {w0 w:World} {gs:List Nat} {L:List Ent} (h:Me w0 gs L w):Me w0 gs (mpE w.heap.size []::L) (w.alloc (.map #[] 0)):=by
 have h':=h.below ((Below.refl w.heap.size w).alloc (Nat.le_refl _) (.map #[] 0));refine⟨h'.mod,?_,?_,?_⟩
 ·intro e he
  rcases List.mem_cons.1 he with rfl|he
  ·exact aH (es:=#[]) (heap_alloc_new w _)
  ·exact h'.ok e he
 ·intro e he
  rcases List.mem_cons.1 he with rfl|he
  ·exact .inl h.mod.size
  ·exact h.mine e he
 ·rw[List.map_cons,List.nodup_cons];refine⟨fun hm=>?_,h.nodup⟩;obtain⟨e,he,hg⟩:=List.mem_map.1 hm;have:=(h.ok e he).lt;simp only at hg;omega
section
variable {P:Program} {w0:World} {gs:List Nat} {n:Nat} {ops:List Oper} {Q:Exit→Act→World→Prop} {K:List (Nat × Value)} {L:List Ent} {rest:List Oper}
variable {d:Nat} {ty:TypeId} {pos:String} {after:Array Edge} {gd:Option (Nat × Bool)}
theorem Mr.mp {g:Nat} {M:List (Value × Value)} (h:mpE g M∈L):∀ w,Mr w0 gs L w→(mpE g M).ok w:=fun _ hw=>hw.ok _ h
theorem ec {g:Nat} {M:List (Value × Value)} (h:(mpE g M).ok w0) (hg:g ∉ gs):∀ w,Mr w0 gs L w→(mpE g M).ok w:=fun _ hw=>h.keep (hw.mod.block g h.lt hg)
theorem ox {kt:TypeId} (law:WideMaps.KeyLaw P kt) {M:List (Value × Value)} {es:Array MapEntry} (he:M=es.toList.map fun x=>(x.key,x.val)) (hM:sF P kt M) {kv:Value} (hk:∃ l,keyOf P kt kv=some l) (w:World) :
  ((Instr.findKey kt kv es.toList).run P w=.ok none w∧∀ v,(kv,v) ∉ M)∨∃ j v,(Instr.findKey kt kv es.toList).run P w=.ok (some (j,v)) w∧(kv,v)∈M:=by
 obtain⟨l,hl⟩:=hk;subst he;have hall:∀ e∈es.toList,∃ l,keyOf P kt e.key=some l:=fun e he=>hM.ok (e.key,e.val) (List.mem_map.2 ⟨e,he,rfl⟩)
 rcases law.find w hl es.toList hall with ⟨h1,h2⟩|⟨j,e,h1,h2,h3⟩
 ·refine .inl ⟨h1,fun v hv=>?_⟩;obtain⟨e,he,heq⟩:=List.mem_map.1 hv;exact h2 e he (congrArg Prod.fst heq)
 ·refine .inr ⟨j,e.val,h1,?_⟩;rw[← h3];exact List.mem_map.2 ⟨e,List.mem_of_getElem? h2,rfl⟩
section
variable {t kt et:TypeId} {g:Nat} {M:List (Value × Value)} {x y z:Operand} {kv v:Value} [hmp:MpT P t kt et]
include hmp
theorem ru (w:World):(underlying t).run P w=.ok (.map kt et) w:=by simp[underlying,MpT.under (P:=P) (t:=t)]
theorem qL (law:WideMaps.KeyLaw P kt) (hx:ev K x=some (.map (some g))) (hy:ev K y=some kv) (hm:∀ w,Mr w0 gs L w→(mpE g M).ok w) (hM:sF P kt M) (hk:∃ l,keyOf P kt kv=some l) (hin:(kv,v)∈M) :
  Does P w0 gs K L (.lookup t x y false) ty v:=by
 intro a w hkn hme o ho _;obtain⟨es,clk,h1,h2⟩:=gv (hm w hme);have hg:(getObj g).run P w=.ok (.map es clk) w:=by simp[getObj,Sem.run,h1]
 obtain⟨l,hl⟩:=id hk;have hc:=law.check w es.isEmpty hl
 rcases ox law h2 hM hk w with ⟨h3,h4⟩|⟨j,u,h3,h4⟩
 ·exact absurd hin (h4 v)
 ·have e:=o5 hM.nd h4 hin;subst e;simp only[execOp,ho,hkn.eval hx,hkn.eval hy,Instr.lookup,Sem.run_bind,ru (P:=P) (t:=t),Result.andThen_ok,hg,Sem.run_pure,hc,h3];rfl
theorem qX [ZeT P et v] (law:WideMaps.KeyLaw P kt) (hx:ev K x=some (.map (some g))) (hy:ev K y=some kv) (hm:∀ w,Mr w0 gs L w→(mpE g M).ok w) (hM:sF P kt M) (hk:∃ l,keyOf P kt kv=some l) (hno:∀ u,(kv,u) ∉ M) :
  Does P w0 gs K L (.lookup t x y true) ty (.tuple #[v,.bool false]):=by
 intro a w hkn hme o ho _;obtain⟨es,clk,h1,h2⟩:=gv (hm w hme);have hg:(getObj g).run P w=.ok (.map es clk) w:=by simp[getObj,Sem.run,h1]
 obtain⟨l,hl⟩:=id hk;have hc:=law.check w es.isEmpty hl
 rcases ox law h2 hM hk w with ⟨h3,h4⟩|⟨j,u,h3,h4⟩
 ·simp only[execOp,ho,hkn.eval hx,hkn.eval hy,Instr.lookup,Sem.run_bind,ru (P:=P) (t:=t),Result.andThen_ok,hg,Sem.run_pure,hc,h3,ZeT.zero (P:=P) (t:=et)];rfl
 ·exact absurd h4 (hno u)
theorem il {L2:List Ent} (law:WideMaps.KeyLaw P kt) (hx:ev K x=some (.map (some g))) (hy:ev K y=some kv) (hz:ev K z=some v) (hp:PkK mapK L g 0 (mpC M) L2) (hM:sF P kt M) (hk:∃ l,keyOf P kt kv=some l) (hno:∀ u,(kv,u) ∉ M) :
  rQ P w0 gs K L (.mapUpdate t x y z) ty (mpE g (M++[(kv,v)])::L2):=by
 intro a w hkn hme o ho _;have hpm:=hp.perm;obtain⟨es,clk,h1,h2⟩:=gv (g:=g) (M:=M) (hme.ok _ (hpm.mem_iff.2 List.mem_cons_self));have hg:(getObj g).run P w=.ok (.map es clk) w:=by simp[getObj,Sem.run,h1]
 obtain⟨l,hl⟩:=id hk;have hc:=law.check w false hl
 rcases ox law h2 hM hk w with ⟨h3,h4⟩|⟨j,u,h3,h4⟩
 ·have hs:(setObj g (.map (es.push { key:=kv,val:=v,born:=clk }) (clk+1))).run P w=.ok () { w with heap:=w.heap.setIfInBounds g (.map (es.push { key:=kv,val:=v,born:=clk }) (clk+1)) }:=by
   simp[setObj,Sem.run,h1]
  refine⟨{ w with heap:=w.heap.setIfInBounds g (.map (es.push { key:=kv,val:=v,born:=clk }) (clk+1)) },?_,hme.turn hpm rfl rfl rfl rfl (Nat.le_of_eq (by simp)) (fun k _ hk=>?_) ?_⟩
  ·simp only[execOp,ho,hkn.eval hx,hkn.eval hy,hkn.eval hz,Instr.mapUpdate,Sem.run_bind,ru (P:=P) (t:=t),Result.andThen_ok,hg,Sem.run_pure,hc,h3,hs]
  ·simp only[Array.getElem?_setIfInBounds_ne (fun e=>hk e.symm)]
  ·have hlt:g<w.heap.size:=by
    rcases Nat.lt_or_ge g w.heap.size with h|h
    ·exact h
    ·rw[Array.getElem?_eq_none h] at h1;cases h1
   have:=aH (g:=g) (w:={ w with heap:=w.heap.setIfInBounds g (.map (es.push { key:=kv,val:=v,born:=clk }) (clk+1)) }) (es:=es.push { key:=kv,val:=v,born:=clk }) (clk:=clk+1) (by simp[hlt]);rw[h2];simpa using this
 ·exact absurd h4 (hno u)
omit hmp in
theorem WO.makesMap (k:∀ g,WO P w0 gs n ops Q ((d,.map (some g))::K) (mpE g []::L) rest) (hd:Nat.blt d n=true:=by rfl) (hw:wk ops K gd=some true:=by rfl) :
  WO P w0 gs n ops Q K L (⟨some d,.makeMap t none,ty,pos,after,gd⟩::rest):=fun a w hdf hsz hk hme =>
 fq (by simpa [Nat.blt_eq] using hd) hw hdf hsz hk (by simp only[execOp,Option.map_none,Sem.run_bind,run_makeMap,Result.andThen_ok,Sem.run_pure]) hme.allocM (k _)
end
end
end Sx
end
end Go.Proofs.YteibfbjpkjkejaaGreatDoor
