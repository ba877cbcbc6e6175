/- Part 14 of the proof. -/
import Derived.Test.YtiaibpcaloigkaaGreatDoorC08
import Derived.RangeFuncNested
import Derived.OrdersIn
import Derived.TacticsIn
import Derived.DeepKeys3
import Derived.WideLaws
set_option linter.unusedSimpArgs false
set_option linter.unusedVariables false
namespace Go.Proofs.YtiaibpcaloigkaaGreatDoor
section
open Go Go.RowKit Go.BigFrame
namespace Sx
def Qk (k:Act→World→Prop) (Q:Exit→Act→World→Prop):Exit→Act→World→Prop
 | .normal,a,w=>k a w
 | e,a,w=>Q e a w
theorem Qk.out {k:Act→World→Prop} {Q:Exit→Act→World→Prop} (h:LetsOut (Qk k Q)):LetsOut Q:=h
theorem agy {P:Program} {o:Oper} {a:Act} {w:World} {k:Act→World→Prop} {Q:Exit→Act→World→Prop} (h:o.wp P a w (fun a w=>Qk k Q .normal a w) (Qk k Q)):o.wp P a w k Q:=by
 unfold Oper.wp at *;generalize (execOp a.eval o).run P w=r at *;cases r with
 | ok n w' =>
  cases n<;>simp only[Oper.upon] at h ⊢<;>first|exact h|exact Calls.mono h (fun e w'' he=>by cases e<;>first|exact he|exact Qk.out he)
 | halt x w'=>cases x<;>simp only[Oper.upon] at h ⊢<;>exact h
theorem cX {P:Program} {ops:Array Oper} {i:Nat} {o:Oper} {a:Act} {w:World} {k:Act→World→Prop} {Q:Exit→Act→World→Prop} (ho:ops[i]?=some o) (h:wpList P ops (Qk k Q) [o] a w):wpOp P ops Q i k a w:=by
 unfold wpOp;rw[ho];unfold wpList at h
 split at h
 ·rename_i hw;simp only[hw,if_true];exact h.imp (fun h=>agy h) (fun h=>⟨h.1,Qk.out h.2⟩)
 ·rename_i hw;simp only[hw];exact h
section
variable (P:Program) (w0:World) (gs:LN) (n:Nat) (ops:List Oper) (Q:Exit→Act→World→Prop) (K:List (Nat × Value)) (L:List Ent)
def WA (S:List Bool) (f:Nat):Prop:=∀ a w,a.defers=[]→a.tmps.size=n→Kn K a→Me w0 gs L w→wpAny P .any ops.toArray Q f S.toArray a w
end
section
variable {P:Program} {w0:World} {gs:LN} {n:Nat} {ops:List Oper} {Q:Exit→Act→World→Prop} {K:List (Nat × Value)} {L:List Ent}
theorem Me.drawn {w:World} {d:Nat} (h:Me w0 gs L w):Me w0 gs L { w with drawn:=d } :=
 ⟨⟨h.mod.os,h.mod.tape,h.mod.output,h.mod.size,h.mod.block⟩,h.ok,h.mine,h.nodup⟩
theorem WC.all {id:Nat} {l:List Oper} [Mix P] (k:WA P w0 gs n l Q K L (List.replicate l.length false) l.length):WC P w0 gs n (.region id l.toArray true) Q K L:=by
 intro a w h1 h2 h3 h4;refine wp_region_any Mix.out ?_;have:=k a { w with drawn:=w.drawn+1 } h1 h2 h3 h4.drawn;simpa using this
end
def FnI (P:Program) (f:FuncId) (args:LV) (g t:Nat) (C:List Value→Prop) (R:World→Prop) (v:Value):Prop :=
 ∀ w cs,C cs→(⟨g,t,cs⟩ : Ent).ok w→R w→Calls P f args.toArray w (fun e w'=>e=.returned v∧Mod [g] w w'∧∃ cs',C cs'∧(⟨g,t,cs'⟩ : Ent).ok w')
def ag5 (w:World) (g t:Nat) (C:List Value→Prop) (v:Value):Ending→World→Prop:=fun e w'=>e=.returned v∧Mod [g] w w'∧∃ cs',C cs'∧(⟨g,t,cs'⟩ : Ent).ok w'
theorem FnI.enter {P:Program} {n:Nat} {f:FuncId} {fn:Func} {c:Code} {args:LV} {g t:Nat} {C:List Value→Prop} {R:World→Prop} {v:Value} (hf:P.funcs[f]?=some fn) (hb:fn.body=some c) (hn:fn.ntmps=n) (hle:Nat.ble args.length n=true)
  (k:∀ w cs,C cs→R w→WC P w [g] n c (bodyPost P fn (ag5 w g t C v)) (kin args 0) [⟨g,t,cs⟩]):FnI P f args g t C R v:=by
 intro w cs hC hok hw;refine calls_of_wp hf hb ?_;have hle' : args.length≤n:=by simpa using hle
 refine k w cs hC hw _ w rfl (by simp[hn];omega) (fun t v hv=>?_) ⟨.refl _ _,by simpa using hok,by simp,by simp⟩;obtain⟨j,h1,h2⟩:=tg args 0 t v hv;subst h1;have hj:j<args.length:=by
  rcases Nat.lt_or_ge j args.length with h|h
  ·exact h
  ·rw[List.getElem?_eq_none h] at h2;cases h2
 simp only[Nat.zero_add];rw[Array.getElem?_append_left (by simpa using hj)];simpa using h2
section
variable {P:Program} {w0:World} {gs:LN} {n:Nat} {ops:List Oper} {Q:Exit→Act→World→Prop} {K:List (Nat × Value)} {L:List Ent} {rest:List Oper}
variable {d:Nat} {op:Op} {ty:TypeId} {pos:String} {after:Array Edge} {gd:Option (Nat × Bool)}
theorem WO.callI {f:FuncId} [Cal P f] {x:Operand} {xs:Array Operand} {ats:Array TypeId} {aq fs ks aq' : List Value} {g t:Nat} {C:List Value→Prop} {cs:LV} {L2:List Ent} {R:World→Prop} {v:Value} (hc:FnI P f aq' g t C R v) (hx:ev K x=some (.func (.func f) fs.toArray ks.toArray))
  (ha:evs K xs.toList=some aq) (hh:fs++aq++ks=aq') (hp:Pk L g t cs L2) (hC:C cs) (hR:∀ w,Me w0 gs L w→R w) (ht:t≠0)
  (k:∀ cs',C cs'→WO P w0 gs n ops Q ((d,v)::K) (⟨g,t,cs'⟩::L2) rest) (hd:Nat.blt d n=true) (hw:wk ops K gd=some true) :
  WO P w0 gs n ops Q K L (⟨some d,.call { callee:=.value x,args:=xs,argTypes:=ats },ty,pos,after,gd⟩::rest):=by
 subst hh;intro a w hdf hsz hk hme;refine wpList_step fun F hF=>?_;rw[if_pos (yS (o:=⟨some d,.call { callee:=.value x,args:=xs,argTypes:=ats },ty,pos,after,gd⟩) hk hw)];have hd' : d<n:=by simpa [Nat.blt_eq] using hd
 unfold Oper.wp;rw[vG hk hx ha,Oper.upon_enter];have hme2:=hme.perm hp.perm;refine (hc w cs hC (hme2.ok _ Sm) (hR w hme)).mono ?_;rintro e w' ⟨rfl,hm,cs',hC',hok⟩;exact hF _ _ (k cs' hC' _ _ (by rw[put_defers];exact hdf) (by rw[yp];exact hsz) (hk.put Om v) (hme2.callM Rp.here hm hok ht))
theorem WX.retI {fn:Func} {g t:Nat} {C:List Value→Prop} {cs:LV} {v:Value} (hr:∀ a w,Kn K a→Me w0 [g] L w→(results fn a.tmps).run P w=.ok v w) (hN:Hs L g t cs) (hC:C cs):WX w0 [g] n .ret (bodyPost P fn (ag5 w0 g t C v)) K L:=fun a w h1 _ h3 h4 =>
 ⟨h1,v,hr a w h3 h4,rfl,h4.mod,cs,hC,h4.ok _ hN.mem⟩
end
def fw (ro:Option Nat):Fence:={ fn:=fun _=>True,depth:=none,alive:=false,round:=ro }
theorem fq {ro:Option Nat} {m:Nat} {P:Program} {f:FuncId} {args:Array Value} {w:World} {R:Ending→World→Prop} (h:Calls P f args w R):CallsIn (fw ro) m P f args w R:=callsIn_wide.2 h
theorem aW {ro:Option Nat} {m:Nat} {P:Program} {f:String} {args:Array Value} {w:World} {R:Value→World→Prop} (h:Rows P f args w R):RowsIn (fw ro) m P f args w R :=
 fun c cs _=>let ⟨v,w',r,s⟩:=h c cs;⟨v,w',r,stepsIn_wide.2 s⟩
theorem qe {ro:Option Nat} {m:Nat} {P:Program} {o:Oper} {a:Act} {w:World} {next:Act→World→Prop} {Q:Exit→Act→World→Prop} (hd:∀ c,o.op≠.defer c) (h:o.wp P a w next Q):o.wpIn (fw ro) m P a w next Q:=by
 refine⟨fun _ _=>trivial,?_⟩;rw[Oper.semAt_eq _ _ _ hd];unfold Oper.wp at h;generalize (execOp a.eval o).run P w=r at *;cases r with
 | ok x w' =>
  cases x<;>simp only[Oper.upon,Oper.uponIn] at h ⊢ <;>
   first
    | exact h
    | exact⟨fun h=>by simp[fw] at h,fq h⟩
    | exact⟨fun h=>by simp[fw] at h,aW h⟩
 | halt x w'=>cases x<;>simp only[Oper.upon,Oper.uponIn] at h ⊢<;>exact h
def ti (l:List Oper):Bool:=l.all (fun o=>match o.op with|.defer _=>false|_=>true)
theorem te {l:List Oper} (h:ti l=true):∀ o∈l,∀ c,o.op≠.defer c:=by
 intro o ho c hc;have:=List.all_eq_true.1 h o ho;rw[hc] at this;cases this
theorem nb {ro:Option Nat} {m:Nat} {P:Program} {ops:Array Oper} {Q:Exit→Act→World→Prop} (hQ:¬ LetsOut Q):∀ {l:List Oper} {a:Act} {w:World},(∀ o∈l,∀ c,o.op≠.defer c)→wpList P ops Q l a w→wpListIn (fw ro) m P ops Q l a w
 | [],_,_,_,h=>h
 | o::r,a,w,hd,h=>by
  unfold wpList at h;unfold wpListIn
  split at h
  ·rename_i hw;rw[if_pos hw]
   rcases h with h|h
   ·exact Oper.wpIn_mono (fun a w h=>nb hQ (fun o ho=>hd o (by simp[ho])) h) (qe (hd o Sm) h)
   ·exact absurd h.2 hQ
  ·rename_i hw;rw[if_neg hw];exact⟨fun _ _=>trivial,nb hQ (fun o ho=>hd o (by simp[ho])) h⟩
section
variable (ro:Option Nat) (m:Nat) (P:Program) (w0:World) (gs:LN) (n:Nat)
def WI (c:Code) (Q:Exit→Act→World→Prop) (K:List (Nat × Value)) (L:List Ent):Prop :=
 ∀ a w,a.defers=[]→a.tmps.size=n→Kn K a→Me w0 gs L w→c.wpIn (fw ro) m P Q a w
end
section
variable {ro:Option Nat} {m:Nat} {P:Program} {w0:World} {gs:LN} {n:Nat} {Q:Exit→Act→World→Prop} {K:List (Nat × Value)} {L:List Ent}
theorem WI.skip (k:WX w0 gs n .normal Q K L):WI ro m P w0 gs n .skip Q K L:=fun a w h1 h2 h3 h4=>wpIn_skip (k a w h1 h2 h3 h4)
theorem WI.seq {x y:Code} (k:WI ro m P w0 gs n x (Exit.then (y.wpIn (fw ro) m P Q) Q) K L):WI ro m P w0 gs n (.seq x y) Q K L:=fun a w h1 h2 h3 h4=>wpIn_seq (k a w h1 h2 h3 h4)
theorem WI.condT {c:Operand} {x y:Code} (hc:ev K c=some (.bool true)) (k:WI ro m P w0 gs n x Q K L):WI ro m P w0 gs n (.cond c x y) Q K L:=fun a w h1 h2 h3 h4=>wpIn_cond_true (h3.eval hc) (k a w h1 h2 h3 h4)
theorem WI.condF {c:Operand} {x y:Code} (hc:ev K c=some (.bool false)) (k:WI ro m P w0 gs n y Q K L):WI ro m P w0 gs n (.cond c x y) Q K L:=fun a w h1 h2 h3 h4=>wpIn_cond_false (h3.eval hc) (k a w h1 h2 h3 h4)
theorem WI.region {id:Nat} {l:List Oper} (k:WO P w0 gs n l Q K L l) (hQ:¬ LetsOut Q) (hd:ti l=true:=by rfl):WI ro m P w0 gs n (.region id l.toArray false) Q K L:=fun a w h1 h2 h3 h4 =>
 wpIn_region_lit (nb hQ (te hd) (k a w h1 h2 h3 h4))
theorem WI.block {id:Nat} {c:Code} (k:WI ro m P w0 gs n c (Exit.inBlock id Q) K L):WI ro m P w0 gs n (.block id c) Q K L:=fun a w h1 h2 h3 h4=>wpIn_block (k a w h1 h2 h3 h4)
theorem WI.exit {id:Nat} (k:WX w0 gs n (.exit id) Q K L):WI ro m P w0 gs n (.exit id) Q K L:=fun a w h1 h2 h3 h4=>wpIn_exit (k a w h1 h2 h3 h4)
theorem WI.ret (k:WX w0 gs n .ret Q K L):WI ro m P w0 gs n .ret Q K L:=fun a w h1 h2 h3 h4=>wpIn_ret (k a w h1 h2 h3 h4)
def ah7 {σ:Type} (n:Nat) (Ks:σ→List (Nat × Value)) (Inv:σ→World→Prop) (ok:σ→Prop):Act→World→Prop:=fun a w=>∃ s,ok s∧a.defers=[]∧a.tmps.size=n∧Kn (Ks s) a∧Inv s w
theorem WI.loopW {σ:Type} {c:Code} (Ks:σ→List (Nat × Value)) (Inv:σ→World→Prop) (μ:σ→Nat) (s0:σ) (h0:∀ w,Me w0 gs L w→Inv s0 w) (hk:Kle (Ks s0) K)
  (k:∀ s w,Inv s w→WI ro m P w [] n c (Exit.then (ah7 n Ks Inv (fun s'=>μ s' < μ s)) Q) (Ks s) []):WI ro m P w0 gs n (.loop c) Q K L:=fun a w h1 h2 h3 h4=>by
 refine wpIn_loop (fun a w=>∃ j s,μ s=j∧a.defers=[]∧a.tmps.size=n∧Kn (Ks s) a∧Inv s w) (fun a w=>leastOf (fun j=>∃ s,μ s=j∧a.defers=[]∧a.tmps.size=n∧Kn (Ks s) a∧Inv s w)) ⟨_,s0,rfl,h1,h2,hk.kn h3,h0 w h4⟩ ?_;intro a w hI;obtain⟨s,hs,g1,g2,g3,g4⟩:=(leastOf_spec hI).1;refine wpIn_mono (k s w g4 a w g1 g2 g3 (Me.refl w [])) ?_;intro e a' w' hq;cases e with
 | normal =>
  obtain⟨s',hlt,hI'⟩:=hq;refine show (∃ j s,μ s=j∧_)∧leastOf _<leastOf _ from ⟨⟨_,s',rfl,hI'⟩,Nat.lt_of_le_of_lt ((leastOf_spec ⟨_,s',rfl,hI'⟩).2 (μ s') ⟨s',rfl,hI'⟩) ?_⟩;rw[← hs];exact hlt
 | _=>exact hq
theorem WX.metW {σ:Type} {Ks:σ→List (Nat × Value)} {Inv:σ→World→Prop} {ok:σ→Prop} (s:σ) (hs:ok s) (hk:Kle (Ks s) K) (hi:∀ w,Me w0 gs L w→Inv s w):WX w0 gs n .normal (Exit.then (ah7 n Ks Inv ok) Q) K L :=
 fun _ w h1 h2 h3 h4=>⟨s,hs,h1,h2,hk.kn h3,hi w h4⟩
theorem WX.seqI {y:Code} {Q' : Exit→Act→World→Prop} (k:WI ro m P w0 gs n y Q K L):WX w0 gs n .normal (Exit.then (y.wpIn (fw ro) m P Q) Q') K L:=k
end
def dfA (ds:List Deferred) (a:Act):Act:={ a with defers:=a.defers++ds }
theorem tm (ds:List Deferred) (a:Act) (d:Option Tmp) (v:Value):(dfA ds a).put d v=dfA ds (a.put d v):=by cases d<;>rfl
theorem uy {P:Program} {ops:Array Oper} {Q:Exit→Act→World→Prop} (ds:List Deferred):∀ {l:List Oper} {a:Act} {w:World},wpList P ops (fun e a w=>Q e (dfA ds a) w) l a w→wpList P ops Q l (dfA ds a) w
 | [],_,_,h=>h
 | o::r,a,w,h=>by
  unfold wpList at h ⊢;have ht:(dfA ds a).tmps=a.tmps:=rfl;have he:(dfA ds a).eval=a.eval:=rfl;rw[ht]
  split at h
  ·rename_i hw;rw[if_pos hw]
   rcases h with h|⟨h,hl⟩
   ·refine .inl ?_;unfold Oper.wp at h ⊢;rw[he];generalize (execOp a.eval o).run P w=x at *;cases x with
    | ok n w' =>
     cases n with
     | value v=>simp only[Oper.upon] at h ⊢;rw[tm];exact uy ds h
     | skip=>simp only[Oper.upon] at h ⊢;rw[tm];exact uy ds h
     | defer dd=>simp only[Oper.upon] at h ⊢;exact (tm ds { a with defers:=dd::a.defers } o.dst undef) ▸ uy ds h
     | enter f args =>
      simp only[Oper.upon] at h ⊢;exact Calls.mono h (fun e w'' hq=>by
       cases e with
       | returned v=>simp only at hq ⊢;rw[tm];exact uy ds hq
       | panicked c=>exact hq
       | outgrown=>obtain⟨a',w',hq⟩:=hq;exact⟨_,w',hq⟩)
     | row f args=>simp only[Oper.upon] at h ⊢;exact Rows.mono h (fun v w'' hq=>by rw[tm];exact uy ds hq)
     | _=>simp only[Oper.upon] at h
    | halt x w'=>cases x<;>simp only[Oper.upon] at h ⊢<;>exact h
   ·obtain⟨a',w',hl⟩:=hl;exact .inr ⟨h,_,w',hl⟩
  ·rename_i hw;rw[if_neg hw,tm];exact uy ds h
theorem WO.tail {P:Program} {w0:World} {gs:LN} {n:Nat} {Q:Exit→Act→World→Prop} {K:List (Nat × Value)} {L:List Ent} {ds:List Deferred} {id:Nat} {l:List Oper} {c:Code} {a:Act} {w:World} (hd:a.defers=ds) (hs:a.tmps.size=n) (hk:Kn K a) (hm:Me w0 gs L w)
  (k:WO P w0 gs n l (fun e a w=>(Exit.then (c.wp P Q) Q) e (dfA ds a) w) K L l):(Code.seq (.region id l.toArray false) c).wp P Q a w:=by
 refine wp_seq (wp_region_lit ?_);have e:a=dfA ds { tmps:=a.tmps,defers:=[] }:=by
  cases a;subst hd;rfl
 rw[e];exact uy ds (k { tmps:=a.tmps,defers:=[] } w rfl hs hk hm)
section
variable (m:Nat) (P:Program) (w0:World) (gs:LN) (n:Nat) (ops:List Oper) (Q:Exit→Act→World→Prop) (K:List (Nat × Value)) (L:List Ent)
def VA (S:List Bool) (f:Nat):Prop:=¬ LetsOut Q→ti ops=true→∀ a w,a.defers=[]→a.tmps.size=n→Kn K a→Me w0 gs L w→wpAnyIn (fw none) m P .any ops.toArray Q f S.toArray a w
def tV (S:List Bool) (f:Nat):List Nat→Prop
 | []=>True
 | i::r=>(∃ o,nth ops i=some o∧(¬ LetsOut Q→ti ops=true→WO P w0 gs n ops (Qk (wpAnyIn (fw none) m P .any ops.toArray Q f (S.set i true).toArray) Q) K L [o]))∧tV S f r
end
section
variable {m:Nat} {P:Program} {w0:World} {gs:LN} {n:Nat} {ops:List Oper} {Q:Exit→Act→World→Prop} {K:List (Nat × Value)} {L:List Ent}
theorem d8 {i:Nat} {o:Oper} {a:Act} {w:World} {k:Act→World→Prop} {ops:Array Oper} (hQ:¬ LetsOut Q) (hd:∀ c,o.op≠.defer c) (ho:ops[i]?=some o) (h:wpList P ops (Qk k Q) [o] a w):wpOpIn (fw none) m P ops Q i k a w:=by
 unfold wpOpIn;rw[ho];unfold wpList at h
 split at h
 ·rename_i hw;simp only[hw,if_true]
  rcases h with h|h
  ·exact qe hd (agy h)
  ·exact absurd (Qk.out h.2) hQ
 ·rename_i hw;simp only[hw];exact⟨fun _ _=>trivial,h⟩
theorem tV.at {S:List Bool} {f:Nat}:∀ {rs:LN},tV m P w0 gs n ops Q K L S f rs→∀ i∈rs,∃ o,nth ops i=some o∧(¬ LetsOut Q→ti ops=true→WO P w0 gs n ops (Qk (wpAnyIn (fw none) m P .any ops.toArray Q f (S.set i true).toArray) Q) K L [o])
 | i::r,h,j,hj=>by
  rcases List.mem_cons.1 hj with rfl|hj
  ·exact h.1
  ·exact tV.at h.2 j hj
theorem VA.step {S:List Bool} {f:Nat} (rs:LN) (k:tV m P w0 gs n ops Q K L S f rs) (hr:Region.ready .any ops.toArray S.toArray=rs:=by decide +kernel) (hne:rs≠[]:=by decide):VA m P w0 gs n ops Q K L S (f+1):=by
 intro hQ hd a w h1 h2 h3 h4;refine⟨fun h0=>absurd (hr.symm.trans h0) hne,fun i hi=>?_⟩;rw[hr] at hi;obtain⟨o,ho,hk⟩:=k.at i hi;have ho' : ops[i]?=some o:=by simpa [uK] using ho
 have:=d8 (m:=m) (k:=wpAnyIn (fw none) m P .any ops.toArray Q f (S.set i true).toArray) (Q:=Q) (ops:=ops.toArray) (i:=i) (o:=o) (P:=P) hQ (te hd o (List.mem_of_getElem? ho')) (by simpa using ho') (hk hQ hd a w h1 h2 h3 h4);simpa using this
theorem VA.done {S:List Bool} (k:WX w0 gs n .normal Q K L) (hr:Region.ready .any ops.toArray S.toArray=[]:=by decide +kernel):VA m P w0 gs n ops Q K L S 0:=fun _ _ a w h1 h2 h3 h4=>⟨hr,k a w h1 h2 h3 h4⟩
theorem tV.nil {S:List Bool} {f:Nat}:tV m P w0 gs n ops Q K L S f []:=trivial
theorem tV.cons {S:List Bool} {f i:Nat} {r:LN} {o:Oper} (k:¬ LetsOut Q→ti ops=true→WO P w0 gs n ops (Qk (wpAnyIn (fw none) m P .any ops.toArray Q f (S.set i true).toArray) Q) K L [o]) (kr:tV m P w0 gs n ops Q K L S f r) (ho:nth ops i=some o:=by rfl):tV m P w0 gs n ops Q K L S f (i::r):=⟨⟨o,ho,k⟩,kr⟩
theorem WX.va {S S' : List Bool} {f i:Nat} {Q' : Exit→Act→World→Prop} (k:VA m P w0 gs n ops Q K L S' f) (hQ:¬ LetsOut Q) (hd:ti ops=true) (hS:S.set i true=S':=by rfl):WX w0 gs n .normal (Qk (wpAnyIn (fw none) m P .any ops.toArray Q f (S.set i true).toArray) Q') K L:=by
 subst hS;exact k hQ hd
theorem VA.yield {S S' : List Bool} {f i d l:Nat} {x:Operand} {xs:Array Operand} {ats:Array TypeId} {ty:TypeId} {pos:String} {after:Array Edge} {vs:LV} {R:World→Ending→World→Prop}
  (hx:ev K x=some (.func (.yield l) #[] #[])) (ha:evs K xs.toList=some vs)
  (hy:∀ w,Me w0 gs L w→YieldAt (fw none) (m - 1) P l vs.toArray w (R w))
  (k:∀ w e w',Me w0 gs L w→R w e w'→∃ b,e=.returned (.bool b)∧VA m P w' [] n ops Q ((d,.bool b)::K) [] S' f)
  (ho:nth ops i=some ⟨some d,.call { callee:=.value x,args:=xs,argTypes:=ats },ty,pos,after,none⟩:=by rfl) (hS:S.set i true=S':=by rfl) (hd:Nat.blt d n=true:=by rfl)
  (hr:Region.ready .any ops.toArray S.toArray=[i]:=by decide +kernel):VA m P w0 gs n ops Q K L S (f+1):=by
 intro hQ hd0 a w h1 h2 h3 h4;refine⟨fun h0=>absurd (hr.symm.trans h0) Sm,fun j hj=>?_⟩;rw[hr] at hj;obtain rfl:=List.mem_singleton.1 hj;have ho' : ops.toArray[j]?=some ⟨some d,.call { callee:=.value x,args:=xs,argTypes:=ats },ty,pos,after,none⟩:=by simpa [uK] using ho
 unfold wpOpIn;rw[ho'];have hd' : d<n:=by simpa [Nat.blt_eq] using hd
 simp only[Region.wanted];rw[if_pos trivial];refine⟨fun _ _=>trivial,?_⟩;rw[Oper.semAt_eq _ _ _ (by intro c hc;cases hc)];obtain⟨fn,tmps,assign,body,h5,h6⟩:=hy w h4;have hrun:(execOp a.eval ⟨some d,.call { callee:=.value x,args:=xs,argTypes:=ats },ty,pos,after,none⟩).run P w=.ok (.round l fn tmps assign body) w:=by
  have e1:=h3.eval hx;have e2:xs.map a.eval=vs.toArray:=by have h:=h3.evals ha;apply Array.ext';simpa using h
  simp only[execOp,resolve,e1,e2,Deferred.ofValue,Sem.run_bind,Sem.run_pure,Result.andThen_ok,invoke];simpa using h5
 rw[hrun];refine⟨fun h=>by simp[fw] at h,h6.mono ?_⟩;intro e w' hR;obtain⟨b,rfl,hk⟩:=k w e w' h4 hR;have:=hk hQ hd0 (a.put (some d) (.bool b)) w' (by rw[put_defers];exact h1) (by rw[yp];exact h2) (h3.put Om _) (Me.refl w' []);subst hS;simpa using this
end
theorem qJ {args:LV} {n:Nat} (hle:args.length≤n) (t:Nat) (v:Value) (hv:lk (kin args 0) t=some v):(args.toArray++Array.replicate (n - args.length) undef)[t]?=some v:=by
 obtain⟨j,h1,h2⟩:=tg args 0 t v hv;subst h1;have hj:j<args.length:=by
  rcases Nat.lt_or_ge j args.length with h|h
  ·exact h
  ·rw[List.getElem?_eq_none h] at h2;cases h2
 simp only[Nat.zero_add];rw[Array.getElem?_append_left (by simpa using hj)];simpa using h2
theorem uF {m n:Nat} {P:Program} {f:FuncId} {fn:Func} {c:Code} {args:LV} {w:World} {R:Ending→World→Prop} (hf:P.funcs[f]?=some fn) (hb:fn.body=some c) (hn:fn.ntmps=n) (hle:Nat.ble args.length n=true)
  (k:WI none m P w [] n c (bodyPost P fn R) (kin args 0) []):CallsIn (fw none) m P f args.toArray w R:=by
 refine callsIn_of_wp hf hb trivial ?_ rfl;subst hn;have hle' : args.length≤fn.ntmps:=by simpa using hle
 exact k _ w rfl (by simp;omega) (qJ hle') (Me.refl w [])
theorem sG {n:Nat} (m:Nat) {P:Program} {f:FuncId} {fn:Func} {c:Code} {args:LV} {w:World} {R:Ending→World→Prop} (hf:P.funcs[f]?=some fn) (hb:fn.body=some c) (hn:fn.ntmps=n) (hle:Nat.ble args.length n=true)
  (k:WC P w [] n c (bodyPostM Fence.wide m P fn R) (kin args 0) []):Calls P f args.toArray w R:=by
 refine (callsIn_wide (n:=m)).1 (callsIn_of_wp_marks hf hb trivial ?_ rfl);refine wpIn_wide.2 ?_;subst hn;have hle' : args.length≤fn.ntmps:=by simpa using hle
 exact k _ w rfl (by simp;omega) (qJ hle') (Me.refl w [])
def yA (ks:LN) (A B:World):Prop:=∀ k∈ks,B.heap[k]?=A.heap[k]?
theorem yA.trans {ks:LN} {A B C:World} (h:yA ks A B) (k:yA ks B C):yA ks A C:=fun i hi=>(k i hi).trans (h i hi)
theorem yA.seg {ks:LN} {A B:World} (h:yA ks A B) {b o:Nat} {cs:LV} (hb:b∈ks) (hs:Seg A b o cs):Seg B b o cs:=fun i v hv=>(World.cell?_of_block (a:=⟨b,o+i,none⟩) (h b hb)).trans (hs i v hv)
theorem yA.of_mod {ks gs:LN} {A B:World} (h:Mod gs A B) (hk:∀ k∈ks,k<A.heap.size∧k ∉ gs):yA ks A B:=fun k hm=>h.block k (hk k hm).1 (hk k hm).2
theorem yA.put {ks:LN} {n:Nat} (hk:∀ k∈ks,k<n) (W:World) (l:Nat) (o o' : Obj) (hl:n≤l) (_:W.heap[l]?=some o) (_:o.isCells=false) (_:o.isWalk=false):yA ks W (W.putObj l o'):=fun k hm=>World.putObj_heap_other (by have:=hk k hm;omega)
theorem okK.far {g:Nat} {t:TypeId} {cs:LV} {w:World} {o:Obj} (h:okK false g t cs w) (h1:w.heap[g]?=some o) (h2:o.isCells=false):False:=by
 obtain⟨t,fr,h3,_⟩:=h;rw[h1] at h3;cases h3;cases h2
theorem Ent.ok.far {e:Ent} {w:World} {o:Obj} (h:e.ok w) (hk:e.k.map=false) (h1:w.heap[e.g]?=some o) (h2:o.isCells=false):False:=by
 have h:okK e.k.map e.g e.t e.cs w:=h;rw[hk] at h;exact h.far h1 h2
theorem Me.ownM {w0:World} {gs:LN} {L:List Ent} {A B:World} {row:Option Nat} {n:Nat} (h:Me w0 gs L A) (hn:w0.heap.size≤n) (hg:A.grownBy B row) (hr:∀ r,row=some r→n≤r∧∃ o:Obj,A.heap[r]?=some o∧o.isCells=false)
  (hm:∀ e∈L,e.k.map=true→e.g<n):Me w0 gs L B:=by
 have hne:∀ k,k<A.heap.size→(∀ r,row=some r→k≠r)→B.heap[k]?=A.heap[k]?:=fun k hk h=>hg.block k hk (fun e=>h k e.symm rfl);have hb:Below w0.heap.size A B:=(Below.refl _ A).grown hg h.mod.size (fun k e=>Nat.le_trans hn (hr k e).1);refine⟨⟨hb.os.trans h.mod.os,hb.tape.trans h.mod.tape,hb.output.trans h.mod.output,Nat.le_trans h.mod.size hb.size,fun k hk hk2=>?_⟩,fun e he=>?_,h.mine,h.nodup⟩
 ·refine (hne k (Nat.lt_of_lt_of_le hk h.mod.size) (fun r e=>?_)).trans (h.mod.block k hk hk2);have:=(hr r e).1;omega
 ·refine (h.ok e he).keep (hne e.g (h.ok e he).lt (fun r e' hx=>?_));obtain⟨h0,o,h1,h2⟩:=hr r e';cases hk:e.k.map with
  | false=>exact (h.ok e he).far hk (by rw[hx];exact h1) h2
  | true=>have:=hm e he hk;omega
theorem Me.own {w0:World} {L:List Ent} {A B:World} {row:Option Nat} {n:Nat} (h:Me w0 [] L A) (hn:w0.heap.size≤n) (hg:A.grownBy B row) (hr:∀ r,row=some r→n≤r∧∃ o:Obj,A.heap[r]?=some o∧o.isCells=false)
  (hk:(L.all fun e=>!e.k.map)=true:=by rfl):Me w0 [] L B:=h.ownM hn hg hr (fun e he hm=>by
 have:=List.all_eq_true.1 hk e he;rw[hm] at this;cases this)
theorem Ent.ok.own {e:Ent} {A B:World} {row:Option Nat} {n:Nat} (h:e.ok A) (hg:A.grownBy B row) (hr:∀ r,row=some r→n≤r∧∃ o:Obj,A.heap[r]?=some o∧o.isCells=false) (hk:e.k.map=false:=by rfl):e.ok B:=by
 refine h.keep (hg.block e.g h.lt (fun hx=>?_));obtain⟨_,o,h1,h2⟩:=hr e.g hx.symm;exact h.far hk h1 h2
theorem yY (a:Act) (d:Option Tmp) (v:Value) {t:Nat} (h:d≠some t):(a.put d v).tmps[t]?=a.tmps[t]?:=by
 cases d with
 | none=>rfl
 | some d =>
  simp only[Act.put];rw[Array.getElem?_setIfInBounds];rw[if_neg (fun e=>h (by rw[e]))]
theorem dA {P:Program} {ops:Array Oper} {Q:Exit→Act→World→Prop} {i:Nat} {o:Oper} {a:Act} {w:World} {K:Act→World→Prop} (ho:ops[i]?=some o) (h:wpOp P ops Q i K a w) :
  wpOp P ops Q i (fun a' w'=>K a' w'∧∀ t,o.dst≠some t→a'.tmps[t]?=a.tmps[t]?) a w:=by
 unfold wpOp at *;simp only[ho] at h ⊢
 split at h
 ·rename_i hw;rw[if_pos hw];refine h.imp (fun h=>?_) id;unfold Oper.wp at *;generalize (execOp a.eval o).run P w=r at *;cases r with
  | ok n w' =>
   cases n with
   | value v=>exact⟨h,fun t ht=>yY _ _ _ ht⟩
   | skip=>exact⟨h,fun t ht=>yY _ _ _ ht⟩
   | defer d=>exact⟨h,fun t ht=>yY _ _ _ ht⟩
   | enter f args =>
    refine Calls.mono h (fun e w'' he=>?_);cases e with
    | returned v=>exact⟨he,fun t ht=>yY _ _ _ ht⟩
    | panicked c=>exact he
    | outgrown=>exact he
   | row r args=>exact Rows.mono h (fun v w'' he=>⟨he,fun t ht=>yY _ _ _ ht⟩)
   | _=>exact h
  | halt x w'=>cases x<;>exact h
 ·rename_i hw;rw[if_neg hw];exact⟨h,fun t ht=>yY _ _ _ ht⟩
def dps (ops:List Oper) (i:Nat):List Nat:=match nth ops i with
 | none=>[]
 | some o=>(o.after.toList.filter fun e=>Region.binds .any e).map fun e=>e.on
def sR (ops:List Oper) (i:Nat):Nat:=match nth ops i with
 | some ⟨some d,_,_,_,_,_⟩=>d
 | _=>0
def lz (ops:List Oper) (i:Nat):Bool:=match nth ops i with
 | some ⟨some _,_,_,_,_,none⟩=>true
 | _=>false
def tvs (ops:List Oper) (T:List (Nat × Value)):List Nat→List (Nat × Value)
 | []=>[]
 | j::r=>match lk T j with
  | some v=>(sR ops j,v)::tvs ops T r
  | none=>tvs ops T r
theorem lC {ops:List Oper} {T:List (Nat × Value)} {a:Act}:∀ {l:LN},(∀ j∈l,∀ v,lk T j=some v→a.tmps[sR ops j]?=some v)→Kn (tvs ops T l) a
 | [],_,t,v,h=>by cases h
 | j::r,h,t,v,ht=>by
  have ih:=lC (ops:=ops) (T:=T) (a:=a) (l:=r) (fun k hk=>h k (by simp[hk]));unfold tvs at ht;cases hl:lk T j with
  | none=>rw[hl] at ht;exact ih t v ht
  | some u =>
   rw[hl] at ht;unfold lk at ht;cases hb:Nat.beq (sR ops j) t with
   | true =>
    rw[hb] at ht;have e:sR ops j=t:=Nat.eq_of_beq_eq_true hb;cases ht;rw[← e];exact h j Sm _ hl
   | false=>rw[hb] at ht;exact ih t v ht
theorem sf {k:Nat} {u:Value} {r:List (Nat × Value)} {t:Nat}:lk ((k,u)::r) t=bif Nat.beq k t then some u else lk r t:=rfl
theorem ap {K' : List (Nat × Value)} {t:Nat}:∀ {K:List (Nat × Value)},lk (K++K') t=(lk K t).or (lk K' t)
 | []=>rfl
 | (k,u)::r=>by
  rw[List.cons_append,sf,sf];cases Nat.beq k t with
  | true=>rfl
  | false=>exact ap
theorem ib {K K' : List (Nat × Value)} {a:Act} (h1:Kn K a) (h2:Kn K' a):Kn (K++K') a:=by
 intro t v ht;rw[ap] at ht;cases h:lk K t with
 | some u=>rw[h] at ht;cases ht;exact h1 t v h
 | none=>rw[h] at ht;exact h2 t v ht
theorem ue {ops:List Oper} {S:List Bool} (hl:S.length=ops.length) {i:Nat} (h:i∈Region.ready .any ops.toArray S.toArray):i<ops.length∧S[i]?=some false∧∀ j∈dps ops i,S[j]?=some true:=by
 unfold Region.ready at h;rw[List.mem_filter] at h;obtain⟨h1,h2⟩:=h;have hi:i<ops.length:=by simpa using List.mem_range.1 h1
 rw[Bool.and_eq_true] at h2;obtain⟨h2,h3⟩:=h2;have hiS:i<S.length:=by omega
 refine⟨hi,?_,fun j hj=>?_⟩
 ·rw[List.getElem?_eq_getElem hiS];simp only[Array.getD_eq_getD_getElem?,List.getElem?_toArray,List.getElem?_eq_getElem hiS] at h2;simpa using h2
 ·unfold dps at hj;have ho:nth ops i=some ops[i]:=by rw[uK,List.getElem?_eq_getElem hi]
  rw[ho] at hj;have ho2:ops.toArray[i]?=some ops[i]:=by simp[hi]
  rw[ho2] at h3;simp only[Option.map_some,Option.getD_some,Array.all_eq_true'] at h3;obtain⟨e,he,rfl⟩:=List.mem_map.1 hj;obtain⟨he1,he2⟩:=List.mem_filter.1 he;have:=h3 e (by simpa using he1);rw[he2] at this;simp only[Bool.not_true,Bool.false_or] at this;simp only[Array.getD_eq_getD_getElem?,List.getElem?_toArray] at this;cases hS:S[e.on]? with
  | none=>rw[hS] at this;simp at this
  | some b=>rw[hS] at this;simp at this;rw[this]
theorem tX {ops:List Oper} {S:List Bool} (hl:S.length=ops.length) (hac:∀ i,i<ops.length→∀ j∈dps ops i,j<i) (h:Region.ready .any ops.toArray S.toArray=[]):∀ i,i<ops.length→S[i]?=some true:=by
 intro i
 induction i using Nat.strongRecOn with
 | ind i ih =>
  intro hi;have hiS:i<S.length:=by omega
  cases hb:S[i] with
  | true=>rw[List.getElem?_eq_getElem hiS,hb]
  | false =>
   exfalso;have hm:i∈Region.ready .any ops.toArray S.toArray:=by
    unfold Region.ready;rw[List.mem_filter];refine⟨by simpa using hi,?_⟩;rw[Bool.and_eq_true];refine⟨by simp only[Array.getD_eq_getD_getElem?,List.getElem?_toArray,List.getElem?_eq_getElem hiS,hb];rfl,?_⟩;have ho2:ops.toArray[i]?=some ops[i]:=by simp[hi]
    rw[ho2];simp only[Option.map_some,Option.getD_some,Array.all_eq_true'];intro e he;cases hbd:Region.binds .any e with
    | false=>rfl
    | true =>
     have hj:e.on∈dps ops i:=by
      unfold dps;have ho:nth ops i=some ops[i]:=by rw[uK,List.getElem?_eq_getElem hi]
      rw[ho];exact List.mem_map.2 ⟨e,List.mem_filter.2 ⟨by simpa using he,hbd⟩,rfl⟩
     have hlt:=hac i hi _ hj;have:=ih e.on hlt Om;simp only[Bool.not_true,Bool.false_or,Array.getD_eq_getD_getElem?,List.getElem?_toArray,this];rfl
   rw[h] at hm;cases hm
theorem lc {T:List (Nat × Value)} {i:Nat}:(∃ v,lk T i=some v)↔i∈T.map Prod.fst:=by
 induction T with
 | nil=>simp[lk]
 | cons p r ih =>
  obtain⟨k,u⟩:=p;rw[sf];cases hb:Nat.beq k i with
  | true =>
   have e:k=i:=Nat.eq_of_beq_eq_true hb;simp[e]
  | false =>
   have e:¬ i=k:=fun e=>by subst e;rw[Nat.beq_refl] at hb;cases hb
   simp only[cond_false,ih,List.map_cons,List.mem_cons,e,false_or]
theorem rU {S:List Bool} {i f:Nat} (h:S[i]?=some false) (hc:S.count false≤f+1):(S.set i true).count false≤f:=by
 induction S generalizing i f with
 | nil=>cases h
 | cons b r ih =>
  cases i with
  | zero =>
   have e:b=false:=by simpa using h
   subst e;simp only[List.set_cons_zero,List.count_cons] at hc ⊢;simp at hc ⊢;omega
  | succ i =>
   have h' : r[i]?=some false:=by simpa using h
   have h0:0<r.count false:=List.count_pos_iff.2 (List.mem_of_getElem? h');simp only[List.set_cons_succ,List.count_cons] at hc ⊢;cases b with
   | true=>simp at hc ⊢;exact ih h' hc
   | false =>
    simp at hc ⊢;have:=ih (f:=r.count false - 1) h' Om;omega
section
variable {P:Program} {w0:World} {gs:LN} {n:Nat} {ops:List Oper} {Q:Exit→Act→World→Prop} {main:LN} {T K0 K:List (Nat × Value)} {Lc L:List Ent} {done:Nat}
theorem acU {ops:List Oper} {S:List Bool} {i:Nat} (hi:i<S.length) (hcl:∀ i,S[i]?=some true→∀ j∈dps ops i,S[j]?=some true) (hid:∀ j∈dps ops i,S[j]?=some true):∀ k,(S.set i true)[k]?=some true→∀ j∈dps ops k,(S.set i true)[j]?=some true:=by
 have up:∀ j,S[j]?=some true→(S.set i true)[j]?=some true:=fun j hj=>by
  by_cases e:i=j
  ·subst e;rw[List.getElem?_set_self hi]
  ·rw[List.getElem?_set_ne e];exact hj
 intro k hk j hj
 by_cases e:i=k
 ·subst e;exact up j (hid j hj)
 ·rw[List.getElem?_set_ne e] at hk;exact up j (hcl k hk j hj)
end
end Sx
end
end Go.Proofs.YtiaibpcaloigkaaGreatDoor
