/- Part 22 of the proof. -/
import Derived.Test.YteibfbjpkjkejaaGreatDoorS17
import Derived.LoopN
set_option linter.unusedSimpArgs false
set_option linter.unusedVariables false
namespace Go.Proofs.YteibfbjpkjkejaaGreatDoor
section
open Go Go.RowKit Go.BigFrame
namespace Sx
section
variable {P:Program} {w0:World} {gs:List Nat} {n:Nat} {Q:Exit→Act→World→Prop} {K:List (Nat × Value)} {L:List Ent}
theorem WC.loopU {c:Code} (m:Nat) (k:WC P w0 gs n c (Exit.then (Code.rounds P c Q m) Q) K L):WC P w0 gs n (.loop c) Q K L:=fun a w h1 h2 h3 h4=>wp_loop_rounds (m+1) (k a w h1 h2 h3 h4)
theorem WX.rounds {c:Code} {m:Nat} {Q' : Exit→Act→World→Prop} (k:WC P w0 gs n c (Exit.then (Code.rounds P c Q m) Q) K L):WX w0 gs n .normal (Exit.then (Code.rounds P c Q (m+1)) Q') K L:=k
end
theorem aea {P:Program} {o:Oper} {a:Act} {w:World} {k next:Act→World→Prop} {Q:Exit→Act→World→Prop} (h:o.wp P a w next (Qk k Q)):o.wp P a w next Q:=by
 unfold Oper.wp at *;generalize (execOp a.eval o).run P w=r at *;cases r with
 | ok n w' =>
  cases n<;>simp only[Oper.upon] at h ⊢<;>first|exact h|exact Calls.mono h (fun e w'' he=>by cases e<;>first|exact he|exact Qk.out he)
 | halt x w'=>cases x<;>simp only[Oper.upon] at h ⊢<;>exact h
theorem om {ro:Option Nat} {m:Nat} {P:Program} {ops:Array Oper} {Q:Exit→Act→World→Prop} {k:Act→World→Prop} {rest:List Oper} (hQ:¬ LetsOut Q) (hk:∀ a w,k a w→wpListIn (fw ro) m P ops Q rest a w) :
  ∀ {l:List Oper} {a:Act} {w:World},(∀ o∈l,∀ c,o.op≠.defer c)→wpList P ops (Qk k Q) l a w→wpListIn (fw ro) m P ops Q (l++rest) a w
 | [],_,_,_,h=>hk _ _ h
 | o::r,a,w,hd,h=>by
  unfold wpList at h;rw[List.cons_append];unfold wpListIn
  split at h
  ·rename_i hw;rw[if_pos hw]
   rcases h with h|h
   ·exact Oper.wpIn_mono (fun a w h=>om hQ hk (fun o ho=>hd o (by simp[ho])) h) (si (hd o (by simp)) (aea h))
   ·exact absurd (Qk.out h.2) hQ
  ·rename_i hw;rw[if_neg hw];exact⟨fun _ _=>trivial,om hQ hk (fun o ho=>hd o (by simp[ho])) h⟩
section
variable (m:Nat) (P:Program) (w0:World) (gs:List Nat) (n:Nat) (ops:List Oper) (Q:Exit→Act→World→Prop) (K:List (Nat × Value)) (L:List Ent)
def WOI (rest:List Oper):Prop:=∀ a w,a.defers=[]→a.tmps.size=n→Kn K a→Me w0 gs L w→wpListIn (fw none) m P ops.toArray Q rest a w
end
section
variable {m:Nat} {P:Program} {w0:World} {gs:List Nat} {n:Nat} {ops:List Oper} {Q:Exit→Act→World→Prop} {K:List (Nat × Value)} {L:List Ent}
theorem WOI.of {rest:List Oper} (hQ:¬ LetsOut Q) (k:WO P w0 gs n ops Q K L rest) (hd:vP rest=true:=by rfl):WOI m P w0 gs n ops Q K L rest:=fun a w h1 h2 h3 h4=>oI hQ (uo hd) (k a w h1 h2 h3 h4)
theorem WX.woi {rest:List Oper} {Q' : Exit→Act→World→Prop} (k:WOI m P w0 gs n ops Q K L rest):WX w0 gs n .normal (Qk (wpListIn (fw none) m P ops.toArray Q rest) Q') K L:=k
theorem WI.regionY {id:Nat} {l:List Oper} (j:Nat) (hQ:¬ LetsOut Q) (k:WO P w0 gs n l (Qk (wpListIn (fw none) m P l.toArray Q (l.drop j)) Q) K L (l.take j)) (hd:vP l=true:=by rfl):WI none m P w0 gs n (.region id l.toArray false) Q K L:=fun a w h1 h2 h3 h4=>by
 refine wpIn_region_lit ?_;have h:=om (ro:=none) (m:=m) (rest:=l.drop j) hQ (fun _ _ h=>h) (l:=l.take j) (fun o ho=>uo hd o (List.mem_of_mem_take ho)) (k a w h1 h2 h3 h4);rwa [List.take_append_drop] at h
theorem WOI.yield {rest:List Oper} {d l:Nat} {x:Operand} {xs:Array Operand} {ats:Array TypeId} {ty:TypeId} {pos:String} {after:Array Edge} {vs:List Value} {R:World→Ending→World→Prop}
  (hx:ev K x=some (.func (.yield l) #[] #[])) (ha:evs K xs.toList=some vs)
  (hy:∀ w,Me w0 gs L w→YieldAt (fw none) (m - 1) P l vs.toArray w (R w))
  (k:∀ w e w',Me w0 gs L w→R w e w'→∃ b,e=.returned (.bool b)∧WOI m P w' [] n ops Q ((d,.bool b)::K) [] rest)
  (hd:Nat.blt d n=true:=by rfl):WOI m P w0 gs n ops Q K L (⟨some d,.call { callee:=.value x,args:=xs,argTypes:=ats },ty,pos,after,none⟩::rest):=by
 intro a w h1 h2 h3 h4;have hd' : d<n:=by simpa [Nat.blt_eq] using hd
 unfold wpListIn;simp only[Region.wanted];rw[if_pos trivial];refine⟨fun _ _=>trivial,?_⟩;rw[Oper.semAt_eq _ _ _ (by intro c hc;cases hc)];obtain⟨fn,tmps,assign,body,h5,h6⟩:=hy w h4;have hrun:(execOp a.eval ⟨some d,.call { callee:=.value x,args:=xs,argTypes:=ats },ty,pos,after,none⟩).run P w=.ok (.round l fn tmps assign body) w:=by
  have e1:=h3.eval hx;have e2:xs.map a.eval=vs.toArray:=by have h:=h3.evals ha;apply Array.ext';simpa using h
  simp only[execOp,resolve,e1,e2,Deferred.ofValue,Sem.run_bind,Sem.run_pure,Result.andThen_ok,invoke];simpa using h5
 rw[hrun];refine⟨fun h=>by simp[fw] at h,h6.mono ?_⟩;intro e w' hR;obtain⟨b,rfl,hk⟩:=k w e w' h4 hR;exact hk (a.put (some d) (.bool b)) w' (by rw[put_defers];exact h1) (by rw[zP];exact h2) (h3.put (by omega) _) (Me.refl w' [])
end
section
variable (ro:Option Nat) (m:Nat) (P:Program) (w0:World) (gs:List Nat) (n:Nat) (ops:List Oper) (Q:Exit→Act→World→Prop) (K:List (Nat × Value)) (L:List Ent)
def VR (S:List Bool) (f:Nat):Prop:=¬ LetsOut Q→vP ops=true→∀ a w,a.defers=[]→a.tmps.size=n→Kn K a→Me w0 gs L w→wpAnyIn (fw ro) m P .any ops.toArray Q f S.toArray a w
def qF (S:List Bool) (f:Nat):List Nat→Prop
 | []=>True
 | i::r=>(∃ o,nth ops i=some o∧(¬ LetsOut Q→vP ops=true→WO P w0 gs n ops (Qk (wpAnyIn (fw ro) m P .any ops.toArray Q f (S.set i true).toArray) Q) K L [o]))∧qF S f r
end
section
variable {ro:Option Nat} {m:Nat} {P:Program} {w0:World} {gs:List Nat} {n:Nat} {ops:List Oper} {Q:Exit→Act→World→Prop} {K:List (Nat × Value)} {L:List Ent}
theorem ik {i:Nat} {o:Oper} {a:Act} {w:World} {k:Act→World→Prop} {ops:Array Oper} (hQ:¬ LetsOut Q) (hd:∀ c,o.op≠.defer c) (ho:ops[i]?=some o) (h:wpList P ops (Qk k Q) [o] a w):wpOpIn (fw ro) m P ops Q i k a w:=by
 unfold wpOpIn;rw[ho];unfold wpList at h
 split at h
 ·rename_i hw;simp only[hw,if_true]
  rcases h with h|h
  ·exact si hd (aa3 h)
  ·exact absurd (Qk.out h.2) hQ
 ·rename_i hw;simp only[hw];exact⟨fun _ _=>trivial,h⟩
theorem qF.at {S:List Bool} {f:Nat}:∀ {rs:List Nat},qF ro m P w0 gs n ops Q K L S f rs→∀ i∈rs,∃ o,nth ops i=some o∧(¬ LetsOut Q→vP ops=true→WO P w0 gs n ops (Qk (wpAnyIn (fw ro) m P .any ops.toArray Q f (S.set i true).toArray) Q) K L [o])
 | i::r,h,j,hj=>by
  rcases List.mem_cons.1 hj with rfl|hj
  ·exact h.1
  ·exact qF.at h.2 j hj
theorem VR.step {S:List Bool} {f:Nat} (rs:List Nat) (k:qF ro m P w0 gs n ops Q K L S f rs) (hr:Region.ready .any ops.toArray S.toArray=rs:=by decide +kernel) (hne:rs≠[]:=by decide):VR ro m P w0 gs n ops Q K L S (f+1):=by
 intro hQ hd a w h1 h2 h3 h4;refine⟨fun h0=>absurd (hr.symm.trans h0) hne,fun i hi=>?_⟩;rw[hr] at hi;obtain⟨o,ho,hk⟩:=k.at i hi;have ho' : ops[i]?=some o:=by simpa [yY] using ho
 have:=ik (ro:=ro) (m:=m) (k:=wpAnyIn (fw ro) m P .any ops.toArray Q f (S.set i true).toArray) (Q:=Q) (ops:=ops.toArray) (i:=i) (o:=o) (P:=P) hQ (uo hd o (List.mem_of_getElem? ho')) (by simpa using ho') (hk hQ hd a w h1 h2 h3 h4);simpa using this
theorem VR.done {S:List Bool} (k:WX w0 gs n .normal Q K L) (hr:Region.ready .any ops.toArray S.toArray=[]:=by decide +kernel):VR ro m P w0 gs n ops Q K L S 0:=fun _ _ a w h1 h2 h3 h4=>⟨hr,k a w h1 h2 h3 h4⟩
theorem qF.nil {S:List Bool} {f:Nat}:qF ro m P w0 gs n ops Q K L S f []:=trivial
theorem qF.cons {S:List Bool} {f i:Nat} {r:List Nat} {o:Oper} (k:¬ LetsOut Q→vP ops=true→WO P w0 gs n ops (Qk (wpAnyIn (fw ro) m P .any ops.toArray Q f (S.set i true).toArray) Q) K L [o]) (kr:qF ro m P w0 gs n ops Q K L S f r) (ho:nth ops i=some o:=by rfl):qF ro m P w0 gs n ops Q K L S f (i::r):=⟨⟨o,ho,k⟩,kr⟩
theorem WX.vr {S S' : List Bool} {f i:Nat} {Q' : Exit→Act→World→Prop} (k:VR ro m P w0 gs n ops Q K L S' f) (hQ:¬ LetsOut Q) (hd:vP ops=true) (hS:S.set i true=S':=by rfl):WX w0 gs n .normal (Qk (wpAnyIn (fw ro) m P .any ops.toArray Q f (S.set i true).toArray) Q') K L:=by
 subst hS;exact k hQ hd
theorem VR.less {S:List Bool} {f:Nat} (K' : List (Nat × Value)) (L' : List Ent) (k:VR ro m P w0 gs n ops Q K' L' S f)
  (hk:Kle K' K:=by (repeat (first|exact Kle.nil|refine Kle.cons rfl rfl ?_)))
  (hl:Lle L' L:=by (repeat (first|exact Lle.nil|refine Lle.c ?_))):VR ro m P w0 gs n ops Q K L S f:=fun hQ hd a w h1 h2 h3 h4=>k hQ hd a w h1 h2 (hk.kn h3) (hl.me h4)
theorem VR.go {S S' : List Bool} {f i:Nat} {K' : List (Nat × Value)} {L' : List Ent} {Q' : Exit→Act→World→Prop} {A:List (Nat × Value)→List Ent→List Bool→Nat→Prop} (hA:∀ K L S f,A K L S f↔VR ro m P w0 gs n ops Q K L S f) (h:A K' L' S' f) (hQ:¬ LetsOut Q) (hd:vP ops=true)
  (hk:Kle K' K:=by (repeat (first|exact Kle.nil|refine Kle.cons rfl rfl ?_)))
  (hl:Lle L' L:=by (repeat (first|exact Lle.nil|refine Lle.c ?_))) (hS:S.set i true=S':=by rfl):WO P w0 gs n ops (Qk (wpAnyIn (fw ro) m P .any ops.toArray Q f (S.set i true).toArray) Q') K L []:=WO.nil (WX.vr (VR.less K' L' ((hA _ _ _ _).1 h) hk hl) hQ hd hS)
theorem VR.all {id:Nat} {l:List Oper} [Mix P] (hQ:¬ LetsOut Q) (k:VR ro m P w0 gs n l Q K L (List.replicate l.length false) l.length) (hd:vP l=true:=by rfl):WI ro m P w0 gs n (.region id l.toArray true) Q K L:=by
 intro a w h1 h2 h3 h4;refine wpIn_region_any Mix.out ?_;have:=k hQ hd a { w with drawn:=w.drawn+1 } h1 h2 h3 h4.drawn;simpa using this
theorem WI.headR {id:Nat} {l:List Oper} [Mix P] (K' : List (Nat × Value)) (L' : List Ent) (S' : List Bool) (f:Nat) (hQ:¬ LetsOut Q) (h:∀ Q,∀ A:List (Nat × Value)→List Ent→List Bool→Nat→Prop,(∀ K L S f,A K L S f↔VR ro m P w0 gs n l Q K L S f)→A K' L' S' f→A K L (List.replicate l.length false) l.length)
  (hC:VR ro m P w0 gs n l Q K' L' S' f) (hd:vP l=true:=by rfl):WI ro m P w0 gs n (.region id l.toArray true) Q K L:=VR.all hQ (h Q _ (fun _ _ _ _=>Iff.rfl) hC) hd
end
end Sx
end
section
open Go Go.RowKit Go.BigFrame
namespace Sx
open Kp
def HS (n:Nat) (ops:List Oper):List Bool:=List.replicate n true++List.replicate (ops.length - n) false
section
variable {ro:Option Nat} {m:Nat} {P:Program} {ops:List Oper} {n:Nat} {Q:Exit→Act→World→Prop}
theorem cM (hQ:¬ LetsOut Q) (hnd:vP ops=true) (hB:yb ops [] n=true) (hg:((ops.take n).all fun o=>o.guard.isNone)=true) :
  ∀ (f:Nat) (L L' : Array Bool) (a:Act) (w:World),L.size=ops.length→L'.size=n→(∀ j,j<n→L'.getD j false=L.getD j false)→(∀ j,n≤j→L.getD j false=false) →
   (∀ j o,ops[j]?=some o→L.getD j false=true→∀ e∈o.after,Region.binds .any e=true→L.getD e.on false=true)→((List.range n).filter fun j=>!L.getD j false).length=f →
   wpAny P .any (ops.take n).toArray (Qk (wpAnyIn (fw ro) m P .any ops.toArray Q (ops.length - n) (HS n ops).toArray) Q) f L' a w→wpAnyIn (fw ro) m P .any ops.toArray Q (f+(ops.length - n)) L a w:=by
 unfold yb at hB;simp only[Bool.and_eq_true,decide_eq_true_eq] at hB;obtain⟨⟨⟨⟨⟨⟨⟨_,hn⟩,hback⟩,_⟩,_⟩,htail⟩,_⟩,_⟩:=hB;intro f
 induction f with
 | zero =>
  intro L L' a w hs _ _ ht _ hf h;have hall:∀ j,j<n→L.getD j false=true:=by
   intro j hj;cases hl:L.getD j false with
   | true=>rfl
   | false =>
    have:j∈(List.range n).filter fun j=>!L.getD j false:=List.mem_filter.2 ⟨List.mem_range.2 hj,by rw[hl];rfl⟩;rw[List.length_eq_zero_iff.1 hf] at this;cases this
  have hlist:L=(HS n ops).toArray:=by
   unfold HS;apply Array.ext
   ·simp[hs];omega
   ·intro i h1 h2;have h3:L.getD i false=L[i]:=by simp[h1]
    rw[← h3]
    rcases Nat.lt_or_ge i n with hi|hi
    ·rw[hall i hi];simp[List.getElem_append,hi]
    ·rw[ht i hi];simp[List.getElem_append,Nat.not_lt.2 hi]
  rw[Nat.zero_add,hlist];exact h.2
 | succ f ih =>
  intro L L' a w hs hs' hLL ht hcl hf h;have hex:∃ m,m<n∧L.getD m false=false:=by
   cases hl:(List.range n).filter fun j=>!L.getD j false with
   | nil=>rw[hl] at hf;cases hf
   | cons m l =>
    have hm:m∈(List.range n).filter fun j=>!L.getD j false:=by rw[hl];simp
    rw[List.mem_filter] at hm;exact⟨m,List.mem_range.1 hm.1,by simpa using hm.2⟩
  obtain⟨m0,⟨hmn,hml⟩,hleast⟩:=exists_least hex;have hmr:m0∈Region.ready .any ops.toArray L:=by
   rw[mem_ready];have hmo:ops[m0]?=some (ops[m0]'(by omega)):=List.getElem?_eq_getElem (by omega);refine⟨getD_in (by rw[hs];omega) hml,ops[m0]'(by omega),by simp,fun e he hb=>?_⟩;have hlt:=zI hback hmo e he hb;cases hle:L.getD e.on false with
   | true=>rfl
   | false=>have:=hleast e.on ⟨by omega,hle⟩;omega
  have hne:Region.ready .any ops.toArray L≠[]:=fun h0=>by rw[h0] at hmr;cases hmr
  rw[show f+1+(ops.length - n)=(f+(ops.length - n))+1 by omega];refine⟨fun h0=>absurd h0 hne,fun i hi=>?_⟩;obtain⟨hiun,o,ho,hwait⟩:=mem_ready.1 hi;have ho' : ops[i]?=some o:=by simpa using ho
  have hil:i<ops.length:=(List.getElem?_eq_some_iff.1 ho').1;have hancl:=zG (L:=fun j=>L.getD j false) hcl i o ho' hwait;have hin:i<n:=by
   rcases Nat.lt_or_ge i n with h1|h1
   ·exact h1
   ·exfalso;have h2:=List.all_eq_true.1 htail i (List.mem_range.2 hil);simp only[Bool.or_eq_true,decide_eq_true_eq] at h2
    rcases h2 with h2|h2
    ·omega
    ·have h3:=List.all_eq_true.1 h2 m0 (List.mem_range.2 (by omega));simp only[Bool.or_eq_true,Bool.and_eq_true] at h3
     rcases h3 with h3|⟨h3,_⟩
     ·have h4:=hancl m0 h3;simp only[hml] at h4;cases h4
     ·simp at h3
  have ht' : (ops.take n)[i]?=some o:=by rw[List.getElem?_take,if_pos hin];exact ho'
  have hiu:L.getD i false=false:=getD_both hiun;have hi' : i∈Region.ready .any (ops.take n).toArray L':=by
   rw[mem_ready];refine⟨getD_in (by rw[hs'];exact hin) (by rw[hLL i hin];exact hiu),o,by simpa using ht',fun e he hb=>?_⟩;have hlt:=zI hback ho' e he hb;rw[hLL e.on (by omega)];exact hwait e he hb
  have hgi:o.guard=none:=by
   have:=List.all_eq_true.1 hg o (List.mem_of_getElem? ht');simpa using this
  have hw:∀ v,Region.wanted o v=true:=fun v=>by unfold Region.wanted;rw[hgi]
  have h1:=h.2 i hi';unfold wpOp at h1;unfold wpOpIn;have ht2:(ops.take n).toArray[i]?=some o:=by simpa using ht'
  rw[ht2] at h1;rw[ho];simp only[hw,if_true] at h1 ⊢
  rcases h1 with h1|h1
  ·refine Oper.wpIn_mono (fun a' w' h'=>ih _ _ a' w' (by simp[hs]) (by simp[hs']) (fun j hj=>?_) (fun j hj=>?_) (fun j oj hoj hlj e he hb=>?_) ?_ h') (si (uo hnd o (List.mem_of_getElem? ho')) (aea h1))
   ·by_cases hji:j=i
    ·subst hji;simp[hs,hs',hil,hin]
    ·rw[getD_set_ne false (Ne.symm hji),getD_set_ne false (Ne.symm hji)];exact hLL j hj
   ·rw[getD_set_ne false (by omega)];exact ht j hj
   ·by_cases hei:e.on=i
    ·rw[hei];simp[hs,hil]
    ·rw[getD_set_ne false (Ne.symm hei)]
     by_cases hji:j=i
     ·subst hji;rw[ho'] at hoj;cases hoj;exact hwait e he hb
     ·rw[getD_set_ne false (Ne.symm hji)] at hlj;exact hcl j oj hoj hlj e he hb
   ·have:=vQ (List.range n) List.nodup_range i (List.mem_range.2 hin) (p:=fun j=>!L.getD j false) (q:=fun j=>!(L.setIfInBounds i true).getD j false) (by simp only[hiu];rfl) (by simp[hs,hil])
     (fun j hj=>by simp only[getD_set_ne false (Ne.symm hj)])
    omega
  ·exact absurd (Qk.out h1.2) hQ
end
section
variable {ro:Option Nat} {m:Nat} {P:Program} {w0:World} {gs:List Nat} {n:Nat} {Q:Exit→Act→World→Prop} {K:List (Nat × Value)} {L:List Ent}
theorem WI.headQ {id:Nat} {l hd:List Oper} [Mix P] (h:Nat) (hQ:¬ LetsOut Q) (k:DQ P w0 gs n [] (Qk (wpAnyIn (fw ro) m P .any l.toArray Q (l.length - h) (HS h l).toArray) Q) hd L [] 0 hd (fun _=>True) (fun _=>K) (fun _=>[]))
  (h1:l.take h=hd:=by (simp only[List.take_succ_cons,List.take_zero]<;>rfl)) (hB:yb l [] h=true:=by decide +kernel) (hB' : yb hd [] h=true:=by decide +kernel) (hg:(hd.all fun o=>o.guard.isNone)=true:=by rfl) (hnd:vP l=true:=by rfl):WI ro m P w0 gs n (.region id l.toArray true) Q K L:=by
 intro a w g1 g2 g3 g4;subst h1;obtain⟨ks,k1,k2,k3⟩:=k;refine wpIn_region_any Mix.out ?_;have hn:h≤l.length:=by
  unfold yb at hB;simp only[Bool.and_eq_true,decide_eq_true_eq] at hB;exact hB.1.1.1.1.1.1.2
 have e1:(l.take h).take h=l.take h:=by rw[List.take_take,Nat.min_self]
 have e2:(l.take h).drop h=[]:=by rw[List.drop_eq_nil_iff];simp;omega
 have hl:(l.take h).length=h:=by simp;omega
 have hq:=lx (P:=P) (a:=a) (w:=w) (l:=l.take h) [] h ks hB' (.inl rfl) (fun i=>k1 i (Nat.zero_le _)) (fun i s=>k2 i s (Nat.zero_le _)) (by
  rw[e1,e2];exact fun s=>k3 s a w (fun _ _=>True) [] trivial g1 g2 g3 g4 .nil (by simp) (fun _ _ _=>trivial) (by simp) (by simp))
 have hr:((List.range h).filter fun j=>!(Array.replicate l.toArray.size false).getD j false)=List.range h:=by
  apply List.filter_eq_self.2;intro j _;rw[getD_replicate_false];rfl
 have:=cM (ro:=ro) (m:=m) hQ hnd hB hg h (Array.replicate l.toArray.size false) (Array.replicate (l.take h).toArray.size false) a { w with drawn:=w.drawn+1 } (by simp) (by simp;omega) (fun j _=>by rw[getD_replicate_false,getD_replicate_false]) (fun j _=>getD_replicate_false _ _)
  (fun j o _ hl'=>by rw[getD_replicate_false] at hl';cases hl') (by rw[hr];simp) (by
   have e3:(l.take h).toArray.size=h:=by simpa using hl
   rw[e3] at hq;rw[e3];exact hq)
 rwa [show h+(l.length - h)=l.toArray.size by simp;omega] at this
theorem WX.headV {S:List Bool} {f:Nat} {ops:List Oper} {Q' : Exit→Act→World→Prop} (k:VA m P w0 gs n ops Q K L S f) (hQ:¬ LetsOut Q) (hd:vP ops=true:=by rfl):WX w0 gs n .normal (Qk (wpAnyIn (fw none) m P .any ops.toArray Q f S.toArray) Q') K L:=k hQ hd
end
end Sx
end
section
open Go Go.RowKit Go.BigFrame
namespace Sx
theorem yp (a:Act) (d:Option Tmp) (v:Value) {t:Nat} (h:d≠some t):(a.put d v).tmps[t]?=a.tmps[t]?:=by
 cases d with
 | none=>rfl
 | some d =>
  simp only[Act.put];rw[Array.getElem?_setIfInBounds];rw[if_neg (fun e=>h (by rw[e]))]
theorem nF {P:Program} {ops:Array Oper} {Q:Exit→Act→World→Prop} {i:Nat} {o:Oper} {a:Act} {w:World} {K:Act→World→Prop} (ho:ops[i]?=some o) (h:wpOp P ops Q i K a w) :
  wpOp P ops Q i (fun a' w'=>K a' w'∧∀ t,o.dst≠some t→a'.tmps[t]?=a.tmps[t]?) a w:=by
 unfold wpOp at *;simp only[ho] at h ⊢
 split at h
 ·rename_i hw;rw[if_pos hw];refine h.imp (fun h=>?_) id;unfold Oper.wp at *;generalize (execOp a.eval o).run P w=r at *;cases r with
  | ok n w' =>
   cases n with
   | value v=>exact⟨h,fun t ht=>yp _ _ _ ht⟩
   | skip=>exact⟨h,fun t ht=>yp _ _ _ ht⟩
   | defer d=>exact⟨h,fun t ht=>yp _ _ _ ht⟩
   | enter f args =>
    refine Calls.mono h (fun e w'' he=>?_);cases e with
    | returned v=>exact⟨he,fun t ht=>yp _ _ _ ht⟩
    | panicked c=>exact he
    | outgrown=>exact he
   | row r args=>exact Rows.mono h (fun v w'' he=>⟨he,fun t ht=>yp _ _ _ ht⟩)
   | _=>exact h
  | halt x w'=>cases x<;>exact h
 ·rename_i hw;rw[if_neg hw];exact⟨h,fun t ht=>yp _ _ _ ht⟩
def dps (ops:List Oper) (i:Nat):List Nat:=match nth ops i with
 | none=>[]
 | some o=>(o.after.toList.filter fun e=>Region.binds .any e).map fun e=>e.on
def uD (ops:List Oper) (i:Nat):Nat:=match nth ops i with
 | some ⟨some d,_,_,_,_,_⟩=>d
 | _=>0
def sT (ops:List Oper) (i:Nat):Bool:=match nth ops i with
 | some ⟨some _,_,_,_,_,none⟩=>true
 | _=>false
def tvs (ops:List Oper) (T:List (Nat × Value)):List Nat→List (Nat × Value)
 | []=>[]
 | j::r=>match lk T j with
  | some v=>(uD ops j,v)::tvs ops T r
  | none=>tvs ops T r
theorem qd {ops:List Oper} {T:List (Nat × Value)} {a:Act}:∀ {l:List Nat},(∀ j∈l,∀ v,lk T j=some v→a.tmps[uD ops j]?=some v)→Kn (tvs ops T l) a
 | [],_,t,v,h=>by cases h
 | j::r,h,t,v,ht=>by
  have ih:=qd (ops:=ops) (T:=T) (a:=a) (l:=r) (fun k hk=>h k (by simp[hk]));unfold tvs at ht;cases hl:lk T j with
  | none=>rw[hl] at ht;exact ih t v ht
  | some u =>
   rw[hl] at ht;unfold lk at ht;cases hb:Nat.beq (uD ops j) t with
   | true =>
    rw[hb] at ht;have e:uD ops j=t:=Nat.eq_of_beq_eq_true hb;cases ht;rw[← e];exact h j (by simp) _ hl
   | false=>rw[hb] at ht;exact ih t v ht
theorem rU {k:Nat} {u:Value} {r:List (Nat × Value)} {t:Nat}:lk ((k,u)::r) t=bif Nat.beq k t then some u else lk r t:=rfl
theorem jn {K' : List (Nat × Value)} {t:Nat}:∀ {K:List (Nat × Value)},lk (K++K') t=(lk K t).or (lk K' t)
 | []=>rfl
 | (k,u)::r=>by
  rw[List.cons_append,rU,rU];cases Nat.beq k t with
  | true=>rfl
  | false=>exact jn
theorem po {K K' : List (Nat × Value)} {a:Act} (h1:Kn K a) (h2:Kn K' a):Kn (K++K') a:=by
 intro t v ht;rw[jn] at ht;cases h:lk K t with
 | some u=>rw[h] at ht;cases ht;exact h1 t v h
 | none=>rw[h] at ht;exact h2 t v ht
def iz (ops:List Oper) (main ts:List Nat) (n:Nat):Bool :=
 ((List.range ops.length).all fun i=>(main.contains i != ts.contains i) && (dps ops i).all fun j=>decide (j<i)) &&
 (ts.all fun i=>sT ops i && decide (uD ops i<n) && (dps ops i).all (fun j=>ts.contains j) && (List.range ops.length).all fun j=>decide (j=i) || ((nth ops j).map (fun o=>decide (o.dst≠some (uD ops i)))).getD true) &&
 (List.range (main.length - 1)).all (fun k=>(dps ops (main.getD (k+1) 0)).contains (main.getD k 0)) && main.all fun i=>decide (i<ops.length)
section
variable (P:Program) (w0:World) (gs:List Nat) (n:Nat) (ops:List Oper) (Q:Exit→Act→World→Prop)
inductive Tls (K0:List (Nat × Value)) (Lc:List Ent) (T:List (Nat × Value)):List (Nat × Value)→Prop
 | nil:Tls K0 Lc T []
 | cons {i:Nat} {v:Value} {r:List (Nat × Value)} {o:Oper}:nth ops i=some o→Does P w0 gs (tvs ops T (dps ops i)++K0) Lc o.op o.type v→Tls K0 Lc T r→Tls K0 Lc T ((i,v)::r)
variable (main:List Nat) (T:List (Nat × Value))
def WM (done:Nat) (K:List (Nat × Value)) (L:List Ent):Prop :=
 ∀ (f:Nat) (S:List Bool) (a:Act) (w:World),S.length=ops.length→S.count false≤f→(∀ k m,main[k]?=some m→(S[m]?=some true↔k<done))→(∀ i,S[i]?=some true→∀ j∈dps ops i,S[j]?=some true)→a.defers=[]→a.tmps.size=n→Kn K a →
  (∀ i v,lk T i=some v→S[i]?=some true→a.tmps[uD ops i]?=some v)→Me w0 gs L w→wpAny P .any ops.toArray Q f S.toArray a w
def MR (o:Oper) (K:List (Nat × Value)) (done:Nat):Act→World→Prop:=fun a w=>a.defers=[]∧a.tmps.size=n∧∃ K' L,WM P w0 gs n ops Q main T done (K'++K) L∧Kn K' a∧Me w0 gs L w∧(∀ d,o.dst=some d→(∃ v,lk K' d=some v)∨lk K d=none)
end
theorem yu {ops:List Oper} {S:List Bool} (hl:S.length=ops.length) {i:Nat} (h:i∈Region.ready .any ops.toArray S.toArray):i<ops.length∧S[i]?=some false∧∀ j∈dps ops i,S[j]?=some true:=by
 unfold Region.ready at h;rw[List.mem_filter] at h;obtain⟨h1,h2⟩:=h;have hi:i<ops.length:=by simpa using List.mem_range.1 h1
 rw[Bool.and_eq_true] at h2;obtain⟨h2,h3⟩:=h2;have hiS:i<S.length:=by omega
 refine⟨hi,?_,fun j hj=>?_⟩
 ·rw[List.getElem?_eq_getElem hiS];simp only[Array.getD_eq_getD_getElem?,List.getElem?_toArray,List.getElem?_eq_getElem hiS] at h2;simpa using h2
 ·unfold dps at hj;have ho:nth ops i=some ops[i]:=by rw[yY,List.getElem?_eq_getElem hi]
  rw[ho] at hj;have ho2:ops.toArray[i]?=some ops[i]:=by simp[hi]
  rw[ho2] at h3;simp only[Option.map_some,Option.getD_some,Array.all_eq_true'] at h3;obtain⟨e,he,rfl⟩:=List.mem_map.1 hj;obtain⟨he1,he2⟩:=List.mem_filter.1 he;have:=h3 e (by simpa using he1);rw[he2] at this;simp only[Bool.not_true,Bool.false_or] at this;simp only[Array.getD_eq_getD_getElem?,List.getElem?_toArray] at this;cases hS:S[e.on]? with
  | none=>rw[hS] at this;simp at this
  | some b=>rw[hS] at this;simp at this;rw[this]
theorem ub {ops:List Oper} {S:List Bool} (hl:S.length=ops.length) (hac:∀ i,i<ops.length→∀ j∈dps ops i,j<i) (h:Region.ready .any ops.toArray S.toArray=[]):∀ i,i<ops.length→S[i]?=some true:=by
 intro i
 induction i using Nat.strongRecOn with
 | ind i ih =>
  intro hi;have hiS:i<S.length:=by omega
  cases hb:S[i] with
  | true=>rw[List.getElem?_eq_getElem hiS,hb]
  | false =>
   exfalso;have hm:i∈Region.ready .any ops.toArray S.toArray:=by
    unfold Region.ready;rw[List.mem_filter];refine⟨by simpa using hi,?_⟩;rw[Bool.and_eq_true];refine⟨by simp only[Array.getD_eq_getD_getElem?,List.getElem?_toArray,List.getElem?_eq_getElem hiS,hb];rfl,?_⟩;have ho2:ops.toArray[i]?=some ops[i]:=by simp[hi]
    rw[ho2];simp only[Option.map_some,Option.getD_some,Array.all_eq_true'];intro e he;cases hbd:Region.binds .any e with
    | false=>rfl
    | true =>
     have hj:e.on∈dps ops i:=by
      unfold dps;have ho:nth ops i=some ops[i]:=by rw[yY,List.getElem?_eq_getElem hi]
      rw[ho];exact List.mem_map.2 ⟨e,List.mem_filter.2 ⟨by simpa using he,hbd⟩,rfl⟩
     have hlt:=hac i hi _ hj;have:=ih e.on hlt (by omega);simp only[Bool.not_true,Bool.false_or,Array.getD_eq_getD_getElem?,List.getElem?_toArray,this];rfl
   rw[h] at hm;cases hm
theorem sQ {T:List (Nat × Value)} {i:Nat}:(∃ v,lk T i=some v)↔i∈T.map Prod.fst:=by
 induction T with
 | nil=>simp[lk]
 | cons p r ih =>
  obtain⟨k,u⟩:=p;rw[rU];cases hb:Nat.beq k i with
  | true =>
   have e:k=i:=Nat.eq_of_beq_eq_true hb;simp[e]
  | false =>
   have e:¬ i=k:=fun e=>by subst e;rw[Nat.beq_refl] at hb;cases hb
   simp only[cond_false,ih,List.map_cons,List.mem_cons,e,false_or]
theorem Tls.at {P:Program} {w0:World} {gs:List Nat} {ops:List Oper} {K0:List (Nat × Value)} {Lc:List Ent} {T:List (Nat × Value)} {i:Nat} {v:Value}:∀ {R:List (Nat × Value)},Tls P w0 gs ops K0 Lc T R→lk R i=some v→∃ o,nth ops i=some o∧Does P w0 gs (tvs ops T (dps ops i)++K0) Lc o.op o.type v
 | _,.nil,h=>by cases h
 | (k,u)::r,.cons h1 h2 h3,h=>by
  rw[rU] at h;cases hb:Nat.beq k i with
  | true =>
   rw[hb] at h;have e:k=i:=Nat.eq_of_beq_eq_true hb;subst e;cases h;exact⟨_,h1,h2⟩
  | false=>rw[hb] at h;exact h3.at h
theorem uK {S:List Bool} {i f:Nat} (h:S[i]?=some false) (hc:S.count false≤f+1):(S.set i true).count false≤f:=by
 induction S generalizing i f with
 | nil=>cases h
 | cons b r ih =>
  cases i with
  | zero =>
   have e:b=false:=by simpa using h
   subst e;simp only[List.set_cons_zero,List.count_cons] at hc ⊢;simp at hc ⊢;omega
  | succ i =>
   have h' : r[i]?=some false:=by simpa using h
   have h0:0<r.count false:=List.count_pos_iff.2 (List.mem_of_getElem? h');simp only[List.set_cons_succ,List.count_cons] at hc ⊢;cases b with
   | true=>simp at hc ⊢;exact ih h' hc
   | false =>
    simp at hc ⊢;have:=ih (f:=r.count false - 1) h' (by omega);omega
section
variable {P:Program} {w0:World} {gs:List Nat} {n:Nat} {ops:List Oper} {Q:Exit→Act→World→Prop} {main:List Nat} {T K0 K:List (Nat × Value)} {Lc L:List Ent} {done:Nat}
structure Stg (n:Nat) (w0:World) (gs:List Nat) (ops:List Oper) (main:List Nat) (T:List (Nat × Value)) (done:Nat) (K:List (Nat × Value)) (L:List Ent) (f:Nat) (S:List Bool) (a:Act) (w:World):Prop where
 len:S.length=ops.length
 cnt:S.count false≤f
 mn:∀ k m,main[k]?=some m→(S[m]?=some true↔k<done)
 cl:∀ i,S[i]?=some true→∀ j∈dps ops i,S[j]?=some true
 df:a.defers=[]
 sz:a.tmps.size=n
 kn:Kn K a
 tl:∀ i v,lk T i=some v→S[i]?=some true→a.tmps[uD ops i]?=some v
 me:Me w0 gs L w
structure Chk (ops:List Oper) (main ts:List Nat) (n:Nat):Prop where
 one:∀ i,i<ops.length→(main.contains i≠ts.contains i)
 ac:∀ i,i<ops.length→∀ j∈dps ops i,j<i
 dst:∀ i∈ts,sT ops i=true∧uD ops i<n
 tdep:∀ i∈ts,∀ j∈dps ops i,j∈ts
 apart:∀ i∈ts,∀ j o,nth ops j=some o→j≠i→o.dst≠some (uD ops i)
 chain:∀ k m m',main[k]?=some m→main[k+1]?=some m'→m∈dps ops m'
theorem iz.spec {ts:List Nat} (h:iz ops main ts n=true):Chk ops main ts n:=by
 unfold iz at h;simp only[Bool.and_eq_true,List.all_eq_true,List.mem_range,bne_iff_ne,decide_eq_true_eq,Bool.or_eq_true,List.contains_iff_mem] at h;obtain⟨⟨⟨h1,h2⟩,h3⟩,h4⟩:=h;refine⟨fun i hi=>?_,fun i hi=>(h1 i hi).2,fun i hi=>(h2 i hi).1.1,fun i hi=>(h2 i hi).1.2,fun i hi j o ho hne=>?_,fun k m m' hm hm'=>?_⟩
 ·exact (h1 i hi).1
 ·have hj:j<ops.length:=by
   rcases Nat.lt_or_ge j ops.length with h|h
   ·exact h
   ·rw[yY,List.getElem?_eq_none h] at ho;cases ho
  rcases (h2 i hi).2 j hj with e|e
  ·exact absurd e hne
  ·rw[ho] at e;simpa using e
 ·have hk:k<main.length - 1:=by
   have:k+1<main.length:=by
    rcases Nat.lt_or_ge (k+1) main.length with h|h
    ·exact h
    ·rw[List.getElem?_eq_none h] at hm';cases hm'
   omega
  have:=h3 k hk;simpa [List.getD,hm,hm'] using this
theorem kZ {ops:List Oper} {S:List Bool} {i:Nat} (hi:i<S.length) (hcl:∀ i,S[i]?=some true→∀ j∈dps ops i,S[j]?=some true) (hid:∀ j∈dps ops i,S[j]?=some true):∀ k,(S.set i true)[k]?=some true→∀ j∈dps ops k,(S.set i true)[j]?=some true:=by
 have up:∀ j,S[j]?=some true→(S.set i true)[j]?=some true:=fun j hj=>by
  by_cases e:i=j
  ·subst e;rw[List.getElem?_set_self hi]
  ·rw[List.getElem?_set_ne e];exact hj
 intro k hk j hj
 by_cases e:i=k
 ·subst e;exact up j (hid j hj)
 ·rw[List.getElem?_set_ne e] at hk;exact up j (hcl k hk j hj)
theorem WM.loop (hc:iz ops main (T.map Prod.fst) n=true) (hT:Tls P w0 gs ops K0 Lc T T) (hk0:Kle K0 K) (hl0:Lle Lc L) (hfree:((T.map Prod.fst).all fun i=>(lk K (uD ops i)).isNone)=true)
  (hmain:∀ f S a w,Stg n w0 gs ops main T done K L (f+1) S a w→∀ i,main.contains i=true→i∈Region.ready .any ops.toArray S.toArray→wpOp P ops.toArray Q i (wpAny P .any ops.toArray Q f (S.set i true).toArray) a w)
  (hfin:∀ f S a w,Stg n w0 gs ops main T done K L f S a w→(∀ i,i<ops.length→S[i]?=some true)→Q .normal a w):WM P w0 gs n ops Q main T done K L:=by
 have C:=iz.spec hc;have hfree:∀ i∈T.map Prod.fst,lk K (uD ops i)=none:=fun i hi=>by simpa using List.all_eq_true.1 hfree i hi
 intro f
 induction f with
 | zero =>
  intro S a w h1 h2 h3 hcl h4 h5 h6 h7 h8;have hs:Stg n w0 gs ops main T done K L 0 S a w:=⟨h1,h2,h3,hcl,h4,h5,h6,h7,h8⟩;have hr:Region.ready .any ops.toArray S.toArray=[]:=by
   rw[List.eq_nil_iff_forall_not_mem];intro i hi;have:=(yu h1 hi).2.1;have:0<S.count false:=List.count_pos_iff.2 (List.mem_of_getElem? this);omega
  exact⟨hr,hfin _ _ _ _ hs (ub h1 C.ac hr)⟩
 | succ f ih =>
  intro S a w h1 h2 h3 hcl h4 h5 h6 h7 h8;have hs:Stg n w0 gs ops main T done K L (f+1) S a w:=⟨h1,h2,h3,hcl,h4,h5,h6,h7,h8⟩;refine⟨fun hr=>hfin _ _ _ _ hs (ub h1 C.ac hr),fun i hi=>?_⟩;rw[List.setIfInBounds_toArray];cases hm:main.contains i with
  | true=>exact hmain f S a w hs i hm hi
  | false =>
   obtain⟨hil,hiS,hid⟩:=yu h1 hi;have hits:i∈T.map Prod.fst:=by
    have:=C.one i hil;rw[hm] at this;cases h:(T.map Prod.fst).contains i with
    | true=>simpa using h
    | false=>exact absurd h.symm this
   obtain⟨v,hv⟩:=sQ.2 hits;obtain⟨o,ho,hdo⟩:=hT.at hv;obtain⟨hd1,hd2⟩:=C.dst i hits;have hod:o.dst=some (uD ops i)∧o.guard=none:=by
    unfold sT at hd1;unfold uD;rw[ho] at hd1 ⊢;obtain⟨od,_,_,_,_,og⟩:=o;cases od with
    | none=>simp at hd1
    | some d=>cases og with
     | none=>exact⟨rfl,rfl⟩
     | some g=>simp at hd1
   have hkn:Kn (tvs ops T (dps ops i)++K0) a:=po (qd fun j hj u hu=>h7 j u hu (hid j hj)) (hk0.kn h6);have hrun:=hdo a w hkn (hl0.me h8).mr o rfl rfl;have ho2:ops.toArray[i]?=some o:=by simpa [yY] using ho
   unfold wpOp;simp only[ho2];have hw:Region.wanted o (yielded ops.toArray a.tmps)=true:=by unfold Region.wanted;rw[hod.2]
   rw[if_pos hw];left;unfold Oper.wp;rw[hrun];show wpAny P .any ops.toArray Q f (S.set i true).toArray (a.put o.dst v) w;refine ih _ _ _ (by rw[List.length_set];exact h1) (uK hiS h2) (fun k m hkm=>?_) (kZ (by omega) hcl hid) (by rw[put_defers];exact h4) (by rw[zP];exact h5) (fun t u ht=>?_) (fun j u hu hj=>?_) h8
   ·have hne:¬ i=m:=fun e=>by
     subst e;have:main.contains i=true:=by simpa using List.mem_of_getElem? hkm
     rw[hm] at this;cases this
    rw[List.getElem?_set_ne hne];exact h3 k m hkm
   ·have hne:o.dst≠some t:=fun e=>by
     rw[hod.1] at e;cases e;rw[hfree i hits] at ht;cases ht
    rw[yp _ _ _ hne];exact h6 t u ht
   ·by_cases e:j=i
    ·subst e;rw[hv] at hu;cases hu;rw[hod.1];simp only[Act.put];rw[Array.getElem?_setIfInBounds,if_pos rfl,if_pos (by omega)]
    ·rw[List.getElem?_set_ne (fun h=>e h.symm)] at hj;have hjt:j∈T.map Prod.fst:=sQ.1 ⟨u,hu⟩;have hne:o.dst≠some (uD ops j):=C.apart j hjt i o ho (fun h=>e h.symm);rw[yp _ _ _ hne];exact h7 j u hu hj
theorem WM.step {m:Nat} {o:Oper} (hm:main[done]?=some m) (ho:nth ops m=some o) (hc:iz ops main (T.map Prod.fst) n=true) (hT:Tls P w0 gs ops K0 Lc T T)
  (k:WO P w0 gs n ops (Qk (MR P w0 gs n ops Q main T o K (done+1)) Q) (tvs ops T (dps ops m)++K) L [o]) (hk0:Kle K0 K:=by (repeat (first|exact Kle.nil|refine Kle.cons rfl rfl ?_))) (hl0:Lle Lc L:=by (repeat (first|exact Lle.nil|refine Lle.c ?_))) (hfree:((T.map Prod.fst).all fun i=>(lk K (uD ops i)).isNone)=true:=by rfl):WM P w0 gs n ops Q main T done K L:=by
 have C:=iz.spec hc;have hml:m<ops.length:=by
  rcases Nat.lt_or_ge m ops.length with h|h
  ·exact h
  ·rw[yY,List.getElem?_eq_none h] at ho;cases ho
 have hmm:main.contains m=true:=by simpa using List.mem_of_getElem? hm
 have ho2:ops.toArray[m]?=some o:=by simpa [yY] using ho
 have hdl:done<main.length:=by
  rcases Nat.lt_or_ge done main.length with h|h
  ·exact h
  ·rw[List.getElem?_eq_none h] at hm;cases hm
 have only:∀ {S:List Bool},(∀ k m,main[k]?=some m→(S[m]?=some true↔k<done))→∀ {k' i:Nat},main[k']?=some i→S[i]?=some false→(∀ j∈dps ops i,S[j]?=some true)→k'=done:=by
  intro S hmn k' i hki hiS hid;have h1:¬ k' < done:=fun h=>by have:=(hmn k' i hki).2 h;rw[hiS] at this;cases this
  rcases Nat.lt_or_ge done k' with h|h
  ·exfalso;obtain⟨q,rfl⟩ : ∃ q,k'=q+1:=⟨k' - 1,by omega⟩
   obtain⟨mq,hmq⟩ : ∃ x,main[q]?=some x:=by
    have:q<main.length:=by
     rcases Nat.lt_or_ge (q+1) main.length with h|h
     ·omega
     ·rw[List.getElem?_eq_none h] at hki;cases hki
    exact⟨_,List.getElem?_eq_getElem this⟩
   have:=hid mq (C.chain q mq i hmq hki);have:=(hmn q mq hmq).1 this;omega
  ·omega
 refine WM.loop hc hT hk0 hl0 hfree (fun f S a w hs i hi hr=>?_) (fun f S a w hs hall=>?_)
 ·obtain⟨hil,hiS,hid⟩:=yu hs.len hr;obtain⟨k',hk'⟩:=List.getElem?_of_mem (by simpa using hi:i∈main);have e:=only hs.mn hk' hiS hid;subst e;have e2:i=m:=by rw[hm] at hk';cases hk';rfl
  subst e2;have hkn:Kn (tvs ops T (dps ops i)++K) a:=po (qd fun j hj u hu=>hs.tl j u hu (hid j hj)) hs.kn;have h1:=nF ho2 (oq ho2 (k a w hs.df hs.sz hkn hs.me));refine wpOp_mono (fun a' w' hh=>?_) h1;obtain⟨⟨g1,g2,K',L',g3,g4',g5,g7⟩,g6⟩:=hh;have g4:Kn (K'++K) a':=by
   intro t v ht;rw[jn] at ht;cases h:lk K' t with
   | some u=>rw[h] at ht;cases ht;exact g4' t v h
   | none =>
    rw[h] at ht;have ht:lk K t=some v:=ht;have hne:o.dst≠some t:=fun e=>by
     rcases g7 t e with ⟨v',hv'⟩|h2
     ·rw[h] at hv';cases hv'
     ·rw[h2] at ht;cases ht
    rw[g6 t hne];exact hs.kn t v ht
  refine g3 f (S.set i true) a' w' (by rw[List.length_set];exact hs.len) (uK hiS hs.cnt) (fun q mq hq=>?_) (kZ (by rw[hs.len];exact hil) hs.cl hid) g1 g2 g4 (fun j u hu hj=>?_) g5
  ·by_cases e:i=mq
   ·subst e;have:=only hs.mn hq hiS hid;subst this;rw[List.getElem?_set_self (by rw[hs.len];exact hil)];simp
   ·rw[List.getElem?_set_ne e,hs.mn q mq hq];constructor
    ·intro h;omega
    ·intro h
     rcases Nat.lt_or_ge q k' with h2|h2
     ·exact h2
     ·exfalso;have:q=k':=by omega
      subst this;rw[hk'] at hq;cases hq;exact e rfl
  ·have hjt:j∈T.map Prod.fst:=sQ.1 ⟨u,hu⟩;have hne:j≠i:=fun e=>by
    subst e;have:=C.one j hil;rw[hi] at this;exact this (by simpa using hjt)
   rw[List.getElem?_set_ne (fun h=>hne h.symm)] at hj;rw[g6 _ (C.apart j hjt i o ho (fun h=>hne h.symm))];exact hs.tl j u hu hj
 ·exfalso;have:=(hs.mn done m hm).1 (hall m hml);omega
theorem WM.fin {m:Nat} (hc:iz ops main (T.map Prod.fst) n=true) (hm:main[done - 1]?=some m) (hd:done=main.length) (hall:(T.map Prod.fst).all (fun i=>(dps ops m).contains i)=true)
  (k:WX w0 gs n .normal Q K L) (h0:0<done:=by decide):WM P w0 gs n ops Q main T done K L:=by
 have C:=iz.spec hc;have key:∀ (f:Nat) (S:List Bool) (a:Act) (w:World),S.length=ops.length→(∀ k m,main[k]?=some m→(S[m]?=some true↔k<done))→(∀ i,S[i]?=some true→∀ j∈dps ops i,S[j]?=some true)→a.defers=[]→a.tmps.size=n→Kn K a→Me w0 gs L w→wpAny P .any ops.toArray Q f S.toArray a w:=by
  intro f S a w h1 h3 hcl h4 h5 h6 h8;have hr:Region.ready .any ops.toArray S.toArray=[]:=by
   rw[List.eq_nil_iff_forall_not_mem];intro i hi;obtain⟨hil,hiS,hid⟩:=yu h1 hi;cases hmi:main.contains i with
   | true =>
    obtain⟨k',hk'⟩:=List.getElem?_of_mem (by simpa using hmi:i∈main);have hkl:k' < main.length:=by
     rcases Nat.lt_or_ge k' main.length with h|h
     ·exact h
     ·rw[List.getElem?_eq_none h] at hk';cases hk'
    have:=(h3 k' i hk').2 (by omega);rw[hiS] at this;cases this
   | false =>
    have hits:i∈T.map Prod.fst:=by
     have:=C.one i hil;rw[hmi] at this;cases h:(T.map Prod.fst).contains i with
     | true=>simpa using h
     | false=>exact absurd h.symm this
    have hmS:=(h3 (done - 1) m hm).2 (by omega);have hin:i∈dps ops m:=by simpa using List.all_eq_true.1 hall i hits
    have:=hcl m hmS i hin;rw[hiS] at this;cases this
  cases f with
  | zero=>exact⟨hr,k a w h4 h5 h6 h8⟩
  | succ f=>exact⟨fun _=>k a w h4 h5 h6 h8,fun i hi=>by rw[hr] at hi;cases hi⟩
 exact fun f S a w h1 _ h3 hcl h4 h5 h6 _ h8=>key f S a w h1 h3 hcl h4 h5 h6 h8
theorem WX.wm {o:Oper} {d:Nat} {Q' : Exit→Act→World→Prop} {K1:List (Nat × Value)} (K' : List (Nat × Value)) (k:WM P w0 gs n ops Q main T d (K'++K) L) (hk:Kle K' K1:=by (repeat (first|exact Kle.nil|refine Kle.cons rfl rfl ?_))) (hd:∀ t,o.dst=some t→(∃ v,lk K' t=some v)∨lk K t=none:=by (intro t ht;first|(cases ht;done)|(cases ht;first|exact .inl ⟨_,rfl⟩|exact .inr rfl))):WX w0 gs n .normal (Qk (MR P w0 gs n ops Q main T o K d) Q') K1 L:=fun _ _ h1 h2 h3 h4 =>
 ⟨h1,h2,K',L,k,hk.kn h3,h4,hd⟩
theorem WM.with (Lc:List Ent) (hc:iz ops main (T.map Prod.fst) n=true) (hT:Tls P w0 gs ops K Lc T T) (k:iz ops main (T.map Prod.fst) n=true→Tls P w0 gs ops K Lc T T→WM P w0 gs n ops Q main T 0 K L):WM P w0 gs n ops Q main T 0 K L:=k hc hT
theorem WC.mains {id:Nat} {l:List Oper} [Mix P] (main:List Nat) (T:List (Nat × Value)) (hml:main.all (fun i=>decide (i<l.length))=true) (k:WM P w0 gs n l Q main T 0 K L):WC P w0 gs n (.region id l.toArray true) Q K L:=by
 refine WC.all (fun a w h1 h2 h3 h4=>k _ _ a w (by simp) (by rw[List.count_replicate];split<;>omega) (fun q m hq=>?_) (fun i hi=>?_) h1 h2 h3 (fun i v _ hi=>?_) h4)
 ·have hm:m<l.length:=by
   have:=List.all_eq_true.1 hml m (List.mem_of_getElem? hq);simpa using this
  rw[List.getElem?_replicate,if_pos hm];simp
 ·rw[List.getElem?_replicate] at hi
  split at hi<;>simp at hi
 ·rw[List.getElem?_replicate] at hi
  split at hi<;>simp at hi
end
def eA (ops:List Oper) (main ts:List Nat) (n:Nat):Bool :=
 ((List.range ops.length).all fun i=>(main.contains i != ts.contains i) && (dps ops i).all fun j=>decide (j<i)) &&
 (ts.all fun i=>sT ops i && decide (uD ops i<n) && (List.range ops.length).all fun j=>decide (j=i) || ((nth ops j).map (fun o=>decide (o.dst≠some (uD ops i)))).getD true) && main.all fun i=>decide (i<ops.length)
structure afd (ops:List Oper) (main ts:List Nat) (n:Nat):Prop where
 one:∀ i,i<ops.length→(main.contains i≠ts.contains i)
 ac:∀ i,i<ops.length→∀ j∈dps ops i,j<i
 dst:∀ i∈ts,sT ops i=true∧uD ops i<n
 apart:∀ i∈ts,∀ j o,nth ops j=some o→j≠i→o.dst≠some (uD ops i)
 len:∀ i∈main,i<ops.length
theorem eA.spec {ops:List Oper} {main ts:List Nat} {n:Nat} (h:eA ops main ts n=true):afd ops main ts n:=by
 unfold eA at h;simp only[Bool.and_eq_true,List.all_eq_true,List.mem_range,bne_iff_ne,decide_eq_true_eq,Bool.or_eq_true] at h;obtain⟨⟨h1,h2⟩,h4⟩:=h;refine⟨fun i hi=>(h1 i hi).1,fun i hi=>(h1 i hi).2,fun i hi=>(h2 i hi).1,fun i hi j o ho hne=>?_,h4⟩;have hj:j<ops.length:=by
  rcases Nat.lt_or_ge j ops.length with h|h
  ·exact h
  ·rw[yY,List.getElem?_eq_none h] at ho;cases ho
 rcases (h2 i hi).2 j hj with e|e
 ·exact absurd e hne
 ·rw[ho] at e;simpa using e
section
variable (P:Program) (w0:World) (gs:List Nat) (n:Nat) (ops:List Oper) (Q:Exit→Act→World→Prop)
variable (main:List Nat) (T:List (Nat × Value))
structure Stz (D:List Nat) (K:List (Nat × Value)) (L:List Ent) (f:Nat) (S:List Bool) (a:Act) (w:World):Prop where
 len:S.length=ops.length
 cnt:S.count false≤f
 mn:∀ m,main.contains m=true→(S[m]?=some true↔D.contains m=true)
 cl:∀ i,S[i]?=some true→∀ j∈dps ops i,S[j]?=some true
 df:a.defers=[]
 sz:a.tmps.size=n
 kn:Kn K a
 tl:∀ i v,lk T i=some v→S[i]?=some true→a.tmps[uD ops i]?=some v
 me:Me w0 gs L w
def WT (D:List Nat) (K:List (Nat × Value)) (L:List Ent):Prop :=
 ∀ (f:Nat) (S:List Bool) (a:Act) (w:World),Stz w0 gs n ops main T D K L f S a w→wpAny P .any ops.toArray Q f S.toArray a w
def MT (o:Oper) (K:List (Nat × Value)) (D:List Nat):Act→World→Prop:=fun a w=>a.defers=[]∧a.tmps.size=n∧∃ K' L,WT P w0 gs n ops Q main T D (K'++K) L∧Kn K' a∧Me w0 gs L w∧(∀ d,o.dst=some d→(∃ v,lk K' d=some v)∨lk K d=none)
def bo (p:Nat→Prop):List Nat→Prop
 | []=>True
 | a::l=>p a∧bo p l
theorem bo.mem {p:Nat→Prop}:∀ {l:List Nat},bo p l→∀ {i},l.contains i=true→p i
 | [],_,i,hi=>by simp at hi
 | a::l,h,i,hi=>by
  rw[List.contains_cons,Bool.or_eq_true] at hi
  rcases hi with hi|hi
  ·have e:i=a:=by simpa using hi
   exact e ▸ h.1
  ·exact h.2.mem hi
def ae7 (D cs:List Nat):Bool:=main.all (fun m=>D.contains m || cs.contains m || (dps ops m).any fun j=>main.contains j && !D.contains j) && main.any fun m=>!D.contains m
end
section
variable {P:Program} {w0:World} {gs:List Nat} {n:Nat} {ops:List Oper} {Q:Exit→Act→World→Prop} {main:List Nat} {T K0 K:List (Nat × Value)} {Lc L:List Ent} {D:List Nat}
theorem WT.loop (hc:eA ops main (T.map Prod.fst) n=true) (hT:Tls P w0 gs ops K0 Lc T T) (hk0:Kle K0 K) (hl0:Lle Lc L) (hfree:((T.map Prod.fst).all fun i=>(lk K (uD ops i)).isNone)=true)
  (hmain:∀ f S a w,Stz w0 gs n ops main T D K L (f+1) S a w→∀ i,main.contains i=true→i∈Region.ready .any ops.toArray S.toArray→wpOp P ops.toArray Q i (wpAny P .any ops.toArray Q f (S.set i true).toArray) a w)
  (hfin:∀ f S a w,Stz w0 gs n ops main T D K L f S a w→(∀ i,i<ops.length→S[i]?=some true)→Q .normal a w):WT P w0 gs n ops Q main T D K L:=by
 have C:=eA.spec hc;have hfree:∀ i∈T.map Prod.fst,lk K (uD ops i)=none:=fun i hi=>by simpa using List.all_eq_true.1 hfree i hi
 intro f
 induction f with
 | zero =>
  intro S a w hs;have hr:Region.ready .any ops.toArray S.toArray=[]:=by
   rw[List.eq_nil_iff_forall_not_mem];intro i hi;have h1:=(yu hs.len hi).2.1;have:0<S.count false:=List.count_pos_iff.2 (List.mem_of_getElem? h1);have:=hs.cnt;omega
  exact⟨hr,hfin _ _ _ _ hs (ub hs.len C.ac hr)⟩
 | succ f ih =>
  intro S a w hs;refine⟨fun hr=>hfin _ _ _ _ hs (ub hs.len C.ac hr),fun i hi=>?_⟩;rw[List.setIfInBounds_toArray];cases hm:main.contains i with
  | true=>exact hmain f S a w hs i hm hi
  | false =>
   obtain⟨hil,hiS,hid⟩:=yu hs.len hi;have hits:i∈T.map Prod.fst:=by
    have:=C.one i hil;rw[hm] at this;cases h:(T.map Prod.fst).contains i with
    | true=>simpa using h
    | false=>exact absurd h.symm this
   obtain⟨v,hv⟩:=sQ.2 hits;obtain⟨o,ho,hdo⟩:=hT.at hv;obtain⟨hd1,hd2⟩:=C.dst i hits;have hod:o.dst=some (uD ops i)∧o.guard=none:=by
    unfold sT at hd1;unfold uD;rw[ho] at hd1 ⊢;obtain⟨od,_,_,_,_,og⟩:=o;cases od with
    | none=>simp at hd1
    | some d=>cases og with
     | none=>exact⟨rfl,rfl⟩
     | some g=>simp at hd1
   have hkn:Kn (tvs ops T (dps ops i)++K0) a:=po (qd fun j hj u hu=>hs.tl j u hu (hid j hj)) (hk0.kn hs.kn);have hrun:=hdo a w hkn (hl0.me hs.me).mr o rfl rfl;have ho2:ops.toArray[i]?=some o:=by simpa [yY] using ho
   unfold wpOp;simp only[ho2];have hw:Region.wanted o (yielded ops.toArray a.tmps)=true:=by unfold Region.wanted;rw[hod.2]
   rw[if_pos hw];left;unfold Oper.wp;rw[hrun];show wpAny P .any ops.toArray Q f (S.set i true).toArray (a.put o.dst v) w;refine ih _ _ _ ⟨by rw[List.length_set];exact hs.len,uK hiS hs.cnt,fun m hkm=>?_,kZ (by rw[hs.len];exact hil) hs.cl hid,by rw[put_defers];exact hs.df,by rw[zP];exact hs.sz,fun t u ht=>?_,fun j u hu hj=>?_,hs.me⟩
   ·have hne:¬ i=m:=fun e=>by
     subst e;rw[hm] at hkm;cases hkm
    rw[List.getElem?_set_ne hne];exact hs.mn m hkm
   ·have hne:o.dst≠some t:=fun e=>by
     rw[hod.1] at e;cases e;rw[hfree i hits] at ht;cases ht
    rw[yp _ _ _ hne];exact hs.kn t u ht
   ·by_cases e:j=i
    ·subst e;rw[hv] at hu;cases hu;rw[hod.1];simp only[Act.put];have:=hs.sz;rw[Array.getElem?_setIfInBounds,if_pos rfl,if_pos (by omega)]
    ·rw[List.getElem?_set_ne (fun h=>e h.symm)] at hj;have hjt:j∈T.map Prod.fst:=sQ.1 ⟨u,hu⟩;have hne:o.dst≠some (uD ops j):=C.apart j hjt i o ho (fun h=>e h.symm);rw[yp _ _ _ hne];exact hs.tl j u hu hj
theorem WT.step (cs:List Nat) (hcs:ae7 ops main D cs=true) (hc:eA ops main (T.map Prod.fst) n=true) (hT:Tls P w0 gs ops K0 Lc T T)
  (k:bo (fun m=>∃ o,nth ops m=some o∧WO P w0 gs n ops (Qk (MT P w0 gs n ops Q main T o K (m::D)) Q) (tvs ops T (dps ops m)++K) L [o]) cs)
  (hk0:Kle K0 K:=by (repeat (first|exact Kle.nil|refine Kle.cons rfl rfl ?_))) (hl0:Lle Lc L:=by (repeat (first|exact Lle.nil|refine Lle.c ?_))) (hfree:((T.map Prod.fst).all fun i=>(lk K (uD ops i)).isNone)=true:=by rfl):WT P w0 gs n ops Q main T D K L:=by
 have C:=eA.spec hc;unfold ae7 at hcs;rw[Bool.and_eq_true] at hcs;obtain⟨hca,hcb⟩:=hcs;refine WT.loop hc hT hk0 hl0 hfree (fun f S a w hs i hi hr=>?_) (fun f S a w hs hall=>?_)
 ·obtain⟨hil,hiS,hid⟩:=yu hs.len hr;have hiD:D.contains i=false:=by
   cases h:D.contains i with
   | false=>rfl
   | true=>have:=(hs.mn i hi).2 h;rw[hiS] at this;cases this
  have him:i∈main:=by simpa using hi
  have hic:cs.contains i=true:=by
   have h1:=List.all_eq_true.1 hca i him;rw[hiD,Bool.false_or,Bool.or_eq_true] at h1
   rcases h1 with h1|h1
   ·exact h1
   ·exfalso;obtain⟨j,hj,h2⟩:=List.any_eq_true.1 h1;rw[Bool.and_eq_true] at h2;have h3:=(hs.mn j h2.1).1 (hid j hj);rw[h3] at h2;simp at h2
  obtain⟨o,ho,kk⟩:=k.mem hic;have ho2:ops.toArray[i]?=some o:=by simpa [yY] using ho
  have hkn:Kn (tvs ops T (dps ops i)++K) a:=po (qd fun j hj u hu=>hs.tl j u hu (hid j hj)) hs.kn;have h1:=nF ho2 (oq ho2 (kk a w hs.df hs.sz hkn hs.me));refine wpOp_mono (fun a' w' hh=>?_) h1;obtain⟨⟨g1,g2,K',L',g3,g4',g5,g7⟩,g6⟩:=hh;have g4:Kn (K'++K) a':=by
   intro t v ht;rw[jn] at ht;cases h:lk K' t with
   | some u=>rw[h] at ht;cases ht;exact g4' t v h
   | none =>
    rw[h] at ht;have ht:lk K t=some v:=ht;have hne:o.dst≠some t:=fun e=>by
     rcases g7 t e with ⟨v',hv'⟩|h2
     ·rw[h] at hv';cases hv'
     ·rw[h2] at ht;cases ht
    rw[g6 t hne];exact hs.kn t v ht
  refine g3 f (S.set i true) a' w' ⟨by rw[List.length_set];exact hs.len,uK hiS hs.cnt,fun q hq=>?_,kZ (by rw[hs.len];exact hil) hs.cl hid,g1,g2,g4,fun j u hu hj=>?_,g5⟩
  ·rw[List.contains_cons]
   by_cases e:i=q
   ·subst e;rw[List.getElem?_set_self (by rw[hs.len];exact hil)];simp
   ·rw[List.getElem?_set_ne e,hs.mn q hq];have:(q == i)=false:=by simpa using fun h=>e h.symm
    rw[this,Bool.false_or]
  ·have hjt:j∈T.map Prod.fst:=sQ.1 ⟨u,hu⟩;have hne:j≠i:=fun e=>by
    subst e;have:=C.one j hil;rw[hi] at this;exact this (by simpa using hjt)
   rw[List.getElem?_set_ne (fun h=>hne h.symm)] at hj;rw[g6 _ (C.apart j hjt i o ho (fun h=>hne h.symm))];exact hs.tl j u hu hj
 ·exfalso;obtain⟨m,hm,h1⟩:=List.any_eq_true.1 hcb;have h2:=(hs.mn m (by simpa using hm)).1 (hall m (C.len m hm));rw[h2] at h1;cases h1
theorem WX.wt {o:Oper} {D:List Nat} {Q' : Exit→Act→World→Prop} {K1:List (Nat × Value)} (K' : List (Nat × Value)) (k:WT P w0 gs n ops Q main T D (K'++K) L) (hk:Kle K' K1:=by (repeat (first|exact Kle.nil|refine Kle.cons rfl rfl ?_))) (hd:∀ t,o.dst=some t→(∃ v,lk K' t=some v)∨lk K t=none:=by (intro t ht;first|(cases ht;done)|(cases ht;first|exact .inl ⟨_,rfl⟩|exact .inr rfl))):WX w0 gs n .normal (Qk (MT P w0 gs n ops Q main T o K D) Q') K1 L:=fun _ _ h1 h2 h3 h4 =>
 ⟨h1,h2,K',L,k,hk.kn h3,h4,hd⟩
theorem WT.with (Lc:List Ent) (hc:eA ops main (T.map Prod.fst) n=true) (hT:Tls P w0 gs ops K Lc T T) (k:eA ops main (T.map Prod.fst) n=true→Tls P w0 gs ops K Lc T T→WT P w0 gs n ops Q main T [] K L):WT P w0 gs n ops Q main T [] K L:=k hc hT
theorem WX.weak {K' : List (Nat × Value)} {L' : List Ent} (k:WX w0 gs n .normal Q K' L') (hk:Kle K' K) (hl:Lle L' L):WX w0 gs n .normal Q K L:=fun a w h1 h2 h3 h4=>k a w h1 h2 (hk.kn h3) (hl.me h4)
theorem WC.mainT {id:Nat} {l:List Oper} [Mix P] (main:List Nat) (T:List (Nat × Value)) (hml:main.all (fun i=>decide (i<l.length))=true) (k:∀ X:List (Nat × Value)→List Ent→Prop,(∀ K L,X K L↔WX w0 gs n .normal Q K L)→WT P w0 gs n l Q main T [] K L):WC P w0 gs n (.region id l.toArray true) Q K L:=by
 refine WC.all (fun a w h1 h2 h3 h4=>k _ (fun _ _=>Iff.rfl) _ _ a w ⟨by simp,by rw[List.count_replicate];split<;>omega,fun m hq=>?_,fun i hi=>?_,h1,h2,h3,fun i v _ hi=>?_,h4⟩)
 ·have hm:m<l.length:=by
   have:=List.all_eq_true.1 hml m (by simpa using hq);simpa using this
  rw[List.getElem?_replicate,if_pos hm];simp
 ·rw[List.getElem?_replicate] at hi
  split at hi<;>simp at hi
 ·rw[List.getElem?_replicate] at hi
  split at hi<;>simp at hi
end
end Sx
end
end Go.Proofs.YteibfbjpkjkejaaGreatDoor
