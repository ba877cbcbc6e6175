/- Part 15 of the proof. -/
import Derived.Test.YtiaibpcaloigkaaGreatDoorC14
import Derived.LoopN
set_option linter.unusedSimpArgs false
set_option linter.unusedVariables false
namespace Go.Proofs.YtiaibpcaloigkaaGreatDoor
section
open Go Go.RowKit Go.BigFrame
namespace Sx
theorem ag3 {P:Program} {o:Oper} {a:Act} {w:World} {k next:Act→World→Prop} {Q:Exit→Act→World→Prop} (h:o.wp P a w next (Qk k Q)):o.wp P a w next Q:=by
 unfold Oper.wp at *;generalize (execOp a.eval o).run P w=r at *;cases r with
 | ok n w' =>
  cases n<;>simp only[Oper.upon] at h ⊢<;>first|exact h|exact Calls.mono h (fun e w'' he=>by cases e<;>first|exact he|exact Qk.out he)
 | halt x w'=>cases x<;>simp only[Oper.upon] at h ⊢<;>exact h
theorem pR {ro:Option Nat} {m:Nat} {P:Program} {ops:Array Oper} {Q:Exit→Act→World→Prop} {k:Act→World→Prop} {rest:List Oper} (hQ:¬ LetsOut Q) (hk:∀ a w,k a w→wpListIn (fw ro) m P ops Q rest a w) :
  ∀ {l:List Oper} {a:Act} {w:World},(∀ o∈l,∀ c,o.op≠.defer c)→wpList P ops (Qk k Q) l a w→wpListIn (fw ro) m P ops Q (l++rest) a w
 | [],_,_,_,h=>hk _ _ h
 | o::r,a,w,hd,h=>by
  unfold wpList at h;rw[List.cons_append];unfold wpListIn
  split at h
  ·rename_i hw;rw[if_pos hw]
   rcases h with h|h
   ·exact Oper.wpIn_mono (fun a w h=>pR hQ hk (fun o ho=>hd o (by simp[ho])) h) (qe (hd o Sm) (ag3 h))
   ·exact absurd (Qk.out h.2) hQ
  ·rename_i hw;rw[if_neg hw];exact⟨fun _ _=>trivial,pR hQ hk (fun o ho=>hd o (by simp[ho])) h⟩
section
variable (m:Nat) (P:Program) (w0:World) (gs:LN) (n:Nat) (ops:List Oper) (Q:Exit→Act→World→Prop) (K:List (Nat × Value)) (L:List Ent)
def WOI (rest:List Oper):Prop:=∀ a w,a.defers=[]→a.tmps.size=n→Kn K a→Me w0 gs L w→wpListIn (fw none) m P ops.toArray Q rest a w
end
section
variable {m:Nat} {P:Program} {w0:World} {gs:LN} {n:Nat} {ops:List Oper} {Q:Exit→Act→World→Prop} {K:List (Nat × Value)} {L:List Ent}
theorem WOI.of {rest:List Oper} (hQ:¬ LetsOut Q) (k:WO P w0 gs n ops Q K L rest) (hd:ti rest=true:=by rfl):WOI m P w0 gs n ops Q K L rest:=fun a w h1 h2 h3 h4=>nb hQ (te hd) (k a w h1 h2 h3 h4)
theorem WX.woi {rest:List Oper} {Q' : Exit→Act→World→Prop} (k:WOI m P w0 gs n ops Q K L rest):WX w0 gs n .normal (Qk (wpListIn (fw none) m P ops.toArray Q rest) Q') K L:=k
theorem WI.regionY {id:Nat} {l:List Oper} (j:Nat) (hQ:¬ LetsOut Q) (k:WO P w0 gs n l (Qk (wpListIn (fw none) m P l.toArray Q (l.drop j)) Q) K L (l.take j)) (hd:ti l=true:=by rfl):WI none m P w0 gs n (.region id l.toArray false) Q K L:=fun a w h1 h2 h3 h4=>by
 refine wpIn_region_lit ?_;have h:=pR (ro:=none) (m:=m) (rest:=l.drop j) hQ (fun _ _ h=>h) (l:=l.take j) (fun o ho=>te hd o (List.mem_of_mem_take ho)) (k a w h1 h2 h3 h4);rwa [List.take_append_drop] at h
theorem WOI.yield {rest:List Oper} {d l:Nat} {x:Operand} {xs:Array Operand} {ats:Array TypeId} {ty:TypeId} {pos:String} {after:Array Edge} {vs:LV} {R:World→Ending→World→Prop}
  (hx:ev K x=some (.func (.yield l) #[] #[])) (ha:evs K xs.toList=some vs)
  (hy:∀ w,Me w0 gs L w→YieldAt (fw none) (m - 1) P l vs.toArray w (R w))
  (k:∀ w e w',Me w0 gs L w→R w e w'→∃ b,e=.returned (.bool b)∧WOI m P w' [] n ops Q ((d,.bool b)::K) [] rest)
  (hd:Nat.blt d n=true:=by rfl):WOI m P w0 gs n ops Q K L (⟨some d,.call { callee:=.value x,args:=xs,argTypes:=ats },ty,pos,after,none⟩::rest):=by
 intro a w h1 h2 h3 h4;have hd' : d<n:=by simpa [Nat.blt_eq] using hd
 unfold wpListIn;simp only[Region.wanted];rw[if_pos trivial];refine⟨fun _ _=>trivial,?_⟩;rw[Oper.semAt_eq _ _ _ (by intro c hc;cases hc)];obtain⟨fn,tmps,assign,body,h5,h6⟩:=hy w h4;have hrun:(execOp a.eval ⟨some d,.call { callee:=.value x,args:=xs,argTypes:=ats },ty,pos,after,none⟩).run P w=.ok (.round l fn tmps assign body) w:=by
  have e1:=h3.eval hx;have e2:xs.map a.eval=vs.toArray:=by have h:=h3.evals ha;apply Array.ext';simpa using h
  simp only[execOp,resolve,e1,e2,Deferred.ofValue,Sem.run_bind,Sem.run_pure,Result.andThen_ok,invoke];simpa using h5
 rw[hrun];refine⟨fun h=>by simp[fw] at h,h6.mono ?_⟩;intro e w' hR;obtain⟨b,rfl,hk⟩:=k w e w' h4 hR;exact hk (a.put (some d) (.bool b)) w' (by rw[put_defers];exact h1) (by rw[yp];exact h2) (h3.put Om _) (Me.refl w' [])
end
section
variable {P:Program} {w0:World} {gs:LN} {n:Nat} {Q:Exit→Act→World→Prop} {K:List (Nat × Value)} {L:List Ent}
theorem WC.loopU {c:Code} (m:Nat) (k:WC P w0 gs n c (Exit.then (Code.rounds P c Q m) Q) K L):WC P w0 gs n (.loop c) Q K L:=fun a w h1 h2 h3 h4=>wp_loop_rounds (m+1) (k a w h1 h2 h3 h4)
theorem WX.rounds {c:Code} {m:Nat} {Q' : Exit→Act→World→Prop} (k:WC P w0 gs n c (Exit.then (Code.rounds P c Q m) Q) K L):WX w0 gs n .normal (Exit.then (Code.rounds P c Q (m+1)) Q') K L:=k
end
end Sx
end
section
open Go Go.RowKit Go.BigFrame
namespace Sx
open Kp
def HS (n:Nat) (ops:List Oper):List Bool:=List.replicate n true++List.replicate (ops.length - n) false
section
variable {ro:Option Nat} {m:Nat} {P:Program} {ops:List Oper} {n:Nat} {Q:Exit→Act→World→Prop}
theorem acp (hQ:¬ LetsOut Q) (hnd:ti ops=true) (hB:yQ ops [] n=true) (hg:((ops.take n).all fun o=>o.guard.isNone)=true) :
  ∀ (f:Nat) (L L' : Array Bool) (a:Act) (w:World),L.size=ops.length→L'.size=n→(∀ j,j<n→L'.getD j false=L.getD j false)→(∀ j,n≤j→L.getD j false=false) →
   (∀ j o,ops[j]?=some o→L.getD j false=true→∀ e∈o.after,Region.binds .any e=true→L.getD e.on false=true)→((List.range n).filter fun j=>!L.getD j false).length=f →
   wpAny P .any (ops.take n).toArray (Qk (wpAnyIn (fw ro) m P .any ops.toArray Q (ops.length - n) (HS n ops).toArray) Q) f L' a w→wpAnyIn (fw ro) m P .any ops.toArray Q (f+(ops.length - n)) L a w:=by
 unfold yQ at hB;simp only[Bool.and_eq_true,decide_eq_true_eq] at hB;obtain⟨⟨⟨⟨⟨⟨⟨_,hn⟩,hback⟩,_⟩,_⟩,htail⟩,_⟩,_⟩:=hB;intro f
 induction f with
 | zero =>
  intro L L' a w hs _ _ ht _ hf h;have hall:∀ j,j<n→L.getD j false=true:=by
   intro j hj;cases hl:L.getD j false with
   | true=>rfl
   | false =>
    have:j∈(List.range n).filter fun j=>!L.getD j false:=List.mem_filter.2 ⟨List.mem_range.2 hj,by rw[hl];rfl⟩;rw[List.length_eq_zero_iff.1 hf] at this;cases this
  have hlist:L=(HS n ops).toArray:=by
   unfold HS;apply Array.ext
   ·simp[hs];omega
   ·intro i h1 h2;have h3:L.getD i false=L[i]:=by simp[h1]
    rw[← h3]
    rcases Nat.lt_or_ge i n with hi|hi
    ·rw[hall i hi];simp[List.getElem_append,hi]
    ·rw[ht i hi];simp[List.getElem_append,Nat.not_lt.2 hi]
  rw[Nat.zero_add,hlist];exact h.2
 | succ f ih =>
  intro L L' a w hs hs' hLL ht hcl hf h;have hex:∃ m,m<n∧L.getD m false=false:=by
   cases hl:(List.range n).filter fun j=>!L.getD j false with
   | nil=>rw[hl] at hf;cases hf
   | cons m l =>
    have hm:m∈(List.range n).filter fun j=>!L.getD j false:=by rw[hl];simp
    rw[List.mem_filter] at hm;exact⟨m,List.mem_range.1 hm.1,by simpa using hm.2⟩
  obtain⟨m0,⟨hmn,hml⟩,hleast⟩:=exists_least hex;have hmr:m0∈Region.ready .any ops.toArray L:=by
   rw[mem_ready];have hmo:ops[m0]?=some (ops[m0]' Om):=List.getElem?_eq_getElem Om;refine⟨getD_in (by rw[hs];omega) hml,ops[m0]' Om,by simp,fun e he hb=>?_⟩;have hlt:=yf hback hmo e he hb;cases hle:L.getD e.on false with
   | true=>rfl
   | false=>have:=hleast e.on ⟨by omega,hle⟩;omega
  have hne:Region.ready .any ops.toArray L≠[]:=fun h0=>by rw[h0] at hmr;cases hmr
  rw[show f+1+(ops.length - n)=(f+(ops.length - n))+1 by omega];refine⟨fun h0=>absurd h0 hne,fun i hi=>?_⟩;obtain⟨hiun,o,ho,hwait⟩:=mem_ready.1 hi;have ho' : ops[i]?=some o:=by simpa using ho
  have hil:i<ops.length:=(List.getElem?_eq_some_iff.1 ho').1;have hancl:=yg (L:=fun j=>L.getD j false) hcl i o ho' hwait;have hin:i<n:=by
   rcases Nat.lt_or_ge i n with h1|h1
   ·exact h1
   ·exfalso;have h2:=List.all_eq_true.1 htail i (List.mem_range.2 hil);simp only[Bool.or_eq_true,decide_eq_true_eq] at h2
    rcases h2 with h2|h2
    ·omega
    ·have h3:=List.all_eq_true.1 h2 m0 (List.mem_range.2 Om);simp only[Bool.or_eq_true,Bool.and_eq_true] at h3
     rcases h3 with h3|⟨h3,_⟩
     ·have h4:=hancl m0 h3;simp only[hml] at h4;cases h4
     ·simp at h3
  have ht' : (ops.take n)[i]?=some o:=by rw[List.getElem?_take,if_pos hin];exact ho'
  have hiu:L.getD i false=false:=getD_both hiun;have hi' : i∈Region.ready .any (ops.take n).toArray L':=by
   rw[mem_ready];refine⟨getD_in (by rw[hs'];exact hin) (by rw[hLL i hin];exact hiu),o,by simpa using ht',fun e he hb=>?_⟩;have hlt:=yf hback ho' e he hb;rw[hLL e.on Om];exact hwait e he hb
  have hgi:o.guard=none:=by
   have:=List.all_eq_true.1 hg o (List.mem_of_getElem? ht');simpa using this
  have hw:∀ v,Region.wanted o v=true:=fun v=>by unfold Region.wanted;rw[hgi]
  have h1:=h.2 i hi';unfold wpOp at h1;unfold wpOpIn;have ht2:(ops.take n).toArray[i]?=some o:=by simpa using ht'
  rw[ht2] at h1;rw[ho];simp only[hw,if_true] at h1 ⊢
  rcases h1 with h1|h1
  ·refine Oper.wpIn_mono (fun a' w' h'=>ih _ _ a' w' (by simp[hs]) (by simp[hs']) (fun j hj=>?_) (fun j hj=>?_) (fun j oj hoj hlj e he hb=>?_) ?_ h') (qe (te hnd o (List.mem_of_getElem? ho')) (ag3 h1))
   ·by_cases hji:j=i
    ·subst hji;simp[hs,hs',hil,hin]
    ·rw[getD_set_ne false (Ne.symm hji),getD_set_ne false (Ne.symm hji)];exact hLL j hj
   ·rw[getD_set_ne false Om];exact ht j hj
   ·by_cases hei:e.on=i
    ·rw[hei];simp[hs,hil]
    ·rw[getD_set_ne false (Ne.symm hei)]
     by_cases hji:j=i
     ·subst hji;rw[ho'] at hoj;cases hoj;exact hwait e he hb
     ·rw[getD_set_ne false (Ne.symm hji)] at hlj;exact hcl j oj hoj hlj e he hb
   ·have:=uw (List.range n) List.nodup_range i (List.mem_range.2 hin) (p:=fun j=>!L.getD j false) (q:=fun j=>!(L.setIfInBounds i true).getD j false) (by simp only[hiu];rfl) (by simp[hs,hil])
     (fun j hj=>by simp only[getD_set_ne false (Ne.symm hj)])
    omega
  ·exact absurd (Qk.out h1.2) hQ
end
section
variable {ro:Option Nat} {m:Nat} {P:Program} {w0:World} {gs:LN} {n:Nat} {Q:Exit→Act→World→Prop} {K:List (Nat × Value)} {L:List Ent}
theorem WI.headQ {id:Nat} {l hd:List Oper} [Mix P] (h:Nat) (hQ:¬ LetsOut Q) (k:DQ P w0 gs n [] (Qk (wpAnyIn (fw ro) m P .any l.toArray Q (l.length - h) (HS h l).toArray) Q) hd L [] 0 hd (fun _=>True) (fun _=>K) (fun _=>[]))
  (h1:l.take h=hd:=by (simp only[List.take_succ_cons,List.take_zero]<;>rfl)) (hB:yQ l [] h=true:=by decide +kernel) (hB' : yQ hd [] h=true:=by decide +kernel) (hg:(hd.all fun o=>o.guard.isNone)=true:=by rfl) (hnd:ti l=true:=by rfl):WI ro m P w0 gs n (.region id l.toArray true) Q K L:=by
 intro a w g1 g2 g3 g4;subst h1;obtain⟨ks,k1,k2,k3⟩:=k;refine wpIn_region_any Mix.out ?_;have hn:h≤l.length:=by
  unfold yQ at hB;simp only[Bool.and_eq_true,decide_eq_true_eq] at hB;exact hB.1.1.1.1.1.1.2
 have e1:(l.take h).take h=l.take h:=by rw[List.take_take,Nat.min_self]
 have e2:(l.take h).drop h=[]:=by rw[List.drop_eq_nil_iff];simp;omega
 have hl:(l.take h).length=h:=by simp;omega
 have hq:=kw (P:=P) (a:=a) (w:=w) (l:=l.take h) [] h ks hB' (.inl rfl) (fun i=>k1 i (Nat.zero_le _)) (fun i s=>k2 i s (Nat.zero_le _)) (by
  rw[e1,e2];exact fun s=>k3 s a w (fun _ _=>True) [] trivial g1 g2 g3 g4 .nil Sm (fun _ _ _=>trivial) Sm Sm)
 have hr:((List.range h).filter fun j=>!(Array.replicate l.toArray.size false).getD j false)=List.range h:=by
  apply List.filter_eq_self.2;intro j _;rw[getD_replicate_false];rfl
 have:=acp (ro:=ro) (m:=m) hQ hnd hB hg h (Array.replicate l.toArray.size false) (Array.replicate (l.take h).toArray.size false) a { w with drawn:=w.drawn+1 } Sm (by simp;omega) (fun j _=>by rw[getD_replicate_false,getD_replicate_false]) (fun j _=>getD_replicate_false _ _)
  (fun j o _ hl'=>by rw[getD_replicate_false] at hl';cases hl') (by rw[hr];simp) (by
   have e3:(l.take h).toArray.size=h:=by simpa using hl
   rw[e3] at hq;rw[e3];exact hq)
 rwa [show h+(l.length - h)=l.toArray.size by simp;omega] at this
theorem WX.headV {S:List Bool} {f:Nat} {ops:List Oper} {Q' : Exit→Act→World→Prop} (k:VA m P w0 gs n ops Q K L S f) (hQ:¬ LetsOut Q) (hd:ti ops=true:=by rfl):WX w0 gs n .normal (Qk (wpAnyIn (fw none) m P .any ops.toArray Q f S.toArray) Q') K L:=k hQ hd
end
end Sx
end
end Go.Proofs.YtiaibpcaloigkaaGreatDoor
