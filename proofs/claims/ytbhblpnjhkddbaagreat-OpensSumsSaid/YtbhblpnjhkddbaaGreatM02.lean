/- Part 2 of the proof. -/
import Derived.StillTail
import Derived.Deep.LoopGhost
import Derived.Deep.RegionHeld3
import Derived.WalkKit
import Derived.Lib.Hide
import Derived.Deep.Draws
import Derived.Laws.Rows
import Derived.Shelf.Small.Bits
import Derived.Shelf.Strconv.Itoa0
import Derived.Shelf.Bits.Mul64
import Derived.Test.YtbhblpnjhkddbaaGreatProg
import Derived.StillTailTactics
import Derived.BigQuiet
import Derived.Deep.QuietTactic
import Derived.Shelf.Spec.BitsCarry
import Derived.Handy
import Derived.DeepKeys
import Derived.LaidEql
import Derived.Stop.Asserts
import Derived.RowKitTokens
set_option linter.unusedSimpArgs false
set_option linter.unusedVariables false
namespace Go.Proofs.YtbhblpnjhkddbaaGreat
section
open Go Go.RowKit
namespace Kp
inductive Kind where
 | skip
 | val (v:Value)
 | rel (V:Value→World→Prop)
def jT (ops:List Oper):List Nat :=
 ops.foldl (fun acc o=>acc++[o.after.foldl (fun s e=>if Region.binds .any e then s ||| 2 ^ e.on ||| acc.getD e.on 0 else s) 0]) []
def anc (ops:List Oper) (i j:Nat):Bool:=((jT ops).getD i 0).testBit j
def kyp (P:Program) (o:Oper) (a:Act) (w:World) (K:Value→World→Prop):Prop :=
 match (execOp a.eval o).run P w with
 | .ok (.value v) w'=>K v w'
 | .ok .skip w'=>K undef w'
 | .ok (.enter f args) w'=>Calls P f args w' (fun e w''=>∃ v,e=.returned v∧K v w'')
 | _=>False
section
variable (P:Program) (ops:List Oper) (fl:List Nat) (w0:World) (K:Nat→Kind)
def obl (i:Nat) (o:Oper) (a:Act) (F:Nat→World→Prop):Prop :=
 match K i with
 | .skip=>Region.wanted o (yielded ops.toArray a.tmps)=false
 | .val v=>Region.wanted o (yielded ops.toArray a.tmps)=true∧((∀ w,(execOp a.eval o).run P w=.ok (.value v) w)∨(fl.contains i=false ∧
   ∀ w,Below w0.heap.size w0 w→(∀ j,anc ops i j=true→F j w)→kyp P o a w (fun u w'=>u=v∧Below w.heap.size w w')))
 | .rel V=>fl.contains i=false∧Region.wanted o (yielded ops.toArray a.tmps)=true∧(∀ u w w',V u w→Below w.heap.size w w'→V u w') ∧
   ∀ w,Below w0.heap.size w0 w→(∀ j,anc ops i j=true→F j w)→kyp P o a w (fun u w'=>V u w'∧Below w.heap.size w w')
def kp (Fin:Act→(Nat→World→Prop)→Prop):List Oper→Nat→Act→(Nat→World→Prop)→Prop
 | [],_,a,F=>Fin a F
 | o::l,i,a,F=>obl P ops fl w0 K i o a F ∧
  match K i with
  | .skip=>kp Fin l (i+1) (a.put o.dst undef) F
  | .val v=>kp Fin l (i+1) (a.put o.dst v) F
  | .rel V=>∀ u,kp Fin l (i+1) (a.put o.dst u) (fun j=>if j=i then V u else F j)
def vg (s:Nat→Value) (i:Nat):Value :=
 match K i with
 | .skip=>undef
 | .val v=>v
 | .rel _=>s i
def facts (s:Nat→Value):Nat→Nat→World→Prop
 | 0=>fun _ _=>True
 | i+1=>match K i with
  | .rel V=>fun j=>if j=i then V (s i) else facts s i j
  | _=>facts s i
end
def zW (u:Nat→Value) (L:Nat→Bool):List Oper→Nat→Act→Act
 | [],_,a=>a
 | o::l,i,a=>zW u L l (i+1) (if L i then a.put o.dst (u i) else a)
section
variable {P:Program} {ops:List Oper} {fl:List Nat} {w0:World} {K:Nat→Kind}
theorem vF {s:Nat→Value} {j:Nat} {w:World}:∀ i,(∀ V,j<i→K j=.rel V→V (s j) w)→facts K s i j w
 | 0,_=>trivial
 | i+1,h=>by
  have hr:facts K s i j w:=vF i (fun V hj=>h V (by omega));unfold facts;cases hK:K i with
  | rel V =>
   simp only;split
   ·rename_i e;subst e;exact h V (by omega) hK
   ·exact hr
  | _=>exact hr
theorem zU {u u' : Nat→Value} {L L' : Nat→Bool}:∀ (l:List Oper) (i:Nat) (a:Act),
  (∀ j,i≤j→j<i+l.length→L j=L' j∧(L j=true→u j=u' j))→zW u L l i a=zW u' L' l i a
 | [],_,_,_=>rfl
 | o::l,i,a,h=>by
  obtain⟨h1,h2⟩:=h i (Nat.le_refl _) (by simp);unfold zW;rw[zU l (i+1) _ (fun j hj hj'=>h j (by omega) (by simp only[List.length_cons];omega)),← h1];cases hL:L i with
  | true=>rw[h2 hL]
  | false=>rfl
theorem rZ {u:Nat→Value} {L:Nat→Bool} {d:Option Tmp} {v:Value}:∀ (l:List Oper) (i:Nat) (a:Act),
  (∀ j o,l[j]?=some o→L (i+j)=true→∀ t,d=some t→o.dst≠some t)→zW u L l i (a.put d v)=(zW u L l i a).put d v
 | [],_,_,_=>rfl
 | o::l,i,a,h=>by
  unfold zW;have hr:∀ j o',l[j]?=some o'→L (i+1+j)=true→∀ t,d=some t→o'.dst≠some t:=fun j o' hj hL=>h (j+1) o' (by simpa using hj) (by rw[show i+(j+1)=i+1+j by omega];exact hL);cases hL:L i with
  | true =>
   simp only[if_true];have hne:=h 0 o rfl (by simpa using hL);rw[Act.put_comm a v (u i) hne];exact rZ l (i+1) _ hr
  | false=>simpa using rZ l (i+1) a hr
theorem tE {u:Nat→Value} {L:Nat→Bool}:∀ (l:List Oper) (i:Nat) (a:Act) (k:Nat) (o:Oper),l[k]?=some o→L (i+k)=false →
  (∀ j o',l[j]?=some o'→j≠k→∀ t,o.dst=some t→o'.dst≠some t) →
  zW u (fun j=>if j=i+k then true else L j) l i a=(zW u L l i a).put o.dst (u (i+k))
 | [],_,_,_,_,h,_,_=>by simp at h
 | o'::l,i,a,0,o,h,hL,hd=>by
  have:o'=o:=by simpa using h
  subst this;have hL' : L i=false:=by simpa using hL
  unfold zW;simp only[Nat.add_zero,if_true,hL',Bool.false_eq_true,if_false];rw[zU (u:=u) (u':=u) (L':=L) l (i+1) _ (fun j hj _=>⟨by simp;omega,fun _=>rfl⟩)];exact rZ l (i+1) a (fun j o'' hj _=>hd (j+1) o'' (by simpa using hj) (by omega))
 | o'::l,i,a,k+1,o,h,hL,hd=>by
  have e:i+(k+1)=i+1+k:=by omega
  unfold zW;rw[e] at hL ⊢;have hi:(if i=i+1+k then true else L i)=L i:=by simp;omega
  rw[hi];exact tE l (i+1) _ k o (by simpa using h) hL (fun j o'' hj hne=>hd (j+1) o'' (by simpa using hj) (by omega))
def Agree (T:List Tmp) (a a' : Act):Prop:=∀ t∈T,a.tmps[t]?=a'.tmps[t]?
theorem Agree.put2 {T:List Tmp} {a a' : Act} (h:Agree T a a') (d:Option Tmp) (v:Value):Agree T (a.put d v) (a'.put d v):=by
 cases d with
 | none=>exact h
 | some d =>
  intro t ht;have:=h t ht
  by_cases e:d=t
  ·subst e;simp only[Act.put];simp only[Array.getElem?_setIfInBounds,if_true]
   rcases Nat.lt_or_ge d a.tmps.size with h1|h1
   ·rw[Array.getElem?_eq_getElem h1] at this;have h2:d<a'.tmps.size:=by
     rcases Nat.lt_or_ge d a'.tmps.size with h3|h3
     ·exact h3
     ·rw[Array.getElem?_eq_none h3] at this;cases this
    simp[h1,h2]
   ·rw[Array.getElem?_eq_none h1] at this;have h2:¬ d<a'.tmps.size:=fun h3=>by rw[Array.getElem?_eq_getElem h3] at this;cases this
    simp[Nat.not_lt.2 h1,h2]
  ·simp only[Act.put,Array.getElem?_setIfInBounds_ne e];exact this
theorem Agree.put1 {T:List Tmp} {a a' : Act} (h:Agree T a a') {d:Option Tmp} (hd:∀ t,d=some t→t ∉ T) (v:Value):Agree T (a.put d v) a':=by
 cases d with
 | none=>exact h
 | some d =>
  intro t ht;have e:d≠t:=fun e=>hd d rfl (e ▸ ht);simp only[Act.put,Array.getElem?_setIfInBounds_ne e];exact h t ht
theorem Agree.symm {T:List Tmp} {a a' : Act} (h:Agree T a a'):Agree T a' a:=fun t ht=>(h t ht).symm
theorem uw {T:List Tmp} {u:Nat→Value} {L M:Nat→Bool}:∀ (l:List Oper) (i:Nat) (a a' : Act),Agree T a a' →
  (∀ j o,l[j]?=some o→L (i+j)≠M (i+j)→∀ t,o.dst=some t→t ∉ T)→Agree T (zW u L l i a) (zW u M l i a')
 | [],_,_,_,h,_=>h
 | o::l,i,a,a',h,hd=>by
  unfold zW;have hr:∀ j o',l[j]?=some o'→L (i+1+j)≠M (i+1+j)→∀ t,o'.dst=some t→t ∉ T:=fun j o' hj hne=>hd (j+1) o' (by simpa using hj) (by rw[show i+(j+1)=i+1+j by omega];exact hne);refine uw l (i+1) _ _ ?_ hr;cases hL:L i<;>cases hM:M i
  ·exact h
  ·exact (h.symm.put1 (hd 0 o rfl (by simp[hL,hM])) _).symm
  ·exact h.put1 (hd 0 o rfl (by simp[hL,hM])) _
  ·exact h.put2 _ _
theorem ss {o:Oper} {a a' : Act} (hs:∀ cs b,o.op≠.select cs b) (h:Agree (o.looksAt ops.toArray) a a'):execOp a.eval o=execOp a'.eval o :=
 execOp_congr o hs fun x hx=>by
  cases x with
  | tmp t =>
   have:=h t (List.mem_append_left _ (List.mem_filterMap.2 ⟨.tmp t,by simpa using hx,rfl⟩));simp[Act.eval,this]
  | _=>rfl
theorem uS {o:Oper} {a a' : Act} (h:Agree (o.looksAt ops.toArray) a a'):Region.wanted o (yielded ops.toArray a.tmps)=Region.wanted o (yielded ops.toArray a'.tmps):=by
 unfold Region.wanted;cases hg:o.guard with
 | none=>rfl
 | some gw =>
  obtain⟨g,want⟩:=gw;have hy:yielded ops.toArray a.tmps g=yielded ops.toArray a'.tmps g:=by
   unfold yielded;cases ht:(ops.toArray[g]?).bind (·.dst) with
   | none=>rfl
   | some t =>
    have:=h t (List.mem_append_right _ (by simp only[hg,ht];simp));simp[this]
  simp only[hy]
theorem yX {o:Oper} {a:Act} {w:World} {R:Value→World→Prop} {K' : Act→World→Prop} {Q:Exit→Act→World→Prop} (h:kyp P o a w R)
  (hK:∀ v w',R v w'→K' (a.put o.dst v) w'):o.wp P a w K' Q:=by
 unfold kyp at h;unfold Oper.wp;generalize (execOp a.eval o).run P w=r at *;cases r with
 | ok n w' =>
  cases n<;>simp only at h<;>simp only[Oper.upon]
  case value v=>exact hK _ _ h
  case skip=>exact hK _ _ h
  case enter f args=>exact h.mono fun e w'' ⟨v,he,hw⟩=>by subst he;exact hK _ _ hw
 | halt x w'=>simp only at h
theorem y5 {o:Oper} {a a' : Act} {w:World} {R:Value→World→Prop} (he:execOp a.eval o=execOp a'.eval o) (h:kyp P o a' w R):kyp P o a w R:=by
 unfold kyp at *;rw[he];exact h
end
def acv (ops:List Oper):Bool:=(List.range ops.length).all fun i=>match ops[i]? with
 | some o=>o.after.all fun e=>!Region.binds .any e || decide (e.on<i)
 | none=>true
def adD (ops:List Oper) (n:Nat):Bool:=(List.range n).all fun i=>(List.range n).all fun j=>i == j || match ops[i]?,ops[j]? with
 | some oi,some oj=>(match oi.dst with|some d=>oj.dst != some d|none=>true) && (match oj.dst with|some d=>!(oi.looksAt ops.toArray).contains d || anc ops i j|none=>true)
 | _,_=>true
def adn (ops:List Oper) (n:Nat):Bool:=(List.range n).all fun i=>match ops[i]? with
 | some o=>(match o.dst with|some d=>!(o.looksAt ops.toArray).contains d|none=>true)
 | none=>true
def adu (ops:List Oper) (fl:List Nat) (n:Nat):Bool:=(List.range ops.length).all fun t=>decide (t<n) || (List.range t).all fun i=>anc ops t i ||
 (fl.contains i && match ops[i]? with|some o=>o.after.all fun e=>!Region.binds .any e || anc ops t e.on|none=>false)
def abW (ops:List Oper) (fl:List Nat) (n:Nat):Bool:=fl.all fun i=>decide (i<n) && (List.range ops.length).all fun j=>i == j || anc ops i j || match ops[i]?,ops[j]? with
 | some oi,some oj=>(oj.after.any fun e=>Region.binds .any e && e.on == i) || oi.apart ops.toArray oj
 | _,_=>true
def ym (ops:List Oper) (fl:List Nat) (n:Nat):Bool :=
 Region.noSelect ops.toArray && decide (n≤ops.length) && acv ops && adD ops n && adn ops n && adu ops fl n && abW ops fl n && Region.seqB .any ops.toArray (ops.length - n) n ((List.replicate n true++List.replicate (ops.length - n) false).toArray)
section
variable {P:Program} {ops:List Oper}
theorem zF (h:acv ops=true) {i:Nat} {o:Oper} (ho:ops[i]?=some o):∀ e∈o.after,Region.binds .any e=true→e.on<i:=by
 intro e he hb;have hi:i<ops.length:=(List.getElem?_eq_some_iff.1 ho).1;have:=List.all_eq_true.1 h i (List.mem_range.2 hi);simp only[ho] at this;have:=Array.all_eq_true_iff_forall_mem.1 this e he;simpa [hb] using this
def mD (acc:List Nat) (o:Oper):Nat:=o.after.foldl (fun s e=>if Region.binds .any e then s ||| 2 ^ e.on ||| acc.getD e.on 0 else s) 0
def qT (l:List Oper) (acc:List Nat):List Nat:=l.foldl (fun acc o=>acc++[mD acc o]) acc
theorem vh (o:Oper) (l:List Oper) (acc:List Nat):qT (o::l) acc=qT l (acc++[mD acc o]):=rfl
theorem r6:∀ (l:List Oper) (acc:List Nat) (i:Nat),i<acc.length→(qT l acc).getD i 0=acc.getD i 0
 | [],_,_,_=>rfl
 | o::l,acc,i,h=>by
  rw[vh,r6 l _ i (by simp;omega)];simp[List.getD,List.getElem?_append_left h]
theorem je:∀ (l:List Oper) (acc:List Nat) (k:Nat) (o:Oper),l[k]?=some o→∃ acc',(∀ i,i<acc.length+k→acc'.getD i 0=(qT l acc).getD i 0)∧(∀ i,acc.length+k≤i→acc'.getD i 0=0)∧(qT l acc).getD (acc.length+k) 0=mD acc' o
 | [],_,_,_,h=>by simp at h
 | o'::l,acc,0,o,h=>by
  have:o'=o:=by simpa using h
  subst this;refine⟨acc,fun i hi=>?_,fun i hi=>by simp[List.getD,List.getElem?_eq_none (by omega:acc.length≤i)],?_⟩
  ·rw[vh,r6 l _ i (by simp;omega)];simp[List.getD,List.getElem?_append_left (by omega:i<acc.length)]
  ·rw[vh,r6 l _ _ (by simp)];simp[List.getD]
 | o'::l,acc,k+1,o,h=>by
  obtain⟨acc',h1,h2,h3⟩:=je l (acc++[mD acc o']) k o (by simpa using h);have e:(acc++[mD acc o']).length+k=acc.length+(k+1):=by simp;omega
  rw[e] at h1 h2 h3;exact⟨acc',h1,h2,h3⟩
theorem jD {acc:List Nat} {o:Oper} {j:Nat} (h:(mD acc o).testBit j=true):∃ e∈o.after,Region.binds .any e=true∧(e.on=j∨(acc.getD e.on 0).testBit j=true):=by
 unfold mD at h;rw[← Array.foldl_toList] at h;have gen:∀ (l:List Edge) (s:Nat),(l.foldl (fun s e=>if Region.binds .any e then s ||| 2 ^ e.on ||| acc.getD e.on 0 else s) s).testBit j=true→s.testBit j=true∨∃ e∈l,Region.binds .any e=true∧(e.on=j∨(acc.getD e.on 0).testBit j=true):=by
  intro l
  induction l with
  | nil=>intro s h;exact .inl h
  | cons e l ih =>
   intro s h;rw[List.foldl_cons] at h
   rcases ih _ h with h1|⟨e',he',h2⟩
   ·by_cases hb:Region.binds .any e=true
    ·rw[if_pos hb] at h1;simp only[Nat.testBit_or,Nat.testBit_two_pow,Bool.or_eq_true,decide_eq_true_eq] at h1
     rcases h1 with (h1|h1)|h1
     ·exact .inl h1
     ·exact .inr ⟨e,by simp,hb,.inl h1⟩
     ·exact .inr ⟨e,by simp,hb,.inr h1⟩
    ·rw[if_neg hb] at h1;exact .inl h1
   ·exact .inr ⟨e',by simp[he'],h2⟩
 rcases gen _ 0 h with h1|⟨e,he,h2⟩
 ·simp at h1
 ·exact⟨e,by simpa using he,h2⟩
theorem zG {L:Nat→Bool} (hclosed:∀ j o,ops[j]?=some o→L j=true→∀ e∈o.after,Region.binds .any e=true→L e.on=true) :
  ∀ (i:Nat) (o:Oper),ops[i]?=some o→(∀ e∈o.after,Region.binds .any e=true→L e.on=true)→∀ j,anc ops i j=true→L j=true:=by
 intro i
 induction i using Nat.strongRecOn with
 | _ i ih =>
  intro o ho hall j hj;unfold anc at hj;obtain⟨acc',h1,h2,h3⟩:=je ops [] i o ho;have hm:jT ops=qT ops []:=rfl;rw[hm] at hj;simp only[List.length_nil,Nat.zero_add] at h1 h2 h3;rw[h3] at hj;obtain⟨e,he,hb,hor⟩:=jD hj;have hLe:=hall e he hb
  rcases hor with rfl|hbit
  ·exact hLe
  ·rcases Nat.lt_or_ge e.on i with hlt|hge
   ·rw[h1 e.on hlt] at hbit;have hex:∃ o',ops[e.on]?=some o':=by
     have hi:i<ops.length:=(List.getElem?_eq_some_iff.1 ho).1;exact⟨ops[e.on],List.getElem?_eq_getElem (by omega)⟩
    obtain⟨o',ho'⟩:=hex;exact ih e.on hlt o' ho' (hclosed e.on o' ho' hLe) j (by unfold anc;rw[hm];exact hbit)
   ·rw[h2 e.on hge] at hbit;simp at hbit
end
section
variable {P:Program} {ops:List Oper} {fl:List Nat} {w0:World} {K:Nat→Kind}
theorem vW {p q:Nat→Bool}:∀ (l:List Nat),l.Nodup→∀ i,i∈l→p i=true→q i=false→(∀ j,j≠i→q j=p j)→(l.filter q).length+1=(l.filter p).length
 | [],_,_,h,_,_,_=>by cases h
 | x::l,hnd,i,hi,hp,hq,heq=>by
  rw[List.nodup_cons] at hnd
  by_cases hx:x=i
  ·subst hx;have:l.filter q=l.filter p:=List.filter_congr (fun j hj=>heq j (fun e=>hnd.1 (e ▸ hj)));simp[List.filter_cons,hp,hq,this]
  ·have hi' : i∈l:=by
    rcases List.mem_cons.1 hi with h|h
    ·exact absurd h.symm hx
    ·exact h
   have ih:=vW l hnd.2 i hi' hp hq heq;simp only[List.filter_cons,heq x hx]
   split<;>simp_all
structure Inv (ops:List Oper) (w0:World) (K:Nat→Kind) (n:Nat) (a0:Act) (s:Nat→Value) (listed:Array Bool) (a:Act) (w:World):Prop where
 size:listed.size=ops.length
 closed:∀ j o,ops[j]?=some o→listed.getD j false=true→∀ e∈o.after,Region.binds .any e=true→listed.getD e.on false=true
 tail:∀ t,n≤t→listed.getD t false=false
 frame:a=zW (vg K s) (fun j=>listed.getD j false) (ops.take n) 0 a0
 ext:Below w0.heap.size w0 w
 known:∀ j,j<n→listed.getD j false=true→∀ V,K j=.rel V→V (s j) w
theorem eI {Fin:Act→(Nat→World→Prop)→Prop} (s:Nat→Value):∀ (l:List Oper) (i:Nat),(∀ (j:Nat) (o:Oper),l[j]?=some o→∀ (k:Nat) (o' : Oper),l[k]?=some o'→j≠k→∀ t,o.dst=some t→o'.dst≠some t) →
  ∀ a:Act,kp P ops fl w0 K Fin l i a (facts K s i) →
  (∀ j o,l[j]?=some o→obl P ops fl w0 K (i+j) o (zW (vg K s) (fun m=>decide (m<i+j)) l i a) (facts K s (i+j))) ∧
  Fin (zW (vg K s) (fun _=>true) l i a) (facts K s (i+l.length))
 | [],i,_,a,h=>⟨fun j o hj=>by simp at hj,h⟩
 | o::l,i,hd,a,h=>by
  unfold kp at h;obtain⟨hob,hrest⟩:=h;have hd' : ∀ (j:Nat) (o:Oper),l[j]?=some o→∀ (k:Nat) (o' : Oper),l[k]?=some o'→j≠k→∀ t,o.dst=some t→o'.dst≠some t:=fun j o hj k o' hk hne=>hd (j+1) o (by simpa using hj) (k+1) o' (by simpa using hk) (by omega);have hk:kp P ops fl w0 K Fin l (i+1) (a.put o.dst (vg K s i)) (facts K s (i+1)):=by
   unfold vg facts;cases hK:K i with
   | skip=>simpa [hK] using hrest
   | val v=>simpa [hK] using hrest
   | rel V=>simp only[hK] at hrest ⊢;exact hrest (s i)
  obtain⟨h1,h2⟩:=eI s l (i+1) hd' _ hk;refine⟨fun j o' hj=>?_,?_⟩
  ·cases j with
   | zero =>
    have:o=o':=by simpa using hj
    subst this;have he:zW (vg K s) (fun m=>decide (m<i+0)) (o::l) i a=a:=by
     have gen:∀ (l:List Oper) (k:Nat) (a:Act),i≤k→zW (vg K s) (fun m=>decide (m<i+0)) l k a=a:=by
      intro l
      induction l with
      | nil=>intro k a _;rfl
      | cons o l ih =>
       intro k a hk;unfold zW;rw[if_neg (by simp;omega)];exact ih (k+1) a (by omega)
     exact gen _ i a (Nat.le_refl _)
    rw[he];exact hob
   | succ j =>
    have e:i+(j+1)=i+1+j:=by omega
    rw[e];have:=h1 j o' (by simpa using hj);unfold zW;rw[if_pos (by simp;omega)];exact this
  ·unfold zW;rw[if_pos rfl];have e:i+(o::l).length=i+1+l.length:=by simp;omega
   rw[e];exact h2
theorem oG {n:Nat} {a0:Act} {Q:Exit→Act→World→Prop} {Fin:Act→(Nat→World→Prop)→Prop} (hB:ym ops fl n=true)
    (hQ:fl=[]∨∀ c a d v w,Q (.panic c) (Act.put a d v) w→Q (.panic c) a w)
    (h:kp P ops fl w0 K Fin (ops.take n) 0 a0 (fun _ _=>True))
    (hfin:∀ (s:Nat→Value) (a:Act) (w:World),Fin a (facts K s n)→Below w0.heap.size w0 w→(∀ j,facts K s n j w) →
      wpAny P .any ops.toArray Q (ops.length - n) ((List.replicate n true++List.replicate (ops.length - n) false).toArray) a w) :
    ∀ (f:Nat) (s:Nat→Value) (listed:Array Bool) (a:Act) (w:World),Inv ops w0 K n a0 s listed a w→((List.range n).filter fun j=>!listed.getD j false).length=f →
      wpAny P .any ops.toArray Q (f+(ops.length - n)) listed a w:=by
  unfold ym at hB;simp only[Bool.and_eq_true,decide_eq_true_eq] at hB;obtain⟨⟨⟨⟨⟨⟨⟨hsel,hn⟩,hback⟩,hdst⟩,hself⟩,htail⟩,hfloat⟩,hseq⟩:=hB;have hlen:(ops.take n).length=n:=by simp;omega
  have hget:∀ j,j<n→(ops.take n)[j]?=ops[j]?:=fun j hj=>by rw[List.getElem?_take];simp[hj]
  have hdist:∀ (j:Nat) (o:Oper),(ops.take n)[j]?=some o→∀ (k:Nat) (o' : Oper),(ops.take n)[k]?=some o'→j≠k→∀ t,o.dst=some t→o'.dst≠some t:=by
    intro j o hj k o' hk hne t ht;have hjn:j<n:=by have:=(List.getElem?_eq_some_iff.1 hj).1;omega
    have hkn:k<n:=by have:=(List.getElem?_eq_some_iff.1 hk).1;omega
    rw[hget j hjn] at hj;rw[hget k hkn] at hk;have:=List.all_eq_true.1 (List.all_eq_true.1 hdst j (List.mem_range.2 hjn)) k (List.mem_range.2 hkn);simp only[hj,hk,ht,Bool.or_eq_true,beq_iff_eq,Bool.and_eq_true,bne_iff_ne] at this
    rcases this with h|h
    · exact absurd h hne
    · exact h.1
  have hlooks:∀ (j:Nat) (o:Oper),ops[j]?=some o→j<n→∀ (k:Nat) (o' : Oper),ops[k]?=some o'→k<n→∀ t,o'.dst=some t→t∈o.looksAt ops.toArray→anc ops j k=true:=by
    intro j o hj hjn k o' hk hkn t ht hmem
    by_cases hjk:j=k
    · subst hjk;have:o=o':=Option.some.inj (hj.symm.trans hk);subst this;have:=List.all_eq_true.1 hself j (List.mem_range.2 hjn);simp only[hj,ht,Bool.not_eq_true'] at this;have hc:(o.looksAt ops.toArray).contains t=true:=by simpa using hmem
      rw[hc] at this;cases this
    · have:=List.all_eq_true.1 (List.all_eq_true.1 hdst j (List.mem_range.2 hjn)) k (List.mem_range.2 hkn);simp only[hj,hk,ht,Bool.or_eq_true,beq_iff_eq,Bool.and_eq_true] at this
      rcases this with h|h
      · exact absurd h hjk
      · rcases h.2 with h3|h3
        · have hc:(o.looksAt ops.toArray).contains t=true:=by simpa using hmem
          rw[hc] at h3;cases h3
        · exact h3
  intro f
  induction f with
  | zero =>
    intro s listed a w inv hf;have hall:∀ j,j<n→listed.getD j false=true:=by
      intro j hj;cases hl:listed.getD j false with
      | true=>rfl
      | false =>
        have:j∈(List.range n).filter fun j=>!listed.getD j false:=List.mem_filter.2 ⟨List.mem_range.2 hj,by rw[hl];rfl⟩;rw[List.length_eq_zero_iff.1 hf] at this;cases this
    have hlist:listed=((List.replicate n true++List.replicate (ops.length - n) false).toArray):=by
      apply Array.ext
      · simp[inv.size];omega
      · intro i h1 h2;have h3:listed.getD i false=listed[i]:=by simp[h1]
        rw[← h3]
        rcases Nat.lt_or_ge i n with hi|hi
        · rw[hall i hi];simp[List.getElem_append,hi]
        · rw[inv.tail i hi];simp[List.getElem_append,Nat.not_lt.2 hi]
    obtain⟨_,hF⟩:=eI s (ops.take n) 0 hdist a0 h;rw[Nat.zero_add,hlist];refine hfin s a w ?_ inv.ext (fun j=>vF n (fun V hj hV=>inv.known j hj (hall j hj) V hV));rw[inv.frame];rw[hlen,Nat.zero_add] at hF;rw[zU (u:=vg K s) (u':=vg K s) (L':=fun _=>true) (ops.take n) 0 a0 (fun j _ hj=>⟨hall j (by omega),fun _=>rfl⟩)];exact hF
  | succ f ih =>
    intro s listed a w inv hf;obtain⟨hobl,_⟩:=eI s (ops.take n) 0 hdist a0 h;have hex:∃ m,m<n∧listed.getD m false=false:=by
      cases hl:(List.range n).filter fun j=>!listed.getD j false with
      | nil=>rw[hl] at hf;cases hf
      | cons m l =>
        have hm:m∈(List.range n).filter fun j=>!listed.getD j false:=by rw[hl];simp
        rw[List.mem_filter] at hm;exact⟨m,List.mem_range.1 hm.1,by simpa using hm.2⟩
    obtain⟨m,⟨hmn,hml⟩,hleast⟩:=exists_least hex;have hmr:m∈Region.ready .any ops.toArray listed:=by
      rw[mem_ready];have hmo:ops[m]?=some (ops[m]'(by omega)):=List.getElem?_eq_getElem (by omega);refine⟨getD_in (by rw[inv.size];omega) hml,ops[m]'(by omega),by simp,fun e he hb=>?_⟩;have hlt:=zF hback hmo e he hb;cases hle:listed.getD e.on false with
      | true=>rfl
      | false=>have:=hleast e.on ⟨by omega,hle⟩;omega
    have hne:Region.ready .any ops.toArray listed≠[]:=fun h0=>by rw[h0] at hmr;cases hmr
    rw[show f+1+(ops.length - n)=(f+(ops.length - n))+1 by omega]
    have main:∀ i,i∈Region.ready .any ops.toArray listed→i<n →
        (∃ v o,ops.toArray[i]?=some o∧Yields P ops.toArray o v a∧fl.contains i=true∧wpAny P .any ops.toArray Q (f+(ops.length - n)) (listed.setIfInBounds i true) (a.put o.dst v) w) ∨
        (fl.contains i=false∧wpOp P ops.toArray Q i (wpAny P .any ops.toArray Q (f+(ops.length - n)) (listed.setIfInBounds i true)) a w):=by
     intro i hi hin;obtain⟨hiun,o,ho,hwait⟩:=mem_ready.1 hi;have ho' : ops[i]?=some o:=by simpa using ho
     have hil:i<ops.length:=(List.getElem?_eq_some_iff.1 ho').1;have hancl:=zG (L:=fun j=>listed.getD j false) inv.closed i o ho' hwait;have hiu:listed.getD i false=false:=getD_both hiun;have hanclt:∀ j,anc ops i j=true→j<i:=fun j hj=>by
       have:=zG (ops:=ops) (L:=fun j=>decide (j<i)) (fun j o' hj' hL e he hb=>by
         have:=zF hback hj' e he hb;simp only[decide_eq_true_eq] at hL ⊢;omega) i o ho' (fun e he hb=>by simpa using zF hback ho' e he hb) j hj
       simpa using this
     have hob:=hobl i o (by rw[hget i hin];exact ho');rw[Nat.zero_add] at hob;have hag:Agree (o.looksAt ops.toArray) (zW (vg K s) (fun m=>decide (m<i)) (ops.take n) 0 a0) a:=by
       rw[inv.frame];refine uw _ 0 a0 a0 (fun _ _=>rfl) (fun j oj hj hdiff t ht hmem=>?_);have hjn:j<n:=by have:=(List.getElem?_eq_some_iff.1 hj).1;omega
       rw[hget j hjn] at hj;have ha:=hlooks i o ho' hin j oj hj hjn t ht hmem;have h1:=hancl j ha;have h2:=hanclt j ha;simp only[Nat.zero_add] at hdiff;simp only[h1,h2,decide_true,ne_eq,not_true_eq_false] at hdiff
     have hsel' : ∀ cs b,o.op≠.select cs b:=fun cs b=>Region.noSelect_spec hsel i o cs b ho;have hex:=ss (ops:=ops) hsel' hag;have hwa:=uS (ops:=ops) hag;have hfacts:∀ j,anc ops i j=true→facts K s i j w:=fun j hj=>vF i (fun V hji hV=>inv.known j (by omega) (hancl j hj) V hV)
     have next:∀ (s' : Nat→Value) (w' : World),(∀ j,j≠i→s' j=s j)→Below w.heap.size w w'→(∀ V,K i=.rel V→V (s' i) w') →
         wpAny P .any ops.toArray Q (f+(ops.length - n)) (listed.setIfInBounds i true) (a.put o.dst (vg K s' i)) w':=by
       intro s' w' hs' hb hV;refine ih s' _ _ w' ⟨by simp[inv.size],fun j oj hj hl e he hb=>?_,fun t ht=>?_,?_,inv.ext.trans (hb.mono inv.ext.size),fun j hj hl V hKV=>?_⟩ ?_
       · by_cases hij:i=j
         · subst hij;have:oj=o:=Option.some.inj (hj.symm.trans ho');subst this;exact getD_set_true (hwait e he hb)
         · rw[getD_set_ne false hij] at hl;exact getD_set_true (inv.closed j oj hj hl e he hb)
       · rw[getD_set_ne false (by omega)];exact inv.tail t ht
       · have h1:=tE (u:=vg K s') (L:=fun j=>listed.getD j false) (ops.take n) 0 a0 i o (by rw[hget i hin];exact ho') (by rw[Nat.zero_add];exact hiu)
           (fun j o' hj hne=>hdist i o (by rw[hget i hin];exact ho') j o' hj (Ne.symm hne))
         rw[Nat.zero_add] at h1
         rw[zU (u:=vg K s') (u':=vg K s') (L':=fun j=>if j=i then true else listed.getD j false) (ops.take n) 0 a0 (fun j _ _=>⟨by
           by_cases hij:j=i
           · subst hij;simp[inv.size,hil]
           · rw[getD_set_ne false (Ne.symm hij),if_neg hij],fun _=>rfl⟩),h1]
         rw[inv.frame,zU (u:=vg K s) (u':=vg K s') (L':=fun j=>listed.getD j false) (ops.take n) 0 a0 (fun j _ _=>⟨rfl,fun hL=>by
           have hji:j≠i:=fun e=>by subst e;simp only[hiu] at hL;cases hL
           unfold vg;cases K j<;>simp only[hs' j hji]⟩)]
       · by_cases hij:j=i
         · subst hij;exact hV V hKV
         · rw[getD_set_ne false (Ne.symm hij)] at hl;rw[hs' j hij];have hoj:ops[j]?=some (ops[j]'(by omega)):=List.getElem?_eq_getElem (by omega);have hoblj:=hobl j _ (by rw[hget j hj];exact hoj);rw[Nat.zero_add] at hoblj;simp only[obl,hKV] at hoblj;exact hoblj.2.2.1 _ _ _ (inv.known j hj hl V hKV) hb
       · have:=vW (List.range n) List.nodup_range i (List.mem_range.2 hin) (p:=fun j=>!listed.getD j false) (q:=fun j=>!(listed.setIfInBounds i true).getD j false) (by simp only[hiu];rfl) (by simp[inv.size,hil])
           (fun j hj=>by simp only[getD_set_ne false (Ne.symm hj)])
         omega
     unfold obl at hob;cases hK:K i with
     | skip =>
       simp only[hK] at hob;have hnx:=next s w (fun _ _=>rfl) (Below.refl _ _) (fun V hV=>by rw[hK] at hV;cases hV)
       have hnx' : wpAny P .any ops.toArray Q (f+(ops.length - n)) (listed.setIfInBounds i true) (a.put o.dst undef) w:=by simpa [vg,hK] using hnx
       by_cases hfl:fl.contains i=true
       · exact .inl ⟨undef,o,ho,.inr ⟨by rw[← hwa];exact hob,rfl⟩,hfl,hnx'⟩
       · refine .inr ⟨by simpa using hfl,?_⟩;unfold wpOp;simp only[ho];rw[← hwa,hob];simp only[Bool.false_eq_true,if_false];exact hnx'
     | val v =>
       simp only[hK] at hob;have hnx:∀ w',Below w.heap.size w w'→wpAny P .any ops.toArray Q (f+(ops.length - n)) (listed.setIfInBounds i true) (a.put o.dst v) w':=fun w' hb=>by
         have:=next s w' (fun _ _=>rfl) hb (fun V hV=>by rw[hK] at hV;cases hV)
         simpa [vg,hK] using this
       rcases hob.2 with hfree|⟨hfl,hr⟩
       · by_cases hfl:fl.contains i=true
         · exact .inl ⟨v,o,ho,.inl ⟨by rw[← hwa];exact hob.1,fun w=>by rw[← hex];exact hfree w⟩,hfl,hnx w (Below.refl _ _)⟩
         · refine .inr ⟨by simpa using hfl,?_⟩;unfold wpOp;simp only[ho];rw[← hwa,hob.1];simp only[if_true];refine .inl (yX (R:=fun u w'=>u=v∧w'=w) (y5 hex.symm (by unfold kyp;rw[hfree w];exact⟨rfl,rfl⟩)) (fun u w' hu=>?_));rw[hu.1,hu.2];exact hnx w (Below.refl _ _)
       · refine .inr ⟨hfl,?_⟩;unfold wpOp;simp only[ho];rw[← hwa,hob.1];simp only[if_true];refine .inl (yX (y5 hex.symm (hr w inv.ext hfacts)) (fun u w' hu=>?_));rw[hu.1];exact hnx w' hu.2
     | rel V =>
       simp only[hK] at hob;refine .inr ⟨hob.1,?_⟩;unfold wpOp;simp only[ho];rw[← hwa,hob.2.1];simp only[if_true];refine .inl (yX (y5 hex.symm (hob.2.2.2 w inv.ext hfacts)) (fun u w' hu=>?_));have:=next (fun j=>if j=i then u else s j) w' (fun j hj=>by simp[hj]) hu.2 (fun V' hV'=>by
         rw[hK] at hV';injection hV' with hV'
         subst hV';simpa using hu.1)
       simpa [vg,hK] using this
    by_cases hfr:∃ i,i∈Region.ready .any ops.toArray listed∧i<n∧fl.contains i=true
    · obtain⟨i,hi,hin,hfl⟩:=hfr
      rcases main i hi hin with ⟨v,o,ho,hy,_,hnx⟩|⟨hno,_⟩
      · have hfl' : i∈fl:=by simpa using hfl
        refine wpAny_first ho (Region.noSelect_spec hsel) (fun c a w=>?_) _ listed a w (fun j oj hoj hji hjun hnot=>?_) hi hy hnx
        · rcases hQ with h0|h0
          · rw[h0] at hfl';cases hfl'
          · exact h0 c a o.dst v w
        · have h1:=List.all_eq_true.1 hfloat i hfl';simp only[Bool.and_eq_true] at h1;have hoj' : ops[j]?=some oj:=by simpa using hoj
          have ho' : ops[i]?=some o:=by simpa using ho
          have h2:=List.all_eq_true.1 h1.2 j (List.mem_range.2 (List.getElem?_eq_some_iff.1 hoj').1);simp only[ho',hoj',Bool.or_eq_true,beq_iff_eq] at h2
          rcases h2 with (h2|h2)|h2|h2
          · exact absurd h2.symm hji
          · obtain⟨_,o1,ho1,hwait⟩:=mem_ready.1 hi;have h3:=zG (L:=fun j=>listed.getD j false) inv.closed i o1 (by simpa using ho1) hwait j h2;simp only[getD_both hjun] at h3;cases h3
          · obtain⟨e,he,h3⟩:=Array.any_eq_true'.1 h2;simp only[Bool.and_eq_true,beq_iff_eq] at h3;exact absurd h3.2 (hnot e he h3.1)
          · exact h2
      · rw[hno] at hfl;cases hfl
    · refine⟨fun h0=>absurd h0 hne,fun i hi=>?_⟩;have hin:i<n:=by
        rcases Nat.lt_or_ge i n with h1|h1
        · exact h1
        · exfalso;obtain⟨hiun,o,ho,hwait⟩:=mem_ready.1 hi;have ho' : ops[i]?=some o:=by simpa using ho
          have hil:i<ops.length:=(List.getElem?_eq_some_iff.1 ho').1;have hancl:=zG (L:=fun j=>listed.getD j false) inv.closed i o ho' hwait;have h2:=List.all_eq_true.1 htail i (List.mem_range.2 hil);simp only[Bool.or_eq_true,decide_eq_true_eq] at h2
          rcases h2 with h2|h2
          · omega
          · have h3:=List.all_eq_true.1 h2 m (List.mem_range.2 (by omega));simp only[Bool.or_eq_true,Bool.and_eq_true] at h3
            rcases h3 with h3|⟨h3,_⟩
            · have h4:=hancl m h3;simp only[hml] at h4;cases h4
            · exact hfr ⟨m,hmr,hmn,h3⟩
      rcases main i hi hin with ⟨v,o,ho,hy,hfl,hnx⟩|⟨_,h1⟩
      · exact absurd ⟨i,hi,hin,hfl⟩ hfr
      · exact h1
end
theorem rp {P:Program} {id:Nat} {Q:Exit→Act→World→Prop} {a:Act} {w:World} {l:List Oper} (fl:List Nat) (n:Nat) (K:Nat→Kind) (hm:P.follows .mixedOrders=true) (hB:ym l fl n=true)
  (hQ:fl=[]∨∀ c a d v w,Q (.panic c) (Act.put a d v) w→Q (.panic c) a w)
  (h:kp P l fl w K (fun a' F=>∀ w',Below w.heap.size w w'→(∀ j,F j w')→wpList P l.toArray Q (l.drop n) a' w') (l.take n) 0 a (fun _ _=>True)):(Code.region id l.toArray true).wp P Q a w:=by
 refine wp_region_any hm ?_;have hB':=hB;unfold ym at hB';simp only[Bool.and_eq_true,decide_eq_true_eq] at hB';obtain⟨⟨⟨⟨⟨⟨⟨hsel,hn⟩,_⟩,_⟩,_⟩,_⟩,_⟩,hseq⟩:=hB';have:=oG (Q:=Q) (a0:=a) hB hQ h (fun s a' w' hF hb hf=>by
  have hdl:(l.drop n).length=l.length - n:=by simp
  have:=wpAny_of_seq (md:=.any) (Q':=Q) (l.drop n) n ((List.replicate n true++List.replicate (l.length - n) false).toArray) a' w' (fun j=>by simp[List.getElem?_drop]) (by rw[hdl];exact hseq) (hF w' hb hf);rwa [hdl] at this) n (fun _=>undef) (Array.replicate l.toArray.size false) a { w with drawn:=w.drawn+1 } ?_ ?_
 ·rw[show n+(l.length - n)=l.toArray.size by simp;omega] at this;exact this
 ·refine⟨by simp,fun j o _ hl=>(by rw[getD_replicate_false] at hl;cases hl),fun t _=>getD_replicate_false _ _,?_,⟨rfl,rfl,rfl,Nat.le_refl _,fun _ _=>rfl⟩,fun j _ hl=>(by rw[getD_replicate_false] at hl;cases hl)⟩;have gen:∀ (l' : List Oper) (i:Nat) (a:Act),zW (vg K fun _=>undef) (fun j=>(Array.replicate l.toArray.size false).getD j false) l' i a=a:=by
   intro l'
   induction l' with
   | nil=>intro i a;rfl
   | cons o l' ih =>
    intro i a;unfold zW;rw[getD_replicate_false];exact ih (i+1) a
  exact (gen _ 0 a).symm
 ·have:((List.range n).filter fun j=>!(Array.replicate l.toArray.size false).getD j false)=List.range n:=by
   apply List.filter_eq_self.2;intro j _;rw[getD_replicate_false];rfl
  rw[this];simp
section
variable (P:Program) (ops:List Oper) (fl:List Nat) (w0:World)
def kpl (Fin:Act→(Nat→World→Prop)→Prop):List Kind→List Oper→Nat→Act→(Nat→World→Prop)→Prop
 | k::ks,o::l,i,a,F=>obl P ops fl w0 (fun _=>k) i o a F ∧
  match k with
  | .skip=>kpl Fin ks l (i+1) (a.put o.dst undef) F
  | .val v=>kpl Fin ks l (i+1) (a.put o.dst v) F
  | .rel V=>∀ u,kpl Fin ks l (i+1) (a.put o.dst u) (fun j=>if j=i then V u else F j)
 | [],[],_,a,F=>Fin a F
 | _,_,_,_,_=>False
end
theorem uT {P:Program} {ops:List Oper} {fl:List Nat} {w0:World} {K:Nat→Kind} {Fin:Act→(Nat→World→Prop)→Prop}:∀ (ks:List Kind) (l:List Oper) (i:Nat) (a:Act) (F:Nat→World→Prop),
  (∀ j k,ks[j]?=some k→K (i+j)=k)→kpl P ops fl w0 Fin ks l i a F→kp P ops fl w0 K Fin l i a F
 | [],[],_,_,_,_,h=>h
 | [],_::_,_,_,_,_,h=>h.elim
 | _::_,[],_,_,_,_,h=>h.elim
 | k::ks,o::l,i,a,F,hK,h=>by
  unfold kpl at h;obtain⟨h1,h2⟩:=h;have h0:K i=k:=hK 0 k rfl;have hr:∀ j k',ks[j]?=some k'→K (i+1+j)=k':=fun j k' hj=>by
   have:=hK (j+1) k' (by simpa using hj);rwa [show i+(j+1)=i+1+j by omega] at this
  unfold kp;refine⟨by unfold obl at h1 ⊢;rw[h0];exact h1,?_⟩;rw[h0];cases k with
  | skip=>exact uT ks l (i+1) _ _ hr h2
  | val v=>exact uT ks l (i+1) _ _ hr h2
  | rel V=>exact fun u=>uT ks l (i+1) _ _ hr (h2 u)
theorem wp_region_kpl {P:Program} {id:Nat} {Q:Exit→Act→World→Prop} {a:Act} {w:World} {l:List Oper} (n:Nat) (hm:P.follows .mixedOrders=true) (hB:ym l [] n=true)
  (h:∀ (L:List Oper) (Fin:Act→(Nat→World→Prop)→Prop),L=l→(∀ a' F,(∀ w',Below w.heap.size w w'→(∀ j,F j w')→wpList P l.toArray Q (l.drop n) a' w')→Fin a' F) →
   ∃ ks,kpl P L [] w Fin ks (l.take n) 0 a (fun _ _=>True)):(Code.region id l.toArray true).wp P Q a w :=
 let ⟨ks,h⟩:=h l _ rfl (fun _ _ h=>h)
 rp [] n (fun i=>ks.getD i .skip) hm hB (.inl rfl) (uT ks _ _ _ _ (fun j k hj=>by simp[List.getD,hj]) h)
theorem wp_region_kpf {P:Program} {id:Nat} {Q:Exit→Act→World→Prop} {a:Act} {w:World} {l:List Oper} (fl:List Nat) (n:Nat) (hm:P.follows .mixedOrders=true) (hB:ym l fl n=true)
  (h:∀ (L:List Oper) (Fin:Act→(Nat→World→Prop)→Prop),L=l→(∀ a' F,(∀ w',Below w.heap.size w w'→(∀ j,F j w')→wpList P l.toArray (NoPanic Q) (l.drop n) a' w')→Fin a' F) →
   ∃ ks,kpl P L fl w Fin ks (l.take n) 0 a (fun _ _=>True)):(Code.region id l.toArray true).wp P Q a w :=
 let ⟨ks,h⟩:=h l _ rfl (fun _ _ h=>h)
 wp_region_noPanic (rp fl n (fun i=>ks.getD i .skip) hm hB (.inr (fun _ _ _ _ _ h=>h.elim)) (uT ks _ _ _ _ (fun j k hj=>by simp[List.getD,hj]) h))
section
variable {P:Program} {ops:List Oper} {fl:List Nat} {w0:World} {ks:List Kind} {Fin:Act→(Nat→World→Prop)→Prop} {o:Oper} {l:List Oper} {i:Nat} {a:Act} {F:Nat→World→Prop}
theorem kp_nil (h:Fin a F):kpl P ops fl w0 Fin [] [] i a F:=h
theorem kp_free {v:Value} (hw:Region.wanted o (yielded ops.toArray a.tmps)=true) (hr:∀ w,(execOp a.eval o).run P w=.ok (.value v) w)
  (h:kpl P ops fl w0 Fin ks l (i+1) (a.put o.dst v) F):kpl P ops fl w0 Fin (.val v::ks) (o::l) i a F:=⟨⟨hw,.inl hr⟩,h⟩
theorem kp_val {v:Value} (hf:fl.contains i=false) (hw:Region.wanted o (yielded ops.toArray a.tmps)=true)
  (hr:∀ w,Below w0.heap.size w0 w→(∀ j,anc ops i j=true→F j w)→kyp P o a w (fun u w'=>u=v∧Below w.heap.size w w'))
  (h:kpl P ops fl w0 Fin ks l (i+1) (a.put o.dst v) F):kpl P ops fl w0 Fin (.val v::ks) (o::l) i a F:=⟨⟨hw,.inr ⟨hf,hr⟩⟩,h⟩
theorem kp_now {v:Value} (hf:fl.contains i=false) (hw:Region.wanted o (yielded ops.toArray a.tmps)=true)
  (hr:∀ w,Below w0.heap.size w0 w→(execOp a.eval o).run P w=.ok (.value v) w)
  (h:kpl P ops fl w0 Fin ks l (i+1) (a.put o.dst v) F):kpl P ops fl w0 Fin (.val v::ks) (o::l) i a F :=
 kp_val hf hw (fun w hb _=>by unfold kyp;rw[hr w hb];exact⟨rfl,Below.refl _ _⟩) h
theorem kyp_call {f:FuncId} {args:Array Value} {w:World} {R:Value→World→Prop} (he:(execOp a.eval o).run P w=.ok (.enter f args) w)
  (hc:Calls P f args w (fun e w''=>∃ v,e=.returned v∧R v w'')):kyp P o a w R:=by
 unfold kyp;rw[he];exact hc
end
end Kp
end
section
def wd (i n:Nat):Nat :=
 match i with
 | 0=>n%18446744073709551616
 | 1=>n / 18446744073709551616%18446744073709551616
 | 2=>n / 340282366920938463463374607431768211456%18446744073709551616
 | _=>n / 6277101735386680763835789423207666416102355444464034512896%18446744073709551616
def tm (a b c d:Nat):Nat :=
 a+18446744073709551616*b+340282366920938463463374607431768211456*c+6277101735386680763835789423207666416102355444464034512896*d
def zc:Nat:=115792089237316195423570985008687907853269984665640564039457584007913129639936
theorem ye (i n:Nat):wd i n<18446744073709551616:=by
 unfold wd;split<;>exact Nat.mod_lt _ (by omega)
theorem ab4 (i n:Nat):wd i n≤18446744073709551615:=by have:=ye i n;omega
theorem iT {a b c d:Nat} (ha:a<18446744073709551616) (hb:b<18446744073709551616) (hc:c<18446744073709551616) (hd:d<18446744073709551616) :
  wd 0 (tm a b c d)=a∧wd 1 (tm a b c d)=b∧wd 2 (tm a b c d)=c∧wd 3 (tm a b c d)=d:=by
 simp only[wd,tm];omega
theorem vS {n:Nat} (h:n<zc):tm (wd 0 n) (wd 1 n) (wd 2 n) (wd 3 n)=n:=by
 simp only[wd,tm,zc] at *;omega
theorem lq {a b c d:Nat} (ha:a<18446744073709551616) (hb:b<18446744073709551616) (hc:c<18446744073709551616) (hd:d<18446744073709551616) :
  tm a b c d<zc:=by simp only[tm,zc];omega
theorem ace {m n:Nat} (hm:m<zc) (hn:n<zc) (h0:wd 0 m=wd 0 n) (h1:wd 1 m=wd 1 n) (h2:wd 2 m=wd 2 n) (h3:wd 3 m=wd 3 n):m=n:=by
 rw[← vS hm,← vS hn,h0,h1,h2,h3]
abbrev zb (n:Nat):List Value:=[.int .u64 ((wd 0 n:Nat):Int),.int .u64 ((wd 1 n:Nat):Int),.int .u64 ((wd 2 n:Nat):Int),.int .u64 ((wd 3 n:Nat):Int)]
abbrev ze (n:Nat):Value:=.agg #[.int .u64 ((wd 0 n:Nat):Int),.int .u64 ((wd 1 n:Nat):Int),.int .u64 ((wd 2 n:Nat):Int),.int .u64 ((wd 3 n:Nat):Int)]
theorem sP {a b c d:Nat} (ha:a<18446744073709551616) (hb:b<18446744073709551616) (hc:c<18446744073709551616) (hd:d<18446744073709551616) :
  Value.agg #[.int .u64 (a:Int),.int .u64 (b:Int),.int .u64 (c:Int),.int .u64 (d:Int)]=ze (tm a b c d):=by
 obtain⟨e0,e1,e2,e3⟩:=iT ha hb hc hd;simp only[ze,e0,e1,e2,e3]
theorem eM (a b:Nat) (ha:a<zc) (hb:b<zc) (s0 s1 s2 s3 c0 c1 c2 c3:Nat)
  (e0:s0=(wd 0 a+wd 0 b)%18446744073709551616) (f0:c0=(wd 0 a+wd 0 b) / 18446744073709551616)
  (e1:s1=(wd 1 a+wd 1 b+c0)%18446744073709551616) (f1:c1=(wd 1 a+wd 1 b+c0) / 18446744073709551616)
  (e2:s2=(wd 2 a+wd 2 b+c1)%18446744073709551616) (f2:c2=(wd 2 a+wd 2 b+c1) / 18446744073709551616)
  (e3:s3=(wd 3 a+wd 3 b+c2)%18446744073709551616) (f3:c3=(wd 3 a+wd 3 b+c2) / 18446744073709551616) :
  tm s0 s1 s2 s3=(a+b)%zc∧c3=(a+b) / zc:=by
 have h1:=vS ha;have h2:=vS hb;have:=ye 0 a;have:=ye 1 a;have:=ye 2 a;have:=ye 3 a;have:=ye 0 b;have:=ye 1 b;have:=ye 2 b;have:=ye 3 b;generalize wd 0 a=a0 at *;generalize wd 1 a=a1 at *;generalize wd 2 a=a2 at *;generalize wd 3 a=a3 at *;generalize wd 0 b=b0 at *;generalize wd 1 b=b1 at *;generalize wd 2 b=b2 at *;generalize wd 3 b=b3 at *;simp only[tm,zc] at *;omega
end
end Go.Proofs.YtbhblpnjhkddbaaGreat
namespace Go.Proofs.YtbhblpnjhkddbaaGreat
open Go.RowKit
def Blk (w:World) (g:Nat) (t:TypeId) (cs:List Value):Prop:=w.heap[g]?=some (.cells cs.toArray t (0,0))
section
variable {w w' : World} {g:Nat} {t:TypeId} {cs:List Value}
theorem Blk.lt (h:Blk w g t cs):g<w.heap.size:=by
 rcases Nat.lt_or_ge g w.heap.size with hlt|hge
 ·exact hlt
 ·unfold Blk at h;rw[Array.getElem?_eq_none hge] at h;cases h
theorem Blk.cell (h:Blk w g t cs) (i:Nat):w.cell? ⟨g,i,none⟩=cs[i]?:=by
 rw[cell_of_row w g i cs.toArray t (0,0) h];simp
theorem Blk.cell_at (h:Blk w g t cs) {i:Nat} {v:Value} (hv:cs[i]?=some v):w.cell? ⟨g,i,none⟩=some v:=(h.cell i).trans hv
theorem Blk.frozen (h:Blk w g t cs) (i:Nat):w.frozen? ⟨g,i,none⟩=false:=by
 unfold Blk at h;simp[World.frozen?,h]
theorem Blk.new (w:World) (t:TypeId) (cs:List Value):Blk (w.alloc (.cells cs.toArray t)) w.heap.size t cs:=heap_alloc_new w _
theorem Blk.new' {t:TypeId} {cs:List Value} (h:w.heap.size=g):Blk (w.alloc (.cells cs.toArray t)) g t cs:=h ▸ Blk.new w t cs
theorem Blk.drew (h:Blk w g t cs):Blk w.drew g t cs:=h
theorem Blk.drewN (h:Blk w g t cs) (n:Nat):Blk (w.drewN n) g t cs:=h
theorem Blk.alloc (h:Blk w g t cs) (o:Obj):Blk (w.alloc o) g t cs:=(Below.heap_alloc w o g h.lt).trans h
theorem Blk.set_ (h:Blk w g t cs) (i:Nat) (u:Value):Blk (w.setCell ⟨g,i,none⟩ u) g t (cs.set i u):=by
 unfold Blk at h ⊢;simp[World.setCell,Array.getElem?_modify,h]
theorem Blk.put4 {a b c d:Value} (h:Blk w g t [a,b,c,d]) (u0 u1 u2 u3:Value) :
  Blk ((((w.setCell ⟨g,0,none⟩ u0).setCell ⟨g,1,none⟩ u1).setCell ⟨g,2,none⟩ u2).setCell ⟨g,3,none⟩ u3) g t [u0,u1,u2,u3]:=(((h.set_ 0 u0).set_ 1 u1).set_ 2 u2).set_ 3 u3
theorem Blk.far (h:Blk w g t cs) {p:Addr} (hp:g≠p.block) (u:Value):Blk (w.setCell p u) g t cs:=(Below.heap_setCell w p u g hp).trans h
theorem Blk.below {B:Nat} (h:Blk w g t cs) (hb:Below B w w') (hg:g<B):Blk w' g t cs:=(hb.block g hg).trans h
theorem Blk.grown {row:Option Nat} (h:Blk w g t cs) (hb:w.grownBy w' row) (hg:some g≠row):Blk w' g t cs:=(hb.block g h.lt hg).trans h
end
theorem uG {B:Nat} {W w1:World} (hb:Below B W w1):(∀ b o,b<B→w1.cell? ⟨b,o,none⟩=W.cell? ⟨b,o,none⟩)∧(∀ b o,b<B→w1.frozen? ⟨b,o,none⟩=W.frozen? ⟨b,o,none⟩) :=
 ⟨fun b o h=>hb.cell (p:=⟨b,o,none⟩) h,fun b o h=>hb.frozen (p:=⟨b,o,none⟩) h⟩
abbrev Ext (w w' : World):Prop:=Below w.heap.size w w'
theorem Ext.rfl' (w:World):Ext w w:=Below.refl _ _
theorem Ext.trans' {a b c:World} (h:Ext a b) (k:Ext b c):Ext a c:=h.trans (k.mono h.size)
theorem Ext.alloc' {a b:World} (h:Ext a b) (o:Obj):Ext a (b.alloc o):=h.alloc h.size o
theorem Below.drewN' {B:Nat} {a w:World} (h:Below B a w) (n:Nat):Below B a (w.drewN n):=⟨h.os,h.tape,h.output,h.size,h.block⟩
end Go.Proofs.YtbhblpnjhkddbaaGreat
namespace Go.Proofs
open Go.Shelf
def Tryz.lays125_ren:Go.Shelf.Ren:=⟨fun|125=>83|128=>133|129=>105|n=>n,fun|46=>142|3=>3|51=>174|53=>22|4=>4|5=>5|9=>9|n=>n,fun|n=>n⟩
theorem Tryz.lays125:Go.Proofs.Lays.n125 Tryz.prog Tryz.lays125_ren:={
 mixed:=by kernel_rfl
 f125:=Tryz.func83.trans (congrArg some (by kernel_rfl))
 f128:=Tryz.func133.trans (congrArg some (by kernel_rfl))
 f129:=Tryz.func105.trans (congrArg some (by kernel_rfl))
 t3:=Tryz.underlying3
 a3:=Tryz.isAgg3
 z3:=Tryz.sizeOf3
 v3:=Tryz.zeroValue3
 t4:=Tryz.underlying4
 a4:=Tryz.isAgg4
 z4:=Tryz.sizeOf4
 v4:=Tryz.zeroValue4
 t5:=Tryz.underlying5
 a5:=Tryz.isAgg5
 z5:=Tryz.sizeOf5
 v5:=Tryz.zeroValue5
 t9:=Tryz.underlying9
 a9:=Tryz.isAgg9
 z9:=Tryz.sizeOf9
 v9:=Tryz.zeroValue9
 t46:=Tryz.underlying142
 a46:=Tryz.isAgg142
 z46:=Tryz.sizeOf142
 v46:=Tryz.zeroValue142
 t51:=Tryz.underlying174
 a51:=Tryz.isAgg174
 z51:=Tryz.sizeOf174
 v51:=Tryz.zeroValue174
 t53:=Tryz.underlying22
 a53:=Tryz.isAgg22
 z53:=Tryz.sizeOf22
 v53:=Tryz.zeroValue22 }
theorem Tryz.bits_Len (x:Int) (w:World) (h0:0≤x) (h1:x≤18446744073709551615) :
  Calls Tryz.prog 83 #[.int .u64 x] w fun e w'=>e=.returned (.int .i64 (Lib.bitLen x.toNat))∧w'=w:=Any.bits_Len Tryz.lays125 x w h0 h1
def Tryz.lays134_ren:Go.Shelf.Ren:=⟨fun|134=>170|129=>105|n=>n,fun|53=>22|3=>3|4=>4|46=>142|5=>5|9=>9|n=>n,fun|n=>n⟩
theorem Tryz.lays134:Go.Proofs.Lays.n134 Tryz.prog Tryz.lays134_ren:={
 mixed:=by kernel_rfl
 f129:=Tryz.func105.trans (congrArg some (by kernel_rfl))
 f134:=Tryz.func170.trans (congrArg some (by kernel_rfl))
 t3:=Tryz.underlying3
 a3:=Tryz.isAgg3
 z3:=Tryz.sizeOf3
 v3:=Tryz.zeroValue3
 t4:=Tryz.underlying4
 a4:=Tryz.isAgg4
 z4:=Tryz.sizeOf4
 v4:=Tryz.zeroValue4
 t5:=Tryz.underlying5
 a5:=Tryz.isAgg5
 z5:=Tryz.sizeOf5
 v5:=Tryz.zeroValue5
 t9:=Tryz.underlying9
 a9:=Tryz.isAgg9
 z9:=Tryz.sizeOf9
 v9:=Tryz.zeroValue9
 t46:=Tryz.underlying142
 a46:=Tryz.isAgg142
 z46:=Tryz.sizeOf142
 v46:=Tryz.zeroValue142
 t53:=Tryz.underlying22
 a53:=Tryz.isAgg22
 z53:=Tryz.sizeOf22
 v53:=Tryz.zeroValue22 }
theorem Tryz.bits_LeadingZeros64 (x:Int) (w:World) (h0:0≤x) (h1:x≤18446744073709551615) :
  Calls Tryz.prog 170 #[.int .u64 x] w fun e w'=>e=.returned (.int .i64 (64 - (Lib.bitLen x.toNat:Int)))∧w'=w:=Any.bits_LeadingZeros64 Tryz.lays134 x w h0 h1
def Tryz.lays129_ren:Go.Shelf.Ren:=⟨fun|129=>105|n=>n,fun|53=>22|3=>3|4=>4|46=>142|5=>5|9=>9|n=>n,fun|n=>n⟩
theorem Tryz.lays129:Go.Proofs.Lays.n129 Tryz.prog Tryz.lays129_ren:={
 mixed:=by kernel_rfl
 f129:=Tryz.func105.trans (congrArg some (by kernel_rfl))
 t3:=Tryz.underlying3
 a3:=Tryz.isAgg3
 z3:=Tryz.sizeOf3
 v3:=Tryz.zeroValue3
 t4:=Tryz.underlying4
 a4:=Tryz.isAgg4
 z4:=Tryz.sizeOf4
 v4:=Tryz.zeroValue4
 t5:=Tryz.underlying5
 a5:=Tryz.isAgg5
 z5:=Tryz.sizeOf5
 v5:=Tryz.zeroValue5
 t9:=Tryz.underlying9
 a9:=Tryz.isAgg9
 z9:=Tryz.sizeOf9
 v9:=Tryz.zeroValue9
 t46:=Tryz.underlying142
 a46:=Tryz.isAgg142
 z46:=Tryz.sizeOf142
 v46:=Tryz.zeroValue142
 t53:=Tryz.underlying22
 a53:=Tryz.isAgg22
 z53:=Tryz.sizeOf22
 v53:=Tryz.zeroValue22 }
theorem Tryz.bits_Len64 (x:Int) (w:World) (h0:0≤x) (h1:x≤18446744073709551615) :
  Calls Tryz.prog 105 #[.int .u64 x] w fun e w'=>e=.returned (.int .i64 (Lib.bitLen x.toNat))∧w'=w:=Any.bits_Len64 Tryz.lays129 x w h0 h1
def Tryz.lays264_ren:Go.Shelf.Ren:=⟨fun|264=>153|n=>n,fun|53=>22|46=>142|n=>n,fun|n=>n⟩
theorem Tryz.lays264:Go.Proofs.Lays.n264 Tryz.prog Tryz.lays264_ren:={
 mixed:=by kernel_rfl
 f264:=Tryz.func153.trans (congrArg some (by kernel_rfl))
 t46:=Tryz.underlying142
 a46:=Tryz.isAgg142
 z46:=Tryz.sizeOf142
 v46:=Tryz.zeroValue142
 t53:=Tryz.underlying22
 a53:=Tryz.isAgg22
 z53:=Tryz.sizeOf22
 v53:=Tryz.zeroValue22 }
open Go.RowKit Go.Lib in
theorem Tryz.bits_Mul64 (x y:Nat) (hx:x<18446744073709551616) (hy:y<18446744073709551616) (w:World) :
  Calls Tryz.prog 153 #[.int .u64 x,.int .u64 y] w fun e w'=>e=.returned (.tuple #[.int .u64 ((x*y / 18446744073709551616:Nat):Int),.int .u64 ((x*y%18446744073709551616:Nat):Int)])∧w'=w:=Any.bits_Mul64 Tryz.lays264 x y hx hy w
end Go.Proofs
namespace Go.Proofs.YtbhblpnjhkddbaaGreat
section
open Go.RowKit
theorem mo (x y c:Nat) (hc:c≤1) (w:World) :
  (callFunc 169 #[.int .u64 x,.int .u64 y,.int .u64 c]).run Tryz.prog w =
   .ok (.value (.tuple #[.int .u64 (((x+y+c)%18446744073709551616:Nat):Int),.int .u64 (((x+y+c) / 18446744073709551616:Nat):Int)])) w:=by
 rw[run_callFunc_extern (Tryz.func169) (by kernel_rfl) (by kernel_rfl) (by kernel_rfl) (e:=add64Entry) (by kernel_rfl),run_add64 x y c (by omega) (by omega) (by omega) (by omega)];simp only[Result.andThen];congr 5<;>omega
def cy (a b:Nat):Nat→Nat
 | 0=>0
 | k+1=>(wd k a+wd k b+cy a b k) / 18446744073709551616
def sw (a b k:Nat):Nat:=(wd k a+wd k b+cy a b k)%18446744073709551616
theorem ads (a b k:Nat):cy a b k≤1:=by
 induction k with
 | zero=>exact Nat.zero_le _
 | succ k ih=>have:=ye k a;have:=ye k b;simp only[cy];omega
def u64 (n:Nat):Value:=.int .u64 ((n:Nat):Int)
def v6 (a b k:Nat):List Value:=[if 0<k then .int .u64 (sw a b 0:Nat) else .int .u64 0,if 1<k then .int .u64 (sw a b 1:Nat) else .int .u64 0,if 2<k then .int .u64 (sw a b 2:Nat) else .int .u64 0,if 3<k then .int .u64 (sw a b 3:Nat) else .int .u64 0]
theorem vq (a:Nat) {k:Nat} (h:k<4):(zb a)[k]?=some (.int .u64 (wd k a:Nat)):=by
 have:k=0∨k=1∨k=2∨k=3:=by omega
 rcases this with rfl|rfl|rfl|rfl<;>rfl
theorem ji (a b:Nat) {k:Nat} (h:k<4):(v6 a b k)[k]?=some (.int .u64 0):=by
 have:k=0∨k=1∨k=2∨k=3:=by omega
 rcases this with rfl|rfl|rfl|rfl<;>rfl
theorem dz (a b:Nat) {k:Nat} (h:k<4):(v6 a b k).set k (.int .u64 (sw a b k:Nat))=v6 a b (k+1):=by
 have:k=0∨k=1∨k=2∨k=3:=by omega
 rcases this with rfl|rfl|rfl|rfl<;>rfl
set_option maxRecDepth 100000 in
theorem mw (a b:Nat) (ha:a<zc) (hbb:b<zc) (w:World) :
  Calls Tryz.prog 146 #[ze a,ze b] w fun e w'=>e=.returned (.tuple #[ze ((a+b)%zc),.int .u64 (((a+b) / zc:Nat):Int)])∧Below w.heap.size w w':=by
 have hA:=mo
 go_enter Tryz.func146,Tryz.ntmps146
 go_wp2;generalize hW:((w.alloc _).alloc _).alloc _=W;have hg0:Blk W w.heap.size 24 (zb a):=by subst hW;exact ((Blk.new _ _ _).alloc _).alloc _
 have hg1:Blk W (w.heap.size+1) 24 (zb b):=by subst hW;exact (Blk.new' (by simp)).alloc _
 have hg2:Blk W (w.heap.size+1+1) 24 (v6 a b 0):=by subst hW;exact Blk.new' (by simp)
 have hb:Below w.heap.size w W:=by subst hW;exact (((Below.refl _ _).alloc (Nat.le_refl _) _).alloc (by simp) _).alloc (by simp;omega) _
 clear hW
 go_loopw [5,7] (fun c i wr=>∃ k:Nat,k≤4∧i=.int .i64 k∧c=.int .u64 (cy a b k:Nat)∧Blk wr w.heap.size 24 (zb a)∧Blk wr (w.heap.size+1) 24 (zb b)∧Blk wr (w.heap.size+1+1) 24 (v6 a b k)∧Below w.heap.size w wr) (fun _ i _=>4 - (intOf i).toNat)
 case atStart=>exact⟨0,by omega,rfl,rfl,hg0,hg1,hg2,hb⟩
 case round =>
  clear hg0 hg1 hg2 hb;obtain⟨k,hk,rfl,rfl,hg0,hg1,hg2,hb⟩:=hrel;have hc:=ads a b k
  by_cases hlt:k<4
  ·have c0:=hg0.cell_at (vq a hlt);have c1:=hg1.cell_at (vq b hlt);have c2:=hg2.cell_at (ji a b hlt);have f2:=hg2.frozen k;go_wp2;have lt0:=hg0.lt;have lt1:=hg1.lt;have lt2:=hg2.lt;refine Kp.wp_region_kpf [11] 13 (by kernel_rfl) (by kernel_rfl) (fun L Fin hL hFin=>?_);have HL:=Lib.hid hL;clear hL;have HF:=Lib.hid hFin;clear hFin;simp only[List.take_succ_cons,List.take_zero,List.drop_succ_cons,List.drop_zero];apply Exists.intro
   repeat ((first|(apply Kp.kp_free;(first|rfl|(rw[HL.out];rfl));(intro w1;go_simp;rfl))|(apply Kp.kp_now;rfl;(first|rfl|(rw[HL.out];rfl));(intro w1 hb1;obtain⟨hcw,hfw⟩:=uG hb1;clear hb1;go_simp;rfl)));simp only[Act.put,List.setIfInBounds_toArray,List.set_cons_succ,List.set_cons_zero])
   apply Kp.kp_nil;refine HF.out _ _ (fun w1 hb1 _=>?_);clear HL HF;simp only[List.drop_succ_cons,List.drop_zero];have c3:=(hg2.below hb1 lt2).cell_at (ji a b hlt);have f3:=(hg2.below hb1 lt2).frozen k;go_wp2;refine NoPanic.normal ?_;go_wp2
   go_roundw
   case rel =>
    refine⟨k+1,by omega,by go_num,?_,(hg0.below hb1 lt0).far (by simp;omega) _,(hg1.below hb1 lt1).far (by simp) _,?_,(hb.trans (hb1.mono hb.size)).setCell (by simp;omega) _⟩
    ·simp[cy]
    ·rw[← dz a b hlt];exact (hg2.below hb1 lt2).set_ k _
   case measure=>simp[intOf];omega
  ·obtain rfl:k=4:=by omega
   have d0:wr.cell? ⟨w.heap.size+1+1,0,none⟩=some (.int .u64 ((sw a b 0:Nat):Int)):=hg2.cell_at rfl;have d1:wr.cell? ⟨w.heap.size+1+1,1,none⟩=some (.int .u64 ((sw a b 1:Nat):Int)):=hg2.cell_at rfl;have d2:wr.cell? ⟨w.heap.size+1+1,2,none⟩=some (.int .u64 ((sw a b 2:Nat):Int)):=hg2.cell_at rfl;have d3:wr.cell? ⟨w.heap.size+1+1,3,none⟩=some (.int .u64 ((sw a b 3:Nat):Int)):=hg2.cell_at rfl;have ff:=hg2.frozen;clear hA;go_wp2;have hs:=eM a b ha hbb (sw a b 0) (sw a b 1) (sw a b 2) (sw a b 3) (cy a b 1) (cy a b 2) (cy a b 3) (cy a b 4) (by simp[sw,cy]) (by simp[cy]) rfl rfl rfl rfl rfl rfl;have hlt:=fun i=>Nat.mod_lt (wd i a+wd i b+cy a b i) (show 0<18446744073709551616 by omega);have hv:=sP (hlt 0) (hlt 1) (hlt 2) (hlt 3);have ev:Value.agg #[.int .u64 ((sw a b 0:Nat):Int),.int .u64 ((sw a b 1:Nat):Int),.int .u64 ((sw a b 2:Nat):Int),.int .u64 ((sw a b 3:Nat):Int)]=ze ((a+b)%zc):=by rw[← hs.1];exact hv
   refine bodyPost_ret (v:=.tuple #[ze ((a+b)%zc),.int .u64 (((a+b) / zc:Nat):Int)]) ?_ rfl ⟨rfl,?_⟩
   ·rw[← ev,← hs.2];simp[results,Tryz.results146,go_sem,d0,d1,d2,d3]
   ·refine ((((hb.setCell ?_ _).setCell ?_ _).setCell ?_ _).setCell ?_ _)<;>(simp;omega)
def bw (x y c:Nat):Nat:=if x<y+c then 1 else 0
theorem iU (x y b:Nat) (hb:b≤1) (w:World) :
  (callFunc 97 #[.int .u64 x,.int .u64 y,.int .u64 b]).run Tryz.prog w =
   .ok (.value (.tuple #[.int .u64 (((x+18446744073709551616 - y - b)%18446744073709551616:Nat):Int),.int .u64 ((bw x y b:Nat):Int)])) w:=by
 rw[run_callFunc_extern (Tryz.func97) (by kernel_rfl) (by kernel_rfl) (by kernel_rfl) (e:=sub64Entry) (by kernel_rfl),run_sub64 x y b hb];rfl
def br (a b:Nat):Nat→Nat
 | 0=>0
 | k+1=>bw (wd k a) (wd k b) (br a b k)
def sb (a b k:Nat):Nat:=(wd k a+18446744073709551616 - wd k b - br a b k)%18446744073709551616
theorem adg (a b k:Nat):br a b k≤1:=by
 cases k with
 | zero=>exact Nat.zero_le _
 | succ k=>simp only[br,bw];split<;>omega
theorem rx (x y c:Nat) (hx:x<18446744073709551616) (hy:y<18446744073709551616) (hc:c≤1) :
  (x+18446744073709551616 - y - c)%18446744073709551616+y+c=x+18446744073709551616*(if x<y+c then 1 else 0)∧(x+18446744073709551616 - y - c)%18446744073709551616<18446744073709551616∧(if x<y+c then 1 else 0:Nat)≤1:=by
 split<;>omega
theorem abr (S A B M c:Nat) (hS:S<M) (hA:A<M) (hB:B<M) (hc:c≤1) (h:S+B=A+M*c):S=(A+M - B)%M∧c=if A<B then 1 else 0:=by
 have:c=0∨c=1:=by omega
 rcases this with rfl|rfl
 ·rw[show A+M - B=S+M by omega,Nat.add_mod_right,Nat.mod_eq_of_lt hS,if_neg (by omega)];exact⟨rfl,rfl⟩
 ·rw[show A+M - B=S by omega,Nat.mod_eq_of_lt hS,if_pos (by omega)];exact⟨rfl,rfl⟩
theorem fc (a b:Nat) (ha:a<zc) (hb:b<zc) (s0 s1 s2 s3 c1 c2 c3 c4:Nat)
  (e0:s0=(wd 0 a+18446744073709551616 - wd 0 b - 0)%18446744073709551616) (f0:c1=if wd 0 a<wd 0 b+0 then 1 else 0)
  (e1:s1=(wd 1 a+18446744073709551616 - wd 1 b - c1)%18446744073709551616) (f1:c2=if wd 1 a<wd 1 b+c1 then 1 else 0)
  (e2:s2=(wd 2 a+18446744073709551616 - wd 2 b - c2)%18446744073709551616) (f2:c3=if wd 2 a<wd 2 b+c2 then 1 else 0)
  (e3:s3=(wd 3 a+18446744073709551616 - wd 3 b - c3)%18446744073709551616) (f3:c4=if wd 3 a<wd 3 b+c3 then 1 else 0) :
  tm s0 s1 s2 s3=(a+zc - b)%zc∧c4=bw a b 0:=by
 have h1:=vS ha;have h2:=vS hb;have:=ye 0 a;have:=ye 1 a;have:=ye 2 a;have:=ye 3 a;have:=ye 0 b;have:=ye 1 b;have:=ye 2 b;have:=ye 3 b;generalize wd 0 a=a0 at *;generalize wd 1 a=a1 at *;generalize wd 2 a=a2 at *;generalize wd 3 a=a3 at *;generalize wd 0 b=b0 at *;generalize wd 1 b=b1 at *;generalize wd 2 b=b2 at *;generalize wd 3 b=b3 at *;obtain⟨g0,l0,m0⟩:=rx a0 b0 0 (by omega) (by omega) (by omega);rw[← e0,← f0] at g0;rw[← e0] at l0;rw[← f0] at m0;obtain⟨g1,l1,m1⟩:=rx a1 b1 c1 (by omega) (by omega) (by omega);rw[← e1,← f1] at g1;rw[← e1] at l1;rw[← f1] at m1;obtain⟨g2,l2,m2⟩:=rx a2 b2 c2 (by omega) (by omega) (by omega);rw[← e2,← f2] at g2;rw[← e2] at l2;rw[← f2] at m2;obtain⟨g3,l3,m3⟩:=rx a3 b3 c3 (by omega) (by omega) (by omega);rw[← e3,← f3] at g3;rw[← e3] at l3;rw[← f3] at m3;have key:tm s0 s1 s2 s3+b=a+zc*c4:=by
  rw[← h1,← h2];clear e0 e1 e2 e3 f0 f1 f2 f3 h1 h2 ha hb l0 l1 l2 l3 m0 m1 m2 m3;simp only[tm,zc];omega
 have hs:=lq l0 l1 l2 l3;clear e0 e1 e2 e3 f0 f1 f2 f3 h1 h2 g0 g1 g2 g3 l0 l1 l2 l3 m0 m1 m2;simp only[bw,Nat.add_zero];exact abr _ _ _ _ _ hs ha hb m3 key
def acm (a b k:Nat):List Value:=[if 0<k then .int .u64 (sb a b 0:Nat) else .int .u64 0,if 1<k then .int .u64 (sb a b 1:Nat) else .int .u64 0,if 2<k then .int .u64 (sb a b 2:Nat) else .int .u64 0,if 3<k then .int .u64 (sb a b 3:Nat) else .int .u64 0]
theorem lZ (a b:Nat) {k:Nat} (h:k<4):(acm a b k)[k]?=some (.int .u64 0):=by
 have:k=0∨k=1∨k=2∨k=3:=by omega
 rcases this with rfl|rfl|rfl|rfl<;>rfl
theorem cT (a b:Nat) {k:Nat} (h:k<4):(acm a b k).set k (.int .u64 (sb a b k:Nat))=acm a b (k+1):=by
 have:k=0∨k=1∨k=2∨k=3:=by omega
 rcases this with rfl|rfl|rfl|rfl<;>rfl
set_option maxRecDepth 100000 in
theorem sc (a b:Nat) (ha:a<zc) (hbb:b<zc) (w:World) :
  Calls Tryz.prog 53 #[ze a,ze b] w fun e w'=>e=.returned (.tuple #[ze ((a+zc - b)%zc),.int .u64 ((bw a b 0:Nat):Int)])∧Below w.heap.size w w':=by
 have hA:=iU
 go_enter Tryz.func53,Tryz.ntmps53
 go_wp2;generalize hW:((w.alloc _).alloc _).alloc _=W;have hg0:Blk W w.heap.size 24 (zb a):=by subst hW;exact ((Blk.new _ _ _).alloc _).alloc _
 have hg1:Blk W (w.heap.size+1) 24 (zb b):=by subst hW;exact (Blk.new' (by simp)).alloc _
 have hg2:Blk W (w.heap.size+1+1) 24 (acm a b 0):=by subst hW;exact Blk.new' (by simp)
 have hb:Below w.heap.size w W:=by subst hW;exact (((Below.refl _ _).alloc (Nat.le_refl _) _).alloc (by simp) _).alloc (by simp;omega) _
 clear hW
 go_loopw [5,7] (fun c i wr=>∃ k:Nat,k≤4∧i=.int .i64 k∧c=.int .u64 (br a b k:Nat)∧Blk wr w.heap.size 24 (zb a)∧Blk wr (w.heap.size+1) 24 (zb b)∧Blk wr (w.heap.size+1+1) 24 (acm a b k)∧Below w.heap.size w wr) (fun _ i _=>4 - (intOf i).toNat)
 case atStart=>exact⟨0,by omega,rfl,rfl,hg0,hg1,hg2,hb⟩
 case round =>
  clear hg0 hg1 hg2 hb;obtain⟨k,hk,rfl,rfl,hg0,hg1,hg2,hb⟩:=hrel;have hc:=adg a b k
  by_cases hlt:k<4
  ·have c0:=hg0.cell_at (vq a hlt);have c1:=hg1.cell_at (vq b hlt);have c2:=hg2.cell_at (lZ a b hlt);have f2:=hg2.frozen k;go_wp2;have lt0:=hg0.lt;have lt1:=hg1.lt;have lt2:=hg2.lt;refine Kp.wp_region_kpf [11] 13 (by kernel_rfl) (by kernel_rfl) (fun L Fin hL hFin=>?_);have HL:=Lib.hid hL;clear hL;have HF:=Lib.hid hFin;clear hFin;simp only[List.take_succ_cons,List.take_zero,List.drop_succ_cons,List.drop_zero];apply Exists.intro
   repeat ((first|(apply Kp.kp_free;(first|rfl|(rw[HL.out];rfl));(intro w1;go_simp;rfl))|(apply Kp.kp_now;rfl;(first|rfl|(rw[HL.out];rfl));(intro w1 hb1;obtain⟨hcw,hfw⟩:=uG hb1;clear hb1;go_simp;rfl)));simp only[Act.put,List.setIfInBounds_toArray,List.set_cons_succ,List.set_cons_zero])
   apply Kp.kp_nil;refine HF.out _ _ (fun w1 hb1 _=>?_);clear HL HF;simp only[List.drop_succ_cons,List.drop_zero];have c3:=(hg2.below hb1 lt2).cell_at (lZ a b hlt);have f3:=(hg2.below hb1 lt2).frozen k;go_wp2;refine NoPanic.normal ?_;go_wp2
   go_roundw
   case rel =>
    refine⟨k+1,by omega,by go_num,?_,(hg0.below hb1 lt0).far (by simp;omega) _,(hg1.below hb1 lt1).far (by simp) _,?_,(hb.trans (hb1.mono hb.size)).setCell (by simp;omega) _⟩
    ·simp[br]
    ·rw[← cT a b hlt];exact (hg2.below hb1 lt2).set_ k _
   case measure=>simp[intOf];omega
  ·obtain rfl:k=4:=by omega
   have d0:wr.cell? ⟨w.heap.size+1+1,0,none⟩=some (.int .u64 ((sb a b 0:Nat):Int)):=hg2.cell_at rfl;have d1:wr.cell? ⟨w.heap.size+1+1,1,none⟩=some (.int .u64 ((sb a b 1:Nat):Int)):=hg2.cell_at rfl;have d2:wr.cell? ⟨w.heap.size+1+1,2,none⟩=some (.int .u64 ((sb a b 2:Nat):Int)):=hg2.cell_at rfl;have d3:wr.cell? ⟨w.heap.size+1+1,3,none⟩=some (.int .u64 ((sb a b 3:Nat):Int)):=hg2.cell_at rfl;have ff:=hg2.frozen;clear hA;go_wp2;have hs:=fc a b ha hbb (sb a b 0) (sb a b 1) (sb a b 2) (sb a b 3) (br a b 1) (br a b 2) (br a b 3) (br a b 4) rfl rfl rfl rfl rfl rfl rfl rfl;have hlt:=fun i=>Nat.mod_lt (wd i a+18446744073709551616 - wd i b - br a b i) (show 0<18446744073709551616 by omega);have hv:=sP (hlt 0) (hlt 1) (hlt 2) (hlt 3);have ev:Value.agg #[.int .u64 ((sb a b 0:Nat):Int),.int .u64 ((sb a b 1:Nat):Int),.int .u64 ((sb a b 2:Nat):Int),.int .u64 ((sb a b 3:Nat):Int)]=ze ((a+zc - b)%zc):=by rw[← hs.1];exact hv
   refine bodyPost_ret (v:=.tuple #[ze ((a+zc - b)%zc),.int .u64 ((bw a b 0:Nat):Int)]) ?_ rfl ⟨rfl,?_⟩
   ·rw[← ev,← hs.2];simp[results,Tryz.results53,go_sem,d0,d1,d2,d3]
   ·refine ((((hb.setCell ?_ _).setCell ?_ _).setCell ?_ _).setCell ?_ _)<;>(simp;omega)
end
section
open Go.RowKit
theorem aL (n:Nat) (h:n<18446744073709551616):n<zc:=by unfold zc;omega
theorem sj (n:Nat) (h:n<18446744073709551616):Value.agg #[.int .u64 (n:Int),.int .u64 0,.int .u64 0,.int .u64 0]=ze n:=by
 have:=sP h (by omega:0<18446744073709551616) (by omega:0<18446744073709551616) (by omega:0<18446744073709551616);simpa [tm] using this
theorem kF (n:Nat) (h:n<18446744073709551616) (w:World) :
  Calls Tryz.prog 52 #[.int .u64 (n:Int)] w fun e w'=>e=.returned (ze n)∧Below w.heap.size w w':=by
 go_enter Tryz.func52,Tryz.ntmps52
 go_wp2;refine bodyPost_ret (v:=ze n) ?_ rfl ⟨rfl,?_⟩
 ·rw[← sj n h];simp[results,Tryz.results52,go_sem]
 ·exact (Below.refl _ _).alloc (Nat.le_refl _) _
def eqN (a b:Nat):Bool:=decide (a=b)
theorem oC (n:Nat) (h:n<18446744073709551616):Tryz.prog.keyLits 1 22 [.int .u64 (n:Int)]=some [.int .u64 (n:Int)]:=by
 have hw:(Lit.int .u64 (n:Int)).wf=true:=by
  simp[Lit.wf,IntKind.min,IntKind.max,IntKind.signed,IntKind.bits];omega
 simp[Program.keyLits,Tryz.underlying22,hw]
theorem r8 (a:Nat):Tryz.prog.keyLits 2 24 (zb a)=some [.int .u64 ((wd 0 a:Nat):Int),.int .u64 ((wd 1 a:Nat):Int),.int .u64 ((wd 2 a:Nat):Int),.int .u64 ((wd 3 a:Nat):Int)]:=by
 have c1:Tryz.prog.cellsOf 24=4:=by kernel_rfl
 have c2:Tryz.prog.cellsOf 22=1:=by kernel_rfl
 have k:=fun i=>oC (wd i a) (ye i a);have r:List.range 4=[0,1,2,3]:=rfl;unfold Program.keyLits;simp[Tryz.underlying24,c1,c2,r,k]
theorem pJ {a b:Nat} (ha:a<zc) (hb:b<zc) (w:World) :
  (binOp .eql 24 (ze a) (ze b)).run Tryz.prog w=.ok (.bool (eqN a b)) w:=by
 obtain⟨r,hr,hiff⟩:=run_equalIn_deep (P:=Tryz.prog) 9998 2 24 (by kernel_rfl) w 2 2 (ze a) (ze b)
  [.int .u64 ((wd 0 a:Nat):Int),.int .u64 ((wd 1 a:Nat):Int),.int .u64 ((wd 2 a:Nat):Int),.int .u64 ((wd 3 a:Nat):Int)]
  [.int .u64 ((wd 0 b:Nat):Int),.int .u64 ((wd 1 b:Nat):Int),.int .u64 ((wd 2 b:Nat):Int),.int .u64 ((wd 3 b:Nat):Int)]
  (by kernel_rfl) (by kernel_rfl) (r8 a) (r8 b)
 have e:r=eqN a b:=by
  unfold eqN;rw[Bool.eq_iff_iff,hiff];simp only[decide_eq_true_eq,List.cons.injEq,Lit.int.injEq,true_and,and_true,Int.ofNat_inj];constructor
  ·rintro ⟨h0,h1,h2,h3⟩;exact ace ha hb h0 h1 h2 h3
  ·rintro rfl;exact⟨rfl,rfl,rfl,rfl⟩
 subst e;simp only[run_eql_struct,hr,Result.andThen]
theorem zZ {a b:Nat} (ha:a<zc) (hb:b<zc) (w:World) :
  (Op.equalIn 10000 24 (ze a) (ze b)).run Tryz.prog w=.ok (eqN a b) w:=by
 have:=pJ ha hb w;rw[run_eql_struct] at this;cases h:(Op.equalIn 10000 24 (ze a) (ze b)).run Tryz.prog w with
 | ok r w'=>rw[h] at this;simp only[Result.andThen,Result.ok.injEq,Value.bool.injEq] at this;rw[this.1,this.2]
 | halt h' w'=>rw[h] at this;simp[Result.andThen] at this
attribute [local go_sem] zZ
theorem fo {a b:Nat} (h:a=b):eqN a b=true:=by simp[eqN,h]
theorem pu {a b:Nat} (h:a≠b):eqN a b=false:=by simp[eqN,h]
def uH (a b:Nat):Int:=if a=b then 0 else if a<b then -1 else 1
theorem ew (a b:Nat) (ha:a<zc) (hb:b<zc) (w:World) :
  Calls Tryz.prog 22 #[ze a,ze b] w fun e w'=>e=.returned (.int .i64 (uH a b))∧Below w.heap.size w w':=by
 by_cases hab:a=b
 ·have he:=fo hab;have hc:uH a b=0:=by simp[uH,hab]
  clear hab
  go_enter Tryz.func22,Tryz.ntmps22
  go_wp2
  go_ret
  exact⟨by simp[hc],((Ext.rfl' w).alloc' _).alloc' _⟩
 ·have he:=pu hab
  by_cases hlt:a<b
  ·have hc:uH a b = -1:=by simp[uH,hab,hlt]
   have hbw:bw a b 0=1:=by simp[bw,hlt]
   clear hab
   go_enter Tryz.func22,Tryz.ntmps22
   go_wp2_with (go_at_call 53;refine (sc a b ha hb _).mono ?_;rintro e w1 ⟨rfl,hb1⟩)
   go_ret
   exact⟨by simp[hc],(((((Ext.rfl' w).alloc' _).alloc' _).trans' hb1).alloc' _)⟩
  ·have hc:uH a b=1:=by simp[uH,hab,hlt]
   have hbw:bw a b 0=0:=by simp[bw,hlt]
   clear hab
   go_enter Tryz.func22,Tryz.ntmps22
   go_wp2_with (go_at_call 53;refine (sc a b ha hb _).mono ?_;rintro e w1 ⟨rfl,hb1⟩)
   go_ret
   exact⟨by simp[hc],(((((Ext.rfl' w).alloc' _).alloc' _).trans' hb1).alloc' _)⟩
end
section
open Go.RowKit Go.Extern.Stop Go.Stop Go.Extern
namespace Sx
end Sx
end
end Go.Proofs.YtbhblpnjhkddbaaGreat
