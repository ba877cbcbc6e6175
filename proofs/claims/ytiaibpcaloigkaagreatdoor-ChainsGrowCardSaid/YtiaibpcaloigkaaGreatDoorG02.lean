/- Part 2 of the proof. -/
import Derived.StillTail
import Derived.Deep.LoopGhost
import Derived.Deep.RegionHeld3
import Derived.WalkKit
import Derived.Lib.Hide
import Derived.Deep.Draws
import Derived.Laws.Rows
import Derived.Lib.AppendZeros
import Derived.Lib.AppendZerosOnto
import Derived.Lib.Walk
import Derived.Lib.SliceRun
import Derived.OwnWalk
import Derived.Test.YtiaibpcaloigkaaGreatDoorProg
import Derived.Shelf.Small.Bits
import Derived.Shelf.Strconv.Itoa0
import Derived.Shelf.Bits.Mul64
set_option linter.unusedSimpArgs false
set_option linter.unusedVariables false
set_option maxHeartbeats 8000000
namespace Go.Proofs.YtiaibpcaloigkaaGreatDoor
abbrev LN:=List Nat
theorem Sm {p:Prop} (h:p:=by simp):p:=h
theorem Dtt {p:Prop} (h:p:=by decide):p:=h
theorem Kr {p:Prop} (h:p:=by kernel_rfl):p:=h
theorem Om {p:Prop} (h:p:=by omega):p:=h
section
open Go Go.RowKit
namespace Kp
inductive Kind where
 | skip
 | val (v:Value)
 | rel (V:Value→World→Prop)
def aaR (ops:List Oper):List Nat :=
 ops.foldl (fun acc o=>acc++[o.after.foldl (fun s e=>if Region.binds .any e then s ||| 2 ^ e.on ||| acc.getD e.on 0 else s) 0]) []
def anc (ops:List Oper) (i j:Nat):Bool:=((aaR ops).getD i 0).testBit j
def kyp (P:Program) (o:Oper) (a:Act) (w:World) (K:Value→World→Prop):Prop :=
 match (execOp a.eval o).run P w with
 | .ok (.value v) w'=>K v w'
 | .ok .skip w'=>K undef w'
 | .ok (.enter f args) w'=>Calls P f args w' (fun e w''=>∃ v,e=.returned v∧K v w'')
 | _=>False
section
variable (P:Program) (ops:List Oper) (fl:LN) (w0:World) (K:Nat→Kind)
def obl (i:Nat) (o:Oper) (a:Act) (F:Nat→World→Prop):Prop :=
 match K i with
 | .skip=>Region.wanted o (yielded ops.toArray a.tmps)=false
 | .val v=>Region.wanted o (yielded ops.toArray a.tmps)=true∧((∀ w,(execOp a.eval o).run P w=.ok (.value v) w)∨(fl.contains i=false ∧
   ∀ w,Below w0.heap.size w0 w→(∀ j,anc ops i j=true→F j w)→kyp P o a w (fun u w'=>u=v∧Below w.heap.size w w')))
 | .rel V=>fl.contains i=false∧Region.wanted o (yielded ops.toArray a.tmps)=true∧(∀ u w w',V u w→Below w.heap.size w w'→V u w') ∧
   ∀ w,Below w0.heap.size w0 w→(∀ j,anc ops i j=true→F j w)→kyp P o a w (fun u w'=>V u w'∧Below w.heap.size w w')
def kp (Fin:Act→(Nat→World→Prop)→Prop):List Oper→Nat→Act→(Nat→World→Prop)→Prop
 | [],_,a,F=>Fin a F
 | o::l,i,a,F=>obl P ops fl w0 K i o a F ∧
  match K i with
  | .skip=>kp Fin l (i+1) (a.put o.dst undef) F
  | .val v=>kp Fin l (i+1) (a.put o.dst v) F
  | .rel V=>∀ u,kp Fin l (i+1) (a.put o.dst u) (fun j=>if j=i then V u else F j)
def uC (s:Nat→Value) (i:Nat):Value :=
 match K i with
 | .skip=>undef
 | .val v=>v
 | .rel _=>s i
def facts (s:Nat→Value):Nat→Nat→World→Prop
 | 0=>fun _ _=>True
 | i+1=>match K i with
  | .rel V=>fun j=>if j=i then V (s i) else facts s i j
  | _=>facts s i
end
def yC (u:Nat→Value) (L:Nat→Bool):List Oper→Nat→Act→Act
 | [],_,a=>a
 | o::l,i,a=>yC u L l (i+1) (if L i then a.put o.dst (u i) else a)
section
variable {P:Program} {ops:List Oper} {fl:LN} {w0:World} {K:Nat→Kind}
theorem uD {s:Nat→Value} {j:Nat} {w:World}:∀ i,(∀ V,j<i→K j=.rel V→V (s j) w)→facts K s i j w
 | 0,_=>trivial
 | i+1,h=>by
  have hr:facts K s i j w:=uD i (fun V hj=>h V Om);unfold facts;cases hK:K i with
  | rel V =>
   simp only;split
   ·rename_i e;subst e;exact h V Om hK
   ·exact hr
  | _=>exact hr
theorem yH {u u' : Nat→Value} {L L' : Nat→Bool}:∀ (l:List Oper) (i:Nat) (a:Act),
  (∀ j,i≤j→j<i+l.length→L j=L' j∧(L j=true→u j=u' j))→yC u L l i a=yC u' L' l i a
 | [],_,_,_=>rfl
 | o::l,i,a,h=>by
  obtain⟨h1,h2⟩:=h i (Nat.le_refl _) Sm;unfold yC;rw[yH l (i+1) _ (fun j hj hj'=>h j Om (by simp only[List.length_cons];omega)),← h1];cases hL:L i with
  | true=>rw[h2 hL]
  | false=>rfl
theorem rU {u:Nat→Value} {L:Nat→Bool} {d:Option Tmp} {v:Value}:∀ (l:List Oper) (i:Nat) (a:Act),
  (∀ j o,l[j]?=some o→L (i+j)=true→∀ t,d=some t→o.dst≠some t)→yC u L l i (a.put d v)=(yC u L l i a).put d v
 | [],_,_,_=>rfl
 | o::l,i,a,h=>by
  unfold yC;have hr:∀ j o',l[j]?=some o'→L (i+1+j)=true→∀ t,d=some t→o'.dst≠some t:=fun j o' hj hL=>h (j+1) o' (by simpa using hj) (by rw[show i+(j+1)=i+1+j by omega];exact hL);cases hL:L i with
  | true =>
   simp only[if_true];have hne:=h 0 o rfl (by simpa using hL);rw[Act.put_comm a v (u i) hne];exact rU l (i+1) _ hr
  | false=>simpa using rU l (i+1) a hr
theorem qi {u:Nat→Value} {L:Nat→Bool}:∀ (l:List Oper) (i:Nat) (a:Act) (k:Nat) (o:Oper),l[k]?=some o→L (i+k)=false →
  (∀ j o',l[j]?=some o'→j≠k→∀ t,o.dst=some t→o'.dst≠some t) →
  yC u (fun j=>if j=i+k then true else L j) l i a=(yC u L l i a).put o.dst (u (i+k))
 | [],_,_,_,_,h,_,_=>by simp at h
 | o'::l,i,a,0,o,h,hL,hd=>by
  have:o'=o:=by simpa using h
  subst this;have hL' : L i=false:=by simpa using hL
  unfold yC;simp only[Nat.add_zero,if_true,hL',Bool.false_eq_true,if_false];rw[yH (u:=u) (u':=u) (L':=L) l (i+1) _ (fun j hj _=>⟨by simp;omega,fun _=>rfl⟩)];exact rU l (i+1) a (fun j o'' hj _=>hd (j+1) o'' (by simpa using hj) Om)
 | o'::l,i,a,k+1,o,h,hL,hd=>by
  have e:i+(k+1)=i+1+k:=by omega
  unfold yC;rw[e] at hL ⊢;have hi:(if i=i+1+k then true else L i)=L i:=by simp;omega
  rw[hi];exact qi l (i+1) _ k o (by simpa using h) hL (fun j o'' hj hne=>hd (j+1) o'' (by simpa using hj) Om)
def Agree (T:List Tmp) (a a' : Act):Prop:=∀ t∈T,a.tmps[t]?=a'.tmps[t]?
theorem Agree.put2 {T:List Tmp} {a a' : Act} (h:Agree T a a') (d:Option Tmp) (v:Value):Agree T (a.put d v) (a'.put d v):=by
 cases d with
 | none=>exact h
 | some d =>
  intro t ht;have:=h t ht
  by_cases e:d=t
  ·subst e;simp only[Act.put];simp only[Array.getElem?_setIfInBounds,if_true]
   rcases Nat.lt_or_ge d a.tmps.size with h1|h1
   ·rw[Array.getElem?_eq_getElem h1] at this;have h2:d<a'.tmps.size:=by
     rcases Nat.lt_or_ge d a'.tmps.size with h3|h3
     ·exact h3
     ·rw[Array.getElem?_eq_none h3] at this;cases this
    simp[h1,h2]
   ·rw[Array.getElem?_eq_none h1] at this;have h2:¬ d<a'.tmps.size:=fun h3=>by rw[Array.getElem?_eq_getElem h3] at this;cases this
    simp[Nat.not_lt.2 h1,h2]
  ·simp only[Act.put,Array.getElem?_setIfInBounds_ne e];exact this
theorem Agree.put1 {T:List Tmp} {a a' : Act} (h:Agree T a a') {d:Option Tmp} (hd:∀ t,d=some t→t ∉ T) (v:Value):Agree T (a.put d v) a':=by
 cases d with
 | none=>exact h
 | some d =>
  intro t ht;have e:d≠t:=fun e=>hd d rfl (e ▸ ht);simp only[Act.put,Array.getElem?_setIfInBounds_ne e];exact h t ht
theorem Agree.symm {T:List Tmp} {a a' : Act} (h:Agree T a a'):Agree T a' a:=fun t ht=>(h t ht).symm
theorem tu {T:List Tmp} {u:Nat→Value} {L M:Nat→Bool}:∀ (l:List Oper) (i:Nat) (a a' : Act),Agree T a a' →
  (∀ j o,l[j]?=some o→L (i+j)≠M (i+j)→∀ t,o.dst=some t→t ∉ T)→Agree T (yC u L l i a) (yC u M l i a')
 | [],_,_,_,h,_=>h
 | o::l,i,a,a',h,hd=>by
  unfold yC;have hr:∀ j o',l[j]?=some o'→L (i+1+j)≠M (i+1+j)→∀ t,o'.dst=some t→t ∉ T:=fun j o' hj hne=>hd (j+1) o' (by simpa using hj) (by rw[show i+(j+1)=i+1+j by omega];exact hne);refine tu l (i+1) _ _ ?_ hr;cases hL:L i<;>cases hM:M i
  ·exact h
  ·exact (h.symm.put1 (hd 0 o rfl (by simp[hL,hM])) _).symm
  ·exact h.put1 (hd 0 o rfl (by simp[hL,hM])) _
  ·exact h.put2 _ _
theorem qN {o:Oper} {a a' : Act} (hs:∀ cs b,o.op≠.select cs b) (h:Agree (o.looksAt ops.toArray) a a'):execOp a.eval o=execOp a'.eval o :=
 execOp_congr o hs fun x hx=>by
  cases x with
  | tmp t =>
   have:=h t (List.mem_append_left _ (List.mem_filterMap.2 ⟨.tmp t,by simpa using hx,rfl⟩));simp[Act.eval,this]
  | _=>rfl
theorem sQ {o:Oper} {a a' : Act} (h:Agree (o.looksAt ops.toArray) a a'):Region.wanted o (yielded ops.toArray a.tmps)=Region.wanted o (yielded ops.toArray a'.tmps):=by
 unfold Region.wanted;cases hg:o.guard with
 | none=>rfl
 | some gw =>
  obtain⟨g,want⟩:=gw;have hy:yielded ops.toArray a.tmps g=yielded ops.toArray a'.tmps g:=by
   unfold yielded;cases ht:(ops.toArray[g]?).bind (·.dst) with
   | none=>rfl
   | some t =>
    have:=h t (List.mem_append_right _ (by simp only[hg,ht];simp));simp[this]
  simp only[hy]
theorem ug {o:Oper} {a:Act} {w:World} {R:Value→World→Prop} {K' : Act→World→Prop} {Q:Exit→Act→World→Prop} (h:kyp P o a w R)
  (hK:∀ v w',R v w'→K' (a.put o.dst v) w'):o.wp P a w K' Q:=by
 unfold kyp at h;unfold Oper.wp;generalize (execOp a.eval o).run P w=r at *;cases r with
 | ok n w' =>
  cases n<;>simp only at h<;>simp only[Oper.upon]
  case value v=>exact hK _ _ h
  case skip=>exact hK _ _ h
  case enter f args=>exact h.mono fun e w'' ⟨v,he,hw⟩=>by subst he;exact hK _ _ hw
 | halt x w'=>simp only at h
theorem uo {o:Oper} {a a' : Act} {w:World} {R:Value→World→Prop} (he:execOp a.eval o=execOp a'.eval o) (h:kyp P o a' w R):kyp P o a w R:=by
 unfold kyp at *;rw[he];exact h
end
def agj (ops:List Oper):Bool:=(List.range ops.length).all fun i=>match ops[i]? with
 | some o=>o.after.all fun e=>!Region.binds .any e || decide (e.on<i)
 | none=>true
def ahZ (ops:List Oper) (n:Nat):Bool:=(List.range n).all fun i=>(List.range n).all fun j=>i == j || match ops[i]?,ops[j]? with
 | some oi,some oj=>(match oi.dst with|some d=>oj.dst != some d|none=>true) && (match oj.dst with|some d=>!(oi.looksAt ops.toArray).contains d || anc ops i j|none=>true)
 | _,_=>true
def aht (ops:List Oper) (n:Nat):Bool:=(List.range n).all fun i=>match ops[i]? with
 | some o=>(match o.dst with|some d=>!(o.looksAt ops.toArray).contains d|none=>true)
 | none=>true
def agY (ops:List Oper) (fl:LN) (n:Nat):Bool:=(List.range ops.length).all fun t=>decide (t<n) || (List.range t).all fun i=>anc ops t i ||
 (fl.contains i && match ops[i]? with|some o=>o.after.all fun e=>!Region.binds .any e || anc ops t e.on|none=>false)
def afB (ops:List Oper) (fl:LN) (n:Nat):Bool:=fl.all fun i=>decide (i<n) && (List.range ops.length).all fun j=>i == j || anc ops i j || match ops[i]?,ops[j]? with
 | some oi,some oj=>(oj.after.any fun e=>Region.binds .any e && e.on == i) || oi.apart ops.toArray oj
 | _,_=>true
def yL (ops:List Oper) (fl:LN) (n:Nat):Bool :=
 Region.noSelect ops.toArray && decide (n≤ops.length) && agj ops && ahZ ops n && aht ops n && agY ops fl n && afB ops fl n && Region.seqB .any ops.toArray (ops.length - n) n ((List.replicate n true++List.replicate (ops.length - n) false).toArray)
section
variable {P:Program} {ops:List Oper}
theorem yg (h:agj ops=true) {i:Nat} {o:Oper} (ho:ops[i]?=some o):∀ e∈o.after,Region.binds .any e=true→e.on<i:=by
 intro e he hb;have hi:i<ops.length:=(List.getElem?_eq_some_iff.1 ho).1;have:=List.all_eq_true.1 h i (List.mem_range.2 hi);simp only[ho] at this;have:=Array.all_eq_true_iff_forall_mem.1 this e he;simpa [hb] using this
def kZ (acc:LN) (o:Oper):Nat:=o.after.foldl (fun s e=>if Region.binds .any e then s ||| 2 ^ e.on ||| acc.getD e.on 0 else s) 0
def mw (l:List Oper) (acc:LN):List Nat:=l.foldl (fun acc o=>acc++[kZ acc o]) acc
theorem uu (o:Oper) (l:List Oper) (acc:LN):mw (o::l) acc=mw l (acc++[kZ acc o]):=rfl
theorem rF:∀ (l:List Oper) (acc:LN) (i:Nat),i<acc.length→(mw l acc).getD i 0=acc.getD i 0
 | [],_,_,_=>rfl
 | o::l,acc,i,h=>by
  rw[uu,rF l _ i (by simp;omega)];simp[List.getD,List.getElem?_append_left h]
theorem jl:∀ (l:List Oper) (acc:LN) (k:Nat) (o:Oper),l[k]?=some o→∃ acc',(∀ i,i<acc.length+k→acc'.getD i 0=(mw l acc).getD i 0)∧(∀ i,acc.length+k≤i→acc'.getD i 0=0)∧(mw l acc).getD (acc.length+k) 0=kZ acc' o
 | [],_,_,_,h=>by simp at h
 | o'::l,acc,0,o,h=>by
  have:o'=o:=by simpa using h
  subst this;refine⟨acc,fun i hi=>?_,fun i hi=>by simp[List.getD,List.getElem?_eq_none (by omega:acc.length≤i)],?_⟩
  ·rw[uu,rF l _ i (by simp;omega)];simp[List.getD,List.getElem?_append_left (by omega:i<acc.length)]
  ·rw[uu,rF l _ _ Sm];simp[List.getD]
 | o'::l,acc,k+1,o,h=>by
  obtain⟨acc',h1,h2,h3⟩:=jl l (acc++[kZ acc o']) k o (by simpa using h);have e:(acc++[kZ acc o']).length+k=acc.length+(k+1):=by simp;omega
  rw[e] at h1 h2 h3;exact⟨acc',h1,h2,h3⟩
theorem gr {acc:LN} {o:Oper} {j:Nat} (h:(kZ acc o).testBit j=true):∃ e∈o.after,Region.binds .any e=true∧(e.on=j∨(acc.getD e.on 0).testBit j=true):=by
 unfold kZ at h;rw[← Array.foldl_toList] at h;have gen:∀ (l:List Edge) (s:Nat),(l.foldl (fun s e=>if Region.binds .any e then s ||| 2 ^ e.on ||| acc.getD e.on 0 else s) s).testBit j=true→s.testBit j=true∨∃ e∈l,Region.binds .any e=true∧(e.on=j∨(acc.getD e.on 0).testBit j=true):=by
  intro l
  induction l with
  | nil=>intro s h;exact .inl h
  | cons e l ih =>
   intro s h;rw[List.foldl_cons] at h
   rcases ih _ h with h1|⟨e',he',h2⟩
   ·by_cases hb:Region.binds .any e=true
    ·rw[if_pos hb] at h1;simp only[Nat.testBit_or,Nat.testBit_two_pow,Bool.or_eq_true,decide_eq_true_eq] at h1
     rcases h1 with (h1|h1)|h1
     ·exact .inl h1
     ·exact .inr ⟨e,by simp,hb,.inl h1⟩
     ·exact .inr ⟨e,by simp,hb,.inr h1⟩
    ·rw[if_neg hb] at h1;exact .inl h1
   ·exact .inr ⟨e',by simp[he'],h2⟩
 rcases gen _ 0 h with h1|⟨e,he,h2⟩
 ·simp at h1
 ·exact⟨e,by simpa using he,h2⟩
theorem yf {L:Nat→Bool} (hclosed:∀ j o,ops[j]?=some o→L j=true→∀ e∈o.after,Region.binds .any e=true→L e.on=true) :
  ∀ (i:Nat) (o:Oper),ops[i]?=some o→(∀ e∈o.after,Region.binds .any e=true→L e.on=true)→∀ j,anc ops i j=true→L j=true:=by
 intro i
 induction i using Nat.strongRecOn with
 | _ i ih =>
  intro o ho hall j hj;unfold anc at hj;obtain⟨acc',h1,h2,h3⟩:=jl ops [] i o ho;have hm:aaR ops=mw ops []:=rfl;rw[hm] at hj;simp only[List.length_nil,Nat.zero_add] at h1 h2 h3;rw[h3] at hj;obtain⟨e,he,hb,hor⟩:=gr hj;have hLe:=hall e he hb
  rcases hor with rfl|hbit
  ·exact hLe
  ·rcases Nat.lt_or_ge e.on i with hlt|hge
   ·rw[h1 e.on hlt] at hbit;have hex:∃ o',ops[e.on]?=some o':=by
     have hi:i<ops.length:=(List.getElem?_eq_some_iff.1 ho).1;exact⟨ops[e.on],List.getElem?_eq_getElem Om⟩
    obtain⟨o',ho'⟩:=hex;exact ih e.on hlt o' ho' (hclosed e.on o' ho' hLe) j (by unfold anc;rw[hm];exact hbit)
   ·rw[h2 e.on hge] at hbit;simp at hbit
end
section
variable {P:Program} {ops:List Oper} {fl:LN} {w0:World} {K:Nat→Kind}
theorem uO {p q:Nat→Bool}:∀ (l:LN),l.Nodup→∀ i,i∈l→p i=true→q i=false→(∀ j,j≠i→q j=p j)→(l.filter q).length+1=(l.filter p).length
 | [],_,_,h,_,_,_=>by cases h
 | x::l,hnd,i,hi,hp,hq,heq=>by
  rw[List.nodup_cons] at hnd
  by_cases hx:x=i
  ·subst hx;have:l.filter q=l.filter p:=List.filter_congr (fun j hj=>heq j (fun e=>hnd.1 (e ▸ hj)));simp[List.filter_cons,hp,hq,this]
  ·have hi' : i∈l:=by
    rcases List.mem_cons.1 hi with h|h
    ·exact absurd h.symm hx
    ·exact h
   have ih:=uO l hnd.2 i hi' hp hq heq;simp only[List.filter_cons,heq x hx]
   split<;>simp_all
structure Inv (ops:List Oper) (w0:World) (K:Nat→Kind) (n:Nat) (a0:Act) (s:Nat→Value) (listed:Array Bool) (a:Act) (w:World):Prop where
 size:listed.size=ops.length
 closed:∀ j o,ops[j]?=some o→listed.getD j false=true→∀ e∈o.after,Region.binds .any e=true→listed.getD e.on false=true
 tail:∀ t,n≤t→listed.getD t false=false
 frame:a=yC (uC K s) (fun j=>listed.getD j false) (ops.take n) 0 a0
 ext:Below w0.heap.size w0 w
 known:∀ j,j<n→listed.getD j false=true→∀ V,K j=.rel V→V (s j) w
theorem ew {Fin:Act→(Nat→World→Prop)→Prop} (s:Nat→Value):∀ (l:List Oper) (i:Nat),(∀ (j:Nat) (o:Oper),l[j]?=some o→∀ (k:Nat) (o' : Oper),l[k]?=some o'→j≠k→∀ t,o.dst=some t→o'.dst≠some t) →
  ∀ a:Act,kp P ops fl w0 K Fin l i a (facts K s i) →
  (∀ j o,l[j]?=some o→obl P ops fl w0 K (i+j) o (yC (uC K s) (fun m=>decide (m<i+j)) l i a) (facts K s (i+j))) ∧
  Fin (yC (uC K s) (fun _=>true) l i a) (facts K s (i+l.length))
 | [],i,_,a,h=>⟨fun j o hj=>by simp at hj,h⟩
 | o::l,i,hd,a,h=>by
  unfold kp at h;obtain⟨hob,hrest⟩:=h;have hd' : ∀ (j:Nat) (o:Oper),l[j]?=some o→∀ (k:Nat) (o' : Oper),l[k]?=some o'→j≠k→∀ t,o.dst=some t→o'.dst≠some t:=fun j o hj k o' hk hne=>hd (j+1) o (by simpa using hj) (k+1) o' (by simpa using hk) Om;have hk:kp P ops fl w0 K Fin l (i+1) (a.put o.dst (uC K s i)) (facts K s (i+1)):=by
   unfold uC facts;cases hK:K i with
   | skip=>simpa [hK] using hrest
   | val v=>simpa [hK] using hrest
   | rel V=>simp only[hK] at hrest ⊢;exact hrest (s i)
  obtain⟨h1,h2⟩:=ew s l (i+1) hd' _ hk;refine⟨fun j o' hj=>?_,?_⟩
  ·cases j with
   | zero =>
    have:o=o':=by simpa using hj
    subst this;have he:yC (uC K s) (fun m=>decide (m<i+0)) (o::l) i a=a:=by
     have gen:∀ (l:List Oper) (k:Nat) (a:Act),i≤k→yC (uC K s) (fun m=>decide (m<i+0)) l k a=a:=by
      intro l
      induction l with
      | nil=>intro k a _;rfl
      | cons o l ih =>
       intro k a hk;unfold yC;rw[if_neg (by simp;omega)];exact ih (k+1) a Om
     exact gen _ i a (Nat.le_refl _)
    rw[he];exact hob
   | succ j =>
    have e:i+(j+1)=i+1+j:=by omega
    rw[e];have:=h1 j o' (by simpa using hj);unfold yC;rw[if_pos (by simp;omega)];exact this
  ·unfold yC;rw[if_pos rfl];have e:i+(o::l).length=i+1+l.length:=by simp;omega
   rw[e];exact h2
theorem om {n:Nat} {a0:Act} {Q:Exit→Act→World→Prop} {Fin:Act→(Nat→World→Prop)→Prop} (hB:yL ops fl n=true)
    (hQ:fl=[]∨∀ c a d v w,Q (.panic c) (Act.put a d v) w→Q (.panic c) a w)
    (h:kp P ops fl w0 K Fin (ops.take n) 0 a0 (fun _ _=>True))
    (hfin:∀ (s:Nat→Value) (a:Act) (w:World),Fin a (facts K s n)→Below w0.heap.size w0 w→(∀ j,facts K s n j w) →
      wpAny P .any ops.toArray Q (ops.length - n) ((List.replicate n true++List.replicate (ops.length - n) false).toArray) a w) :
    ∀ (f:Nat) (s:Nat→Value) (listed:Array Bool) (a:Act) (w:World),Inv ops w0 K n a0 s listed a w→((List.range n).filter fun j=>!listed.getD j false).length=f →
      wpAny P .any ops.toArray Q (f+(ops.length - n)) listed a w:=by
  unfold yL at hB;simp only[Bool.and_eq_true,decide_eq_true_eq] at hB;obtain⟨⟨⟨⟨⟨⟨⟨hsel,hn⟩,hback⟩,hdst⟩,hself⟩,htail⟩,hfloat⟩,hseq⟩:=hB;have hlen:(ops.take n).length=n:=by simp;omega
  have hget:∀ j,j<n→(ops.take n)[j]?=ops[j]?:=fun j hj=>by rw[List.getElem?_take];simp[hj]
  have hdist:∀ (j:Nat) (o:Oper),(ops.take n)[j]?=some o→∀ (k:Nat) (o' : Oper),(ops.take n)[k]?=some o'→j≠k→∀ t,o.dst=some t→o'.dst≠some t:=by
    intro j o hj k o' hk hne t ht;have hjn:j<n:=by have:=(List.getElem?_eq_some_iff.1 hj).1;omega
    have hkn:k<n:=by have:=(List.getElem?_eq_some_iff.1 hk).1;omega
    rw[hget j hjn] at hj;rw[hget k hkn] at hk;have:=List.all_eq_true.1 (List.all_eq_true.1 hdst j (List.mem_range.2 hjn)) k (List.mem_range.2 hkn);simp only[hj,hk,ht,Bool.or_eq_true,beq_iff_eq,Bool.and_eq_true,bne_iff_ne] at this
    rcases this with h|h
    · exact absurd h hne
    · exact h.1
  have hlooks:∀ (j:Nat) (o:Oper),ops[j]?=some o→j<n→∀ (k:Nat) (o' : Oper),ops[k]?=some o'→k<n→∀ t,o'.dst=some t→t∈o.looksAt ops.toArray→anc ops j k=true:=by
    intro j o hj hjn k o' hk hkn t ht hmem
    by_cases hjk:j=k
    · subst hjk;have:o=o':=Option.some.inj (hj.symm.trans hk);subst this;have:=List.all_eq_true.1 hself j (List.mem_range.2 hjn);simp only[hj,ht,Bool.not_eq_true'] at this;have hc:(o.looksAt ops.toArray).contains t=true:=by simpa using hmem
      rw[hc] at this;cases this
    · have:=List.all_eq_true.1 (List.all_eq_true.1 hdst j (List.mem_range.2 hjn)) k (List.mem_range.2 hkn);simp only[hj,hk,ht,Bool.or_eq_true,beq_iff_eq,Bool.and_eq_true] at this
      rcases this with h|h
      · exact absurd h hjk
      · rcases h.2 with h3|h3
        · have hc:(o.looksAt ops.toArray).contains t=true:=by simpa using hmem
          rw[hc] at h3;cases h3
        · exact h3
  intro f
  induction f with
  | zero =>
    intro s listed a w inv hf;have hall:∀ j,j<n→listed.getD j false=true:=by
      intro j hj;cases hl:listed.getD j false with
      | true=>rfl
      | false =>
        have:j∈(List.range n).filter fun j=>!listed.getD j false:=List.mem_filter.2 ⟨List.mem_range.2 hj,by rw[hl];rfl⟩;rw[List.length_eq_zero_iff.1 hf] at this;cases this
    have hlist:listed=((List.replicate n true++List.replicate (ops.length - n) false).toArray):=by
      apply Array.ext
      · simp[inv.size];omega
      · intro i h1 h2;have h3:listed.getD i false=listed[i]:=by simp[h1]
        rw[← h3]
        rcases Nat.lt_or_ge i n with hi|hi
        · rw[hall i hi];simp[List.getElem_append,hi]
        · rw[inv.tail i hi];simp[List.getElem_append,Nat.not_lt.2 hi]
    obtain⟨_,hF⟩:=ew s (ops.take n) 0 hdist a0 h;rw[Nat.zero_add,hlist];refine hfin s a w ?_ inv.ext (fun j=>uD n (fun V hj hV=>inv.known j hj (hall j hj) V hV));rw[inv.frame];rw[hlen,Nat.zero_add] at hF;rw[yH (u:=uC K s) (u':=uC K s) (L':=fun _=>true) (ops.take n) 0 a0 (fun j _ hj=>⟨hall j Om,fun _=>rfl⟩)];exact hF
  | succ f ih =>
    intro s listed a w inv hf;obtain⟨hobl,_⟩:=ew s (ops.take n) 0 hdist a0 h;have hex:∃ m,m<n∧listed.getD m false=false:=by
      cases hl:(List.range n).filter fun j=>!listed.getD j false with
      | nil=>rw[hl] at hf;cases hf
      | cons m l =>
        have hm:m∈(List.range n).filter fun j=>!listed.getD j false:=by rw[hl];simp
        rw[List.mem_filter] at hm;exact⟨m,List.mem_range.1 hm.1,by simpa using hm.2⟩
    obtain⟨m,⟨hmn,hml⟩,hleast⟩:=exists_least hex;have hmr:m∈Region.ready .any ops.toArray listed:=by
      rw[mem_ready];have hmo:ops[m]?=some (ops[m]' Om):=List.getElem?_eq_getElem Om;refine⟨getD_in (by rw[inv.size];omega) hml,ops[m]' Om,by simp,fun e he hb=>?_⟩;have hlt:=yg hback hmo e he hb;cases hle:listed.getD e.on false with
      | true=>rfl
      | false=>have:=hleast e.on ⟨by omega,hle⟩;omega
    have hne:Region.ready .any ops.toArray listed≠[]:=fun h0=>by rw[h0] at hmr;cases hmr
    rw[show f+1+(ops.length - n)=(f+(ops.length - n))+1 by omega]
    have main:∀ i,i∈Region.ready .any ops.toArray listed→i<n →
        (∃ v o,ops.toArray[i]?=some o∧Yields P ops.toArray o v a∧fl.contains i=true∧wpAny P .any ops.toArray Q (f+(ops.length - n)) (listed.setIfInBounds i true) (a.put o.dst v) w) ∨
        (fl.contains i=false∧wpOp P ops.toArray Q i (wpAny P .any ops.toArray Q (f+(ops.length - n)) (listed.setIfInBounds i true)) a w):=by
     intro i hi hin;obtain⟨hiun,o,ho,hwait⟩:=mem_ready.1 hi;have ho' : ops[i]?=some o:=by simpa using ho
     have hil:i<ops.length:=(List.getElem?_eq_some_iff.1 ho').1;have hancl:=yf (L:=fun j=>listed.getD j false) inv.closed i o ho' hwait;have hiu:listed.getD i false=false:=getD_both hiun;have hanclt:∀ j,anc ops i j=true→j<i:=fun j hj=>by
       have:=yf (ops:=ops) (L:=fun j=>decide (j<i)) (fun j o' hj' hL e he hb=>by
         have:=yg hback hj' e he hb;simp only[decide_eq_true_eq] at hL ⊢;omega) i o ho' (fun e he hb=>by simpa using yg hback ho' e he hb) j hj
       simpa using this
     have hob:=hobl i o (by rw[hget i hin];exact ho');rw[Nat.zero_add] at hob;have hag:Agree (o.looksAt ops.toArray) (yC (uC K s) (fun m=>decide (m<i)) (ops.take n) 0 a0) a:=by
       rw[inv.frame];refine tu _ 0 a0 a0 (fun _ _=>rfl) (fun j oj hj hdiff t ht hmem=>?_);have hjn:j<n:=by have:=(List.getElem?_eq_some_iff.1 hj).1;omega
       rw[hget j hjn] at hj;have ha:=hlooks i o ho' hin j oj hj hjn t ht hmem;have h1:=hancl j ha;have h2:=hanclt j ha;simp only[Nat.zero_add] at hdiff;simp only[h1,h2,decide_true,ne_eq,not_true_eq_false] at hdiff
     have hsel' : ∀ cs b,o.op≠.select cs b:=fun cs b=>Region.noSelect_spec hsel i o cs b ho;have hex:=qN (ops:=ops) hsel' hag;have hwa:=sQ (ops:=ops) hag;have hfacts:∀ j,anc ops i j=true→facts K s i j w:=fun j hj=>uD i (fun V hji hV=>inv.known j Om (hancl j hj) V hV)
     have next:∀ (s' : Nat→Value) (w' : World),(∀ j,j≠i→s' j=s j)→Below w.heap.size w w'→(∀ V,K i=.rel V→V (s' i) w') →
         wpAny P .any ops.toArray Q (f+(ops.length - n)) (listed.setIfInBounds i true) (a.put o.dst (uC K s' i)) w':=by
       intro s' w' hs' hb hV;refine ih s' _ _ w' ⟨by simp[inv.size],fun j oj hj hl e he hb=>?_,fun t ht=>?_,?_,inv.ext.trans (hb.mono inv.ext.size),fun j hj hl V hKV=>?_⟩ ?_
       · by_cases hij:i=j
         · subst hij;have:oj=o:=Option.some.inj (hj.symm.trans ho');subst this;exact getD_set_true (hwait e he hb)
         · rw[getD_set_ne false hij] at hl;exact getD_set_true (inv.closed j oj hj hl e he hb)
       · rw[getD_set_ne false Om];exact inv.tail t ht
       · have h1:=qi (u:=uC K s') (L:=fun j=>listed.getD j false) (ops.take n) 0 a0 i o (by rw[hget i hin];exact ho') (by rw[Nat.zero_add];exact hiu)
           (fun j o' hj hne=>hdist i o (by rw[hget i hin];exact ho') j o' hj (Ne.symm hne))
         rw[Nat.zero_add] at h1
         rw[yH (u:=uC K s') (u':=uC K s') (L':=fun j=>if j=i then true else listed.getD j false) (ops.take n) 0 a0 (fun j _ _=>⟨by
           by_cases hij:j=i
           · subst hij;simp[inv.size,hil]
           · rw[getD_set_ne false (Ne.symm hij),if_neg hij],fun _=>rfl⟩),h1]
         rw[inv.frame,yH (u:=uC K s) (u':=uC K s') (L':=fun j=>listed.getD j false) (ops.take n) 0 a0 (fun j _ _=>⟨rfl,fun hL=>by
           have hji:j≠i:=fun e=>by subst e;simp only[hiu] at hL;cases hL
           unfold uC;cases K j<;>simp only[hs' j hji]⟩)]
       · by_cases hij:j=i
         · subst hij;exact hV V hKV
         · rw[getD_set_ne false (Ne.symm hij)] at hl;rw[hs' j hij];have hoj:ops[j]?=some (ops[j]' Om):=List.getElem?_eq_getElem Om;have hoblj:=hobl j _ (by rw[hget j hj];exact hoj);rw[Nat.zero_add] at hoblj;simp only[obl,hKV] at hoblj;exact hoblj.2.2.1 _ _ _ (inv.known j hj hl V hKV) hb
       · have:=uO (List.range n) List.nodup_range i (List.mem_range.2 hin) (p:=fun j=>!listed.getD j false) (q:=fun j=>!(listed.setIfInBounds i true).getD j false) (by simp only[hiu];rfl) (by simp[inv.size,hil])
           (fun j hj=>by simp only[getD_set_ne false (Ne.symm hj)])
         omega
     unfold obl at hob;cases hK:K i with
     | skip =>
       simp only[hK] at hob;have hnx:=next s w (fun _ _=>rfl) (Below.refl _ _) (fun V hV=>by rw[hK] at hV;cases hV)
       have hnx' : wpAny P .any ops.toArray Q (f+(ops.length - n)) (listed.setIfInBounds i true) (a.put o.dst undef) w:=by simpa [uC,hK] using hnx
       by_cases hfl:fl.contains i=true
       · exact .inl ⟨undef,o,ho,.inr ⟨by rw[← hwa];exact hob,rfl⟩,hfl,hnx'⟩
       · refine .inr ⟨by simpa using hfl,?_⟩;unfold wpOp;simp only[ho];rw[← hwa,hob];simp only[Bool.false_eq_true,if_false];exact hnx'
     | val v =>
       simp only[hK] at hob;have hnx:∀ w',Below w.heap.size w w'→wpAny P .any ops.toArray Q (f+(ops.length - n)) (listed.setIfInBounds i true) (a.put o.dst v) w':=fun w' hb=>by
         have:=next s w' (fun _ _=>rfl) hb (fun V hV=>by rw[hK] at hV;cases hV)
         simpa [uC,hK] using this
       rcases hob.2 with hfree|⟨hfl,hr⟩
       · by_cases hfl:fl.contains i=true
         · exact .inl ⟨v,o,ho,.inl ⟨by rw[← hwa];exact hob.1,fun w=>by rw[← hex];exact hfree w⟩,hfl,hnx w (Below.refl _ _)⟩
         · refine .inr ⟨by simpa using hfl,?_⟩;unfold wpOp;simp only[ho];rw[← hwa,hob.1];simp only[if_true];refine .inl (ug (R:=fun u w'=>u=v∧w'=w) (uo hex.symm (by unfold kyp;rw[hfree w];exact⟨rfl,rfl⟩)) (fun u w' hu=>?_));rw[hu.1,hu.2];exact hnx w (Below.refl _ _)
       · refine .inr ⟨hfl,?_⟩;unfold wpOp;simp only[ho];rw[← hwa,hob.1];simp only[if_true];refine .inl (ug (uo hex.symm (hr w inv.ext hfacts)) (fun u w' hu=>?_));rw[hu.1];exact hnx w' hu.2
     | rel V =>
       simp only[hK] at hob;refine .inr ⟨hob.1,?_⟩;unfold wpOp;simp only[ho];rw[← hwa,hob.2.1];simp only[if_true];refine .inl (ug (uo hex.symm (hob.2.2.2 w inv.ext hfacts)) (fun u w' hu=>?_));have:=next (fun j=>if j=i then u else s j) w' (fun j hj=>by simp[hj]) hu.2 (fun V' hV'=>by
         rw[hK] at hV';injection hV' with hV'
         subst hV';simpa using hu.1)
       simpa [uC,hK] using this
    by_cases hfr:∃ i,i∈Region.ready .any ops.toArray listed∧i<n∧fl.contains i=true
    · obtain⟨i,hi,hin,hfl⟩:=hfr
      rcases main i hi hin with ⟨v,o,ho,hy,_,hnx⟩|⟨hno,_⟩
      · have hfl' : i∈fl:=by simpa using hfl
        refine wpAny_first ho (Region.noSelect_spec hsel) (fun c a w=>?_) _ listed a w (fun j oj hoj hji hjun hnot=>?_) hi hy hnx
        · rcases hQ with h0|h0
          · rw[h0] at hfl';cases hfl'
          · exact h0 c a o.dst v w
        · have h1:=List.all_eq_true.1 hfloat i hfl';simp only[Bool.and_eq_true] at h1;have hoj' : ops[j]?=some oj:=by simpa using hoj
          have ho' : ops[i]?=some o:=by simpa using ho
          have h2:=List.all_eq_true.1 h1.2 j (List.mem_range.2 (List.getElem?_eq_some_iff.1 hoj').1);simp only[ho',hoj',Bool.or_eq_true,beq_iff_eq] at h2
          rcases h2 with (h2|h2)|h2|h2
          · exact absurd h2.symm hji
          · obtain⟨_,o1,ho1,hwait⟩:=mem_ready.1 hi;have h3:=yf (L:=fun j=>listed.getD j false) inv.closed i o1 (by simpa using ho1) hwait j h2;simp only[getD_both hjun] at h3;cases h3
          · obtain⟨e,he,h3⟩:=Array.any_eq_true'.1 h2;simp only[Bool.and_eq_true,beq_iff_eq] at h3;exact absurd h3.2 (hnot e he h3.1)
          · exact h2
      · rw[hno] at hfl;cases hfl
    · refine⟨fun h0=>absurd h0 hne,fun i hi=>?_⟩;have hin:i<n:=by
        rcases Nat.lt_or_ge i n with h1|h1
        · exact h1
        · exfalso;obtain⟨hiun,o,ho,hwait⟩:=mem_ready.1 hi;have ho' : ops[i]?=some o:=by simpa using ho
          have hil:i<ops.length:=(List.getElem?_eq_some_iff.1 ho').1;have hancl:=yf (L:=fun j=>listed.getD j false) inv.closed i o ho' hwait;have h2:=List.all_eq_true.1 htail i (List.mem_range.2 hil);simp only[Bool.or_eq_true,decide_eq_true_eq] at h2
          rcases h2 with h2|h2
          · omega
          · have h3:=List.all_eq_true.1 h2 m (List.mem_range.2 Om);simp only[Bool.or_eq_true,Bool.and_eq_true] at h3
            rcases h3 with h3|⟨h3,_⟩
            · have h4:=hancl m h3;simp only[hml] at h4;cases h4
            · exact hfr ⟨m,hmr,hmn,h3⟩
      rcases main i hi hin with ⟨v,o,ho,hy,hfl,hnx⟩|⟨_,h1⟩
      · exact absurd ⟨i,hi,hin,hfl⟩ hfr
      · exact h1
end
theorem mo {P:Program} {id:Nat} {Q:Exit→Act→World→Prop} {a:Act} {w:World} {l:List Oper} (fl:LN) (n:Nat) (K:Nat→Kind) (hm:P.follows .mixedOrders=true) (hB:yL l fl n=true)
  (hQ:fl=[]∨∀ c a d v w,Q (.panic c) (Act.put a d v) w→Q (.panic c) a w)
  (h:kp P l fl w K (fun a' F=>∀ w',Below w.heap.size w w'→(∀ j,F j w')→wpList P l.toArray Q (l.drop n) a' w') (l.take n) 0 a (fun _ _=>True)):(Code.region id l.toArray true).wp P Q a w:=by
 refine wp_region_any hm ?_;have hB':=hB;unfold yL at hB';simp only[Bool.and_eq_true,decide_eq_true_eq] at hB';obtain⟨⟨⟨⟨⟨⟨⟨hsel,hn⟩,_⟩,_⟩,_⟩,_⟩,_⟩,hseq⟩:=hB';have:=om (Q:=Q) (a0:=a) hB hQ h (fun s a' w' hF hb hf=>by
  have hdl:(l.drop n).length=l.length - n:=by simp
  have:=wpAny_of_seq (md:=.any) (Q':=Q) (l.drop n) n ((List.replicate n true++List.replicate (l.length - n) false).toArray) a' w' (fun j=>by simp[List.getElem?_drop]) (by rw[hdl];exact hseq) (hF w' hb hf);rwa [hdl] at this) n (fun _=>undef) (Array.replicate l.toArray.size false) a { w with drawn:=w.drawn+1 } ?_ ?_
 ·rw[show n+(l.length - n)=l.toArray.size by simp;omega] at this;exact this
 ·refine⟨by simp,fun j o _ hl=>(by rw[getD_replicate_false] at hl;cases hl),fun t _=>getD_replicate_false _ _,?_,⟨rfl,rfl,rfl,Nat.le_refl _,fun _ _=>rfl⟩,fun j _ hl=>(by rw[getD_replicate_false] at hl;cases hl)⟩;have gen:∀ (l' : List Oper) (i:Nat) (a:Act),yC (uC K fun _=>undef) (fun j=>(Array.replicate l.toArray.size false).getD j false) l' i a=a:=by
   intro l'
   induction l' with
   | nil=>intro i a;rfl
   | cons o l' ih =>
    intro i a;unfold yC;rw[getD_replicate_false];exact ih (i+1) a
  exact (gen _ 0 a).symm
 ·have:((List.range n).filter fun j=>!(Array.replicate l.toArray.size false).getD j false)=List.range n:=by
   apply List.filter_eq_self.2;intro j _;rw[getD_replicate_false];rfl
  rw[this];simp
section
variable (P:Program) (ops:List Oper) (fl:LN) (w0:World)
def kpl (Fin:Act→(Nat→World→Prop)→Prop):List Kind→List Oper→Nat→Act→(Nat→World→Prop)→Prop
 | k::ks,o::l,i,a,F=>obl P ops fl w0 (fun _=>k) i o a F ∧
  match k with
  | .skip=>kpl Fin ks l (i+1) (a.put o.dst undef) F
  | .val v=>kpl Fin ks l (i+1) (a.put o.dst v) F
  | .rel V=>∀ u,kpl Fin ks l (i+1) (a.put o.dst u) (fun j=>if j=i then V u else F j)
 | [],[],_,a,F=>Fin a F
 | _,_,_,_,_=>False
end
theorem tQ {P:Program} {ops:List Oper} {fl:LN} {w0:World} {K:Nat→Kind} {Fin:Act→(Nat→World→Prop)→Prop}:∀ (ks:List Kind) (l:List Oper) (i:Nat) (a:Act) (F:Nat→World→Prop),
  (∀ j k,ks[j]?=some k→K (i+j)=k)→kpl P ops fl w0 Fin ks l i a F→kp P ops fl w0 K Fin l i a F
 | [],[],_,_,_,_,h=>h
 | [],_::_,_,_,_,_,h=>h.elim
 | _::_,[],_,_,_,_,h=>h.elim
 | k::ks,o::l,i,a,F,hK,h=>by
  unfold kpl at h;obtain⟨h1,h2⟩:=h;have h0:K i=k:=hK 0 k rfl;have hr:∀ j k',ks[j]?=some k'→K (i+1+j)=k':=fun j k' hj=>by
   have:=hK (j+1) k' (by simpa using hj);rwa [show i+(j+1)=i+1+j by omega] at this
  unfold kp;refine⟨by unfold obl at h1 ⊢;rw[h0];exact h1,?_⟩;rw[h0];cases k with
  | skip=>exact tQ ks l (i+1) _ _ hr h2
  | val v=>exact tQ ks l (i+1) _ _ hr h2
  | rel V=>exact fun u=>tQ ks l (i+1) _ _ hr (h2 u)
theorem wp_region_kpl {P:Program} {id:Nat} {Q:Exit→Act→World→Prop} {a:Act} {w:World} {l:List Oper} (n:Nat) (hm:P.follows .mixedOrders=true) (hB:yL l [] n=true)
  (h:∀ (L:List Oper) (Fin:Act→(Nat→World→Prop)→Prop),L=l→(∀ a' F,(∀ w',Below w.heap.size w w'→(∀ j,F j w')→wpList P l.toArray Q (l.drop n) a' w')→Fin a' F) →
   ∃ ks,kpl P L [] w Fin ks (l.take n) 0 a (fun _ _=>True)):(Code.region id l.toArray true).wp P Q a w :=
 let ⟨ks,h⟩:=h l _ rfl (fun _ _ h=>h)
 mo [] n (fun i=>ks.getD i .skip) hm hB (.inl rfl) (tQ ks _ _ _ _ (fun j k hj=>by simp[List.getD,hj]) h)
section
variable {P:Program} {ops:List Oper} {fl:LN} {w0:World} {ks:List Kind} {Fin:Act→(Nat→World→Prop)→Prop} {o:Oper} {l:List Oper} {i:Nat} {a:Act} {F:Nat→World→Prop}
theorem kp_nil (h:Fin a F):kpl P ops fl w0 Fin [] [] i a F:=h
theorem kp_free {v:Value} (hw:Region.wanted o (yielded ops.toArray a.tmps)=true) (hr:∀ w,(execOp a.eval o).run P w=.ok (.value v) w)
  (h:kpl P ops fl w0 Fin ks l (i+1) (a.put o.dst v) F):kpl P ops fl w0 Fin (.val v::ks) (o::l) i a F:=⟨⟨hw,.inl hr⟩,h⟩
theorem agK {v:Value} (hf:fl.contains i=false) (hw:Region.wanted o (yielded ops.toArray a.tmps)=true)
  (hr:∀ w,Below w0.heap.size w0 w→(∀ j,anc ops i j=true→F j w)→kyp P o a w (fun u w'=>u=v∧Below w.heap.size w w'))
  (h:kpl P ops fl w0 Fin ks l (i+1) (a.put o.dst v) F):kpl P ops fl w0 Fin (.val v::ks) (o::l) i a F:=⟨⟨hw,.inr ⟨hf,hr⟩⟩,h⟩
theorem kp_now {v:Value} (hf:fl.contains i=false) (hw:Region.wanted o (yielded ops.toArray a.tmps)=true)
  (hr:∀ w,Below w0.heap.size w0 w→(execOp a.eval o).run P w=.ok (.value v) w)
  (h:kpl P ops fl w0 Fin ks l (i+1) (a.put o.dst v) F):kpl P ops fl w0 Fin (.val v::ks) (o::l) i a F :=
 agK hf hw (fun w hb _=>by unfold kyp;rw[hr w hb];exact⟨rfl,Below.refl _ _⟩) h
theorem jP {f:FuncId} {args:Array Value} {w:World} {R:Value→World→Prop} (he:(execOp a.eval o).run P w=.ok (.enter f args) w)
  (hc:Calls P f args w (fun e w''=>∃ v,e=.returned v∧R v w'')):kyp P o a w R:=by
 unfold kyp;rw[he];exact hc
end
end Kp
end
section
open Go Go.RowKit
namespace Sx
open Kp
abbrev zT:=Nat→Nat→Nat
inductive Kind where
 | skip
 | val (v:Value)
 | rel (v:(Nat→Nat)→Value) (S:(Nat→Nat)→Prop) (V:(Nat→Nat)→World→Prop) (A:(Nat→Nat)→List Nat)
def apart (x y:LN):Prop:=∀ g∈x,∀ h∈y,g≠h
section
variable (P:Program) (ops:List Oper) (fl:LN) (w0:World)
def obl (k:Kind) (i:Nat) (o:Oper) (a:Act) (F:Nat→World→Prop):Prop :=
 match k with
 | .skip=>Region.wanted o (yielded ops.toArray a.tmps)=false
 | .val v=>Region.wanted o (yielded ops.toArray a.tmps)=true∧((∀ w,(execOp a.eval o).run P w=.ok (.value v) w)∨(fl.contains i=false ∧
   ∀ w,Below w0.heap.size w0 w→(∀ j,anc ops i j=true→F j w)→kyp P o a w (fun u w'=>u=v∧Below w.heap.size w w')))
 | .rel v S V A=>fl.contains i=false∧Region.wanted o (yielded ops.toArray a.tmps)=true∧(∃ x,S x)∧(∀ x w w',V x w→Below w.heap.size w w'→V x w') ∧
   ∀ w,Below w0.heap.size w0 w→(∀ j,anc ops i j=true→F j w)→kyp P o a w (fun u w'=>∃ x,u=v x∧S x∧V x w'∧Below w.heap.size w w'∧∀ g∈A x,w.heap.size≤g∧g<w'.heap.size)
def acn (k:Kind) (x:Nat→Nat):Value :=
 match k with
 | .skip=>undef
 | .val v=>v
 | .rel v _ _ _=>v x
def kD (k:Kind) (x:Nat→Nat):Prop :=
 match k with
 | .rel _ S _ _=>S x
 | _=>True
def qs (k:Kind) (x:Nat→Nat) (w:World):Prop :=
 match k with
 | .rel _ _ V _=>V x w
 | _=>True
def iB (k:Kind) (x:Nat→Nat):List Nat :=
 match k with
 | .rel _ _ _ A=>A x
 | _=>[]
variable (K:Nat→zT→Kind)
def uC (s:zT) (i:Nat):Value:=acn (K i s) (s i)
def facts (s:zT):Nat→Nat→World→Prop
 | 0=>fun _ _=>True
 | i+1=>fun j w=>if j=i then qs (K i s) (s i) w else facts s i j w
def fD (s:zT):Nat→List (List Nat)
 | 0=>[]
 | i+1=>iB (K i s) (s i)::fD s i
def chain (Fin:Act→(Nat→World→Prop)→List (List Nat)→Prop) (s:zT):List Oper→Nat→Act→(Nat→World→Prop)→List (List Nat)→Prop
 | [],_,a,F,G=>Fin a F G
 | o::l,i,a,F,G=>obl P ops fl w0 (K i s) i o a F∧(kD (K i s) (s i)→chain Fin s l (i+1) (a.put o.dst (acn (K i s) (s i))) (fun j w=>if j=i then qs (K i s) (s i) w else F j w) (iB (K i s) (s i)::G))
end
section
variable {P:Program} {ops:List Oper} {fl:LN} {w0:World} {K:Nat→zT→Kind}
theorem uD {s:zT} {j:Nat} {w:World}:∀ i,(j<i→qs (K j s) (s j) w)→facts K s i j w
 | 0,_=>trivial
 | i+1,h=>by
  unfold facts;split
  ·rename_i e;subst e;exact h Om
  ·exact uD i (fun hj=>h Om)
theorem oO {Fin:Act→(Nat→World→Prop)→List (List Nat)→Prop} {s:zT}:∀ (l:List Oper) (i:Nat),
  (∀ (j:Nat) (o:Oper),l[j]?=some o→∀ (k:Nat) (o' : Oper),l[k]?=some o'→j≠k→∀ t,o.dst=some t→o'.dst≠some t) →
  (∀ j,i≤j→j<i+l.length→kD (K j s) (s j)) →
  ∀ a:Act,chain P ops fl w0 K Fin s l i a (facts K s i) (fD K s i) →
  (∀ j o,l[j]?=some o→obl P ops fl w0 (K (i+j) s) (i+j) o (yC (uC K s) (fun m=>decide (m<i+j)) l i a) (facts K s (i+j))) ∧
  Fin (yC (uC K s) (fun _=>true) l i a) (facts K s (i+l.length)) (fD K s (i+l.length))
 | [],i,_,_,a,h=>⟨fun j o hj=>by simp at hj,h⟩
 | o::l,i,hd,hs,a,h=>by
  unfold chain at h;obtain⟨hob,hrest⟩:=h;have hd' : ∀ (j:Nat) (o:Oper),l[j]?=some o→∀ (k:Nat) (o' : Oper),l[k]?=some o'→j≠k→∀ t,o.dst=some t→o'.dst≠some t:=fun j o hj k o' hk hne=>hd (j+1) o (by simpa using hj) (k+1) o' (by simpa using hk) Om;have hk:=hrest (hs i (Nat.le_refl _) Sm);obtain⟨h1,h2⟩:=oO l (i+1) hd' (fun j h1 h2=>hs j Om (by simp only[List.length_cons];omega)) _ hk;refine⟨fun j o' hj=>?_,?_⟩
  ·cases j with
   | zero =>
    have:o=o':=by simpa using hj
    subst this;have he:yC (uC K s) (fun m=>decide (m<i+0)) (o::l) i a=a:=by
     have gen:∀ (l:List Oper) (k:Nat) (a:Act),i≤k→yC (uC K s) (fun m=>decide (m<i+0)) l k a=a:=by
      intro l
      induction l with
      | nil=>intro k a _;rfl
      | cons o l ih =>
       intro k a hk;unfold yC;rw[if_neg (by simp;omega)];exact ih (k+1) a Om
     exact gen _ i a (Nat.le_refl _)
    rw[he];exact hob
   | succ j =>
    have e:i+(j+1)=i+1+j:=by omega
    rw[e];have:=h1 j o' (by simpa using hj);unfold yC;rw[if_pos (by simp;omega)];exact this
  ·unfold yC;rw[if_pos rfl];have e:i+(o::l).length=i+1+l.length:=by simp;omega
   rw[e];exact h2
def Dep (ops:List Oper) (i:Nat) (k:zT→Kind):Prop:=∀ s s' : zT,(∀ j,anc ops i j=true→s j=s' j)→k s=k s'
theorem nk {L:Nat→Bool} (hdep:∀ i,Dep ops i (K i)) (hlt:∀ i j,anc ops i j=true→j<i) (hex:∀ i s,∃ x,kD (K i s) x)
  (hcl:∀ i j,L i=true→anc ops i j=true→L j=true) (s:zT) (hs:∀ i,L i=true→kD (K i s) (s i)) :
  ∀ n,∃ s',(∀ i,L i=true→s' i=s i)∧∀ i,i<n→kD (K i s') (s' i)
 | 0=>⟨s,fun _ _=>rfl,fun i hi=>absurd hi (Nat.not_lt_zero _)⟩
 | n+1=>by
  obtain⟨s',h1,h2⟩:=nk hdep hlt hex hcl s hs n
  by_cases hL:L n=true
  ·refine⟨s',h1,fun i hi=>?_⟩
   by_cases e:i=n
   ·subst e;rw[h1 i hL,hdep i s' s (fun j hj=>h1 j (hcl i j hL hj))];exact hs i hL
   ·exact h2 i Om
  ·obtain⟨x,hx⟩:=hex n s';refine⟨fun j=>if j=n then x else s' j,fun i hi=>?_,fun i hi=>?_⟩
   ·by_cases e:i=n
    ·subst e;exact absurd hi hL
    ·simp only[e,if_false];exact h1 i hi
   ·have hd:K i (fun j=>if j=n then x else s' j)=K i s':=hdep i _ _ (fun j hj=>by
     have:=hlt i j hj;have:j≠n:=by omega
     simp only[this,if_false])
    rw[hd]
    by_cases e:i=n
    ·subst e;simp only[if_true];exact hx
    ·simp only[e,if_false];exact h2 i Om
theorem mY {s:zT} {w:World}:∀ n,(∀ i,i<n→∀ g∈iB (K i s) (s i),w0.heap.size≤g∧g<w.heap.size)→(∀ i j,i<n→j<n→i≠j→apart (iB (K i s) (s i)) (iB (K j s) (s j))) →
  (fD K s n).Pairwise apart∧∀ x∈fD K s n,∀ g∈x,w0.heap.size≤g∧g<w.heap.size
 | 0,_,_=>by simp[fD]
 | n+1,h1,h2=>by
  obtain⟨p1,p2⟩:=mY n (fun i hi=>h1 i Om) (fun i j hi hj=>h2 i j Om Om);have mem:∀ m x,x∈fD K s m→∃ i,i<m∧x=iB (K i s) (s i):=by
   intro m
   induction m with
   | zero=>intro x hx;simp[fD] at hx
   | succ m ih =>
    intro x hx;unfold fD at hx
    rcases List.mem_cons.1 hx with rfl|hx
    ·exact⟨m,by omega,rfl⟩
    ·obtain⟨i,hi,e⟩:=ih x hx;exact⟨i,by omega,e⟩
  unfold fD;refine⟨List.pairwise_cons.2 ⟨fun x hx=>?_,p1⟩,fun x hx=>?_⟩
  ·obtain⟨i,hi,rfl⟩:=mem n x hx;exact h2 n i Om Om Om
  ·rcases List.mem_cons.1 hx with rfl|hx
   ·exact h1 n Om
   ·exact p2 x hx
structure Inv (ops:List Oper) (w0:World) (K:Nat→zT→Kind) (n:Nat) (a0:Act) (s:zT) (listed:Array Bool) (a:Act) (w:World):Prop where
 size:listed.size=ops.length
 closed:∀ j o,ops[j]?=some o→listed.getD j false=true→∀ e∈o.after,Region.binds .any e=true→listed.getD e.on false=true
 tail:∀ t,n≤t→listed.getD t false=false
 frame:a=yC (uC K s) (fun j=>listed.getD j false) (ops.take n) 0 a0
 ext:Below w0.heap.size w0 w
 sat:∀ j,j<n→kD (K j s) (s j)
 known:∀ j,j<n→listed.getD j false=true→qs (K j s) (s j) w
 addr:∀ j,j<n→listed.getD j false=true→∀ g∈iB (K j s) (s j),w0.heap.size≤g∧g<w.heap.size
 away:∀ i j,i<n→j<n→i≠j→listed.getD i false=true→listed.getD j false=true→apart (iB (K i s) (s i)) (iB (K j s) (s j))
theorem om {n:Nat} {a0:Act} {Q:Exit→Act→World→Prop} {Fin:zT→Act→(Nat→World→Prop)→List (List Nat)→Prop} (hB:yL ops fl n=true)
    (hQ:fl=[]∨∀ c a d v w,Q (.panic c) (Act.put a d v) w→Q (.panic c) a w) (hdep:∀ i,Dep ops i (K i)) (hexi:∀ i s,∃ x,kD (K i s) x)
    (h:∀ s,chain P ops fl w0 K (Fin s) s (ops.take n) 0 a0 (fun _ _=>True) [])
    (hfin:∀ (s:zT) (a:Act) (w:World),Fin s a (facts K s n) (fD K s n)→Below w0.heap.size w0 w→(∀ j,facts K s n j w)→(fD K s n).Pairwise apart→(∀ x∈fD K s n,∀ g∈x,w0.heap.size≤g) →
      wpAny P .any ops.toArray Q (ops.length - n) ((List.replicate n true++List.replicate (ops.length - n) false).toArray) a w) :
    ∀ (f:Nat) (s:zT) (listed:Array Bool) (a:Act) (w:World),Inv ops w0 K n a0 s listed a w→((List.range n).filter fun j=>!listed.getD j false).length=f →
      wpAny P .any ops.toArray Q (f+(ops.length - n)) listed a w:=by
  unfold yL at hB;simp only[Bool.and_eq_true,decide_eq_true_eq] at hB;obtain⟨⟨⟨⟨⟨⟨⟨hsel,hn⟩,hback⟩,hdst⟩,hself⟩,htail⟩,hfloat⟩,hseq⟩:=hB;have hlen:(ops.take n).length=n:=by simp;omega
  have hget:∀ j,j<n→(ops.take n)[j]?=ops[j]?:=fun j hj=>by rw[List.getElem?_take];simp[hj]
  have hdist:∀ (j:Nat) (o:Oper),(ops.take n)[j]?=some o→∀ (k:Nat) (o' : Oper),(ops.take n)[k]?=some o'→j≠k→∀ t,o.dst=some t→o'.dst≠some t:=by
    intro j o hj k o' hk hne t ht;have hjn:j<n:=by have:=(List.getElem?_eq_some_iff.1 hj).1;omega
    have hkn:k<n:=by have:=(List.getElem?_eq_some_iff.1 hk).1;omega
    rw[hget j hjn] at hj;rw[hget k hkn] at hk;have:=List.all_eq_true.1 (List.all_eq_true.1 hdst j (List.mem_range.2 hjn)) k (List.mem_range.2 hkn);simp only[hj,hk,ht,Bool.or_eq_true,beq_iff_eq,Bool.and_eq_true,bne_iff_ne] at this
    rcases this with h|h
    · exact absurd h hne
    · exact h.1
  have hlooks:∀ (j:Nat) (o:Oper),ops[j]?=some o→j<n→∀ (k:Nat) (o' : Oper),ops[k]?=some o'→k<n→∀ t,o'.dst=some t→t∈o.looksAt ops.toArray→anc ops j k=true:=by
    intro j o hj hjn k o' hk hkn t ht hmem
    by_cases hjk:j=k
    · subst hjk;have:o=o':=Option.some.inj (hj.symm.trans hk);subst this;have:=List.all_eq_true.1 hself j (List.mem_range.2 hjn);simp only[hj,ht,Bool.not_eq_true'] at this;have hc:(o.looksAt ops.toArray).contains t=true:=by simpa using hmem
      rw[hc] at this;cases this
    · have:=List.all_eq_true.1 (List.all_eq_true.1 hdst j (List.mem_range.2 hjn)) k (List.mem_range.2 hkn);simp only[hj,hk,ht,Bool.or_eq_true,beq_iff_eq,Bool.and_eq_true] at this
      rcases this with h|h
      · exact absurd h hjk
      · rcases h.2 with h3|h3
        · have hc:(o.looksAt ops.toArray).contains t=true:=by simpa using hmem
          rw[hc] at h3;cases h3
        · exact h3
  intro f
  induction f with
  | zero =>
    intro s listed a w inv hf;have hall:∀ j,j<n→listed.getD j false=true:=by
      intro j hj;cases hl:listed.getD j false with
      | true=>rfl
      | false =>
        have:j∈(List.range n).filter fun j=>!listed.getD j false:=List.mem_filter.2 ⟨List.mem_range.2 hj,by rw[hl];rfl⟩;rw[List.length_eq_zero_iff.1 hf] at this;cases this
    have hlist:listed=((List.replicate n true++List.replicate (ops.length - n) false).toArray):=by
      apply Array.ext
      · simp[inv.size];omega
      · intro i h1 h2;have h3:listed.getD i false=listed[i]:=by simp[h1]
        rw[← h3]
        rcases Nat.lt_or_ge i n with hi|hi
        · rw[hall i hi];simp[List.getElem_append,hi]
        · rw[inv.tail i hi];simp[List.getElem_append,Nat.not_lt.2 hi]
    obtain⟨_,hF⟩:=oO (Fin:=Fin s) (s:=s) (ops.take n) 0 hdist (fun j _ hj=>inv.sat j Om) a0 (h s);rw[Nat.zero_add,hlist];have hadd:=mY (K:=K) (s:=s) (w0:=w0) (w:=w) n (fun i hi=>inv.addr i hi (hall i hi)) (fun i j hi hj hne=>inv.away i j hi hj hne (hall i hi) (hall j hj));refine hfin s a w ?_ inv.ext (fun j=>uD n (fun hj=>inv.known j hj (hall j hj))) hadd.1 (fun x hx g hg=>(hadd.2 x hx g hg).1);rw[inv.frame];rw[hlen,Nat.zero_add] at hF;rw[yH (u:=uC K s) (u':=uC K s) (L':=fun _=>true) (ops.take n) 0 a0 (fun j _ hj=>⟨hall j Om,fun _=>rfl⟩)];exact hF
  | succ f ih =>
    intro s listed a w inv hf;obtain⟨hobl,_⟩:=oO (Fin:=Fin s) (s:=s) (ops.take n) 0 hdist (fun j _ hj=>inv.sat j Om) a0 (h s);have hex:∃ m,m<n∧listed.getD m false=false:=by
      cases hl:(List.range n).filter fun j=>!listed.getD j false with
      | nil=>rw[hl] at hf;cases hf
      | cons m l =>
        have hm:m∈(List.range n).filter fun j=>!listed.getD j false:=by rw[hl];simp
        rw[List.mem_filter] at hm;exact⟨m,List.mem_range.1 hm.1,by simpa using hm.2⟩
    obtain⟨m,⟨hmn,hml⟩,hleast⟩:=exists_least hex;have hmr:m∈Region.ready .any ops.toArray listed:=by
      rw[mem_ready];have hmo:ops[m]?=some (ops[m]' Om):=List.getElem?_eq_getElem Om;refine⟨getD_in (by rw[inv.size];omega) hml,ops[m]' Om,by simp,fun e he hb=>?_⟩;have hlt:=yg hback hmo e he hb;cases hle:listed.getD e.on false with
      | true=>rfl
      | false=>have:=hleast e.on ⟨by omega,hle⟩;omega
    have hne:Region.ready .any ops.toArray listed≠[]:=fun h0=>by rw[h0] at hmr;cases hmr
    rw[show f+1+(ops.length - n)=(f+(ops.length - n))+1 by omega]
    have main:∀ i,i∈Region.ready .any ops.toArray listed→i<n →
        (∃ v o,ops.toArray[i]?=some o∧Yields P ops.toArray o v a∧fl.contains i=true∧wpAny P .any ops.toArray Q (f+(ops.length - n)) (listed.setIfInBounds i true) (a.put o.dst v) w) ∨
        (fl.contains i=false∧wpOp P ops.toArray Q i (wpAny P .any ops.toArray Q (f+(ops.length - n)) (listed.setIfInBounds i true)) a w):=by
     intro i hi hin;obtain⟨hiun,o,ho,hwait⟩:=mem_ready.1 hi;have ho' : ops[i]?=some o:=by simpa using ho
     have hil:i<ops.length:=(List.getElem?_eq_some_iff.1 ho').1;have hancl:=yf (L:=fun j=>listed.getD j false) inv.closed i o ho' hwait;have hiu:listed.getD i false=false:=getD_both hiun;have hanclt:∀ j,anc ops i j=true→j<i:=fun j hj=>by
       have:=yf (ops:=ops) (L:=fun j=>decide (j<i)) (fun j o' hj' hL e he hb=>by
         have:=yg hback hj' e he hb;simp only[decide_eq_true_eq] at hL ⊢;omega) i o ho' (fun e he hb=>by simpa using yg hback ho' e he hb) j hj
       simpa using this
     have hob:=hobl i o (by rw[hget i hin];exact ho');rw[Nat.zero_add] at hob;have hag:Agree (o.looksAt ops.toArray) (yC (uC K s) (fun m=>decide (m<i)) (ops.take n) 0 a0) a:=by
       rw[inv.frame];refine tu _ 0 a0 a0 (fun _ _=>rfl) (fun j oj hj hdiff t ht hmem=>?_);have hjn:j<n:=by have:=(List.getElem?_eq_some_iff.1 hj).1;omega
       rw[hget j hjn] at hj;have ha:=hlooks i o ho' hin j oj hj hjn t ht hmem;have h1:=hancl j ha;have h2:=hanclt j ha;simp only[Nat.zero_add] at hdiff;simp only[h1,h2,decide_true,ne_eq,not_true_eq_false] at hdiff
     have hsel' : ∀ cs b,o.op≠.select cs b:=fun cs b=>Region.noSelect_spec hsel i o cs b ho;have hex:=qN (ops:=ops) hsel' hag;have hwa:=sQ (ops:=ops) hag;have hfacts:∀ j,anc ops i j=true→facts K s i j w:=fun j hj=>uD i (fun hji=>inv.known j Om (hancl j hj));have hne_of:∀ j,listed.getD j false=true→j≠i:=fun j hl e=>by subst e;simp only[hiu] at hl;cases hl
     have next:∀ (s' : zT) (w' : World),(∀ j,listed.getD j false=true→s' j=s j)→(∀ j,listed.getD j false=true→K j s'=K j s)→K i s'=K i s→(∀ j,j<n→kD (K j s') (s' j))→Below w.heap.size w w'→qs (K i s) (s' i) w' →
         (∀ g∈iB (K i s) (s' i),w.heap.size≤g∧g<w'.heap.size) →
         wpAny P .any ops.toArray Q (f+(ops.length - n)) (listed.setIfInBounds i true) (a.put o.dst (acn (K i s) (s' i))) w':=by
       intro s' w' hs' hK' hKi hsat hb hV hA;refine ih s' _ _ w' ⟨by simp[inv.size],fun j oj hj hl e he hb=>?_,fun t ht=>?_,?_,inv.ext.trans (hb.mono inv.ext.size),hsat,fun j hj hl=>?_,fun j hj hl=>?_,fun j k hj hk hne hlj hlk=>?_⟩ ?_
       · by_cases hij:i=j
         · subst hij;have:oj=o:=Option.some.inj (hj.symm.trans ho');subst this;exact getD_set_true (hwait e he hb)
         · rw[getD_set_ne false hij] at hl;exact getD_set_true (inv.closed j oj hj hl e he hb)
       · rw[getD_set_ne false Om];exact inv.tail t ht
       · have h1:=qi (u:=uC K s') (L:=fun j=>listed.getD j false) (ops.take n) 0 a0 i o (by rw[hget i hin];exact ho') (by rw[Nat.zero_add];exact hiu)
           (fun j o' hj hne=>hdist i o (by rw[hget i hin];exact ho') j o' hj (Ne.symm hne))
         rw[Nat.zero_add] at h1
         rw[yH (u:=uC K s') (u':=uC K s') (L':=fun j=>if j=i then true else listed.getD j false) (ops.take n) 0 a0 (fun j _ _=>⟨by
           by_cases hij:j=i
           · subst hij;simp[inv.size,hil]
           · rw[getD_set_ne false (Ne.symm hij),if_neg hij],fun _=>rfl⟩),h1]
         have hvi:uC K s' i=acn (K i s) (s' i):=by unfold uC;rw[hKi]
         rw[hvi,inv.frame,yH (u:=uC K s) (u':=uC K s') (L':=fun j=>listed.getD j false) (ops.take n) 0 a0 (fun j _ _=>⟨rfl,fun hL=>by
           unfold uC;rw[hK' j hL,hs' j hL]⟩)]
       · by_cases hij:j=i
         · subst hij;rw[hKi];exact hV
         · rw[getD_set_ne false (Ne.symm hij)] at hl;rw[hs' j hl,hK' j hl];have hoj:ops[j]?=some (ops[j]' Om):=List.getElem?_eq_getElem Om;have hoblj:=hobl j _ (by rw[hget j hj];exact hoj);rw[Nat.zero_add] at hoblj;have hkn:=inv.known j hj hl;revert hoblj hkn;unfold obl qs;cases K j s with
           | rel v S V A=>exact fun hoblj hkn=>hoblj.2.2.2.1 _ _ _ hkn hb
           | _=>exact fun _ _=>trivial
       · by_cases hij:j=i
         · subst hij;rw[hKi];exact fun g hg=>⟨Nat.le_trans inv.ext.size (hA g hg).1,(hA g hg).2⟩
         · rw[getD_set_ne false (Ne.symm hij)] at hl;rw[hs' j hl,hK' j hl];exact fun g hg=>⟨(inv.addr j hj hl g hg).1,Nat.lt_of_lt_of_le (inv.addr j hj hl g hg).2 hb.size⟩
       · by_cases hij:j=i
         · subst hij;rw[getD_set_ne false hne] at hlk;rw[hKi,hs' k hlk,hK' k hlk];intro g hg g' hg' e;have:=(hA g hg).1;have:=(inv.addr k hk hlk g' hg').2;omega
         · rw[getD_set_ne false (Ne.symm hij)] at hlj
           by_cases hik:k=i
           · subst hik;rw[hKi,hs' j hlj,hK' j hlj];intro g hg g' hg' e;have:=(hA g' hg').1;have:=(inv.addr j hj hlj g hg).2;omega
           · rw[getD_set_ne false (Ne.symm hik)] at hlk;rw[hs' j hlj,hK' j hlj,hs' k hlk,hK' k hlk];exact inv.away j k hj hk hne hlj hlk
       · have:=uO (List.range n) List.nodup_range i (List.mem_range.2 hin) (p:=fun j=>!listed.getD j false) (q:=fun j=>!(listed.setIfInBounds i true).getD j false) (by simp only[hiu];rfl) (by simp[inv.size,hil])
           (fun j hj=>by simp only[getD_set_ne false (Ne.symm hj)])
         omega
     have same:∀ w',Below w.heap.size w w'→qs (K i s) (s i) w'→(∀ g∈iB (K i s) (s i),w.heap.size≤g∧g<w'.heap.size) →
         wpAny P .any ops.toArray Q (f+(ops.length - n)) (listed.setIfInBounds i true) (a.put o.dst (acn (K i s) (s i))) w':=fun w' hb hV hA=>next s w' (fun _ _=>rfl) (fun _ _=>rfl) rfl inv.sat hb hV hA
     have hbase:∀ j k,listed.getD j false=true→anc ops j k=true→listed.getD k false=true:=fun j k hl ha=>by
       rcases Nat.lt_or_ge j ops.length with hlt|hge
       · have hoj:ops[j]?=some (ops[j]'hlt):=List.getElem?_eq_getElem hlt;exact yf (L:=fun j=>listed.getD j false) inv.closed j _ hoj (inv.closed j _ hoj hl) k ha
       · rw[inv.tail j Om] at hl;cases hl
     revert hob same next
     unfold obl acn qs iB;cases hK:K i s with
     | skip =>
       intro hob next same
       have hnx:=same w (Below.refl _ _) trivial Sm
       by_cases hfl:fl.contains i=true
       · exact .inl ⟨undef,o,ho,.inr ⟨by rw[← hwa];exact hob,rfl⟩,hfl,hnx⟩
       · refine .inr ⟨by simpa using hfl,?_⟩;unfold wpOp;simp only[ho];rw[← hwa,hob];simp only[Bool.false_eq_true,if_false];exact hnx
     | val v =>
       intro hob next same
       have hnx:∀ w',Below w.heap.size w w'→wpAny P .any ops.toArray Q (f+(ops.length - n)) (listed.setIfInBounds i true) (a.put o.dst v) w':=fun w' hb=>same w' hb trivial Sm
       rcases hob.2 with hfree|⟨hfl,hr⟩
       · by_cases hfl:fl.contains i=true
         · exact .inl ⟨v,o,ho,.inl ⟨by rw[← hwa];exact hob.1,fun w=>by rw[← hex];exact hfree w⟩,hfl,hnx w (Below.refl _ _)⟩
         · refine .inr ⟨by simpa using hfl,?_⟩;unfold wpOp;simp only[ho];rw[← hwa,hob.1];simp only[if_true];refine .inl (ug (R:=fun u w'=>u=v∧w'=w) (uo hex.symm (by unfold kyp;rw[hfree w];exact⟨rfl,rfl⟩)) (fun u w' hu=>?_));rw[hu.1,hu.2];exact hnx w (Below.refl _ _)
       · refine .inr ⟨hfl,?_⟩;unfold wpOp;simp only[ho];rw[← hwa,hob.1];simp only[if_true];refine .inl (ug (uo hex.symm (hr w inv.ext hfacts)) (fun u w' hu=>?_));rw[hu.1];exact hnx w' hu.2
     | rel v S V A =>
       intro hob next same
       obtain⟨hfl,hwt,_,_,hr⟩:=hob;refine .inr ⟨hfl,?_⟩;unfold wpOp;simp only[ho];rw[← hwa,hwt];simp only[if_true];refine .inl (ug (uo hex.symm (hr w inv.ext hfacts)) (fun u w' hu=>?_));obtain⟨x,rfl,hS,hV,hb,hA⟩:=hu;have hK1:∀ j,(if j=i then true else listed.getD j false)=true→K j (fun j=>if j=i then x else s j)=K j s:=fun j hj=>hdep j _ _ (fun k hk=>by
         have:listed.getD k false=true:=by
           by_cases e:j=i
           · subst e;exact hancl k hk
           · rw[if_neg e] at hj;exact hbase j k hj hk
         simp only[hne_of k this,if_false])
       obtain⟨s2,h1,h2⟩:=nk (K:=K) (ops:=ops) (L:=fun j=>if j=i then true else listed.getD j false) hdep
         (fun j k hk=>by
           rcases Nat.lt_or_ge j ops.length with hlt|hge
           · have hoj:ops[j]?=some (ops[j]'hlt):=List.getElem?_eq_getElem hlt;have:=yf (ops:=ops) (L:=fun m=>decide (m<j)) (fun m o' hm hL e he hb=>by
               have:=yg hback hm e he hb;simp only[decide_eq_true_eq] at hL ⊢;omega) j _ hoj (fun e he hb=>by simpa using yg hback hoj e he hb) k hk
             simpa using this
           · have hm:(aaR ops).length=ops.length:=by
               have gen:∀ (l:List Oper) (acc:LN),(mw l acc).length=acc.length+l.length:=by
                 intro l
                 induction l with
                 | nil=>intro acc;rfl
                 | cons o l ih=>intro acc;rw[uu,ih];simp;omega
               exact (gen ops []).trans Sm
             unfold anc at hk;rw[List.getD_eq_getElem?_getD,List.getElem?_eq_none Om] at hk;simp at hk) hexi
         (fun j k hj hk=>by
           show (if k=i then true else listed.getD k false)=true
           by_cases e:j=i
           · subst e;have:=hancl k hk;simp only[hne_of k this,if_false,this]
           · simp only[e,if_false] at hj;have:=hbase j k hj hk;simp only[hne_of k this,if_false,this]) (fun j=>if j=i then x else s j)
         (fun j hj=>by
           rw[hK1 j hj]
           by_cases e:j=i
           · subst e;rw[hK];simp only[if_true];exact hS
           · simp only[e,if_false] at hj ⊢;exact inv.sat j (by
               rcases Nat.lt_or_ge j n with h|h
               · exact h
               · rw[inv.tail j h] at hj;cases hj)) n
       have hx:s2 i=x:=by rw[h1 i Sm];simp
       have hls:∀ j,listed.getD j false=true→s2 j=s j:=fun j hl=>by
         have:=hne_of j hl;rw[h1 j (by simp only[this,if_false,hl])];simp only[this,if_false]
       have hdep2:∀ j,(if j=i then true else listed.getD j false)=true→K j s2=K j s:=fun j hj=>hdep j _ _ (fun k hk=>by
         have:listed.getD k false=true:=by
           by_cases e:j=i
           · subst e;exact hancl k hk
           · rw[if_neg e] at hj;exact hbase j k hj hk
         exact hls k this)
       have:=next s2 w' hls (fun j hl=>hdep2 j (by simp only[hne_of j hl,if_false,hl])) ((hdep2 i Sm).trans hK) h2 hb
       simp only[hx] at this;exact this hV hA
    by_cases hfr:∃ i,i∈Region.ready .any ops.toArray listed∧i<n∧fl.contains i=true
    · obtain⟨i,hi,hin,hfl⟩:=hfr
      rcases main i hi hin with ⟨v,o,ho,hy,_,hnx⟩|⟨hno,_⟩
      · have hfl' : i∈fl:=by simpa using hfl
        refine wpAny_first ho (Region.noSelect_spec hsel) (fun c a w=>?_) _ listed a w (fun j oj hoj hji hjun hnot=>?_) hi hy hnx
        · rcases hQ with h0|h0
          · rw[h0] at hfl';cases hfl'
          · exact h0 c a o.dst v w
        · have h1:=List.all_eq_true.1 hfloat i hfl';simp only[Bool.and_eq_true] at h1;have hoj' : ops[j]?=some oj:=by simpa using hoj
          have ho' : ops[i]?=some o:=by simpa using ho
          have h2:=List.all_eq_true.1 h1.2 j (List.mem_range.2 (List.getElem?_eq_some_iff.1 hoj').1);simp only[ho',hoj',Bool.or_eq_true,beq_iff_eq] at h2
          rcases h2 with (h2|h2)|h2|h2
          · exact absurd h2.symm hji
          · obtain⟨_,o1,ho1,hwait⟩:=mem_ready.1 hi;have h3:=yf (L:=fun j=>listed.getD j false) inv.closed i o1 (by simpa using ho1) hwait j h2;simp only[getD_both hjun] at h3;cases h3
          · obtain⟨e,he,h3⟩:=Array.any_eq_true'.1 h2;simp only[Bool.and_eq_true,beq_iff_eq] at h3;exact absurd h3.2 (hnot e he h3.1)
          · exact h2
      · rw[hno] at hfl;cases hfl
    · refine⟨fun h0=>absurd h0 hne,fun i hi=>?_⟩;have hin:i<n:=by
        rcases Nat.lt_or_ge i n with h1|h1
        · exact h1
        · exfalso;obtain⟨hiun,o,ho,hwait⟩:=mem_ready.1 hi;have ho' : ops[i]?=some o:=by simpa using ho
          have hil:i<ops.length:=(List.getElem?_eq_some_iff.1 ho').1;have hancl:=yf (L:=fun j=>listed.getD j false) inv.closed i o ho' hwait;have h2:=List.all_eq_true.1 htail i (List.mem_range.2 hil);simp only[Bool.or_eq_true,decide_eq_true_eq] at h2
          rcases h2 with h2|h2
          · omega
          · have h3:=List.all_eq_true.1 h2 m (List.mem_range.2 Om);simp only[Bool.or_eq_true,Bool.and_eq_true] at h3
            rcases h3 with h3|⟨h3,_⟩
            · have h4:=hancl m h3;simp only[hml] at h4;cases h4
            · exact hfr ⟨m,hmr,hmn,h3⟩
      rcases main i hi hin with ⟨v,o,ho,hy,hfl,hnx⟩|⟨_,h1⟩
      · exact absurd ⟨i,hi,hin,hfl⟩ hfr
      · exact h1
end
theorem lT {P:Program} {Q:Exit→Act→World→Prop} {a:Act} {w:World} {l:List Oper} (fl:LN) (n:Nat) (K:Nat→zT→Kind) (hB:yL l fl n=true)
  (hQ:fl=[]∨∀ c a d v w,Q (.panic c) (Act.put a d v) w→Q (.panic c) a w) (hdep:∀ i,Dep l i (K i)) (hexi:∀ i s,∃ x,kD (K i s) x)
  (h:∀ s,chain P l fl w K (fun a' F G=>∀ w',Below w.heap.size w w'→(∀ j,F j w')→G.Pairwise apart→(∀ x∈G,∀ g∈x,w.heap.size≤g)→wpList P l.toArray Q (l.drop n) a' w') s (l.take n) 0 a (fun _ _=>True) []) :
  wpAny P .any l.toArray Q l.toArray.size (Array.replicate l.toArray.size false) a { w with drawn:=w.drawn+1 }:=by
 have hB':=hB;unfold yL at hB';simp only[Bool.and_eq_true,decide_eq_true_eq] at hB';obtain⟨⟨⟨⟨⟨⟨⟨hsel,hn⟩,hback⟩,_⟩,_⟩,_⟩,_⟩,hseq⟩:=hB';have hancn:∀ j k,anc l j k=true→k<j:=fun j k hk=>by
  rcases Nat.lt_or_ge j l.length with hlt|hge
  ·have hoj:l[j]?=some (l[j]'hlt):=List.getElem?_eq_getElem hlt;have:=yf (ops:=l) (L:=fun m=>decide (m<j)) (fun m o' hm hL e he hb=>by
    have:=yg hback hm e he hb;simp only[decide_eq_true_eq] at hL ⊢;omega) j _ hoj (fun e he hb=>by simpa using yg hback hoj e he hb) k hk
   simpa using this
  ·have hm:(aaR l).length=l.length:=by
    have gen:∀ (l:List Oper) (acc:LN),(mw l acc).length=acc.length+l.length:=by
     intro l
     induction l with
     | nil=>intro acc;rfl
     | cons o l ih=>intro acc;rw[uu,ih];simp;omega
    exact (gen l []).trans Sm
   unfold anc at hk;rw[List.getD_eq_getElem?_getD,List.getElem?_eq_none Om] at hk;simp at hk
 obtain⟨s0,_,hs0⟩:=nk (K:=K) (ops:=l) (L:=fun _=>false) hdep hancn hexi (fun _ _ h=>by cases h) (fun _ _=>0) (fun _ h=>by cases h) n;have:=om (Q:=Q) (a0:=a) hB hQ hdep hexi h (fun s a' w' hF hb hf hp hg=>by
  have hdl:(l.drop n).length=l.length - n:=by simp
  have:=wpAny_of_seq (md:=.any) (Q':=Q) (l.drop n) n ((List.replicate n true++List.replicate (l.length - n) false).toArray) a' w' (fun j=>by simp[List.getElem?_drop]) (by rw[hdl];exact hseq) (hF w' hb hf hp hg);rwa [hdl] at this) n s0 (Array.replicate l.toArray.size false) a { w with drawn:=w.drawn+1 } ?_ ?_
 ·rw[show n+(l.length - n)=l.toArray.size by simp;omega] at this;exact this
 ·refine⟨by simp,fun j o _ hl=>(by rw[getD_replicate_false] at hl;cases hl),fun t _=>getD_replicate_false _ _,?_,⟨rfl,rfl,rfl,Nat.le_refl _,fun _ _=>rfl⟩,hs0,fun j _ hl=>(by rw[getD_replicate_false] at hl;cases hl),fun j _ hl=>(by rw[getD_replicate_false] at hl;cases hl),fun j _ _ _ _ hl=>(by rw[getD_replicate_false] at hl;cases hl)⟩;have gen:∀ (l' : List Oper) (i:Nat) (a:Act),yC (uC K s0) (fun j=>(Array.replicate l.toArray.size false).getD j false) l' i a=a:=by
   intro l'
   induction l' with
   | nil=>intro i a;rfl
   | cons o l' ih =>
    intro i a;unfold yC;rw[getD_replicate_false];exact ih (i+1) a
  exact (gen _ 0 a).symm
 ·have:((List.range n).filter fun j=>!(Array.replicate l.toArray.size false).getD j false)=List.range n:=by
   apply List.filter_eq_self.2;intro j _;rw[getD_replicate_false];rfl
  rw[this];simp
theorem tz {P:Program} {id:Nat} {Q:Exit→Act→World→Prop} {a:Act} {w:World} {l:List Oper} (fl:LN) (n:Nat) (K:Nat→zT→Kind) (hm:P.follows .mixedOrders=true) (hB:yL l fl n=true)
  (hQ:fl=[]∨∀ c a d v w,Q (.panic c) (Act.put a d v) w→Q (.panic c) a w) (hdep:∀ i,Dep l i (K i)) (hexi:∀ i s,∃ x,kD (K i s) x)
  (h:∀ s,chain P l fl w K (fun a' F G=>∀ w',Below w.heap.size w w'→(∀ j,F j w')→G.Pairwise apart→(∀ x∈G,∀ g∈x,w.heap.size≤g)→wpList P l.toArray Q (l.drop n) a' w') s (l.take n) 0 a (fun _ _=>True) []) :
  (Code.region id l.toArray true).wp P Q a w:=wp_region_any hm (lT fl n K hB hQ hdep hexi h)
end Sx
end
section
def wd (i n:Nat):Nat :=
 match i with
 | 0=>n%18446744073709551616
 | 1=>n / 18446744073709551616%18446744073709551616
 | 2=>n / 340282366920938463463374607431768211456%18446744073709551616
 | _=>n / 6277101735386680763835789423207666416102355444464034512896%18446744073709551616
def tn (a b c d:Nat):Nat :=
 a+18446744073709551616*b+340282366920938463463374607431768211456*c+6277101735386680763835789423207666416102355444464034512896*d
def ze:Nat:=115792089237316195423570985008687907853269984665640564039457584007913129639936
theorem yd (i n:Nat):wd i n<18446744073709551616:=by
 unfold wd;split<;>exact Nat.mod_lt _ Om
theorem ag6 (i n:Nat):wd i n≤18446744073709551615:=by have:=yd i n;omega
theorem ka {a b c d:Nat} (ha:a<18446744073709551616) (hb:b<18446744073709551616) (hc:c<18446744073709551616) (hd:d<18446744073709551616) :
  wd 0 (tn a b c d)=a∧wd 1 (tn a b c d)=b∧wd 2 (tn a b c d)=c∧wd 3 (tn a b c d)=d:=by
 simp only[wd,tn];omega
theorem vN {n:Nat} (h:n<ze):tn (wd 0 n) (wd 1 n) (wd 2 n) (wd 3 n)=n:=by
 simp only[wd,tn,ze] at *;omega
theorem lx {a b c d:Nat} (ha:a<18446744073709551616) (hb:b<18446744073709551616) (hc:c<18446744073709551616) (hd:d<18446744073709551616) :
  tn a b c d<ze:=by simp only[tn,ze];omega
theorem abZ {m n:Nat} (hm:m<ze) (hn:n<ze) (h0:wd 0 m=wd 0 n) (h1:wd 1 m=wd 1 n) (h2:wd 2 m=wd 2 n) (h3:wd 3 m=wd 3 n):m=n:=by
 rw[← vN hm,← vN hn,h0,h1,h2,h3]
abbrev zc (n:Nat):List Value:=[.int .u64 ((wd 0 n:Nat):Int),.int .u64 ((wd 1 n:Nat):Int),.int .u64 ((wd 2 n:Nat):Int),.int .u64 ((wd 3 n:Nat):Int)]
abbrev zk (n:Nat):Value:=.agg #[.int .u64 ((wd 0 n:Nat):Int),.int .u64 ((wd 1 n:Nat):Int),.int .u64 ((wd 2 n:Nat):Int),.int .u64 ((wd 3 n:Nat):Int)]
theorem oU {a b c d:Nat} (ha:a<18446744073709551616) (hb:b<18446744073709551616) (hc:c<18446744073709551616) (hd:d<18446744073709551616) :
  Value.agg #[.int .u64 (a:Int),.int .u64 (b:Int),.int .u64 (c:Int),.int .u64 (d:Int)]=zk (tn a b c d):=by
 obtain⟨e0,e1,e2,e3⟩:=ka ha hb hc hd;simp only[zk,e0,e1,e2,e3]
theorem cu (a b:Nat) (ha:a<ze) (hb:b<ze) (s0 s1 s2 s3 c0 c1 c2 c3:Nat)
  (e0:s0=(wd 0 a+wd 0 b)%18446744073709551616) (f0:c0=(wd 0 a+wd 0 b) / 18446744073709551616)
  (e1:s1=(wd 1 a+wd 1 b+c0)%18446744073709551616) (f1:c1=(wd 1 a+wd 1 b+c0) / 18446744073709551616)
  (e2:s2=(wd 2 a+wd 2 b+c1)%18446744073709551616) (f2:c2=(wd 2 a+wd 2 b+c1) / 18446744073709551616)
  (e3:s3=(wd 3 a+wd 3 b+c2)%18446744073709551616) (f3:c3=(wd 3 a+wd 3 b+c2) / 18446744073709551616) :
  tn s0 s1 s2 s3=(a+b)%ze∧c3=(a+b) / ze:=by
 have h1:=vN ha;have h2:=vN hb;have:=yd 0 a;have:=yd 1 a;have:=yd 2 a;have:=yd 3 a;have:=yd 0 b;have:=yd 1 b;have:=yd 2 b;have:=yd 3 b;generalize wd 0 a=a0 at *;generalize wd 1 a=a1 at *;generalize wd 2 a=a2 at *;generalize wd 3 a=a3 at *;generalize wd 0 b=b0 at *;generalize wd 1 b=b1 at *;generalize wd 2 b=b2 at *;generalize wd 3 b=b3 at *;simp only[tn,ze] at *;omega
end
section
namespace Sha
def M:Nat:=4294967296
def rotr (n x:Nat):Nat:=(x / 2 ^ n) ||| (x*2 ^ (32 - n)%4294967296)
def sig0 (x:Nat):Nat:=rotr 7 x ^^^ rotr 18 x ^^^ (x / 8)
def sig1 (x:Nat):Nat:=rotr 17 x ^^^ rotr 19 x ^^^ (x / 1024)
def Sig0 (x:Nat):Nat:=rotr 2 x ^^^ rotr 13 x ^^^ rotr 22 x
def Sig1 (x:Nat):Nat:=rotr 6 x ^^^ rotr 11 x ^^^ rotr 25 x
def ch (e f g:Nat):Nat:=g ^^^ (e &&& (f ^^^ g))
def maj (a b c:Nat):Nat:=(a &&& b) ^^^ (a &&& c) ^^^ (b &&& c)
def K:List Nat:=[
 0x428a2f98,0x71374491,0xb5c0fbcf,0xe9b5dba5,0x3956c25b,0x59f111f1,0x923f82a4,0xab1c5ed5,
 0xd807aa98,0x12835b01,0x243185be,0x550c7dc3,0x72be5d74,0x80deb1fe,0x9bdc06a7,0xc19bf174,
 0xe49b69c1,0xefbe4786,0x0fc19dc6,0x240ca1cc,0x2de92c6f,0x4a7484aa,0x5cb0a9dc,0x76f988da,
 0x983e5152,0xa831c66d,0xb00327c8,0xbf597fc7,0xc6e00bf3,0xd5a79147,0x06ca6351,0x14292967,
 0x27b70a85,0x2e1b2138,0x4d2c6dfc,0x53380d13,0x650a7354,0x766a0abb,0x81c2c92e,0x92722c85,
 0xa2bfe8a1,0xa81a664b,0xc24b8b70,0xc76c51a3,0xd192e819,0xd6990624,0xf40e3585,0x106aa070,
 0x19a4c116,0x1e376c08,0x2748774c,0x34b0bcb5,0x391c0cb3,0x4ed8aa4a,0x5b9cca4f,0x682e6ff3,
 0x748f82ee,0x78a5636f,0x84c87814,0x8cc70208,0x90befffa,0xa4506ceb,0xbef9a3f7,0xc67178f2]
def H0:List Nat:=[0x6a09e667,0xbb67ae85,0x3c6ef372,0xa54ff53a,0x510e527f,0x9b05688c,0x1f83d9ab,0x5be0cd19]
def w16 (b:LN) (i:Nat):Nat:=(b.getD (4*i) 0)*16777216+(b.getD (4*i+1) 0)*65536+(b.getD (4*i+2) 0)*256+b.getD (4*i+3) 0
def wnext (w:LN) (i:Nat):Nat :=
 (w.getD (i - 16) 0+w.getD (i - 7) 0+sig0 (w.getD (i - 15) 0)+sig1 (w.getD (i - 2) 0))%4294967296
def words (b:LN):Nat→List Nat
 | 0=>[]
 | i+1=>words b i++[if i<16 then w16 b i else wnext (words b i) i]
def rnd (s:LN) (k w:Nat):List Nat :=
 match s with
 | [a,b,c,d,e,f,g,h] =>
  let t:=(h+Sig1 e+ch e f g+k+w)%4294967296
  [(t+Sig0 a+maj a b c)%4294967296,a,b,c,(d+t)%4294967296,e,f,g]
 | _=>s
def rnds (s w:LN):Nat→List Nat
 | 0=>s
 | i+1=>rnd (rnds s w i) (K.getD i 0) (w.getD i 0)
def addW (s t:LN):List Nat:=List.zipWith (fun x y=>(x+y)%4294967296) s t
def take (s b:LN):List Nat:=addW (rnds s (words b 64) 64) s
def takes (s b:LN):Nat→List Nat
 | 0=>s
 | n+1=>take (takes s b n) ((b.drop (64*n)).take 64)
def be8 (n:Nat):List Nat:=[n / 72057594037927936%256,n / 281474976710656%256,n / 1099511627776%256,n / 4294967296%256,n / 16777216%256,n / 65536%256,n / 256%256,n%256]
def pad (n:Nat):Nat:=(119 - n%64)%64
def padded (m:LN):List Nat:=m++128::List.replicate (pad m.length) 0++be8 (8*m.length%18446744073709551616)
def outs (s:LN):List Nat:=s.flatMap fun x=>[x / 16777216%256,x / 65536%256,x / 256%256,x%256]
def sum (m:LN):List Nat:=outs (takes H0 (padded m) ((padded m).length / 64))
end Sha
end
section
open Go.RowKit
def Blk (w:World) (g:Nat) (t:TypeId) (cs:List Value):Prop:=w.heap[g]?=some (.cells cs.toArray t (0,0))
section
variable {w w' : World} {g:Nat} {t:TypeId} {cs:List Value}
theorem Blk.lt (h:Blk w g t cs):g<w.heap.size:=by
 rcases Nat.lt_or_ge g w.heap.size with hlt|hge
 ·exact hlt
 ·unfold Blk at h;rw[Array.getElem?_eq_none hge] at h;cases h
theorem Blk.cell (h:Blk w g t cs) (i:Nat):w.cell? ⟨g,i,none⟩=cs[i]?:=by
 rw[cell_of_row w g i cs.toArray t (0,0) h];simp
theorem Blk.cell_at (h:Blk w g t cs) {i:Nat} {v:Value} (hv:cs[i]?=some v):w.cell? ⟨g,i,none⟩=some v:=(h.cell i).trans hv
theorem Blk.frozen (h:Blk w g t cs) (i:Nat):w.frozen? ⟨g,i,none⟩=false:=by
 unfold Blk at h;simp[World.frozen?,h]
theorem Blk.new (w:World) (t:TypeId) (cs:List Value):Blk (w.alloc (.cells cs.toArray t)) w.heap.size t cs:=heap_alloc_new w _
theorem Blk.new' {t:TypeId} {cs:List Value} (h:w.heap.size=g):Blk (w.alloc (.cells cs.toArray t)) g t cs:=h ▸ Blk.new w t cs
theorem Blk.drew (h:Blk w g t cs):Blk w.drew g t cs:=h
theorem Blk.drewN (h:Blk w g t cs) (n:Nat):Blk (w.drewN n) g t cs:=h
theorem Blk.alloc (h:Blk w g t cs) (o:Obj):Blk (w.alloc o) g t cs:=(Below.heap_alloc w o g h.lt).trans h
theorem Blk.set_ (h:Blk w g t cs) (i:Nat) (u:Value):Blk (w.setCell ⟨g,i,none⟩ u) g t (cs.set i u):=by
 unfold Blk at h ⊢;simp[World.setCell,Array.getElem?_modify,h]
theorem Blk.put4 {a b c d:Value} (h:Blk w g t [a,b,c,d]) (u0 u1 u2 u3:Value) :
  Blk ((((w.setCell ⟨g,0,none⟩ u0).setCell ⟨g,1,none⟩ u1).setCell ⟨g,2,none⟩ u2).setCell ⟨g,3,none⟩ u3) g t [u0,u1,u2,u3]:=(((h.set_ 0 u0).set_ 1 u1).set_ 2 u2).set_ 3 u3
theorem Blk.far (h:Blk w g t cs) {p:Addr} (hp:g≠p.block) (u:Value):Blk (w.setCell p u) g t cs:=(Below.heap_setCell w p u g hp).trans h
theorem Blk.below {B:Nat} (h:Blk w g t cs) (hb:Below B w w') (hg:g<B):Blk w' g t cs:=(hb.block g hg).trans h
theorem Blk.grown {row:Option Nat} (h:Blk w g t cs) (hb:w.grownBy w' row) (hg:some g≠row):Blk w' g t cs:=(hb.block g h.lt hg).trans h
end
theorem afb {B:Nat} {W w1:World} (hb:Below B W w1):(∀ b o,b<B→w1.cell? ⟨b,o,none⟩=W.cell? ⟨b,o,none⟩)∧(∀ b o,b<B→w1.frozen? ⟨b,o,none⟩=W.frozen? ⟨b,o,none⟩) :=
 ⟨fun b o h=>hb.cell (p:=⟨b,o,none⟩) h,fun b o h=>hb.frozen (p:=⟨b,o,none⟩) h⟩
abbrev Ext (w w' : World):Prop:=Below w.heap.size w w'
theorem Ext.rfl' (w:World):Ext w w:=Below.refl _ _
theorem Ext.trans' {a b c:World} (h:Ext a b) (k:Ext b c):Ext a c:=h.trans (k.mono h.size)
theorem Ext.alloc' {a b:World} (h:Ext a b) (o:Obj):Ext a (b.alloc o):=h.alloc h.size o
theorem Below.drewN' {B:Nat} {a w:World} (h:Below B a w) (n:Nat):Below B a (w.drewN n):=⟨h.os,h.tape,h.output,h.size,h.block⟩
end
end Go.Proofs.YtiaibpcaloigkaaGreatDoor
namespace Go.Proofs.YtiaibpcaloigkaaGreatDoor
open Go.RowKit
set_option maxRecDepth 100000 in
theorem qe (n:Nat) (h0:0<n) (hn:n≤1099511627776) (w:World) :
  Calls Tryz.prog 262 #[.slice none 0 0,.int .i64 (n:Int)] w fun e w'=>∃ v,e=.returned v∧w'.ownsRow w.heap.size 22 1 v 0 []∧Below w.heap.size w w':=by
 have hinfo:(Tryz.prog.info? 22).map (fun i=>(i.zero,i.size,i.bytes))=some (some (.int .u64 0),1,8):=Kr
 obtain⟨i0,hi,hz0,hz1,hz2⟩:=info_parts hinfo;have hr:=fun ty=>Lib.run_append_nil_zeros (P:=Tryz.prog) w 201 3 ty 22 i0 (.int .u64 0) .i64 .i64 Tryz.underlying201 Tryz.underlying3 hi hz0 n h0 Om Om (by rw[hz2];omega);have hge:=grownCap_ge w n 0 22;have hml:=grownCap_le_maxLen w n 0 22 (by simp[maxLen];omega);generalize grownCap w n 0 22=G at *;have hG63:G≤9223372036854775807:=by unfold maxLen at hml;omega
 have HM:=Lib.hid hml;clear hml
 go_enter Tryz.func262,Tryz.ntmps262
 go_wp2_with (at_builtin;refine Lib.wpList_append_run _ rfl _ _ _ _ rfl _ _ rfl rfl _ _ (hr _) ?_)
 go_ret
 refine⟨_,rfl,?_,(Below.refl _ _).drew.alloc (Nat.le_refl _) _⟩;refine⟨rfl,.inr ⟨w.heap.size,_,_,rfl,Nat.le_refl _,heap_alloc_new w.drew _,by omega,HM.out,?_,by simp⟩⟩;rw[Array.size_append,size_zeroCells,size_zeroCells];show n*1+(G - n)*1=G*1;omega
end Go.Proofs.YtiaibpcaloigkaaGreatDoor
namespace Go.Proofs
open Go.Shelf
def Tryz.lays134_ren:Go.Shelf.Ren:=⟨fun|134=>221|129=>181|n=>n,fun|53=>22|3=>3|4=>4|46=>233|5=>5|9=>9|n=>n,fun|n=>n⟩
theorem Tryz.lays134:Go.Proofs.Lays.n134 Tryz.prog Tryz.lays134_ren:={
 mixed:=by kernel_rfl
 f129:=Tryz.func181.trans (congrArg some (by kernel_rfl))
 f134:=Tryz.func221.trans (congrArg some (by kernel_rfl))
 t3:=Tryz.underlying3
 a3:=Tryz.isAgg3
 z3:=Tryz.sizeOf3
 v3:=Tryz.zeroValue3
 t4:=Tryz.underlying4
 a4:=Tryz.isAgg4
 z4:=Tryz.sizeOf4
 v4:=Tryz.zeroValue4
 t5:=Tryz.underlying5
 a5:=Tryz.isAgg5
 z5:=Tryz.sizeOf5
 v5:=Tryz.zeroValue5
 t9:=Tryz.underlying9
 a9:=Tryz.isAgg9
 z9:=Tryz.sizeOf9
 v9:=Tryz.zeroValue9
 t46:=Tryz.underlying233
 a46:=Tryz.isAgg233
 z46:=Tryz.sizeOf233
 v46:=Tryz.zeroValue233
 t53:=Tryz.underlying22
 a53:=Tryz.isAgg22
 z53:=Tryz.sizeOf22
 v53:=Tryz.zeroValue22 }
theorem Tryz.bits_LeadingZeros64 (x:Int) (w:World) (h0:0≤x) (h1:x≤18446744073709551615) :
  Calls Tryz.prog 221 #[.int .u64 x] w fun e w'=>e=.returned (.int .i64 (64 - (Lib.bitLen x.toNat:Int)))∧w'=w:=Any.bits_LeadingZeros64 Tryz.lays134 x w h0 h1
def Tryz.lays129_ren:Go.Shelf.Ren:=⟨fun|129=>181|n=>n,fun|53=>22|3=>3|4=>4|46=>233|5=>5|9=>9|n=>n,fun|n=>n⟩
theorem Tryz.lays129:Go.Proofs.Lays.n129 Tryz.prog Tryz.lays129_ren:={
 mixed:=by kernel_rfl
 f129:=Tryz.func181.trans (congrArg some (by kernel_rfl))
 t3:=Tryz.underlying3
 a3:=Tryz.isAgg3
 z3:=Tryz.sizeOf3
 v3:=Tryz.zeroValue3
 t4:=Tryz.underlying4
 a4:=Tryz.isAgg4
 z4:=Tryz.sizeOf4
 v4:=Tryz.zeroValue4
 t5:=Tryz.underlying5
 a5:=Tryz.isAgg5
 z5:=Tryz.sizeOf5
 v5:=Tryz.zeroValue5
 t9:=Tryz.underlying9
 a9:=Tryz.isAgg9
 z9:=Tryz.sizeOf9
 v9:=Tryz.zeroValue9
 t46:=Tryz.underlying233
 a46:=Tryz.isAgg233
 z46:=Tryz.sizeOf233
 v46:=Tryz.zeroValue233
 t53:=Tryz.underlying22
 a53:=Tryz.isAgg22
 z53:=Tryz.sizeOf22
 v53:=Tryz.zeroValue22 }
theorem Tryz.bits_Len64 (x:Int) (w:World) (h0:0≤x) (h1:x≤18446744073709551615) :
  Calls Tryz.prog 181 #[.int .u64 x] w fun e w'=>e=.returned (.int .i64 (Lib.bitLen x.toNat))∧w'=w:=Any.bits_Len64 Tryz.lays129 x w h0 h1
def Tryz.lays264_ren:Go.Shelf.Ren:=⟨fun|264=>183|n=>n,fun|53=>22|46=>233|n=>n,fun|n=>n⟩
theorem Tryz.lays264:Go.Proofs.Lays.n264 Tryz.prog Tryz.lays264_ren:={
 mixed:=by kernel_rfl
 f264:=Tryz.func183.trans (congrArg some (by kernel_rfl))
 t46:=Tryz.underlying233
 a46:=Tryz.isAgg233
 z46:=Tryz.sizeOf233
 v46:=Tryz.zeroValue233
 t53:=Tryz.underlying22
 a53:=Tryz.isAgg22
 z53:=Tryz.sizeOf22
 v53:=Tryz.zeroValue22 }
open Go.RowKit Go.Lib in
theorem Tryz.bits_Mul64 (x y:Nat) (hx:x<18446744073709551616) (hy:y<18446744073709551616) (w:World) :
  Calls Tryz.prog 183 #[.int .u64 x,.int .u64 y] w fun e w'=>e=.returned (.tuple #[.int .u64 ((x*y / 18446744073709551616:Nat):Int),.int .u64 ((x*y%18446744073709551616:Nat):Int)])∧w'=w:=Any.bits_Mul64 Tryz.lays264 x y hx hy w
end Go.Proofs
