/- Part 5 of the proof. -/
import Derived.Test.YteibfbjpkjkejaaGreatDoorS04
import Derived.OrdersHeld
set_option linter.unusedSimpArgs false
set_option linter.unusedVariables false
namespace Go.Proofs.YteibfbjpkjkejaaGreatDoor
section
open Go Go.RowKit Go.BigFrame
namespace Sx
open Kp
def wpAnyS (P:Program) (ops:List Oper) (Q:Exit→Act→World→Prop) (S:Array Bool→World→Prop):Nat→Array Bool→Act→World→Prop
 | 0,listed,a,w=>Region.ready .any ops.toArray listed=[]∧Q .normal a w
 | fuel+1,listed,a,w=>(Region.ready .any ops.toArray listed=[]→Q .normal a w) ∧
  ∀ i∈Region.ready .any ops.toArray listed,wpOp P ops.toArray Q i (fun a' w'=>S (listed.setIfInBounds i true) w'∧wpAnyS P ops Q S fuel (listed.setIfInBounds i true) a' w') a w
section
variable {P:Program} {ops:List Oper} {Q:Exit→Act→World→Prop} {S:Array Bool→World→Prop}
theorem mo:∀ (fuel:Nat) (listed:Array Bool) (a:Act) (w:World),wpAnyS P ops Q S fuel listed a w→wpAny P .any ops.toArray Q fuel listed a w
 | 0,_,_,_,h=>h
 | fuel+1,_,_,_,h=>⟨h.1,fun i hi=>wpOp_mono (fun a' w' h'=>mo fuel _ a' w' h'.2) (h.2 i hi)⟩
def Closed (ops:List Oper) (listed:Array Bool):Prop:=∀ j o,ops[j]?=some o→listed.getD j false=true→∀ e∈o.after,Region.binds .any e=true→listed.getD e.on false=true
theorem Closed.set {listed:Array Bool} (h:Closed ops listed) {j:Nat} (hj:j∈Region.ready .any ops.toArray listed):Closed ops (listed.setIfInBounds j true):=by
 obtain⟨_,oj,hoj,hall⟩:=mem_ready.1 hj;have hoj' : ops[j]?=some oj:=by simpa using hoj
 intro t o ht hl e he hb
 by_cases hij:j=t
 ·subst hij;have:o=oj:=Option.some.inj (ht.symm.trans hoj');subst this;exact getD_set_true (hall e he hb)
 ·rw[getD_set_ne false hij] at hl;exact getD_set_true (h t o ht hl e he hb)
theorem wpAnyS_first {H:World→Prop} {i:Nat} {oi:Oper} {v:Value} (hi:ops.toArray[i]?=some oi) (hsel:∀ (j:Nat) (o:Oper) cs b,ops.toArray[j]?=some o→o.op≠.select cs b)
  (hQ:∀ c a w,Q (.panic c) (a.put oi.dst v) w→Q (.panic c) a w) (hSi:∀ listed w,S (listed.setIfInBounds i true) w↔S listed w)
  (hH:∀ listed w,Closed ops listed→i∈Region.ready .any ops.toArray listed→S listed w→H w) :
  ∀ (fuel:Nat) (listed:Array Bool) (a:Act) (w:World),
   (∀ j oj,ops.toArray[j]?=some oj→j≠i→listed.getD j true=false→(∀ e∈oj.after,Region.binds .any e=true→e.on≠i)→oi.apart ops.toArray oj=true) →
   Closed ops listed→i∈Region.ready .any ops.toArray listed→YieldsIf P ops.toArray H oi v a→S listed w →
   wpAnyS P ops Q S fuel (listed.setIfInBounds i true) (a.put oi.dst v) w→wpAnyS P ops Q S (fuel+1) listed a w:=by
 intro fuel
 induction fuel with
 | zero =>
  intro listed a w _ hcl hr hy hS HH;refine⟨fun h=>(by rw[h] at hr;cases hr),fun j hj=>?_⟩
  by_cases hji:j=i
  ·subst hji;exact hy.wpOp hi (hH listed w hcl hr hS) ⟨(hSi _ _).2 hS,HH⟩
  ·have:=ready_mono hj hji;rw[HH.1] at this;cases this
 | succ fuel ih =>
  intro listed a w hfree hcl hr hy hS HH;refine⟨fun h=>(by rw[h] at hr;cases hr),fun j hj=>?_⟩
  by_cases hji:j=i
  ·subst hji;exact hy.wpOp hi (hH listed w hcl hr hS) ⟨(hSi _ _).2 hS,HH⟩
  ·have h1:=HH.2 j (ready_mono hj hji);obtain⟨hjun,oj,hoj,hall⟩:=mem_ready.1 hj;have hnot:∀ e∈oj.after,Region.binds .any e=true→e.on≠i:=fun e he hb heq=>by
    have h1:=hall e he hb;have h0:=(mem_ready.1 hr).1;rw[heq] at h1
    rcases Nat.lt_or_ge i listed.size with h'|h'
    ·simp[h'] at h0 h1;rw[h0] at h1;cases h1
    ·simp[Array.getElem?_eq_none h'] at h1
   have h2:=wpOp_putIf (S:=H) hoj (hfree j oj hoj hji hjun hnot) (fun cs b=>hsel i oi cs b hi) (fun cs b=>hsel j oj cs b hoj) hQ hy h1
   have hfree' : ∀ k ok,ops.toArray[k]?=some ok→k≠i→(listed.setIfInBounds j true).getD k true=false →
     (∀ e∈ok.after,Region.binds .any e=true→e.on≠i)→oi.apart ops.toArray ok=true:=fun k ok hk hki hun hno=>by
    refine hfree k ok hk hki ?_ hno
    by_cases hjk:j=k
    ·subst hjk;exact hjun
    ·rw[getD_set_ne true hjk] at hun;exact hun
   refine wpOp_mono (fun a' w' h3=>?_) h2;have hS' : S (listed.setIfInBounds j true) w':=by
    have:=h3.2.1;rw[Array.setIfInBounds_comm _ _ (Ne.symm hji)] at this;exact (hSi _ _).1 this
   refine⟨hS',ih (listed.setIfInBounds j true) a' w' hfree' (hcl.set hj) (ready_mono hr (Ne.symm hji)) h3.1 hS' ?_⟩;rw[Array.setIfInBounds_comm _ _ hji];exact h3.2.2
end
def mO (ops:List Oper) (fl:List Nat) (listed:Array Bool) (f:Nat):Bool:=(List.range ops.length).all fun t=>fl.contains t || !listed.getD t false || match ops[t]? with
 | some o=>o.after.all fun e=>!(Region.binds .any e && e.on == f)
 | none=>true
def Sp (ops:List Oper) (fl:List Nat) (Hf:Nat→World→Prop) (listed:Array Bool) (w:World):Prop:=∀ f,fl.contains f=true→mO ops fl listed f=true→Hf f w
section
variable {ops:List Oper} {fl:List Nat} {Hf:Nat→World→Prop}
theorem cJ {i f:Nat} (hi:fl.contains i=true) (listed:Array Bool):mO ops fl (listed.setIfInBounds i true) f=mO ops fl listed f:=by
 unfold mO;rw[Bool.eq_iff_iff,List.all_eq_true,List.all_eq_true];refine forall_congr' fun t=>forall_congr' fun _=>?_
 by_cases e:i=t
 ·subst e;rw[hi];simp
 ·rw[getD_set_ne false e]
theorem adL {i:Nat} (hi:fl.contains i=true) (listed:Array Bool) (w:World):Sp ops fl Hf (listed.setIfInBounds i true) w↔Sp ops fl Hf listed w:=by
 unfold Sp;refine forall_congr' fun f=>?_;rw[cJ hi]
theorem aa9 {listed:Array Bool} {i:Nat} (hcl:Closed ops listed) (hr:i∈Region.ready .any ops.toArray listed):mO ops fl listed i=true:=by
 unfold mO;rw[List.all_eq_true];intro t _;cases hl:listed.getD t false with
 | false=>simp
 | true =>
  cases ho:ops[t]? with
  | none=>simp
  | some o =>
   simp only[Bool.not_true,Bool.or_false,Bool.or_eq_true];refine .inr (Array.all_eq_true_iff_forall_mem.2 fun e he=>?_);cases hb:Region.binds .any e with
   | false=>rfl
   | true =>
    have h1:=hcl t o ho hl e he hb;have h0:=getD_both (mem_ready.1 hr).1;cases heq:(e.on == i) with
    | false=>rfl
    | true =>
     have:e.on=i:=by simpa using heq
     rw[this,h0] at h1;cases h1
end
section
variable (P:Program) (ops:List Oper) (fl:List Nat) (Hf:Nat→World→Prop) (w0:World)
def adI (k:Kind) (i:Nat) (o:Oper) (a:Act) (F:Nat→World→Prop):Prop :=
 match k with
 | .skip=>Region.wanted o (yielded ops.toArray a.tmps)=false
 | .val v=>Region.wanted o (yielded ops.toArray a.tmps)=true∧((∀ w,Hf i w→(execOp a.eval o).run P w=.ok (.value v) w)∨(fl.contains i=false ∧
   ∀ w,Below w0.heap.size w0 w→(∀ j,anc ops i j=true→F j w)→kyp P o a w (fun u w'=>u=v∧Below w.heap.size w w')))
 | .rel v S V A=>fl.contains i=false∧Region.wanted o (yielded ops.toArray a.tmps)=true∧(∃ x,S x)∧(∀ x w w',V x w→Below w.heap.size w w'→V x w') ∧
   ∀ w,Below w0.heap.size w0 w→(∀ j,anc ops i j=true→F j w)→kyp P o a w (fun u w'=>∃ x,u=v x∧S x∧V x w'∧Below w.heap.size w w'∧∀ g∈A x,w.heap.size≤g∧g<w'.heap.size)
variable (K:Nat→zE→Kind)
def tg (Fin:Act→(Nat→World→Prop)→List (List Nat)→Prop) (s:zE):List Oper→Nat→Act→(Nat→World→Prop)→List (List Nat)→Prop
 | [],_,a,F,G=>Fin a F G
 | o::l,i,a,F,G=>adI P ops fl Hf w0 (K i s) i o a F∧(qN (K i s) (s i)→tg Fin s l (i+1) (a.put o.dst (ir (K i s) (s i))) (fun j w=>if j=i then tj (K i s) (s i) w else F j w) (nc (K i s) (s i)::G))
end
section
variable {P:Program} {ops:List Oper} {fl:List Nat} {w0:World} {K:Nat→zE→Kind}
theorem rC {Hf:Nat→World→Prop} {Fin:Act→(Nat→World→Prop)→List (List Nat)→Prop} {s:zE}:∀ (l:List Oper) (i:Nat),
  (∀ (j:Nat) (o:Oper),l[j]?=some o→∀ (k:Nat) (o' : Oper),l[k]?=some o'→j≠k→∀ t,o.dst=some t→o'.dst≠some t) →
  (∀ j,i≤j→j<i+l.length→qN (K j s) (s j)) →
  ∀ a:Act,tg P ops fl Hf w0 K Fin s l i a (facts K s i) (nf K s i) →
  (∀ j o,l[j]?=some o→adI P ops fl Hf w0 (K (i+j) s) (i+j) o (z8 (y8 K s) (fun m=>decide (m<i+j)) l i a) (facts K s (i+j))) ∧
  Fin (z8 (y8 K s) (fun _=>true) l i a) (facts K s (i+l.length)) (nf K s (i+l.length))
 | [],i,_,_,a,h=>⟨fun j o hj=>by simp at hj,h⟩
 | o::l,i,hd,hs,a,h=>by
  unfold tg at h;obtain⟨hob,hrest⟩:=h;have hd' : ∀ (j:Nat) (o:Oper),l[j]?=some o→∀ (k:Nat) (o' : Oper),l[k]?=some o'→j≠k→∀ t,o.dst=some t→o'.dst≠some t:=fun j o hj k o' hk hne=>hd (j+1) o (by simpa using hj) (k+1) o' (by simpa using hk) (by omega);have hk:=hrest (hs i (Nat.le_refl _) (by simp));obtain⟨h1,h2⟩:=rC l (i+1) hd' (fun j h1 h2=>hs j (by omega) (by simp only[List.length_cons];omega)) _ hk;refine⟨fun j o' hj=>?_,?_⟩
  ·cases j with
   | zero =>
    have:o=o':=by simpa using hj
    subst this;have he:z8 (y8 K s) (fun m=>decide (m<i+0)) (o::l) i a=a:=by
     have gen:∀ (l:List Oper) (k:Nat) (a:Act),i≤k→z8 (y8 K s) (fun m=>decide (m<i+0)) l k a=a:=by
      intro l
      induction l with
      | nil=>intro k a _;rfl
      | cons o l ih =>
       intro k a hk;unfold z8;rw[if_neg (by simp;omega)];exact ih (k+1) a (by omega)
     exact gen _ i a (Nat.le_refl _)
    rw[he];exact hob
   | succ j =>
    have e:i+(j+1)=i+1+j:=by omega
    rw[e];have:=h1 j o' (by simpa using hj);unfold z8;rw[if_pos (by simp;omega)];exact this
  ·unfold z8;rw[if_pos rfl];have e:i+(o::l).length=i+1+l.length:=by simp;omega
   rw[e];exact h2
theorem eT {Hf:Nat→World→Prop} (hHf:∀ i w,Below w0.heap.size w0 w→Hf i w) {n:Nat} {a0:Act} {Q:Exit→Act→World→Prop} {Fin:zE→Act→(Nat→World→Prop)→List (List Nat)→Prop} (hB:yb ops fl n=true)
    (hQ:fl=[]∨∀ c a d v w,Q (.panic c) (Act.put a d v) w→Q (.panic c) a w) (hdep:∀ i,Dep ops i (K i)) (hexi:∀ i s,∃ x,qN (K i s) x)
    (h:∀ s,tg P ops fl Hf w0 K (Fin s) s (ops.take n) 0 a0 (fun _ _=>True) [])
    (hfin:∀ (s:zE) (a:Act) (w:World),Fin s a (facts K s n) (nf K s n)→Below w0.heap.size w0 w→(∀ j,facts K s n j w)→(nf K s n).Pairwise apart→(∀ x∈nf K s n,∀ g∈x,w0.heap.size≤g) →
      wpAnyS P ops Q (Sp ops fl Hf) (ops.length - n) ((List.replicate n true++List.replicate (ops.length - n) false).toArray) a w) :
    ∀ (f:Nat) (s:zE) (listed:Array Bool) (a:Act) (w:World),Inv ops w0 K n a0 s listed a w→((List.range n).filter fun j=>!listed.getD j false).length=f →
      wpAnyS P ops Q (Sp ops fl Hf) (f+(ops.length - n)) listed a w:=by
  unfold yb at hB;simp only[Bool.and_eq_true,decide_eq_true_eq] at hB;obtain⟨⟨⟨⟨⟨⟨⟨hsel,hn⟩,hback⟩,hdst⟩,hself⟩,htail⟩,hfloat⟩,hseq⟩:=hB;have hlen:(ops.take n).length=n:=by simp;omega
  have hget:∀ j,j<n→(ops.take n)[j]?=ops[j]?:=fun j hj=>by rw[List.getElem?_take];simp[hj]
  have hdist:∀ (j:Nat) (o:Oper),(ops.take n)[j]?=some o→∀ (k:Nat) (o' : Oper),(ops.take n)[k]?=some o'→j≠k→∀ t,o.dst=some t→o'.dst≠some t:=by
    intro j o hj k o' hk hne t ht;have hjn:j<n:=by have:=(List.getElem?_eq_some_iff.1 hj).1;omega
    have hkn:k<n:=by have:=(List.getElem?_eq_some_iff.1 hk).1;omega
    rw[hget j hjn] at hj;rw[hget k hkn] at hk;have:=List.all_eq_true.1 (List.all_eq_true.1 hdst j (List.mem_range.2 hjn)) k (List.mem_range.2 hkn);simp only[hj,hk,ht,Bool.or_eq_true,beq_iff_eq,Bool.and_eq_true,bne_iff_ne] at this
    rcases this with h|h
    · exact absurd h hne
    · exact h.1
  have hlooks:∀ (j:Nat) (o:Oper),ops[j]?=some o→j<n→∀ (k:Nat) (o' : Oper),ops[k]?=some o'→k<n→∀ t,o'.dst=some t→t∈o.looksAt ops.toArray→anc ops j k=true:=by
    intro j o hj hjn k o' hk hkn t ht hmem
    by_cases hjk:j=k
    · subst hjk;have:o=o':=Option.some.inj (hj.symm.trans hk);subst this;have:=List.all_eq_true.1 hself j (List.mem_range.2 hjn);simp only[hj,ht,Bool.not_eq_true'] at this;have hc:(o.looksAt ops.toArray).contains t=true:=by simpa using hmem
      rw[hc] at this;cases this
    · have:=List.all_eq_true.1 (List.all_eq_true.1 hdst j (List.mem_range.2 hjn)) k (List.mem_range.2 hkn);simp only[hj,hk,ht,Bool.or_eq_true,beq_iff_eq,Bool.and_eq_true] at this
      rcases this with h|h
      · exact absurd h hjk
      · rcases h.2 with h3|h3
        · have hc:(o.looksAt ops.toArray).contains t=true:=by simpa using hmem
          rw[hc] at h3;cases h3
        · exact h3
  intro f
  induction f with
  | zero =>
    intro s listed a w inv hf;have hall:∀ j,j<n→listed.getD j false=true:=by
      intro j hj;cases hl:listed.getD j false with
      | true=>rfl
      | false =>
        have:j∈(List.range n).filter fun j=>!listed.getD j false:=List.mem_filter.2 ⟨List.mem_range.2 hj,by rw[hl];rfl⟩;rw[List.length_eq_zero_iff.1 hf] at this;cases this
    have hlist:listed=((List.replicate n true++List.replicate (ops.length - n) false).toArray):=by
      apply Array.ext
      · simp[inv.size];omega
      · intro i h1 h2;have h3:listed.getD i false=listed[i]:=by simp[h1]
        rw[← h3]
        rcases Nat.lt_or_ge i n with hi|hi
        · rw[hall i hi];simp[List.getElem_append,hi]
        · rw[inv.tail i hi];simp[List.getElem_append,Nat.not_lt.2 hi]
    obtain⟨_,hF⟩:=rC (Fin:=Fin s) (s:=s) (ops.take n) 0 hdist (fun j _ hj=>inv.sat j (by omega)) a0 (h s);rw[Nat.zero_add,hlist];have hadd:=rT (K:=K) (s:=s) (w0:=w0) (w:=w) n (fun i hi=>inv.addr i hi (hall i hi)) (fun i j hi hj hne=>inv.away i j hi hj hne (hall i hi) (hall j hj));refine hfin s a w ?_ inv.ext (fun j=>vy n (fun hj=>inv.known j hj (hall j hj))) hadd.1 (fun x hx g hg=>(hadd.2 x hx g hg).1);rw[inv.frame];rw[hlen,Nat.zero_add] at hF;rw[z6 (u:=y8 K s) (u':=y8 K s) (L':=fun _=>true) (ops.take n) 0 a0 (fun j _ hj=>⟨hall j (by omega),fun _=>rfl⟩)];exact hF
  | succ f ih =>
    intro s listed a w inv hf;obtain⟨hobl,_⟩:=rC (Fin:=Fin s) (s:=s) (ops.take n) 0 hdist (fun j _ hj=>inv.sat j (by omega)) a0 (h s);have hex:∃ m,m<n∧listed.getD m false=false:=by
      cases hl:(List.range n).filter fun j=>!listed.getD j false with
      | nil=>rw[hl] at hf;cases hf
      | cons m l =>
        have hm:m∈(List.range n).filter fun j=>!listed.getD j false:=by rw[hl];simp
        rw[List.mem_filter] at hm;exact⟨m,List.mem_range.1 hm.1,by simpa using hm.2⟩
    obtain⟨m,⟨hmn,hml⟩,hleast⟩:=exists_least hex;have hmr:m∈Region.ready .any ops.toArray listed:=by
      rw[mem_ready];have hmo:ops[m]?=some (ops[m]'(by omega)):=List.getElem?_eq_getElem (by omega);refine⟨getD_in (by rw[inv.size];omega) hml,ops[m]'(by omega),by simp,fun e he hb=>?_⟩;have hlt:=zI hback hmo e he hb;cases hle:listed.getD e.on false with
      | true=>rfl
      | false=>have:=hleast e.on ⟨by omega,hle⟩;omega
    have hne:Region.ready .any ops.toArray listed≠[]:=fun h0=>by rw[h0] at hmr;cases hmr
    rw[show f+1+(ops.length - n)=(f+(ops.length - n))+1 by omega]
    have main:∀ i,i∈Region.ready .any ops.toArray listed→i<n →
        (∃ v o,ops.toArray[i]?=some o∧YieldsIf P ops.toArray (Hf i) o v a∧fl.contains i=true∧wpAnyS P ops Q (Sp ops fl Hf) (f+(ops.length - n)) (listed.setIfInBounds i true) (a.put o.dst v) w) ∨
        (fl.contains i=false∧wpOp P ops.toArray Q i (fun a' w'=>Sp ops fl Hf (listed.setIfInBounds i true) w'∧wpAnyS P ops Q (Sp ops fl Hf) (f+(ops.length - n)) (listed.setIfInBounds i true) a' w') a w):=by
     intro i hi hin;obtain⟨hiun,o,ho,hwait⟩:=mem_ready.1 hi;have ho' : ops[i]?=some o:=by simpa using ho
     have hil:i<ops.length:=(List.getElem?_eq_some_iff.1 ho').1;have hancl:=zG (L:=fun j=>listed.getD j false) inv.closed i o ho' hwait;have hiu:listed.getD i false=false:=getD_both hiun;have hanclt:∀ j,anc ops i j=true→j<i:=fun j hj=>by
       have:=zG (ops:=ops) (L:=fun j=>decide (j<i)) (fun j o' hj' hL e he hb=>by
         have:=zI hback hj' e he hb;simp only[decide_eq_true_eq] at hL ⊢;omega) i o ho' (fun e he hb=>by simpa using zI hback ho' e he hb) j hj
       simpa using this
     have hob:=hobl i o (by rw[hget i hin];exact ho');rw[Nat.zero_add] at hob;have hag:Agree (o.looksAt ops.toArray) (z8 (y8 K s) (fun m=>decide (m<i)) (ops.take n) 0 a0) a:=by
       rw[inv.frame];refine ul _ 0 a0 a0 (fun _ _=>rfl) (fun j oj hj hdiff t ht hmem=>?_);have hjn:j<n:=by have:=(List.getElem?_eq_some_iff.1 hj).1;omega
       rw[hget j hjn] at hj;have ha:=hlooks i o ho' hin j oj hj hjn t ht hmem;have h1:=hancl j ha;have h2:=hanclt j ha;simp only[Nat.zero_add] at hdiff;simp only[h1,h2,decide_true,ne_eq,not_true_eq_false] at hdiff
     have hsel' : ∀ cs b,o.op≠.select cs b:=fun cs b=>Region.noSelect_spec hsel i o cs b ho;have hex:=sn (ops:=ops) hsel' hag;have hwa:=uP (ops:=ops) hag;have hfacts:∀ j,anc ops i j=true→facts K s i j w:=fun j hj=>vy i (fun hji=>inv.known j (by omega) (hancl j hj));have hne_of:∀ j,listed.getD j false=true→j≠i:=fun j hl e=>by subst e;simp only[hiu] at hl;cases hl
     have next:∀ (s' : zE) (w' : World),(∀ j,listed.getD j false=true→s' j=s j)→(∀ j,listed.getD j false=true→K j s'=K j s)→K i s'=K i s→(∀ j,j<n→qN (K j s') (s' j))→Below w.heap.size w w'→tj (K i s) (s' i) w' →
         (∀ g∈nc (K i s) (s' i),w.heap.size≤g∧g<w'.heap.size) →
         wpAnyS P ops Q (Sp ops fl Hf) (f+(ops.length - n)) (listed.setIfInBounds i true) (a.put o.dst (ir (K i s) (s' i))) w':=by
       intro s' w' hs' hK' hKi hsat hb hV hA;refine ih s' _ _ w' ⟨by simp[inv.size],fun j oj hj hl e he hb=>?_,fun t ht=>?_,?_,inv.ext.trans (hb.mono inv.ext.size),hsat,fun j hj hl=>?_,fun j hj hl=>?_,fun j k hj hk hne hlj hlk=>?_⟩ ?_
       · by_cases hij:i=j
         · subst hij;have:oj=o:=Option.some.inj (hj.symm.trans ho');subst this;exact getD_set_true (hwait e he hb)
         · rw[getD_set_ne false hij] at hl;exact getD_set_true (inv.closed j oj hj hl e he hb)
       · rw[getD_set_ne false (by omega)];exact inv.tail t ht
       · have h1:=tF (u:=y8 K s') (L:=fun j=>listed.getD j false) (ops.take n) 0 a0 i o (by rw[hget i hin];exact ho') (by rw[Nat.zero_add];exact hiu)
           (fun j o' hj hne=>hdist i o (by rw[hget i hin];exact ho') j o' hj (Ne.symm hne))
         rw[Nat.zero_add] at h1
         rw[z6 (u:=y8 K s') (u':=y8 K s') (L':=fun j=>if j=i then true else listed.getD j false) (ops.take n) 0 a0 (fun j _ _=>⟨by
           by_cases hij:j=i
           · subst hij;simp[inv.size,hil]
           · rw[getD_set_ne false (Ne.symm hij),if_neg hij],fun _=>rfl⟩),h1]
         have hvi:y8 K s' i=ir (K i s) (s' i):=by unfold y8;rw[hKi]
         rw[hvi,inv.frame,z6 (u:=y8 K s) (u':=y8 K s') (L':=fun j=>listed.getD j false) (ops.take n) 0 a0 (fun j _ _=>⟨rfl,fun hL=>by
           unfold y8;rw[hK' j hL,hs' j hL]⟩)]
       · by_cases hij:j=i
         · subst hij;rw[hKi];exact hV
         · rw[getD_set_ne false (Ne.symm hij)] at hl;rw[hs' j hl,hK' j hl];have hoj:ops[j]?=some (ops[j]'(by omega)):=List.getElem?_eq_getElem (by omega);have hoblj:=hobl j _ (by rw[hget j hj];exact hoj);rw[Nat.zero_add] at hoblj;have hkn:=inv.known j hj hl;revert hoblj hkn;unfold adI tj;cases K j s with
           | rel v S V A=>exact fun hoblj hkn=>hoblj.2.2.2.1 _ _ _ hkn hb
           | _=>exact fun _ _=>trivial
       · by_cases hij:j=i
         · subst hij;rw[hKi];exact fun g hg=>⟨Nat.le_trans inv.ext.size (hA g hg).1,(hA g hg).2⟩
         · rw[getD_set_ne false (Ne.symm hij)] at hl;rw[hs' j hl,hK' j hl];exact fun g hg=>⟨(inv.addr j hj hl g hg).1,Nat.lt_of_lt_of_le (inv.addr j hj hl g hg).2 hb.size⟩
       · by_cases hij:j=i
         · subst hij;rw[getD_set_ne false hne] at hlk;rw[hKi,hs' k hlk,hK' k hlk];intro g hg g' hg' e;have:=(hA g hg).1;have:=(inv.addr k hk hlk g' hg').2;omega
         · rw[getD_set_ne false (Ne.symm hij)] at hlj
           by_cases hik:k=i
           · subst hik;rw[hKi,hs' j hlj,hK' j hlj];intro g hg g' hg' e;have:=(hA g' hg').1;have:=(inv.addr j hj hlj g hg).2;omega
           · rw[getD_set_ne false (Ne.symm hik)] at hlk;rw[hs' j hlj,hK' j hlj,hs' k hlk,hK' k hlk];exact inv.away j k hj hk hne hlj hlk
       · have:=vQ (List.range n) List.nodup_range i (List.mem_range.2 hin) (p:=fun j=>!listed.getD j false) (q:=fun j=>!(listed.setIfInBounds i true).getD j false) (by simp only[hiu];rfl) (by simp[inv.size,hil])
           (fun j hj=>by simp only[getD_set_ne false (Ne.symm hj)])
         omega
     have same:∀ w',Below w.heap.size w w'→tj (K i s) (s i) w'→(∀ g∈nc (K i s) (s i),w.heap.size≤g∧g<w'.heap.size) →
         wpAnyS P ops Q (Sp ops fl Hf) (f+(ops.length - n)) (listed.setIfInBounds i true) (a.put o.dst (ir (K i s) (s i))) w':=fun w' hb hV hA=>next s w' (fun _ _=>rfl) (fun _ _=>rfl) rfl inv.sat hb hV hA
     have hbase:∀ j k,listed.getD j false=true→anc ops j k=true→listed.getD k false=true:=fun j k hl ha=>by
       rcases Nat.lt_or_ge j ops.length with hlt|hge
       · have hoj:ops[j]?=some (ops[j]'hlt):=List.getElem?_eq_getElem hlt;exact zG (L:=fun j=>listed.getD j false) inv.closed j _ hoj (inv.closed j _ hoj hl) k ha
       · rw[inv.tail j (by omega)] at hl;cases hl
     have hSp:∀ w',Below w.heap.size w w'→Sp ops fl Hf (listed.setIfInBounds i true) w':=fun w' hb f _ _=>hHf f w' (inv.ext.trans (hb.mono inv.ext.size));revert hob same next
     unfold adI ir tj nc;cases hK:K i s with
     | skip =>
       intro hob next same
       have hnx:=same w (Below.refl _ _) trivial (by simp)
       by_cases hfl:fl.contains i=true
       · exact .inl ⟨undef,o,ho,.inr ⟨by rw[← hwa];exact hob,rfl⟩,hfl,hnx⟩
       · refine .inr ⟨by simpa using hfl,?_⟩;unfold wpOp;simp only[ho];rw[← hwa,hob];simp only[Bool.false_eq_true,if_false];exact⟨hSp w (Below.refl _ _),hnx⟩
     | val v =>
       intro hob next same
       have hnx:∀ w',Below w.heap.size w w'→wpAnyS P ops Q (Sp ops fl Hf) (f+(ops.length - n)) (listed.setIfInBounds i true) (a.put o.dst v) w':=fun w' hb=>same w' hb trivial (by simp)
       rcases hob.2 with hfree|⟨hfl,hr⟩
       · by_cases hfl:fl.contains i=true
         · exact .inl ⟨v,o,ho,.inl ⟨by rw[← hwa];exact hob.1,fun w hH=>by rw[← hex];exact hfree w hH⟩,hfl,hnx w (Below.refl _ _)⟩
         · refine .inr ⟨by simpa using hfl,?_⟩;unfold wpOp;simp only[ho];rw[← hwa,hob.1];simp only[if_true];refine .inl (yR (R:=fun u w'=>u=v∧w'=w) (yQ hex.symm (by unfold kyp;rw[hfree w (hHf i w inv.ext)];exact⟨rfl,rfl⟩)) (fun u w' hu=>?_));rw[hu.1,hu.2];exact⟨hSp w (Below.refl _ _),hnx w (Below.refl _ _)⟩
       · refine .inr ⟨hfl,?_⟩;unfold wpOp;simp only[ho];rw[← hwa,hob.1];simp only[if_true];refine .inl (yR (yQ hex.symm (hr w inv.ext hfacts)) (fun u w' hu=>?_));rw[hu.1];exact⟨hSp w' hu.2,hnx w' hu.2⟩
     | rel v S V A =>
       intro hob next same
       obtain⟨hfl,hwt,_,_,hr⟩:=hob;refine .inr ⟨hfl,?_⟩;unfold wpOp;simp only[ho];rw[← hwa,hwt];simp only[if_true];refine .inl (yR (yQ hex.symm (hr w inv.ext hfacts)) (fun u w' hu=>?_));obtain⟨x,rfl,hS,hV,hb,hA⟩:=hu;have hK1:∀ j,(if j=i then true else listed.getD j false)=true→K j (fun j=>if j=i then x else s j)=K j s:=fun j hj=>hdep j _ _ (fun k hk=>by
         have:listed.getD k false=true:=by
           by_cases e:j=i
           · subst e;exact hancl k hk
           · rw[if_neg e] at hj;exact hbase j k hj hk
         simp only[hne_of k this,if_false])
       obtain⟨s2,h1,h2⟩:=tM (K:=K) (ops:=ops) (L:=fun j=>if j=i then true else listed.getD j false) hdep
         (fun j k hk=>by
           rcases Nat.lt_or_ge j ops.length with hlt|hge
           · have hoj:ops[j]?=some (ops[j]'hlt):=List.getElem?_eq_getElem hlt;have:=zG (ops:=ops) (L:=fun m=>decide (m<j)) (fun m o' hm hL e he hb=>by
               have:=zI hback hm e he hb;simp only[decide_eq_true_eq] at hL ⊢;omega) j _ hoj (fun e he hb=>by simpa using zI hback hoj e he hb) k hk
             simpa using this
           · have hm:(jM ops).length=ops.length:=by
               have gen:∀ (l:List Oper) (acc:List Nat),(qO l acc).length=acc.length+l.length:=by
                 intro l
                 induction l with
                 | nil=>intro acc;rfl
                 | cons o l ih=>intro acc;rw[yZ,ih];simp;omega
               exact (gen ops []).trans (by simp)
             unfold anc at hk;rw[List.getD_eq_getElem?_getD,List.getElem?_eq_none (by omega)] at hk;simp at hk) hexi
         (fun j k hj hk=>by
           show (if k=i then true else listed.getD k false)=true
           by_cases e:j=i
           · subst e;have:=hancl k hk;simp only[hne_of k this,if_false,this]
           · simp only[e,if_false] at hj;have:=hbase j k hj hk;simp only[hne_of k this,if_false,this]) (fun j=>if j=i then x else s j)
         (fun j hj=>by
           rw[hK1 j hj]
           by_cases e:j=i
           · subst e;rw[hK];simp only[if_true];exact hS
           · simp only[e,if_false] at hj ⊢;exact inv.sat j (by
               rcases Nat.lt_or_ge j n with h|h
               · exact h
               · rw[inv.tail j h] at hj;cases hj)) n
       have hx:s2 i=x:=by rw[h1 i (by simp)];simp
       have hls:∀ j,listed.getD j false=true→s2 j=s j:=fun j hl=>by
         have:=hne_of j hl;rw[h1 j (by simp only[this,if_false,hl])];simp only[this,if_false]
       have hdep2:∀ j,(if j=i then true else listed.getD j false)=true→K j s2=K j s:=fun j hj=>hdep j _ _ (fun k hk=>by
         have:listed.getD k false=true:=by
           by_cases e:j=i
           · subst e;exact hancl k hk
           · rw[if_neg e] at hj;exact hbase j k hj hk
         exact hls k this)
       have:=next s2 w' hls (fun j hl=>hdep2 j (by simp only[hne_of j hl,if_false,hl])) ((hdep2 i (by simp)).trans hK) h2 hb
       simp only[hx] at this;exact⟨hSp w' hb,this hV hA⟩
    by_cases hfr:∃ i,i∈Region.ready .any ops.toArray listed∧i<n∧fl.contains i=true
    · obtain⟨i,hi,hin,hfl⟩:=hfr
      rcases main i hi hin with ⟨v,o,ho,hy,_,hnx⟩|⟨hno,_⟩
      · have hfl' : i∈fl:=by simpa using hfl
        refine wpAnyS_first ho (Region.noSelect_spec hsel) (fun c a w=>?_) (adL hfl) (fun listed w hcl hr hS=>hS i hfl (aa9 hcl hr)) _ listed a w (fun j oj hoj hji hjun hnot=>?_) inv.closed hi hy (fun f _ _=>hHf f w inv.ext) hnx
        · rcases hQ with h0|h0
          · rw[h0] at hfl';cases hfl'
          · exact h0 c a o.dst v w
        · have h1:=List.all_eq_true.1 hfloat i hfl';simp only[Bool.and_eq_true] at h1;have hoj' : ops[j]?=some oj:=by simpa using hoj
          have ho' : ops[i]?=some o:=by simpa using ho
          have h2:=List.all_eq_true.1 h1.2 j (List.mem_range.2 (List.getElem?_eq_some_iff.1 hoj').1);simp only[ho',hoj',Bool.or_eq_true,beq_iff_eq] at h2
          rcases h2 with (h2|h2)|h2|h2
          · exact absurd h2.symm hji
          · obtain⟨_,o1,ho1,hwait⟩:=mem_ready.1 hi;have h3:=zG (L:=fun j=>listed.getD j false) inv.closed i o1 (by simpa using ho1) hwait j h2;simp only[getD_both hjun] at h3;cases h3
          · obtain⟨e,he,h3⟩:=Array.any_eq_true'.1 h2;simp only[Bool.and_eq_true,beq_iff_eq] at h3;exact absurd h3.2 (hnot e he h3.1)
          · exact h2
      · rw[hno] at hfl;cases hfl
    · refine⟨fun h0=>absurd h0 hne,fun i hi=>?_⟩;have hin:i<n:=by
        rcases Nat.lt_or_ge i n with h1|h1
        · exact h1
        · exfalso;obtain⟨hiun,o,ho,hwait⟩:=mem_ready.1 hi;have ho' : ops[i]?=some o:=by simpa using ho
          have hil:i<ops.length:=(List.getElem?_eq_some_iff.1 ho').1;have hancl:=zG (L:=fun j=>listed.getD j false) inv.closed i o ho' hwait;have h2:=List.all_eq_true.1 htail i (List.mem_range.2 hil);simp only[Bool.or_eq_true,decide_eq_true_eq] at h2
          rcases h2 with h2|h2
          · omega
          · have h3:=List.all_eq_true.1 h2 m (List.mem_range.2 (by omega));simp only[Bool.or_eq_true,Bool.and_eq_true] at h3
            rcases h3 with h3|⟨h3,_⟩
            · have h4:=hancl m h3;simp only[hml] at h4;cases h4
            · exact hfr ⟨m,hmr,hmn,h3⟩
      rcases main i hi hin with ⟨v,o,ho,hy,hfl,hnx⟩|⟨_,h1⟩
      · exact absurd ⟨i,hi,hin,hfl⟩ hfr
      · exact h1
end
def acU (hl:List (Nat × List Ent)) (f:Nat) (w:World):Prop:=∀ p∈hl,p.1=f→∀ e∈p.2,e.ok w
def yI (N k:Nat):Array Bool:=(List.replicate k true++List.replicate (N - k) false).toArray
def ua (P:Program) (ops:Array Oper) (Q:Exit→Act→World→Prop) (Sd:Nat→World→Prop):List Oper→Nat→Act→World→Prop
 | [],_,a,w=>Q .normal a w
 | o::l,k,a,w=>if Region.wanted o (yielded ops a.tmps) then o.wp P a w (fun a' w'=>Sd k w'∧ua P ops Q Sd l (k+1) a' w') Q else Sd k w∧ua P ops Q Sd l (k+1) (a.put o.dst undef) w
theorem tZ {P:Program} {ops:List Oper} {Q:Exit→Act→World→Prop} {S:Array Bool→World→Prop} {N:Nat} (hN:ops.length=N):∀ (l:List Oper) (k:Nat) (a:Act) (w:World),(∀ j,l[j]?=ops[k+j]?)→k+l.length=N →
  Region.seqB .any ops.toArray l.length k (yI N k)=true→ua P ops.toArray Q (fun k w=>S (yI N (k+1)) w) l k a w→wpAnyS P ops Q S l.length (yI N k) a w
 | [],_,_,_,_,_,hB,h=>⟨by simpa [Region.seqB] using hB,h⟩
 | o::l,k,a,w,hl,hk,hB,h=>by
  have h0:ops.toArray[k]?=some o:=by simpa using (hl 0).symm
  simp only[List.length_cons] at hk;simp only[List.length_cons,Region.seqB,Bool.and_eq_true,decide_eq_true_eq] at hB;have hset:(yI N k).setIfInBounds k true=yI N (k+1):=by
   unfold yI;rw[List.setIfInBounds_toArray,show N - k=(N - (k+1))+1 by omega,List.replicate_succ,List.replicate_succ' (n:=k),List.set_append_right _ _ (by simp)];simp
  refine⟨fun h1=>(by rw[hB.1] at h1;cases h1),fun i hi=>?_⟩;rw[hB.1] at hi;have hik:i=k:=by simpa using hi
  subst hik;have hw:wpOp P ops.toArray Q i (fun a' w'=>S (yI N (i+1)) w'∧ua P ops.toArray Q (fun k w=>S (yI N (k+1)) w) l (i+1) a' w') a w:=by
   unfold wpOp;simp only[h0];unfold ua at h;split
   ·rename_i hwt;rw[if_pos hwt] at h;exact .inl h
   ·rename_i hwt;rw[if_neg hwt] at h;exact h
  rw[hset];refine wpOp_mono (fun a' w' h'=>⟨h'.1,?_⟩) hw;exact tZ hN l (i+1) a' w' (fun j=>by have:=hl (j+1);simpa [Nat.add_assoc,Nat.add_comm 1 j] using this) (by omega) (by rw[hset] at hB;exact hB.2) h'.2
theorem nG {Hf:Nat→World→Prop} {P:Program} {id:Nat} {Q:Exit→Act→World→Prop} {a:Act} {w:World} {l:List Oper} (hHf:∀ i w',Below w.heap.size w w'→Hf i w') (fl:List Nat) (n:Nat) (K:Nat→zE→Kind) (hm:P.follows .mixedOrders=true) (hB:yb l fl n=true)
  (hQ:fl=[]∨∀ c a d v w,Q (.panic c) (Act.put a d v) w→Q (.panic c) a w) (hdep:∀ i,Dep l i (K i)) (hexi:∀ i s,∃ x,qN (K i s) x)
  (h:∀ s,tg P l fl Hf w K (fun a' F G=>∀ w',Below w.heap.size w w'→(∀ j,F j w')→G.Pairwise apart→(∀ x∈G,∀ g∈x,w.heap.size≤g)→ua P l.toArray Q (fun k w=>Sp l fl Hf (yI l.length (k+1)) w) (l.drop n) n a' w') s (l.take n) 0 a (fun _ _=>True) []) :
  (Code.region id l.toArray true).wp P Q a w:=by
 refine wp_region_any hm ?_;have hB':=hB;unfold yb at hB';simp only[Bool.and_eq_true,decide_eq_true_eq] at hB';obtain⟨⟨⟨⟨⟨⟨⟨hsel,hn⟩,hback⟩,_⟩,_⟩,_⟩,_⟩,hseq⟩:=hB';have hancn:∀ j k,anc l j k=true→k<j:=fun j k hk=>by
  rcases Nat.lt_or_ge j l.length with hlt|hge
  ·have hoj:l[j]?=some (l[j]'hlt):=List.getElem?_eq_getElem hlt;have:=zG (ops:=l) (L:=fun m=>decide (m<j)) (fun m o' hm hL e he hb=>by
    have:=zI hback hm e he hb;simp only[decide_eq_true_eq] at hL ⊢;omega) j _ hoj (fun e he hb=>by simpa using zI hback hoj e he hb) k hk
   simpa using this
  ·have hm:(jM l).length=l.length:=by
    have gen:∀ (l:List Oper) (acc:List Nat),(qO l acc).length=acc.length+l.length:=by
     intro l
     induction l with
     | nil=>intro acc;rfl
     | cons o l ih=>intro acc;rw[yZ,ih];simp;omega
    exact (gen l []).trans (by simp)
   unfold anc at hk;rw[List.getD_eq_getElem?_getD,List.getElem?_eq_none (by omega)] at hk;simp at hk
 obtain⟨s0,_,hs0⟩:=tM (K:=K) (ops:=l) (L:=fun _=>false) hdep hancn hexi (fun _ _ h=>by cases h) (fun _ _=>0) (fun _ h=>by cases h) n;have:=eT (Hf:=Hf) (w0:=w) hHf (Q:=Q) (a0:=a) hB hQ hdep hexi h (fun s a' w' hF hb hf hp hg=>by
  have hdl:(l.drop n).length=l.length - n:=by simp
  have:=tZ (S:=Sp l fl Hf) rfl (l.drop n) n a' w' (fun j=>by simp[List.getElem?_drop]) (by rw[hdl];omega) (by rw[hdl];exact hseq) (hF w' hb hf hp hg);rwa [hdl] at this) n s0 (Array.replicate l.toArray.size false) a { w with drawn:=w.drawn+1 } ?_ ?_
 ·rw[show n+(l.length - n)=l.toArray.size by simp;omega] at this;exact mo _ _ _ _ this
 ·refine⟨by simp,fun j o _ hl=>(by rw[getD_replicate_false] at hl;cases hl),fun t _=>getD_replicate_false _ _,?_,⟨rfl,rfl,rfl,Nat.le_refl _,fun _ _=>rfl⟩,hs0,fun j _ hl=>(by rw[getD_replicate_false] at hl;cases hl),fun j _ hl=>(by rw[getD_replicate_false] at hl;cases hl),fun j _ _ _ _ hl=>(by rw[getD_replicate_false] at hl;cases hl)⟩;have gen:∀ (l' : List Oper) (i:Nat) (a:Act),z8 (y8 K s0) (fun j=>(Array.replicate l.toArray.size false).getD j false) l' i a=a:=by
   intro l'
   induction l' with
   | nil=>intro i a;rfl
   | cons o l' ih =>
    intro i a;unfold z8;rw[getD_replicate_false];exact ih (i+1) a
  exact (gen _ 0 a).symm
 ·have:((List.range n).filter fun j=>!(Array.replicate l.toArray.size false).getD j false)=List.range n:=by
   apply List.filter_eq_self.2;intro j _;rw[getD_replicate_false];rfl
  rw[this];simp
section
variable (P:Program) (w0:World) (gs:List Nat) (n:Nat) (fl:List Nat) (hl:List (Nat × List Ent)) (Q:Exit→Act→World→Prop) (ops:List Oper) (L0:List Ent)
def Sd (k:Nat) (w:World):Prop:=Sp ops fl (acU hl) (yI ops.length (k+1)) w
def WOS (K:List (Nat × Value)) (L:List Ent) (k:Nat) (rest:List Oper):Prop :=
 ∀ a w,a.defers=[]→a.tmps.size=n→Kn K a→Me w0 gs L w→ua P ops.toArray Q (Sd fl hl ops) rest k a w
def DQS (tail:List Oper) (hN:Nat) (i:Nat) (rest:List Oper) (C:zE→Prop) (K:zE→List (Nat × Value)) (N:zE→List (Nat × Ent)):Prop :=
 ∃ ks:Nat→zE→Kind,(∀ j,i≤j→Dep ops j (ks j))∧(∀ j s,i≤j→∃ x,qN (ks j s) x) ∧
  ∀ s a w F G,C s→a.defers=[]→a.tmps.size=n→Kn (K s) a→Me w0 gs L0 w→Gr G (N s)→(∀ j e,(j,e)∈N s→j<i)→(∀ j w',i≤j→F j w')→(∀ j w',F j w'→(∀ e,(j,e)∈N s→e.ok w'))→((∃ w',∀ j,F j w')→∀ x∈G,x.Nodup) →
   tg P ops fl (acU hl) w ks (fun a' F' G'=>∀ w',Below w.heap.size w w'→(∀ j,F' j w')→G'.Pairwise apart→(∀ x∈G',∀ g∈x,w.heap.size≤g)→ua P ops.toArray Q (Sd fl hl ops) tail hN a' w') s rest i a F G
end
section
variable {P:Program} {w0:World} {gs:List Nat} {n:Nat} {fl:List Nat} {hl:List (Nat × List Ent)} {Q:Exit→Act→World→Prop} {ops:List Oper} {L0:List Ent}
variable {tail rest:List Oper} {nh:Nat} {i:Nat} {C:zE→Prop} {K:zE→List (Nat × Value)} {N:zE→List (Nat × Ent)}
variable {d:Nat} {op:Op} {ty:TypeId} {pos:String} {after:Array Edge} {gd:Option (Nat × Bool)}
theorem DQS.nil (k:∀ s,C s→WOS P w0 gs n fl hl Q ops (K s) ((N s).map Prod.snd++L0) nh tail):DQS P w0 gs n fl hl Q ops L0 tail nh i [] C K N:=by
 refine⟨fun _ _=>.skip,fun _ _ _ _ _=>rfl,fun _ _ _=>⟨fun _=>0,trivial⟩,?_⟩;intro s a w F G hC hdf hsz hk hme hG _ _ hF hnd w' hb hf hap hge;refine k s hC a w' hdf hsz hk (hme.add hb ⟨fun e he=>?_,fun e he=>?_,?_⟩)
 ·obtain⟨p,hp,rfl⟩:=List.mem_map.1 he;exact hF p.1 w' (hf p.1) p.2 hp
 ·obtain⟨p,hp,rfl⟩:=List.mem_map.1 he;obtain⟨x,hx,hg⟩:=hG.mem p hp;exact hge x hx _ hg
 ·have:=hG.nodup hap (hnd ⟨w',hf⟩);simpa [List.map_map,Function.comp_def] using this
theorem DQS.step {o:Oper} {N' : zE→List (Nat × Ent)} {K' : zE→List (Nat × Value)} {C' : zE→Prop} (k:zE→Kind) (es:zE→List Ent) (hdep:Dep ops i k) (hex:∀ s,∃ x,qN (k s) x)
  (hob:∀ s a w F,C s→a.defers=[]→a.tmps.size=n→Kn (K s) a→Me w0 gs L0 w→(∀ j w',F j w'→∀ e,(j,e)∈N s→e.ok w')→adI P ops fl (acU hl) w (k s) i o a F)
  (hK:∀ s a,a.tmps.size=n→Kn (K s) a→Kn (K' s) (a.put o.dst (ir (k s) (s i)))) (hC:∀ s,C s→qN (k s) (s i)→C' s)
  (hN:∀ s,N' s=(es s).map (fun e=>(i,e))++N s) (hA:∀ s,nc (k s) (s i)=(es s).map Ent.g) (hV:∀ s w,tj (k s) (s i) w→(∀ e∈es s,e.ok w)∧((es s).map Ent.g).Nodup)
  (h:DQS P w0 gs n fl hl Q ops L0 tail nh (i+1) rest C' K' N'):DQS P w0 gs n fl hl Q ops L0 tail nh i (o::rest) C K N:=by
 obtain⟨ks,h1,h2,h3⟩:=h;have hki:(fun j s=>if j=i then k s else ks j s) i=k:=by funext s;simp
 refine⟨fun j s=>if j=i then k s else ks j s,fun j hj=>?_,fun j s hj=>?_,?_⟩
 ·by_cases e:j=i
  ·subst e;rw[hki];exact hdep
  ·have:(fun s=>if j=i then k s else ks j s)=ks j:=by funext s;simp[e]
   show Dep ops j (fun s=>if j=i then k s else ks j s);rw[this];exact h1 j (by omega)
 ·by_cases e:j=i
  ·subst e;simp only[if_true];exact hex s
  ·simp only[e,if_false];exact h2 j s (by omega)
 ·intro s a w F G hCs hdf hsz hk hme hG hNi hFi hF hnd;have hcong:∀ (Fin:Act→(Nat→World→Prop)→List (List Nat)→Prop) (l:List Oper) (m:Nat) (a:Act) (F:Nat→World→Prop) (G:List (List Nat)),i<m→tg P ops fl (acU hl) w ks Fin s l m a F G→tg P ops fl (acU hl) w (fun j s=>if j=i then k s else ks j s) Fin s l m a F G:=by
   intro Fin l
   induction l with
   | nil=>intro m a F G _ h;exact h
   | cons o l ih =>
    intro m a F G hm h;have hne:¬ m=i:=by omega
    unfold tg at h ⊢;simp only[hne,if_false];exact⟨h.1,fun hs=>ih (m+1) _ _ _ (by omega) (h.2 hs)⟩
  unfold tg;simp only[if_true];refine⟨hob s a w F hCs hdf hsz hk hme hF,fun hs=>hcong _ _ _ _ _ _ (by omega) ?_⟩;refine h3 s _ w _ _ (hC s hCs hs) (by rw[put_defers];exact hdf) (by rw[zP];exact hsz) (hK s a hsz hk) hme (by rw[hN s,hA s];exact .add i (es s) hG) (fun j e he=>?_) (fun j w' hj=>?_) (fun j w' hj e he=>?_) (fun ⟨w',hf⟩ x hx=>?_)
  ·rw[hN s] at he
   rcases List.mem_append.1 he with he|he
   ·obtain⟨e',he',h4⟩:=List.mem_map.1 he;cases h4;omega
   ·have:=hNi j e he;omega
  ·have:¬ j=i:=by omega
   simp only[this,if_false];exact hFi j w' (by omega)
  ·rw[hN s] at he
   rcases List.mem_append.1 he with he|he
   ·obtain⟨e',he',h4⟩:=List.mem_map.1 he;cases h4;simp only[if_true] at hj;exact (hV s w' hj).1 e he'
   ·have:j≠i:=by have:=hNi j e he;omega
    simp only[this,if_false] at hj;exact hF j w' hj e he
  ·rcases List.mem_cons.1 hx with rfl|hx
   ·have:=hf i;simp only[if_true] at this;rw[hA s];exact (hV s w' this).2
   ·refine hnd ⟨w',fun j=>?_⟩ x hx
    by_cases e:j=i
    ·subst e;exact hFi j w' (Nat.le_refl _)
    ·have:=hf j;simpa [e] using this
theorem DQS.skip (h:DQS P w0 gs n fl hl Q ops L0 tail nh (i+1) rest C (fun s=>(d,undef)::K s) N) (hw:∀ s,wk ops (K s) gd=some false:=by intro _;rfl) (hd:Nat.blt d n=true:=by rfl) :
  DQS P w0 gs n fl hl Q ops L0 tail nh i (⟨some d,op,ty,pos,after,gd⟩::rest) C K N :=
 DQS.step (fun _=>.skip) (fun _=>[]) (fun _ _ _=>rfl) (fun _=>⟨fun _=>0,trivial⟩) (fun s a w F _ _ _ hk _ _=>zV (o:=⟨some d,op,ty,pos,after,gd⟩) hk (hw s))
  (fun s a hsz hk => hk.put (by have : d < n := by simpa [Nat.blt_eq] using hd
                                omega) undef) (fun _ h _=>h) (fun _=>rfl) (fun _=>rfl) (fun _ _ _=>by simp) h
theorem DQS.doesE {v:zE→Value} (E:zE→List Ent) (hE:∀ s,Vs ops i (N s) (E s)) (hv:∀ s,C s→Does P w0 gs (K s) (E s++L0) op ty (v s)) (dep:Dp ops i v)
  (h:DQS P w0 gs n fl hl Q ops L0 tail nh (i+1) rest C (fun s=>(d,v s)::K s) N) (hfl:fl.contains i=false:=by rfl) (hw:∀ s,wk ops (K s) gd=some true:=by intro _;rfl) (hd:Nat.blt d n=true:=by rfl) :
  DQS P w0 gs n fl hl Q ops L0 tail nh i (⟨some d,op,ty,pos,after,gd⟩::rest) C K N :=
 DQS.step (fun s=>.val (v s)) (fun _=>[]) (fun s s' hs=>by simp only[dep s s' hs]) (fun _=>⟨fun _=>0,trivial⟩)
  (fun s a w F hC _ _ hk hme hF=>⟨zV (o:=⟨some d,op,ty,pos,after,gd⟩) hk (hw s),.inr ⟨hfl,fun w' hb hf=>by
   unfold kyp;have hm:=(hme.below hb).mr
   rw[hv s hC a w' hk ⟨hm.mod,fun e he=>by
    rcases List.mem_append.1 he with he|he
    ·obtain⟨j,h1,h2⟩:=(hE s).mem e he;exact hF j w' (hf j h2) e h1
    ·exact hm.ok e he⟩ ⟨some d,op,ty,pos,after,gd⟩ rfl rfl]
   exact⟨rfl,Below.refl _ _⟩⟩⟩)
  (fun s a hsz hk => hk.put (by have : d < n := by simpa [Nat.blt_eq] using hd
                                omega) (v s)) (fun _ h _=>h) (fun _=>rfl) (fun _=>rfl) (fun _ _ _=>by simp) h
theorem DQS.does {v:zE→Value} (hv:∀ s,C s→Does P w0 gs (K s) L0 op ty (v s)) (dep:Dp ops i v)
  (h:DQS P w0 gs n fl hl Q ops L0 tail nh (i+1) rest C (fun s=>(d,v s)::K s) N) (hfl:fl.contains i=false:=by rfl) (hw:∀ s,wk ops (K s) gd=some true:=by intro _;rfl) (hd:Nat.blt d n=true:=by rfl) :
  DQS P w0 gs n fl hl Q ops L0 tail nh i (⟨some d,op,ty,pos,after,gd⟩::rest) C K N :=
 DQS.doesE (fun _=>[]) (fun _=>.nil) hv dep h hfl hw hd
theorem DQS.free {v:zE→Value} (hv:∀ s,C s→∀ w0 gs,Does P w0 gs (K s) [] op ty (v s)) (dep:Dp ops i v)
  (h:DQS P w0 gs n fl hl Q ops L0 tail nh (i+1) rest C (fun s=>(d,v s)::K s) N) (hw:∀ s,wk ops (K s) gd=some true:=by intro _;rfl) (hd:Nat.blt d n=true:=by rfl) :
  DQS P w0 gs n fl hl Q ops L0 tail nh i (⟨some d,op,ty,pos,after,gd⟩::rest) C K N :=
 DQS.step (fun s=>.val (v s)) (fun _=>[]) (fun s s' hs=>by simp only[dep s s' hs]) (fun _=>⟨fun _=>0,trivial⟩)
  (fun s a w F hC _ _ hk hme hF=>⟨zV (o:=⟨some d,op,ty,pos,after,gd⟩) hk (hw s),.inl (fun w' _=>hv s hC w' [] a w' hk (Me.refl w' []).mr ⟨some d,op,ty,pos,after,gd⟩ rfl rfl)⟩)
  (fun s a hsz hk => hk.put (by have : d < n := by simpa [Nat.blt_eq] using hd
                                omega) (v s)) (fun _ h _=>h) (fun _=>rfl) (fun _=>rfl) (fun _ _ _=>by simp) h
theorem DQS.newsE {vf:zE→(Nat→Nat)→Value} {Nf:zE→(Nat→Nat)→List Ent} {S:zE→(Nat→Nat)→Prop} (E:zE→List Ent) (hE:∀ s,Vs ops i (N s) (E s)) (hS:∀ s,∃ x,S s x)
  (hv:∀ s,C s→kc P w0 gs (K s) (E s++L0) op ty (vf s) (Nf s) (S s)) (dep:Dp ops i vf) (depN:Dp ops i Nf) (depS:Dp ops i S)
  (h:DQS P w0 gs n fl hl Q ops L0 tail nh (i+1) rest (fun s=>C s∧S s (s i)) (fun s=>(d,vf s (s i))::K s) (fun s=>(Nf s (s i)).map (fun e=>(i,e))++N s)) (hfl:fl.contains i=false:=by rfl) (hw:∀ s,wk ops (K s) gd=some true:=by intro _;rfl) (hd:Nat.blt d n=true:=by rfl) :
  DQS P w0 gs n fl hl Q ops L0 tail nh i (⟨some d,op,ty,pos,after,gd⟩::rest) C K N :=
 DQS.step (fun s=>.rel (vf s) (S s) (fun x w=>(∀ e∈Nf s x,e.ok w)∧((Nf s x).map Ent.g).Nodup) (fun x=>(Nf s x).map Ent.g)) (fun s=>Nf s (s i))
  (fun s s' hs=>by simp only[dep s s' hs,depN s s' hs,depS s s' hs]) hS
  (fun s a w F hC _ _ hk hme hF=>⟨hfl,zV (o:=⟨some d,op,ty,pos,after,gd⟩) hk (hw s),hS s,fun x w w' ⟨h1,h2⟩ hb=>⟨fun e he=>(h1 e he).keep (hb.block e.g (h1 e he).lt),h2⟩,fun w' hb hf=>by
   unfold kyp;have hm:=(hme.below hb).mr
   obtain⟨x,w'',e1,e2,e3,e4⟩:=hv s hC a w' hk ⟨hm.mod,fun e he=>by
    rcases List.mem_append.1 he with he|he
    ·obtain⟨j,h1,h2⟩:=(hE s).mem e he;exact hF j w' (hf j h2) e h1
    ·exact hm.ok e he⟩ ⟨some d,op,ty,pos,after,gd⟩ rfl rfl
   rw[e1];refine⟨x,rfl,e2,⟨e4.ok,e4.nodup⟩,e3,fun g hg=>?_⟩;obtain⟨e,he,rfl⟩:=List.mem_map.1 hg;exact⟨e4.new e he,(e4.ok e he).lt⟩⟩)
  (fun s a hsz hk => hk.put (by have : d < n := by simpa [Nat.blt_eq] using hd
                                omega) (vf s (s i))) (fun _ h hs=>⟨h,hs⟩) (fun _=>rfl) (fun _=>rfl) (fun _ _ hh=>hh) h
theorem DQS.makesE {vf:zE→Nat→Value} {t:TypeId} {cs:zE→List Value} (E:zE→List Ent) (hE:∀ s,Vs ops i (N s) (E s))
  (hv:∀ s,C s→td P w0 gs (K s) (E s++L0) op ty (vf s) t (cs s)) (dep:Dp ops i vf) (depN:Dp ops i cs)
  (h:DQS P w0 gs n fl hl Q ops L0 tail nh (i+1) rest C (fun s=>(d,vf s (s i 0))::K s) (fun s=>(i,⟨s i 0,t,cs s⟩)::N s)) (hfl:fl.contains i=false:=by rfl) (hw:∀ s,wk ops (K s) gd=some true:=by intro _;rfl) (hd:Nat.blt d n=true:=by rfl) :
  DQS P w0 gs n fl hl Q ops L0 tail nh i (⟨some d,op,ty,pos,after,gd⟩::rest) C K N:=by
 refine DQS.newsE (vf:=fun s x=>vf s (x 0)) (Nf:=fun s x=>[⟨x 0,t,cs s⟩]) (S:=fun _ _=>True) E hE (fun _=>⟨fun _=>0,trivial⟩) (fun s hC=>(hv s hC).news) (fun s s' hs=>by simp only[dep s s' hs]) (fun s s' hs=>by simp only[depN s s' hs]) (fun _ _ _=>rfl) ?_ hfl hw hd;obtain⟨ks,h1,h2,h3⟩:=h;exact⟨ks,h1,h2,fun s a w F G hC=>h3 s a w F G hC.1⟩
theorem DQS.makes {vf:zE→Nat→Value} {t:TypeId} {cs:zE→List Value}
  (hv:∀ s,C s→td P w0 gs (K s) L0 op ty (vf s) t (cs s)) (dep:Dp ops i vf) (depN:Dp ops i cs)
  (h:DQS P w0 gs n fl hl Q ops L0 tail nh (i+1) rest C (fun s=>(d,vf s (s i 0))::K s) (fun s=>(i,⟨s i 0,t,cs s⟩)::N s)) (hfl:fl.contains i=false:=by rfl) (hw:∀ s,wk ops (K s) gd=some true:=by intro _;rfl) (hd:Nat.blt d n=true:=by rfl) :
  DQS P w0 gs n fl hl Q ops L0 tail nh i (⟨some d,op,ty,pos,after,gd⟩::rest) C K N :=
 DQS.makesE (fun _=>[]) (fun _=>.nil) hv dep depN h hfl hw hd
theorem DQS.callE {f:FuncId} [Cal P f] {xs:Array Operand} {ats:Array TypeId} {ak:zE→List Value} {R:zE→World→Prop} {v:zE→Value} (E:zE→List Ent) (hE:∀ s,Vs ops i (N s) (E s)) (hc:∀ s,C s→Fn P f (ak s) (R s) (Is (v s)))
  (ha:∀ s,evs (K s) xs.toList=some (ak s)) (hR:∀ s,C s→∀ w,Mr w0 gs (E s++L0) w→R s w) (dep:Dp ops i v)
  (h:DQS P w0 gs n fl hl Q ops L0 tail nh (i+1) rest C (fun s=>(d,v s)::K s) N) (hfl:fl.contains i=false:=by rfl) (hw:∀ s,wk ops (K s) gd=some true:=by intro _;rfl) (hd:Nat.blt d n=true:=by rfl) :
  DQS P w0 gs n fl hl Q ops L0 tail nh i (⟨some d,.call { callee:=.value (.func f),args:=xs,argTypes:=ats },ty,pos,after,gd⟩::rest) C K N :=
 DQS.step (fun s=>.val (v s)) (fun _=>[]) (fun s s' hs=>by simp only[dep s s' hs]) (fun _=>⟨fun _=>0,trivial⟩)
  (fun s a w F hC _ _ hk hme hF=>⟨zV (o:=⟨some d,.call { callee:=.value (.func f),args:=xs,argTypes:=ats },ty,pos,after,gd⟩) hk (hw s),.inr ⟨hfl,fun w' hb hf=>by
   have hm:=(hme.below hb).mr;have hm' : Mr w0 gs (E s++L0) w':=⟨hm.mod,fun e he=>by
    rcases List.mem_append.1 he with he|he
    ·obtain⟨j,h1,h2⟩:=(hE s).mem e he;exact hF j w' (hf j h2) e h1
    ·exact hm.ok e he⟩
   refine kyp_call (f:=f) (args:=(ak s).toArray) (by have:=ve (P:=P) (f:=f) (ty:=ty) (pos:=pos) (after:=after) (gd:=gd) (dst:=some d) (ats:=ats) (x:=.func f) (w:=w') (fs:=[]) (cs:=[]) hk rfl (ha s);simpa using this) ((hc s hC w' (hR s hC w' hm')).mono ?_);rintro e w'' ⟨u,N',rfl,h1,_,h2⟩;exact⟨u,rfl,h2,h1⟩⟩⟩)
  (fun s a hsz hk => hk.put (by have : d < n := by simpa [Nat.blt_eq] using hd
                                omega) (v s)) (fun _ h _=>h) (fun _=>rfl) (fun _=>rfl) (fun _ _ _=>by simp) h
theorem DQS.call {f:FuncId} [Cal P f] {xs:Array Operand} {ats:Array TypeId} {ak:zE→List Value} {R:zE→World→Prop} {v:zE→Value} (hc:∀ s,C s→Fn P f (ak s) (R s) (Is (v s)))
  (ha:∀ s,evs (K s) xs.toList=some (ak s)) (hR:∀ s,C s→∀ w,Mr w0 gs L0 w→R s w) (dep:Dp ops i v)
  (h:DQS P w0 gs n fl hl Q ops L0 tail nh (i+1) rest C (fun s=>(d,v s)::K s) N) (hfl:fl.contains i=false:=by rfl) (hw:∀ s,wk ops (K s) gd=some true:=by intro _;rfl) (hd:Nat.blt d n=true:=by rfl) :
  DQS P w0 gs n fl hl Q ops L0 tail nh i (⟨some d,.call { callee:=.value (.func f),args:=xs,argTypes:=ats },ty,pos,after,gd⟩::rest) C K N :=
 DQS.callE (fun _=>[]) (fun _=>.nil) hc ha hR dep h hfl hw hd
theorem DQS.held {v:zE→Value} {es:List Ent} (hin:(i,es)∈hl) (hv:∀ s,C s→∀ w0 gs,Does P w0 gs (K s) es op ty (v s)) (dep:Dp ops i v)
  (h:DQS P w0 gs n fl hl Q ops L0 tail nh (i+1) rest C (fun s=>(d,v s)::K s) N) (hw:∀ s,wk ops (K s) gd=some true:=by intro _;rfl) (hd:Nat.blt d n=true:=by rfl) :
  DQS P w0 gs n fl hl Q ops L0 tail nh i (⟨some d,op,ty,pos,after,gd⟩::rest) C K N :=
 DQS.step (fun s=>.val (v s)) (fun _=>[]) (fun s s' hs=>by simp only[dep s s' hs]) (fun _=>⟨fun _=>0,trivial⟩)
  (fun s a w F hC _ _ hk hme hF=>⟨zV (o:=⟨some d,op,ty,pos,after,gd⟩) hk (hw s),.inl (fun w' hH=>hv s hC w' [] a w' hk ⟨.refl _ _,fun e he=>hH (i,es) hin rfl e he⟩ ⟨some d,op,ty,pos,after,gd⟩ rfl rfl)⟩)
  (fun s a hsz hk => hk.put (by have : d < n := by simpa [Nat.blt_eq] using hd
                                omega) (v s)) (fun _ h _=>h) (fun _=>rfl) (fun _=>rfl) (fun _ _ _=>by simp) h
def Kept (ops:List Oper) (fl:List Nat) (k:Nat) (L:List Ent):List (Nat × List Ent)→Prop
 | []=>True
 | (f,es)::r=>(mO ops fl (yI ops.length (k+1)) f=false∨∀ e∈es,e∈L)∧Kept ops fl k L r
theorem Kept.sd {k:Nat} {L:List Ent} {w:World} (hm:Mr w0 gs L w):∀ {hl:List (Nat × List Ent)},Kept ops fl k L hl→Sd fl hl ops k w
 | [],_=>fun f _ _ p hp=>by cases hp
 | (f,es)::r,⟨h1,h2⟩=>fun g hg hp p hpm hpe e he=>by
  rcases List.mem_cons.1 hpm with rfl|hpm
  ·simp only at hpe;subst hpe
   rcases h1 with h1|h1
   ·rw[h1] at hp;cases hp
   ·exact hm.ok e (h1 e he)
  ·exact Kept.sd hm h2 g hg hp p hpm hpe e he
theorem WOS.nil {k:Nat} {K:List (Nat × Value)} {L:List Ent} (h:WX w0 gs n .normal Q K L):WOS P w0 gs n fl hl Q ops K L k []:=fun a w h1 h2 h3 h4=>h a w h1 h2 h3 h4
theorem WOS.does {k:Nat} {K:List (Nat × Value)} {L:List Ent} {v:Value} (h:Does P w0 gs K L op ty v) (hK:Kept ops fl k L hl) (kk:WOS P w0 gs n fl hl Q ops ((d,v)::K) L (k+1) rest) (hd:Nat.blt d n=true:=by rfl) (hw:wk ops K gd=some true:=by rfl) :
  WOS P w0 gs n fl hl Q ops K L k (⟨some d,op,ty,pos,after,gd⟩::rest):=by
 intro a w hdf hsz hk hme;unfold ua;rw[if_pos (zV (o:=⟨some d,op,ty,pos,after,gd⟩) hk hw)];unfold Oper.wp;rw[h a w hk hme.mr ⟨some d,op,ty,pos,after,gd⟩ rfl rfl];have hd' : d<n:=by simpa [Nat.blt_eq] using hd
 exact⟨hK.sd hme.mr,kk _ _ (by rw[put_defers];exact hdf) (by rw[zP];exact hsz) (hk.put (by omega) v) hme⟩
theorem WOS.stores {k:Nat} {K:List (Nat × Value)} {L L' : List Ent} (h:rS P w0 gs K L op ty L') (hK:Kept ops fl k L' hl) (kk:WOS P w0 gs n fl hl Q ops K L' (k+1) rest) (hw:wk ops K gd=some true:=by rfl) :
  WOS P w0 gs n fl hl Q ops K L k (⟨none,op,ty,pos,after,gd⟩::rest):=by
 intro a w hdf hsz hk hme;unfold ua;rw[if_pos (zV (o:=⟨none,op,ty,pos,after,gd⟩) hk hw)];obtain⟨w',h1,h2⟩:=h a w hk hme ⟨none,op,ty,pos,after,gd⟩ rfl rfl;unfold Oper.wp;rw[h1];exact⟨hK.sd h2.mr,kk _ _ hdf hsz hk h2⟩
theorem WC.drawS {K:List (Nat × Value)} {L:List Ent} {id:Nat} {l hd tl:List Oper} [Mix P] (fl:List Nat) (hl:List (Nat × List Ent)) (h:Nat) (hB:yb l fl h=true) (h1:l.take h=hd) (h2:l.drop h=tl) (hLs:∀ p∈hl,∀ e∈p.2,e∈L)
  (k:DQS P w0 gs n fl hl (NoPanic Q) l L tl h 0 hd (fun _=>True) (fun _=>K) (fun _=>[])):WC P w0 gs n (.region id l.toArray true) Q K L:=by
 intro a w hdf hsz hk hme;subst h1;subst h2;obtain⟨ks,k1,k2,k3⟩:=k;refine wp_region_noPanic ?_
 exact nG (Hf:=acU hl) (fun i w' hb p hp _ e he=>(hme.ok e (hLs p hp e he)).keep (hb.block e.g (hme.ok e (hLs p hp e he)).lt)) fl h ks Mix.out hB (.inr (fun _ _ _ _ _ h=>h.elim)) (fun i=>k1 i (Nat.zero_le _)) (fun i s=>k2 i s (Nat.zero_le _))
  (fun s=>k3 s a w _ _ trivial hdf hsz hk hme .nil (by simp) (fun _ _ _=>trivial) (by simp) (by simp))
end
end Sx
end
end Go.Proofs.YteibfbjpkjkejaaGreatDoor
