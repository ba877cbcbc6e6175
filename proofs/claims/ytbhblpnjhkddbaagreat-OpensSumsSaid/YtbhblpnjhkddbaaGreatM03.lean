/- Part 3 of the proof. -/
import Derived.Test.YtbhblpnjhkddbaaGreatM02
import Derived.Lib.AppendZeros
import Derived.Lib.AppendZerosOnto
import Derived.Lib.Walk
import Derived.Lib.SliceRun
import Derived.OwnWalk
import Derived.Test.YtbhblpnjhkddbaaGreatProg
import Derived.Laws.AppendOwnNone
import Derived.RangeFuncNested
import Derived.RangeFuncBound
import Derived.RangeFuncCalls
import Derived.RangeFuncBox
import Derived.RangeFuncLeaves
import Derived.RangeFuncFrom
import Derived.Shelf.Abstract
import Derived.Shelf.RegionOpen
import Derived.OwnWalkIn
import Derived.TacticsInMore
import Derived.LoopNIn
import Derived.LoopIn
import Derived.Lib.ItoaNum
import Derived.Laws.BitsAllLaws
set_option linter.unusedSimpArgs false
set_option linter.unusedVariables false
set_option maxHeartbeats 8000000
namespace Go.Proofs.YtbhblpnjhkddbaaGreat
section
open Go Go.RowKit
namespace Sx
open Kp
abbrev zE:=Nat→Nat→Nat
inductive Kind where
 | skip
 | val (v:Value)
 | rel (v:(Nat→Nat)→Value) (S:(Nat→Nat)→Prop) (V:(Nat→Nat)→World→Prop) (A:(Nat→Nat)→List Nat)
def apart (x y:List Nat):Prop:=∀ g∈x,∀ h∈y,g≠h
section
variable (P:Program) (ops:List Oper) (fl:List Nat) (w0:World)
def obl (k:Kind) (i:Nat) (o:Oper) (a:Act) (F:Nat→World→Prop):Prop :=
 match k with
 | .skip=>Region.wanted o (yielded ops.toArray a.tmps)=false
 | .val v=>Region.wanted o (yielded ops.toArray a.tmps)=true∧((∀ w,(execOp a.eval o).run P w=.ok (.value v) w)∨(fl.contains i=false ∧
   ∀ w,Below w0.heap.size w0 w→(∀ j,anc ops i j=true→F j w)→kyp P o a w (fun u w'=>u=v∧Below w.heap.size w w')))
 | .rel v S V A=>fl.contains i=false∧Region.wanted o (yielded ops.toArray a.tmps)=true∧(∃ x,S x)∧(∀ x w w',V x w→Below w.heap.size w w'→V x w') ∧
   ∀ w,Below w0.heap.size w0 w→(∀ j,anc ops i j=true→F j w)→kyp P o a w (fun u w'=>∃ x,u=v x∧S x∧V x w'∧Below w.heap.size w w'∧∀ g∈A x,w.heap.size≤g∧g<w'.heap.size)
def jF (k:Kind) (x:Nat→Nat):Value :=
 match k with
 | .skip=>undef
 | .val v=>v
 | .rel v _ _ _=>v x
def qK (k:Kind) (x:Nat→Nat):Prop :=
 match k with
 | .rel _ S _ _=>S x
 | _=>True
def tp (k:Kind) (x:Nat→Nat) (w:World):Prop :=
 match k with
 | .rel _ _ V _=>V x w
 | _=>True
def nc (k:Kind) (x:Nat→Nat):List Nat :=
 match k with
 | .rel _ _ _ A=>A x
 | _=>[]
variable (K:Nat→zE→Kind)
def vg (s:zE) (i:Nat):Value:=jF (K i s) (s i)
def facts (s:zE):Nat→Nat→World→Prop
 | 0=>fun _ _=>True
 | i+1=>fun j w=>if j=i then tp (K i s) (s i) w else facts s i j w
def ng (s:zE):Nat→List (List Nat)
 | 0=>[]
 | i+1=>nc (K i s) (s i)::ng s i
def chain (Fin:Act→(Nat→World→Prop)→List (List Nat)→Prop) (s:zE):List Oper→Nat→Act→(Nat→World→Prop)→List (List Nat)→Prop
 | [],_,a,F,G=>Fin a F G
 | o::l,i,a,F,G=>obl P ops fl w0 (K i s) i o a F∧(qK (K i s) (s i)→chain Fin s l (i+1) (a.put o.dst (jF (K i s) (s i))) (fun j w=>if j=i then tp (K i s) (s i) w else F j w) (nc (K i s) (s i)::G))
end
section
variable {P:Program} {ops:List Oper} {fl:List Nat} {w0:World} {K:Nat→zE→Kind}
theorem vF {s:zE} {j:Nat} {w:World}:∀ i,(j<i→tp (K j s) (s j) w)→facts K s i j w
 | 0,_=>trivial
 | i+1,h=>by
  unfold facts;split
  ·rename_i e;subst e;exact h (by omega)
  ·exact vF i (fun hj=>h (by omega))
theorem pX {Fin:Act→(Nat→World→Prop)→List (List Nat)→Prop} {s:zE}:∀ (l:List Oper) (i:Nat),
  (∀ (j:Nat) (o:Oper),l[j]?=some o→∀ (k:Nat) (o' : Oper),l[k]?=some o'→j≠k→∀ t,o.dst=some t→o'.dst≠some t) →
  (∀ j,i≤j→j<i+l.length→qK (K j s) (s j)) →
  ∀ a:Act,chain P ops fl w0 K Fin s l i a (facts K s i) (ng K s i) →
  (∀ j o,l[j]?=some o→obl P ops fl w0 (K (i+j) s) (i+j) o (zW (vg K s) (fun m=>decide (m<i+j)) l i a) (facts K s (i+j))) ∧
  Fin (zW (vg K s) (fun _=>true) l i a) (facts K s (i+l.length)) (ng K s (i+l.length))
 | [],i,_,_,a,h=>⟨fun j o hj=>by simp at hj,h⟩
 | o::l,i,hd,hs,a,h=>by
  unfold chain at h;obtain⟨hob,hrest⟩:=h;have hd' : ∀ (j:Nat) (o:Oper),l[j]?=some o→∀ (k:Nat) (o' : Oper),l[k]?=some o'→j≠k→∀ t,o.dst=some t→o'.dst≠some t:=fun j o hj k o' hk hne=>hd (j+1) o (by simpa using hj) (k+1) o' (by simpa using hk) (by omega);have hk:=hrest (hs i (Nat.le_refl _) (by simp));obtain⟨h1,h2⟩:=pX l (i+1) hd' (fun j h1 h2=>hs j (by omega) (by simp only[List.length_cons];omega)) _ hk;refine⟨fun j o' hj=>?_,?_⟩
  ·cases j with
   | zero =>
    have:o=o':=by simpa using hj
    subst this;have he:zW (vg K s) (fun m=>decide (m<i+0)) (o::l) i a=a:=by
     have gen:∀ (l:List Oper) (k:Nat) (a:Act),i≤k→zW (vg K s) (fun m=>decide (m<i+0)) l k a=a:=by
      intro l
      induction l with
      | nil=>intro k a _;rfl
      | cons o l ih =>
       intro k a hk;unfold zW;rw[if_neg (by simp;omega)];exact ih (k+1) a (by omega)
     exact gen _ i a (Nat.le_refl _)
    rw[he];exact hob
   | succ j =>
    have e:i+(j+1)=i+1+j:=by omega
    rw[e];have:=h1 j o' (by simpa using hj);unfold zW;rw[if_pos (by simp;omega)];exact this
  ·unfold zW;rw[if_pos rfl];have e:i+(o::l).length=i+1+l.length:=by simp;omega
   rw[e];exact h2
def Dep (ops:List Oper) (i:Nat) (k:zE→Kind):Prop:=∀ s s' : zE,(∀ j,anc ops i j=true→s j=s' j)→k s=k s'
theorem tS {L:Nat→Bool} (hdep:∀ i,Dep ops i (K i)) (hlt:∀ i j,anc ops i j=true→j<i) (hex:∀ i s,∃ x,qK (K i s) x)
  (hcl:∀ i j,L i=true→anc ops i j=true→L j=true) (s:zE) (hs:∀ i,L i=true→qK (K i s) (s i)) :
  ∀ n,∃ s',(∀ i,L i=true→s' i=s i)∧∀ i,i<n→qK (K i s') (s' i)
 | 0=>⟨s,fun _ _=>rfl,fun i hi=>absurd hi (Nat.not_lt_zero _)⟩
 | n+1=>by
  obtain⟨s',h1,h2⟩:=tS hdep hlt hex hcl s hs n
  by_cases hL:L n=true
  ·refine⟨s',h1,fun i hi=>?_⟩
   by_cases e:i=n
   ·subst e;rw[h1 i hL,hdep i s' s (fun j hj=>h1 j (hcl i j hL hj))];exact hs i hL
   ·exact h2 i (by omega)
  ·obtain⟨x,hx⟩:=hex n s';refine⟨fun j=>if j=n then x else s' j,fun i hi=>?_,fun i hi=>?_⟩
   ·by_cases e:i=n
    ·subst e;exact absurd hi hL
    ·simp only[e,if_false];exact h1 i hi
   ·have hd:K i (fun j=>if j=n then x else s' j)=K i s':=hdep i _ _ (fun j hj=>by
     have:=hlt i j hj;have:j≠n:=by omega
     simp only[this,if_false])
    rw[hd]
    by_cases e:i=n
    ·subst e;simp only[if_true];exact hx
    ·simp only[e,if_false];exact h2 i (by omega)
theorem rW {s:zE} {w:World}:∀ n,(∀ i,i<n→∀ g∈nc (K i s) (s i),w0.heap.size≤g∧g<w.heap.size)→(∀ i j,i<n→j<n→i≠j→apart (nc (K i s) (s i)) (nc (K j s) (s j))) →
  (ng K s n).Pairwise apart∧∀ x∈ng K s n,∀ g∈x,w0.heap.size≤g∧g<w.heap.size
 | 0,_,_=>by simp[ng]
 | n+1,h1,h2=>by
  obtain⟨p1,p2⟩:=rW n (fun i hi=>h1 i (by omega)) (fun i j hi hj=>h2 i j (by omega) (by omega));have mem:∀ m x,x∈ng K s m→∃ i,i<m∧x=nc (K i s) (s i):=by
   intro m
   induction m with
   | zero=>intro x hx;simp[ng] at hx
   | succ m ih =>
    intro x hx;unfold ng at hx
    rcases List.mem_cons.1 hx with rfl|hx
    ·exact⟨m,by omega,rfl⟩
    ·obtain⟨i,hi,e⟩:=ih x hx;exact⟨i,by omega,e⟩
  unfold ng;refine⟨List.pairwise_cons.2 ⟨fun x hx=>?_,p1⟩,fun x hx=>?_⟩
  ·obtain⟨i,hi,rfl⟩:=mem n x hx;exact h2 n i (by omega) (by omega) (by omega)
  ·rcases List.mem_cons.1 hx with rfl|hx
   ·exact h1 n (by omega)
   ·exact p2 x hx
structure Inv (ops:List Oper) (w0:World) (K:Nat→zE→Kind) (n:Nat) (a0:Act) (s:zE) (listed:Array Bool) (a:Act) (w:World):Prop where
 size:listed.size=ops.length
 closed:∀ j o,ops[j]?=some o→listed.getD j false=true→∀ e∈o.after,Region.binds .any e=true→listed.getD e.on false=true
 tail:∀ t,n≤t→listed.getD t false=false
 frame:a=zW (vg K s) (fun j=>listed.getD j false) (ops.take n) 0 a0
 ext:Below w0.heap.size w0 w
 sat:∀ j,j<n→qK (K j s) (s j)
 known:∀ j,j<n→listed.getD j false=true→tp (K j s) (s j) w
 addr:∀ j,j<n→listed.getD j false=true→∀ g∈nc (K j s) (s j),w0.heap.size≤g∧g<w.heap.size
 away:∀ i j,i<n→j<n→i≠j→listed.getD i false=true→listed.getD j false=true→apart (nc (K i s) (s i)) (nc (K j s) (s j))
theorem oG {n:Nat} {a0:Act} {Q:Exit→Act→World→Prop} {Fin:zE→Act→(Nat→World→Prop)→List (List Nat)→Prop} (hB:ym ops fl n=true)
    (hQ:fl=[]∨∀ c a d v w,Q (.panic c) (Act.put a d v) w→Q (.panic c) a w) (hdep:∀ i,Dep ops i (K i)) (hexi:∀ i s,∃ x,qK (K i s) x)
    (h:∀ s,chain P ops fl w0 K (Fin s) s (ops.take n) 0 a0 (fun _ _=>True) [])
    (hfin:∀ (s:zE) (a:Act) (w:World),Fin s a (facts K s n) (ng K s n)→Below w0.heap.size w0 w→(∀ j,facts K s n j w)→(ng K s n).Pairwise apart→(∀ x∈ng K s n,∀ g∈x,w0.heap.size≤g) →
      wpAny P .any ops.toArray Q (ops.length - n) ((List.replicate n true++List.replicate (ops.length - n) false).toArray) a w) :
    ∀ (f:Nat) (s:zE) (listed:Array Bool) (a:Act) (w:World),Inv ops w0 K n a0 s listed a w→((List.range n).filter fun j=>!listed.getD j false).length=f →
      wpAny P .any ops.toArray Q (f+(ops.length - n)) listed a w:=by
  unfold ym at hB;simp only[Bool.and_eq_true,decide_eq_true_eq] at hB;obtain⟨⟨⟨⟨⟨⟨⟨hsel,hn⟩,hback⟩,hdst⟩,hself⟩,htail⟩,hfloat⟩,hseq⟩:=hB;have hlen:(ops.take n).length=n:=by simp;omega
  have hget:∀ j,j<n→(ops.take n)[j]?=ops[j]?:=fun j hj=>by rw[List.getElem?_take];simp[hj]
  have hdist:∀ (j:Nat) (o:Oper),(ops.take n)[j]?=some o→∀ (k:Nat) (o' : Oper),(ops.take n)[k]?=some o'→j≠k→∀ t,o.dst=some t→o'.dst≠some t:=by
    intro j o hj k o' hk hne t ht;have hjn:j<n:=by have:=(List.getElem?_eq_some_iff.1 hj).1;omega
    have hkn:k<n:=by have:=(List.getElem?_eq_some_iff.1 hk).1;omega
    rw[hget j hjn] at hj;rw[hget k hkn] at hk;have:=List.all_eq_true.1 (List.all_eq_true.1 hdst j (List.mem_range.2 hjn)) k (List.mem_range.2 hkn);simp only[hj,hk,ht,Bool.or_eq_true,beq_iff_eq,Bool.and_eq_true,bne_iff_ne] at this
    rcases this with h|h
    · exact absurd h hne
    · exact h.1
  have hlooks:∀ (j:Nat) (o:Oper),ops[j]?=some o→j<n→∀ (k:Nat) (o' : Oper),ops[k]?=some o'→k<n→∀ t,o'.dst=some t→t∈o.looksAt ops.toArray→anc ops j k=true:=by
    intro j o hj hjn k o' hk hkn t ht hmem
    by_cases hjk:j=k
    · subst hjk;have:o=o':=Option.some.inj (hj.symm.trans hk);subst this;have:=List.all_eq_true.1 hself j (List.mem_range.2 hjn);simp only[hj,ht,Bool.not_eq_true'] at this;have hc:(o.looksAt ops.toArray).contains t=true:=by simpa using hmem
      rw[hc] at this;cases this
    · have:=List.all_eq_true.1 (List.all_eq_true.1 hdst j (List.mem_range.2 hjn)) k (List.mem_range.2 hkn);simp only[hj,hk,ht,Bool.or_eq_true,beq_iff_eq,Bool.and_eq_true] at this
      rcases this with h|h
      · exact absurd h hjk
      · rcases h.2 with h3|h3
        · have hc:(o.looksAt ops.toArray).contains t=true:=by simpa using hmem
          rw[hc] at h3;cases h3
        · exact h3
  intro f
  induction f with
  | zero =>
    intro s listed a w inv hf;have hall:∀ j,j<n→listed.getD j false=true:=by
      intro j hj;cases hl:listed.getD j false with
      | true=>rfl
      | false =>
        have:j∈(List.range n).filter fun j=>!listed.getD j false:=List.mem_filter.2 ⟨List.mem_range.2 hj,by rw[hl];rfl⟩;rw[List.length_eq_zero_iff.1 hf] at this;cases this
    have hlist:listed=((List.replicate n true++List.replicate (ops.length - n) false).toArray):=by
      apply Array.ext
      · simp[inv.size];omega
      · intro i h1 h2;have h3:listed.getD i false=listed[i]:=by simp[h1]
        rw[← h3]
        rcases Nat.lt_or_ge i n with hi|hi
        · rw[hall i hi];simp[List.getElem_append,hi]
        · rw[inv.tail i hi];simp[List.getElem_append,Nat.not_lt.2 hi]
    obtain⟨_,hF⟩:=pX (Fin:=Fin s) (s:=s) (ops.take n) 0 hdist (fun j _ hj=>inv.sat j (by omega)) a0 (h s);rw[Nat.zero_add,hlist];have hadd:=rW (K:=K) (s:=s) (w0:=w0) (w:=w) n (fun i hi=>inv.addr i hi (hall i hi)) (fun i j hi hj hne=>inv.away i j hi hj hne (hall i hi) (hall j hj));refine hfin s a w ?_ inv.ext (fun j=>vF n (fun hj=>inv.known j hj (hall j hj))) hadd.1 (fun x hx g hg=>(hadd.2 x hx g hg).1);rw[inv.frame];rw[hlen,Nat.zero_add] at hF;rw[zU (u:=vg K s) (u':=vg K s) (L':=fun _=>true) (ops.take n) 0 a0 (fun j _ hj=>⟨hall j (by omega),fun _=>rfl⟩)];exact hF
  | succ f ih =>
    intro s listed a w inv hf;obtain⟨hobl,_⟩:=pX (Fin:=Fin s) (s:=s) (ops.take n) 0 hdist (fun j _ hj=>inv.sat j (by omega)) a0 (h s);have hex:∃ m,m<n∧listed.getD m false=false:=by
      cases hl:(List.range n).filter fun j=>!listed.getD j false with
      | nil=>rw[hl] at hf;cases hf
      | cons m l =>
        have hm:m∈(List.range n).filter fun j=>!listed.getD j false:=by rw[hl];simp
        rw[List.mem_filter] at hm;exact⟨m,List.mem_range.1 hm.1,by simpa using hm.2⟩
    obtain⟨m,⟨hmn,hml⟩,hleast⟩:=exists_least hex;have hmr:m∈Region.ready .any ops.toArray listed:=by
      rw[mem_ready];have hmo:ops[m]?=some (ops[m]'(by omega)):=List.getElem?_eq_getElem (by omega);refine⟨getD_in (by rw[inv.size];omega) hml,ops[m]'(by omega),by simp,fun e he hb=>?_⟩;have hlt:=zF hback hmo e he hb;cases hle:listed.getD e.on false with
      | true=>rfl
      | false=>have:=hleast e.on ⟨by omega,hle⟩;omega
    have hne:Region.ready .any ops.toArray listed≠[]:=fun h0=>by rw[h0] at hmr;cases hmr
    rw[show f+1+(ops.length - n)=(f+(ops.length - n))+1 by omega]
    have main:∀ i,i∈Region.ready .any ops.toArray listed→i<n →
        (∃ v o,ops.toArray[i]?=some o∧Yields P ops.toArray o v a∧fl.contains i=true∧wpAny P .any ops.toArray Q (f+(ops.length - n)) (listed.setIfInBounds i true) (a.put o.dst v) w) ∨
        (fl.contains i=false∧wpOp P ops.toArray Q i (wpAny P .any ops.toArray Q (f+(ops.length - n)) (listed.setIfInBounds i true)) a w):=by
     intro i hi hin;obtain⟨hiun,o,ho,hwait⟩:=mem_ready.1 hi;have ho' : ops[i]?=some o:=by simpa using ho
     have hil:i<ops.length:=(List.getElem?_eq_some_iff.1 ho').1;have hancl:=zG (L:=fun j=>listed.getD j false) inv.closed i o ho' hwait;have hiu:listed.getD i false=false:=getD_both hiun;have hanclt:∀ j,anc ops i j=true→j<i:=fun j hj=>by
       have:=zG (ops:=ops) (L:=fun j=>decide (j<i)) (fun j o' hj' hL e he hb=>by
         have:=zF hback hj' e he hb;simp only[decide_eq_true_eq] at hL ⊢;omega) i o ho' (fun e he hb=>by simpa using zF hback ho' e he hb) j hj
       simpa using this
     have hob:=hobl i o (by rw[hget i hin];exact ho');rw[Nat.zero_add] at hob;have hag:Agree (o.looksAt ops.toArray) (zW (vg K s) (fun m=>decide (m<i)) (ops.take n) 0 a0) a:=by
       rw[inv.frame];refine uw _ 0 a0 a0 (fun _ _=>rfl) (fun j oj hj hdiff t ht hmem=>?_);have hjn:j<n:=by have:=(List.getElem?_eq_some_iff.1 hj).1;omega
       rw[hget j hjn] at hj;have ha:=hlooks i o ho' hin j oj hj hjn t ht hmem;have h1:=hancl j ha;have h2:=hanclt j ha;simp only[Nat.zero_add] at hdiff;simp only[h1,h2,decide_true,ne_eq,not_true_eq_false] at hdiff
     have hsel' : ∀ cs b,o.op≠.select cs b:=fun cs b=>Region.noSelect_spec hsel i o cs b ho;have hex:=ss (ops:=ops) hsel' hag;have hwa:=uS (ops:=ops) hag;have hfacts:∀ j,anc ops i j=true→facts K s i j w:=fun j hj=>vF i (fun hji=>inv.known j (by omega) (hancl j hj));have hne_of:∀ j,listed.getD j false=true→j≠i:=fun j hl e=>by subst e;simp only[hiu] at hl;cases hl
     have next:∀ (s' : zE) (w' : World),(∀ j,listed.getD j false=true→s' j=s j)→(∀ j,listed.getD j false=true→K j s'=K j s)→K i s'=K i s→(∀ j,j<n→qK (K j s') (s' j))→Below w.heap.size w w'→tp (K i s) (s' i) w' →
         (∀ g∈nc (K i s) (s' i),w.heap.size≤g∧g<w'.heap.size) →
         wpAny P .any ops.toArray Q (f+(ops.length - n)) (listed.setIfInBounds i true) (a.put o.dst (jF (K i s) (s' i))) w':=by
       intro s' w' hs' hK' hKi hsat hb hV hA;refine ih s' _ _ w' ⟨by simp[inv.size],fun j oj hj hl e he hb=>?_,fun t ht=>?_,?_,inv.ext.trans (hb.mono inv.ext.size),hsat,fun j hj hl=>?_,fun j hj hl=>?_,fun j k hj hk hne hlj hlk=>?_⟩ ?_
       · by_cases hij:i=j
         · subst hij;have:oj=o:=Option.some.inj (hj.symm.trans ho');subst this;exact getD_set_true (hwait e he hb)
         · rw[getD_set_ne false hij] at hl;exact getD_set_true (inv.closed j oj hj hl e he hb)
       · rw[getD_set_ne false (by omega)];exact inv.tail t ht
       · have h1:=tE (u:=vg K s') (L:=fun j=>listed.getD j false) (ops.take n) 0 a0 i o (by rw[hget i hin];exact ho') (by rw[Nat.zero_add];exact hiu)
           (fun j o' hj hne=>hdist i o (by rw[hget i hin];exact ho') j o' hj (Ne.symm hne))
         rw[Nat.zero_add] at h1
         rw[zU (u:=vg K s') (u':=vg K s') (L':=fun j=>if j=i then true else listed.getD j false) (ops.take n) 0 a0 (fun j _ _=>⟨by
           by_cases hij:j=i
           · subst hij;simp[inv.size,hil]
           · rw[getD_set_ne false (Ne.symm hij),if_neg hij],fun _=>rfl⟩),h1]
         have hvi:vg K s' i=jF (K i s) (s' i):=by unfold vg;rw[hKi]
         rw[hvi,inv.frame,zU (u:=vg K s) (u':=vg K s') (L':=fun j=>listed.getD j false) (ops.take n) 0 a0 (fun j _ _=>⟨rfl,fun hL=>by
           unfold vg;rw[hK' j hL,hs' j hL]⟩)]
       · by_cases hij:j=i
         · subst hij;rw[hKi];exact hV
         · rw[getD_set_ne false (Ne.symm hij)] at hl;rw[hs' j hl,hK' j hl];have hoj:ops[j]?=some (ops[j]'(by omega)):=List.getElem?_eq_getElem (by omega);have hoblj:=hobl j _ (by rw[hget j hj];exact hoj);rw[Nat.zero_add] at hoblj;have hkn:=inv.known j hj hl;revert hoblj hkn;unfold obl tp;cases K j s with
           | rel v S V A=>exact fun hoblj hkn=>hoblj.2.2.2.1 _ _ _ hkn hb
           | _=>exact fun _ _=>trivial
       · by_cases hij:j=i
         · subst hij;rw[hKi];exact fun g hg=>⟨Nat.le_trans inv.ext.size (hA g hg).1,(hA g hg).2⟩
         · rw[getD_set_ne false (Ne.symm hij)] at hl;rw[hs' j hl,hK' j hl];exact fun g hg=>⟨(inv.addr j hj hl g hg).1,Nat.lt_of_lt_of_le (inv.addr j hj hl g hg).2 hb.size⟩
       · by_cases hij:j=i
         · subst hij;rw[getD_set_ne false hne] at hlk;rw[hKi,hs' k hlk,hK' k hlk];intro g hg g' hg' e;have:=(hA g hg).1;have:=(inv.addr k hk hlk g' hg').2;omega
         · rw[getD_set_ne false (Ne.symm hij)] at hlj
           by_cases hik:k=i
           · subst hik;rw[hKi,hs' j hlj,hK' j hlj];intro g hg g' hg' e;have:=(hA g' hg').1;have:=(inv.addr j hj hlj g hg).2;omega
           · rw[getD_set_ne false (Ne.symm hik)] at hlk;rw[hs' j hlj,hK' j hlj,hs' k hlk,hK' k hlk];exact inv.away j k hj hk hne hlj hlk
       · have:=vW (List.range n) List.nodup_range i (List.mem_range.2 hin) (p:=fun j=>!listed.getD j false) (q:=fun j=>!(listed.setIfInBounds i true).getD j false) (by simp only[hiu];rfl) (by simp[inv.size,hil])
           (fun j hj=>by simp only[getD_set_ne false (Ne.symm hj)])
         omega
     have same:∀ w',Below w.heap.size w w'→tp (K i s) (s i) w'→(∀ g∈nc (K i s) (s i),w.heap.size≤g∧g<w'.heap.size) →
         wpAny P .any ops.toArray Q (f+(ops.length - n)) (listed.setIfInBounds i true) (a.put o.dst (jF (K i s) (s i))) w':=fun w' hb hV hA=>next s w' (fun _ _=>rfl) (fun _ _=>rfl) rfl inv.sat hb hV hA
     have hbase:∀ j k,listed.getD j false=true→anc ops j k=true→listed.getD k false=true:=fun j k hl ha=>by
       rcases Nat.lt_or_ge j ops.length with hlt|hge
       · have hoj:ops[j]?=some (ops[j]'hlt):=List.getElem?_eq_getElem hlt;exact zG (L:=fun j=>listed.getD j false) inv.closed j _ hoj (inv.closed j _ hoj hl) k ha
       · rw[inv.tail j (by omega)] at hl;cases hl
     revert hob same next
     unfold obl jF tp nc;cases hK:K i s with
     | skip =>
       intro hob next same
       have hnx:=same w (Below.refl _ _) trivial (by simp)
       by_cases hfl:fl.contains i=true
       · exact .inl ⟨undef,o,ho,.inr ⟨by rw[← hwa];exact hob,rfl⟩,hfl,hnx⟩
       · refine .inr ⟨by simpa using hfl,?_⟩;unfold wpOp;simp only[ho];rw[← hwa,hob];simp only[Bool.false_eq_true,if_false];exact hnx
     | val v =>
       intro hob next same
       have hnx:∀ w',Below w.heap.size w w'→wpAny P .any ops.toArray Q (f+(ops.length - n)) (listed.setIfInBounds i true) (a.put o.dst v) w':=fun w' hb=>same w' hb trivial (by simp)
       rcases hob.2 with hfree|⟨hfl,hr⟩
       · by_cases hfl:fl.contains i=true
         · exact .inl ⟨v,o,ho,.inl ⟨by rw[← hwa];exact hob.1,fun w=>by rw[← hex];exact hfree w⟩,hfl,hnx w (Below.refl _ _)⟩
         · refine .inr ⟨by simpa using hfl,?_⟩;unfold wpOp;simp only[ho];rw[← hwa,hob.1];simp only[if_true];refine .inl (yX (R:=fun u w'=>u=v∧w'=w) (y5 hex.symm (by unfold kyp;rw[hfree w];exact⟨rfl,rfl⟩)) (fun u w' hu=>?_));rw[hu.1,hu.2];exact hnx w (Below.refl _ _)
       · refine .inr ⟨hfl,?_⟩;unfold wpOp;simp only[ho];rw[← hwa,hob.1];simp only[if_true];refine .inl (yX (y5 hex.symm (hr w inv.ext hfacts)) (fun u w' hu=>?_));rw[hu.1];exact hnx w' hu.2
     | rel v S V A =>
       intro hob next same
       obtain⟨hfl,hwt,_,_,hr⟩:=hob;refine .inr ⟨hfl,?_⟩;unfold wpOp;simp only[ho];rw[← hwa,hwt];simp only[if_true];refine .inl (yX (y5 hex.symm (hr w inv.ext hfacts)) (fun u w' hu=>?_));obtain⟨x,rfl,hS,hV,hb,hA⟩:=hu;have hK1:∀ j,(if j=i then true else listed.getD j false)=true→K j (fun j=>if j=i then x else s j)=K j s:=fun j hj=>hdep j _ _ (fun k hk=>by
         have:listed.getD k false=true:=by
           by_cases e:j=i
           · subst e;exact hancl k hk
           · rw[if_neg e] at hj;exact hbase j k hj hk
         simp only[hne_of k this,if_false])
       obtain⟨s2,h1,h2⟩:=tS (K:=K) (ops:=ops) (L:=fun j=>if j=i then true else listed.getD j false) hdep
         (fun j k hk=>by
           rcases Nat.lt_or_ge j ops.length with hlt|hge
           · have hoj:ops[j]?=some (ops[j]'hlt):=List.getElem?_eq_getElem hlt;have:=zG (ops:=ops) (L:=fun m=>decide (m<j)) (fun m o' hm hL e he hb=>by
               have:=zF hback hm e he hb;simp only[decide_eq_true_eq] at hL ⊢;omega) j _ hoj (fun e he hb=>by simpa using zF hback hoj e he hb) k hk
             simpa using this
           · have hm:(jT ops).length=ops.length:=by
               have gen:∀ (l:List Oper) (acc:List Nat),(qT l acc).length=acc.length+l.length:=by
                 intro l
                 induction l with
                 | nil=>intro acc;rfl
                 | cons o l ih=>intro acc;rw[vh,ih];simp;omega
               exact (gen ops []).trans (by simp)
             unfold anc at hk;rw[List.getD_eq_getElem?_getD,List.getElem?_eq_none (by omega)] at hk;simp at hk) hexi
         (fun j k hj hk=>by
           show (if k=i then true else listed.getD k false)=true
           by_cases e:j=i
           · subst e;have:=hancl k hk;simp only[hne_of k this,if_false,this]
           · simp only[e,if_false] at hj;have:=hbase j k hj hk;simp only[hne_of k this,if_false,this]) (fun j=>if j=i then x else s j)
         (fun j hj=>by
           rw[hK1 j hj]
           by_cases e:j=i
           · subst e;rw[hK];simp only[if_true];exact hS
           · simp only[e,if_false] at hj ⊢;exact inv.sat j (by
               rcases Nat.lt_or_ge j n with h|h
               · exact h
               · rw[inv.tail j h] at hj;cases hj)) n
       have hx:s2 i=x:=by rw[h1 i (by simp)];simp
       have hls:∀ j,listed.getD j false=true→s2 j=s j:=fun j hl=>by
         have:=hne_of j hl;rw[h1 j (by simp only[this,if_false,hl])];simp only[this,if_false]
       have hdep2:∀ j,(if j=i then true else listed.getD j false)=true→K j s2=K j s:=fun j hj=>hdep j _ _ (fun k hk=>by
         have:listed.getD k false=true:=by
           by_cases e:j=i
           · subst e;exact hancl k hk
           · rw[if_neg e] at hj;exact hbase j k hj hk
         exact hls k this)
       have:=next s2 w' hls (fun j hl=>hdep2 j (by simp only[hne_of j hl,if_false,hl])) ((hdep2 i (by simp)).trans hK) h2 hb
       simp only[hx] at this;exact this hV hA
    by_cases hfr:∃ i,i∈Region.ready .any ops.toArray listed∧i<n∧fl.contains i=true
    · obtain⟨i,hi,hin,hfl⟩:=hfr
      rcases main i hi hin with ⟨v,o,ho,hy,_,hnx⟩|⟨hno,_⟩
      · have hfl' : i∈fl:=by simpa using hfl
        refine wpAny_first ho (Region.noSelect_spec hsel) (fun c a w=>?_) _ listed a w (fun j oj hoj hji hjun hnot=>?_) hi hy hnx
        · rcases hQ with h0|h0
          · rw[h0] at hfl';cases hfl'
          · exact h0 c a o.dst v w
        · have h1:=List.all_eq_true.1 hfloat i hfl';simp only[Bool.and_eq_true] at h1;have hoj' : ops[j]?=some oj:=by simpa using hoj
          have ho' : ops[i]?=some o:=by simpa using ho
          have h2:=List.all_eq_true.1 h1.2 j (List.mem_range.2 (List.getElem?_eq_some_iff.1 hoj').1);simp only[ho',hoj',Bool.or_eq_true,beq_iff_eq] at h2
          rcases h2 with (h2|h2)|h2|h2
          · exact absurd h2.symm hji
          · obtain⟨_,o1,ho1,hwait⟩:=mem_ready.1 hi;have h3:=zG (L:=fun j=>listed.getD j false) inv.closed i o1 (by simpa using ho1) hwait j h2;simp only[getD_both hjun] at h3;cases h3
          · obtain⟨e,he,h3⟩:=Array.any_eq_true'.1 h2;simp only[Bool.and_eq_true,beq_iff_eq] at h3;exact absurd h3.2 (hnot e he h3.1)
          · exact h2
      · rw[hno] at hfl;cases hfl
    · refine⟨fun h0=>absurd h0 hne,fun i hi=>?_⟩;have hin:i<n:=by
        rcases Nat.lt_or_ge i n with h1|h1
        · exact h1
        · exfalso;obtain⟨hiun,o,ho,hwait⟩:=mem_ready.1 hi;have ho' : ops[i]?=some o:=by simpa using ho
          have hil:i<ops.length:=(List.getElem?_eq_some_iff.1 ho').1;have hancl:=zG (L:=fun j=>listed.getD j false) inv.closed i o ho' hwait;have h2:=List.all_eq_true.1 htail i (List.mem_range.2 hil);simp only[Bool.or_eq_true,decide_eq_true_eq] at h2
          rcases h2 with h2|h2
          · omega
          · have h3:=List.all_eq_true.1 h2 m (List.mem_range.2 (by omega));simp only[Bool.or_eq_true,Bool.and_eq_true] at h3
            rcases h3 with h3|⟨h3,_⟩
            · have h4:=hancl m h3;simp only[hml] at h4;cases h4
            · exact hfr ⟨m,hmr,hmn,h3⟩
      rcases main i hi hin with ⟨v,o,ho,hy,hfl,hnx⟩|⟨_,h1⟩
      · exact absurd ⟨i,hi,hin,hfl⟩ hfr
      · exact h1
end
theorem fS {P:Program} {Q:Exit→Act→World→Prop} {a:Act} {w:World} {l:List Oper} (fl:List Nat) (n:Nat) (K:Nat→zE→Kind) (hB:ym l fl n=true)
  (hQ:fl=[]∨∀ c a d v w,Q (.panic c) (Act.put a d v) w→Q (.panic c) a w) (hdep:∀ i,Dep l i (K i)) (hexi:∀ i s,∃ x,qK (K i s) x)
  (h:∀ s,chain P l fl w K (fun a' F G=>∀ w',Below w.heap.size w w'→(∀ j,F j w')→G.Pairwise apart→(∀ x∈G,∀ g∈x,w.heap.size≤g)→wpList P l.toArray Q (l.drop n) a' w') s (l.take n) 0 a (fun _ _=>True) []) :
  wpAny P .any l.toArray Q l.toArray.size (Array.replicate l.toArray.size false) a { w with drawn:=w.drawn+1 }:=by
 have hB':=hB;unfold ym at hB';simp only[Bool.and_eq_true,decide_eq_true_eq] at hB';obtain⟨⟨⟨⟨⟨⟨⟨hsel,hn⟩,hback⟩,_⟩,_⟩,_⟩,_⟩,hseq⟩:=hB';have hancn:∀ j k,anc l j k=true→k<j:=fun j k hk=>by
  rcases Nat.lt_or_ge j l.length with hlt|hge
  ·have hoj:l[j]?=some (l[j]'hlt):=List.getElem?_eq_getElem hlt;have:=zG (ops:=l) (L:=fun m=>decide (m<j)) (fun m o' hm hL e he hb=>by
    have:=zF hback hm e he hb;simp only[decide_eq_true_eq] at hL ⊢;omega) j _ hoj (fun e he hb=>by simpa using zF hback hoj e he hb) k hk
   simpa using this
  ·have hm:(jT l).length=l.length:=by
    have gen:∀ (l:List Oper) (acc:List Nat),(qT l acc).length=acc.length+l.length:=by
     intro l
     induction l with
     | nil=>intro acc;rfl
     | cons o l ih=>intro acc;rw[vh,ih];simp;omega
    exact (gen l []).trans (by simp)
   unfold anc at hk;rw[List.getD_eq_getElem?_getD,List.getElem?_eq_none (by omega)] at hk;simp at hk
 obtain⟨s0,_,hs0⟩:=tS (K:=K) (ops:=l) (L:=fun _=>false) hdep hancn hexi (fun _ _ h=>by cases h) (fun _ _=>0) (fun _ h=>by cases h) n;have:=oG (Q:=Q) (a0:=a) hB hQ hdep hexi h (fun s a' w' hF hb hf hp hg=>by
  have hdl:(l.drop n).length=l.length - n:=by simp
  have:=wpAny_of_seq (md:=.any) (Q':=Q) (l.drop n) n ((List.replicate n true++List.replicate (l.length - n) false).toArray) a' w' (fun j=>by simp[List.getElem?_drop]) (by rw[hdl];exact hseq) (hF w' hb hf hp hg);rwa [hdl] at this) n s0 (Array.replicate l.toArray.size false) a { w with drawn:=w.drawn+1 } ?_ ?_
 ·rw[show n+(l.length - n)=l.toArray.size by simp;omega] at this;exact this
 ·refine⟨by simp,fun j o _ hl=>(by rw[getD_replicate_false] at hl;cases hl),fun t _=>getD_replicate_false _ _,?_,⟨rfl,rfl,rfl,Nat.le_refl _,fun _ _=>rfl⟩,hs0,fun j _ hl=>(by rw[getD_replicate_false] at hl;cases hl),fun j _ hl=>(by rw[getD_replicate_false] at hl;cases hl),fun j _ _ _ _ hl=>(by rw[getD_replicate_false] at hl;cases hl)⟩;have gen:∀ (l' : List Oper) (i:Nat) (a:Act),zW (vg K s0) (fun j=>(Array.replicate l.toArray.size false).getD j false) l' i a=a:=by
   intro l'
   induction l' with
   | nil=>intro i a;rfl
   | cons o l' ih =>
    intro i a;unfold zW;rw[getD_replicate_false];exact ih (i+1) a
  exact (gen _ 0 a).symm
 ·have:((List.range n).filter fun j=>!(Array.replicate l.toArray.size false).getD j false)=List.range n:=by
   apply List.filter_eq_self.2;intro j _;rw[getD_replicate_false];rfl
  rw[this];simp
theorem qm {P:Program} {id:Nat} {Q:Exit→Act→World→Prop} {a:Act} {w:World} {l:List Oper} (fl:List Nat) (n:Nat) (K:Nat→zE→Kind) (hm:P.follows .mixedOrders=true) (hB:ym l fl n=true)
  (hQ:fl=[]∨∀ c a d v w,Q (.panic c) (Act.put a d v) w→Q (.panic c) a w) (hdep:∀ i,Dep l i (K i)) (hexi:∀ i s,∃ x,qK (K i s) x)
  (h:∀ s,chain P l fl w K (fun a' F G=>∀ w',Below w.heap.size w w'→(∀ j,F j w')→G.Pairwise apart→(∀ x∈G,∀ g∈x,w.heap.size≤g)→wpList P l.toArray Q (l.drop n) a' w') s (l.take n) 0 a (fun _ _=>True) []) :
  (Code.region id l.toArray true).wp P Q a w:=wp_region_any hm (fS fl n K hB hQ hdep hexi h)
end Sx
end
section
open Go.RowKit
set_option maxRecDepth 100000 in
theorem qk (n:Nat) (h0:0<n) (hn:n≤1099511627776) (w:World) :
  Calls Tryz.prog 173 #[.slice none 0 0,.int .i64 (n:Int)] w fun e w'=>∃ v,e=.returned v∧w'.ownsRow w.heap.size 22 1 v 0 []∧Below w.heap.size w w':=by
 have hinfo:(Tryz.prog.info? 22).map (fun i=>(i.zero,i.size,i.bytes))=some (some (.int .u64 0),1,8):=by kernel_rfl
 obtain⟨i0,hi,hz0,hz1,hz2⟩:=info_parts hinfo;have hr:=fun ty=>Lib.run_append_nil_zeros (P:=Tryz.prog) w 131 3 ty 22 i0 (.int .u64 0) .i64 .i64 Tryz.underlying131 Tryz.underlying3 hi hz0 n h0 (by omega) (by omega) (by rw[hz2];omega);have hge:=grownCap_ge w n 0 22;have hml:=grownCap_le_maxLen w n 0 22 (by simp[maxLen];omega);generalize grownCap w n 0 22=G at *;have hG63:G≤9223372036854775807:=by unfold maxLen at hml;omega
 have HM:=Lib.hid hml;clear hml
 go_enter Tryz.func173,Tryz.ntmps173
 go_wp2_with (at_builtin;refine Lib.wpList_append_run _ rfl _ _ _ _ rfl _ _ rfl rfl _ _ (hr _) ?_)
 go_ret
 refine⟨_,rfl,?_,(Below.refl _ _).drew.alloc (Nat.le_refl _) _⟩;refine⟨rfl,.inr ⟨w.heap.size,_,_,rfl,Nat.le_refl _,heap_alloc_new w.drew _,by omega,HM.out,?_,by simp⟩⟩;rw[Array.size_append,size_zeroCells,size_zeroCells];show n*1+(G - n)*1=G*1;omega
def Rd (w:World) (v:Value) (xs:List Value):Prop :=
 (∀ u∈xs,u.oneCell'=true)∧((v=.slice none 0 0∧xs=[])∨∃ (a:Addr) (c:Nat),v=.slice (some a) xs.length c∧a.block<w.heap.size∧∀ j u,xs[j]?=some u→w.cell? (a.add j)=some u)
theorem add_block (a:Addr) (j:Nat):(a.add j).block=a.block:=by unfold Addr.add;split<;>rfl
theorem Rd.below {w w' : World} {v:Value} {xs:List Value} {B:Nat} (h:Rd w v xs) (hB:w.heap.size=B) (hb:Below B w w'):Rd w' v xs:=by
 subst hB;obtain⟨h1,h2|⟨a,c,h2,h3,h4⟩⟩:=h
 ·exact⟨h1,.inl h2⟩
 ·exact⟨h1,.inr ⟨a,c,h2,Nat.lt_of_lt_of_le h3 hb.size,fun j u hj=>(hb.cell (p:=a.add j) (by rw[add_block];exact h3)).trans (h4 j u hj)⟩⟩
def mC (n1 n2 k:Nat):Nat:=if k=0 then 0 else if k=1 then n1 else n1+n2
def abH (xs1 xs2:List Value) (k:Nat):List Value:=if k=0 then [] else if k=1 then xs1 else xs1++xs2
theorem pd {B:Nat} {w0 w w' : World} {e:TypeId} {size n:Nat} {v:Value} {xs:List Value} (hB:B≤w.heap.size) (hb:Below B w0 w) (h:w.ownsRow B e size v n xs) (hg:w.grownBy w' v.ownBlock):Below B w0 w':=by
 refine hb.grown hg hB (fun k e=>?_)
 rcases h.2 with ⟨rfl,_⟩|⟨g,cap,cur,rfl,hB,_⟩
 ·cases e
 ·cases e;exact hB
set_option maxRecDepth 100000 in
theorem sQ (v1 v2:Value) (xs1 xs2:List Value) (S c:Nat) (w:World) (h1:Rd w v1 xs1) (h2:Rd w v2 xs2) (hS:Blk w S 131 [v1,v2]) (hn:0<xs1.length+xs2.length) (hm:xs1.length+xs2.length≤1099511627776) :
  Calls Tryz.prog 157 #[.slice (some ⟨S,0,none⟩) 2 c] w fun e w' =>
   ∃ v,e=.returned v∧w'.ownsRow w.heap.size 22 1 v (xs1.length+xs2.length) (xs1++xs2)∧Below w.heap.size w w':=by
 have hb1:∃ b n c,v1=.slice b n c∧n=xs1.length:=by
  obtain⟨_,⟨rfl,rfl⟩|⟨a,c,rfl,_⟩⟩:=h1
  ·exact⟨_,_,_,rfl,rfl⟩
  ·exact⟨_,_,_,rfl,rfl⟩
 have hb2:∃ b n c,v2=.slice b n c∧n=xs2.length:=by
  obtain⟨_,⟨rfl,rfl⟩|⟨a,c,rfl,_⟩⟩:=h2
  ·exact⟨_,_,_,rfl,rfl⟩
  ·exact⟨_,_,_,rfl,rfl⟩
 obtain⟨b1,n1,c1,rfl,e1⟩:=hb1;obtain⟨b2,n2,c2,rfl,e2⟩:=hb2;rw[← e1,← e2] at hn hm ⊢;have lS:=hS.lt;have cS0:=hS.cell_at (i:=0) rfl;have cS1:=hS.cell_at (i:=1) rfl;have H1:=Lib.hid h1;have H2:=Lib.hid h2;have E1:=Lib.hid e1;have E2:=Lib.hid e2;clear h1 h2 e1 e2
 go_enter Tryz.func157,Tryz.ntmps157
 go_wp2
 go_loopw [3,11] (fun t3 t11 wr=>∃ k:Nat,k≤2∧t11=.int .i64 k∧t3=.int .i64 (mC n1 n2 k:Nat)∧wr=w) (fun _ i _=>2 - (intOf i).toNat)
 case atStart=>exact⟨0,by omega,rfl,rfl,rfl⟩
 case round =>
  obtain⟨k,hk,rfl,rfl,rfl⟩:=hrel;have hk3:k=0∨k=1∨k=2:=by omega
  rcases hk3 with rfl|rfl|rfl
  ·have ht0:mC n1 n2 0=0:=rfl;rw[ht0];go_wp2
   go_roundw
   case rel=>exact⟨1,by omega,rfl,by simp[mC],trivial⟩
   case measure=>simp[intOf]
  ·have ht0:mC n1 n2 1=n1:=rfl;rw[ht0];go_wp2
   go_roundw
   case rel=>exact⟨2,by omega,rfl,by simp[mC],trivial⟩
   case measure=>simp[intOf]
  ·have ht0:mC n1 n2 2=n1+n2:=rfl;rw[ht0]
   go_wp2_with (go_at_call 173;refine (qk (n1+n2) hn hm _).mono ?_;rintro e W ⟨v,rfl,hown,hbw⟩)
   obtain⟨w,rfl⟩ : ∃ w:World,w=wr:=⟨_,rfl⟩;clear cS0 cS1 ht0
   go_loopw [6,27] (fun t6 t27 wr=>∃ (x6:Value) (k:Nat),x6=t6∧k≤2∧t27=.int .i64 k∧wr.ownsRow w.heap.size 22 1 x6 (mC n1 n2 k) (abH xs1 xs2 k)∧Below w.heap.size w wr) (fun _ i _=>2 - (intOf i).toNat)
   case atStart=>exact⟨_,0,rfl,by omega,rfl,hown,hbw⟩
   case round =>
    clear hown hbw;obtain⟨x6,k,rfl,hk,rfl,hown,hbw⟩:=hrel;have hinfo:(Tryz.prog.info? 22).map (fun i=>(i.zero,i.size,i.bytes))=some (some (.int .u64 0),1,8):=by kernel_rfl
    obtain⟨i0,hi,hz0,hz1,hz2⟩:=info_parts hinfo;have hk3:k=0∨k=1∨k=2:=by omega
    rcases hk3 with rfl|rfl|rfl
    ·have c0:=(hS.below hbw lS).cell_at (i:=0) rfl;have hr:=H1.out.below rfl hbw;have e1:=E1.out;obtain⟨ho,⟨e,rfl⟩|⟨a,c',e,hlt,hc⟩⟩:=hr
     ·obtain⟨rfl,q1,q2⟩ : b1=none∧n1=0∧c1=0:=by cases e;exact⟨rfl,rfl,rfl⟩
      have hx0:Value.slice none n1 c1=.slice none 0 0:=by rw[q1,q2]
      have Q:=Lib.hid q1;clear e1 ho e q1 q2;have HX:=Lib.hid hx0;clear hx0
      go_wp2_with (at_builtin;refine wpList_append_own_none rfl _ _ 131 rfl w.heap.size 22 i0 1 Tryz.underlying131 hi x6 _ _ rfl hown HX.out ?_)
      go_roundw
      case rel=>exact⟨_,1,rfl,by omega,rfl,by simpa [mC,abH,Q.out] using hown,hbw⟩
      case measure=>simp[intOf]
     ·cases e;clear e1
      go_wp2_with (at_builtin;refine wpList_append_own _ rfl _ _ 131 rfl w.heap.size 22 i0 (.int .u64 0) 1 8 Tryz.underlying131 hi hz0 hz1 hz2 rfl (by decide) x6 _ _ rfl hown a xs1.length _ xs1 rfl (by simp) hc ho (by simp[mC,maxLen];omega) (by simp[mC];omega) hbw.size ?_;intro v' w1 hown' hgrow _)
      go_roundw
      case rel=>exact⟨_,1,rfl,by omega,rfl,by simpa [mC,abH] using hown',pd hbw.size hbw hown hgrow⟩
      case measure=>simp[intOf]
    ·have c0:=(hS.below hbw lS).cell_at (i:=1) rfl;have hr:=H2.out.below rfl hbw;have e1:=E2.out;obtain⟨ho,⟨e,rfl⟩|⟨a,c',e,hlt,hc⟩⟩:=hr
     ·obtain⟨rfl,q1,q2⟩ : b2=none∧n2=0∧c2=0:=by cases e;exact⟨rfl,rfl,rfl⟩
      have hx0:Value.slice none n2 c2=.slice none 0 0:=by rw[q1,q2]
      have Q:=Lib.hid q1;clear e1 ho e q1 q2;have HX:=Lib.hid hx0;clear hx0
      go_wp2_with (at_builtin;refine wpList_append_own_none rfl _ _ 131 rfl w.heap.size 22 i0 1 Tryz.underlying131 hi x6 _ _ rfl hown HX.out ?_)
      go_roundw
      case rel=>exact⟨_,2,rfl,by omega,rfl,by simpa [mC,abH,Q.out] using hown,hbw⟩
      case measure=>simp[intOf]
     ·cases e;clear e1
      go_wp2_with (at_builtin;refine wpList_append_own _ rfl _ _ 131 rfl w.heap.size 22 i0 (.int .u64 0) 1 8 Tryz.underlying131 hi hz0 hz1 hz2 rfl (by decide) x6 _ _ rfl hown a xs2.length _ xs2 rfl (by simp) hc ho (by simp[mC,maxLen];omega) (by simp[mC];omega) hbw.size ?_;intro v' w1 hown' hgrow _)
      go_roundw
      case rel=>exact⟨_,2,rfl,by omega,rfl,by simpa [mC,abH] using hown',pd hbw.size hbw hown hgrow⟩
      case measure=>simp[intOf]
    ·go_wp2
     go_ret
     refine⟨_,rfl,?_,hbw⟩;simpa [mC,abH] using hown
end
section
open Go.RowKit Go.Shelf
attribute [local go_sem] Oper.semAt_some
def upto {α:Type} (f:Nat→α) (k:Nat):List α:=(List.range k).map f
theorem fX {α:Type} (f:Nat→α) (k:Nat):upto f (k+1)=upto f k++[f k]:=by simp[upto,List.range_succ]
theorem lM {α:Type} (f:Nat→α) (k:Nat):(upto f k).length=k:=by simp[upto]
abbrev U64:Type:={ n:Nat // n<18446744073709551616 }
instance:Inhabited U64:=⟨⟨0,by omega⟩⟩
def uF (b c:Nat) (A B:World):Prop:=B.heap[b]?=A.heap[b]?∧B.heap[c]?=A.heap[c]?
theorem uF.refl (b c:Nat) (A:World):uF b c A A:=⟨rfl,rfl⟩
theorem uF.trans {b c:Nat} {A B C:World} (h:uF b c A B) (k:uF b c B C):uF b c A C:=⟨k.1.trans h.1,k.2.trans h.2⟩
theorem uF.cell1 {b c:Nat} {A B:World} (h:uF b c A B) (j:Nat):B.cell? ⟨b,j,none⟩=A.cell? ⟨b,j,none⟩:=World.cell?_of_block (a:=⟨b,j,none⟩) h.1
theorem uF.cell2 {b c:Nat} {A B:World} (h:uF b c A B) (j:Nat):B.cell? ⟨c,j,none⟩=A.cell? ⟨c,j,none⟩:=World.cell?_of_block (a:=⟨c,j,none⟩) h.2
theorem uF.put {b c:Nat} {w:World} (hb:b<w.heap.size) (hc:c<w.heap.size) (W:World) (l:Nat) (o o' : Obj) (hl:w.heap.size≤l) (_:W.heap[l]?=some o) (_:o.isCells=false) (_:o.isWalk=false):uF b c W (W.putObj l o') :=
 ⟨World.putObj_heap_other (by omega),World.putObj_heap_other (by omega)⟩
def rv (zs:List U64) (j:Nat):Nat × U64:=(zs.length - 1 - j,zs[zs.length - 1 - j]?.getD default)
set_option maxRecDepth 100000 in
theorem nE (F:Fence) (n:Nat) (hf:F.fn 174) (hro:F.round=none) (hn:1≤n) (l Bs b cap:Nat) (zs:List U64) (hreach:zs.length≤1099511627776) (J Jx:List (Nat × U64)→World→Prop)
  (hY:∀ pre x W,J pre W→pre.length<zs.length→YieldAt F (n - 1) Tryz.prog l #[.int .i64 (x.1:Int),.int .u64 (x.2.1:Int)] W fun e W' =>
   (e=.returned (.bool true)∧J (pre++[x]) W'∧uF b Bs W W')∨(e=.returned (.bool false)∧Jx (pre++[x]) W'))
  (W:World) (hBs:W.cell? ⟨Bs,0,none⟩=some (.slice (some ⟨b,0,none⟩) zs.length cap)) (hc:∀ j,j<zs.length→W.cell? ⟨b,j,none⟩=some (.int .u64 ((zs[j]?.getD default).1:Int))) (h0:J [] W) :
  CallsIn F n Tryz.prog 174 #[.func (.yield l) #[] #[],.pointer (some ⟨Bs,0,none⟩)] W fun e W'=>(∃ v,e=.returned v) ∧
   ((∃ ys,ys=upto (rv zs) zs.length∧J ys W')∨(∃ pre,(∃ k,k≤zs.length∧pre=upto (rv zs) k)∧Jx pre W')):=by
 refine callsIn_of_wp Tryz.func174 rfl hf ?_ hro;simp only[Tryz.ntmps174,List.size_toArray,List.length_cons,List.length_nil,Nat.reduceAdd,Nat.reduceSub,Array.replicate_succ,Array.replicate_zero,List.push_toArray,List.append_toArray,List.nil_append,List.cons_append]
 gi_wp2
 gi_loopw [3] (fun i wr=>∃ k:Nat,k≤zs.length∧i=.int .i64 ((zs.length:Int) - 1 - (k:Int))∧J (upto (rv zs) k) wr∧uF b Bs W wr)
  (fun i _=>(intOf i+1).toNat)
 case atStart=>exact⟨0,Nat.zero_le _,by simp,h0,uF.refl _ _ _⟩
 case round =>
  obtain⟨k,hk,hi,hJs,hnx⟩:=hrel;have hBs':=(hnx.cell2 0).trans hBs
  by_cases hlt:k<zs.length
  ·rw[show (zs.length:Int) - 1 - (k:Int)=((zs.length - 1 - k:Nat):Int) by omega] at hi;subst hi;have hjl:zs.length - 1 - k<zs.length:=by omega
   have hcx:=(hnx.cell1 _).trans (hc _ hjl);obtain⟨fn,tmps,assign,body,hy,hR⟩:=hY _ (rv zs k) wr hJs (by rw[lM];exact hlt);have hse:=fX (rv zs) k;unfold rv at hy;dsimp only at hy;generalize hj:zs.length - 1 - k=j at *;generalize hz:zs[j]?.getD default=z at *;have hbk:rv zs k=(j,z):=by simp only[rv,hj,hz]
   have hjz:(j:Int)<(zs.length:Int):=by omega
   have hnext:(j:Int) - 1=(zs.length:Int) - 1 - ((k+1:Nat):Int):=by omega
   have HN:=Lib.hid hnext;clear hnext
   gi_wp2
   refine hR.mono ?_;rintro e W3 (⟨rfl,hJ3,hk3⟩|⟨rfl,hJx3⟩)
   ·gi_wp2
    go_roundw
    case rel=>exact⟨k+1,by omega,by rw[← HN.out],by rw[hse];exact hJ3,hnx.trans hk3⟩
    case measure=>first|(simp[intOf];done)|(simp[intOf];omega)
   ·gi_wp2
    refine bodyPost_ret (results_none rfl _ _ _) rfl ?_;exact⟨⟨_,rfl⟩,.inr ⟨_,⟨k+1,by omega,hse.symm⟩,hJx3⟩⟩
  ·obtain rfl:k=zs.length:=by omega
   rw[show (zs.length:Int) - 1 - (zs.length:Int) = -1 by omega] at hi;subst hi
   gi_wp2
   go_end0
   exact⟨⟨_,rfl⟩,.inl ⟨_,rfl,hJs⟩⟩
theorem qH (n:Nat) (hn:1≤n) (Bs b cap:Nat) (zs:List U64) (hreach:zs.length≤1099511627776) (w:World) (hBn:Bs<w.heap.size) (hb:b<w.heap.size)
  (hBs:w.cell? ⟨Bs,0,none⟩=some (.slice (some ⟨b,0,none⟩) zs.length cap)) (hc:∀ j,j<zs.length→w.cell? ⟨b,j,none⟩=some (.int .u64 ((zs[j]?.getD default).1:Int))) :
  SeqStopsK Fence.wide n Tryz.prog 174 #[.pointer (some ⟨Bs,0,none⟩)] (fun x:Nat × U64=>#[Value.int .i64 (x.1:Int),Value.int .u64 (x.2.1:Int)]) (uF b Bs) (fun ys=>ys=upto (rv zs) zs.length)
   (fun pre=>∃ k,k≤zs.length∧pre=upto (rv zs) k) zs.length w:=fun l J Jx W hW _ _ hY h0 =>
 nE Fence.wide n trivial rfl hn l Bs b cap zs hreach J Jx hY W ((hW.cell (p:=⟨Bs,0,none⟩) hBn).trans hBs) (fun j hj=>(hW.cell (p:=⟨b,j,none⟩) hb).trans (hc j hj)) h0
theorem qh (a:Option Addr) (len cap:Nat) (w:World) :
  Calls Tryz.prog 158 #[.slice a len cap] w fun e w'=>e=.returned (.func (.func 174) #[] #[.pointer (some ⟨w.heap.size,0,none⟩)])∧w'=w.alloc (.cells #[.slice a len cap] 131):=by
 go_enter Tryz.func158,Tryz.ntmps158
 go_wp2
 go_ret
 exact⟨rfl,rfl⟩
theorem mz {W W' : World} (h:Ext W W'):KeepsOthers W W':=⟨h.size,fun k o hk _=>(h.block k (Array.getElem?_eq_some_iff.1 hk).1).trans hk⟩
theorem Blk.own {A B:World} {row:Option Nat} {g:Nat} {t:TypeId} {cs:List Value} (h:Blk A g t cs) (hg:A.grownBy B row) (hr:∀ r,row=some r→∃ o:Obj,A.heap[r]?=some o∧o.isCells=false):Blk B g t cs:=by
 refine h.grown hg (fun e=>?_);obtain⟨o,h1,h2⟩:=hr g e.symm;unfold Blk at h;rw[h] at h1;cases h1;cases h2
end
section
def zB (a:Nat):Nat:=if a=0 then 0 else a.log2+1
theorem rk {x k:Nat} (hk:1≤k) (h1:2 ^ (k - 1)≤x) (h2:x<2 ^ k):zB x=k:=by
 have hx:x≠0:=by have:=Nat.two_pow_pos (k - 1);omega
 unfold zB;rw[if_neg hx];have a:=(Nat.log2_lt hx).2 h2;have b:=(Nat.le_log2 hx).2 h1;omega
theorem uU {x:Nat} (hx:x≠0):1≤zB x∧2 ^ (zB x - 1)≤x∧x<2 ^ zB x:=by
 unfold zB;rw[if_neg hx];exact⟨by omega,by simpa using Nat.log2_self_le hx,Nat.lt_log2_self⟩
theorem tK (x:Nat):x<2 ^ zB x:=by
 by_cases hx:x=0
 ·subst hx;simp[zB]
 ·exact (uU hx).2.2
theorem vn {x k:Nat} (h:x<2 ^ k):zB x≤k:=by
 by_cases hx:x=0
 ·subst hx;simp[zB]
 ·unfold zB;rw[if_neg hx];have:=(Nat.log2_lt hx).2 h;omega
theorem yo {x k:Nat}:zB x≤k↔x<2 ^ k :=
 ⟨fun h=>Nat.lt_of_lt_of_le (tK x) (Nat.pow_le_pow_right (by omega) h),vn⟩
theorem bitLen_eq {x:Nat} (h:x<18446744073709551616):Lib.bitLen x=zB x:=by
 by_cases hx:x=0
 ·subst hx;rfl
 ·obtain⟨h1,h2,h3⟩:=Lib.bitLenAux_bounds 64 x h hx;exact (rk h1 h2 h3).symm
theorem tz {x lo s:Nat} (hx:x≠0) (hl:lo<2 ^ s):zB (lo+2 ^ s*x)=s+zB x:=by
 obtain⟨h1,h2,h3⟩:=uU hx;refine rk (by omega) ?_ ?_
 ·rw[show s+zB x - 1=s+(zB x - 1) by omega,Nat.pow_add];have:=Nat.mul_le_mul_left (2 ^ s) h2;omega
 ·rw[Nat.pow_add];have:=Nat.mul_le_mul_left (2 ^ s) h3;rw[Nat.mul_succ] at this;omega
theorem jw {a:Nat} (ha:a<zc) {i:Nat} (hi:i<4) (hz:∀ j,i<j→j<4→wd j a=0) (hx:wd i a≠0):zB a=64*i+zB (wd i a):=by
 have hv:=vS ha;have l0:=ye 0 a;have l1:=ye 1 a;have l2:=ye 2 a;have:i=0∨i=1∨i=2∨i=3:=by omega
 rcases this with rfl|rfl|rfl|rfl
 ·have z1:=hz 1 (by omega) (by omega);have z2:=hz 2 (by omega) (by omega);have z3:=hz 3 (by omega) (by omega);rw[z1,z2,z3] at hv;have e:wd 0 a=a:=by simp only[tm] at hv;omega
  rw[e];omega
 ·have z2:=hz 2 (by omega) (by omega);have z3:=hz 3 (by omega) (by omega);rw[z2,z3] at hv;have e:a=wd 0 a+2 ^ 64*wd 1 a:=by simp only[tm] at hv;omega
  have:=tz (s:=64) hx (show wd 0 a<2 ^ 64 by omega);rw[← e] at this;omega
 ·have z3:=hz 3 (by omega) (by omega);rw[z3] at hv;have e:a=(wd 0 a+18446744073709551616*wd 1 a)+2 ^ 128*wd 2 a:=by simp only[tm] at hv;omega
  have:=tz (s:=128) hx (show wd 0 a+18446744073709551616*wd 1 a<2 ^ 128 by omega);rw[← e] at this;omega
 ·have e:a=(wd 0 a+18446744073709551616*wd 1 a+340282366920938463463374607431768211456*wd 2 a)+2 ^ 192*wd 3 a:=by simp only[tm] at hv;omega
  have:=tz (s:=192) hx (show wd 0 a+18446744073709551616*wd 1 a+340282366920938463463374607431768211456*wd 2 a<2 ^ 192 by omega);rw[← e] at this;omega
theorem fO {a:Nat} (ha:a<zc) (hz:∀ j,j<4→wd j a=0):a=0:=by
 have hv:=vS ha;rw[hz 0 (by omega),hz 1 (by omega),hz 2 (by omega),hz 3 (by omega)] at hv;simp[tm] at hv;omega
def ut (a i:Nat):Nat:=a / 2 ^ i%2
theorem qz (a i:Nat):ut a i≤1:=by unfold ut;omega
theorem jc {a:Nat} (ha:a<zc) (i r:Nat) (hi:i<4) (hr:r<64):wd i a / 2 ^ r%2=ut a (64*i+r):=by
 unfold ut;rw[Nat.pow_add,← Nat.div_div_eq_div_mul];have:i=0∨i=1∨i=2∨i=3:=by omega
 have gen:∀ n:Nat,n%18446744073709551616 / 2 ^ r%2=n / 2 ^ r%2:=by
  intro n;have e:(18446744073709551616:Nat)=2 ^ r*(2*2 ^ (63 - r)):=by
   rw[← Nat.pow_succ',← Nat.pow_add,show r+(63 - r+1)=64 by omega]
  rw[e,Nat.mod_mul_right_div_self,Nat.mod_mul_right_mod]
 rcases this with rfl|rfl|rfl|rfl<;>simp only[wd,gen]<;>simp
theorem fN {a:Nat} (ha:a<zc) {i:Nat} (hi:256≤i):ut a i=0:=by
 unfold ut;have:a / 2 ^ i=0:=Nat.div_eq_of_lt (Nat.lt_of_lt_of_le (show a<2 ^ 256 by unfold zc at ha;omega) (Nat.pow_le_pow_right (by omega) hi));rw[this]
end
section
open Go.RowKit
theorem eK {a k:Nat} (hx:wd k a=0) (hz:∀ j,k<j→j<4→wd j a=0) (j:Nat) (h1:k≤j) (h2:j<4):wd j a=0:=by
 rcases Nat.lt_or_eq_of_le h1 with h|h
 ·exact hz j h h2
 ·subst h;exact hx
theorem u5 (a:Nat) (ha:a<zc) (w:World) :
  Calls Tryz.prog 90 #[ze a] w fun e w'=>e=.returned (.int .i64 (zB a:Nat))∧Below w.heap.size w w':=by
 go_enter Tryz.func90,Tryz.ntmps90
 go_wp2;generalize hW:w.alloc _=W;have hg0:Blk W w.heap.size 24 (zb a):=by subst hW;exact Blk.new _ _ _
 have hb:Below w.heap.size w W:=by subst hW;exact (Ext.rfl' w).alloc' _
 clear hW
 go_loop [3] (fun i=>(i=.int .i64 (-1)∧∀ j,j<4→wd j a=0)∨∃ k:Nat,k<4∧i=.int .i64 k∧∀ j,k<j→j<4→wd j a=0) (fun i=>(intOf i+1).toNat)
 case atStart=>exact .inr ⟨3,by omega,rfl,fun j h1 h2=>by omega⟩
 case round =>
  rcases hrel with ⟨rfl,hz⟩|⟨k,hk,rfl,hz⟩
  ·have hres:=fO ha hz;subst hres;clear hz;go_wp2
   go_ret
   exact⟨by simp[zB],hb⟩
  ·have c0:=hg0.cell_at (vq a hk)
   by_cases hx:wd k a=0
   ·have Hz:=Lib.hid hz;clear hz;go_wp2
    go_round
    case rel =>
     by_cases h0:k=0
     ·subst h0;exact .inl ⟨rfl,fun j hj=>eK hx Hz.out j (by omega) hj⟩
     ·exact .inr ⟨k - 1,by omega,by rw[show ((k - 1:Nat):Int)=(k:Int) - 1 by omega],fun j h1 h2=>eK hx Hz.out j (by omega) h2⟩
    case measure=>first|(simp[intOf];done)|(simp[intOf];omega)
   ·have hres:=jw ha hk hz hx;have Hr:=Lib.hid hres;clear hres hz;have hpos:0<wd k a:=by omega
    have hle:=ab4 k a;have hlb:=vn (k:=64) (ye k a);have hbl:=bitLen_eq (ye k a)
    go_wp2_with (go_at_call 105;refine (Tryz.bits_Len64 _ _ (by omega) (by omega)).mono ?_;rintro e w1 ⟨rfl,rfl⟩)
    go_ret
    refine⟨?_,hb⟩;rw[Hr.out];exact congrArg (fun z:Int=>Ending.returned (.int .i64 z)) (by simp)
theorem and_one (n:Nat) (h:n<18446744073709551616):bits .and .u64 (n:Int) 1=((n%2:Nat):Int):=by
 have:=u64_and_nat n 1 h (by omega);rw[nat_mask1] at this;exact this
theorem qF (a:Nat) (i:Int) (ha:a<zc) (hi0:0≤i) (hi1:i≤1000000) (w:World) :
  Calls Tryz.prog 152 #[ze a,.int .i64 i] w fun e w'=>e=.returned (.int .u64 (ut a i.toNat:Nat))∧Below w.heap.size w w':=by
 obtain⟨n,rfl⟩:=Int.eq_ofNat_of_zero_le hi0;rw[Int.toNat_natCast]
 by_cases h:n<256
 ·have hq:n / 64<4:=by omega
  have hb:=jc ha (n / 64) (n%64) hq (Nat.mod_lt _ (by omega));rw[show 64*(n / 64)+n%64=n by omega] at hb;have hw:=ye (n / 64) a;have hw2:wd (n / 64) a / 2 ^ (n%64)<18446744073709551616:=Nat.lt_of_le_of_lt (Nat.div_le_self _ _) hw;have ho:=and_one _ hw2;have Hb:=Lib.hid hb;clear hb;have c0:=(Blk.new w 24 (zb a)).cell_at (vq a hq);have hd1:decide ((n:Int)<0)=false:=by simp
  have hd2:decide (256≤(n:Int))=false:=by simp;omega
  go_enter Tryz.func152,Tryz.ntmps152
  go_wp2
  go_ret
  refine⟨congrArg (fun z:Int=>Ending.returned (.int .u64 z)) ?_,(Ext.rfl' w).alloc' _⟩;show bits .and .u64 ((wd (n / 64) a:Nat) / 2 ^ (n%64):Int) 1=_;rw[show ((wd (n / 64) a:Nat) / 2 ^ (n%64):Int)=((wd (n / 64) a / 2 ^ (n%64):Nat):Int) by simp,ho,Hb.out]
 ·have hb:=fN ha (i:=n) (by omega);have hd1:decide ((n:Int)<0)=false:=by simp
  have hd2:decide (256≤(n:Int))=true:=by simp;omega
  go_enter Tryz.func152,Tryz.ntmps152
  go_wp2
  go_ret
  exact⟨by simp[hb],(Ext.rfl' w).alloc' _⟩
theorem lJ (a b c d:Nat) (ha:a<18446744073709551616) (hb:b<18446744073709551616) (hc:c<18446744073709551616) (hd:d<18446744073709551616) :
  a*b / 18446744073709551616≤18446744073709551614∧a*b%18446744073709551616<18446744073709551616 ∧
  (a*b%18446744073709551616+c) / 18446744073709551616≤1∧((a*b%18446744073709551616+c)%18446744073709551616+d) / 18446744073709551616≤1 ∧
  a*b / 18446744073709551616+(a*b%18446744073709551616+c) / 18446744073709551616+((a*b%18446744073709551616+c)%18446744073709551616+d) / 18446744073709551616≤18446744073709551615 ∧
  (a*b+c+d)%18446744073709551616=((a*b%18446744073709551616+c)%18446744073709551616+d)%18446744073709551616 ∧
  (a*b+c+d) / 18446744073709551616=a*b / 18446744073709551616+(a*b%18446744073709551616+c) / 18446744073709551616+((a*b%18446744073709551616+c)%18446744073709551616+d) / 18446744073709551616:=by
 have hm:a*b≤18446744073709551615*18446744073709551615:=Nat.mul_le_mul (by omega) (by omega);generalize a*b=p at *;omega
theorem mP (a b c d:Nat) (ha:a<18446744073709551616) (hb:b<18446744073709551616) (hc:c<18446744073709551616) (hd:d<18446744073709551616) (w:World) :
  Calls Tryz.prog 168 #[.int .u64 (a:Int),.int .u64 (b:Int),.int .u64 (c:Int),.int .u64 (d:Int)] w fun e w' =>
   e=.returned (.tuple #[.int .u64 (((a*b+c+d)%18446744073709551616:Nat):Int),.int .u64 (((a*b+c+d) / 18446744073709551616:Nat):Int)])∧w=w':=by
 have hA0:∀ (x y:Nat) (w:World),(callFunc 169 #[.int .u64 x,.int .u64 y,.int .u64 0]).run Tryz.prog w =
   .ok (.value (.tuple #[.int .u64 (((x+y)%18446744073709551616:Nat):Int),.int .u64 (((x+y) / 18446744073709551616:Nat):Int)])) w:=fun x y w=>mo x y 0 (by omega) w
 have hM:=Tryz.bits_Mul64 a b ha hb;obtain⟨h1,h2,h3,h4,h5,e1,e2⟩:=lJ a b c d ha hb hc hd;rw[e1,e2];clear e1 e2;generalize a*b / 18446744073709551616=H at *;generalize a*b%18446744073709551616=L at *;have A1:=hA0 L c;generalize (L+c)%18446744073709551616=S1 at *;generalize (L+c) / 18446744073709551616=C1 at *;have A2:=hA0 S1 d;generalize (S1+d)%18446744073709551616=S2 at *;generalize (S1+d) / 18446744073709551616=C2 at *;clear hA0;have HM:=Lib.hid hM;clear hM
 go_enter Tryz.func168,Tryz.ntmps168
 go_wp2_with (go_at_call 153;refine (HM.out _).mono ?_;rintro e w1 ⟨rfl,rfl⟩)
 go_ret2
 exact⟨by simp,rfl⟩
end
section
theorem aam (n:Nat) {i:Nat} (h:i<4):wd i n=n / 2 ^ (64*i)%2 ^ 64:=by
 have:i=0∨i=1∨i=2∨i=3:=by omega
 rcases this with rfl|rfl|rfl|rfl<;>simp[wd]
theorem hZ (a i:Nat) (h:i<4):a / 2 ^ (64*i)=a / 2 ^ (64*(i+1))*18446744073709551616+wd i a:=by
 rw[aam a h,show 64*(i+1)=64*i+64 by omega,Nat.pow_add,← Nat.div_div_eq_div_mul,show (2:Nat) ^ 64=18446744073709551616 by decide];generalize a / 2 ^ (64*i)=x;omega
def sV (a b k:Nat):Nat:=a / 2 ^ (64*k)%b
theorem jo (a k:Nat) {b:Nat} (hb:0<b):sV a b k<b:=Nat.mod_lt _ hb
theorem nV (a b i:Nat) (h:i<4) (hb:0<b):(sV a b (i+1)*18446744073709551616+wd i a) / b=wd i (a / b)∧(sV a b (i+1)*18446744073709551616+wd i a)%b=sV a b i:=by
 have hs:=hZ a i h;have hq:a / b / 2 ^ (64*i)=a / 2 ^ (64*i) / b:=by rw[Nat.div_div_eq_div_mul,Nat.div_div_eq_div_mul,Nat.mul_comm]
 have hw:=ye i a;unfold sV;rw[aam (a / b) h,hq,hs];generalize a / 2 ^ (64*(i+1))=x at *;generalize wd i a=d at *;have e:x*18446744073709551616+d=x%b*18446744073709551616+d+b*(x / b*18446744073709551616):=by
  have:=Nat.div_add_mod x b;have h2:b*(x / b*18446744073709551616)=(b*(x / b))*18446744073709551616:=by rw[Nat.mul_assoc]
  rw[h2];generalize b*(x / b)=y at *;omega
 have hlt:(x%b*18446744073709551616+d) / b<18446744073709551616:=by
  rw[Nat.div_lt_iff_lt_mul hb];have:=Nat.mod_lt x hb;generalize x%b=y at *;have:(y+1)*18446744073709551616≤b*18446744073709551616:=Nat.mul_le_mul_right _ this;rw[Nat.mul_comm b] at this;omega
 rw[e,Nat.add_mul_div_left _ _ hb,Nat.add_mul_mod_self_left];refine⟨?_,rfl⟩;rw[show (2:Nat) ^ 64=18446744073709551616 by decide,Nat.add_mul_mod_self_right,Nat.mod_eq_of_lt hlt]
theorem eA {a b:Nat} (ha:a<zc):sV a b 4=0:=by
 unfold sV;rw[Nat.div_eq_of_lt (by simpa [zc] using ha)];simp
theorem jQ (a b:Nat):sV a b 0=a%b:=by simp[sV]
def qc (D k j:Nat):Nat:=if j<k then 0 else wd j D
def vC (D m:Nat):Nat:=D / 2 ^ m*2 ^ m
theorem tZ (D:Nat):vC D 0=D:=by simp[vC]
theorem iK {D m:Nat} (h:D<2 ^ m):vC D m=0:=by simp[vC,Nat.div_eq_of_lt h]
theorem lR (n:Nat) {i:Nat} (h:i<4) (t:Nat):(wd i n).testBit t=(decide (t<64) && n.testBit (64*i+t)):=by
 rw[aam n h,Nat.testBit_mod_two_pow,Nat.testBit_div_two_pow,Nat.add_comm t]
theorem rJ (D m t:Nat):(vC D m).testBit t=(decide (m≤t) && D.testBit t):=by
 unfold vC;rw[Nat.mul_comm,Nat.testBit_two_pow_mul,Nat.testBit_div_two_pow]
 by_cases h:m≤t
 ·simp[h,show t - m+m=t by omega]
 ·simp[h]
theorem f9 (D m:Nat):ut D m=(D.testBit m).toNat:=by
 unfold ut;rw[Nat.testBit_eq_decide_div_mod_eq];have:=Nat.mod_two_eq_zero_or_one (D / 2 ^ m)
 rcases this with h|h<;>simp[h]
theorem jS (D m:Nat) {j:Nat} (h:j<4) (hj:j≠m / 64):wd j (vC D (m+1))=wd j (vC D m):=by
 apply Nat.eq_of_testBit_eq;intro t;rw[lR _ h,lR _ h,rJ,rJ]
 by_cases ht:t<64
 ·have:decide (m+1≤64*j+t)=decide (m≤64*j+t):=by
   rw[decide_eq_decide];omega
  rw[this]
 ·simp[ht]
theorem fI (s:Nat):Nat.testBit 1 (s+1)=false:=by simp[Nat.testBit_succ]
theorem ga (D m:Nat) (h:m<256):wd (m / 64) (vC D (m+1)) ||| ut D m*2 ^ (m%64)=wd (m / 64) (vC D m):=by
 apply Nat.eq_of_testBit_eq;intro t;rw[Nat.testBit_or,lR _ (by omega),lR _ (by omega),rJ,rJ,Nat.mul_comm (ut D m),Nat.testBit_two_pow_mul,f9]
 by_cases ht:t<64
 ·by_cases h1:m%64=t
  ·have e:64*(m / 64)+t=m:=by omega
   subst h1;rw[e];cases D.testBit m<;>simp<;>omega
  ·have e1:decide (m+1≤64*(m / 64)+t)=decide (m≤64*(m / 64)+t):=by rw[decide_eq_decide];omega
   rw[e1]
   by_cases h2:m%64≤t
   ·obtain⟨s,hs⟩ : ∃ s,t - m%64=s+1:=⟨t - m%64 - 1,by omega⟩;rw[hs];cases D.testBit m<;>simp[fI]
   ·simp[h2]
 ·rcases Nat.lt_or_ge t (m%64) with h2|h2
  ·omega
  ·obtain⟨s,hs⟩ : ∃ s,t - m%64=s+1:=⟨t - m%64 - 1,by omega⟩;rw[hs];cases D.testBit m<;>simp[ht,fI]
theorem kD (a m:Nat):a / 2 ^ m=a / 2 ^ (m+1)+a / 2 ^ (m+1)+ut a m:=by
 unfold ut;rw[Nat.pow_succ,← Nat.div_div_eq_div_mul];omega
theorem jl {a b:Nat} (m:Nat) (hb:0<b):(a / 2 ^ (m+1)%b+a / 2 ^ (m+1)%b+ut a m)%b=a / 2 ^ m%b ∧
  (a / 2 ^ (m+1)%b+a / 2 ^ (m+1)%b+ut a m) / b=ut (a / b) m:=by
 have hs:=kD a m;have hle:=qz a m;have hq:ut (a / b) m=a / 2 ^ m / b%2:=by
  unfold ut;rw[Nat.div_div_eq_div_mul,Nat.div_div_eq_div_mul,Nat.mul_comm]
 rw[hq,hs];generalize a / 2 ^ (m+1)=x at *;generalize ut a m=d at *;have e:x+x+d=x%b+x%b+d+b*(2*(x / b)):=by
  have:=Nat.div_add_mod x b;have h2:b*(2*(x / b))=2*(b*(x / b)):=by rw[Nat.mul_left_comm]
  rw[h2];generalize b*(x / b)=y at *;omega
 have hlt:(x%b+x%b+d) / b<2:=by
  rw[Nat.div_lt_iff_lt_mul hb];have:=Nat.mod_lt x hb;omega
 rw[e,Nat.add_mul_div_left _ _ hb,Nat.add_mul_mod_self_left];refine⟨rfl,?_⟩;rw[Nat.add_mul_mod_self_left,Nat.mod_eq_of_lt hlt]
def Dig (u d h l q r:Nat):Prop:=q*h+r=u∧(u*4294967296+d) / (h*4294967296+l)≤q
theorem Dig.start {u d h l:Nat} (hh:2147483648≤h) (hd:d<4294967296):Dig u d h l (u / h) (u%h):=by
 refine⟨by rw[Nat.mul_comm];exact Nat.div_add_mod u h,?_⟩;have hp:0<h*4294967296+l:=by omega
 have hhp:0<h:=by omega
 rw[Nat.div_le_iff_le_mul_add_pred hp];have h1:=Nat.div_add_mod u h;have h2:=Nat.mod_lt u hhp;generalize u / h=q at *;generalize u%h=r at *;subst h1;have:(h*4294967296+l)*q=(h*q)*4294967296+l*q:=by rw[Nat.add_mul,Nat.mul_right_comm]
 rw[this];have:(h*q+r)*4294967296+d=(h*q)*4294967296+r*4294967296+d:=by omega
 omega
theorem Dig.down {u d h l q r:Nat} (hD:Dig u d h l q r) (hu:u<h*4294967296+l) (hd:d<4294967296) (hh:2147483648≤h)
  (hc:4294967296≤q∨4294967296*r+d<q*l):1≤q∧Dig u d h l (q - 1) (r+h):=by
 obtain⟨h1,h2⟩:=hD;have hp:0<h*4294967296+l:=by omega
 have hlt:(u*4294967296+d) / (h*4294967296+l)<q:=by
  rw[Nat.div_lt_iff_lt_mul hp]
  rcases hc with hc|hc
  ·have:4294967296*(h*4294967296+l)≤q*(h*4294967296+l):=Nat.mul_le_mul_right _ hc;generalize q*(h*4294967296+l)=z at *;omega
  ·have:q*(h*4294967296+l)=(q*h)*4294967296+q*l:=by rw[Nat.mul_add,Nat.mul_assoc]
   rw[this];omega
 have hq0:=Nat.lt_of_le_of_lt (Nat.zero_le _) hlt;obtain⟨q',rfl⟩ : ∃ q',q=q' + 1:=⟨q - 1,by omega⟩;refine⟨by omega,?_,Nat.le_of_lt_succ hlt⟩;simp only[Nat.add_sub_cancel];rw[Nat.add_mul,Nat.one_mul] at h1;omega
theorem Dig.stop {u d h l q r:Nat} (hD:Dig u d h l q r) (hq:q*l≤4294967296*r+d) (hh:2147483648≤h):q=(u*4294967296+d) / (h*4294967296+l):=by
 obtain⟨h1,h2⟩:=hD;have hp:0<h*4294967296+l:=by omega
 refine Nat.le_antisymm ?_ h2;rw[Nat.le_div_iff_mul_le hp];have:q*(h*4294967296+l)=(q*h)*4294967296+q*l:=by rw[Nat.mul_add,Nat.mul_assoc]
 rw[this];omega
theorem Dig.break_ {u d h l q r:Nat} (hD:Dig u d h l q r) (hr:4294967296≤r) (hu:u<h*4294967296+l) (hl:l<4294967296) (hh:2147483648≤h):q=(u*4294967296+d) / (h*4294967296+l):=by
 refine hD.stop ?_ hh;obtain⟨h1,h2⟩:=hD;have hq:q<4294967296:=by
  rcases Nat.lt_or_ge q 4294967296 with h3|h3
  ·exact h3
  ·have:4294967296*h≤q*h:=Nat.mul_le_mul_right _ h3;omega
 have:q*l≤4294967295*4294967295:=Nat.mul_le_mul (by omega) (by omega);omega
theorem Dig.le {u d h l q r:Nat} (hD:Dig u d h l q r) (hu:u<18446744073709551616) (hh:2147483648≤h):q<8589934592∧r≤u:=by
 obtain⟨h1,_⟩:=hD;refine⟨?_,by omega⟩
 rcases Nat.lt_or_ge q 8589934592 with h3|h3
 ·exact h3
 ·have:8589934592*2147483648≤q*h:=Nat.mul_le_mul h3 hh;omega
theorem dE {u d Y:Nat} (hu:u<Y) (hd:d<4294967296):(u*4294967296+d) / Y<4294967296:=by
 rw[Nat.div_lt_iff_lt_mul (by omega)];omega
theorem jz {hi lo y s:Nat} (hs:s<64) (hy:y*2 ^ s<18446744073709551616) (hhi:hi<y) (hlo:lo<18446744073709551616) :
  hi*2 ^ s+lo / 2 ^ (64 - s)<y*2 ^ s ∧
  (hi*2 ^ s+lo / 2 ^ (64 - s))*18446744073709551616+lo*2 ^ s%18446744073709551616=(hi*18446744073709551616+lo)*2 ^ s:=by
 have hp:0<2 ^ (64 - s):=Nat.two_pow_pos _;have e:(18446744073709551616:Nat)=2 ^ s*2 ^ (64 - s):=by rw[← Nat.pow_add,show s+(64 - s)=64 by omega]
 have h1:lo / 2 ^ (64 - s)<2 ^ s:=by
  rw[Nat.div_lt_iff_lt_mul hp,← e];exact hlo
 have h2:(hi+1)*2 ^ s≤y*2 ^ s:=Nat.mul_le_mul_right _ hhi;rw[Nat.add_mul] at h2;refine⟨by omega,?_⟩;have h3:lo*2 ^ s / 18446744073709551616=lo / 2 ^ (64 - s):=by
  rw[e,Nat.mul_comm (2 ^ s) (2 ^ (64 - s)),← Nat.div_div_eq_div_mul,Nat.mul_comm lo,Nat.div_div_eq_div_mul,Nat.mul_comm (2 ^ (64 - s)),← Nat.div_div_eq_div_mul,Nat.mul_div_cancel_left _ (Nat.two_pow_pos _)]
 have h4:=Nat.div_add_mod (lo*2 ^ s) 18446744073709551616;rw[h3] at h4;rw[Nat.add_mul,Nat.add_mul,Nat.mul_right_comm];omega
theorem ai {hi lo s:Nat} (hs:s<64) (hlo:lo<18446744073709551616):(hi*2 ^ s) ||| (lo / 2 ^ (64 - s))=hi*2 ^ s+lo / 2 ^ (64 - s):=by
 refine nat_join s _ _ (Nat.mul_mod_left _ _) ?_;rw[Nat.div_lt_iff_lt_mul (Nat.two_pow_pos _),← Nat.pow_add,show s+(64 - s)=64 by omega];exact hlo
theorem jG {u d1 d0 Y q1 r1:Nat} (hY:0<Y) (e1:q1=(u*4294967296+d1) / Y) (e2:r1=(u*4294967296+d1)%Y) :
  q1*4294967296+(r1*4294967296+d0) / Y=(u*18446744073709551616+(d1*4294967296+d0)) / Y ∧
  (r1*4294967296+d0)%Y=(u*18446744073709551616+(d1*4294967296+d0))%Y:=by
 have h1:Y*q1+r1=u*4294967296+d1:=by rw[e1,e2];exact Nat.div_add_mod _ _
 clear e1 e2;have h2:Y*(q1*4294967296)=(Y*q1)*4294967296:=by rw[Nat.mul_assoc]
 have e:u*18446744073709551616+(d1*4294967296+d0)=(r1*4294967296+d0)+Y*(q1*4294967296):=by
  rw[h2];generalize Y*q1=z at h1;omega
 rw[e,Nat.add_mul_div_left _ _ hY,Nat.add_mul_mod_self_left];exact⟨Nat.add_comm _ _,rfl⟩
theorem ah {U y p:Nat} (hp:0<p):U*p / (y*p)=U / y∧U*p%(y*p) / p=U%y:=by
 refine⟨Nat.mul_div_mul_right _ _ hp,?_⟩;rw[Nat.mul_mod_mul_right,Nat.mul_div_cancel _ hp]
theorem ci {y:Nat} (h0:y≠0) (h:y<18446744073709551616):zB y≤64∧1≤zB y∧9223372036854775808≤y*2 ^ (64 - zB y)∧y*2 ^ (64 - zB y)<18446744073709551616:=by
 obtain⟨h1,h2,h3⟩:=uU h0;have h4:zB y≤64:=vn h;refine⟨h4,h1,?_,?_⟩
 ·have:=Nat.mul_le_mul_right (2 ^ (64 - zB y)) h2;rw[← Nat.pow_add,show zB y - 1+(64 - zB y)=63 by omega] at this;exact this
 ·have:=Nat.mul_lt_mul_of_pos_right h3 (Nat.two_pow_pos (64 - zB y));rw[← Nat.pow_add,show zB y+(64 - zB y)=64 by omega] at this;exact this
def WB:Nat:=18446744073709551616
def j1:List Nat→Nat
 | []=>0
 | x::l=>x+WB*j1 l
theorem ov:∀ (l:List Nat) (j v:Nat),j<l.length→j1 (l.set j v)+l.getD j 0*WB ^ j=j1 l+v*WB ^ j
 | [],_,_,h=>by simp at h
 | x::l,0,v,_=>by simp[j1];omega
 | x::l,j+1,v,h=>by
  have ih:=ov l j v (by simpa using h);simp only[List.set_cons_succ,j1,List.getD_cons_succ,Nat.pow_succ'];have h1:WB*(j1 (l.set j v)+l.getD j 0*WB ^ j)=WB*(j1 l+v*WB ^ j):=by rw[ih]
  rw[Nat.mul_add,Nat.mul_add] at h1;rw[show l.getD j 0*(WB*WB ^ j)=WB*(l.getD j 0*WB ^ j) by rw[Nat.mul_left_comm],show v*(WB*WB ^ j)=WB*(v*WB ^ j) by rw[Nat.mul_left_comm]];omega
theorem js (n:Nat):j1 (List.replicate n 0)=0:=by
 induction n with
 | zero=>rfl
 | succ n ih=>simp[List.replicate_succ,j1,ih]
def qE (a:Nat):Nat→Nat
 | 0=>0
 | k+1=>qE a k+wd k a*WB ^ k
theorem nA {a:Nat} (h:a<zc):qE a 4=a:=by
 have:=vS h;simp only[qE,tm,WB] at *;omega
def uC (a b i k more:Nat) (l:List Nat):Prop :=
 l.length=8∧(∀ x∈l,x<18446744073709551616)∧more<18446744073709551616∧(∀ j,i+4≤j→l.getD j 0=0) ∧
 j1 l+more*WB ^ (i+k)=qE a i*b+wd i a*qE b k*WB ^ i
theorem uC.step {a b i k more:Nat} {l:List Nat} (h:uC a b i k more l) (hi:i<4) (hk:k<4) :
  uC a b i (k+1) ((wd i a*wd k b+l.getD (i+k) 0+more) / 18446744073709551616) (l.set (i+k) ((wd i a*wd k b+l.getD (i+k) 0+more)%18446744073709551616)):=by
 obtain⟨h1,h2,h3,h4,h5⟩:=h;have hx:=ye i a;have hy:=ye k b;have hl:l.getD (i+k) 0<18446744073709551616:=by
  rw[List.getD_eq_getElem?_getD,List.getElem?_eq_getElem (by omega),Option.getD_some];exact h2 _ (List.getElem_mem _)
 have hm:wd i a*wd k b≤18446744073709551615*18446744073709551615:=Nat.mul_le_mul (by omega) (by omega);have hdm:=Nat.div_add_mod (wd i a*wd k b+l.getD (i+k) 0+more) 18446744073709551616;refine⟨by simp[h1],fun x hx'=>?_,?_,fun j hj=>?_,?_⟩
 ·rcases List.mem_or_eq_of_mem_set hx' with h|h
  ·exact h2 x h
  ·rw[h];exact Nat.mod_lt _ (by omega)
 ·generalize wd i a*wd k b=p at *;omega
 ·rw[List.getD_eq_getElem?_getD,List.getElem?_set_ne (by omega),← List.getD_eq_getElem?_getD];exact h4 j hj
 ·have hs:=ov l (i+k) ((wd i a*wd k b+l.getD (i+k) 0+more)%18446744073709551616) (by omega);generalize (wd i a*wd k b+l.getD (i+k) 0+more) / 18446744073709551616=H at *;generalize (wd i a*wd k b+l.getD (i+k) 0+more)%18446744073709551616=L at *;generalize j1 (l.set (i+k) L)=V' at *;generalize l.getD (i+k) 0=c at *;have e1:H*WB ^ (i+(k+1))=(WB*H)*WB ^ (i+k):=by
   rw[show i+(k+1)=(i+k)+1 by omega,Nat.pow_succ',← Nat.mul_assoc,Nat.mul_comm H WB]
  have e2:(18446744073709551616*H+L)*WB ^ (i+k)=(wd i a*wd k b+c+more)*WB ^ (i+k):=by rw[hdm]
  rw[Nat.add_mul,Nat.add_mul,Nat.add_mul] at e2;have e3:wd i a*qE b (k+1)*WB ^ i=wd i a*qE b k*WB ^ i+wd i a*wd k b*WB ^ (i+k):=by
   simp only[qE];rw[Nat.mul_add,Nat.add_mul];congr 1;rw[Nat.pow_add,Nat.mul_assoc,Nat.mul_assoc,Nat.mul_assoc,Nat.mul_comm (WB ^ k) (WB ^ i)]
  rw[e1,e3];have e4:WB*H=18446744073709551616*H:=rfl;rw[e4];omega
theorem uC.next {a b i more:Nat} {l:List Nat} (h:uC a b i 4 more l) (hb:b<zc) (hi:i<4):uC a b (i+1) 0 0 (l.set (i+4) more):=by
 obtain⟨h1,h2,h3,h4,h5⟩:=h;have hs:=ov l (i+4) more (by omega);rw[h4 (i+4) (by omega)] at hs;refine⟨by simp[h1],fun x hx=>?_,by omega,fun j hj=>?_,?_⟩
 ·rcases List.mem_or_eq_of_mem_set hx with h|h
  ·exact h2 x h
  ·rw[h];exact h3
 ·rw[List.getD_eq_getElem?_getD,List.getElem?_set_ne (by omega),← List.getD_eq_getElem?_getD];exact h4 j (by omega)
 ·rw[nA hb] at h5;simp only[qE,Nat.zero_mul,Nat.mul_zero,Nat.add_zero] at hs ⊢;rw[Nat.add_mul,hs,h5,Nat.mul_assoc,Nat.mul_comm b,← Nat.mul_assoc]
theorem uC.start (a b:Nat):uC a b 0 0 0 (List.replicate 8 0):=by
 refine⟨rfl,fun x hx=>?_,by omega,fun j _=>?_,?_⟩
 ·rw[List.eq_of_mem_replicate hx];omega
 ·have:∀ (n j:Nat),(List.replicate n 0).getD j 0=0:=by
   intro n j;rw[List.getD_eq_getElem?_getD,List.getElem?_replicate]
   split<;>rfl
  exact this 8 j
 ·rw[js];simp[qE]
theorem aaK {a b:Nat} {l:List Nat} (h:uC a b 4 0 0 l) (ha:a<zc) :
  tm (l.getD 0 0) (l.getD 1 0) (l.getD 2 0) (l.getD 3 0)=a*b%zc∧tm (l.getD 4 0) (l.getD 5 0) (l.getD 6 0) (l.getD 7 0)=a*b / zc:=by
 obtain⟨h1,h2,_,_,h5⟩:=h;rw[nA ha] at h5
 match l,h1 with
 | [x0,x1,x2,x3,x4,x5,x6,x7],_ =>
  have b0:=h2 x0 (by simp);have b1:=h2 x1 (by simp);have b2:=h2 x2 (by simp);have b3:=h2 x3 (by simp);simp only[qE,Nat.zero_mul,Nat.mul_zero,Nat.add_zero] at h5;rw[← h5];have hlo:=lq b0 b1 b2 b3;have e:j1 [x0,x1,x2,x3,x4,x5,x6,x7]=tm x0 x1 x2 x3+zc*tm x4 x5 x6 x7:=by
   simp only[j1,WB,tm,zc];omega
  rw[e];show tm x0 x1 x2 x3=_∧tm x4 x5 x6 x7=_;have hp:0<zc:=by unfold zc;omega
  rw[Nat.add_mul_mod_self_left,Nat.mod_eq_of_lt hlo,Nat.add_mul_div_left _ _ hp,Nat.div_eq_of_lt hlo];exact⟨rfl,by omega⟩
end
section
namespace Sx
def uD (q:Nat) (l:List Nat):Bool:=decide (1<q) && l.all (fun x=>decide (x<q))
theorem se {q:Nat} {l:List Nat} (h:uD q l=true):1<q∧∀ x∈l,x<q:=by
 unfold uD at h;simpa using h
def zK:List Nat→Nat→Nat
 | [],_=>0
 | c::r,x=>c+x*zK r x
def jN (q x:Nat):List Nat→Nat
 | []=>0
 | c::r=>(jN q x r*x%q+c)%q
theorem bG (q x:Nat) (p:List Nat):jN q x p=zK p x%q:=by
 induction p with
 | nil=>simp[jN,zK]
 | cons c r ih =>
  simp only[jN,zK,ih];rw[Nat.mod_mul_mod,Nat.mod_add_mod,Nat.add_comm,Nat.mul_comm]
def ofZ (q:Nat) (n:Int):Nat:=if q<2 then 0 else (n%(q:Int)).toNat
theorem oK (q m:Nat) (h:0<q):ofZ q (m:Int)=m%q:=by
 unfold ofZ;split
 ·have:q=1:=by omega
  subst this;rw[Nat.mod_one]
 ·rw[← Int.natCast_emod,Int.toNat_natCast]
end Sx
end
end Go.Proofs.YtbhblpnjhkddbaaGreat
