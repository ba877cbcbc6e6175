/- Part 4 of the proof: SxR -/
import Derived.Test.YtiiacjladnljhaaGreatDoorM03
set_option linter.unusedSimpArgs false
set_option linter.unusedVariables false
namespace Go.Proofs.YtiiacjladnljhaaGreatDoor
open Go Go.RowKit
namespace Sx
open Kp
abbrev Nums:=Nat→Nat→Nat
inductive Kind where
  | skip
  | val (v:Value)
  | rel (v:(Nat→Nat)→Value) (S:(Nat→Nat)→Prop) (V:(Nat→Nat)→World→Prop) (A:(Nat→Nat)→List Nat)
def apart (x y:List Nat):Prop:=∀ g∈x,∀ h∈y,g≠h
section
variable (P:Program) (ops:List Oper) (fl:List Nat) (w0:World)
def obl (k:Kind) (i:Nat) (o:Oper) (a:Act) (F:Nat→World→Prop):Prop :=
  match k with
  | .skip=>Region.wanted o (yielded ops.toArray a.tmps)=false
  | .val v=>Region.wanted o (yielded ops.toArray a.tmps)=true∧((∀ w,(execOp a.eval o).run P w=.ok (.value v) w)∨(fl.contains i=false ∧
      ∀ w,Below w0.heap.size w0 w→(∀ j,anc ops i j=true→F j w)→kyp P o a w (fun u w'=>u=v∧Below w.heap.size w w')))
  | .rel v S V A=>fl.contains i=false∧Region.wanted o (yielded ops.toArray a.tmps)=true∧(∃ x,S x)∧(∀ x w w',V x w→Below w.heap.size w w'→V x w') ∧
      ∀ w,Below w0.heap.size w0 w→(∀ j,anc ops i j=true→F j w)→kyp P o a w (fun u w'=>∃ x,u=v x∧S x∧V x w'∧Below w.heap.size w w'∧∀ g∈A x,w.heap.size≤g∧g<w'.heap.size)
def kval (k:Kind) (x:Nat→Nat):Value :=
  match k with
  | .skip=>undef
  | .val v=>v
  | .rel v _ _ _=>v x
def ksat (k:Kind) (x:Nat→Nat):Prop :=
  match k with
  | .rel _ S _ _=>S x
  | _=>True
def kfact (k:Kind) (x:Nat→Nat) (w:World):Prop :=
  match k with
  | .rel _ _ V _=>V x w
  | _=>True
def kadd (k:Kind) (x:Nat→Nat):List Nat :=
  match k with
  | .rel _ _ _ A=>A x
  | _=>[]
variable (K:Nat→Nums→Kind)
def vals (s:Nums) (i:Nat):Value:=kval (K i s) (s i)
def facts (s:Nums):Nat→Nat→World→Prop
  | 0=>fun _ _=>True
  | i+1=>fun j w=>if j=i then kfact (K i s) (s i) w else facts s i j w
def adds (s:Nums):Nat→List (List Nat)
  | 0=>[]
  | i+1=>kadd (K i s) (s i)::adds s i
def chain (Fin:Act→(Nat→World→Prop)→List (List Nat)→Prop) (s:Nums):List Oper→Nat→Act→(Nat→World→Prop)→List (List Nat)→Prop
  | [],_,a,F,G=>Fin a F G
  | o::l,i,a,F,G=>obl P ops fl w0 (K i s) i o a F∧(ksat (K i s) (s i)→chain Fin s l (i+1) (a.put o.dst (kval (K i s) (s i))) (fun j w=>if j=i then kfact (K i s) (s i) w else F j w) (kadd (K i s) (s i)::G))
end
section
variable {P:Program} {ops:List Oper} {fl:List Nat} {w0:World} {K:Nat→Nums→Kind}
theorem facts_of {s:Nums} {j:Nat} {w:World}:∀ i,(j<i→kfact (K j s) (s j) w)→facts K s i j w
  | 0,_=>trivial
  | i+1,h=>by
    unfold facts
    split
    · rename_i e;subst e;exact h (by omega)
    · exact facts_of i (fun hj=>h (by omega))
theorem chain_at {Fin:Act→(Nat→World→Prop)→List (List Nat)→Prop} {s:Nums}:∀ (l:List Oper) (i:Nat),
    (∀ (j:Nat) (o:Oper),l[j]?=some o→∀ (k:Nat) (o' : Oper),l[k]?=some o'→j≠k→∀ t,o.dst=some t→o'.dst≠some t) →
    (∀ j,i≤j→j<i+l.length→ksat (K j s) (s j)) →
    ∀ a:Act,chain P ops fl w0 K Fin s l i a (facts K s i) (adds K s i) →
    (∀ j o,l[j]?=some o→obl P ops fl w0 (K (i+j) s) (i+j) o (fillL (vals K s) (fun m=>decide (m<i+j)) l i a) (facts K s (i+j))) ∧
    Fin (fillL (vals K s) (fun _=>true) l i a) (facts K s (i+l.length)) (adds K s (i+l.length))
  | [],i,_,_,a,h=>⟨fun j o hj=>by simp at hj,h⟩
  | o::l,i,hd,hs,a,h=>by
    unfold chain at h
    obtain⟨hob,hrest⟩:=h
    have hd' : ∀ (j:Nat) (o:Oper),l[j]?=some o→∀ (k:Nat) (o' : Oper),l[k]?=some o'→j≠k→∀ t,o.dst=some t→o'.dst≠some t:=fun j o hj k o' hk hne=>hd (j+1) o (by simpa using hj) (k+1) o' (by simpa using hk) (by omega)
    have hk:=hrest (hs i (Nat.le_refl _) (by simp))
    obtain⟨h1,h2⟩:=chain_at l (i+1) hd' (fun j h1 h2=>hs j (by omega) (by simp only[List.length_cons];omega)) _ hk
    refine⟨fun j o' hj=>?_,?_⟩
    · cases j with
      | zero =>
        have:o=o':=by simpa using hj
        subst this
        have he:fillL (vals K s) (fun m=>decide (m<i+0)) (o::l) i a=a:=by
          have gen:∀ (l:List Oper) (k:Nat) (a:Act),i≤k→fillL (vals K s) (fun m=>decide (m<i+0)) l k a=a:=by
            intro l
            induction l with
            | nil=>intro k a _;rfl
            | cons o l ih =>
              intro k a hk
              unfold fillL
              rw[if_neg (by simp;omega)]
              exact ih (k+1) a (by omega)
          exact gen _ i a (Nat.le_refl _)
        rw[he]
        exact hob
      | succ j =>
        have e:i+(j+1)=i+1+j:=by omega
        rw[e]
        have:=h1 j o' (by simpa using hj)
        unfold fillL
        rw[if_pos (by simp;omega)]
        exact this
    · unfold fillL
      rw[if_pos rfl]
      have e:i+(o::l).length=i+1+l.length:=by simp;omega
      rw[e]
      exact h2
def Dep (ops:List Oper) (i:Nat) (k:Nums→Kind):Prop:=∀ s s' : Nums,(∀ j,anc ops i j=true→s j=s' j)→k s=k s'
theorem complete {L:Nat→Bool} (hdep:∀ i,Dep ops i (K i)) (hlt:∀ i j,anc ops i j=true→j<i) (hex:∀ i s,∃ x,ksat (K i s) x)
    (hcl:∀ i j,L i=true→anc ops i j=true→L j=true) (s:Nums) (hs:∀ i,L i=true→ksat (K i s) (s i)) :
    ∀ n,∃ s',(∀ i,L i=true→s' i=s i)∧∀ i,i<n→ksat (K i s') (s' i)
  | 0=>⟨s,fun _ _=>rfl,fun i hi=>absurd hi (Nat.not_lt_zero _)⟩
  | n+1=>by
    obtain⟨s',h1,h2⟩:=complete hdep hlt hex hcl s hs n
    by_cases hL:L n=true
    · refine⟨s',h1,fun i hi=>?_⟩
      by_cases e:i=n
      · subst e
        rw[h1 i hL,hdep i s' s (fun j hj=>h1 j (hcl i j hL hj))]
        exact hs i hL
      · exact h2 i (by omega)
    · obtain⟨x,hx⟩:=hex n s'
      refine⟨fun j=>if j=n then x else s' j,fun i hi=>?_,fun i hi=>?_⟩
      · by_cases e:i=n
        · subst e;exact absurd hi hL
        · simp only[e,if_false];exact h1 i hi
      · have hd:K i (fun j=>if j=n then x else s' j)=K i s':=hdep i _ _ (fun j hj=>by
          have:=hlt i j hj
          have:j≠n:=by omega
          simp only[this,if_false])
        rw[hd]
        by_cases e:i=n
        · subst e;simp only[if_true];exact hx
        · simp only[e,if_false];exact h2 i (by omega)
theorem adds_spec {s:Nums} {w:World}:∀ n,(∀ i,i<n→∀ g∈kadd (K i s) (s i),w0.heap.size≤g∧g<w.heap.size)→(∀ i j,i<n→j<n→i≠j→apart (kadd (K i s) (s i)) (kadd (K j s) (s j))) →
    (adds K s n).Pairwise apart∧∀ x∈adds K s n,∀ g∈x,w0.heap.size≤g∧g<w.heap.size
  | 0,_,_=>by simp[adds]
  | n+1,h1,h2=>by
    obtain⟨p1,p2⟩:=adds_spec n (fun i hi=>h1 i (by omega)) (fun i j hi hj=>h2 i j (by omega) (by omega))
    have mem:∀ m x,x∈adds K s m→∃ i,i<m∧x=kadd (K i s) (s i):=by
      intro m
      induction m with
      | zero=>intro x hx;simp[adds] at hx
      | succ m ih =>
        intro x hx
        unfold adds at hx
        rcases List.mem_cons.1 hx with rfl|hx
        · exact⟨m,by omega,rfl⟩
        · obtain⟨i,hi,e⟩:=ih x hx;exact⟨i,by omega,e⟩
    unfold adds
    refine⟨List.pairwise_cons.2 ⟨fun x hx=>?_,p1⟩,fun x hx=>?_⟩
    · obtain⟨i,hi,rfl⟩:=mem n x hx
      exact h2 n i (by omega) (by omega) (by omega)
    · rcases List.mem_cons.1 hx with rfl|hx
      · exact h1 n (by omega)
      · exact p2 x hx
structure Inv (ops:List Oper) (w0:World) (K:Nat→Nums→Kind) (n:Nat) (a0:Act) (s:Nums) (listed:Array Bool) (a:Act) (w:World):Prop where
  size:listed.size=ops.length
  closed:∀ j o,ops[j]?=some o→listed.getD j false=true→∀ e∈o.after,Region.binds .any e=true→listed.getD e.on false=true
  tail:∀ t,n≤t→listed.getD t false=false
  frame:a=fillL (vals K s) (fun j=>listed.getD j false) (ops.take n) 0 a0
  ext:Below w0.heap.size w0 w
  sat:∀ j,j<n→ksat (K j s) (s j)
  known:∀ j,j<n→listed.getD j false=true→kfact (K j s) (s j) w
  addr:∀ j,j<n→listed.getD j false=true→∀ g∈kadd (K j s) (s j),w0.heap.size≤g∧g<w.heap.size
  away:∀ i j,i<n→j<n→i≠j→listed.getD i false=true→listed.getD j false=true→apart (kadd (K i s) (s i)) (kadd (K j s) (s j))
theorem head_any {n:Nat} {a0:Act} {Q:Exit→Act→World→Prop} {Fin:Nums→Act→(Nat→World→Prop)→List (List Nat)→Prop} (hB:checkB ops fl n=true)
    (hQ:fl=[]∨∀ c a d v w,Q (.panic c) (Act.put a d v) w→Q (.panic c) a w) (hdep:∀ i,Dep ops i (K i)) (hexi:∀ i s,∃ x,ksat (K i s) x)
    (h:∀ s,chain P ops fl w0 K (Fin s) s (ops.take n) 0 a0 (fun _ _=>True) [])
    (hfin:∀ (s:Nums) (a:Act) (w:World),Fin s a (facts K s n) (adds K s n)→Below w0.heap.size w0 w→(∀ j,facts K s n j w)→(adds K s n).Pairwise apart→(∀ x∈adds K s n,∀ g∈x,w0.heap.size≤g) →
      wpAny P .any ops.toArray Q (ops.length - n) ((List.replicate n true++List.replicate (ops.length - n) false).toArray) a w) :
    ∀ (f:Nat) (s:Nums) (listed:Array Bool) (a:Act) (w:World),Inv ops w0 K n a0 s listed a w→((List.range n).filter fun j=>!listed.getD j false).length=f →
      wpAny P .any ops.toArray Q (f+(ops.length - n)) listed a w:=by
  unfold checkB at hB
  simp only[Bool.and_eq_true,decide_eq_true_eq] at hB
  obtain⟨⟨⟨⟨⟨⟨⟨hsel,hn⟩,hback⟩,hdst⟩,hself⟩,htail⟩,hfloat⟩,hseq⟩:=hB
  have hlen:(ops.take n).length=n:=by simp;omega
  have hget:∀ j,j<n→(ops.take n)[j]?=ops[j]?:=fun j hj=>by rw[List.getElem?_take];simp[hj]
  have hdist:∀ (j:Nat) (o:Oper),(ops.take n)[j]?=some o→∀ (k:Nat) (o' : Oper),(ops.take n)[k]?=some o'→j≠k→∀ t,o.dst=some t→o'.dst≠some t:=by
    intro j o hj k o' hk hne t ht
    have hjn:j<n:=by have:=(List.getElem?_eq_some_iff.1 hj).1;omega
    have hkn:k<n:=by have:=(List.getElem?_eq_some_iff.1 hk).1;omega
    rw[hget j hjn] at hj
    rw[hget k hkn] at hk
    have:=List.all_eq_true.1 (List.all_eq_true.1 hdst j (List.mem_range.2 hjn)) k (List.mem_range.2 hkn)
    simp only[hj,hk,ht,Bool.or_eq_true,beq_iff_eq,Bool.and_eq_true,bne_iff_ne] at this
    rcases this with h|h
    · exact absurd h hne
    · exact h.1
  have hlooks:∀ (j:Nat) (o:Oper),ops[j]?=some o→j<n→∀ (k:Nat) (o' : Oper),ops[k]?=some o'→k<n→∀ t,o'.dst=some t→t∈o.looksAt ops.toArray→anc ops j k=true:=by
    intro j o hj hjn k o' hk hkn t ht hmem
    by_cases hjk:j=k
    · subst hjk
      have:o=o':=Option.some.inj (hj.symm.trans hk)
      subst this
      have:=List.all_eq_true.1 hself j (List.mem_range.2 hjn)
      simp only[hj,ht,Bool.not_eq_true'] at this
      have hc:(o.looksAt ops.toArray).contains t=true:=by simpa using hmem
      rw[hc] at this
      cases this
    · have:=List.all_eq_true.1 (List.all_eq_true.1 hdst j (List.mem_range.2 hjn)) k (List.mem_range.2 hkn)
      simp only[hj,hk,ht,Bool.or_eq_true,beq_iff_eq,Bool.and_eq_true] at this
      rcases this with h|h
      · exact absurd h hjk
      · rcases h.2 with h3|h3
        · have hc:(o.looksAt ops.toArray).contains t=true:=by simpa using hmem
          rw[hc] at h3
          cases h3
        · exact h3
  intro f
  induction f with
  | zero =>
    intro s listed a w inv hf
    have hall:∀ j,j<n→listed.getD j false=true:=by
      intro j hj
      cases hl:listed.getD j false with
      | true=>rfl
      | false =>
        have:j∈(List.range n).filter fun j=>!listed.getD j false:=List.mem_filter.2 ⟨List.mem_range.2 hj,by rw[hl];rfl⟩
        rw[List.length_eq_zero_iff.1 hf] at this
        cases this
    have hlist:listed=((List.replicate n true++List.replicate (ops.length - n) false).toArray):=by
      apply Array.ext
      · simp[inv.size];omega
      · intro i h1 h2
        have h3:listed.getD i false=listed[i]:=by simp[h1]
        rw[← h3]
        rcases Nat.lt_or_ge i n with hi|hi
        · rw[hall i hi]
          simp[List.getElem_append,hi]
        · rw[inv.tail i hi]
          simp[List.getElem_append,Nat.not_lt.2 hi]
    obtain⟨_,hF⟩:=chain_at (Fin:=Fin s) (s:=s) (ops.take n) 0 hdist (fun j _ hj=>inv.sat j (by omega)) a0 (h s)
    rw[Nat.zero_add,hlist]
    have hadd:=adds_spec (K:=K) (s:=s) (w0:=w0) (w:=w) n (fun i hi=>inv.addr i hi (hall i hi)) (fun i j hi hj hne=>inv.away i j hi hj hne (hall i hi) (hall j hj))
    refine hfin s a w ?_ inv.ext (fun j=>facts_of n (fun hj=>inv.known j hj (hall j hj))) hadd.1 (fun x hx g hg=>(hadd.2 x hx g hg).1)
    rw[inv.frame]
    rw[hlen,Nat.zero_add] at hF
    rw[fillL_congr (u:=vals K s) (u':=vals K s) (L':=fun _=>true) (ops.take n) 0 a0 (fun j _ hj=>⟨hall j (by omega),fun _=>rfl⟩)]
    exact hF
  | succ f ih =>
    intro s listed a w inv hf
    obtain⟨hobl,_⟩:=chain_at (Fin:=Fin s) (s:=s) (ops.take n) 0 hdist (fun j _ hj=>inv.sat j (by omega)) a0 (h s)
    have hex:∃ m,m<n∧listed.getD m false=false:=by
      cases hl:(List.range n).filter fun j=>!listed.getD j false with
      | nil=>rw[hl] at hf;cases hf
      | cons m l =>
        have hm:m∈(List.range n).filter fun j=>!listed.getD j false:=by rw[hl];simp
        rw[List.mem_filter] at hm
        exact⟨m,List.mem_range.1 hm.1,by simpa using hm.2⟩
    obtain⟨m,⟨hmn,hml⟩,hleast⟩:=exists_least hex
    have hmr:m∈Region.ready .any ops.toArray listed:=by
      rw[mem_ready]
      have hmo:ops[m]?=some (ops[m]'(by omega)):=List.getElem?_eq_getElem (by omega)
      refine⟨getD_in (by rw[inv.size];omega) hml,ops[m]'(by omega),by simp,fun e he hb=>?_⟩
      have hlt:=backB_spec hback hmo e he hb
      cases hle:listed.getD e.on false with
      | true=>rfl
      | false=>have:=hleast e.on ⟨by omega,hle⟩;omega
    have hne:Region.ready .any ops.toArray listed≠[]:=fun h0=>by rw[h0] at hmr;cases hmr
    rw[show f+1+(ops.length - n)=(f+(ops.length - n))+1 by omega]
    have main:∀ i,i∈Region.ready .any ops.toArray listed→i<n →
        (∃ v o,ops.toArray[i]?=some o∧Yields P ops.toArray o v a∧fl.contains i=true∧wpAny P .any ops.toArray Q (f+(ops.length - n)) (listed.setIfInBounds i true) (a.put o.dst v) w) ∨
        (fl.contains i=false∧wpOp P ops.toArray Q i (wpAny P .any ops.toArray Q (f+(ops.length - n)) (listed.setIfInBounds i true)) a w):=by
     intro i hi hin
     obtain⟨hiun,o,ho,hwait⟩:=mem_ready.1 hi
     have ho' : ops[i]?=some o:=by simpa using ho
     have hil:i<ops.length:=(List.getElem?_eq_some_iff.1 ho').1
     have hancl:=anc_listed (L:=fun j=>listed.getD j false) inv.closed i o ho' hwait
     have hiu:listed.getD i false=false:=getD_both hiun
     have hanclt:∀ j,anc ops i j=true→j<i:=fun j hj=>by
       have:=anc_listed (ops:=ops) (L:=fun j=>decide (j<i)) (fun j o' hj' hL e he hb=>by
         have:=backB_spec hback hj' e he hb
         simp only[decide_eq_true_eq] at hL ⊢
         omega) i o ho' (fun e he hb=>by simpa using backB_spec hback ho' e he hb) j hj
       simpa using this
     have hob:=hobl i o (by rw[hget i hin];exact ho')
     rw[Nat.zero_add] at hob
     have hag:Agree (o.looksAt ops.toArray) (fillL (vals K s) (fun m=>decide (m<i)) (ops.take n) 0 a0) a:=by
       rw[inv.frame]
       refine fillL_agree _ 0 a0 a0 (fun _ _=>rfl) (fun j oj hj hdiff t ht hmem=>?_)
       have hjn:j<n:=by have:=(List.getElem?_eq_some_iff.1 hj).1;omega
       rw[hget j hjn] at hj
       have ha:=hlooks i o ho' hin j oj hj hjn t ht hmem
       have h1:=hancl j ha
       have h2:=hanclt j ha
       simp only[Nat.zero_add] at hdiff
       simp only[h1,h2,decide_true,ne_eq,not_true_eq_false] at hdiff
     have hsel' : ∀ cs b,o.op≠.select cs b:=fun cs b=>Region.noSelect_spec hsel i o cs b ho
     have hex:=exec_agree (ops:=ops) hsel' hag
     have hwa:=wanted_agree (ops:=ops) hag
     have hfacts:∀ j,anc ops i j=true→facts K s i j w:=fun j hj=>facts_of i (fun hji=>inv.known j (by omega) (hancl j hj))
     have hne_of:∀ j,listed.getD j false=true→j≠i:=fun j hl e=>by subst e;simp only[hiu] at hl;cases hl
     have next:∀ (s' : Nums) (w' : World),(∀ j,listed.getD j false=true→s' j=s j)→(∀ j,listed.getD j false=true→K j s'=K j s)→K i s'=K i s→(∀ j,j<n→ksat (K j s') (s' j))→Below w.heap.size w w'→kfact (K i s) (s' i) w' →
         (∀ g∈kadd (K i s) (s' i),w.heap.size≤g∧g<w'.heap.size) →
         wpAny P .any ops.toArray Q (f+(ops.length - n)) (listed.setIfInBounds i true) (a.put o.dst (kval (K i s) (s' i))) w':=by
       intro s' w' hs' hK' hKi hsat hb hV hA
       refine ih s' _ _ w' ⟨by simp[inv.size],fun j oj hj hl e he hb=>?_,fun t ht=>?_,?_,inv.ext.trans (hb.mono inv.ext.size),hsat,fun j hj hl=>?_,fun j hj hl=>?_,fun j k hj hk hne hlj hlk=>?_⟩ ?_
       · by_cases hij:i=j
         · subst hij
           have:oj=o:=Option.some.inj (hj.symm.trans ho')
           subst this
           exact getD_set_true (hwait e he hb)
         · rw[getD_set_ne false hij] at hl
           exact getD_set_true (inv.closed j oj hj hl e he hb)
       · rw[getD_set_ne false (by omega)];exact inv.tail t ht
       · have h1:=fillL_add (u:=vals K s') (L:=fun j=>listed.getD j false) (ops.take n) 0 a0 i o (by rw[hget i hin];exact ho') (by rw[Nat.zero_add];exact hiu)
           (fun j o' hj hne=>hdist i o (by rw[hget i hin];exact ho') j o' hj (Ne.symm hne))
         rw[Nat.zero_add] at h1
         rw[fillL_congr (u:=vals K s') (u':=vals K s') (L':=fun j=>if j=i then true else listed.getD j false) (ops.take n) 0 a0 (fun j _ _=>⟨by
           by_cases hij:j=i
           · subst hij;simp[inv.size,hil]
           · rw[getD_set_ne false (Ne.symm hij),if_neg hij],fun _=>rfl⟩),h1]
         have hvi:vals K s' i=kval (K i s) (s' i):=by unfold vals;rw[hKi]
         rw[hvi,inv.frame,fillL_congr (u:=vals K s) (u':=vals K s') (L':=fun j=>listed.getD j false) (ops.take n) 0 a0 (fun j _ _=>⟨rfl,fun hL=>by
           unfold vals
           rw[hK' j hL,hs' j hL]⟩)]
       · by_cases hij:j=i
         · subst hij;rw[hKi];exact hV
         · rw[getD_set_ne false (Ne.symm hij)] at hl
           rw[hs' j hl,hK' j hl]
           have hoj:ops[j]?=some (ops[j]'(by omega)):=List.getElem?_eq_getElem (by omega)
           have hoblj:=hobl j _ (by rw[hget j hj];exact hoj)
           rw[Nat.zero_add] at hoblj
           have hkn:=inv.known j hj hl
           revert hoblj hkn
           unfold obl kfact
           cases K j s with
           | rel v S V A=>exact fun hoblj hkn=>hoblj.2.2.2.1 _ _ _ hkn hb
           | _=>exact fun _ _=>trivial
       · by_cases hij:j=i
         · subst hij;rw[hKi];exact fun g hg=>⟨Nat.le_trans inv.ext.size (hA g hg).1,(hA g hg).2⟩
         · rw[getD_set_ne false (Ne.symm hij)] at hl
           rw[hs' j hl,hK' j hl]
           exact fun g hg=>⟨(inv.addr j hj hl g hg).1,Nat.lt_of_lt_of_le (inv.addr j hj hl g hg).2 hb.size⟩
       · by_cases hij:j=i
         · subst hij
           rw[getD_set_ne false hne] at hlk
           rw[hKi,hs' k hlk,hK' k hlk]
           intro g hg g' hg' e
           have:=(hA g hg).1
           have:=(inv.addr k hk hlk g' hg').2
           omega
         · rw[getD_set_ne false (Ne.symm hij)] at hlj
           by_cases hik:k=i
           · subst hik
             rw[hKi,hs' j hlj,hK' j hlj]
             intro g hg g' hg' e
             have:=(hA g' hg').1
             have:=(inv.addr j hj hlj g hg).2
             omega
           · rw[getD_set_ne false (Ne.symm hik)] at hlk
             rw[hs' j hlj,hK' j hlj,hs' k hlk,hK' k hlk]
             exact inv.away j k hj hk hne hlj hlk
       · have:=filter_flip (List.range n) List.nodup_range i (List.mem_range.2 hin) (p:=fun j=>!listed.getD j false) (q:=fun j=>!(listed.setIfInBounds i true).getD j false) (by simp only[hiu];rfl) (by simp[inv.size,hil])
           (fun j hj=>by simp only[getD_set_ne false (Ne.symm hj)])
         omega
     have same:∀ w',Below w.heap.size w w'→kfact (K i s) (s i) w'→(∀ g∈kadd (K i s) (s i),w.heap.size≤g∧g<w'.heap.size) →
         wpAny P .any ops.toArray Q (f+(ops.length - n)) (listed.setIfInBounds i true) (a.put o.dst (kval (K i s) (s i))) w':=fun w' hb hV hA=>next s w' (fun _ _=>rfl) (fun _ _=>rfl) rfl inv.sat hb hV hA
     have hbase:∀ j k,listed.getD j false=true→anc ops j k=true→listed.getD k false=true:=fun j k hl ha=>by
       rcases Nat.lt_or_ge j ops.length with hlt|hge
       · have hoj:ops[j]?=some (ops[j]'hlt):=List.getElem?_eq_getElem hlt
         exact anc_listed (L:=fun j=>listed.getD j false) inv.closed j _ hoj (inv.closed j _ hoj hl) k ha
       · rw[inv.tail j (by omega)] at hl;cases hl
     revert hob same next
     unfold obl kval kfact kadd
     cases hK:K i s with
     | skip =>
       intro hob next same
       have hnx:=same w (Below.refl _ _) trivial (by simp)
       by_cases hfl:fl.contains i=true
       · exact .inl ⟨undef,o,ho,.inr ⟨by rw[← hwa];exact hob,rfl⟩,hfl,hnx⟩
       · refine .inr ⟨by simpa using hfl,?_⟩
         unfold wpOp
         simp only[ho]
         rw[← hwa,hob]
         simp only[Bool.false_eq_true,if_false]
         exact hnx
     | val v =>
       intro hob next same
       have hnx:∀ w',Below w.heap.size w w'→wpAny P .any ops.toArray Q (f+(ops.length - n)) (listed.setIfInBounds i true) (a.put o.dst v) w':=fun w' hb=>same w' hb trivial (by simp)
       rcases hob.2 with hfree|⟨hfl,hr⟩
       · by_cases hfl:fl.contains i=true
         · exact .inl ⟨v,o,ho,.inl ⟨by rw[← hwa];exact hob.1,fun w=>by rw[← hex];exact hfree w⟩,hfl,hnx w (Below.refl _ _)⟩
         · refine .inr ⟨by simpa using hfl,?_⟩
           unfold wpOp
           simp only[ho]
           rw[← hwa,hob.1]
           simp only[if_true]
           refine .inl (wp_of_kyp (R:=fun u w'=>u=v∧w'=w) (kyp_congr hex.symm (by unfold kyp;rw[hfree w];exact⟨rfl,rfl⟩)) (fun u w' hu=>?_))
           rw[hu.1,hu.2]
           exact hnx w (Below.refl _ _)
       · refine .inr ⟨hfl,?_⟩
         unfold wpOp
         simp only[ho]
         rw[← hwa,hob.1]
         simp only[if_true]
         refine .inl (wp_of_kyp (kyp_congr hex.symm (hr w inv.ext hfacts)) (fun u w' hu=>?_))
         rw[hu.1]
         exact hnx w' hu.2
     | rel v S V A =>
       intro hob next same
       obtain⟨hfl,hwt,_,_,hr⟩:=hob
       refine .inr ⟨hfl,?_⟩
       unfold wpOp
       simp only[ho]
       rw[← hwa,hwt]
       simp only[if_true]
       refine .inl (wp_of_kyp (kyp_congr hex.symm (hr w inv.ext hfacts)) (fun u w' hu=>?_))
       obtain⟨x,rfl,hS,hV,hb,hA⟩:=hu
       have hK1:∀ j,(if j=i then true else listed.getD j false)=true→K j (fun j=>if j=i then x else s j)=K j s:=fun j hj=>hdep j _ _ (fun k hk=>by
         have:listed.getD k false=true:=by
           by_cases e:j=i
           · subst e;exact hancl k hk
           · rw[if_neg e] at hj;exact hbase j k hj hk
         simp only[hne_of k this,if_false])
       obtain⟨s2,h1,h2⟩:=complete (K:=K) (ops:=ops) (L:=fun j=>if j=i then true else listed.getD j false) hdep
         (fun j k hk=>by
           rcases Nat.lt_or_ge j ops.length with hlt|hge
           · have hoj:ops[j]?=some (ops[j]'hlt):=List.getElem?_eq_getElem hlt
             have:=anc_listed (ops:=ops) (L:=fun m=>decide (m<j)) (fun m o' hm hL e he hb=>by
               have:=backB_spec hback hm e he hb
               simp only[decide_eq_true_eq] at hL ⊢
               omega) j _ hoj (fun e he hb=>by simpa using backB_spec hback hoj e he hb) k hk
             simpa using this
           · have hm:(masks ops).length=ops.length:=by
               have gen:∀ (l:List Oper) (acc:List Nat),(foldM l acc).length=acc.length+l.length:=by
                 intro l
                 induction l with
                 | nil=>intro acc;rfl
                 | cons o l ih=>intro acc;rw[foldM_cons,ih];simp;omega
               exact (gen ops []).trans (by simp)
             unfold anc at hk
             rw[List.getD_eq_getElem?_getD,List.getElem?_eq_none (by omega)] at hk
             simp at hk) hexi
         (fun j k hj hk=>by
           show (if k=i then true else listed.getD k false)=true
           by_cases e:j=i
           · subst e
             have:=hancl k hk
             simp only[hne_of k this,if_false,this]
           · simp only[e,if_false] at hj
             have:=hbase j k hj hk
             simp only[hne_of k this,if_false,this]) (fun j=>if j=i then x else s j)
         (fun j hj=>by
           rw[hK1 j hj]
           by_cases e:j=i
           · subst e;rw[hK];simp only[if_true];exact hS
           · simp only[e,if_false] at hj ⊢
             exact inv.sat j (by
               rcases Nat.lt_or_ge j n with h|h
               · exact h
               · rw[inv.tail j h] at hj;cases hj)) n
       have hx:s2 i=x:=by rw[h1 i (by simp)];simp
       have hls:∀ j,listed.getD j false=true→s2 j=s j:=fun j hl=>by
         have:=hne_of j hl
         rw[h1 j (by simp only[this,if_false,hl])];simp only[this,if_false]
       have hdep2:∀ j,(if j=i then true else listed.getD j false)=true→K j s2=K j s:=fun j hj=>hdep j _ _ (fun k hk=>by
         have:listed.getD k false=true:=by
           by_cases e:j=i
           · subst e;exact hancl k hk
           · rw[if_neg e] at hj;exact hbase j k hj hk
         exact hls k this)
       have:=next s2 w' hls (fun j hl=>hdep2 j (by simp only[hne_of j hl,if_false,hl])) ((hdep2 i (by simp)).trans hK) h2 hb
       simp only[hx] at this
       exact this hV hA
    by_cases hfr:∃ i,i∈Region.ready .any ops.toArray listed∧i<n∧fl.contains i=true
    · obtain⟨i,hi,hin,hfl⟩:=hfr
      rcases main i hi hin with ⟨v,o,ho,hy,_,hnx⟩|⟨hno,_⟩
      · have hfl' : i∈fl:=by simpa using hfl
        refine wpAny_first ho (Region.noSelect_spec hsel) (fun c a w=>?_) _ listed a w (fun j oj hoj hji hjun hnot=>?_) hi hy hnx
        · rcases hQ with h0|h0
          · rw[h0] at hfl';cases hfl'
          · exact h0 c a o.dst v w
        · have h1:=List.all_eq_true.1 hfloat i hfl'
          simp only[Bool.and_eq_true] at h1
          have hoj' : ops[j]?=some oj:=by simpa using hoj
          have ho' : ops[i]?=some o:=by simpa using ho
          have h2:=List.all_eq_true.1 h1.2 j (List.mem_range.2 (List.getElem?_eq_some_iff.1 hoj').1)
          simp only[ho',hoj',Bool.or_eq_true,beq_iff_eq] at h2
          rcases h2 with (h2|h2)|h2|h2
          · exact absurd h2.symm hji
          · obtain⟨_,o1,ho1,hwait⟩:=mem_ready.1 hi
            have h3:=anc_listed (L:=fun j=>listed.getD j false) inv.closed i o1 (by simpa using ho1) hwait j h2
            simp only[getD_both hjun] at h3
            cases h3
          · obtain⟨e,he,h3⟩:=Array.any_eq_true'.1 h2
            simp only[Bool.and_eq_true,beq_iff_eq] at h3
            exact absurd h3.2 (hnot e he h3.1)
          · exact h2
      · rw[hno] at hfl;cases hfl
    · refine⟨fun h0=>absurd h0 hne,fun i hi=>?_⟩
      have hin:i<n:=by
        rcases Nat.lt_or_ge i n with h1|h1
        · exact h1
        · exfalso
          obtain⟨hiun,o,ho,hwait⟩:=mem_ready.1 hi
          have ho' : ops[i]?=some o:=by simpa using ho
          have hil:i<ops.length:=(List.getElem?_eq_some_iff.1 ho').1
          have hancl:=anc_listed (L:=fun j=>listed.getD j false) inv.closed i o ho' hwait
          have h2:=List.all_eq_true.1 htail i (List.mem_range.2 hil)
          simp only[Bool.or_eq_true,decide_eq_true_eq] at h2
          rcases h2 with h2|h2
          · omega
          · have h3:=List.all_eq_true.1 h2 m (List.mem_range.2 (by omega))
            simp only[Bool.or_eq_true,Bool.and_eq_true] at h3
            rcases h3 with h3|⟨h3,_⟩
            · have h4:=hancl m h3
              simp only[hml] at h4
              cases h4
            · exact hfr ⟨m,hmr,hmn,h3⟩
      rcases main i hi hin with ⟨v,o,ho,hy,hfl,hnx⟩|⟨_,h1⟩
      · exact absurd ⟨i,hi,hin,hfl⟩ hfr
      · exact h1
end
theorem wp_region_q {P:Program} {id:Nat} {Q:Exit→Act→World→Prop} {a:Act} {w:World} {l:List Oper} (fl:List Nat) (n:Nat) (K:Nat→Nums→Kind) (hm:P.follows .mixedOrders=true) (hB:checkB l fl n=true)
    (hQ:fl=[]∨∀ c a d v w,Q (.panic c) (Act.put a d v) w→Q (.panic c) a w) (hdep:∀ i,Dep l i (K i)) (hexi:∀ i s,∃ x,ksat (K i s) x)
    (h:∀ s,chain P l fl w K (fun a' F G=>∀ w',Below w.heap.size w w'→(∀ j,F j w')→G.Pairwise apart→(∀ x∈G,∀ g∈x,w.heap.size≤g)→wpList P l.toArray Q (l.drop n) a' w') s (l.take n) 0 a (fun _ _=>True) []) :
    (Code.region id l.toArray true).wp P Q a w:=by
  refine wp_region_any hm ?_
  have hB':=hB
  unfold checkB at hB'
  simp only[Bool.and_eq_true,decide_eq_true_eq] at hB'
  obtain⟨⟨⟨⟨⟨⟨⟨hsel,hn⟩,hback⟩,_⟩,_⟩,_⟩,_⟩,hseq⟩:=hB'
  have hancn:∀ j k,anc l j k=true→k<j:=fun j k hk=>by
    rcases Nat.lt_or_ge j l.length with hlt|hge
    · have hoj:l[j]?=some (l[j]'hlt):=List.getElem?_eq_getElem hlt
      have:=anc_listed (ops:=l) (L:=fun m=>decide (m<j)) (fun m o' hm hL e he hb=>by
        have:=backB_spec hback hm e he hb
        simp only[decide_eq_true_eq] at hL ⊢
        omega) j _ hoj (fun e he hb=>by simpa using backB_spec hback hoj e he hb) k hk
      simpa using this
    · have hm:(masks l).length=l.length:=by
        have gen:∀ (l:List Oper) (acc:List Nat),(foldM l acc).length=acc.length+l.length:=by
          intro l
          induction l with
          | nil=>intro acc;rfl
          | cons o l ih=>intro acc;rw[foldM_cons,ih];simp;omega
        exact (gen l []).trans (by simp)
      unfold anc at hk
      rw[List.getD_eq_getElem?_getD,List.getElem?_eq_none (by omega)] at hk
      simp at hk
  obtain⟨s0,_,hs0⟩:=complete (K:=K) (ops:=l) (L:=fun _=>false) hdep hancn hexi (fun _ _ h=>by cases h) (fun _ _=>0) (fun _ h=>by cases h) n
  have:=head_any (Q:=Q) (a0:=a) hB hQ hdep hexi h (fun s a' w' hF hb hf hp hg=>by
    have hdl:(l.drop n).length=l.length - n:=by simp
    have:=wpAny_of_seq (md:=.any) (Q':=Q) (l.drop n) n ((List.replicate n true++List.replicate (l.length - n) false).toArray) a' w' (fun j=>by simp[List.getElem?_drop]) (by rw[hdl];exact hseq) (hF w' hb hf hp hg)
    rwa [hdl] at this) n s0 (Array.replicate l.toArray.size false) a { w with drawn:=w.drawn+1 } ?_ ?_
  · rw[show n+(l.length - n)=l.toArray.size by simp;omega] at this
    exact this
  · refine⟨by simp,fun j o _ hl=>(by rw[getD_replicate_false] at hl;cases hl),fun t _=>getD_replicate_false _ _,?_,⟨rfl,rfl,rfl,Nat.le_refl _,fun _ _=>rfl⟩,hs0,fun j _ hl=>(by rw[getD_replicate_false] at hl;cases hl),fun j _ hl=>(by rw[getD_replicate_false] at hl;cases hl),fun j _ _ _ _ hl=>(by rw[getD_replicate_false] at hl;cases hl)⟩
    have gen:∀ (l' : List Oper) (i:Nat) (a:Act),fillL (vals K s0) (fun j=>(Array.replicate l.toArray.size false).getD j false) l' i a=a:=by
      intro l'
      induction l' with
      | nil=>intro i a;rfl
      | cons o l' ih =>
        intro i a
        unfold fillL
        rw[getD_replicate_false]
        exact ih (i+1) a
    exact (gen _ 0 a).symm
  · have:((List.range n).filter fun j=>!(Array.replicate l.toArray.size false).getD j false)=List.range n:=by
      apply List.filter_eq_self.2
      intro j _
      rw[getD_replicate_false]
      rfl
    rw[this]
    simp
end Sx
end Go.Proofs.YtiiacjladnljhaaGreatDoor
