/- Part 32 of the proof: SyF, WtA -/
import Derived.Test.YtiiacjladnljhaaGreatDoorM17
import Derived.Test.YtiiacjladnljhaaGreatDoorM28
import Derived.Test.YtiiacjladnljhaaGreatDoorM19
import Derived.Test.YtiiacjladnljhaaGreatDoorM31
set_option linter.unusedSimpArgs false
set_option linter.unusedVariables false
namespace Go.Proofs.YtiiacjladnljhaaGreatDoor
open Go Go.RowKit Go.BigFrame
namespace Sx
theorem put_other (a:Act) (d:Option Tmp) (v:Value) {t:Nat} (h:d≠some t):(a.put d v).tmps[t]?=a.tmps[t]?:=by
  cases d with
  | none=>rfl
  | some d =>
    simp only[Act.put]
    rw[Array.getElem?_setIfInBounds]
    rw[if_neg (fun e=>h (by rw[e]))]
theorem wpOp_keep {P:Program} {ops:Array Oper} {Q:Exit→Act→World→Prop} {i:Nat} {o:Oper} {a:Act} {w:World} {K:Act→World→Prop} (ho:ops[i]?=some o) (h:wpOp P ops Q i K a w) :
    wpOp P ops Q i (fun a' w'=>K a' w'∧∀ t,o.dst≠some t→a'.tmps[t]?=a.tmps[t]?) a w:=by
  unfold wpOp at *
  simp only[ho] at h ⊢
  split at h
  · rename_i hw
    rw[if_pos hw]
    refine h.imp (fun h=>?_) id
    unfold Oper.wp at *
    generalize (execOp a.eval o).run P w=r at *
    cases r with
    | ok n w' =>
      cases n with
      | value v=>exact⟨h,fun t ht=>put_other _ _ _ ht⟩
      | skip=>exact⟨h,fun t ht=>put_other _ _ _ ht⟩
      | defer d=>exact⟨h,fun t ht=>put_other _ _ _ ht⟩
      | enter f args =>
        refine Calls.mono h (fun e w'' he=>?_)
        cases e with
        | returned v=>exact⟨he,fun t ht=>put_other _ _ _ ht⟩
        | panicked c=>exact he
        | outgrown=>exact he
      | row r args=>exact Rows.mono h (fun v w'' he=>⟨he,fun t ht=>put_other _ _ _ ht⟩)
      | _=>exact h
    | halt x w'=>cases x<;>exact h
  · rename_i hw
    rw[if_neg hw]
    exact⟨h,fun t ht=>put_other _ _ _ ht⟩
def dps (ops:List Oper) (i:Nat):List Nat:=match nth ops i with
  | none=>[]
  | some o=>(o.after.toList.filter fun e=>Region.binds .any e).map fun e=>e.on
def tdst (ops:List Oper) (i:Nat):Nat:=match nth ops i with
  | some ⟨some d,_,_,_,_,_⟩=>d
  | _=>0
def hasDst (ops:List Oper) (i:Nat):Bool:=match nth ops i with
  | some ⟨some _,_,_,_,_,none⟩=>true
  | _=>false
def tvs (ops:List Oper) (T:List (Nat × Value)):List Nat→List (Nat × Value)
  | []=>[]
  | j::r=>match lk T j with
    | some v=>(tdst ops j,v)::tvs ops T r
    | none=>tvs ops T r
theorem tvs_kn {ops:List Oper} {T:List (Nat × Value)} {a:Act}:∀ {l:List Nat},(∀ j∈l,∀ v,lk T j=some v→a.tmps[tdst ops j]?=some v)→Kn (tvs ops T l) a
  | [],_,t,v,h=>by cases h
  | j::r,h,t,v,ht=>by
    have ih:=tvs_kn (ops:=ops) (T:=T) (a:=a) (l:=r) (fun k hk=>h k (by simp[hk]))
    unfold tvs at ht
    cases hl:lk T j with
    | none=>rw[hl] at ht;exact ih t v ht
    | some u =>
      rw[hl] at ht
      unfold lk at ht
      cases hb:Nat.beq (tdst ops j) t with
      | true =>
        rw[hb] at ht
        have e:tdst ops j=t:=Nat.eq_of_beq_eq_true hb
        cases ht
        rw[← e];exact h j (by simp) _ hl
      | false=>rw[hb] at ht;exact ih t v ht
theorem lk_cons {k:Nat} {u:Value} {r:List (Nat × Value)} {t:Nat}:lk ((k,u)::r) t=bif Nat.beq k t then some u else lk r t:=rfl
theorem lk_app {K' : List (Nat × Value)} {t:Nat}:∀ {K:List (Nat × Value)},lk (K++K') t=(lk K t).or (lk K' t)
  | []=>rfl
  | (k,u)::r=>by
    rw[List.cons_append,lk_cons,lk_cons]
    cases Nat.beq k t with
    | true=>rfl
    | false=>exact lk_app
theorem kn_app {K K' : List (Nat × Value)} {a:Act} (h1:Kn K a) (h2:Kn K' a):Kn (K++K') a:=by
  intro t v ht
  rw[lk_app] at ht
  cases h:lk K t with
  | some u=>rw[h] at ht;cases ht;exact h1 t v h
  | none=>rw[h] at ht;exact h2 t v ht
def chkM (ops:List Oper) (main ts:List Nat) (n:Nat):Bool :=
  ((List.range ops.length).all fun i=>(main.contains i != ts.contains i) && (dps ops i).all fun j=>decide (j<i)) &&
  (ts.all fun i=>hasDst ops i && decide (tdst ops i<n) && (dps ops i).all (fun j=>ts.contains j) && (List.range ops.length).all fun j=>decide (j=i) || ((nth ops j).map (fun o=>decide (o.dst≠some (tdst ops i)))).getD true) &&
  (List.range (main.length - 1)).all (fun k=>(dps ops (main.getD (k+1) 0)).contains (main.getD k 0)) && main.all fun i=>decide (i<ops.length)
section
variable (P:Program) (w0:World) (gs:List Nat) (n:Nat) (ops:List Oper) (Q:Exit→Act→World→Prop)
inductive Tls (K0:List (Nat × Value)) (Lc:List Ent) (T:List (Nat × Value)):List (Nat × Value)→Prop
  | nil:Tls K0 Lc T []
  | cons {i:Nat} {v:Value} {r:List (Nat × Value)} {o:Oper}:nth ops i=some o→Does P w0 gs (tvs ops T (dps ops i)++K0) Lc o.op o.type v→Tls K0 Lc T r→Tls K0 Lc T ((i,v)::r)
variable (main:List Nat) (T:List (Nat × Value))
def WM (done:Nat) (K:List (Nat × Value)) (L:List Ent):Prop :=
  ∀ (f:Nat) (S:List Bool) (a:Act) (w:World),S.length=ops.length→S.count false≤f→(∀ k m,main[k]?=some m→(S[m]?=some true↔k<done))→(∀ i,S[i]?=some true→∀ j∈dps ops i,S[j]?=some true)→a.defers=[]→a.tmps.size=n→Kn K a →
    (∀ i v,lk T i=some v→S[i]?=some true→a.tmps[tdst ops i]?=some v)→Me w0 gs L w→wpAny P .any ops.toArray Q f S.toArray a w
def MR (o:Oper) (K:List (Nat × Value)) (done:Nat):Act→World→Prop:=fun a w=>a.defers=[]∧a.tmps.size=n∧∃ K' L,WM P w0 gs n ops Q main T done (K'++K) L∧Kn K' a∧Me w0 gs L w∧(∀ d,o.dst=some d→(∃ v,lk K' d=some v)∨lk K d=none)
end
theorem ready_spec {ops:List Oper} {S:List Bool} (hl:S.length=ops.length) {i:Nat} (h:i∈Region.ready .any ops.toArray S.toArray):i<ops.length∧S[i]?=some false∧∀ j∈dps ops i,S[j]?=some true:=by
  unfold Region.ready at h
  rw[List.mem_filter] at h
  obtain⟨h1,h2⟩:=h
  have hi:i<ops.length:=by simpa using List.mem_range.1 h1
  rw[Bool.and_eq_true] at h2
  obtain⟨h2,h3⟩:=h2
  have hiS:i<S.length:=by omega
  refine⟨hi,?_,fun j hj=>?_⟩
  · rw[List.getElem?_eq_getElem hiS]
    simp only[Array.getD_eq_getD_getElem?,List.getElem?_toArray,List.getElem?_eq_getElem hiS] at h2
    simpa using h2
  · unfold dps at hj
    have ho:nth ops i=some ops[i]:=by rw[nth_eq,List.getElem?_eq_getElem hi]
    rw[ho] at hj
    have ho2:ops.toArray[i]?=some ops[i]:=by simp[hi]
    rw[ho2] at h3
    simp only[Option.map_some,Option.getD_some,Array.all_eq_true'] at h3
    obtain⟨e,he,rfl⟩:=List.mem_map.1 hj
    obtain⟨he1,he2⟩:=List.mem_filter.1 he
    have:=h3 e (by simpa using he1)
    rw[he2] at this
    simp only[Bool.not_true,Bool.false_or] at this
    simp only[Array.getD_eq_getD_getElem?,List.getElem?_toArray] at this
    cases hS:S[e.on]? with
    | none=>rw[hS] at this;simp at this
    | some b=>rw[hS] at this;simp at this;rw[this]
theorem ready_none {ops:List Oper} {S:List Bool} (hl:S.length=ops.length) (hac:∀ i,i<ops.length→∀ j∈dps ops i,j<i) (h:Region.ready .any ops.toArray S.toArray=[]):∀ i,i<ops.length→S[i]?=some true:=by
  intro i
  induction i using Nat.strongRecOn with
  | ind i ih =>
    intro hi
    have hiS:i<S.length:=by omega
    cases hb:S[i] with
    | true=>rw[List.getElem?_eq_getElem hiS,hb]
    | false =>
      exfalso
      have hm:i∈Region.ready .any ops.toArray S.toArray:=by
        unfold Region.ready
        rw[List.mem_filter]
        refine⟨by simpa using hi,?_⟩
        rw[Bool.and_eq_true]
        refine⟨by simp only[Array.getD_eq_getD_getElem?,List.getElem?_toArray,List.getElem?_eq_getElem hiS,hb];rfl,?_⟩
        have ho2:ops.toArray[i]?=some ops[i]:=by simp[hi]
        rw[ho2]
        simp only[Option.map_some,Option.getD_some,Array.all_eq_true']
        intro e he
        cases hbd:Region.binds .any e with
        | false=>rfl
        | true =>
          have hj:e.on∈dps ops i:=by
            unfold dps
            have ho:nth ops i=some ops[i]:=by rw[nth_eq,List.getElem?_eq_getElem hi]
            rw[ho]
            exact List.mem_map.2 ⟨e,List.mem_filter.2 ⟨by simpa using he,hbd⟩,rfl⟩
          have hlt:=hac i hi _ hj
          have:=ih e.on hlt (by omega)
          simp only[Bool.not_true,Bool.false_or,Array.getD_eq_getD_getElem?,List.getElem?_toArray,this]
          rfl
      rw[h] at hm
      cases hm
theorem lk_mem {T:List (Nat × Value)} {i:Nat}:(∃ v,lk T i=some v)↔i∈T.map Prod.fst:=by
  induction T with
  | nil=>simp[lk]
  | cons p r ih =>
    obtain⟨k,u⟩:=p
    rw[lk_cons]
    cases hb:Nat.beq k i with
    | true =>
      have e:k=i:=Nat.eq_of_beq_eq_true hb
      simp[e]
    | false =>
      have e:¬ i=k:=fun e=>by subst e;rw[Nat.beq_refl] at hb;cases hb
      simp only[cond_false,ih,List.map_cons,List.mem_cons,e,false_or]
theorem Tls.at {P:Program} {w0:World} {gs:List Nat} {ops:List Oper} {K0:List (Nat × Value)} {Lc:List Ent} {T:List (Nat × Value)} {i:Nat} {v:Value}:∀ {R:List (Nat × Value)},Tls P w0 gs ops K0 Lc T R→lk R i=some v→∃ o,nth ops i=some o∧Does P w0 gs (tvs ops T (dps ops i)++K0) Lc o.op o.type v
  | _,.nil,h=>by cases h
  | (k,u)::r,.cons h1 h2 h3,h=>by
    rw[lk_cons] at h
    cases hb:Nat.beq k i with
    | true =>
      rw[hb] at h
      have e:k=i:=Nat.eq_of_beq_eq_true hb
      subst e
      cases h
      exact⟨_,h1,h2⟩
    | false=>rw[hb] at h;exact h3.at h
theorem count_set {S:List Bool} {i f:Nat} (h:S[i]?=some false) (hc:S.count false≤f+1):(S.set i true).count false≤f:=by
  induction S generalizing i f with
  | nil=>cases h
  | cons b r ih =>
    cases i with
    | zero =>
      have e:b=false:=by simpa using h
      subst e
      simp only[List.set_cons_zero,List.count_cons] at hc ⊢
      simp at hc ⊢
      omega
    | succ i =>
      have h' : r[i]?=some false:=by simpa using h
      have h0:0<r.count false:=List.count_pos_iff.2 (List.mem_of_getElem? h')
      simp only[List.set_cons_succ,List.count_cons] at hc ⊢
      cases b with
      | true=>simp at hc ⊢;exact ih h' hc
      | false =>
        simp at hc ⊢
        have:=ih (f:=r.count false - 1) h' (by omega)
        omega
section
variable {P:Program} {w0:World} {gs:List Nat} {n:Nat} {ops:List Oper} {Q:Exit→Act→World→Prop} {main:List Nat} {T K0 K:List (Nat × Value)} {Lc L:List Ent} {done:Nat}
structure Stg (n:Nat) (w0:World) (gs:List Nat) (ops:List Oper) (main:List Nat) (T:List (Nat × Value)) (done:Nat) (K:List (Nat × Value)) (L:List Ent) (f:Nat) (S:List Bool) (a:Act) (w:World):Prop where
  len:S.length=ops.length
  cnt:S.count false≤f
  mn:∀ k m,main[k]?=some m→(S[m]?=some true↔k<done)
  cl:∀ i,S[i]?=some true→∀ j∈dps ops i,S[j]?=some true
  df:a.defers=[]
  sz:a.tmps.size=n
  kn:Kn K a
  tl:∀ i v,lk T i=some v→S[i]?=some true→a.tmps[tdst ops i]?=some v
  me:Me w0 gs L w
structure Chk (ops:List Oper) (main ts:List Nat) (n:Nat):Prop where
  one:∀ i,i<ops.length→(main.contains i≠ts.contains i)
  ac:∀ i,i<ops.length→∀ j∈dps ops i,j<i
  dst:∀ i∈ts,hasDst ops i=true∧tdst ops i<n
  tdep:∀ i∈ts,∀ j∈dps ops i,j∈ts
  apart:∀ i∈ts,∀ j o,nth ops j=some o→j≠i→o.dst≠some (tdst ops i)
  chain:∀ k m m',main[k]?=some m→main[k+1]?=some m'→m∈dps ops m'
theorem chkM.spec {ts:List Nat} (h:chkM ops main ts n=true):Chk ops main ts n:=by
  unfold chkM at h
  simp only[Bool.and_eq_true,List.all_eq_true,List.mem_range,bne_iff_ne,decide_eq_true_eq,Bool.or_eq_true,List.contains_iff_mem] at h
  obtain⟨⟨⟨h1,h2⟩,h3⟩,h4⟩:=h
  refine⟨fun i hi=>?_,fun i hi=>(h1 i hi).2,fun i hi=>(h2 i hi).1.1,fun i hi=>(h2 i hi).1.2,fun i hi j o ho hne=>?_,fun k m m' hm hm'=>?_⟩
  · exact (h1 i hi).1
  · have hj:j<ops.length:=by
      rcases Nat.lt_or_ge j ops.length with h|h
      · exact h
      · rw[nth_eq,List.getElem?_eq_none h] at ho;cases ho
    rcases (h2 i hi).2 j hj with e|e
    · exact absurd e hne
    · rw[ho] at e
      simpa using e
  · have hk:k<main.length - 1:=by
      have:k+1<main.length:=by
        rcases Nat.lt_or_ge (k+1) main.length with h|h
        · exact h
        · rw[List.getElem?_eq_none h] at hm';cases hm'
      omega
    have:=h3 k hk
    simpa [List.getD,hm,hm'] using this
theorem cl_set {ops:List Oper} {S:List Bool} {i:Nat} (hi:i<S.length) (hcl:∀ i,S[i]?=some true→∀ j∈dps ops i,S[j]?=some true) (hid:∀ j∈dps ops i,S[j]?=some true):∀ k,(S.set i true)[k]?=some true→∀ j∈dps ops k,(S.set i true)[j]?=some true:=by
  have up:∀ j,S[j]?=some true→(S.set i true)[j]?=some true:=fun j hj=>by
    by_cases e:i=j
    · subst e;rw[List.getElem?_set_self hi]
    · rw[List.getElem?_set_ne e];exact hj
  intro k hk j hj
  by_cases e:i=k
  · subst e;exact up j (hid j hj)
  · rw[List.getElem?_set_ne e] at hk
    exact up j (hcl k hk j hj)
theorem WM.loop (hc:chkM ops main (T.map Prod.fst) n=true) (hT:Tls P w0 gs ops K0 Lc T T) (hk0:Kle K0 K) (hl0:Lle Lc L) (hfree:((T.map Prod.fst).all fun i=>(lk K (tdst ops i)).isNone)=true)
    (hmain:∀ f S a w,Stg n w0 gs ops main T done K L (f+1) S a w→∀ i,main.contains i=true→i∈Region.ready .any ops.toArray S.toArray→wpOp P ops.toArray Q i (wpAny P .any ops.toArray Q f (S.set i true).toArray) a w)
    (hfin:∀ f S a w,Stg n w0 gs ops main T done K L f S a w→(∀ i,i<ops.length→S[i]?=some true)→Q .normal a w):WM P w0 gs n ops Q main T done K L:=by
  have C:=chkM.spec hc
  have hfree:∀ i∈T.map Prod.fst,lk K (tdst ops i)=none:=fun i hi=>by simpa using List.all_eq_true.1 hfree i hi
  intro f
  induction f with
  | zero =>
    intro S a w h1 h2 h3 hcl h4 h5 h6 h7 h8
    have hs:Stg n w0 gs ops main T done K L 0 S a w:=⟨h1,h2,h3,hcl,h4,h5,h6,h7,h8⟩
    have hr:Region.ready .any ops.toArray S.toArray=[]:=by
      rw[List.eq_nil_iff_forall_not_mem]
      intro i hi
      have:=(ready_spec h1 hi).2.1
      have:0<S.count false:=List.count_pos_iff.2 (List.mem_of_getElem? this)
      omega
    exact⟨hr,hfin _ _ _ _ hs (ready_none h1 C.ac hr)⟩
  | succ f ih =>
    intro S a w h1 h2 h3 hcl h4 h5 h6 h7 h8
    have hs:Stg n w0 gs ops main T done K L (f+1) S a w:=⟨h1,h2,h3,hcl,h4,h5,h6,h7,h8⟩
    refine⟨fun hr=>hfin _ _ _ _ hs (ready_none h1 C.ac hr),fun i hi=>?_⟩
    rw[List.setIfInBounds_toArray]
    cases hm:main.contains i with
    | true=>exact hmain f S a w hs i hm hi
    | false =>
      obtain⟨hil,hiS,hid⟩:=ready_spec h1 hi
      have hits:i∈T.map Prod.fst:=by
        have:=C.one i hil
        rw[hm] at this
        cases h:(T.map Prod.fst).contains i with
        | true=>simpa using h
        | false=>exact absurd h.symm this
      obtain⟨v,hv⟩:=lk_mem.2 hits
      obtain⟨o,ho,hdo⟩:=hT.at hv
      obtain⟨hd1,hd2⟩:=C.dst i hits
      have hod:o.dst=some (tdst ops i)∧o.guard=none:=by
        unfold hasDst at hd1
        unfold tdst
        rw[ho] at hd1 ⊢
        obtain⟨od,_,_,_,_,og⟩:=o
        cases od with
        | none=>simp at hd1
        | some d=>cases og with
          | none=>exact⟨rfl,rfl⟩
          | some g=>simp at hd1
      have hkn:Kn (tvs ops T (dps ops i)++K0) a:=kn_app (tvs_kn fun j hj u hu=>h7 j u hu (hid j hj)) (hk0.kn h6)
      have hrun:=hdo a w hkn (hl0.me h8).mr o rfl rfl
      have ho2:ops.toArray[i]?=some o:=by simpa [nth_eq] using ho
      unfold wpOp
      simp only[ho2]
      have hw:Region.wanted o (yielded ops.toArray a.tmps)=true:=by unfold Region.wanted;rw[hod.2]
      rw[if_pos hw]
      left
      unfold Oper.wp
      rw[hrun]
      show wpAny P .any ops.toArray Q f (S.set i true).toArray (a.put o.dst v) w
      refine ih _ _ _ (by rw[List.length_set];exact h1) (count_set hiS h2) (fun k m hkm=>?_) (cl_set (by omega) hcl hid) (by rw[put_defers];exact h4) (by rw[put_size];exact h5) (fun t u ht=>?_) (fun j u hu hj=>?_) h8
      · have hne:¬ i=m:=fun e=>by
          subst e
          have:main.contains i=true:=by simpa using List.mem_of_getElem? hkm
          rw[hm] at this;cases this
        rw[List.getElem?_set_ne hne]
        exact h3 k m hkm
      · have hne:o.dst≠some t:=fun e=>by
          rw[hod.1] at e
          cases e
          rw[hfree i hits] at ht;cases ht
        rw[put_other _ _ _ hne]
        exact h6 t u ht
      · by_cases e:j=i
        · subst e
          rw[hv] at hu
          cases hu
          rw[hod.1]
          simp only[Act.put]
          rw[Array.getElem?_setIfInBounds,if_pos rfl,if_pos (by omega)]
        · rw[List.getElem?_set_ne (fun h=>e h.symm)] at hj
          have hjt:j∈T.map Prod.fst:=lk_mem.1 ⟨u,hu⟩
          have hne:o.dst≠some (tdst ops j):=C.apart j hjt i o ho (fun h=>e h.symm)
          rw[put_other _ _ _ hne]
          exact h7 j u hu hj
theorem WM.step {m:Nat} {o:Oper} (hm:main[done]?=some m) (ho:nth ops m=some o) (hc:chkM ops main (T.map Prod.fst) n=true) (hT:Tls P w0 gs ops K0 Lc T T)
    (k:WO P w0 gs n ops (Qk (MR P w0 gs n ops Q main T o K (done+1)) Q) (tvs ops T (dps ops m)++K) L [o]) (hk0:Kle K0 K:=by (repeat (first|exact Kle.nil|refine Kle.cons rfl rfl ?_))) (hl0:Lle Lc L:=by (repeat (first|exact Lle.nil|refine Lle.cons (by repeat (first|exact Pk.here|apply Pk.there)) rfl ?_))) (hfree:((T.map Prod.fst).all fun i=>(lk K (tdst ops i)).isNone)=true:=by rfl):WM P w0 gs n ops Q main T done K L:=by
  have C:=chkM.spec hc
  have hml:m<ops.length:=by
    rcases Nat.lt_or_ge m ops.length with h|h
    · exact h
    · rw[nth_eq,List.getElem?_eq_none h] at ho;cases ho
  have hmm:main.contains m=true:=by simpa using List.mem_of_getElem? hm
  have ho2:ops.toArray[m]?=some o:=by simpa [nth_eq] using ho
  have hdl:done<main.length:=by
    rcases Nat.lt_or_ge done main.length with h|h
    · exact h
    · rw[List.getElem?_eq_none h] at hm;cases hm
  have only:∀ {S:List Bool},(∀ k m,main[k]?=some m→(S[m]?=some true↔k<done))→∀ {k' i:Nat},main[k']?=some i→S[i]?=some false→(∀ j∈dps ops i,S[j]?=some true)→k'=done:=by
    intro S hmn k' i hki hiS hid
    have h1:¬ k' < done:=fun h=>by have:=(hmn k' i hki).2 h;rw[hiS] at this;cases this
    rcases Nat.lt_or_ge done k' with h|h
    · exfalso
      obtain⟨q,rfl⟩ : ∃ q,k'=q+1:=⟨k' - 1,by omega⟩
      obtain⟨mq,hmq⟩ : ∃ x,main[q]?=some x:=by
        have:q<main.length:=by
          rcases Nat.lt_or_ge (q+1) main.length with h|h
          · omega
          · rw[List.getElem?_eq_none h] at hki;cases hki
        exact⟨_,List.getElem?_eq_getElem this⟩
      have:=hid mq (C.chain q mq i hmq hki)
      have:=(hmn q mq hmq).1 this
      omega
    · omega
  refine WM.loop hc hT hk0 hl0 hfree (fun f S a w hs i hi hr=>?_) (fun f S a w hs hall=>?_)
  · obtain⟨hil,hiS,hid⟩:=ready_spec hs.len hr
    obtain⟨k',hk'⟩:=List.getElem?_of_mem (by simpa using hi:i∈main)
    have e:=only hs.mn hk' hiS hid
    subst e
    have e2:i=m:=by rw[hm] at hk';cases hk';rfl
    subst e2
    have hkn:Kn (tvs ops T (dps ops i)++K) a:=kn_app (tvs_kn fun j hj u hu=>hs.tl j u hu (hid j hj)) hs.kn
    have h1:=wpOp_keep ho2 (wpOp_Qk ho2 (k a w hs.df hs.sz hkn hs.me))
    refine wpOp_mono (fun a' w' hh=>?_) h1
    obtain⟨⟨g1,g2,K',L',g3,g4',g5,g7⟩,g6⟩:=hh
    have g4:Kn (K'++K) a':=by
      intro t v ht
      rw[lk_app] at ht
      cases h:lk K' t with
      | some u=>rw[h] at ht;cases ht;exact g4' t v h
      | none =>
        rw[h] at ht
        have ht:lk K t=some v:=ht
        have hne:o.dst≠some t:=fun e=>by
          rcases g7 t e with ⟨v',hv'⟩|h2
          · rw[h] at hv';cases hv'
          · rw[h2] at ht;cases ht
        rw[g6 t hne]
        exact hs.kn t v ht
    refine g3 f (S.set i true) a' w' (by rw[List.length_set];exact hs.len) (count_set hiS hs.cnt) (fun q mq hq=>?_) (cl_set (by rw[hs.len];exact hil) hs.cl hid) g1 g2 g4 (fun j u hu hj=>?_) g5
    · by_cases e:i=mq
      · subst e
        have:=only hs.mn hq hiS hid
        subst this
        rw[List.getElem?_set_self (by rw[hs.len];exact hil)]
        simp
      · rw[List.getElem?_set_ne e,hs.mn q mq hq]
        constructor
        · intro h;omega
        · intro h
          rcases Nat.lt_or_ge q k' with h2|h2
          · exact h2
          · exfalso
            have:q=k':=by omega
            subst this
            rw[hk'] at hq;cases hq;exact e rfl
    · have hjt:j∈T.map Prod.fst:=lk_mem.1 ⟨u,hu⟩
      have hne:j≠i:=fun e=>by
        subst e
        have:=C.one j hil
        rw[hi] at this
        exact this (by simpa using hjt)
      rw[List.getElem?_set_ne (fun h=>hne h.symm)] at hj
      rw[g6 _ (C.apart j hjt i o ho (fun h=>hne h.symm))]
      exact hs.tl j u hu hj
  · exfalso
    have:=(hs.mn done m hm).1 (hall m hml)
    omega
theorem WM.fin {m:Nat} (hc:chkM ops main (T.map Prod.fst) n=true) (hm:main[done - 1]?=some m) (hd:done=main.length) (hall:(T.map Prod.fst).all (fun i=>(dps ops m).contains i)=true)
    (k:WX w0 gs n .normal Q K L) (h0:0<done:=by decide):WM P w0 gs n ops Q main T done K L:=by
  have C:=chkM.spec hc
  have key:∀ (f:Nat) (S:List Bool) (a:Act) (w:World),S.length=ops.length→(∀ k m,main[k]?=some m→(S[m]?=some true↔k<done))→(∀ i,S[i]?=some true→∀ j∈dps ops i,S[j]?=some true)→a.defers=[]→a.tmps.size=n→Kn K a→Me w0 gs L w→wpAny P .any ops.toArray Q f S.toArray a w:=by
    intro f S a w h1 h3 hcl h4 h5 h6 h8
    have hr:Region.ready .any ops.toArray S.toArray=[]:=by
      rw[List.eq_nil_iff_forall_not_mem]
      intro i hi
      obtain⟨hil,hiS,hid⟩:=ready_spec h1 hi
      cases hmi:main.contains i with
      | true =>
        obtain⟨k',hk'⟩:=List.getElem?_of_mem (by simpa using hmi:i∈main)
        have hkl:k' < main.length:=by
          rcases Nat.lt_or_ge k' main.length with h|h
          · exact h
          · rw[List.getElem?_eq_none h] at hk';cases hk'
        have:=(h3 k' i hk').2 (by omega)
        rw[hiS] at this;cases this
      | false =>
        have hits:i∈T.map Prod.fst:=by
          have:=C.one i hil
          rw[hmi] at this
          cases h:(T.map Prod.fst).contains i with
          | true=>simpa using h
          | false=>exact absurd h.symm this
        have hmS:=(h3 (done - 1) m hm).2 (by omega)
        have hin:i∈dps ops m:=by simpa using List.all_eq_true.1 hall i hits
        have:=hcl m hmS i hin
        rw[hiS] at this;cases this
    cases f with
    | zero=>exact⟨hr,k a w h4 h5 h6 h8⟩
    | succ f=>exact⟨fun _=>k a w h4 h5 h6 h8,fun i hi=>by rw[hr] at hi;cases hi⟩
  exact fun f S a w h1 _ h3 hcl h4 h5 h6 _ h8=>key f S a w h1 h3 hcl h4 h5 h6 h8
theorem WX.wm {o:Oper} {d:Nat} {Q' : Exit→Act→World→Prop} {K1:List (Nat × Value)} (K' : List (Nat × Value)) (k:WM P w0 gs n ops Q main T d (K'++K) L) (hk:Kle K' K1:=by (repeat (first|exact Kle.nil|refine Kle.cons rfl rfl ?_))) (hd:∀ t,o.dst=some t→(∃ v,lk K' t=some v)∨lk K t=none:=by (intro t ht;first|(cases ht;done)|(cases ht;first|exact .inl ⟨_,rfl⟩|exact .inr rfl))):WX w0 gs n .normal (Qk (MR P w0 gs n ops Q main T o K d) Q') K1 L:=fun _ _ h1 h2 h3 h4 =>
  ⟨h1,h2,K',L,k,hk.kn h3,h4,hd⟩
theorem WM.with (Lc:List Ent) (hc:chkM ops main (T.map Prod.fst) n=true) (hT:Tls P w0 gs ops K Lc T T) (k:chkM ops main (T.map Prod.fst) n=true→Tls P w0 gs ops K Lc T T→WM P w0 gs n ops Q main T 0 K L):WM P w0 gs n ops Q main T 0 K L:=k hc hT
theorem WC.mains {id:Nat} {l:List Oper} [Mix P] (main:List Nat) (T:List (Nat × Value)) (hml:main.all (fun i=>decide (i<l.length))=true) (k:WM P w0 gs n l Q main T 0 K L):WC P w0 gs n (.region id l.toArray true) Q K L:=by
  refine WC.all (fun a w h1 h2 h3 h4=>k _ _ a w (by simp) (by rw[List.count_replicate];split<;>omega) (fun q m hq=>?_) (fun i hi=>?_) h1 h2 h3 (fun i v _ hi=>?_) h4)
  · have hm:m<l.length:=by
      have:=List.all_eq_true.1 hml m (List.mem_of_getElem? hq)
      simpa using this
    rw[List.getElem?_replicate,if_pos hm]
    simp
  · rw[List.getElem?_replicate] at hi
    split at hi<;>simp at hi
  · rw[List.getElem?_replicate] at hi
    split at hi<;>simp at hi
end
end Sx
end Go.Proofs.YtiiacjladnljhaaGreatDoor
namespace Go.Proofs.YtiiacjladnljhaaGreatDoor
open Go Go.RowKit Go.BigFrame
namespace Sx
attribute [local irreducible] wd DQ DQS WO WC WX
section
variable {P:Program} {w0:World} {gs:List Nat} {n:Nat} {ops:List Oper} {K0:List (Nat × Value)} {Lc:List Ent} {T:List (Nat × Value)}
theorem Tls.auto {i:Nat} {v:Value} {r:List (Nat × Value)} {o:Oper} (hr:Tls P w0 gs ops K0 Lc T r) (ho:nth ops i=some o:=by rfl) (h:Does P w0 gs (tvs ops T (dps ops i)++K0) Lc o.op o.type v:=by first|exact a_move|exact a_load|exact a_load1|exact a_fieldAddr|exact a_indexSlice|exact a_func|exact a_nilCheck|exact a_assign):Tls P w0 gs ops K0 Lc T ((i,v)::r):=.cons ho h hr
end
theorem kE_ok (e:Int):kE e (okE true)=e:=by
  unfold kE
  split<;>simp_all [okE]
section
variable (p q g h gF:Nat)
theorem may_t {a b q:Nat} (h1:1<q) (ha:a<q) (hb:b<q):mayN a b q=true:=by simp[mayN,h1,ha,hb]
theorem c_times1 (a b:Nat) (e:Int) (h1:1<q) (ha:a<q) (hb:b<q) (hq:q<B256):FnM Tryz.prog 191 [pt gF,numV a,numV b] gF 253 (fdC p q g h e) (fdC p q g h e) Tr (numV (a*b%q)):=by
  have:=c_ftimes p q g h gF a b e (Nat.lt_trans ha hq) (Nat.lt_trans hb hq) hq
  rw[may_t h1 ha hb,kE_ok] at this
  exact this
theorem c_less1 (a b:Nat) (e:Int) (h1:1<q) (ha:a<q) (hb:b<q) (hq:q<B256):FnM Tryz.prog 234 [pt gF,numV a,numV b] gF 253 (fdC p q g h e) (fdC p q g h e) Tr (numV ((a+q - b)%q)):=by
  have hO:=c_SSub p q g h a b (Nat.lt_trans ha hq) (Nat.lt_trans hb hq) hq
  have hK:=c_keep p q g h gF ((a+q - b)%q) e 0
  rw[may_t h1 ha hb] at hO
  rw[show kE e 0=e from kE_ok e] at hK
  generalize (a+q - b)%q=R at *
  refine FnM.enter Tryz.func234 rfl rfl rfl ?_
  intro w hw
  repeat (first|refine Ta ?_|(refine Tm ?_;intro _)|refine Tc ?_|exact Tz)
  refine WC.adraw 10 (k:=?_)
  repeat (first|refine Da ?_|refine DQ.acall (hc:=hO) (k:=?_)|refine Dc ?_)
  refine DQ.anil (k:=?_)
  intro sx _
  repeat (first|refine Ta ?_|(refine Tm ?_;intro _)|refine WO.callM rfl hK (by repeat (first|exact Rp.here|apply Rp.there)) (fun _ _=>trivial) (by decide) ?_ rfl rfl|refine Tc ?_|exact Tz)
  exact WX.retM_of (res1 rfl (by first|exact rv_tmp rfl|exact a_rvc)) (by repeat (first|exact Hs.here|apply Hs.there))
def iE (a q:Nat):Int:=if Nat.gcd a q=1 then 0 else 7
theorem c_under1 (a:Nat) (e:Int) (h1:1<q) (ha:a<q) (hq:q<B256):FnM Tryz.prog 233 [pt gF,numV a] gF 253 (fdC p q g h e) (fdC p q g h (kE e (iE a q))) Tr (numV (invN a q)):=by
  have hO:=c_SInv p q g h a (Nat.lt_trans ha hq) hq
  have hK:=c_keep p q g h gF (invN a q) e (iE a q)
  rw[show invE a q=iE a q by unfold invE iE;rw[may_t h1 ha ha];rfl,may_t h1 ha ha] at hO
  rw[show okV true (invN a q)=invN a q from rfl] at hO
  generalize invN a q=R at *
  generalize iE a q=E at *
  refine FnM.enter Tryz.func233 rfl rfl rfl ?_
  intro w hw
  repeat (first|refine Ta ?_|(refine Tm ?_;intro _)|refine Tc ?_|exact Tz)
  refine WC.adraw 9 (k:=?_)
  repeat (first|refine Da ?_|refine DQ.acall (hc:=hO) (k:=?_)|refine Dc ?_)
  refine DQ.anil (k:=?_)
  intro sx _
  repeat (first|refine Ta ?_|(refine Tm ?_;intro _)|refine WO.callM rfl hK (by repeat (first|exact Rp.here|apply Rp.there)) (fun _ _=>trivial) (by decide) ?_ rfl rfl|refine Tc ?_|exact Tz)
  exact WX.retM_of (res1 rfl (by first|exact rv_tmp rfl|exact a_rvc)) (by repeat (first|exact Hs.here|apply Hs.there))
set_option maxHeartbeats 1000000 in
theorem c_gatherT (l:List Nat) (pt:Option Addr) (c a:Nat) (e:Int) (h1:1<q) (ha:a<q) (hl:∀ x∈l,x<q) (hn:l.length≤1099511627776) (hq:q<B256) :
    FnM Tryz.prog 188 [numV a,.slice pt l.length c,.func (.func 191) #[Sx.pt gF] #[]] gF 253 (fdC p q g h e) (fdC p q g h e) (fun w=>RdF numC (.slice pt l.length c) l w∧∀ b o,pt=some ⟨b,o,none⟩→l≠[]→b ∉ [gF]) (numV (prM q a l)):=by
  have hP:=fun u x (hu:u<q) (hx:x<q)=>(c_times1 p q g h gF u x e h1 hu hx hq).toL
  refine FnM.enter Tryz.func188 rfl rfl rfl ?_
  intro w hw
  obtain⟨⟨pt',c',e,hpc⟩,hout⟩:=hw
  cases e
  repeat (first|refine Ta ?_|(refine Tm ?_;intro _)|refine Tc ?_|exact Tz)
  rename_i g3 g6
  refine WC.loopI (σ:=Nat) (fun i=>i≤l.length) (fun i=>[(2,.func (.func 191) #[Sx.pt gF] #[]),(3,Sx.pt g3),(6,Sx.pt g6),(9,.slice pt l.length c),(10,.int .i64 (l.length:Int)),(11,.int .i64 (i:Int))])
    (fun i=>[⟨g6,24,numC 0⟩,⟨g3,24,numC (prM q a (l.take i))⟩,⟨gF,253,fdC p q g h e⟩]) (fun i=>l.length - i) 0 (fun i hi=>?_) (Nat.zero_le _)
  try dsimp only at hi ⊢
  by_cases hlt:i<l.length
  · obtain⟨x,hx⟩ : ∃ x,l[i]?=some x:=⟨_,List.getElem?_eq_getElem hlt⟩
    rcases hpc with ⟨_,h0⟩|⟨b,o,rfl,hs⟩
    · rw[h0] at hlt;simp at hlt
    have hb:b ∉ [gF]:=hout b o rfl (by rintro rfl;simp at hlt)
    have hadd2:IntKind.i64.wrap ((i:Int)+1)=((i+1:Nat):Int):=i64_in' (by omega) (by omega) (by omega)
    have hcx:cut (l.flatMap numC) (o+i*4 - o) 4=numC x:=by rw[Nat.add_sub_cancel_left];exact cut_flatP (f:=numC) (k:=4) (fun _=>rfl) hx
    have hPx:=hP (prM q a (l.take i)) x (prM_lt (by omega) ha _) (hl x (List.mem_of_getElem? hx))
    have hst:=prM_snoc q a (l.take i) x
    rw[show l.take i++[x]=l.take (i+1) by rw[List.take_add_one,hx];rfl] at hst
    rw[← hst] at hPx
    clear hst hP hl
    repeat (first|refine Ta ?_|(refine Tm ?_;intro _)|refine Tc ?_|exact Tz)
    refine WC.dT rfl (by omega) ?_
    repeat (first|refine Ta ?_|(refine Tm ?_;intro _)|refine WO.does (does_indexSlice (o':=o+i*4) rfl rfl hlt rfl) ?_|refine WO.does (a_loadF (vs:=numC x) (hs:=hs) (hle:=Nat.le_add_right _ _) (hb:=hb) (hc:=hcx)) ?_|refine Tc ?_|exact Tz)
    refine WO.callsLV hPx rfl rfl rfl (Pks.cons (Pk.there (Pk.there (Pk.there Pk.here))) Pks.nil) (fun _ _=>trivial) (fun v N hv=>?_)
    obtain⟨rfl,rfl⟩:=hv
    simp only[List.cons_append,List.nil_append]
    repeat (first|refine Ta ?_|(refine Tm ?_;intro _)|refine WO.does (does_add rfl rfl hadd2) ?_|refine Tc ?_|exact Tz)
    exact WX.metI (i+1) (hs:=⟨by show i+1≤l.length;omega,by show l.length - (i+1)<l.length - i;omega⟩)
  · have hi2:i=l.length:=by omega
    subst hi2
    rw[List.take_length]
    repeat (first|refine Ta ?_|(refine Tm ?_;intro _)|refine Tc ?_|exact Tz)
    refine WC.dF rfl (by omega) ?_
    repeat (first|refine Ta ?_|(refine Tm ?_;intro _)|refine Tc ?_|exact Tz)
    exact WX.retM_of (res1 rfl (by first|exact rv_tmp rfl|exact a_rvc)) (by repeat (first|exact Hs.here|apply Hs.there))
end
end Sx
end Go.Proofs.YtiiacjladnljhaaGreatDoor
