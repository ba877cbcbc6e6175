/- Part 33 of the proof: SyH, ScB, SoA -/
import Derived.Test.YtiiacjladnljhaaGreatDoorM32
import Derived.Test.YtiiacjladnljhaaGreatDoorM30
import Derived.Test.YtiiacjladnljhaaGreatDoorM31
set_option linter.unusedSimpArgs false
set_option linter.unusedVariables false
namespace Go.Proofs.YtiiacjladnljhaaGreatDoor
open Go Go.RowKit Go.BigFrame
namespace Sx
section
variable (P:Program) (w0:World) (gs:List Nat) (ops:List Oper)
inductive Tlx (K0:List (Nat × Value)) (Lc:List Ent) (T:List (Nat × Value)) (ex:List Nat):List (Nat × Value)→Prop
  | nil:Tlx K0 Lc T ex []
  | done {i:Nat} {v:Value} {r:List (Nat × Value)}:i∈ex→Tlx K0 Lc T ex r→Tlx K0 Lc T ex ((i,v)::r)
  | cons {i:Nat} {v:Value} {r:List (Nat × Value)} {o:Oper}:nth ops i=some o→Does P w0 gs (tvs ops T (dps ops i)++K0) Lc o.op o.type v→Tlx K0 Lc T ex r→Tlx K0 Lc T ex ((i,v)::r)
end
theorem Tlx.at {P:Program} {w0:World} {gs:List Nat} {ops:List Oper} {K0:List (Nat × Value)} {Lc:List Ent} {T:List (Nat × Value)} {ex:List Nat} {i:Nat} {v:Value}:∀ {R:List (Nat × Value)},Tlx P w0 gs ops K0 Lc T ex R→lk R i=some v→i∈ex∨∃ o,nth ops i=some o∧Does P w0 gs (tvs ops T (dps ops i)++K0) Lc o.op o.type v
  | _,.nil,h=>by cases h
  | (k,u)::r,.done h1 h3,h=>by
    rw[lk_cons] at h
    cases hb:Nat.beq k i with
    | true =>
      have e:k=i:=Nat.eq_of_beq_eq_true hb
      subst e
      exact .inl h1
    | false=>rw[hb] at h;exact h3.at h
  | (k,u)::r,.cons h1 h2 h3,h=>by
    rw[lk_cons] at h
    cases hb:Nat.beq k i with
    | true =>
      rw[hb] at h
      have e:k=i:=Nat.eq_of_beq_eq_true hb
      subst e
      cases h
      exact .inr ⟨_,h1,h2⟩
    | false=>rw[hb] at h;exact h3.at h
section
variable {P:Program} {w0:World} {gs:List Nat} {n:Nat} {ops:List Oper} {Q:Exit→Act→World→Prop} {main:List Nat} {T K0 K:List (Nat × Value)} {Lc L:List Ent} {done:Nat} {ex:List Nat}
theorem Tlx.auto {i:Nat} {v:Value} {r:List (Nat × Value)} {o:Oper} (hr:Tlx P w0 gs ops K0 Lc T ex r) (ho:nth ops i=some o:=by rfl) (h:Does P w0 gs (tvs ops T (dps ops i)++K0) Lc o.op o.type v:=by first|exact a_move|exact a_load|exact a_load1|exact a_fieldAddr|exact a_indexSlice|exact a_func|exact a_nilCheck|exact a_assign):Tlx P w0 gs ops K0 Lc T ex ((i,v)::r):=.cons ho h hr
theorem WM.loopX (hc:chkM ops main (T.map Prod.fst) n=true) (hT:Tlx P w0 gs ops K0 Lc T ex T) (hex:∀ i∈ex,0<done∧∃ m0,main[0]?=some m0∧i∈dps ops m0) (hk0:Kle K0 K) (hl0:Lle Lc L) (hfree:((T.map Prod.fst).all fun i=>(lk K (tdst ops i)).isNone)=true)
    (hmain:∀ f S a w,Stg n w0 gs ops main T done K L (f+1) S a w→∀ i,main.contains i=true→i∈Region.ready .any ops.toArray S.toArray→wpOp P ops.toArray Q i (wpAny P .any ops.toArray Q f (S.set i true).toArray) a w)
    (hfin:∀ f S a w,Stg n w0 gs ops main T done K L f S a w→(∀ i,i<ops.length→S[i]?=some true)→Q .normal a w):WM P w0 gs n ops Q main T done K L:=by
  have C:=chkM.spec hc
  have hfree:∀ i∈T.map Prod.fst,lk K (tdst ops i)=none:=fun i hi=>by simpa using List.all_eq_true.1 hfree i hi
  intro f
  induction f with
  | zero =>
    intro S a w h1 h2 h3 hcl h4 h5 h6 h7 h8
    have hs:Stg n w0 gs ops main T done K L 0 S a w:=⟨h1,h2,h3,hcl,h4,h5,h6,h7,h8⟩
    have hr:Region.ready .any ops.toArray S.toArray=[]:=by
      rw[List.eq_nil_iff_forall_not_mem]
      intro i hi
      have:=(ready_spec h1 hi).2.1
      have:0<S.count false:=List.count_pos_iff.2 (List.mem_of_getElem? this)
      omega
    exact⟨hr,hfin _ _ _ _ hs (ready_none h1 C.ac hr)⟩
  | succ f ih =>
    intro S a w h1 h2 h3 hcl h4 h5 h6 h7 h8
    have hs:Stg n w0 gs ops main T done K L (f+1) S a w:=⟨h1,h2,h3,hcl,h4,h5,h6,h7,h8⟩
    refine⟨fun hr=>hfin _ _ _ _ hs (ready_none h1 C.ac hr),fun i hi=>?_⟩
    rw[List.setIfInBounds_toArray]
    cases hm:main.contains i with
    | true=>exact hmain f S a w hs i hm hi
    | false =>
      obtain⟨hil,hiS,hid⟩:=ready_spec h1 hi
      have hits:i∈T.map Prod.fst:=by
        have:=C.one i hil
        rw[hm] at this
        cases h:(T.map Prod.fst).contains i with
        | true=>simpa using h
        | false=>exact absurd h.symm this
      obtain⟨v,hv⟩:=lk_mem.2 hits
      obtain⟨o,ho,hdo⟩ : ∃ o,nth ops i=some o∧Does P w0 gs (tvs ops T (dps ops i)++K0) Lc o.op o.type v:=by
        rcases hT.at hv with h|h
        · exfalso
          obtain⟨hd,m0,hm0,hi0⟩:=hex i h
          have:=hcl m0 ((h3 0 m0 hm0).2 hd) i hi0
          rw[hiS] at this;cases this
        · exact h
      obtain⟨hd1,hd2⟩:=C.dst i hits
      have hod:o.dst=some (tdst ops i)∧o.guard=none:=by
        unfold hasDst at hd1
        unfold tdst
        rw[ho] at hd1 ⊢
        obtain⟨od,_,_,_,_,og⟩:=o
        cases od with
        | none=>simp at hd1
        | some d=>cases og with
          | none=>exact⟨rfl,rfl⟩
          | some g=>simp at hd1
      have hkn:Kn (tvs ops T (dps ops i)++K0) a:=kn_app (tvs_kn fun j hj u hu=>h7 j u hu (hid j hj)) (hk0.kn h6)
      have hrun:=hdo a w hkn (hl0.me h8).mr o rfl rfl
      have ho2:ops.toArray[i]?=some o:=by simpa [nth_eq] using ho
      unfold wpOp
      simp only[ho2]
      have hw:Region.wanted o (yielded ops.toArray a.tmps)=true:=by unfold Region.wanted;rw[hod.2]
      rw[if_pos hw]
      left
      unfold Oper.wp
      rw[hrun]
      show wpAny P .any ops.toArray Q f (S.set i true).toArray (a.put o.dst v) w
      refine ih _ _ _ (by rw[List.length_set];exact h1) (count_set hiS h2) (fun k m hkm=>?_) (cl_set (by omega) hcl hid) (by rw[put_defers];exact h4) (by rw[put_size];exact h5) (fun t u ht=>?_) (fun j u hu hj=>?_) h8
      · have hne:¬ i=m:=fun e=>by
          subst e
          have:main.contains i=true:=by simpa using List.mem_of_getElem? hkm
          rw[hm] at this;cases this
        rw[List.getElem?_set_ne hne]
        exact h3 k m hkm
      · have hne:o.dst≠some t:=fun e=>by
          rw[hod.1] at e
          cases e
          rw[hfree i hits] at ht;cases ht
        rw[put_other _ _ _ hne]
        exact h6 t u ht
      · by_cases e:j=i
        · subst e
          rw[hv] at hu
          cases hu
          rw[hod.1]
          simp only[Act.put]
          rw[Array.getElem?_setIfInBounds,if_pos rfl,if_pos (by omega)]
        · rw[List.getElem?_set_ne (fun h=>e h.symm)] at hj
          have hjt:j∈T.map Prod.fst:=lk_mem.1 ⟨u,hu⟩
          have hne:o.dst≠some (tdst ops j):=C.apart j hjt i o ho (fun h=>e h.symm)
          rw[put_other _ _ _ hne]
          exact h7 j u hu hj
theorem WM.stepX {m:Nat} {o:Oper} (hm:main[done]?=some m) (ho:nth ops m=some o) (hc:chkM ops main (T.map Prod.fst) n=true) (hT:Tlx P w0 gs ops K0 Lc T ex T) (hex:∀ i∈ex,0<done∧∃ m0,main[0]?=some m0∧i∈dps ops m0)
    (k:WO P w0 gs n ops (Qk (MR P w0 gs n ops Q main T o K (done+1)) Q) (tvs ops T (dps ops m)++K) L [o]) (hk0:Kle K0 K:=by (repeat (first|exact Kle.nil|refine Kle.cons rfl rfl ?_))) (hl0:Lle Lc L:=by (repeat (first|exact Lle.nil|refine Lle.cons (by repeat (first|exact Pk.here|apply Pk.there)) rfl ?_))) (hfree:((T.map Prod.fst).all fun i=>(lk K (tdst ops i)).isNone)=true:=by rfl):WM P w0 gs n ops Q main T done K L:=by
  have C:=chkM.spec hc
  have hml:m<ops.length:=by
    rcases Nat.lt_or_ge m ops.length with h|h
    · exact h
    · rw[nth_eq,List.getElem?_eq_none h] at ho;cases ho
  have hmm:main.contains m=true:=by simpa using List.mem_of_getElem? hm
  have ho2:ops.toArray[m]?=some o:=by simpa [nth_eq] using ho
  have hdl:done<main.length:=by
    rcases Nat.lt_or_ge done main.length with h|h
    · exact h
    · rw[List.getElem?_eq_none h] at hm;cases hm
  have only:∀ {S:List Bool},(∀ k m,main[k]?=some m→(S[m]?=some true↔k<done))→∀ {k' i:Nat},main[k']?=some i→S[i]?=some false→(∀ j∈dps ops i,S[j]?=some true)→k'=done:=by
    intro S hmn k' i hki hiS hid
    have h1:¬ k' < done:=fun h=>by have:=(hmn k' i hki).2 h;rw[hiS] at this;cases this
    rcases Nat.lt_or_ge done k' with h|h
    · exfalso
      obtain⟨q,rfl⟩ : ∃ q,k'=q+1:=⟨k' - 1,by omega⟩
      obtain⟨mq,hmq⟩ : ∃ x,main[q]?=some x:=by
        have:q<main.length:=by
          rcases Nat.lt_or_ge (q+1) main.length with h|h
          · omega
          · rw[List.getElem?_eq_none h] at hki;cases hki
        exact⟨_,List.getElem?_eq_getElem this⟩
      have:=hid mq (C.chain q mq i hmq hki)
      have:=(hmn q mq hmq).1 this
      omega
    · omega
  refine WM.loopX hc hT hex hk0 hl0 hfree (fun f S a w hs i hi hr=>?_) (fun f S a w hs hall=>?_)
  · obtain⟨hil,hiS,hid⟩:=ready_spec hs.len hr
    obtain⟨k',hk'⟩:=List.getElem?_of_mem (by simpa using hi:i∈main)
    have e:=only hs.mn hk' hiS hid
    subst e
    have e2:i=m:=by rw[hm] at hk';cases hk';rfl
    subst e2
    have hkn:Kn (tvs ops T (dps ops i)++K) a:=kn_app (tvs_kn fun j hj u hu=>hs.tl j u hu (hid j hj)) hs.kn
    have h1:=wpOp_keep ho2 (wpOp_Qk ho2 (k a w hs.df hs.sz hkn hs.me))
    refine wpOp_mono (fun a' w' hh=>?_) h1
    obtain⟨⟨g1,g2,K',L',g3,g4',g5,g7⟩,g6⟩:=hh
    have g4:Kn (K'++K) a':=by
      intro t v ht
      rw[lk_app] at ht
      cases h:lk K' t with
      | some u=>rw[h] at ht;cases ht;exact g4' t v h
      | none =>
        rw[h] at ht
        have ht:lk K t=some v:=ht
        have hne:o.dst≠some t:=fun e=>by
          rcases g7 t e with ⟨v',hv'⟩|h2
          · rw[h] at hv';cases hv'
          · rw[h2] at ht;cases ht
        rw[g6 t hne]
        exact hs.kn t v ht
    refine g3 f (S.set i true) a' w' (by rw[List.length_set];exact hs.len) (count_set hiS hs.cnt) (fun q mq hq=>?_) (cl_set (by rw[hs.len];exact hil) hs.cl hid) g1 g2 g4 (fun j u hu hj=>?_) g5
    · by_cases e:i=mq
      · subst e
        have:=only hs.mn hq hiS hid
        subst this
        rw[List.getElem?_set_self (by rw[hs.len];exact hil)]
        simp
      · rw[List.getElem?_set_ne e,hs.mn q mq hq]
        constructor
        · intro h;omega
        · intro h
          rcases Nat.lt_or_ge q k' with h2|h2
          · exact h2
          · exfalso
            have:q=k':=by omega
            subst this
            rw[hk'] at hq;cases hq;exact e rfl
    · have hjt:j∈T.map Prod.fst:=lk_mem.1 ⟨u,hu⟩
      have hne:j≠i:=fun e=>by
        subst e
        have:=C.one j hil
        rw[hi] at this
        exact this (by simpa using hjt)
      rw[List.getElem?_set_ne (fun h=>hne h.symm)] at hj
      rw[g6 _ (C.apart j hjt i o ho (fun h=>hne h.symm))]
      exact hs.tl j u hu hj
  · exfalso
    have:=(hs.mn done m hm).1 (hall m hml)
    omega
theorem hex_of {m0:Nat} (hd:0<done) (hm0:main[0]?=some m0) (h:(ex.all fun i=>(dps ops m0).contains i)=true):∀ i∈ex,0<done∧∃ m0,main[0]?=some m0∧i∈dps ops m0:=fun i hi =>
  ⟨hd,m0,hm0,by simpa using List.all_eq_true.1 h i hi⟩
end
end Sx
end Go.Proofs.YtiiacjladnljhaaGreatDoor
namespace Go.Proofs.YtiiacjladnljhaaGreatDoor
open Go Go.RowKit Go.BigFrame
namespace Sx
attribute [local irreducible] wd DQ DQS WO WC WX
theorem does_negV {P:Program} {w0:World} {gs:List Nat} {K:List (Nat × Value)} {L:List Ent} {x:Operand} {t ty:TypeId} {k:IntKind} {n r:Int} (hx:ev K x=some (.int k n)) (hr:k.wrap (0 - n)=r):Does P w0 gs K L (.unOp .neg t x) ty (.int k r):=hr ▸ does_neg hx
theorem c_amountM (m:Nat) (hm:m<1000) (h0:0<m):Fn Tryz.prog 181 [.int .i64 (-(m:Int))] Tr (Is (.tuple #[.int .u64 (m:Int),.int .i64 1])):=by
  have hcv:IntKind.u64.wrap (-(m:Int))=((18446744073709551616 - m:Nat):Int):=by
    simp[IntKind.wrap,IntKind.signed,IntKind.bits];omega
  have hng:IntKind.u64.wrap (0 - ((18446744073709551616 - m:Nat):Int))=(m:Int):=by
    simp[IntKind.wrap,IntKind.signed,IntKind.bits];omega
  refine Fn.enter Tryz.func181 rfl rfl rfl ?_
  intro w hw
  repeat (first|refine Ta ?_|(refine Tm ?_;intro _)|refine WO.does (does_lssY rfl rfl (by omega)) ?_|refine WO.does (does_conv rfl hcv) ?_|refine WO.does (does_negV rfl hng) ?_|refine Tc ?_|exact Tz)
  done
section
variable (p q g h gV gG:Nat)
set_option maxHeartbeats 1000000 in
theorem c_ScOfM (m:Nat) (hm:m<1000) (h0m:0<m) (hmq:m<q) (hq:q<B256):Fn Tryz.prog 103 [grpV p q g h,.int .i64 (-(m:Int))] Tr (Is (numV (q - m))):=by
  have hB:=c_Bits q hq
  have h1:1<q:=by omega
  · have hb2:¬ ((bitsN q:Nat):Int)<2:=by
      have:¬ bitsN q≤1:=by rw[bitsN_le_iff];omega
      omega
    have hA:=c_amountM m hm h0m
    have hL:=c_Len64 m (by omega)
    have hlb:=bitsN_le (k:=63) (x:=m) (by omega)
    have htop:=topN_zero (lt_bitsN m)
    have hall:=topN_all m (bitsN m)
    generalize bitsN q=bq at *
    generalize bitsN m=k at *
    have hC:=fun gV gG a b (ha:a<q) (hb:b<q)=>(c_ScOf1 p q g h gV gG a b ha hb h1 hq).toL
    have h0:=c_Of 0
    have hO1:=c_Of 1
    refine Fn.enter Tryz.func103 rfl rfl rfl ?_
    intro w hw
    repeat (first|refine Ta ?_|(refine Tm ?_;intro _)|refine WO.acall (hc:=hB) (k:=?_)|refine WO.does (does_lssN rfl rfl hb2) ?_|refine WO.acall (hc:=hA) (k:=?_)|refine WO.acall (hc:=h0) (k:=?_)|refine WO.acall (hc:=hL) (k:=?_)|refine WO.does (does_func rfl rfl) ?_|refine Tc ?_|exact Tz)
    rename_i g2 g4 gV
    refine WC.ndp' (fun hnd=>?_)
    have hne:g2≠gV:=by intro e;simp[e] at hnd
    clear hnd
    refine WC.loopI (σ:=Nat) (fun i=>i≤k) (fun i=>[(2,Sx.pt g2),(4,Sx.pt g4),(5,.int .u64 (m:Int)),(6,.int .i64 1),(7,Sx.pt gV),(8,.func (.func 182) #[] #[Sx.pt gV,Sx.pt g2]),(23,.int .i64 (k:Int)),(24,.int .i64 (i:Int))])
      (fun i=>[⟨gV,24,numC (topN m k i%q)⟩,⟨g4,24,numC 0⟩,⟨g2,26,grpC p q g h⟩]) (fun i=>k - i) 0 (fun i hi=>?_) (Nat.zero_le _)
      (hl:=by rw[htop,Nat.zero_mod];repeat (first|exact Lle.nil|refine Lle.cons (by repeat (first|exact Pk.here|apply Pk.there)) (by rfl) ?_))
    try dsimp only at hi ⊢
    by_cases hlt:i<k
    · have hstep:=topN_step (m:=m) hlt
      have hal:topN m k i%q<q:=Nat.mod_lt _ (by omega)
      have hadd2:IntKind.i64.wrap ((i:Int)+1)=((i+1:Nat):Int):=i64_in' (by omega) (by omega) (by omega)
      have hs1:IntKind.i64.wrap ((k:Int) - 1)=((k - 1:Nat):Int):=i64_in' (by omega) (by omega) (by omega)
      have hs2:IntKind.i64.wrap (((k - 1:Nat):Int) - (i:Int))=((k - 1 - i:Nat):Int):=i64_in' (by omega) (by omega) (by omega)
      have hX:m / 2 ^ (k - 1 - i)<18446744073709551616:=Nat.lt_of_le_of_lt (Nat.div_le_self _ _) (by omega)
      have hand:IntKind.u64.wrap ((BitVec.ofInt IntKind.u64.bits ((m / 2 ^ (k - 1 - i):Nat):Int) &&& BitVec.ofInt IntKind.u64.bits 1).toNat)=((m / 2 ^ (k - 1 - i)%2:Nat):Int):=and_one _ hX
      have hC1:=hC gV g2 (topN m k i%q) (topN m k i%q) hal hal
      have hbl:(topN m k i%q+topN m k i%q)%q<q:=Nat.mod_lt _ (by omega)
      have hC2:=hC gV g2 ((topN m k i%q+topN m k i%q)%q) 1 hbl h1
      have hv:∀ b,m / 2 ^ (k - 1 - i)%2=b→((topN m k i%q+topN m k i%q)%q+b)%q=topN m k (i+1)%q:=fun b hb=>by
        rw[hstep,hb,← Nat.add_mod,Nat.mod_add_mod,Nat.two_mul]
      repeat (first|refine Ta ?_|(refine Tm ?_;intro _)|refine Tc ?_|exact Tz)
      refine WC.dT rfl (by omega) ?_
      repeat (first|refine Ta ?_|(refine Tm ?_;intro _)|refine Tc ?_|exact Tz)
      refine WO.callsLV hC1 rfl rfl rfl (Pks.cons (by repeat (first|exact Pk.here|apply Pk.there)) Pks.nil) (fun w1 hm=>⟨Hs.seg (by repeat (first|exact Hs.here|apply Hs.there)) hm,hne⟩) (fun v N hv=>?_)
      obtain⟨rfl,rfl⟩:=hv
      simp only[List.cons_append,List.nil_append]
      have hb2':=Nat.mod_lt (m / 2 ^ (k - 1 - i)) (show 2 > 0 by decide)
      generalize hbb:m / 2 ^ (k - 1 - i)%2=b at *
      generalize (topN m k i%q+topN m k i%q)%q=A at *
      repeat (first|refine Ta ?_|(refine Tm ?_;intro _)|refine WO.acall (hc:=hL) (k:=?_)|refine WO.does (does_sub rfl rfl hs1) ?_|refine WO.does (does_sub rfl rfl hs2) ?_|refine WO.does (does_shr rfl rfl (by omega) (shr_nat (by show k - 1 - i≤64;omega))) ?_|refine WO.does (does_and rfl rfl hand) ?_|refine Tc ?_|exact Tz)
      have hb01:b=0∨b=1:=by omega
      rcases hb01 with rfl|rfl
      · have hv0:=hv 0 rfl
        rw[Nat.add_zero,Nat.mod_eq_of_lt hbl] at hv0
        refine WC.condF rfl ?_
        repeat (first|refine Ta ?_|(refine Tm ?_;intro _)|refine WO.does (does_add rfl rfl hadd2) ?_|refine Tc ?_|exact Tz)
        rw[hv0]
        exact WX.metI (i+1) (hs:=⟨by show i+1≤k;omega,by show k - (i+1)<k - i;omega⟩)
      · have hv1:=hv 1 rfl
        rw[hv1] at hC2
        refine WC.condT rfl ?_
        repeat (first|refine Ta ?_|(refine Tm ?_;intro _)|refine WO.acall (hc:=hO1) (k:=?_)|refine Tc ?_|exact Tz)
        refine WO.callsLV hC2 rfl rfl rfl (Pks.cons (by repeat (first|exact Pk.here|apply Pk.there)) Pks.nil) (fun w1 hm=>⟨Hs.seg (by repeat (first|exact Hs.here|apply Hs.there)) hm,hne⟩) (fun v N hv=>?_)
        obtain⟨rfl,rfl⟩:=hv
        simp only[List.cons_append,List.nil_append]
        repeat (first|refine Ta ?_|(refine Tm ?_;intro _)|refine WO.does (does_add rfl rfl hadd2) ?_|refine Tc ?_|exact Tz)
        exact WX.metI (i+1) (hs:=⟨by show i+1≤k;omega,by show k - (i+1)<k - i;omega⟩)
    · have hi2:i=k:=by omega
      subst hi2
      rw[hall]
      repeat (first|refine Ta ?_|(refine Tm ?_;intro _)|refine Tc ?_|exact Tz)
      have hSb:=c_Sub 0 m q B256_zero (Nat.lt_trans hmq hq) hq
      rw[show mayN 0 m q=true by simp[mayN,h1,hmq];omega,show (0+q - m)%q=q - m by rw[Nat.zero_add];exact Nat.mod_eq_of_lt (by omega)] at hSb
      rw[Nat.mod_eq_of_lt hmq]
      refine WC.dF rfl (by omega) ?_
      repeat (first|refine Ta ?_|(refine Tm ?_;intro _)|refine Tc ?_|exact Tz)
      refine WC.adrawF [7] 8 (k:=?_)
      repeat (first|refine Da ?_|refine DQ.acall (hc:=h0) (k:=?_)|refine DQ.acall (hc:=hSb) (k:=?_)|refine Df ?_)
      refine DQ.anil (k:=?_)
      intro sx _
      repeat (first|refine Ta ?_|(refine Tm ?_;intro _)|refine Tc ?_|exact Tz)
      done
end
end Sx
end Go.Proofs.YtiiacjladnljhaaGreatDoor
namespace Go.Proofs.YtiiacjladnljhaaGreatDoor
open Go Go.RowKit Go.BigFrame
namespace Sx
attribute [local irreducible] wd DQ DQS WO WC WX
theorem c_isNaN (a:Nat):Fn Tryz.prog 179 [.int .u8 (a:Int)] Tr (Is (.bool false)):=by
  refine Fn.enter Tryz.func179 rfl rfl rfl ?_
  intro w hw
  repeat (first|refine WO.does (does_neqN rfl rfl rfl) ?_|refine Ta ?_|(refine Tm ?_;intro _)|refine Tc ?_|exact Tz)
theorem c_Compare (a b:Nat):Fn Tryz.prog 99 [.int .u8 (a:Int),.int .u8 (b:Int)] Tr (Is (.int .i64 (cmpU a b))):=by
  have hA:=c_isNaN a
  have hB:=c_isNaN b
  rcases Nat.lt_trichotomy a b with h|h|h
  · rw[show cmpU a b = -1 by unfold cmpU;rw[if_pos h]]
    refine Fn.enter Tryz.func99 rfl rfl rfl ?_
    intro w hw
    repeat (first|refine WO.does (does_lssY rfl rfl (by omega)) ?_|refine Ta ?_|(refine Tm ?_;intro _)|refine WO.acall (hc:=hA) (k:=?_)|refine WO.acall (hc:=hB) (k:=?_)|refine Tc ?_|exact Tz)
  · rw[show cmpU a b=0 by unfold cmpU;rw[if_neg (by omega),if_neg (by omega)]]
    refine Fn.enter Tryz.func99 rfl rfl rfl ?_
    intro w hw
    repeat (first|refine WO.does (does_lssN rfl rfl (by omega)) ?_|refine WO.does (does_gtrN rfl rfl (by omega)) ?_|refine Ta ?_|(refine Tm ?_;intro _)|refine WO.acall (hc:=hA) (k:=?_)|refine WO.acall (hc:=hB) (k:=?_)|refine Tc ?_|exact Tz)
  · rw[show cmpU a b=1 by unfold cmpU;rw[if_neg (by omega),if_pos h]]
    refine Fn.enter Tryz.func99 rfl rfl rfl ?_
    intro w hw
    repeat (first|refine WO.does (does_lssN rfl rfl (by omega)) ?_|refine WO.does (does_gtrY rfl rfl (by omega)) ?_|refine Ta ?_|(refine Tm ?_;intro _)|refine WO.acall (hc:=hA) (k:=?_)|refine WO.acall (hc:=hB) (k:=?_)|refine Tc ?_|exact Tz)
theorem c_ahead (x y:Od):Fn Tryz.prog 26 [.agg (odC x).toArray,.agg (odC y).toArray] Tr (Is (.int .i64 (cmpU x.n y.n))):=by
  have hC:=c_Compare x.n y.n
  refine Fn.enter Tryz.func26 rfl rfl rfl ?_
  intro w hw
  repeat (first|refine Ta ?_|(refine Tm ?_;intro _)|refine WO.acall (hc:=hC) (k:=?_)|refine Tc ?_|exact Tz)
theorem od_cut {l:List Od} {i:Nat} {x:Od} (h:l[i]?=some x):cut (l.flatMap odC) (0+i*15) 15=odC x:=by
  rw[Nat.zero_add];exact cut_flatP (f:=odC) (k:=15) (fun _=>rfl) h
def PSort (n:Nat) (l:List Od) (v:Value) (g:Nat) (N:List Ent):Prop:=v=.tuple #[]∧∃ l' : List Od,l'.Perm l∧l'.Pairwise (fun a b=>a.n≤b.n)∧N=[⟨g,84,l'.flatMap odC⟩]
set_option maxHeartbeats 4000000 in
theorem c_insSort (l:List Od) (g c:Nat) (hn:l.length≤12) :
    FnL Tryz.prog 169 [.slice (some ⟨g,0,none⟩) l.length c,.int .i64 0,.int .i64 (l.length:Int),.func (.func 26) #[] #[]] [⟨g,84,l.flatMap odC⟩] Tr (fun v N=>PSort l.length l v g N):=by
  refine FnL.enter Tryz.func169 rfl rfl rfl ?_
  intro w hw
  repeat (first|refine Ta ?_|(refine Tm ?_;intro _)|refine Tc ?_|exact Tz)
  refine WC.loopI (σ:=Nat × List Od) (fun s=>1≤s.1∧s.1≤l.length+1∧s.2.Perm l∧Srt s.2 s.1) (fun s=>[(0,.slice (some ⟨g,0,none⟩) l.length c),(1,.int .i64 0),(2,.int .i64 (l.length:Int)),(3,.func (.func 26) #[] #[]),(8,.int .i64 (s.1:Int))]) (fun s=>[⟨g,84,s.2.flatMap odC⟩]) (fun s=>l.length+1 - s.1) (1,l) (fun s hi=>?_) ⟨Nat.le_refl _,by show 1≤l.length+1;omega,.refl _,fun a b h1 h2=>by omega⟩
  obtain⟨i,l1⟩:=s
  try dsimp only at hi ⊢
  obtain⟨hi1,hi2,hp1,hs1⟩:=hi
  by_cases hlt:i<l.length
  · have hadd2:IntKind.i64.wrap ((i:Int)+1)=((i+1:Nat):Int):=i64_in' (by omega) (by omega) (by omega)
    repeat (first|refine Ta ?_|(refine Tm ?_;intro _)|refine Tc ?_|exact Tz)
    refine WC.dT rfl (by omega) ?_
    repeat (first|refine Ta ?_|(refine Tm ?_;intro _)|refine Tc ?_|exact Tz)
    refine WC.loopI (σ:=Nat × List Od) (fun s=>s.1≤i∧s.2.Perm l∧Ins s.2 i s.1) (fun s=>[(0,.slice (some ⟨g,0,none⟩) l.length c),(1,.int .i64 0),(2,.int .i64 (l.length:Int)),(3,.func (.func 26) #[] #[]),(8,.int .i64 (i:Int)),(9,.int .i64 (s.1:Int))]) (fun s=>[⟨g,84,s.2.flatMap odC⟩]) (fun s=>s.1) (i,l1) (fun s hj=>?_) ⟨Nat.le_refl _,hp1,hs1.ins⟩
    obtain⟨j,l2⟩:=s
    try dsimp only at hj ⊢
    obtain⟨hji,hp2,hI⟩:=hj
    have hll:=hp2.length_eq
    rcases j with _|k
    · have hS:=hI.done hji (.inl rfl)
      repeat (first|refine Ta ?_|(refine Tm ?_;intro _)|refine Tc ?_|exact Tz)
      refine WC.adraw 17 (k:=?_)
      repeat (first|refine DQ.does (fun s _=>does_gtrN rfl rfl (by decide)) Dp.const ?_|refine Da ?_|refine Dc ?_)
      refine DQ.anil (k:=?_)
      intro sx _
      repeat (first|refine WO.does (does_add rfl rfl hadd2) ?_|refine Ta ?_|(refine Tm ?_;intro _)|refine Tc ?_|exact Tz)
      exact WX.metI (i+1,l2) (hs:=⟨⟨by show 1≤i+1;omega,by show i+1≤l.length+1;omega,hp2,hS⟩,by show l.length+1 - (i+1)<l.length+1 - i;omega⟩)
    · have hk1:k<l.length:=by omega
      have hk2:k+1<l.length:=by omega
      obtain⟨x,hx⟩ : ∃ y,l2[k]?=some y:=⟨_,List.getElem?_eq_getElem (by omega)⟩
      obtain⟨y,hy⟩ : ∃ y,l2[k+1]?=some y:=⟨_,List.getElem?_eq_getElem (by omega)⟩
      have hcx:=od_cut hx
      have hcy:=od_cut hy
      have hA:=c_ahead y x
      have hsub:IntKind.i64.wrap (((k+1:Nat):Int) - 1)=((k:Nat):Int):=by rw[show ((k+1:Nat):Int) - 1=((k:Nat):Int) by omega];exact i64_in (by omega) (by omega)
      have hgt:((k+1:Nat):Int) > 0:=by omega
      by_cases hc:y.n<x.n
      · have hyc:cmpU y.n x.n<0:=cmpU_neg.2 hc
        have hI2:=hI.swap hji hx hy hc
        have hp3:=(swap_perm hx hy).trans hp2
        have hov1:over (l2.flatMap odC) (0+(k+1)*15) (odC x)=(l2.set (k+1) x).flatMap odC:=by rw[Nat.zero_add];exact over_set odC_len (by omega)
        have hov2:over ((l2.set (k+1) x).flatMap odC) (0+k*15) (odC y)=((l2.set (k+1) x).set k y).flatMap odC:=by rw[Nat.zero_add];exact over_set odC_len (by rw[List.length_set];omega)
        have hln1:Nat.ble (0+(k+1)*15+15) (l2.flatMap odC).length=true:=Nat.ble_eq_true_of_le (by rw[flat_length odC_len];omega)
        have hln2:Nat.ble (0+k*15+15) ((l2.set (k+1) x).flatMap odC).length=true:=Nat.ble_eq_true_of_le (by rw[flat_length odC_len,List.length_set];omega)
        generalize hC2:((l2.set (k+1) x).set k y).flatMap odC=C2 at *
        generalize (l2.set (k+1) x).flatMap odC=C1 at *
        generalize l2.flatMap odC=C0 at *
        generalize cmpU y.n x.n=R at *
        repeat (first|refine Ta ?_|(refine Tm ?_;intro _)|refine Tc ?_|exact Tz)
        refine WC.adraw 17 (k:=?_)
        iterate 17 (first|refine DQ.does (fun s _=>does_gtrY rfl rfl hgt) Dp.const ?_|refine DQ.does (fun s _=>does_indexSlice (o':=0+(k+1)*15) rfl rfl hk2 rfl) Dp.const ?_|refine DQ.does (fun s _=>a_load (vs:=odC y) (hc:=hcy)) Dp.const ?_|refine DQ.does (fun s _=>does_indexSlice (o':=0+k*15) rfl rfl hk1 rfl) Dp.const ?_|refine DQ.does (fun s _=>a_load (vs:=odC x) (hc:=hcx)) Dp.const ?_|refine DQ.does (fun s _=>does_sub rfl rfl hsub) Dp.const ?_|refine DQ.acallV (hc:=hA) (k:=?_)|refine DQ.does (fun s _=>does_lssY rfl rfl hyc) Dp.const ?_|refine Da ?_|refine Dc ?_)
        refine DQ.anil (k:=?_)
        intro sx _
        repeat (first|refine Ta ?_|(refine Tm ?_;intro _)|refine Tc ?_|exact Tz)
        refine WC.mains [15,16,17] [(0,.slice (some ⟨g,0,none⟩) l.length c),(1,.int .i64 ((k+1:Nat):Int)),(2,.slice (some ⟨g,0,none⟩) l.length c),(3,.int .i64 ((k+1:Nat):Int)),(4,.int .i64 (k:Int)),(5,.slice (some ⟨g,0,none⟩) l.length c),(6,.int .i64 ((k+1:Nat):Int)),(7,.int .i64 (k:Int)),(8,.pointer (some ⟨g,0+k*15,none⟩)),(9,.agg (odC x).toArray),(10,.slice (some ⟨g,0,none⟩) l.length c),(11,.int .i64 ((k+1:Nat):Int)),(12,.pointer (some ⟨g,0+(k+1)*15,none⟩)),(13,.agg (odC y).toArray),(14,.pointer (some ⟨g,0+(k+1)*15,none⟩))] (by decide) ?_
        refine WM.with [⟨g,84,C0⟩] (by kernel_rfl) (Tls.auto (Tls.auto (Tls.auto (Tls.auto (Tls.auto (Tls.auto (Tls.auto (Tls.auto (Tls.auto (Tls.auto (Tls.auto (Tls.auto (Tls.auto (Tls.auto (Tls.auto Tls.nil (ho:=by rfl) (h:=by exact (does_indexSlice (o':=0+(k+1)*15) rfl rfl hk2 rfl))) (ho:=by rfl) (h:=by exact (a_load (vs:=odC y) (hc:=hcy)))) (ho:=by rfl) (h:=by exact (does_indexSlice (o':=0+(k+1)*15) rfl rfl hk2 rfl))))) (ho:=by rfl) (h:=by exact (a_load (vs:=odC x) (hc:=hcx)))) (ho:=by rfl) (h:=by exact (does_indexSlice (o':=0+k*15) rfl rfl hk1 rfl))) (ho:=by rfl) (h:=by exact (does_sub rfl rfl hsub))))) (ho:=by rfl) (h:=by exact (does_sub rfl rfl hsub))))))) (fun hc hT=>?_)
        refine WM.step (m:=15) rfl rfl hc hT ?_
        refine WO.stores (a_store (vs:=odC x) (cs':=C1) (hc:=hov1) (hle:=hln1)) ?_
        refine WO.nil (WX.wm [] ?_)
        refine WM.stepX (m:=16) (ex:=[9,13]) (Lc:=[]) (K0:=[(0,.slice (some ⟨g,0,none⟩) l.length c),(9,.int .i64 ((k+1:Nat):Int))]) rfl rfl hc (Tlx.auto (Tlx.auto (Tlx.auto (Tlx.auto (Tlx.auto (Tlx.auto (Tlx.auto (Tlx.auto (Tlx.auto (Tlx.done (by decide) (Tlx.auto (Tlx.auto (Tlx.auto (Tlx.done (by decide) (Tlx.auto Tlx.nil (ho:=by rfl) (h:=by exact (does_indexSlice (o':=0+(k+1)*15) rfl rfl hk2 rfl)))) (ho:=by rfl) (h:=by exact (does_indexSlice (o':=0+(k+1)*15) rfl rfl hk2 rfl)))))) (ho:=by rfl) (h:=by exact (does_indexSlice (o':=0+k*15) rfl rfl hk1 rfl))) (ho:=by rfl) (h:=by exact (does_sub rfl rfl hsub))))) (ho:=by rfl) (h:=by exact (does_sub rfl rfl hsub))))))) (hex_of (by decide) rfl (by kernel_rfl)) ?_
        refine WO.does (does_indexSlice (o':=0+k*15) rfl rfl hk1 rfl) ?_
        refine WO.nil (WX.wm [(52,.pointer (some ⟨g,0+k*15,none⟩))] ?_)
        refine WM.stepX (m:=17) (ex:=[9,13]) (Lc:=[]) (K0:=[(0,.slice (some ⟨g,0,none⟩) l.length c),(9,.int .i64 ((k+1:Nat):Int))]) rfl rfl hc (Tlx.auto (Tlx.auto (Tlx.auto (Tlx.auto (Tlx.auto (Tlx.auto (Tlx.auto (Tlx.auto (Tlx.auto (Tlx.done (by decide) (Tlx.auto (Tlx.auto (Tlx.auto (Tlx.done (by decide) (Tlx.auto Tlx.nil (ho:=by rfl) (h:=by exact (does_indexSlice (o':=0+(k+1)*15) rfl rfl hk2 rfl)))) (ho:=by rfl) (h:=by exact (does_indexSlice (o':=0+(k+1)*15) rfl rfl hk2 rfl)))))) (ho:=by rfl) (h:=by exact (does_indexSlice (o':=0+k*15) rfl rfl hk1 rfl))) (ho:=by rfl) (h:=by exact (does_sub rfl rfl hsub))))) (ho:=by rfl) (h:=by exact (does_sub rfl rfl hsub))))))) (hex_of (by decide) rfl (by kernel_rfl)) ?_
        refine WO.stores (a_store (vs:=odC y) (cs':=C2) (hc:=hov2) (hle:=hln2)) ?_
        refine WO.nil (WX.wm [] ?_)
        refine WM.fin (m:=17) hc rfl rfl (by rfl) ?_
        clear hc hT
        repeat (first|refine WO.does (does_sub rfl rfl hsub) ?_|refine Ta ?_|(refine Tm ?_;intro _)|refine Tc ?_|exact Tz)
        subst hC2
        exact WX.metI (k,(l2.set (k+1) x).set k y) (hs:=⟨⟨by show k≤i;omega,hp3,hI2⟩,by show k<k+1;omega⟩)
      · have hnc:¬ cmpU y.n x.n<0:=fun h=>hc (cmpU_neg.1 h)
        have hS:=hI.done hji (.inr ⟨k,rfl,by rw[keyO_at hx,keyO_at hy];omega⟩)
        generalize cmpU y.n x.n=R at *
        repeat (first|refine Ta ?_|(refine Tm ?_;intro _)|refine Tc ?_|exact Tz)
        refine WC.adraw 17 (k:=?_)
        iterate 17 (first|refine DQ.does (fun s _=>does_gtrY rfl rfl hgt) Dp.const ?_|refine DQ.does (fun s _=>does_indexSlice (o':=0+(k+1)*15) rfl rfl hk2 rfl) Dp.const ?_|refine DQ.does (fun s _=>a_load (vs:=odC y) (hc:=hcy)) Dp.const ?_|refine DQ.does (fun s _=>does_indexSlice (o':=0+k*15) rfl rfl hk1 rfl) Dp.const ?_|refine DQ.does (fun s _=>a_load (vs:=odC x) (hc:=hcx)) Dp.const ?_|refine DQ.does (fun s _=>does_sub rfl rfl hsub) Dp.const ?_|refine DQ.acallV (hc:=hA) (k:=?_)|refine DQ.does (fun s _=>does_lssN rfl rfl hnc) Dp.const ?_|refine Da ?_|refine Dc ?_)
        refine DQ.anil (k:=?_)
        intro sx _
        repeat (first|refine WO.does (does_add rfl rfl hadd2) ?_|refine Ta ?_|(refine Tm ?_;intro _)|refine Tc ?_|exact Tz)
        exact WX.metI (i+1,l2) (hs:=⟨⟨by show 1≤i+1;omega,by show i+1≤l.length+1;omega,hp2,hS⟩,by show l.length+1 - (i+1)<l.length+1 - i;omega⟩)
  · have hS:Srt l1 l1.length:=by
      have:=hp1.length_eq
      intro a b h1 h2
      exact hs1 a b h1 (by omega)
    repeat (first|refine Ta ?_|(refine Tm ?_;intro _)|refine Tc ?_|exact Tz)
    refine WC.dF rfl (by omega) ?_
    repeat (first|refine Ta ?_|(refine Tm ?_;intro _)|refine Tc ?_|exact Tz)
    exact WX.retP_ofN (resP0 rfl) (Lle.cons Pk.here rfl Lle.nil) ⟨rfl,l1,hp1,hS.pw,rfl⟩
theorem c_BitsLen (m:Nat) (hm:m<9223372036854775808):Fn Tryz.prog 98 [.int .u64 (m:Int)] Tr (Is (.int .i64 (bitsN m:Nat))):=.of fun w=>(Tryz.bits_Len (m:Int) w (by omega) (by omega)).mono fun e w' h=>by
  obtain⟨rfl,rfl⟩:=h
  refine⟨?_,Below.refl _ _⟩
  have:=bitLen_eq (x:=m) (by omega)
  rw[Int.toNat_natCast,this]
theorem c_pdq (l:List Od) (g c m:Nat) (hn:l.length≤12) :
    FnL Tryz.prog 97 [.slice (some ⟨g,0,none⟩) l.length c,.int .i64 0,.int .i64 (l.length:Int),.int .i64 (m:Int),.func (.func 26) #[] #[]] [⟨g,84,l.flatMap odC⟩] Tr (fun v N=>PSort l.length l v g N):=by
  have hI:=c_insSort l g c hn
  have hsub:IntKind.i64.wrap ((l.length:Int) - 0)=(l.length:Int):=by rw[Int.sub_zero];exact i64_in (by omega) (by omega)
  refine FnL.enter Tryz.func97 rfl rfl rfl ?_
  intro w hw
  repeat (first|refine WC.loopU 1 ?_|refine WO.does (does_sub rfl rfl hsub) ?_|refine WO.does (does_leqY rfl rfl (by omega)) ?_|refine Ta ?_|(refine Tm ?_;intro _)|refine Tc ?_|exact Tz)
  refine WO.callsL (hc:=hI) (hp:=.cons .here .nil) (fun _ _=>trivial) (fun v N hv=>?_)
  obtain⟨rfl,l',h1,h2,rfl⟩:=hv
  try dsimp only[List.cons_append,List.nil_append]
  repeat (first|refine Ta ?_|(refine Tm ?_;intro _)|refine Tc ?_|exact Tz)
  exact WX.retP_of (resP0 rfl) (Lle.cons Pk.here rfl Lle.nil) ⟨rfl,l',h1,h2,rfl⟩
theorem c_SortFunc (l:List Od) (g c:Nat) (hn:l.length≤12) :
    FnL Tryz.prog 25 [.slice (some ⟨g,0,none⟩) l.length c,.func (.func 26) #[] #[]] [⟨g,84,l.flatMap odC⟩] Tr (fun v N=>PSort l.length l v g N):=by
  have hcv:IntKind.u64.wrap (l.length:Int)=(l.length:Int):=u64_in (by omega) (by omega)
  have hL:=c_BitsLen l.length (by omega)
  have hP:=c_pdq l g c (bitsN l.length) hn
  refine FnL.enter Tryz.func25 rfl rfl rfl ?_
  intro w hw
  repeat (first|refine WO.does (does_conv rfl hcv) ?_|refine Ta ?_|(refine Tm ?_;intro _)|refine WO.acall (hc:=hL) (k:=?_)|refine Tc ?_|exact Tz)
  refine WO.callsL (hc:=hP) (hp:=.cons .here .nil) (fun _ _=>trivial) (fun v N hv=>?_)
  obtain⟨rfl,l',h1,h2,rfl⟩:=hv
  try dsimp only[List.cons_append,List.nil_append]
  repeat (first|refine Ta ?_|(refine Tm ?_;intro _)|refine Tc ?_|exact Tz)
  exact WX.retP_ofN (resP0 rfl) (Lle.cons Pk.here rfl Lle.nil) ⟨rfl,l',h1,h2,rfl⟩
end Sx
end Go.Proofs.YtiiacjladnljhaaGreatDoor
