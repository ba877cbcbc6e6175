/- Part 48 of the proof: BkI -/
import Derived.Test.YtmhligfnchegdaaGreatDoorM47
set_option linter.unusedSimpArgs false
set_option linter.unusedVariables false
namespace Go.Proofs.YtmhligfnchegdaaGreatDoor
open Go Go.RowKit Go.BigFrame
namespace Sx
attribute [local irreducible] wd DQ DQS WO WC WX
theorem Seg.front {w:World} {b o:Nat} {A B:List Value} (h:Seg w b o (A++B)):Seg w b o A:=fun i v hv=>h i v (by
  rw[List.getElem?_append_left (by
    rcases Nat.lt_or_ge i A.length with h1|h1
    · exact h1
    · rw[List.getElem?_eq_none h1] at hv;cases hv)]
  exact hv)
theorem Mr.seg {w0 w:World} {gs:List Nat} {L:List Ent} {e:Ent} (hm:Mr w0 gs L w) (h:e∈L):Seg w e.g 0 e.cs:=by
  have:=(hm.ok _ h).seg 0
  simpa using this
theorem fill_gs {T:Nat} {M:Nat→List Value} {E:Nat→HE}:(fun k=>((E k).fill M).L T)=(fun k=>gsL T (M (E k).m) (E k) .A 0):=by
  funext k
  generalize E k=e
  obtain⟨b,n,c,cs,m⟩:=e
  cases b<;>rfl
section
open Classical
theorem permN {a b c d:Ent} {X Z:List Ent}:(a::b::c::d::(X++Z)).Perm ((a::b::X)++(c::d::Z)):=by
  refine List.perm_iff_count.2 fun e=>?_
  simp only[List.count_cons,List.count_append,List.cons_append]
  omega
theorem permK {a b c d:Ent} {X Y Z:List Ent}:(a::b::c::d::(X++(Y++Z))).Perm ((a::c::Y)++(b::d::(X++Z))):=by
  refine List.perm_iff_count.2 fun e=>?_
  simp only[List.count_cons,List.count_append,List.cons_append]
  omega
theorem permP {a b c d:Ent} {X Y Z:List Ent}:(a::b::c::d::(X++(Y++Z))).Perm ((a::d::Z)++(b::c::(X++Y))):=by
  refine List.perm_iff_count.2 fun e=>?_
  simp only[List.count_cons,List.count_append,List.cons_append]
  omega
end
def gsB:GS→Nat
  | .A=>0
  | .B g _ _ _=>g
def gsC:GS→Nat
  | .A=>0
  | .B _ c _ _=>c
theorem gs_grown {M:List Value} {e:HE} {s:GS} {z:Nat} (h:gsOk M e s 40) (he:e.ok z):∃ g c r cs,s=.B g c r cs:=by
  cases s with
  | A =>
    have h1:e.n+40≤e.c:=h
    have:=he.room
    omega
  | B g c r cs=>exact⟨g,c,r,cs,rfl⟩
theorem heG_eq {M:Nat→List Value} {E:Nat→HE} {st:Nat→GS} {n z:Nat} (hs:∀ k,k<n→gsOk (M (E k).m) (E k) (st k) 40) (hE:∀ k,k<n→(E k).ok z) :
    (List.range n).flatMap (fun k=>heG (E k) (st k))=(List.range n).flatMap (fun k=>[.slice ((E k).b.map fun b=>⟨b,0,none⟩) (E k).n (E k).c,.slice (some ⟨gsB (st k),0,none⟩) ((E k).n+40) (gsC (st k)),.int .i64 ((E k).m:Int)]):=by
  refine flat_congr fun k hk=>?_
  obtain⟨g,c,r,cs,e⟩:=gs_grown (hs k (List.mem_range.1 hk)) (hE k (List.mem_range.1 hk))
  rw[e]
  rfl
theorem grown_seg {T:Nat} {M:Nat→List Value} {E:Nat→HE} {st:Nat→GS} {n z:Nat} {w0 w:World} {gs:List Nat} {L:List Ent} (hm:Mr w0 gs L w) (hL:∀ x∈(List.range n).flatMap (fun k=>gsL T (M (E k).m) (E k) (st k) 40),x∈L)
    (hs:∀ k,k<n→gsOk (M (E k).m) (E k) (st k) 40) (hE:∀ k,k<n→(E k).ok z) :
    ∀ k,k<n→Seg w (gsB (st k)) 0 (mkz ((E k).n+40) (M (E k).m))∧((E k).n=0∨∃ b,((E k).b.map fun b=>(⟨b,0,none⟩ : Addr))=some ⟨b,0,none⟩∧Seg w b 0 (mkz (E k).n (M (E k).m))):=by
  intro k hk
  have hmem:∀ x∈gsL T (M (E k).m) (E k) (st k) 40,x∈L:=fun x hx=>hL x (List.mem_flatMap.2 ⟨k,List.mem_range.2 hk,hx⟩)
  obtain⟨g,c,r,cs,e⟩:=gs_grown (hs k hk) (hE k hk)
  have hok:=hE k hk
  rw[e] at hmem ⊢
  generalize E k=e at *
  obtain⟨b,n,c2,cs2,m⟩:=e
  have h1:=hm.seg (hmem ⟨g,T,mkz (n+40) (M m)++r⟩ (by simp[gsL]))
  refine⟨h1.front,?_⟩
  cases b with
  | none=>exact .inl (hok.nil rfl).1
  | some b =>
    have h2:=hm.seg (hmem ⟨b,T,mkz n (M m)++cs⟩ (by simp[gsL]))
    exact .inr ⟨b,rfl,h2.front⟩
section
variable {P:Program} {w0:World} {gs:List Nat} {n:Nat} {ops:List Oper} {Q:Exit→Act→World→Prop} {K:List (Nat × Value)} {L:List Ent} {rest:List Oper}
variable {d:Nat} {ty:TypeId} {pos:String} {after:Array Edge} {gd:Option (Nat × Bool)}
theorem WO.callK {f:FuncId} [Cal P f] {xs:Array Operand} {ats:Array TypeId} {ar:List Value} {Rq:World→Prop} (hc:FnL P f ar [] Rq (fun v N=>v=.tuple #[]∧N=[]))
    (hR:∀ w,Mr w0 gs L w→Rq w) (k:WO P w0 gs n ops Q ((d,.tuple #[])::K) L rest) (ha:evs K xs.toList=some ar:=by rfl) (hd:Nat.blt d n=true:=by rfl) (hw:wk ops K gd=some true:=by rfl) :
    WO P w0 gs n ops Q K L (⟨some d,.call { callee:=.value (.func f),args:=xs,argTypes:=ats },ty,pos,after,gd⟩::rest) :=
  WO.callsL hc hR (fun v N ⟨e1,e2⟩=>by subst e1 e2;exact k) ha .nil hd hw
theorem WO.callP {f:FuncId} [Cal P f] {xs:Array Operand} {ats:Array TypeId} {ar:List Value} {M R:List Ent} {post:Value→List Ent→Prop} (hp:L.Perm (M++R)) (hc:FnL P f ar M Tr post)
    (k:∀ v N,post v N→WO P w0 gs n ops Q ((d,v)::K) (N++R) rest) (ha:evs K xs.toList=some ar:=by rfl) (hd:Nat.blt d n=true:=by rfl) (hw:wk ops K gd=some true:=by rfl) :
    WO P w0 gs n ops Q K L (⟨some d,.call { callee:=.value (.func f),args:=xs,argTypes:=ats },ty,pos,after,gd⟩::rest) :=
  WO.permL hp (WO.callsL hc (fun _ _=>trivial) k ha Pks.app hd hw)
end
section
variable (m bk gN nN cN gK nK cK gP nP cP:Nat) (EN EK EP:Nat→HE) (rN rK rP:List Value)
set_option maxHeartbeats 8000000 in
theorem k_Apart (hN:nN<1000) (hK:nK<1000) (hP:nP<1000) (oN:∀ k,k<nN→(EN k).ok 4) (oK:∀ k,k<nK→(EK k).ok 8) (oP:∀ k,k<nP→(EP k).ok 8) :
    FnL Tryz.prog 17 [pt bk] (⟨bk,66,bkC m (.slice (some ⟨gN,0,none⟩) nN cN) (.slice (some ⟨gK,0,none⟩) nK cK) (.slice (some ⟨gP,0,none⟩) nP cP) (.slice none 0 0)⟩::⟨gN,138,(List.range nN).flatMap (fun k=>(EN k).row)++rN⟩::⟨gK,162,(List.range nK).flatMap (fun k=>(EK k).row)++rK⟩::⟨gP,165,(List.range nP).flatMap (fun k=>(EP k).row)++rP⟩ ::
      ((List.range nN).flatMap (fun k=>(EN k).L 24)++((List.range nK).flatMap (fun k=>(EK k).L 76)++(List.range nP).flatMap (fun k=>(EP k).L 87)))) Tr (fun v N=>v=.bool true):=by
  refine FnL.enter Tryz.func17 rfl rfl rfl ?_
  intro w hw
  generalize List.map Ent.g _=gs
  repeat (first|refine Ta ?_|(refine Tm ?_;intro _)|refine Tc ?_|exact Tz)
  refine WO.callK (hc:=k_fillByte m (.slice (some ⟨gN,0,none⟩) nN cN) (.slice (some ⟨gK,0,none⟩) nK cK) (.slice (some ⟨gP,0,none⟩) nP cP) (.slice none 0 0) bk) (hR:=fun w1 hm=>Hs.seg Hs.here hm) (k:=?_)
  repeat (first|refine Ta ?_|(refine Tm ?_;intro _)|refine Tc ?_|exact Tz)
  refine WO.callK (hc:=k_fillInt m (.slice (some ⟨gN,0,none⟩) nN cN) (.slice (some ⟨gK,0,none⟩) nK cK) (.slice (some ⟨gP,0,none⟩) nP cP) (.slice none 0 0) bk) (hR:=fun w1 hm=>Hs.seg Hs.here hm) (k:=?_)
  repeat (first|refine Ta ?_|(refine Tm ?_;intro _)|refine Tc ?_|exact Tz)
  refine WO.callK (hc:=k_fillText m (.slice (some ⟨gN,0,none⟩) nN cN) (.slice (some ⟨gK,0,none⟩) nK cK) (.slice (some ⟨gP,0,none⟩) nP cP) (.slice none 0 0) bk) (hR:=fun w1 hm=>Hs.seg Hs.here hm) (k:=?_)
  repeat (first|refine Ta ?_|(refine Tm ?_;intro _)|refine Tc ?_|exact Tz)
  refine WO.callP permN (hc:=k_fillNum m (.slice (some ⟨gK,0,none⟩) nK cK) (.slice (some ⟨gP,0,none⟩) nP cP) (.slice none 0 0) bk gN cN nN EN rN hN oN) (fun v N hp=>?_)
  obtain⟨rfl,rfl⟩:=hp
  refine WO.permL permN.symm ?_
  rw[fill_gs (M:=numC)]
  repeat (first|refine Ta ?_|(refine Tm ?_;intro _)|refine Tc ?_|exact Tz)
  refine WO.callK (hc:=k_fillHash m (.slice (some ⟨gN,0,none⟩) nN cN) (.slice (some ⟨gK,0,none⟩) nK cK) (.slice (some ⟨gP,0,none⟩) nP cP) (.slice none 0 0) bk) (hR:=fun w1 hm=>Hs.seg Hs.here hm) (k:=?_)
  repeat (first|refine Ta ?_|(refine Tm ?_;intro _)|refine Tc ?_|exact Tz)
  refine WO.callK (hc:=k_fillReason m (.slice (some ⟨gN,0,none⟩) nN cN) (.slice (some ⟨gK,0,none⟩) nK cK) (.slice (some ⟨gP,0,none⟩) nP cP) (.slice none 0 0) bk) (hR:=fun w1 hm=>Hs.seg Hs.here hm) (k:=?_)
  repeat (first|refine Ta ?_|(refine Tm ?_;intro _)|refine Tc ?_|exact Tz)
  refine WO.callP permK (hc:=k_fillKey m (.slice (some ⟨gN,0,none⟩) nN cN) (.slice (some ⟨gP,0,none⟩) nP cP) (.slice none 0 0) bk gK cK nK EK rK hK oK) (fun v N hp=>?_)
  obtain⟨rfl,rfl⟩:=hp
  refine WO.permL permK.symm ?_
  rw[fill_gs (M:=mkC)]
  repeat (first|refine Ta ?_|(refine Tm ?_;intro _)|refine Tc ?_|exact Tz)
  refine WO.callP permP (hc:=k_fillProof m (.slice (some ⟨gN,0,none⟩) nN cN) (.slice (some ⟨gK,0,none⟩) nK cK) (.slice none 0 0) bk gP cP nP EP rP hP oP) (fun v N hp=>?_)
  obtain⟨rfl,rfl⟩:=hp
  refine WO.permL permP.symm ?_
  rw[fill_gs (M:=mkC)]
  repeat (first|refine Ta ?_|(refine Tm ?_;intro _)|refine Tc ?_|exact Tz)
  refine WO.callK (hc:=k_fillDealing m (.slice (some ⟨gN,0,none⟩) nN cN) (.slice (some ⟨gK,0,none⟩) nK cK) (.slice (some ⟨gP,0,none⟩) nP cP) (.slice none 0 0) bk) (hR:=fun w1 hm=>Hs.seg Hs.here hm) (k:=?_)
  repeat (first|refine Ta ?_|(refine Tm ?_;intro _)|refine Tc ?_|exact Tz)
  refine WO.callK (hc:=k_fillOpened m (.slice (some ⟨gN,0,none⟩) nN cN) (.slice (some ⟨gK,0,none⟩) nK cK) (.slice (some ⟨gP,0,none⟩) nP cP) bk) (hR:=fun w1 hm=>Hs.seg Hs.here hm) (k:=?_)
  repeat (first|refine Ta ?_|(refine Tm ?_;intro _)|refine Tc ?_|exact Tz)
  refine WO.callK (hc:=k_fillShown m (.slice (some ⟨gN,0,none⟩) nN cN) (.slice (some ⟨gK,0,none⟩) nK cK) (.slice (some ⟨gP,0,none⟩) nP cP) (.slice none 0 0) bk) (hR:=fun w1 hm=>Hs.seg Hs.here hm) (k:=?_)
  repeat (first|refine Ta ?_|(refine Tm ?_;intro _)|refine Tc ?_|exact Tz)
  refine WO.callK (hc:=k_fillVote m (.slice (some ⟨gN,0,none⟩) nN cN) (.slice (some ⟨gK,0,none⟩) nK cK) (.slice (some ⟨gP,0,none⟩) nP cP) (.slice none 0 0) bk) (hR:=fun w1 hm=>Hs.seg Hs.here hm) (k:=?_)
  repeat (first|refine Ta ?_|(refine Tm ?_;intro _)|refine Tc ?_|exact Tz)
  refine WO.callK (hc:=k_fillBlock m (.slice (some ⟨gN,0,none⟩) nN cN) (.slice (some ⟨gK,0,none⟩) nK cK) (.slice (some ⟨gP,0,none⟩) nP cP) (.slice none 0 0) bk) (hR:=fun w1 hm=>Hs.seg Hs.here hm) (k:=?_)
  repeat (first|refine Ta ?_|(refine Tm ?_;intro _)|refine Tc ?_|exact Tz)
  refine WO.callK (hc:=k_fillEvidence m (.slice (some ⟨gN,0,none⟩) nN cN) (.slice (some ⟨gK,0,none⟩) nK cK) (.slice (some ⟨gP,0,none⟩) nP cP) (.slice none 0 0) bk) (hR:=fun w1 hm=>Hs.seg Hs.here hm) (k:=?_)
  repeat (first|refine Ta ?_|(refine Tm ?_;intro _)|refine Tc ?_|exact Tz)
  refine WO.callK (hc:=k_fillMsg m (.slice (some ⟨gN,0,none⟩) nN cN) (.slice (some ⟨gK,0,none⟩) nK cK) (.slice (some ⟨gP,0,none⟩) nP cP) (.slice none 0 0) bk) (hR:=fun w1 hm=>Hs.seg Hs.here hm) (k:=?_)
  repeat (first|refine Ta ?_|(refine Tm ?_;intro _)|refine Tc ?_|exact Tz)
  refine WO.callK (hc:=k_fillFrame m (.slice (some ⟨gN,0,none⟩) nN cN) (.slice (some ⟨gK,0,none⟩) nK cK) (.slice (some ⟨gP,0,none⟩) nP cP) (.slice none 0 0) bk) (hR:=fun w1 hm=>Hs.seg Hs.here hm) (k:=?_)
  repeat (first|refine Ta ?_|(refine Tm ?_;intro _)|refine Tc ?_|exact Tz)
  refine WO.callK (hc:=k_fillRecord m (.slice (some ⟨gN,0,none⟩) nN cN) (.slice (some ⟨gK,0,none⟩) nK cK) (.slice (some ⟨gP,0,none⟩) nP cP) (.slice none 0 0) bk) (hR:=fun w1 hm=>Hs.seg Hs.here hm) (k:=?_)
  repeat (first|refine Ta ?_|(refine Tm ?_;intro _)|refine Tc ?_|exact Tz)
  refine WO.callK (hc:=k_growByte m (.slice (some ⟨gN,0,none⟩) nN cN) (.slice (some ⟨gK,0,none⟩) nK cK) (.slice (some ⟨gP,0,none⟩) nP cP) (.slice none 0 0) bk) (hR:=fun w1 hm=>Hs.seg Hs.here hm) (k:=?_)
  repeat (first|refine Ta ?_|(refine Tm ?_;intro _)|refine Tc ?_|exact Tz)
  refine WO.callK (hc:=k_growInt m (.slice (some ⟨gN,0,none⟩) nN cN) (.slice (some ⟨gK,0,none⟩) nK cK) (.slice (some ⟨gP,0,none⟩) nP cP) (.slice none 0 0) bk) (hR:=fun w1 hm=>Hs.seg Hs.here hm) (k:=?_)
  repeat (first|refine Ta ?_|(refine Tm ?_;intro _)|refine Tc ?_|exact Tz)
  refine WO.callK (hc:=k_growText m (.slice (some ⟨gN,0,none⟩) nN cN) (.slice (some ⟨gK,0,none⟩) nK cK) (.slice (some ⟨gP,0,none⟩) nP cP) (.slice none 0 0) bk) (hR:=fun w1 hm=>Hs.seg Hs.here hm) (k:=?_)
  repeat (first|refine Ta ?_|(refine Tm ?_;intro _)|refine Tc ?_|exact Tz)
  refine WO.callP permN (hc:=k_growNum m (.slice (some ⟨gK,0,none⟩) nK cK) (.slice (some ⟨gP,0,none⟩) nP cP) (.slice none 0 0) bk gN cN nN EN rN hN oN) (fun v N hp=>?_)
  obtain⟨rfl,sN,tN,rfl⟩:=hp
  refine WO.permL permN.symm ?_
  repeat (first|refine Ta ?_|(refine Tm ?_;intro _)|refine Tc ?_|exact Tz)
  refine WO.callK (hc:=k_growHash m (.slice (some ⟨gN,0,none⟩) nN cN) (.slice (some ⟨gK,0,none⟩) nK cK) (.slice (some ⟨gP,0,none⟩) nP cP) (.slice none 0 0) bk) (hR:=fun w1 hm=>Hs.seg Hs.here hm) (k:=?_)
  repeat (first|refine Ta ?_|(refine Tm ?_;intro _)|refine Tc ?_|exact Tz)
  refine WO.callK (hc:=k_growReason m (.slice (some ⟨gN,0,none⟩) nN cN) (.slice (some ⟨gK,0,none⟩) nK cK) (.slice (some ⟨gP,0,none⟩) nP cP) (.slice none 0 0) bk) (hR:=fun w1 hm=>Hs.seg Hs.here hm) (k:=?_)
  repeat (first|refine Ta ?_|(refine Tm ?_;intro _)|refine Tc ?_|exact Tz)
  refine WO.callP permK (hc:=k_growKey m (.slice (some ⟨gN,0,none⟩) nN cN) (.slice (some ⟨gP,0,none⟩) nP cP) (.slice none 0 0) bk gK cK nK EK rK hK oK) (fun v N hp=>?_)
  obtain⟨rfl,sK,tK,rfl⟩:=hp
  refine WO.permL permK.symm ?_
  repeat (first|refine Ta ?_|(refine Tm ?_;intro _)|refine Tc ?_|exact Tz)
  refine WO.callP permP (hc:=k_growProof m (.slice (some ⟨gN,0,none⟩) nN cN) (.slice (some ⟨gK,0,none⟩) nK cK) (.slice none 0 0) bk gP cP nP EP rP hP oP) (fun v N hp=>?_)
  obtain⟨rfl,sP,tP,rfl⟩:=hp
  refine WO.permL permP.symm ?_
  repeat (first|refine Ta ?_|(refine Tm ?_;intro _)|refine Tc ?_|exact Tz)
  refine WO.callK (hc:=k_growDealing m (.slice (some ⟨gN,0,none⟩) nN cN) (.slice (some ⟨gK,0,none⟩) nK cK) (.slice (some ⟨gP,0,none⟩) nP cP) (.slice none 0 0) bk) (hR:=fun w1 hm=>Hs.seg Hs.here hm) (k:=?_)
  repeat (first|refine Ta ?_|(refine Tm ?_;intro _)|refine Tc ?_|exact Tz)
  refine WO.callK (hc:=k_growOpened m (.slice (some ⟨gN,0,none⟩) nN cN) (.slice (some ⟨gK,0,none⟩) nK cK) (.slice (some ⟨gP,0,none⟩) nP cP) bk) (hR:=fun w1 hm=>Hs.seg Hs.here hm) (k:=?_)
  repeat (first|refine Ta ?_|(refine Tm ?_;intro _)|refine Tc ?_|exact Tz)
  refine WO.callK (hc:=k_growShown m (.slice (some ⟨gN,0,none⟩) nN cN) (.slice (some ⟨gK,0,none⟩) nK cK) (.slice (some ⟨gP,0,none⟩) nP cP) (.slice none 0 0) bk) (hR:=fun w1 hm=>Hs.seg Hs.here hm) (k:=?_)
  repeat (first|refine Ta ?_|(refine Tm ?_;intro _)|refine Tc ?_|exact Tz)
  refine WO.callK (hc:=k_growVote m (.slice (some ⟨gN,0,none⟩) nN cN) (.slice (some ⟨gK,0,none⟩) nK cK) (.slice (some ⟨gP,0,none⟩) nP cP) (.slice none 0 0) bk) (hR:=fun w1 hm=>Hs.seg Hs.here hm) (k:=?_)
  repeat (first|refine Ta ?_|(refine Tm ?_;intro _)|refine Tc ?_|exact Tz)
  refine WO.callK (hc:=k_growBlock m (.slice (some ⟨gN,0,none⟩) nN cN) (.slice (some ⟨gK,0,none⟩) nK cK) (.slice (some ⟨gP,0,none⟩) nP cP) (.slice none 0 0) bk) (hR:=fun w1 hm=>Hs.seg Hs.here hm) (k:=?_)
  repeat (first|refine Ta ?_|(refine Tm ?_;intro _)|refine Tc ?_|exact Tz)
  refine WO.callK (hc:=k_growEvidence m (.slice (some ⟨gN,0,none⟩) nN cN) (.slice (some ⟨gK,0,none⟩) nK cK) (.slice (some ⟨gP,0,none⟩) nP cP) (.slice none 0 0) bk) (hR:=fun w1 hm=>Hs.seg Hs.here hm) (k:=?_)
  repeat (first|refine Ta ?_|(refine Tm ?_;intro _)|refine Tc ?_|exact Tz)
  refine WO.callK (hc:=k_growMsg m (.slice (some ⟨gN,0,none⟩) nN cN) (.slice (some ⟨gK,0,none⟩) nK cK) (.slice (some ⟨gP,0,none⟩) nP cP) (.slice none 0 0) bk) (hR:=fun w1 hm=>Hs.seg Hs.here hm) (k:=?_)
  repeat (first|refine Ta ?_|(refine Tm ?_;intro _)|refine Tc ?_|exact Tz)
  refine WO.callK (hc:=k_growFrame m (.slice (some ⟨gN,0,none⟩) nN cN) (.slice (some ⟨gK,0,none⟩) nK cK) (.slice (some ⟨gP,0,none⟩) nP cP) (.slice none 0 0) bk) (hR:=fun w1 hm=>Hs.seg Hs.here hm) (k:=?_)
  repeat (first|refine Ta ?_|(refine Tm ?_;intro _)|refine Tc ?_|exact Tz)
  refine WO.callK (hc:=k_growRecord m (.slice (some ⟨gN,0,none⟩) nN cN) (.slice (some ⟨gK,0,none⟩) nK cK) (.slice (some ⟨gP,0,none⟩) nP cP) (.slice none 0 0) bk) (hR:=fun w1 hm=>Hs.seg Hs.here hm) (k:=?_)
  rw[heG_eq (M:=numC) tN oN,heG_eq (M:=mkC) tK oK,heG_eq (M:=mkC) tP oP]
  repeat (first|refine Ta ?_|(refine Tm ?_;intro _)|refine Tc ?_|exact Tz)
  refine WO.acallR (hc:=k_lookByte m (.slice (some ⟨gN,0,none⟩) nN cN) (.slice (some ⟨gK,0,none⟩) nK cK) (.slice (some ⟨gP,0,none⟩) nP cP) (.slice none 0 0) bk) (hR:=fun w1 hm=>Hs.seg Hs.here hm) (k:=?_)
  repeat (first|refine Ta ?_|(refine Tm ?_;intro _)|refine Tc ?_|exact Tz)
  refine WO.acallR (hc:=k_lookInt m (.slice (some ⟨gN,0,none⟩) nN cN) (.slice (some ⟨gK,0,none⟩) nK cK) (.slice (some ⟨gP,0,none⟩) nP cP) (.slice none 0 0) bk) (hR:=fun w1 hm=>Hs.seg Hs.here hm) (k:=?_)
  repeat (first|refine Ta ?_|(refine Tm ?_;intro _)|refine Tc ?_|exact Tz)
  refine WO.acallR (hc:=k_lookText m (.slice (some ⟨gN,0,none⟩) nN cN) (.slice (some ⟨gK,0,none⟩) nK cK) (.slice (some ⟨gP,0,none⟩) nP cP) (.slice none 0 0) bk) (hR:=fun w1 hm=>Hs.seg Hs.here hm) (k:=?_)
  repeat (first|refine Ta ?_|(refine Tm ?_;intro _)|refine Tc ?_|exact Tz)
  refine WO.acallR (hc:=k_lookNum m (.slice (some ⟨gK,0,none⟩) nK cK) (.slice (some ⟨gP,0,none⟩) nP cP) (.slice none 0 0) bk gN cN nN (fun k=>(EN k).b.map fun b=>⟨b,0,none⟩) (fun k=>(EN k).n) (fun k=>(EN k).c) (fun k=>gsB (sN k)) (fun k=>gsC (sN k)) (fun k=>(EN k).m) rN hN (fun k hk=>⟨(oN k hk).most,(oN k hk).mark⟩)) (hR:=fun w1 hm=>⟨Hs.seg Hs.here hm,Hs.seg (.there .here) hm,grown_seg (T:=24) (M:=numC) hm (fun x hx=>by simp only[List.mem_cons,List.mem_append];simp only[hx,true_or,or_true]) tN oN⟩) (k:=?_)
  repeat (first|refine Ta ?_|(refine Tm ?_;intro _)|refine Tc ?_|exact Tz)
  refine WO.acallR (hc:=k_lookHash m (.slice (some ⟨gN,0,none⟩) nN cN) (.slice (some ⟨gK,0,none⟩) nK cK) (.slice (some ⟨gP,0,none⟩) nP cP) (.slice none 0 0) bk) (hR:=fun w1 hm=>Hs.seg Hs.here hm) (k:=?_)
  repeat (first|refine Ta ?_|(refine Tm ?_;intro _)|refine Tc ?_|exact Tz)
  refine WO.acallR (hc:=k_lookReason m (.slice (some ⟨gN,0,none⟩) nN cN) (.slice (some ⟨gK,0,none⟩) nK cK) (.slice (some ⟨gP,0,none⟩) nP cP) (.slice none 0 0) bk) (hR:=fun w1 hm=>Hs.seg Hs.here hm) (k:=?_)
  repeat (first|refine Ta ?_|(refine Tm ?_;intro _)|refine Tc ?_|exact Tz)
  refine WO.acallR (hc:=k_lookKey m (.slice (some ⟨gN,0,none⟩) nN cN) (.slice (some ⟨gP,0,none⟩) nP cP) (.slice none 0 0) bk gK cK nK (fun k=>(EK k).b.map fun b=>⟨b,0,none⟩) (fun k=>(EK k).n) (fun k=>(EK k).c) (fun k=>gsB (sK k)) (fun k=>gsC (sK k)) (fun k=>(EK k).m) rK hK (fun k hk=>⟨(oK k hk).most,(oK k hk).mark⟩)) (hR:=fun w1 hm=>⟨Hs.seg Hs.here hm,Hs.seg (.there (.there .here)) hm,grown_seg (T:=76) (M:=mkC) hm (fun x hx=>by simp only[List.mem_cons,List.mem_append];simp only[hx,true_or,or_true]) tK oK⟩) (k:=?_)
  repeat (first|refine Ta ?_|(refine Tm ?_;intro _)|refine Tc ?_|exact Tz)
  refine WO.acallR (hc:=k_lookProof m (.slice (some ⟨gN,0,none⟩) nN cN) (.slice (some ⟨gK,0,none⟩) nK cK) (.slice none 0 0) bk gP cP nP (fun k=>(EP k).b.map fun b=>⟨b,0,none⟩) (fun k=>(EP k).n) (fun k=>(EP k).c) (fun k=>gsB (sP k)) (fun k=>gsC (sP k)) (fun k=>(EP k).m) rP hP (fun k hk=>⟨(oP k hk).most,(oP k hk).mark⟩)) (hR:=fun w1 hm=>⟨Hs.seg Hs.here hm,Hs.seg (.there (.there (.there .here))) hm,grown_seg (T:=87) (M:=mkC) hm (fun x hx=>by simp only[List.mem_cons,List.mem_append];simp only[hx,true_or,or_true]) tP oP⟩) (k:=?_)
  repeat (first|refine Ta ?_|(refine Tm ?_;intro _)|refine Tc ?_|exact Tz)
  refine WO.acallR (hc:=k_lookDealing m (.slice (some ⟨gN,0,none⟩) nN cN) (.slice (some ⟨gK,0,none⟩) nK cK) (.slice (some ⟨gP,0,none⟩) nP cP) (.slice none 0 0) bk) (hR:=fun w1 hm=>Hs.seg Hs.here hm) (k:=?_)
  repeat (first|refine Ta ?_|(refine Tm ?_;intro _)|refine Tc ?_|exact Tz)
  refine WO.acallR (hc:=k_lookOpened m (.slice (some ⟨gN,0,none⟩) nN cN) (.slice (some ⟨gK,0,none⟩) nK cK) (.slice (some ⟨gP,0,none⟩) nP cP) bk) (hR:=fun w1 hm=>Hs.seg Hs.here hm) (k:=?_)
  repeat (first|refine Ta ?_|(refine Tm ?_;intro _)|refine Tc ?_|exact Tz)
  refine WO.acallR (hc:=k_lookShown m (.slice (some ⟨gN,0,none⟩) nN cN) (.slice (some ⟨gK,0,none⟩) nK cK) (.slice (some ⟨gP,0,none⟩) nP cP) (.slice none 0 0) bk) (hR:=fun w1 hm=>Hs.seg Hs.here hm) (k:=?_)
  repeat (first|refine Ta ?_|(refine Tm ?_;intro _)|refine Tc ?_|exact Tz)
  refine WO.acallR (hc:=k_lookVote m (.slice (some ⟨gN,0,none⟩) nN cN) (.slice (some ⟨gK,0,none⟩) nK cK) (.slice (some ⟨gP,0,none⟩) nP cP) (.slice none 0 0) bk) (hR:=fun w1 hm=>Hs.seg Hs.here hm) (k:=?_)
  repeat (first|refine Ta ?_|(refine Tm ?_;intro _)|refine Tc ?_|exact Tz)
  refine WO.acallR (hc:=k_lookBlock m (.slice (some ⟨gN,0,none⟩) nN cN) (.slice (some ⟨gK,0,none⟩) nK cK) (.slice (some ⟨gP,0,none⟩) nP cP) (.slice none 0 0) bk) (hR:=fun w1 hm=>Hs.seg Hs.here hm) (k:=?_)
  repeat (first|refine Ta ?_|(refine Tm ?_;intro _)|refine Tc ?_|exact Tz)
  refine WO.acallR (hc:=k_lookEvidence m (.slice (some ⟨gN,0,none⟩) nN cN) (.slice (some ⟨gK,0,none⟩) nK cK) (.slice (some ⟨gP,0,none⟩) nP cP) (.slice none 0 0) bk) (hR:=fun w1 hm=>Hs.seg Hs.here hm) (k:=?_)
  repeat (first|refine Ta ?_|(refine Tm ?_;intro _)|refine Tc ?_|exact Tz)
  refine WO.acallR (hc:=k_lookMsg m (.slice (some ⟨gN,0,none⟩) nN cN) (.slice (some ⟨gK,0,none⟩) nK cK) (.slice (some ⟨gP,0,none⟩) nP cP) (.slice none 0 0) bk) (hR:=fun w1 hm=>Hs.seg Hs.here hm) (k:=?_)
  repeat (first|refine Ta ?_|(refine Tm ?_;intro _)|refine Tc ?_|exact Tz)
  refine WO.acallR (hc:=k_lookFrame m (.slice (some ⟨gN,0,none⟩) nN cN) (.slice (some ⟨gK,0,none⟩) nK cK) (.slice (some ⟨gP,0,none⟩) nP cP) (.slice none 0 0) bk) (hR:=fun w1 hm=>Hs.seg Hs.here hm) (k:=?_)
  repeat (first|refine Ta ?_|(refine Tm ?_;intro _)|refine Tc ?_|exact Tz)
  refine WO.acallR (hc:=k_lookRecord m (.slice (some ⟨gN,0,none⟩) nN cN) (.slice (some ⟨gK,0,none⟩) nK cK) (.slice (some ⟨gP,0,none⟩) nP cP) (.slice none 0 0) bk) (hR:=fun w1 hm=>Hs.seg Hs.here hm) (k:=?_)
  repeat (first|refine Ta ?_|(refine Tm ?_;intro _)|refine Tc ?_|exact Tz)
  exact WX.retP_of (resP1 rfl (by exact rv_tmp rfl)) Lle.nil rfl
end
end Sx
end Go.Proofs.YtmhligfnchegdaaGreatDoor
