/- Part 46 of the proof: BkK -/
import Derived.Test.YtiiacjladnljhaaGreatDoorM45
set_option linter.unusedSimpArgs false
set_option linter.unusedVariables false
namespace Go.Proofs.YtiiacjladnljhaaGreatDoor
open Go Go.RowKit Go.BigFrame
namespace Sx
attribute [local irreducible] wd DQ DQS WO WC WX
section
variable (m bk gN nN cN gK nK cK gO nO cO:Nat) (EN EK EO:Nat→HE) (rN rK rO:List Value)
set_option maxHeartbeats 8000000 in
theorem k_ApartO (hN:nN<1000) (hK:nK<1000) (hO:nO<1000) (oN:∀ k,k<nN→(EN k).ok 4) (oK:∀ k,k<nK→(EK k).ok 8) (oO:∀ k,k<nO→(EO k).ok 15) :
    FnL Tryz.prog 19 [pt bk] (⟨bk,68,bkC m (.slice (some ⟨gN,0,none⟩) nN cN) (.slice (some ⟨gK,0,none⟩) nK cK) (.slice none 0 0) (.slice (some ⟨gO,0,none⟩) nO cO)⟩::⟨gN,124,(List.range nN).flatMap (fun k=>(EN k).row)++rN⟩::⟨gK,150,(List.range nK).flatMap (fun k=>(EK k).row)++rK⟩::⟨gO,122,(List.range nO).flatMap (fun k=>(EO k).row)++rO⟩ ::
      ((List.range nN).flatMap (fun k=>(EN k).L 24)++((List.range nK).flatMap (fun k=>(EK k).L 97)++(List.range nO).flatMap (fun k=>(EO k).L 76)))) Tr (fun v N=>v=.bool true):=by
  refine FnL.enter Tryz.func19 rfl rfl rfl ?_
  intro w hw
  generalize List.map Ent.g _=gs
  repeat (first|refine Ta ?_|(refine Tm ?_;intro _)|refine Tc ?_|exact Tz)
  refine WO.callK (hc:=k_fillByte m (.slice (some ⟨gN,0,none⟩) nN cN) (.slice (some ⟨gK,0,none⟩) nK cK) (.slice none 0 0) (.slice (some ⟨gO,0,none⟩) nO cO) bk) (hR:=fun w1 hm=>Hs.seg Hs.here hm) (k:=?_)
  repeat (first|refine Ta ?_|(refine Tm ?_;intro _)|refine Tc ?_|exact Tz)
  refine WO.callK (hc:=k_fillInt m (.slice (some ⟨gN,0,none⟩) nN cN) (.slice (some ⟨gK,0,none⟩) nK cK) (.slice none 0 0) (.slice (some ⟨gO,0,none⟩) nO cO) bk) (hR:=fun w1 hm=>Hs.seg Hs.here hm) (k:=?_)
  repeat (first|refine Ta ?_|(refine Tm ?_;intro _)|refine Tc ?_|exact Tz)
  refine WO.callK (hc:=k_fillText m (.slice (some ⟨gN,0,none⟩) nN cN) (.slice (some ⟨gK,0,none⟩) nK cK) (.slice none 0 0) (.slice (some ⟨gO,0,none⟩) nO cO) bk) (hR:=fun w1 hm=>Hs.seg Hs.here hm) (k:=?_)
  repeat (first|refine Ta ?_|(refine Tm ?_;intro _)|refine Tc ?_|exact Tz)
  refine WO.callP permN (hc:=k_fillNum m (.slice (some ⟨gK,0,none⟩) nK cK) (.slice none 0 0) (.slice (some ⟨gO,0,none⟩) nO cO) bk gN cN nN EN rN hN oN) (fun v N hp=>?_)
  obtain⟨rfl,rfl⟩:=hp
  refine WO.permL permN.symm ?_
  rw[fill_gs (M:=numC)]
  repeat (first|refine Ta ?_|(refine Tm ?_;intro _)|refine Tc ?_|exact Tz)
  refine WO.callK (hc:=k_fillHash m (.slice (some ⟨gN,0,none⟩) nN cN) (.slice (some ⟨gK,0,none⟩) nK cK) (.slice none 0 0) (.slice (some ⟨gO,0,none⟩) nO cO) bk) (hR:=fun w1 hm=>Hs.seg Hs.here hm) (k:=?_)
  repeat (first|refine Ta ?_|(refine Tm ?_;intro _)|refine Tc ?_|exact Tz)
  refine WO.callK (hc:=k_fillReason m (.slice (some ⟨gN,0,none⟩) nN cN) (.slice (some ⟨gK,0,none⟩) nK cK) (.slice none 0 0) (.slice (some ⟨gO,0,none⟩) nO cO) bk) (hR:=fun w1 hm=>Hs.seg Hs.here hm) (k:=?_)
  repeat (first|refine Ta ?_|(refine Tm ?_;intro _)|refine Tc ?_|exact Tz)
  refine WO.callP permK (hc:=k_fillKey m (.slice (some ⟨gN,0,none⟩) nN cN) (.slice none 0 0) (.slice (some ⟨gO,0,none⟩) nO cO) bk gK cK nK EK rK hK oK) (fun v N hp=>?_)
  obtain⟨rfl,rfl⟩:=hp
  refine WO.permL permK.symm ?_
  rw[fill_gs (M:=mkC)]
  repeat (first|refine Ta ?_|(refine Tm ?_;intro _)|refine Tc ?_|exact Tz)
  refine WO.callK (hc:=k_fillProof0 m (.slice (some ⟨gN,0,none⟩) nN cN) (.slice (some ⟨gK,0,none⟩) nK cK) (.slice (some ⟨gO,0,none⟩) nO cO) bk) (hR:=fun w1 hm=>Hs.seg Hs.here hm) (k:=?_)
  repeat (first|refine Ta ?_|(refine Tm ?_;intro _)|refine Tc ?_|exact Tz)
  refine WO.callK (hc:=k_fillDealing m (.slice (some ⟨gN,0,none⟩) nN cN) (.slice (some ⟨gK,0,none⟩) nK cK) (.slice none 0 0) (.slice (some ⟨gO,0,none⟩) nO cO) bk) (hR:=fun w1 hm=>Hs.seg Hs.here hm) (k:=?_)
  repeat (first|refine Ta ?_|(refine Tm ?_;intro _)|refine Tc ?_|exact Tz)
  refine WO.callP permP (hc:=k_fillOpenedL m (.slice (some ⟨gN,0,none⟩) nN cN) (.slice (some ⟨gK,0,none⟩) nK cK) (.slice none 0 0) bk gO cO nO EO rO hO oO) (fun v N hp=>?_)
  obtain⟨rfl,rfl⟩:=hp
  refine WO.permL permP.symm ?_
  rw[fill_gs (M:=mkO)]
  repeat (first|refine Ta ?_|(refine Tm ?_;intro _)|refine Tc ?_|exact Tz)
  refine WO.callK (hc:=k_fillShown m (.slice (some ⟨gN,0,none⟩) nN cN) (.slice (some ⟨gK,0,none⟩) nK cK) (.slice none 0 0) (.slice (some ⟨gO,0,none⟩) nO cO) bk) (hR:=fun w1 hm=>Hs.seg Hs.here hm) (k:=?_)
  repeat (first|refine Ta ?_|(refine Tm ?_;intro _)|refine Tc ?_|exact Tz)
  refine WO.callK (hc:=k_fillVote m (.slice (some ⟨gN,0,none⟩) nN cN) (.slice (some ⟨gK,0,none⟩) nK cK) (.slice none 0 0) (.slice (some ⟨gO,0,none⟩) nO cO) bk) (hR:=fun w1 hm=>Hs.seg Hs.here hm) (k:=?_)
  repeat (first|refine Ta ?_|(refine Tm ?_;intro _)|refine Tc ?_|exact Tz)
  refine WO.callK (hc:=k_fillBlock m (.slice (some ⟨gN,0,none⟩) nN cN) (.slice (some ⟨gK,0,none⟩) nK cK) (.slice none 0 0) (.slice (some ⟨gO,0,none⟩) nO cO) bk) (hR:=fun w1 hm=>Hs.seg Hs.here hm) (k:=?_)
  repeat (first|refine Ta ?_|(refine Tm ?_;intro _)|refine Tc ?_|exact Tz)
  refine WO.callK (hc:=k_fillEvidence m (.slice (some ⟨gN,0,none⟩) nN cN) (.slice (some ⟨gK,0,none⟩) nK cK) (.slice none 0 0) (.slice (some ⟨gO,0,none⟩) nO cO) bk) (hR:=fun w1 hm=>Hs.seg Hs.here hm) (k:=?_)
  repeat (first|refine Ta ?_|(refine Tm ?_;intro _)|refine Tc ?_|exact Tz)
  refine WO.callK (hc:=k_fillMsg m (.slice (some ⟨gN,0,none⟩) nN cN) (.slice (some ⟨gK,0,none⟩) nK cK) (.slice none 0 0) (.slice (some ⟨gO,0,none⟩) nO cO) bk) (hR:=fun w1 hm=>Hs.seg Hs.here hm) (k:=?_)
  repeat (first|refine Ta ?_|(refine Tm ?_;intro _)|refine Tc ?_|exact Tz)
  refine WO.callK (hc:=k_fillFrame m (.slice (some ⟨gN,0,none⟩) nN cN) (.slice (some ⟨gK,0,none⟩) nK cK) (.slice none 0 0) (.slice (some ⟨gO,0,none⟩) nO cO) bk) (hR:=fun w1 hm=>Hs.seg Hs.here hm) (k:=?_)
  repeat (first|refine Ta ?_|(refine Tm ?_;intro _)|refine Tc ?_|exact Tz)
  refine WO.callK (hc:=k_fillRecord m (.slice (some ⟨gN,0,none⟩) nN cN) (.slice (some ⟨gK,0,none⟩) nK cK) (.slice none 0 0) (.slice (some ⟨gO,0,none⟩) nO cO) bk) (hR:=fun w1 hm=>Hs.seg Hs.here hm) (k:=?_)
  repeat (first|refine Ta ?_|(refine Tm ?_;intro _)|refine Tc ?_|exact Tz)
  refine WO.callK (hc:=k_growByte m (.slice (some ⟨gN,0,none⟩) nN cN) (.slice (some ⟨gK,0,none⟩) nK cK) (.slice none 0 0) (.slice (some ⟨gO,0,none⟩) nO cO) bk) (hR:=fun w1 hm=>Hs.seg Hs.here hm) (k:=?_)
  repeat (first|refine Ta ?_|(refine Tm ?_;intro _)|refine Tc ?_|exact Tz)
  refine WO.callK (hc:=k_growInt m (.slice (some ⟨gN,0,none⟩) nN cN) (.slice (some ⟨gK,0,none⟩) nK cK) (.slice none 0 0) (.slice (some ⟨gO,0,none⟩) nO cO) bk) (hR:=fun w1 hm=>Hs.seg Hs.here hm) (k:=?_)
  repeat (first|refine Ta ?_|(refine Tm ?_;intro _)|refine Tc ?_|exact Tz)
  refine WO.callK (hc:=k_growText m (.slice (some ⟨gN,0,none⟩) nN cN) (.slice (some ⟨gK,0,none⟩) nK cK) (.slice none 0 0) (.slice (some ⟨gO,0,none⟩) nO cO) bk) (hR:=fun w1 hm=>Hs.seg Hs.here hm) (k:=?_)
  repeat (first|refine Ta ?_|(refine Tm ?_;intro _)|refine Tc ?_|exact Tz)
  refine WO.callP permN (hc:=k_growNum m (.slice (some ⟨gK,0,none⟩) nK cK) (.slice none 0 0) (.slice (some ⟨gO,0,none⟩) nO cO) bk gN cN nN EN rN hN oN) (fun v N hp=>?_)
  obtain⟨rfl,sN,tN,rfl⟩:=hp
  refine WO.permL permN.symm ?_
  repeat (first|refine Ta ?_|(refine Tm ?_;intro _)|refine Tc ?_|exact Tz)
  refine WO.callK (hc:=k_growHash m (.slice (some ⟨gN,0,none⟩) nN cN) (.slice (some ⟨gK,0,none⟩) nK cK) (.slice none 0 0) (.slice (some ⟨gO,0,none⟩) nO cO) bk) (hR:=fun w1 hm=>Hs.seg Hs.here hm) (k:=?_)
  repeat (first|refine Ta ?_|(refine Tm ?_;intro _)|refine Tc ?_|exact Tz)
  refine WO.callK (hc:=k_growReason m (.slice (some ⟨gN,0,none⟩) nN cN) (.slice (some ⟨gK,0,none⟩) nK cK) (.slice none 0 0) (.slice (some ⟨gO,0,none⟩) nO cO) bk) (hR:=fun w1 hm=>Hs.seg Hs.here hm) (k:=?_)
  repeat (first|refine Ta ?_|(refine Tm ?_;intro _)|refine Tc ?_|exact Tz)
  refine WO.callP permK (hc:=k_growKey m (.slice (some ⟨gN,0,none⟩) nN cN) (.slice none 0 0) (.slice (some ⟨gO,0,none⟩) nO cO) bk gK cK nK EK rK hK oK) (fun v N hp=>?_)
  obtain⟨rfl,sK,tK,rfl⟩:=hp
  refine WO.permL permK.symm ?_
  repeat (first|refine Ta ?_|(refine Tm ?_;intro _)|refine Tc ?_|exact Tz)
  refine WO.callK (hc:=k_growProof0 m (.slice (some ⟨gN,0,none⟩) nN cN) (.slice (some ⟨gK,0,none⟩) nK cK) (.slice (some ⟨gO,0,none⟩) nO cO) bk) (hR:=fun w1 hm=>Hs.seg Hs.here hm) (k:=?_)
  repeat (first|refine Ta ?_|(refine Tm ?_;intro _)|refine Tc ?_|exact Tz)
  refine WO.callK (hc:=k_growDealing m (.slice (some ⟨gN,0,none⟩) nN cN) (.slice (some ⟨gK,0,none⟩) nK cK) (.slice none 0 0) (.slice (some ⟨gO,0,none⟩) nO cO) bk) (hR:=fun w1 hm=>Hs.seg Hs.here hm) (k:=?_)
  repeat (first|refine Ta ?_|(refine Tm ?_;intro _)|refine Tc ?_|exact Tz)
  refine WO.callP permP (hc:=k_growOpenedL m (.slice (some ⟨gN,0,none⟩) nN cN) (.slice (some ⟨gK,0,none⟩) nK cK) (.slice none 0 0) bk gO cO nO EO rO hO oO) (fun v N hp=>?_)
  obtain⟨rfl,sO,tO,rfl⟩:=hp
  refine WO.permL permP.symm ?_
  repeat (first|refine Ta ?_|(refine Tm ?_;intro _)|refine Tc ?_|exact Tz)
  refine WO.callK (hc:=k_growShown m (.slice (some ⟨gN,0,none⟩) nN cN) (.slice (some ⟨gK,0,none⟩) nK cK) (.slice none 0 0) (.slice (some ⟨gO,0,none⟩) nO cO) bk) (hR:=fun w1 hm=>Hs.seg Hs.here hm) (k:=?_)
  repeat (first|refine Ta ?_|(refine Tm ?_;intro _)|refine Tc ?_|exact Tz)
  refine WO.callK (hc:=k_growVote m (.slice (some ⟨gN,0,none⟩) nN cN) (.slice (some ⟨gK,0,none⟩) nK cK) (.slice none 0 0) (.slice (some ⟨gO,0,none⟩) nO cO) bk) (hR:=fun w1 hm=>Hs.seg Hs.here hm) (k:=?_)
  repeat (first|refine Ta ?_|(refine Tm ?_;intro _)|refine Tc ?_|exact Tz)
  refine WO.callK (hc:=k_growBlock m (.slice (some ⟨gN,0,none⟩) nN cN) (.slice (some ⟨gK,0,none⟩) nK cK) (.slice none 0 0) (.slice (some ⟨gO,0,none⟩) nO cO) bk) (hR:=fun w1 hm=>Hs.seg Hs.here hm) (k:=?_)
  repeat (first|refine Ta ?_|(refine Tm ?_;intro _)|refine Tc ?_|exact Tz)
  refine WO.callK (hc:=k_growEvidence m (.slice (some ⟨gN,0,none⟩) nN cN) (.slice (some ⟨gK,0,none⟩) nK cK) (.slice none 0 0) (.slice (some ⟨gO,0,none⟩) nO cO) bk) (hR:=fun w1 hm=>Hs.seg Hs.here hm) (k:=?_)
  repeat (first|refine Ta ?_|(refine Tm ?_;intro _)|refine Tc ?_|exact Tz)
  refine WO.callK (hc:=k_growMsg m (.slice (some ⟨gN,0,none⟩) nN cN) (.slice (some ⟨gK,0,none⟩) nK cK) (.slice none 0 0) (.slice (some ⟨gO,0,none⟩) nO cO) bk) (hR:=fun w1 hm=>Hs.seg Hs.here hm) (k:=?_)
  repeat (first|refine Ta ?_|(refine Tm ?_;intro _)|refine Tc ?_|exact Tz)
  refine WO.callK (hc:=k_growFrame m (.slice (some ⟨gN,0,none⟩) nN cN) (.slice (some ⟨gK,0,none⟩) nK cK) (.slice none 0 0) (.slice (some ⟨gO,0,none⟩) nO cO) bk) (hR:=fun w1 hm=>Hs.seg Hs.here hm) (k:=?_)
  repeat (first|refine Ta ?_|(refine Tm ?_;intro _)|refine Tc ?_|exact Tz)
  refine WO.callK (hc:=k_growRecord m (.slice (some ⟨gN,0,none⟩) nN cN) (.slice (some ⟨gK,0,none⟩) nK cK) (.slice none 0 0) (.slice (some ⟨gO,0,none⟩) nO cO) bk) (hR:=fun w1 hm=>Hs.seg Hs.here hm) (k:=?_)
  rw[heG_eq (M:=numC) tN oN,heG_eq (M:=mkC) tK oK,heG_eq (M:=mkO) tO oO]
  repeat (first|refine Ta ?_|(refine Tm ?_;intro _)|refine Tc ?_|exact Tz)
  refine WO.acallR (hc:=k_lookByte m (.slice (some ⟨gN,0,none⟩) nN cN) (.slice (some ⟨gK,0,none⟩) nK cK) (.slice none 0 0) (.slice (some ⟨gO,0,none⟩) nO cO) bk) (hR:=fun w1 hm=>Hs.seg Hs.here hm) (k:=?_)
  repeat (first|refine Ta ?_|(refine Tm ?_;intro _)|refine Tc ?_|exact Tz)
  refine WO.acallR (hc:=k_lookInt m (.slice (some ⟨gN,0,none⟩) nN cN) (.slice (some ⟨gK,0,none⟩) nK cK) (.slice none 0 0) (.slice (some ⟨gO,0,none⟩) nO cO) bk) (hR:=fun w1 hm=>Hs.seg Hs.here hm) (k:=?_)
  repeat (first|refine Ta ?_|(refine Tm ?_;intro _)|refine Tc ?_|exact Tz)
  refine WO.acallR (hc:=k_lookText m (.slice (some ⟨gN,0,none⟩) nN cN) (.slice (some ⟨gK,0,none⟩) nK cK) (.slice none 0 0) (.slice (some ⟨gO,0,none⟩) nO cO) bk) (hR:=fun w1 hm=>Hs.seg Hs.here hm) (k:=?_)
  repeat (first|refine Ta ?_|(refine Tm ?_;intro _)|refine Tc ?_|exact Tz)
  refine WO.acallR (hc:=k_lookNum m (.slice (some ⟨gK,0,none⟩) nK cK) (.slice none 0 0) (.slice (some ⟨gO,0,none⟩) nO cO) bk gN cN nN (fun k=>(EN k).b.map fun b=>⟨b,0,none⟩) (fun k=>(EN k).n) (fun k=>(EN k).c) (fun k=>gsB (sN k)) (fun k=>gsC (sN k)) (fun k=>(EN k).m) rN hN (fun k hk=>⟨(oN k hk).most,(oN k hk).mark⟩)) (hR:=fun w1 hm=>⟨Hs.seg Hs.here hm,Hs.seg (.there .here) hm,grown_seg (T:=24) (M:=numC) hm (fun x hx=>by simp only[List.mem_cons,List.mem_append];simp only[hx,true_or,or_true]) tN oN⟩) (k:=?_)
  repeat (first|refine Ta ?_|(refine Tm ?_;intro _)|refine Tc ?_|exact Tz)
  refine WO.acallR (hc:=k_lookHash m (.slice (some ⟨gN,0,none⟩) nN cN) (.slice (some ⟨gK,0,none⟩) nK cK) (.slice none 0 0) (.slice (some ⟨gO,0,none⟩) nO cO) bk) (hR:=fun w1 hm=>Hs.seg Hs.here hm) (k:=?_)
  repeat (first|refine Ta ?_|(refine Tm ?_;intro _)|refine Tc ?_|exact Tz)
  refine WO.acallR (hc:=k_lookReason m (.slice (some ⟨gN,0,none⟩) nN cN) (.slice (some ⟨gK,0,none⟩) nK cK) (.slice none 0 0) (.slice (some ⟨gO,0,none⟩) nO cO) bk) (hR:=fun w1 hm=>Hs.seg Hs.here hm) (k:=?_)
  repeat (first|refine Ta ?_|(refine Tm ?_;intro _)|refine Tc ?_|exact Tz)
  refine WO.acallR (hc:=k_lookKey m (.slice (some ⟨gN,0,none⟩) nN cN) (.slice none 0 0) (.slice (some ⟨gO,0,none⟩) nO cO) bk gK cK nK (fun k=>(EK k).b.map fun b=>⟨b,0,none⟩) (fun k=>(EK k).n) (fun k=>(EK k).c) (fun k=>gsB (sK k)) (fun k=>gsC (sK k)) (fun k=>(EK k).m) rK hK (fun k hk=>⟨(oK k hk).most,(oK k hk).mark⟩)) (hR:=fun w1 hm=>⟨Hs.seg Hs.here hm,Hs.seg (.there (.there .here)) hm,grown_seg (T:=97) (M:=mkC) hm (fun x hx=>by simp only[List.mem_cons,List.mem_append];simp only[hx,true_or,or_true]) tK oK⟩) (k:=?_)
  repeat (first|refine Ta ?_|(refine Tm ?_;intro _)|refine Tc ?_|exact Tz)
  refine WO.acallR (hc:=k_lookProof0 m (.slice (some ⟨gN,0,none⟩) nN cN) (.slice (some ⟨gK,0,none⟩) nK cK) (.slice (some ⟨gO,0,none⟩) nO cO) bk) (hR:=fun w1 hm=>Hs.seg Hs.here hm) (k:=?_)
  repeat (first|refine Ta ?_|(refine Tm ?_;intro _)|refine Tc ?_|exact Tz)
  refine WO.acallR (hc:=k_lookDealing m (.slice (some ⟨gN,0,none⟩) nN cN) (.slice (some ⟨gK,0,none⟩) nK cK) (.slice none 0 0) (.slice (some ⟨gO,0,none⟩) nO cO) bk) (hR:=fun w1 hm=>Hs.seg Hs.here hm) (k:=?_)
  repeat (first|refine Ta ?_|(refine Tm ?_;intro _)|refine Tc ?_|exact Tz)
  refine WO.acallR (hc:=k_lookOpenedL m (.slice (some ⟨gN,0,none⟩) nN cN) (.slice (some ⟨gK,0,none⟩) nK cK) (.slice none 0 0) bk gO cO nO (fun k=>(EO k).b.map fun b=>⟨b,0,none⟩) (fun k=>(EO k).n) (fun k=>(EO k).c) (fun k=>gsB (sO k)) (fun k=>gsC (sO k)) (fun k=>(EO k).m) rO hO (fun k hk=>⟨(oO k hk).most,(oO k hk).mark⟩)) (hR:=fun w1 hm=>⟨Hs.seg Hs.here hm,Hs.seg (.there (.there (.there .here))) hm,grown_seg (T:=76) (M:=mkO) hm (fun x hx=>by simp only[List.mem_cons,List.mem_append];simp only[hx,true_or,or_true]) tO oO⟩) (k:=?_)
  repeat (first|refine Ta ?_|(refine Tm ?_;intro _)|refine Tc ?_|exact Tz)
  refine WO.acallR (hc:=k_lookShown m (.slice (some ⟨gN,0,none⟩) nN cN) (.slice (some ⟨gK,0,none⟩) nK cK) (.slice none 0 0) (.slice (some ⟨gO,0,none⟩) nO cO) bk) (hR:=fun w1 hm=>Hs.seg Hs.here hm) (k:=?_)
  repeat (first|refine Ta ?_|(refine Tm ?_;intro _)|refine Tc ?_|exact Tz)
  refine WO.acallR (hc:=k_lookVote m (.slice (some ⟨gN,0,none⟩) nN cN) (.slice (some ⟨gK,0,none⟩) nK cK) (.slice none 0 0) (.slice (some ⟨gO,0,none⟩) nO cO) bk) (hR:=fun w1 hm=>Hs.seg Hs.here hm) (k:=?_)
  repeat (first|refine Ta ?_|(refine Tm ?_;intro _)|refine Tc ?_|exact Tz)
  refine WO.acallR (hc:=k_lookBlock m (.slice (some ⟨gN,0,none⟩) nN cN) (.slice (some ⟨gK,0,none⟩) nK cK) (.slice none 0 0) (.slice (some ⟨gO,0,none⟩) nO cO) bk) (hR:=fun w1 hm=>Hs.seg Hs.here hm) (k:=?_)
  repeat (first|refine Ta ?_|(refine Tm ?_;intro _)|refine Tc ?_|exact Tz)
  refine WO.acallR (hc:=k_lookEvidence m (.slice (some ⟨gN,0,none⟩) nN cN) (.slice (some ⟨gK,0,none⟩) nK cK) (.slice none 0 0) (.slice (some ⟨gO,0,none⟩) nO cO) bk) (hR:=fun w1 hm=>Hs.seg Hs.here hm) (k:=?_)
  repeat (first|refine Ta ?_|(refine Tm ?_;intro _)|refine Tc ?_|exact Tz)
  refine WO.acallR (hc:=k_lookMsg m (.slice (some ⟨gN,0,none⟩) nN cN) (.slice (some ⟨gK,0,none⟩) nK cK) (.slice none 0 0) (.slice (some ⟨gO,0,none⟩) nO cO) bk) (hR:=fun w1 hm=>Hs.seg Hs.here hm) (k:=?_)
  repeat (first|refine Ta ?_|(refine Tm ?_;intro _)|refine Tc ?_|exact Tz)
  refine WO.acallR (hc:=k_lookFrame m (.slice (some ⟨gN,0,none⟩) nN cN) (.slice (some ⟨gK,0,none⟩) nK cK) (.slice none 0 0) (.slice (some ⟨gO,0,none⟩) nO cO) bk) (hR:=fun w1 hm=>Hs.seg Hs.here hm) (k:=?_)
  repeat (first|refine Ta ?_|(refine Tm ?_;intro _)|refine Tc ?_|exact Tz)
  refine WO.acallR (hc:=k_lookRecord m (.slice (some ⟨gN,0,none⟩) nN cN) (.slice (some ⟨gK,0,none⟩) nK cK) (.slice none 0 0) (.slice (some ⟨gO,0,none⟩) nO cO) bk) (hR:=fun w1 hm=>Hs.seg Hs.here hm) (k:=?_)
  repeat (first|refine Ta ?_|(refine Tm ?_;intro _)|refine Tc ?_|exact Tz)
  exact WX.retP_of (resP1 rfl (by exact rv_tmp rfl)) Lle.nil rfl
end
end Sx
end Go.Proofs.YtiiacjladnljhaaGreatDoor
