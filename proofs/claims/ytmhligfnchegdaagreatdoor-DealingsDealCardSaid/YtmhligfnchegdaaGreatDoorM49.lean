/- Part 49 of the proof: LwD, RoD -/
import Derived.Test.YtmhligfnchegdaaGreatDoorM38
import Derived.Test.YtmhligfnchegdaaGreatDoorM43
import Derived.Test.YtmhligfnchegdaaGreatDoorM48
import Derived.ChangeArms
import Derived.OpenShut
import Derived.DataReads
import Derived.WideShapes
set_option linter.unusedSimpArgs false
set_option linter.unusedVariables false
namespace Go.Proofs.YtmhligfnchegdaaGreatDoor
open Go Go.RowKit Go.BigFrame
namespace Sx
attribute [local irreducible] wd DQ DQS WO WC WX
section
variable (p q g h:Nat) (f sec:Int) (ep d x:Nat) (p0 p1:Option Addr) (c0 c1:Nat) (N:List (Nat × Nat)) (l:List Nat)
theorem u_DealGreat (hgr:(100:Int)<(N.length:Int)∨(100:Int)<(l.length:Int)) :
    Fn Tryz.prog 3 [stV p q g h f sec (.slice p0 N.length c0),gdV ep d (.slice p1 l.length c1) x] (fun w=>RdF keyC (.slice p0 N.length c0) N w∧RdF numC (.slice p1 l.length c1) l w) (Is (.bool true)):=by
  have hG:Fn Tryz.prog 4 [stV p q g h f sec (.slice p0 N.length c0),gdV ep d (.slice p1 l.length c1) x] Tr (Is (.bool true)):=by
    by_cases h0:(100:Int)<(N.length:Int)
    · exact u_great0 p q g h f sec ep d x p0 p1 N.length l.length c0 c1 h0
    · exact u_great1 p q g h f sec ep d x p0 p1 N.length l.length c0 c1 h0 (hgr.resolve_left h0)
  refine Fn.enter Tryz.func3 rfl rfl rfl ?_
  intro w hw
  repeat (first|refine Ta ?_|(refine Tm ?_;intro _)|refine WO.acall (hc:=hG) (k:=?_)|refine Tc ?_|exact Tz)
  done
set_option maxHeartbeats 8000000 in
theorem u_DealY (hp:p<B256) (hq:q<B256) (hg:g<B256) (hh:h<B256) (hN:NumsOk N) (hNl:N.length≤100) (hl:∀ a∈l,a<B256) (hn:l.length≤100)
    (hf1 : -9223372036854775808≤f) (hf2:f≤9223372036854775807) (hs1 : -9223372036854775808≤sec) (hs2:sec≤9223372036854775807) (hep:ep<18446744073709551616) (hd:d<256) (hx:x<B256) (hA:dealB p q g h f sec N d l x=true) :
    Fn Tryz.prog 3 [stV p q g h f sec (.slice p0 N.length c0),gdV ep d (.slice p1 l.length c1) x] (fun w=>RdF keyC (.slice p0 N.length c0) N w∧RdF numC (.slice p1 l.length c1) l w) (Is (.bool true)):=by
  have hG:=u_great2 p q g h f sec ep d x p0 p1 N.length l.length c0 c1 (by omega) (by omega)
  have hTS:=u_TwinSetting p q g h f sec p0 c0 N hNl
  have hTN:=t_TwinNums l p1 c1 hn
  have hLS:=fun gN=>u_LeftSetting p q g h f sec p0 c0 N gN hNl
  have hLN:=fun gL=>t_LeftNums l p1 c1 gL hn
  have hS1:=fun gN=>c_Setting p q g h f sec (some ⟨gN,0,none⟩) (N.length+1) N hp hq hg hh hN (by omega) hf1 hf2 hs1 hs2
  have hS2:=r15_Setting p q g h f sec p0 c0 N hp hq hg hh hN (by omega) hf1 hf2 hs1 hs2
  have hlK:(N.flatMap keyC++twoC 77 0).length=(N.length+1)*8:=by rw[List.length_append,flat_length keyC_len,Nat.succ_mul];rfl
  have hlL:(l.flatMap numC++numC 77).length=(l.length+1)*4:=by rw[List.length_append,flat_length numC_len,Nat.succ_mul];rfl
  have hn7:N.length≤7:=by
    unfold dealB at hA
    simp only[Bool.and_eq_true] at hA
    exact (setB_spec hA.1.1.1).2.1
  have hD1:=fun gN gL=>c_DealY p q g h f sec (some ⟨gN,0,none⟩) (N.length+1) N ep d x (some ⟨gL,0,none⟩) (l.length+1) l hp hq hg hh hN hNl hl hn hf1 hf2 hs1 hs2 hd hx hep hA
  have hD2:=r15_DealY p q g h f sec p0 c0 N ep d x p1 c1 l hp hq hg hh hN hNl hl hn hf1 hf2 hs1 hs2 hd hx hep hA
  have hVl:(dVs p q g l N.length).length=N.length:=by simp[dVs]
  have hYl:(dYs p q l N N.length).length=N.length:=by simp[dYs]
  have hPl:(dPs p q g l N ep d x N.length).length=N.length:=by simp[dPs]
  generalize setB p q g h f sec N=B0 at hS1 hS2
  generalize dSg p q g l N ep d x N.length=sg at *
  generalize dVs p q g l N.length=Vs at *
  generalize dYs p q l N N.length=Ys at *
  generalize dPs p q g l N ep d x N.length=Ps at *
  have hSD:=fun gV gY gP gV2 gY2 gP2 cV cY cP=>u_SameDealing ep d sg.1 sg.2 (some ⟨gV,0,none⟩) (some ⟨gY,0,none⟩) (some ⟨gP,0,none⟩) (some ⟨gV2,0,none⟩) (some ⟨gY2,0,none⟩) (some ⟨gP2,0,none⟩) N.length N.length N.length cV cY cP Vs Ys Ps (by omega) (by omega) (by omega)
  rw[hVl,hYl,hPl] at hSD
  have hlV:(Vs.flatMap numC).length=N.length*4:=by rw[flat_length numC_len,hVl]
  have hlY:(Ys.flatMap numC).length=N.length*4:=by rw[flat_length numC_len,hYl]
  have hlP:(Ps.flatMap pfC).length=N.length*8:=by rw[flat_length pfC_len,hPl]
  clear hA hp hq hg hh hN hl hf1 hf2 hs1 hs2 hep hd hx
  refine Fn.enter Tryz.func3 rfl rfl rfl ?_
  intro w hw
  obtain⟨wN,wL⟩:=hw
  repeat (first|refine Ta ?_|(refine Tm ?_;intro _)|refine WO.acall (hc:=hG) (k:=?_)|refine Tc ?_|exact Tz)
  rename_i gS gZ
  refine WO.acallX (hc:=hTS) (hR:=fun w hm=>wN.mod hm.mod) (k:=fun s1 hs1=>?_)
  clear hs1
  generalize s1 0=gN
  clear s1
  simp only[List.cons_append,List.nil_append]
  repeat (first|refine Ta ?_|(refine Tm ?_;intro _)|refine Tc ?_|exact Tz)
  rename_i gT
  refine WO.acallC (hc:=hTN) (hR:=fun w hm=>wL.mod hm.mod) (k:=fun gL=>?_)
  repeat (first|refine Ta ?_|(refine Tm ?_;intro _)|refine Tc ?_|exact Tz)
  refine WO.acallX (hc:=hD1 gN gL) (hR:=fun w1 hm=>⟨RdF.seg (f:=keyC) (xs:=N) (r:=twoC 77 0) (Hs.seg (by repeat (first|exact Hs.here|apply Hs.there)) hm),RdF.seg (f:=numC) (xs:=l) (r:=numC 77) (Hs.seg (by repeat (first|exact Hs.here|apply Hs.there)) hm)⟩) (k:=fun s1 hs1=>?_)
  clear hs1
  generalize s1 0=gV
  generalize s1 1=gY
  generalize s1 2=gP
  clear s1
  simp only[List.cons_append,List.nil_append]
  repeat (first|refine Ta ?_|(refine Tm ?_;intro _)|refine Tc ?_|exact Tz)
  refine WO.calls (fs:=[]) (cs:=[]) hD2 rfl rfl rfl (fun w1 hm=>⟨wN.mod hm.mod,wL.mod hm.mod⟩) (fun u N' ⟨gV2,cV2,rV2,gY2,cY2,rY2,gP2,cP2,rP2,e1,e2⟩=>?_)
  subst e1 e2
  simp only[List.cons_append,List.nil_append]
  repeat (first|refine Ta ?_|(refine Tm ?_;intro _)|refine Tc ?_|exact Tz)
  refine WC.adraw 29 (k:=?_)
  (first|refine Da ?_|refine Dc ?_)
  refine DQ.acallM (hc:=hS1 gN) (hR:=fun w1 hm=>RdF.rdK (RdF.seg (f:=keyC) (xs:=N) (r:=twoC 77 0) (Hs.seg (by repeat (first|exact Hs.here|apply Hs.there)) hm))) (k:=?_)
  (first|refine Da ?_|refine Dc ?_)
  refine DQ.acallM (hc:=hS2) (hR:=fun w1 hm=>(wN.mod hm.mod).rdK) (k:=?_)
  refine DQ.does (fun s _=>a_neqBV rfl rfl) Dp.const ?_
  iterate 3 (first|refine Da ?_|refine Dc ?_)
  refine DQ.acallM (hc:=hSD gV gY gP gV2 gY2 gP2 cV2 cY2 cP2) (hR:=fun w1 hm=>⟨⟨by have:=RdF.seg (f:=numC) (xs:=Vs) (r:=[]) (c:=N.length) (Hs.seg (L:=_) (g:=gV) (t:=24) (by first|(rw[List.append_nil];repeat (first|exact Hs.here|apply Hs.there))|repeat (first|exact Hs.here|apply Hs.there)) hm);rw[hVl] at this;exact this,by have:=RdF.seg (f:=numC) (xs:=Vs) (r:=rV2) (c:=cV2) (Hs.seg (L:=_) (g:=gV2) (t:=24) (by first|(rw[List.append_nil];repeat (first|exact Hs.here|apply Hs.there))|repeat (first|exact Hs.here|apply Hs.there)) hm);rw[hVl] at this;exact this⟩,⟨by have:=RdF.seg (f:=numC) (xs:=Ys) (r:=[]) (c:=N.length) (Hs.seg (L:=_) (g:=gY) (t:=24) (by first|(rw[List.append_nil];repeat (first|exact Hs.here|apply Hs.there))|repeat (first|exact Hs.here|apply Hs.there)) hm);rw[hYl] at this;exact this,by have:=RdF.seg (f:=numC) (xs:=Ys) (r:=rY2) (c:=cY2) (Hs.seg (L:=_) (g:=gY2) (t:=24) (by first|(rw[List.append_nil];repeat (first|exact Hs.here|apply Hs.there))|repeat (first|exact Hs.here|apply Hs.there)) hm);rw[hYl] at this;exact this⟩,by have:=RdF.seg (f:=pfC) (xs:=Ps) (r:=[]) (c:=N.length) (Hs.seg (L:=_) (g:=gP) (t:=87) (by first|(rw[List.append_nil];repeat (first|exact Hs.here|apply Hs.there))|repeat (first|exact Hs.here|apply Hs.there)) hm);rw[hPl] at this;exact this,by have:=RdF.seg (f:=pfC) (xs:=Ps) (r:=rP2) (c:=cP2) (Hs.seg (L:=_) (g:=gP2) (t:=87) (by first|(rw[List.append_nil];repeat (first|exact Hs.here|apply Hs.there))|repeat (first|exact Hs.here|apply Hs.there)) hm);rw[hPl] at this;exact this⟩) (k:=?_)
  iterate 5 (first|refine Da ?_|refine Dc ?_)
  refine DQ.does (fun s _=>does_neqN rfl rfl rfl) Dp.const ?_
  iterate 4 (first|refine Da ?_|refine Dc ?_)
  refine DQ.acallM (hc:=hLS gN) (hR:=fun w1 hm=>⟨Hs.seg (by repeat (first|exact Hs.here|apply Hs.there)) hm,wN.mod hm.mod⟩) (k:=?_)
  iterate 6 (first|refine Da ?_|refine Dc ?_)
  refine DQ.acallM (hc:=hLN gL) (hR:=fun w1 hm=>⟨Hs.seg (by repeat (first|exact Hs.here|apply Hs.there)) hm,wL.mod hm.mod⟩) (k:=?_)
  iterate 2 (first|refine Da ?_|refine Dc ?_)
  refine DQ.anil (k:=?_)
  intro sx _
  repeat (first|refine Ta ?_|(refine Tm ?_;intro _)|refine Tc ?_|exact Tz)
  rename_i bk
  refine WO.callsL (hc:=k_Setting 0 (.slice none 0 0) (.slice none 0 0) (.slice none 0 0) bk (some ⟨gN,0,none⟩) N.length (N.length+1) p q g h f sec (by decide)) (hp:=.cons (by repeat (first|exact Pk.here|apply Pk.there)) .nil) (fun _ _=>trivial) (fun v N' hpo=>?_)
  obtain⟨rfl,gK,cK,rK,rfl,k1,k2,k3⟩:=hpo
  simp only[List.cons_append,List.nil_append]
  repeat (first|refine Ta ?_|(refine Tm ?_;intro _)|refine Tc ?_|exact Tz)
  refine WO.callsL (hc:=k_Nums0 (0+1) (.slice (some ⟨gK,0,none⟩) 1 cK) (.slice none 0 0) (.slice none 0 0) bk (some ⟨gL,0,none⟩) l.length (l.length+1) (by decide)) (hp:=.cons (by repeat (first|exact Pk.here|apply Pk.there)) .nil) (fun _ _=>trivial) (fun v N' hpo=>?_)
  obtain⟨rfl,gB,cB,rB,rfl,k4,k5,k6⟩:=hpo
  simp only[List.cons_append,List.nil_append]
  repeat (first|refine Ta ?_|(refine Tm ?_;intro _)|refine Tc ?_|exact Tz)
  refine WO.callsL (hc:=k_Dealing (0+1+1) (.slice (some ⟨gK,0,none⟩) 1 cK) (.slice none 0 0) bk gB 1 cB [.slice (some ⟨gL,0,none⟩) l.length (l.length+1),.slice none 0 0,.int .i64 ((0+1+1:Nat):Int)] rB ep d sg.1 sg.2 (some ⟨gV,0,none⟩) (some ⟨gY,0,none⟩) (some ⟨gP,0,none⟩) N.length N.length N.length N.length N.length N.length (by decide) (by decide) rfl k4 k5) (hp:=.cons (by repeat (first|exact Pk.here|apply Pk.there)) (.cons (by repeat (first|exact Pk.here|apply Pk.there)) .nil)) (fun _ _=>trivial) (fun v N' hpo=>?_)
  obtain⟨rfl,gC,cC,rC,gQ,cQ,rQ,rfl,k7,k8,k9,k10,k11,k12⟩:=hpo
  simp only[List.cons_append,List.nil_append]
  have hAp:FnL Tryz.prog 17 [pt bk] ([⟨bk,66,bkC (0+1+1+1+1+1) (.slice (some ⟨gC,0,none⟩) (1+1+1) cC) (.slice (some ⟨gK,0,none⟩) 1 cK) (.slice (some ⟨gQ,0,none⟩) 1 cQ) (.slice none 0 0)⟩,⟨gC,138,[.slice (some ⟨gL,0,none⟩) l.length (l.length+1),.slice none 0 0,.int .i64 ((0+1+1:Nat):Int),(.slice (some ⟨gV,0,none⟩) N.length N.length),.slice none 0 0,.int .i64 ((0+1+1+1:Nat):Int),(.slice (some ⟨gY,0,none⟩) N.length N.length),.slice none 0 0,.int .i64 ((0+1+1+1+1:Nat):Int)]++rC⟩,⟨gK,162,[.slice (some ⟨gN,0,none⟩) N.length (N.length+1),.slice none 0 0,.int .i64 ((0+1:Nat):Int)]++rK⟩,⟨gQ,165,[(.slice (some ⟨gP,0,none⟩) N.length N.length),.slice none 0 0,.int .i64 ((0+1+1+1+1+1:Nat):Int)]++rQ⟩,
      ⟨gL,24,l.flatMap numC++numC 77⟩,⟨gV,24,Vs.flatMap numC⟩,⟨gY,24,Ys.flatMap numC⟩,⟨gN,76,N.flatMap keyC++twoC 77 0⟩,⟨gP,87,Ps.flatMap pfC⟩]) Tr (fun v N=>v=.bool true) :=
    k_Apart (0+1+1+1+1+1) bk gC (1+1+1) cC gK 1 cK gQ 1 cQ (fun k=>match k with|0=>⟨some gL,l.length,l.length+1,l.flatMap numC++numC 77,0+1+1⟩|1=>⟨some gV,N.length,N.length,Vs.flatMap numC,0+1+1+1⟩|_=>⟨some gY,N.length,N.length,Ys.flatMap numC,0+1+1+1+1⟩) (fun _=>⟨some gN,N.length,N.length+1,N.flatMap keyC++twoC 77 0,0+1⟩) (fun _=>⟨some gP,N.length,N.length,Ps.flatMap pfC,0+1+1+1+1+1⟩) rC rK rQ (by decide) (by decide) (by decide)
      (fun k _=>match k with
        | 0=>⟨(fun e=>by cases e),Nat.le_succ _,Nat.le_refl _,hn,hlL,(by show (0+1+1:Nat)<1000;decide)⟩
        | 1=>⟨(fun e=>by cases e),Nat.le_refl _,Nat.le_succ _,hNl,hlV,(by show (0+1+1+1:Nat)<1000;decide)⟩
        | _+2=>⟨(fun e=>by cases e),Nat.le_refl _,Nat.le_succ _,hNl,hlY,(by show (0+1+1+1+1:Nat)<1000;decide)⟩)
      (fun _ _=>⟨(fun e=>by cases e),Nat.le_succ _,Nat.le_refl _,hNl,hlK,(by show (0+1:Nat)<1000;decide)⟩) (fun _ _=>⟨(fun e=>by cases e),Nat.le_refl _,Nat.le_succ _,hNl,hlP,(by show (0+1+1+1+1+1:Nat)<1000;decide)⟩)
  repeat (first|refine Ta ?_|(refine Tm ?_;intro _)|refine Tc ?_|exact Tz)
  refine WO.callsL (hc:=hAp) (hp:=.cons (by repeat (first|exact Pk.here|apply Pk.there)) (.cons (by repeat (first|exact Pk.here|apply Pk.there)) (.cons (by repeat (first|exact Pk.here|apply Pk.there)) (.cons (by repeat (first|exact Pk.here|apply Pk.there)) (.cons (by repeat (first|exact Pk.here|apply Pk.there)) (.cons (by repeat (first|exact Pk.here|apply Pk.there)) (.cons (by repeat (first|exact Pk.here|apply Pk.there)) (.cons (by repeat (first|exact Pk.here|apply Pk.there)) (.cons (by repeat (first|exact Pk.here|apply Pk.there)) (.nil)))))))))) (fun _ _=>trivial) (fun v N' hpo=>?_)
  subst hpo
  repeat (first|refine Ta ?_|(refine Tm ?_;intro _)|refine Tc ?_|exact Tz)
  done
set_option maxHeartbeats 8000000 in
theorem u_DealN (hp:p<B256) (hq:q<B256) (hg:g<B256) (hh:h<B256) (hN:NumsOk N) (hNl:N.length≤100) (hl:∀ a∈l,a<B256) (hn:l.length≤100)
    (hf1 : -9223372036854775808≤f) (hf2:f≤9223372036854775807) (hs1 : -9223372036854775808≤sec) (hs2:sec≤9223372036854775807) (hep:ep<18446744073709551616) (hd:d<256) (hx:x<B256) (hA:dealB p q g h f sec N d l x=false) :
    Fn Tryz.prog 3 [stV p q g h f sec (.slice p0 N.length c0),gdV ep d (.slice p1 l.length c1) x] (fun w=>RdF keyC (.slice p0 N.length c0) N w∧RdF numC (.slice p1 l.length c1) l w) (Is (.bool true)):=by
  have hG:=u_great2 p q g h f sec ep d x p0 p1 N.length l.length c0 c1 (by omega) (by omega)
  have hTS:=u_TwinSetting p q g h f sec p0 c0 N hNl
  have hTN:=t_TwinNums l p1 c1 hn
  have hLS:=fun gN=>u_LeftSetting p q g h f sec p0 c0 N gN hNl
  have hLN:=fun gL=>t_LeftNums l p1 c1 gL hn
  have hS1:=fun gN=>c_Setting p q g h f sec (some ⟨gN,0,none⟩) (N.length+1) N hp hq hg hh hN (by omega) hf1 hf2 hs1 hs2
  have hS2:=r15_Setting p q g h f sec p0 c0 N hp hq hg hh hN (by omega) hf1 hf2 hs1 hs2
  have hlK:(N.flatMap keyC++twoC 77 0).length=(N.length+1)*8:=by rw[List.length_append,flat_length keyC_len,Nat.succ_mul];rfl
  have hlL:(l.flatMap numC++numC 77).length=(l.length+1)*4:=by rw[List.length_append,flat_length numC_len,Nat.succ_mul];rfl
  have hD1:=fun gN gL=>c_DealN p q g h f sec (some ⟨gN,0,none⟩) (N.length+1) N ep d x (some ⟨gL,0,none⟩) (l.length+1) l hp hq hg hh hN hNl hl hn hf1 hf2 hs1 hs2 hd hx hA
  have hD2:=r15_DealN p q g h f sec p0 c0 N ep d x p1 c1 l hp hq hg hh hN hNl hl hn hf1 hf2 hs1 hs2 hd hx hA
  generalize setB p q g h f sec N=B0 at hS1 hS2
  have hSD:=u_SameDealing 0 0 0 0 none none none none none none 0 0 0 0 0 0 [] [] [] (by decide) (by decide) (by decide)
  clear hA hp hq hg hh hN hl hf1 hf2 hs1 hs2 hep hd hx
  refine Fn.enter Tryz.func3 rfl rfl rfl ?_
  intro w hw
  obtain⟨wN,wL⟩:=hw
  repeat (first|refine Ta ?_|(refine Tm ?_;intro _)|refine WO.acall (hc:=hG) (k:=?_)|refine Tc ?_|exact Tz)
  rename_i gS gZ
  refine WO.acallX (hc:=hTS) (hR:=fun w hm=>wN.mod hm.mod) (k:=fun s1 hs1=>?_)
  clear hs1
  generalize s1 0=gN
  clear s1
  simp only[List.cons_append,List.nil_append]
  repeat (first|refine Ta ?_|(refine Tm ?_;intro _)|refine Tc ?_|exact Tz)
  rename_i gT
  refine WO.acallC (hc:=hTN) (hR:=fun w hm=>wL.mod hm.mod) (k:=fun gL=>?_)
  repeat (first|refine Ta ?_|(refine Tm ?_;intro _)|refine Tc ?_|exact Tz)
  refine WO.acallR (hc:=hD1 gN gL) (hR:=fun w1 hm=>⟨RdF.seg (f:=keyC) (xs:=N) (r:=twoC 77 0) (Hs.seg (by repeat (first|exact Hs.here|apply Hs.there)) hm),RdF.seg (f:=numC) (xs:=l) (r:=numC 77) (Hs.seg (by repeat (first|exact Hs.here|apply Hs.there)) hm)⟩) (k:=?_)
  repeat (first|refine Ta ?_|(refine Tm ?_;intro _)|refine Tc ?_|exact Tz)
  refine WO.acallR (hc:=hD2) (hR:=fun w1 hm=>⟨wN.mod hm.mod,wL.mod hm.mod⟩) (k:=?_)
  repeat (first|refine Ta ?_|(refine Tm ?_;intro _)|refine Tc ?_|exact Tz)
  refine WC.adraw 29 (k:=?_)
  (first|refine Da ?_|refine Dc ?_)
  refine DQ.acallM (hc:=hS1 gN) (hR:=fun w1 hm=>RdF.rdK (RdF.seg (f:=keyC) (xs:=N) (r:=twoC 77 0) (Hs.seg (by repeat (first|exact Hs.here|apply Hs.there)) hm))) (k:=?_)
  (first|refine Da ?_|refine Dc ?_)
  refine DQ.acallM (hc:=hS2) (hR:=fun w1 hm=>(wN.mod hm.mod).rdK) (k:=?_)
  refine DQ.does (fun s _=>a_neqBV rfl rfl) Dp.const ?_
  iterate 3 (first|refine Da ?_|refine Dc ?_)
  refine DQ.acallM (hc:=hSD) (hR:=fun w1 hm=>⟨⟨⟨none,0,rfl,.inl ⟨rfl,rfl⟩⟩,⟨none,0,rfl,.inl ⟨rfl,rfl⟩⟩⟩,⟨⟨none,0,rfl,.inl ⟨rfl,rfl⟩⟩,⟨none,0,rfl,.inl ⟨rfl,rfl⟩⟩⟩,⟨none,0,rfl,.inl ⟨rfl,rfl⟩⟩,⟨none,0,rfl,.inl ⟨rfl,rfl⟩⟩⟩) (k:=?_)
  iterate 5 (first|refine Da ?_|refine Dc ?_)
  refine DQ.does (fun s _=>does_neqN rfl rfl rfl) Dp.const ?_
  iterate 4 (first|refine Da ?_|refine Dc ?_)
  refine DQ.acallM (hc:=hLS gN) (hR:=fun w1 hm=>⟨Hs.seg (by repeat (first|exact Hs.here|apply Hs.there)) hm,wN.mod hm.mod⟩) (k:=?_)
  iterate 6 (first|refine Da ?_|refine Dc ?_)
  refine DQ.acallM (hc:=hLN gL) (hR:=fun w1 hm=>⟨Hs.seg (by repeat (first|exact Hs.here|apply Hs.there)) hm,wL.mod hm.mod⟩) (k:=?_)
  iterate 2 (first|refine Da ?_|refine Dc ?_)
  refine DQ.anil (k:=?_)
  intro sx _
  repeat (first|refine Ta ?_|(refine Tm ?_;intro _)|refine Tc ?_|exact Tz)
  rename_i bk
  refine WO.callsL (hc:=k_Setting 0 (.slice none 0 0) (.slice none 0 0) (.slice none 0 0) bk (some ⟨gN,0,none⟩) N.length (N.length+1) p q g h f sec (by decide)) (hp:=.cons (by repeat (first|exact Pk.here|apply Pk.there)) .nil) (fun _ _=>trivial) (fun v N' hpo=>?_)
  obtain⟨rfl,gK,cK,rK,rfl,k1,k2,k3⟩:=hpo
  simp only[List.cons_append,List.nil_append]
  repeat (first|refine Ta ?_|(refine Tm ?_;intro _)|refine Tc ?_|exact Tz)
  refine WO.callsL (hc:=k_Nums0 (0+1) (.slice (some ⟨gK,0,none⟩) 1 cK) (.slice none 0 0) (.slice none 0 0) bk (some ⟨gL,0,none⟩) l.length (l.length+1) (by decide)) (hp:=.cons (by repeat (first|exact Pk.here|apply Pk.there)) .nil) (fun _ _=>trivial) (fun v N' hpo=>?_)
  obtain⟨rfl,gB,cB,rB,rfl,k4,k5,k6⟩:=hpo
  simp only[List.cons_append,List.nil_append]
  repeat (first|refine Ta ?_|(refine Tm ?_;intro _)|refine Tc ?_|exact Tz)
  refine WO.callsL (hc:=k_Dealing (0+1+1) (.slice (some ⟨gK,0,none⟩) 1 cK) (.slice none 0 0) bk gB 1 cB [.slice (some ⟨gL,0,none⟩) l.length (l.length+1),.slice none 0 0,.int .i64 ((0+1+1:Nat):Int)] rB 0 0 0 0 none none none 0 0 0 0 0 0 (by decide) (by decide) rfl k4 k5) (hp:=.cons (by repeat (first|exact Pk.here|apply Pk.there)) (.cons (by repeat (first|exact Pk.here|apply Pk.there)) .nil)) (fun _ _=>trivial) (fun v N' hpo=>?_)
  obtain⟨rfl,gC,cC,rC,gQ,cQ,rQ,rfl,k7,k8,k9,k10,k11,k12⟩:=hpo
  simp only[List.cons_append,List.nil_append]
  have hAp:FnL Tryz.prog 17 [pt bk] ([⟨bk,66,bkC (0+1+1+1+1+1) (.slice (some ⟨gC,0,none⟩) (1+1+1) cC) (.slice (some ⟨gK,0,none⟩) 1 cK) (.slice (some ⟨gQ,0,none⟩) 1 cQ) (.slice none 0 0)⟩,⟨gC,138,[.slice (some ⟨gL,0,none⟩) l.length (l.length+1),.slice none 0 0,.int .i64 ((0+1+1:Nat):Int),(.slice none 0 0),.slice none 0 0,.int .i64 ((0+1+1+1:Nat):Int),(.slice none 0 0),.slice none 0 0,.int .i64 ((0+1+1+1+1:Nat):Int)]++rC⟩,⟨gK,162,[.slice (some ⟨gN,0,none⟩) N.length (N.length+1),.slice none 0 0,.int .i64 ((0+1:Nat):Int)]++rK⟩,⟨gQ,165,[(.slice none 0 0),.slice none 0 0,.int .i64 ((0+1+1+1+1+1:Nat):Int)]++rQ⟩,
      ⟨gL,24,l.flatMap numC++numC 77⟩,⟨gN,76,N.flatMap keyC++twoC 77 0⟩]) Tr (fun v N=>v=.bool true) :=
    k_Apart (0+1+1+1+1+1) bk gC (1+1+1) cC gK 1 cK gQ 1 cQ (fun k=>match k with|0=>⟨some gL,l.length,l.length+1,l.flatMap numC++numC 77,0+1+1⟩|1=>⟨none,0,0,[],0+1+1+1⟩|_=>⟨none,0,0,[],0+1+1+1+1⟩) (fun _=>⟨some gN,N.length,N.length+1,N.flatMap keyC++twoC 77 0,0+1⟩) (fun _=>⟨none,0,0,[],0+1+1+1+1+1⟩) rC rK rQ (by decide) (by decide) (by decide)
      (fun k _=>match k with
        | 0=>⟨(fun e=>by cases e),Nat.le_succ _,Nat.le_refl _,hn,hlL,(by show (0+1+1:Nat)<1000;decide)⟩
        | 1=>⟨(fun _=>⟨rfl,rfl⟩),Nat.le_refl _,Nat.le_succ _,Nat.zero_le _,rfl,(by show (0+1+1+1:Nat)<1000;decide)⟩
        | _+2=>⟨(fun _=>⟨rfl,rfl⟩),Nat.le_refl _,Nat.le_succ _,Nat.zero_le _,rfl,(by show (0+1+1+1+1:Nat)<1000;decide)⟩)
      (fun _ _=>⟨(fun e=>by cases e),Nat.le_succ _,Nat.le_refl _,hNl,hlK,(by show (0+1:Nat)<1000;decide)⟩) (fun _ _=>⟨(fun _=>⟨rfl,rfl⟩),Nat.le_refl _,Nat.le_succ _,Nat.zero_le _,rfl,(by show (0+1+1+1+1+1:Nat)<1000;decide)⟩)
  repeat (first|refine Ta ?_|(refine Tm ?_;intro _)|refine Tc ?_|exact Tz)
  refine WO.callsL (hc:=hAp) (hp:=.cons (by repeat (first|exact Pk.here|apply Pk.there)) (.cons (by repeat (first|exact Pk.here|apply Pk.there)) (.cons (by repeat (first|exact Pk.here|apply Pk.there)) (.cons (by repeat (first|exact Pk.here|apply Pk.there)) (.cons (by repeat (first|exact Pk.here|apply Pk.there)) (.cons (by repeat (first|exact Pk.here|apply Pk.there)) (.nil))))))) (fun _ _=>trivial) (fun v N' hpo=>?_)
  subst hpo
  repeat (first|refine Ta ?_|(refine Tm ?_;intro _)|refine Tc ?_|exact Tz)
  done
theorem u_DealingsDeal (hp:p<B256) (hq:q<B256) (hg:g<B256) (hh:h<B256) (hN:NumsOk N) (hl:∀ a∈l,a<B256)
    (hf1 : -9223372036854775808≤f) (hf2:f≤9223372036854775807) (hs1 : -9223372036854775808≤sec) (hs2:sec≤9223372036854775807) (hep:ep<18446744073709551616) (hd:d<256) (hx:x<B256) :
    Fn Tryz.prog 3 [stV p q g h f sec (.slice p0 N.length c0),gdV ep d (.slice p1 l.length c1) x] (fun w=>RdF keyC (.slice p0 N.length c0) N w∧RdF numC (.slice p1 l.length c1) l w) (Is (.bool true)):=by
  by_cases hgr:(100:Int)<(N.length:Int)∨(100:Int)<(l.length:Int)
  · exact u_DealGreat p q g h f sec ep d x p0 p1 c0 c1 N l hgr
  · rw[not_or] at hgr
    obtain⟨h1,h2⟩:=hgr
    cases hA:dealB p q g h f sec N d l x with
    | true=>exact u_DealY p q g h f sec ep d x p0 p1 c0 c1 N l hp hq hg hh hN (by omega) hl (by omega) hf1 hf2 hs1 hs2 hep hd hx hA
    | false=>exact u_DealN p q g h f sec ep d x p0 p1 c0 c1 N l hp hq hg hh hN (by omega) hl (by omega) hf1 hf2 hs1 hs2 hep hd hx hA
end
end Sx
end Go.Proofs.YtmhligfnchegdaaGreatDoor
namespace Go.Proofs.YtmhligfnchegdaaGreatDoor
open Go Go.RowKit Go.BigFrame Go.WideShapes
namespace Sx
theorem cut_join (cs:List Value) (a b c:Nat):cut cs a b++cut cs (a+b) c=cut cs a (b+c):=by
  unfold cut
  rw[List.take_add,List.drop_drop]
section
variable {H:Type} {enc:TypeId × Value→H} {P:Program} {w:World} {base:Nat} {spare:Nat→Bool} {held:Bool} {fuel:Nat} {cs:List Value} {x:DataW H × List MemPlace}
theorem reads_len {t:TypeId} {fs:Array Field} {m:Nat} (ht:P.underlying t=some (.struct fs)) (hm:P.cellsOf t=m) (h:DataW.trod enc P w base spare held fuel t cs=some x):cs.length=m:=by
  obtain⟨xs,n,_,_,hl,_⟩:=DataW.trod_struct ht h
  rw[hl,hm]
theorem reads_at {t:TypeId} {fs:Array Field} (ht:P.underlying t=some (.struct fs)) (h:DataW.trod enc P w base spare held fuel t cs=some x) {i off ty sz:Nat} {f:Field} (hf:fs[i]?=some f) (ho:f.offset=off) (hty:f.type=ty) (hs:P.cellsOf ty=sz) :
    ∃ n y,DataW.trod enc P w base spare held n ty (cut cs off sz)=some y:=by
  obtain⟨xs,n,_,_,_,hlen,hp⟩:=DataW.trod_struct ht h
  have h1:=hp i f hf
  subst ho hty hs
  have hi:i<xs.length:=by
    rw[hlen]
    rcases Nat.lt_or_ge i fs.size with h2|h2
    · exact h2
    · rw[Array.getElem?_eq_none h2] at hf;cases hf
  rw[List.getElem?_eq_getElem hi] at h1
  exact⟨n,_,h1⟩
theorem reads_u64 {t:TypeId} (ht:P.underlying t=some (.int .u64)) (h:DataW.trod enc P w base spare held fuel t cs=some x):∃ n:Nat,n<18446744073709551616∧cs=[.int .u64 (n:Int)]:=by
  obtain⟨n,rfl,_,hw⟩:=DataW.trod_int ht h
  simp only[Lit.wf,IntKind.min,IntKind.max,IntKind.signed,IntKind.bits,Bool.and_eq_true,decide_eq_true_eq] at hw
  have h1:(0:Int)≤n:=by simpa using hw.1
  have h2:n≤18446744073709551615:=by simpa using hw.2
  exact⟨n.toNat,by omega,by rw[Int.toNat_of_nonneg h1]⟩
theorem reads_u8 {t:TypeId} (ht:P.underlying t=some (.int .u8)) (h:DataW.trod enc P w base spare held fuel t cs=some x):∃ n:Nat,n<256∧cs=[.int .u8 (n:Int)]:=by
  obtain⟨n,rfl,_,hw⟩:=DataW.trod_int ht h
  simp only[Lit.wf,IntKind.min,IntKind.max,IntKind.signed,IntKind.bits,Bool.and_eq_true,decide_eq_true_eq] at hw
  have h1:(0:Int)≤n:=by simpa using hw.1
  have h2:n≤255:=by simpa using hw.2
  exact⟨n.toNat,by omega,by rw[Int.toNat_of_nonneg h1]⟩
theorem reads_i64 {t:TypeId} (ht:P.underlying t=some (.int .i64)) (h:DataW.trod enc P w base spare held fuel t cs=some x):∃ n:Int,-9223372036854775808≤n∧n≤9223372036854775807∧cs=[.int .i64 n]:=by
  obtain⟨n,rfl,_,hw⟩:=DataW.trod_int ht h
  simp only[Lit.wf,IntKind.min,IntKind.max,IntKind.signed,IntKind.bits,Bool.and_eq_true,decide_eq_true_eq] at hw
  exact⟨n,by simpa using hw.1,by simpa using hw.2,rfl⟩
theorem reads_num {t e:TypeId} (ht:P.underlying t=some (.array 4 e)) (he:P.underlying e=some (.int .u64)) (h4:P.cellsOf t=4) (h1:P.cellsOf e=1) (h:DataW.trod enc P w base spare held fuel t cs=some x):∃ n:Nat,n<B256∧cs=numC n:=by
  obtain⟨xs,m,_,_,hl,hlen,hp⟩:=DataW.trod_array ht h
  rw[h4] at hl
  match cs,hl with
  | [c0,c1,c2,c3],_ =>
    have k:∀ (i:Nat),i<4→∃ y,DataW.trod enc P w base spare held m e (([c0,c1,c2,c3].drop (i*P.cellsOf e)).take (P.cellsOf e))=some y:=fun i hi=>by
      have h2:=hp i hi
      rw[List.getElem?_eq_getElem (by omega)] at h2
      exact⟨_,h2⟩
    rw[h1] at k
    obtain⟨y0,k0⟩:=k 0 (by omega)
    obtain⟨y1,k1⟩:=k 1 (by omega)
    obtain⟨y2,k2⟩:=k 2 (by omega)
    obtain⟨y3,k3⟩:=k 3 (by omega)
    obtain⟨a0,b0,e0⟩:=reads_u64 he k0
    obtain⟨a1,b1,e1⟩:=reads_u64 he k1
    obtain⟨a2,b2,e2⟩:=reads_u64 he k2
    obtain⟨a3,b3,e3⟩:=reads_u64 he k3
    simp at e0 e1 e2 e3
    subst e0 e1 e2 e3
    obtain⟨w0,w1,w2,w3⟩:=wd_val4 b0 b1 b2 b3
    exact⟨val4 a0 a1 a2 a3,val4_lt b0 b1 b2 b3,by rw[numC,w0,w1,w2,w3]⟩
theorem Seg.app {b o:Nat} {A B:List Value} (hA:Seg w b o A) (hB:Seg w b (o+A.length) B):Seg w b o (A++B):=by
  intro i v hv
  rcases Nat.lt_or_ge i A.length with h|h
  · rw[List.getElem?_append_left h] at hv;exact hA i v hv
  · rw[List.getElem?_append_right h] at hv
    have:=hB _ v hv
    rwa [show o+A.length+(i - A.length)=o+i by omega] at this
theorem seg_of_cells {b o n:Nat} {l:List Value} (h:w.cells? base ⟨b,o,none⟩ n=some l):Seg w b o l:=by
  obtain⟨_,hl,hc⟩:=World.cells?_some h
  intro i v hv
  have hi:i<n:=by
    rw[← hl]
    rcases Nat.lt_or_ge i l.length with h1|h1
    · exact h1
    · rw[List.getElem?_eq_none h1] at hv;cases hv
  have:=hc i hi
  rw[add_mk] at this
  rw[this,hv]
theorem reads_row {α:Type} {f:α→List Value} {ok:α→Prop} {t e:TypeId} {k:Nat} (ht:P.underlying t=some (.slice e)) (hk:P.cellsOf e=k) (hf:∀ a,(f a).length=k)
    (hE:∀ (fuel:Nat) (cs:List Value) (x:DataW H × List MemPlace),DataW.trod enc P w base spare held fuel e cs=some x→∃ a,ok a∧cs=f a)
    (h:DataW.trod enc P w base spare held fuel t cs=some x) (hs:∀ a l c,cs=[.slice (some a) l c]→a.spot=none) :
    ∃ pt xs c,cs=[.slice pt xs.length c]∧(∀ a∈xs,ok a)∧RdF f (.slice pt xs.length c) xs w:=by
  rcases DataW.trod_slice ht h with ⟨rfl,_⟩|⟨a,len,cap,elems,rest,n,_,rfl,_,_,_,_,hlen,hel,_⟩
  · exact⟨none,[],0,rfl,by simp,none,0,rfl,.inl ⟨rfl,rfl⟩⟩
  have ha:=hs a len cap rfl
  obtain⟨b,o,sp⟩:=a
  simp only at ha
  subst ha
  have key:∀ m,m≤len→∃ xs:List α,xs.length=m∧(∀ a∈xs,ok a)∧Seg w b o (xs.flatMap f):=by
    intro m
    induction m with
    | zero=>exact fun _=>⟨[],rfl,by simp,fun i v hv=>by simp at hv⟩
    | succ m ih =>
      intro hm
      obtain⟨xs,h1,h2,h3⟩:=ih (by omega)
      have h4:=hel m (by omega)
      rw[List.getElem?_eq_getElem (by omega),hk,add_mk] at h4
      cases h5:w.cells? base ⟨b,o+m*k,none⟩ k with
      | none=>rw[h5] at h4;cases h4
      | some l =>
        rw[h5] at h4
        obtain⟨y,hy,rfl⟩:=hE n l _ h4
        refine⟨xs++[y],by simp[h1],fun a ha=>?_,?_⟩
        · rcases List.mem_append.1 ha with ha|ha
          · exact h2 a ha
          · obtain rfl:=List.mem_singleton.1 ha;exact hy
        · rw[List.flatMap_append]
          refine h3.app ?_
          rw[flat_length hf,h1]
          simpa using seg_of_cells h5
  obtain⟨xs,rfl,h2,h3⟩:=key len (Nat.le_refl _)
  exact⟨some ⟨b,o,none⟩,xs,cap,rfl,h2,_,cap,rfl,.inr ⟨b,o,rfl,h3⟩⟩
theorem okWide_spot {r:Reach} {b0:Nat} {t u e:TypeId} {cs:Array Value} {ts:List TypeId} {fs:Array Field} {i:Nat} (ht:P.underlying t=some (.struct fs)) (hts:P.cellTypes P.depth t=some ts) (hn:ts.length=P.cellsOf t)
    (hv:Value.okWide P w r b0 t (.agg cs)) (hu:ts[i]?=some u) (hue:P.underlying u=some (.slice e)):∀ a l c,cs[i]?=some (.slice (some a) l c)→a.spot=none:=by
  intro a l c hc
  unfold Value.okWide at hv
  rw[ht] at hv
  obtain⟨cs',h1,h2,ts',h3,_,h4⟩:=hv
  cases h1
  rw[hts] at h3
  cases h3
  obtain⟨u',h5,h6⟩:=h4 i _ hc
  have hi:i<ts.length:=by
    rcases Nat.lt_or_ge i ts.length with h|h
    · exact h
    · rw[List.getElem?_eq_none h] at hu;cases hu
  rw[Nat.mod_eq_of_lt hi,hu] at h5
  cases h5
  unfold Cell.okWide Cell.ok at h6
  rw[hue] at h6
  exact h6.2.2.2.1
end
section
variable {H:Type} {enc:TypeId × Value→H} {w:World} {base:Nat} {spare:Nat→Bool} {held:Bool} {fuel:Nat} {cs:List Value} {x:DataW H × List MemPlace}
theorem z_u64:Tryz.prog.cellsOf 22=1:=by kernel_rfl
theorem z_u8:Tryz.prog.cellsOf 5=1:=by kernel_rfl
theorem z_int:Tryz.prog.cellsOf 3=1:=by kernel_rfl
theorem z_num:Tryz.prog.cellsOf 24=4:=by kernel_rfl
theorem z_group:Tryz.prog.cellsOf 26=16:=by kernel_rfl
theorem z_key:Tryz.prog.cellsOf 76=8:=by kernel_rfl
theorem z_keys:Tryz.prog.cellsOf 27=1:=by kernel_rfl
theorem z_nums:Tryz.prog.cellsOf 30=1:=by kernel_rfl
theorem z_setting:Tryz.prog.cellsOf 29=19:=by kernel_rfl
theorem z_deal:Tryz.prog.cellsOf 32=7:=by kernel_rfl
theorem d_num (h:DataW.trod enc Tryz.prog w base spare held fuel 24 cs=some x):∃ n:Nat,n<B256∧cs=numC n:=reads_num Tryz.underlying24 Tryz.underlying22 z_num z_u64 h
theorem d_key (h:DataW.trod enc Tryz.prog w base spare held fuel 76 cs=some x):∃ k:Nat × Nat,(k.1<B256∧k.2<B256)∧cs=keyC k:=by
  have hl:=reads_len Tryz.underlying76 z_key h
  obtain⟨_,_,h0⟩:=reads_at Tryz.underlying76 h (i:=0) (off:=0) (ty:=24) rfl rfl rfl z_num
  obtain⟨_,_,h1⟩:=reads_at Tryz.underlying76 h (i:=1) (off:=4) (ty:=24) rfl rfl rfl z_num
  obtain⟨a,ha,e0⟩:=d_num h0
  obtain⟨b,hb,e1⟩:=d_num h1
  refine⟨(a,b),⟨ha,hb⟩,?_⟩
  rw[← cut_all hl,← cut_join cs 0 4 4,e0,e1]
  rfl
theorem d_group (h:DataW.trod enc Tryz.prog w base spare held fuel 26 cs=some x):∃ p q g u,p<B256∧q<B256∧g<B256∧u<B256∧cs=grpC p q g u:=by
  have hl:=reads_len Tryz.underlying26 z_group h
  obtain⟨_,_,h0⟩:=reads_at Tryz.underlying26 h (i:=0) (off:=0) (ty:=24) rfl rfl rfl z_num
  obtain⟨_,_,h1⟩:=reads_at Tryz.underlying26 h (i:=1) (off:=4) (ty:=24) rfl rfl rfl z_num
  obtain⟨_,_,h2⟩:=reads_at Tryz.underlying26 h (i:=2) (off:=8) (ty:=24) rfl rfl rfl z_num
  obtain⟨_,_,h3⟩:=reads_at Tryz.underlying26 h (i:=3) (off:=12) (ty:=24) rfl rfl rfl z_num
  obtain⟨a,ha,e0⟩:=d_num h0
  obtain⟨b,hb,e1⟩:=d_num h1
  obtain⟨c,hc,e2⟩:=d_num h2
  obtain⟨d,hd,e3⟩:=d_num h3
  refine⟨a,b,c,d,ha,hb,hc,hd,?_⟩
  rw[← cut_all hl,← cut_join cs 0 4 12,← cut_join cs (0+4) 4 8,← cut_join cs (0+4+4) 4 4,e0,e1,e2,e3]
  rfl
theorem cut_one {i:Nat} {v:Value} (h:cut cs i 1=[v]):cs[i]?=some v:=by
  have:=cut_get (j:=0) (v:=v) h rfl
  rwa [Nat.add_zero] at this
theorem d_setting (h:DataW.trod enc Tryz.prog w base spare held fuel 29 cs=some x) (hs:∀ a l c,cs[18]?=some (.slice (some a) l c)→a.spot=none) :
    ∃ p q g u f sec pt N c,p<B256∧q<B256∧g<B256∧u<B256∧(-9223372036854775808≤f∧f≤9223372036854775807∧-9223372036854775808≤sec∧sec≤9223372036854775807)∧NumsOk N∧cs=stC p q g u f sec (.slice pt N.length c)∧RdF keyC (.slice pt N.length c) N w:=by
  have hl:=reads_len Tryz.underlying29 z_setting h
  obtain⟨_,_,h0⟩:=reads_at Tryz.underlying29 h (i:=0) (off:=0) (ty:=26) rfl rfl rfl z_group
  obtain⟨_,_,h1⟩:=reads_at Tryz.underlying29 h (i:=1) (off:=16) (ty:=3) rfl rfl rfl z_int
  obtain⟨_,_,h2⟩:=reads_at Tryz.underlying29 h (i:=2) (off:=17) (ty:=3) rfl rfl rfl z_int
  obtain⟨_,_,h3⟩:=reads_at Tryz.underlying29 h (i:=3) (off:=18) (ty:=27) rfl rfl rfl z_keys
  obtain⟨p,q,g,u,hp,hq,hg,hu,e0⟩:=d_group h0
  obtain⟨f,hf1,hf2,e1⟩:=reads_i64 Tryz.underlying3 h1
  obtain⟨sec,hs1,hs2,e2⟩:=reads_i64 Tryz.underlying3 h2
  obtain⟨pt,N,c,e3,hN,hR⟩:=reads_row (f:=keyC) (ok:=fun k=>k.1<B256∧k.2<B256) Tryz.underlying27 z_key keyC_len (fun _ _ _ h=>d_key h) h3 (fun a l c e=>hs a l c (cut_one e))
  refine⟨p,q,g,u,f,sec,pt,N,c,hp,hq,hg,hu,⟨hf1,hf2,hs1,hs2⟩,hN,?_,hR⟩
  rw[← cut_all hl,← cut_join cs 0 16 3,← cut_join cs (0+16) 1 2,← cut_join cs (0+16+1) 1 1,e0,e1,e2,e3]
  rfl
theorem d_deal (h:DataW.trod enc Tryz.prog w base spare held fuel 32 cs=some x) (hs:∀ a l c,cs[2]?=some (.slice (some a) l c)→a.spot=none) :
    ∃ ep d pl l cl u,ep<18446744073709551616∧d<256∧(∀ y∈l,y<B256)∧u<B256∧cs=gdC ep d (.slice pl (List.length l) cl) u∧RdF numC (.slice pl l.length cl) l w:=by
  have hl:=reads_len Tryz.underlying32 z_deal h
  obtain⟨_,_,h0⟩:=reads_at Tryz.underlying32 h (i:=0) (off:=0) (ty:=22) rfl rfl rfl z_u64
  obtain⟨_,_,h1⟩:=reads_at Tryz.underlying32 h (i:=1) (off:=1) (ty:=5) rfl rfl rfl z_u8
  obtain⟨_,_,h2⟩:=reads_at Tryz.underlying32 h (i:=2) (off:=2) (ty:=30) rfl rfl rfl z_nums
  obtain⟨_,_,h3⟩:=reads_at Tryz.underlying32 h (i:=3) (off:=3) (ty:=24) rfl rfl rfl z_num
  obtain⟨ep,hep,e0⟩:=reads_u64 Tryz.underlying22 h0
  obtain⟨d,hd,e1⟩:=reads_u8 Tryz.underlying5 h1
  obtain⟨pl,l,cl,e2,hlb,hL⟩:=reads_row (f:=numC) (ok:=fun y=>y<B256) Tryz.underlying30 z_num numC_len (fun _ _ _ h=>d_num h) h2 (fun a l c e=>hs a l c (cut_one e))
  obtain⟨u,hu,e3⟩:=d_num h3
  refine⟨ep,d,pl,l,cl,u,hep,hd,hlb,hu,?_,hL⟩
  rw[← cut_all hl,← cut_join cs 0 1 6,← cut_join cs (0+1) 1 5,← cut_join cs (0+1+1) 1 4,e0,e1,e2,e3]
  rfl
end
end Sx
end Go.Proofs.YtmhligfnchegdaaGreatDoor
