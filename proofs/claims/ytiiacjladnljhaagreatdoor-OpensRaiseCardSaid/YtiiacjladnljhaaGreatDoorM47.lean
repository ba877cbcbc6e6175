/- Part 47 of the proof: LwE -/
import Derived.Test.YtiiacjladnljhaaGreatDoorM30
import Derived.Test.YtiiacjladnljhaaGreatDoorM42
import Derived.Test.YtiiacjladnljhaaGreatDoorM36
import Derived.Test.YtiiacjladnljhaaGreatDoorM46
set_option linter.unusedSimpArgs false
set_option linter.unusedVariables false
namespace Go.Proofs.YtiiacjladnljhaaGreatDoor
open Go Go.RowKit Go.BigFrame
namespace Sx
attribute [local irreducible] wd DQ DQS WO WC WX
section
variable (p q g h:Nat) (f sec:Int) (ep d sC sS n x:Nat) (p0 p1 p2 p3 p4 p5:Option Addr) (n1 n2 n3 c0 c1 c2 c3 c4 c5:Nat) (N:List (Nat × Nat)) (ls:List Od) (l:List Nat)
theorem u_RaiseGreat (hgr:grtB N.length n1 n2 n3 ls.length l.length=true):Fn Tryz.prog 3 [stV p q g h f sec (.slice p0 N.length c0),gvV ep d (.slice p1 n1 c1) (.slice p2 n2 c2) (.slice p3 n3 c3) sC sS n x (.slice p4 ls.length c4) (.slice p5 l.length c5)] (fun w=>RdF keyC (.slice p0 N.length c0) N w∧RdF odC (.slice p4 ls.length c4) ls w∧RdF numC (.slice p5 l.length c5) l w) (Is (.bool true)):=by
  have hG:=t_great p q g h f sec ep d sC sS n x p0 p1 p2 p3 p4 p5 N.length n1 n2 n3 ls.length l.length c0 c1 c2 c3 c4 c5
  rw[hgr] at hG
  refine Fn.enter Tryz.func3 rfl rfl rfl ?_
  intro w hw
  repeat (first|refine Ta ?_|(refine Tm ?_;intro _)|refine WO.acall (hc:=hG) (k:=?_)|refine Tc ?_|exact Tz)
  done
set_option maxHeartbeats 8000000 in
theorem u_RaiseYY (m:Nat) (hm100:m≤100) (hNl:N.length≤100) (hol:ls.length≤100) (hn:l.length≤100) (hOk:∀ o∈ls,OdOk o) (hgr:grtB N.length n1 n2 n3 ls.length l.length=false)
    (As:List Nat) (hAl:As.length=m)
    (Cs:List Nat) (hCl:Cs.length=m)
    (hA1:∀ gN gL,Fn Tryz.prog 8 [stV p q g h f sec (.slice (some ⟨gN,0,none⟩) N.length (N.length+1)),.slice (some ⟨gL,0,none⟩) ls.length (ls.length+1)] (fun w=>RdF keyC (.slice (some ⟨gN,0,none⟩) N.length (N.length+1)) N w∧RdF odC (.slice (some ⟨gL,0,none⟩) ls.length (ls.length+1)) ls w) (Ex (fun s=>.tuple #[.slice (some ⟨s 0,0,none⟩) m m,.int .i64 0]) (fun s=>[⟨s 0,24,As.flatMap numC⟩]) (fun _=>True)))
    (hA2:Fn Tryz.prog 9 [stV p q g h f sec (.slice p0 N.length c0),.slice p4 ls.length c4] (fun w=>RdF keyC (.slice p0 N.length c0) N w∧RdF odC (.slice p4 ls.length c4) ls w) (NewG m (As.flatMap numC)))
    (hC1:∀ gN gL,Fn Tryz.prog 10 [stV p q g h f sec (.slice (some ⟨gN,0,none⟩) N.length (N.length+1)),.slice (some ⟨gL,0,none⟩) l.length (l.length+1)] (fun w=>RdF keyC (.slice (some ⟨gN,0,none⟩) N.length (N.length+1)) N w∧RdF numC (.slice (some ⟨gL,0,none⟩) l.length (l.length+1)) l w) (Ex (fun s=>.tuple #[.slice (some ⟨s 0,0,none⟩) m m,.int .i64 0]) (fun s=>[⟨s 0,24,Cs.flatMap numC⟩]) (fun _=>True)))
    (hC2:Fn Tryz.prog 11 [stV p q g h f sec (.slice p0 N.length c0),.slice p5 l.length c5] (fun w=>RdF keyC (.slice p0 N.length c0) N w∧RdF numC (.slice p5 l.length c5) l w) (NewG m (Cs.flatMap numC))) :
    Fn Tryz.prog 3 [stV p q g h f sec (.slice p0 N.length c0),gvV ep d (.slice p1 n1 c1) (.slice p2 n2 c2) (.slice p3 n3 c3) sC sS n x (.slice p4 ls.length c4) (.slice p5 l.length c5)] (fun w=>RdF keyC (.slice p0 N.length c0) N w∧RdF odC (.slice p4 ls.length c4) ls w∧RdF numC (.slice p5 l.length c5) l w) (Is (.bool true)):=by
  have hG:=t_great p q g h f sec ep d sC sS n x p0 p1 p2 p3 p4 p5 N.length n1 n2 n3 ls.length l.length c0 c1 c2 c3 c4 c5
  rw[hgr] at hG
  have hTS:=u_TwinSetting p q g h f sec p0 c0 N hNl
  have hTO:=t_TwinOpeneds ls p4 c4 hol
  have hTN:=t_TwinNums l p5 c5 hn
  have hLS:=fun gN=>u_LeftSetting p q g h f sec p0 c0 N gN hNl
  have hLO:=fun gL=>t_LeftOpeneds ls p4 c4 gL hol hOk
  have hLN:=fun gL=>t_LeftNums l p5 c5 gL hn
  have hlK:(N.flatMap keyC++twoC 77 0).length=(N.length+1)*8:=by rw[List.length_append,flat_length keyC_len,Nat.succ_mul];rfl
  have hlO:(ls.flatMap odC++opC 77 0 0 0 0 0).length=(ls.length+1)*15:=by rw[List.length_append,flat_length odC_len,Nat.succ_mul];rfl
  have hlL:(l.flatMap numC++numC 77).length=(l.length+1)*4:=by rw[List.length_append,flat_length numC_len,Nat.succ_mul];rfl
  have hSA:=fun g1 g2 cc=>u_SameNums As (some ⟨g1,0,none⟩) (some ⟨g2,0,none⟩) m cc (by omega)
  rw[hAl] at hSA
  have hlA:(As.flatMap numC).length=m*4:=by rw[flat_length numC_len,hAl]
  have hSC:=fun g1 g2 cc=>u_SameNums Cs (some ⟨g1,0,none⟩) (some ⟨g2,0,none⟩) m cc (by omega)
  rw[hCl] at hSC
  have hlC:(Cs.flatMap numC).length=m*4:=by rw[flat_length numC_len,hCl]
  clear hOk hgr
  refine Fn.enter Tryz.func3 rfl rfl rfl ?_
  intro w hw
  obtain⟨wN,wO,wL⟩:=hw
  repeat (first|refine Ta ?_|(refine Tm ?_;intro _)|refine WO.acall (hc:=hG) (k:=?_)|refine Tc ?_|exact Tz)
  rename_i gS gZ
  refine WO.acallX (hc:=hTS) (hR:=fun w hm=>wN.mod hm.mod) (k:=fun s1 hs1=>?_)
  clear hs1
  generalize s1 0=gN
  clear s1
  simp only[List.cons_append,List.nil_append]
  repeat (first|refine Ta ?_|(refine Tm ?_;intro _)|refine Tc ?_|exact Tz)
  rename_i gT
  refine WO.acallC (hc:=hTO) (hR:=fun w hm=>wO.mod hm.mod) (k:=fun gL=>?_)
  repeat (first|refine Ta ?_|(refine Tm ?_;intro _)|refine Tc ?_|exact Tz)
  refine WO.acallC (hc:=hTN) (hR:=fun w hm=>wL.mod hm.mod) (k:=fun gP=>?_)
  repeat (first|refine Ta ?_|(refine Tm ?_;intro _)|refine Tc ?_|exact Tz)
  refine WO.acallX (hc:=hA1 gN gL) (hR:=fun w1 hm=>⟨RdF.seg (f:=keyC) (xs:=N) (r:=twoC 77 0) (Hs.seg (by repeat (first|exact Hs.here|apply Hs.there)) hm),RdF.seg (f:=odC) (xs:=ls) (r:=opC 77 0 0 0 0 0) (Hs.seg (by repeat (first|exact Hs.here|apply Hs.there)) hm)⟩) (k:=fun s1 hs1=>?_)
  clear hs1
  generalize s1 0=gA
  clear s1
  simp only[List.cons_append,List.nil_append]
  repeat (first|refine Ta ?_|(refine Tm ?_;intro _)|refine Tc ?_|exact Tz)
  refine WO.calls (fs:=[]) (cs:=[]) hA2 rfl rfl rfl (fun w1 hm=>⟨wN.mod hm.mod,wO.mod hm.mod⟩) (fun u N' ⟨gA2,cgA2,rgA2,e1,e2⟩=>?_)
  subst e1 e2
  simp only[List.cons_append,List.nil_append]
  repeat (first|refine Ta ?_|(refine Tm ?_;intro _)|refine Tc ?_|exact Tz)
  refine WO.acallX (hc:=hC1 gN gP) (hR:=fun w1 hm=>⟨RdF.seg (f:=keyC) (xs:=N) (r:=twoC 77 0) (Hs.seg (by repeat (first|exact Hs.here|apply Hs.there)) hm),RdF.seg (f:=numC) (xs:=l) (r:=numC 77) (Hs.seg (by repeat (first|exact Hs.here|apply Hs.there)) hm)⟩) (k:=fun s1 hs1=>?_)
  clear hs1
  generalize s1 0=gC
  clear s1
  simp only[List.cons_append,List.nil_append]
  repeat (first|refine Ta ?_|(refine Tm ?_;intro _)|refine Tc ?_|exact Tz)
  refine WO.calls (fs:=[]) (cs:=[]) hC2 rfl rfl rfl (fun w1 hm=>⟨wN.mod hm.mod,wL.mod hm.mod⟩) (fun u N' ⟨gC2,cgC2,rgC2,e1,e2⟩=>?_)
  subst e1 e2
  simp only[List.cons_append,List.nil_append]
  repeat (first|refine Ta ?_|(refine Tm ?_;intro _)|refine Tc ?_|exact Tz)
  refine WO.acallR (hc:=hSA gA gA2 cgA2) (hR:=fun w1 hm=>⟨by have:=RdF.seg (f:=numC) (xs:=As) (r:=[]) (c:=m) (Hs.seg (L:=_) (g:=gA) (t:=24) (by first|(rw[List.append_nil];repeat (first|exact Hs.here|apply Hs.there))|repeat (first|exact Hs.here|apply Hs.there)) hm);rw[hAl] at this;exact this,by have:=RdF.seg (f:=numC) (xs:=As) (r:=rgA2) (c:=cgA2) (Hs.seg (L:=_) (g:=gA2) (t:=24) (by first|(rw[List.append_nil];repeat (first|exact Hs.here|apply Hs.there))|repeat (first|exact Hs.here|apply Hs.there)) hm);rw[hAl] at this;exact this⟩) (k:=?_)
  repeat (first|refine WO.does (does_neqN rfl rfl rfl) ?_|refine Ta ?_|(refine Tm ?_;intro _)|refine Tc ?_|exact Tz)
  refine WO.acallR (hc:=hSC gC gC2 cgC2) (hR:=fun w1 hm=>⟨by have:=RdF.seg (f:=numC) (xs:=Cs) (r:=[]) (c:=m) (Hs.seg (L:=_) (g:=gC) (t:=24) (by first|(rw[List.append_nil];repeat (first|exact Hs.here|apply Hs.there))|repeat (first|exact Hs.here|apply Hs.there)) hm);rw[hCl] at this;exact this,by have:=RdF.seg (f:=numC) (xs:=Cs) (r:=rgC2) (c:=cgC2) (Hs.seg (L:=_) (g:=gC2) (t:=24) (by first|(rw[List.append_nil];repeat (first|exact Hs.here|apply Hs.there))|repeat (first|exact Hs.here|apply Hs.there)) hm);rw[hCl] at this;exact this⟩) (k:=?_)
  repeat (first|refine WO.does (does_neqN rfl rfl rfl) ?_|refine Ta ?_|(refine Tm ?_;intro _)|refine Tc ?_|exact Tz)
  refine WO.acallR (hc:=hLS gN) (hR:=fun w1 hm=>⟨Hs.seg (by repeat (first|exact Hs.here|apply Hs.there)) hm,wN.mod hm.mod⟩) (k:=?_)
  repeat (first|refine Ta ?_|(refine Tm ?_;intro _)|refine Tc ?_|exact Tz)
  refine WO.acallR (hc:=hLO gL) (hR:=fun w1 hm=>⟨Hs.seg (by repeat (first|exact Hs.here|apply Hs.there)) hm,wO.mod hm.mod⟩) (k:=?_)
  repeat (first|refine Ta ?_|(refine Tm ?_;intro _)|refine Tc ?_|exact Tz)
  refine WO.acallR (hc:=hLN gP) (hR:=fun w1 hm=>⟨Hs.seg (by repeat (first|exact Hs.here|apply Hs.there)) hm,wL.mod hm.mod⟩) (k:=?_)
  repeat (first|refine Ta ?_|(refine Tm ?_;intro _)|refine Tc ?_|exact Tz)
  rename_i bk
  refine WO.callsL (hc:=k_Setting 0 (.slice none 0 0) (.slice none 0 0) (.slice none 0 0) bk (some ⟨gN,0,none⟩) N.length (N.length+1) p q g h f sec (by decide)) (hp:=(.cons (by repeat (first|exact Pk.here|apply Pk.there)) .nil)) (fun _ _=>trivial) (fun v N' hpo=>?_)
  obtain⟨rfl,gK,cK,rK,rfl,k1,k2,k3⟩:=hpo
  simp only[List.cons_append,List.nil_append]
  repeat (first|refine Ta ?_|(refine Tm ?_;intro _)|refine Tc ?_|exact Tz)
  refine WO.callsL (hc:=k_Openeds0 (0+1) (.slice none 0 0) (.slice (some ⟨gK,0,none⟩) 1 cK) (.slice none 0 0) bk (some ⟨gL,0,none⟩) ls.length (ls.length+1) (by decide)) (hp:=(.cons (by repeat (first|exact Pk.here|apply Pk.there)) .nil)) (fun _ _=>trivial) (fun v N' hpo=>?_)
  obtain⟨rfl,gO,cO,rO,rfl,k4,k5,k6⟩:=hpo
  simp only[List.cons_append,List.nil_append]
  repeat (first|refine Ta ?_|(refine Tm ?_;intro _)|refine Tc ?_|exact Tz)
  refine WO.callsL (hc:=k_Nums0 (0+1+1) (.slice (some ⟨gK,0,none⟩) 1 cK) (.slice none 0 0) (.slice (some ⟨gO,0,none⟩) 1 cO) bk (some ⟨gP,0,none⟩) l.length (l.length+1) (by decide)) (hp:=(.cons (by repeat (first|exact Pk.here|apply Pk.there)) .nil)) (fun _ _=>trivial) (fun v N' hpo=>?_)
  obtain⟨rfl,gB,cB,rB,rfl,k7,k8,k9⟩:=hpo
  simp only[List.cons_append,List.nil_append]
  repeat (first|refine Ta ?_|(refine Tm ?_;intro _)|refine Tc ?_|exact Tz)
  refine WO.callsL (hc:=k_Nums1 (0+1+1+1) (.slice (some ⟨gK,0,none⟩) 1 cK) (.slice none 0 0) (.slice (some ⟨gO,0,none⟩) 1 cO) bk (some ⟨gA,0,none⟩) m m gB 1 cB [.slice (some ⟨gP,0,none⟩) l.length (l.length+1),.slice none 0 0,.int .i64 ((0+1+1+1:Nat):Int)] rB (by decide) (by decide) rfl k7 k8) (hp:=(.cons (by repeat (first|exact Pk.here|apply Pk.there)) (.cons (by repeat (first|exact Pk.here|apply Pk.there)) .nil))) (fun _ _=>trivial) (fun v N' hpo=>?_)
  obtain⟨rfl,gD,cD,rD,rfl,k10,k11,k12⟩:=hpo
  simp only[List.cons_append,List.nil_append]
  repeat (first|refine Ta ?_|(refine Tm ?_;intro _)|refine Tc ?_|exact Tz)
  refine WO.callsL (hc:=k_Nums1 (0+1+1+1+1) (.slice (some ⟨gK,0,none⟩) 1 cK) (.slice none 0 0) (.slice (some ⟨gO,0,none⟩) 1 cO) bk (some ⟨gC,0,none⟩) m m gD (1+1) cD [.slice (some ⟨gP,0,none⟩) l.length (l.length+1),.slice none 0 0,.int .i64 ((0+1+1+1:Nat):Int),.slice (some ⟨gA,0,none⟩) m m,.slice none 0 0,.int .i64 ((0+1+1+1+1:Nat):Int)] rD (by decide) (by decide) rfl k10 k11) (hp:=(.cons (by repeat (first|exact Pk.here|apply Pk.there)) (.cons (by repeat (first|exact Pk.here|apply Pk.there)) .nil))) (fun _ _=>trivial) (fun v N' hpo=>?_)
  obtain⟨rfl,gE,cE,rE,rfl,k13,k14,k15⟩:=hpo
  simp only[List.cons_append,List.nil_append]
  repeat (first|refine Ta ?_|(refine Tm ?_;intro _)|refine Tc ?_|exact Tz)
  have hAp:FnL Tryz.prog 19 [pt bk] ([⟨bk,68,bkC (0+1+1+1+1+1) (.slice (some ⟨gE,0,none⟩) (1+1+1) cE) (.slice (some ⟨gK,0,none⟩) 1 cK) (.slice none 0 0) (.slice (some ⟨gO,0,none⟩) 1 cO)⟩,⟨gE,124,[.slice (some ⟨gP,0,none⟩) l.length (l.length+1),.slice none 0 0,.int .i64 ((0+1+1+1:Nat):Int),.slice (some ⟨gA,0,none⟩) m m,.slice none 0 0,.int .i64 ((0+1+1+1+1:Nat):Int),.slice (some ⟨gC,0,none⟩) m m,.slice none 0 0,.int .i64 ((0+1+1+1+1+1:Nat):Int)]++rE⟩,⟨gK,150,[.slice (some ⟨gN,0,none⟩) N.length (N.length+1),.slice none 0 0,.int .i64 ((0+1:Nat):Int)]++rK⟩,⟨gO,122,[.slice (some ⟨gL,0,none⟩) ls.length (ls.length+1),.slice none 0 0,.int .i64 ((0+1+1:Nat):Int)]++rO⟩,
      ⟨gP,24,l.flatMap numC++numC 77⟩,⟨gA,24,As.flatMap numC⟩,⟨gC,24,Cs.flatMap numC⟩,⟨gN,97,N.flatMap keyC++twoC 77 0⟩,⟨gL,76,ls.flatMap odC++opC 77 0 0 0 0 0⟩]) Tr (fun v N=>v=.bool true) :=
    k_ApartO (0+1+1+1+1+1) bk gE (1+1+1) cE gK 1 cK gO 1 cO (fun k=>match k with|0=>⟨some gP,l.length,l.length+1,l.flatMap numC++numC 77,0+1+1+1⟩|1=>⟨some gA,m,m,As.flatMap numC,0+1+1+1+1⟩|_=>⟨some gC,m,m,Cs.flatMap numC,0+1+1+1+1+1⟩) (fun _=>⟨some gN,N.length,N.length+1,N.flatMap keyC++twoC 77 0,0+1⟩) (fun _=>⟨some gL,ls.length,ls.length+1,ls.flatMap odC++opC 77 0 0 0 0 0,0+1+1⟩) rE rK rO (by decide) (by decide) (by decide)
      (fun k _=>match k with
        | 0=>⟨(fun e=>by cases e),Nat.le_succ _,Nat.le_refl _,hn,hlL,(by show (0+1+1+1:Nat)<1000;decide)⟩
        | 1=>⟨(fun e=>by cases e),Nat.le_refl _,Nat.le_succ _,hm100,hlA,(by show (0+1+1+1+1:Nat)<1000;decide)⟩
        | _+2=>⟨(fun e=>by cases e),Nat.le_refl _,Nat.le_succ _,hm100,hlC,(by show (0+1+1+1+1+1:Nat)<1000;decide)⟩)
      (fun _ _=>⟨(fun e=>by cases e),Nat.le_succ _,Nat.le_refl _,hNl,hlK,(by show (0+1:Nat)<1000;decide)⟩) (fun _ _=>⟨(fun e=>by cases e),Nat.le_succ _,Nat.le_refl _,hol,hlO,(by show (0+1+1:Nat)<1000;decide)⟩)
  refine WO.callsL (hc:=hAp) (hp:=(.cons (by repeat (first|exact Pk.here|apply Pk.there)) (.cons (by repeat (first|exact Pk.here|apply Pk.there)) (.cons (by repeat (first|exact Pk.here|apply Pk.there)) (.cons (by repeat (first|exact Pk.here|apply Pk.there)) (.cons (by repeat (first|exact Pk.here|apply Pk.there)) (.cons (by repeat (first|exact Pk.here|apply Pk.there)) (.cons (by repeat (first|exact Pk.here|apply Pk.there)) (.cons (by repeat (first|exact Pk.here|apply Pk.there)) (.cons (by repeat (first|exact Pk.here|apply Pk.there)) .nil)))))))))) (fun _ _=>trivial) (fun v N' hpo=>?_)
  subst hpo
  repeat (first|refine Ta ?_|(refine Tm ?_;intro _)|refine Tc ?_|exact Tz)
  done
set_option maxHeartbeats 8000000 in
theorem u_RaiseYN (m:Nat) (hm100:m≤100) (hNl:N.length≤100) (hol:ls.length≤100) (hn:l.length≤100) (hOk:∀ o∈ls,OdOk o) (hgr:grtB N.length n1 n2 n3 ls.length l.length=false)
    (As:List Nat) (hAl:As.length=m)
    (e2:Int)
    (hA1:∀ gN gL,Fn Tryz.prog 8 [stV p q g h f sec (.slice (some ⟨gN,0,none⟩) N.length (N.length+1)),.slice (some ⟨gL,0,none⟩) ls.length (ls.length+1)] (fun w=>RdF keyC (.slice (some ⟨gN,0,none⟩) N.length (N.length+1)) N w∧RdF odC (.slice (some ⟨gL,0,none⟩) ls.length (ls.length+1)) ls w) (Ex (fun s=>.tuple #[.slice (some ⟨s 0,0,none⟩) m m,.int .i64 0]) (fun s=>[⟨s 0,24,As.flatMap numC⟩]) (fun _=>True)))
    (hA2:Fn Tryz.prog 9 [stV p q g h f sec (.slice p0 N.length c0),.slice p4 ls.length c4] (fun w=>RdF keyC (.slice p0 N.length c0) N w∧RdF odC (.slice p4 ls.length c4) ls w) (NewG m (As.flatMap numC)))
    (hC1:∀ gN gL,Fn Tryz.prog 10 [stV p q g h f sec (.slice (some ⟨gN,0,none⟩) N.length (N.length+1)),.slice (some ⟨gL,0,none⟩) l.length (l.length+1)] (fun w=>RdF keyC (.slice (some ⟨gN,0,none⟩) N.length (N.length+1)) N w∧RdF numC (.slice (some ⟨gL,0,none⟩) l.length (l.length+1)) l w) (Is (.tuple #[.slice none 0 0,.int .i64 e2])))
    (hC2:Fn Tryz.prog 11 [stV p q g h f sec (.slice p0 N.length c0),.slice p5 l.length c5] (fun w=>RdF keyC (.slice p0 N.length c0) N w∧RdF numC (.slice p5 l.length c5) l w) (Is (.tuple #[.slice none 0 0,.int .i64 e2]))) :
    Fn Tryz.prog 3 [stV p q g h f sec (.slice p0 N.length c0),gvV ep d (.slice p1 n1 c1) (.slice p2 n2 c2) (.slice p3 n3 c3) sC sS n x (.slice p4 ls.length c4) (.slice p5 l.length c5)] (fun w=>RdF keyC (.slice p0 N.length c0) N w∧RdF odC (.slice p4 ls.length c4) ls w∧RdF numC (.slice p5 l.length c5) l w) (Is (.bool true)):=by
  have hG:=t_great p q g h f sec ep d sC sS n x p0 p1 p2 p3 p4 p5 N.length n1 n2 n3 ls.length l.length c0 c1 c2 c3 c4 c5
  rw[hgr] at hG
  have hTS:=u_TwinSetting p q g h f sec p0 c0 N hNl
  have hTO:=t_TwinOpeneds ls p4 c4 hol
  have hTN:=t_TwinNums l p5 c5 hn
  have hLS:=fun gN=>u_LeftSetting p q g h f sec p0 c0 N gN hNl
  have hLO:=fun gL=>t_LeftOpeneds ls p4 c4 gL hol hOk
  have hLN:=fun gL=>t_LeftNums l p5 c5 gL hn
  have hlK:(N.flatMap keyC++twoC 77 0).length=(N.length+1)*8:=by rw[List.length_append,flat_length keyC_len,Nat.succ_mul];rfl
  have hlO:(ls.flatMap odC++opC 77 0 0 0 0 0).length=(ls.length+1)*15:=by rw[List.length_append,flat_length odC_len,Nat.succ_mul];rfl
  have hlL:(l.flatMap numC++numC 77).length=(l.length+1)*4:=by rw[List.length_append,flat_length numC_len,Nat.succ_mul];rfl
  have hSA:=fun g1 g2 cc=>u_SameNums As (some ⟨g1,0,none⟩) (some ⟨g2,0,none⟩) m cc (by omega)
  rw[hAl] at hSA
  have hlA:(As.flatMap numC).length=m*4:=by rw[flat_length numC_len,hAl]
  have hSC:=u_SameNums [] none none 0 0 (by decide)
  clear hOk hgr
  refine Fn.enter Tryz.func3 rfl rfl rfl ?_
  intro w hw
  obtain⟨wN,wO,wL⟩:=hw
  repeat (first|refine Ta ?_|(refine Tm ?_;intro _)|refine WO.acall (hc:=hG) (k:=?_)|refine Tc ?_|exact Tz)
  rename_i gS gZ
  refine WO.acallX (hc:=hTS) (hR:=fun w hm=>wN.mod hm.mod) (k:=fun s1 hs1=>?_)
  clear hs1
  generalize s1 0=gN
  clear s1
  simp only[List.cons_append,List.nil_append]
  repeat (first|refine Ta ?_|(refine Tm ?_;intro _)|refine Tc ?_|exact Tz)
  rename_i gT
  refine WO.acallC (hc:=hTO) (hR:=fun w hm=>wO.mod hm.mod) (k:=fun gL=>?_)
  repeat (first|refine Ta ?_|(refine Tm ?_;intro _)|refine Tc ?_|exact Tz)
  refine WO.acallC (hc:=hTN) (hR:=fun w hm=>wL.mod hm.mod) (k:=fun gP=>?_)
  repeat (first|refine Ta ?_|(refine Tm ?_;intro _)|refine Tc ?_|exact Tz)
  refine WO.acallX (hc:=hA1 gN gL) (hR:=fun w1 hm=>⟨RdF.seg (f:=keyC) (xs:=N) (r:=twoC 77 0) (Hs.seg (by repeat (first|exact Hs.here|apply Hs.there)) hm),RdF.seg (f:=odC) (xs:=ls) (r:=opC 77 0 0 0 0 0) (Hs.seg (by repeat (first|exact Hs.here|apply Hs.there)) hm)⟩) (k:=fun s1 hs1=>?_)
  clear hs1
  generalize s1 0=gA
  clear s1
  simp only[List.cons_append,List.nil_append]
  repeat (first|refine Ta ?_|(refine Tm ?_;intro _)|refine Tc ?_|exact Tz)
  refine WO.calls (fs:=[]) (cs:=[]) hA2 rfl rfl rfl (fun w1 hm=>⟨wN.mod hm.mod,wO.mod hm.mod⟩) (fun u N' ⟨gA2,cgA2,rgA2,e1,e2⟩=>?_)
  subst e1 e2
  simp only[List.cons_append,List.nil_append]
  repeat (first|refine Ta ?_|(refine Tm ?_;intro _)|refine Tc ?_|exact Tz)
  refine WO.acallR (hc:=hC1 gN gP) (hR:=fun w1 hm=>⟨RdF.seg (f:=keyC) (xs:=N) (r:=twoC 77 0) (Hs.seg (by repeat (first|exact Hs.here|apply Hs.there)) hm),RdF.seg (f:=numC) (xs:=l) (r:=numC 77) (Hs.seg (by repeat (first|exact Hs.here|apply Hs.there)) hm)⟩) (k:=?_)
  repeat (first|refine Ta ?_|(refine Tm ?_;intro _)|refine Tc ?_|exact Tz)
  refine WO.acallR (hc:=hC2) (hR:=fun w1 hm=>⟨wN.mod hm.mod,wL.mod hm.mod⟩) (k:=?_)
  repeat (first|refine Ta ?_|(refine Tm ?_;intro _)|refine Tc ?_|exact Tz)
  refine WO.acallR (hc:=hSA gA gA2 cgA2) (hR:=fun w1 hm=>⟨by have:=RdF.seg (f:=numC) (xs:=As) (r:=[]) (c:=m) (Hs.seg (L:=_) (g:=gA) (t:=24) (by first|(rw[List.append_nil];repeat (first|exact Hs.here|apply Hs.there))|repeat (first|exact Hs.here|apply Hs.there)) hm);rw[hAl] at this;exact this,by have:=RdF.seg (f:=numC) (xs:=As) (r:=rgA2) (c:=cgA2) (Hs.seg (L:=_) (g:=gA2) (t:=24) (by first|(rw[List.append_nil];repeat (first|exact Hs.here|apply Hs.there))|repeat (first|exact Hs.here|apply Hs.there)) hm);rw[hAl] at this;exact this⟩) (k:=?_)
  repeat (first|refine WO.does (does_neqN rfl rfl rfl) ?_|refine Ta ?_|(refine Tm ?_;intro _)|refine Tc ?_|exact Tz)
  refine WO.acallR (hc:=hSC) (hR:=fun w1 hm=>⟨⟨none,0,rfl,.inl ⟨rfl,rfl⟩⟩,⟨none,0,rfl,.inl ⟨rfl,rfl⟩⟩⟩) (k:=?_)
  repeat (first|refine WO.does (does_neqN rfl rfl rfl) ?_|refine Ta ?_|(refine Tm ?_;intro _)|refine Tc ?_|exact Tz)
  refine WO.acallR (hc:=hLS gN) (hR:=fun w1 hm=>⟨Hs.seg (by repeat (first|exact Hs.here|apply Hs.there)) hm,wN.mod hm.mod⟩) (k:=?_)
  repeat (first|refine Ta ?_|(refine Tm ?_;intro _)|refine Tc ?_|exact Tz)
  refine WO.acallR (hc:=hLO gL) (hR:=fun w1 hm=>⟨Hs.seg (by repeat (first|exact Hs.here|apply Hs.there)) hm,wO.mod hm.mod⟩) (k:=?_)
  repeat (first|refine Ta ?_|(refine Tm ?_;intro _)|refine Tc ?_|exact Tz)
  refine WO.acallR (hc:=hLN gP) (hR:=fun w1 hm=>⟨Hs.seg (by repeat (first|exact Hs.here|apply Hs.there)) hm,wL.mod hm.mod⟩) (k:=?_)
  repeat (first|refine Ta ?_|(refine Tm ?_;intro _)|refine Tc ?_|exact Tz)
  rename_i bk
  refine WO.callsL (hc:=k_Setting 0 (.slice none 0 0) (.slice none 0 0) (.slice none 0 0) bk (some ⟨gN,0,none⟩) N.length (N.length+1) p q g h f sec (by decide)) (hp:=(.cons (by repeat (first|exact Pk.here|apply Pk.there)) .nil)) (fun _ _=>trivial) (fun v N' hpo=>?_)
  obtain⟨rfl,gK,cK,rK,rfl,k1,k2,k3⟩:=hpo
  simp only[List.cons_append,List.nil_append]
  repeat (first|refine Ta ?_|(refine Tm ?_;intro _)|refine Tc ?_|exact Tz)
  refine WO.callsL (hc:=k_Openeds0 (0+1) (.slice none 0 0) (.slice (some ⟨gK,0,none⟩) 1 cK) (.slice none 0 0) bk (some ⟨gL,0,none⟩) ls.length (ls.length+1) (by decide)) (hp:=(.cons (by repeat (first|exact Pk.here|apply Pk.there)) .nil)) (fun _ _=>trivial) (fun v N' hpo=>?_)
  obtain⟨rfl,gO,cO,rO,rfl,k4,k5,k6⟩:=hpo
  simp only[List.cons_append,List.nil_append]
  repeat (first|refine Ta ?_|(refine Tm ?_;intro _)|refine Tc ?_|exact Tz)
  refine WO.callsL (hc:=k_Nums0 (0+1+1) (.slice (some ⟨gK,0,none⟩) 1 cK) (.slice none 0 0) (.slice (some ⟨gO,0,none⟩) 1 cO) bk (some ⟨gP,0,none⟩) l.length (l.length+1) (by decide)) (hp:=(.cons (by repeat (first|exact Pk.here|apply Pk.there)) .nil)) (fun _ _=>trivial) (fun v N' hpo=>?_)
  obtain⟨rfl,gB,cB,rB,rfl,k7,k8,k9⟩:=hpo
  simp only[List.cons_append,List.nil_append]
  repeat (first|refine Ta ?_|(refine Tm ?_;intro _)|refine Tc ?_|exact Tz)
  refine WO.callsL (hc:=k_Nums1 (0+1+1+1) (.slice (some ⟨gK,0,none⟩) 1 cK) (.slice none 0 0) (.slice (some ⟨gO,0,none⟩) 1 cO) bk (some ⟨gA,0,none⟩) m m gB 1 cB [.slice (some ⟨gP,0,none⟩) l.length (l.length+1),.slice none 0 0,.int .i64 ((0+1+1+1:Nat):Int)] rB (by decide) (by decide) rfl k7 k8) (hp:=(.cons (by repeat (first|exact Pk.here|apply Pk.there)) (.cons (by repeat (first|exact Pk.here|apply Pk.there)) .nil))) (fun _ _=>trivial) (fun v N' hpo=>?_)
  obtain⟨rfl,gD,cD,rD,rfl,k10,k11,k12⟩:=hpo
  simp only[List.cons_append,List.nil_append]
  repeat (first|refine Ta ?_|(refine Tm ?_;intro _)|refine Tc ?_|exact Tz)
  refine WO.callsL (hc:=k_Nums1 (0+1+1+1+1) (.slice (some ⟨gK,0,none⟩) 1 cK) (.slice none 0 0) (.slice (some ⟨gO,0,none⟩) 1 cO) bk none 0 0 gD (1+1) cD [.slice (some ⟨gP,0,none⟩) l.length (l.length+1),.slice none 0 0,.int .i64 ((0+1+1+1:Nat):Int),.slice (some ⟨gA,0,none⟩) m m,.slice none 0 0,.int .i64 ((0+1+1+1+1:Nat):Int)] rD (by decide) (by decide) rfl k10 k11) (hp:=(.cons (by repeat (first|exact Pk.here|apply Pk.there)) (.cons (by repeat (first|exact Pk.here|apply Pk.there)) .nil))) (fun _ _=>trivial) (fun v N' hpo=>?_)
  obtain⟨rfl,gE,cE,rE,rfl,k13,k14,k15⟩:=hpo
  simp only[List.cons_append,List.nil_append]
  repeat (first|refine Ta ?_|(refine Tm ?_;intro _)|refine Tc ?_|exact Tz)
  have hAp:FnL Tryz.prog 19 [pt bk] ([⟨bk,68,bkC (0+1+1+1+1+1) (.slice (some ⟨gE,0,none⟩) (1+1+1) cE) (.slice (some ⟨gK,0,none⟩) 1 cK) (.slice none 0 0) (.slice (some ⟨gO,0,none⟩) 1 cO)⟩,⟨gE,124,[.slice (some ⟨gP,0,none⟩) l.length (l.length+1),.slice none 0 0,.int .i64 ((0+1+1+1:Nat):Int),.slice (some ⟨gA,0,none⟩) m m,.slice none 0 0,.int .i64 ((0+1+1+1+1:Nat):Int),.slice none 0 0,.slice none 0 0,.int .i64 ((0+1+1+1+1+1:Nat):Int)]++rE⟩,⟨gK,150,[.slice (some ⟨gN,0,none⟩) N.length (N.length+1),.slice none 0 0,.int .i64 ((0+1:Nat):Int)]++rK⟩,⟨gO,122,[.slice (some ⟨gL,0,none⟩) ls.length (ls.length+1),.slice none 0 0,.int .i64 ((0+1+1:Nat):Int)]++rO⟩,
      ⟨gP,24,l.flatMap numC++numC 77⟩,⟨gA,24,As.flatMap numC⟩,⟨gN,97,N.flatMap keyC++twoC 77 0⟩,⟨gL,76,ls.flatMap odC++opC 77 0 0 0 0 0⟩]) Tr (fun v N=>v=.bool true) :=
    k_ApartO (0+1+1+1+1+1) bk gE (1+1+1) cE gK 1 cK gO 1 cO (fun k=>match k with|0=>⟨some gP,l.length,l.length+1,l.flatMap numC++numC 77,0+1+1+1⟩|1=>⟨some gA,m,m,As.flatMap numC,0+1+1+1+1⟩|_=>⟨none,0,0,[],0+1+1+1+1+1⟩) (fun _=>⟨some gN,N.length,N.length+1,N.flatMap keyC++twoC 77 0,0+1⟩) (fun _=>⟨some gL,ls.length,ls.length+1,ls.flatMap odC++opC 77 0 0 0 0 0,0+1+1⟩) rE rK rO (by decide) (by decide) (by decide)
      (fun k _=>match k with
        | 0=>⟨(fun e=>by cases e),Nat.le_succ _,Nat.le_refl _,hn,hlL,(by show (0+1+1+1:Nat)<1000;decide)⟩
        | 1=>⟨(fun e=>by cases e),Nat.le_refl _,Nat.le_succ _,hm100,hlA,(by show (0+1+1+1+1:Nat)<1000;decide)⟩
        | _+2=>⟨(fun _=>⟨rfl,rfl⟩),Nat.le_refl _,Nat.le_succ _,Nat.zero_le _,rfl,(by show (0+1+1+1+1+1:Nat)<1000;decide)⟩)
      (fun _ _=>⟨(fun e=>by cases e),Nat.le_succ _,Nat.le_refl _,hNl,hlK,(by show (0+1:Nat)<1000;decide)⟩) (fun _ _=>⟨(fun e=>by cases e),Nat.le_succ _,Nat.le_refl _,hol,hlO,(by show (0+1+1:Nat)<1000;decide)⟩)
  refine WO.callsL (hc:=hAp) (hp:=(.cons (by repeat (first|exact Pk.here|apply Pk.there)) (.cons (by repeat (first|exact Pk.here|apply Pk.there)) (.cons (by repeat (first|exact Pk.here|apply Pk.there)) (.cons (by repeat (first|exact Pk.here|apply Pk.there)) (.cons (by repeat (first|exact Pk.here|apply Pk.there)) (.cons (by repeat (first|exact Pk.here|apply Pk.there)) (.cons (by repeat (first|exact Pk.here|apply Pk.there)) (.cons (by repeat (first|exact Pk.here|apply Pk.there)) .nil))))))))) (fun _ _=>trivial) (fun v N' hpo=>?_)
  subst hpo
  repeat (first|refine Ta ?_|(refine Tm ?_;intro _)|refine Tc ?_|exact Tz)
  done
set_option maxHeartbeats 8000000 in
theorem u_RaiseNY (m:Nat) (hm100:m≤100) (hNl:N.length≤100) (hol:ls.length≤100) (hn:l.length≤100) (hOk:∀ o∈ls,OdOk o) (hgr:grtB N.length n1 n2 n3 ls.length l.length=false)
    (e1:Int)
    (Cs:List Nat) (hCl:Cs.length=m)
    (hA1:∀ gN gL,Fn Tryz.prog 8 [stV p q g h f sec (.slice (some ⟨gN,0,none⟩) N.length (N.length+1)),.slice (some ⟨gL,0,none⟩) ls.length (ls.length+1)] (fun w=>RdF keyC (.slice (some ⟨gN,0,none⟩) N.length (N.length+1)) N w∧RdF odC (.slice (some ⟨gL,0,none⟩) ls.length (ls.length+1)) ls w) (Is (.tuple #[.slice none 0 0,.int .i64 e1])))
    (hA2:Fn Tryz.prog 9 [stV p q g h f sec (.slice p0 N.length c0),.slice p4 ls.length c4] (fun w=>RdF keyC (.slice p0 N.length c0) N w∧RdF odC (.slice p4 ls.length c4) ls w) (Is (.tuple #[.slice none 0 0,.int .i64 e1])))
    (hC1:∀ gN gL,Fn Tryz.prog 10 [stV p q g h f sec (.slice (some ⟨gN,0,none⟩) N.length (N.length+1)),.slice (some ⟨gL,0,none⟩) l.length (l.length+1)] (fun w=>RdF keyC (.slice (some ⟨gN,0,none⟩) N.length (N.length+1)) N w∧RdF numC (.slice (some ⟨gL,0,none⟩) l.length (l.length+1)) l w) (Ex (fun s=>.tuple #[.slice (some ⟨s 0,0,none⟩) m m,.int .i64 0]) (fun s=>[⟨s 0,24,Cs.flatMap numC⟩]) (fun _=>True)))
    (hC2:Fn Tryz.prog 11 [stV p q g h f sec (.slice p0 N.length c0),.slice p5 l.length c5] (fun w=>RdF keyC (.slice p0 N.length c0) N w∧RdF numC (.slice p5 l.length c5) l w) (NewG m (Cs.flatMap numC))) :
    Fn Tryz.prog 3 [stV p q g h f sec (.slice p0 N.length c0),gvV ep d (.slice p1 n1 c1) (.slice p2 n2 c2) (.slice p3 n3 c3) sC sS n x (.slice p4 ls.length c4) (.slice p5 l.length c5)] (fun w=>RdF keyC (.slice p0 N.length c0) N w∧RdF odC (.slice p4 ls.length c4) ls w∧RdF numC (.slice p5 l.length c5) l w) (Is (.bool true)):=by
  have hG:=t_great p q g h f sec ep d sC sS n x p0 p1 p2 p3 p4 p5 N.length n1 n2 n3 ls.length l.length c0 c1 c2 c3 c4 c5
  rw[hgr] at hG
  have hTS:=u_TwinSetting p q g h f sec p0 c0 N hNl
  have hTO:=t_TwinOpeneds ls p4 c4 hol
  have hTN:=t_TwinNums l p5 c5 hn
  have hLS:=fun gN=>u_LeftSetting p q g h f sec p0 c0 N gN hNl
  have hLO:=fun gL=>t_LeftOpeneds ls p4 c4 gL hol hOk
  have hLN:=fun gL=>t_LeftNums l p5 c5 gL hn
  have hlK:(N.flatMap keyC++twoC 77 0).length=(N.length+1)*8:=by rw[List.length_append,flat_length keyC_len,Nat.succ_mul];rfl
  have hlO:(ls.flatMap odC++opC 77 0 0 0 0 0).length=(ls.length+1)*15:=by rw[List.length_append,flat_length odC_len,Nat.succ_mul];rfl
  have hlL:(l.flatMap numC++numC 77).length=(l.length+1)*4:=by rw[List.length_append,flat_length numC_len,Nat.succ_mul];rfl
  have hSA:=u_SameNums [] none none 0 0 (by decide)
  have hSC:=fun g1 g2 cc=>u_SameNums Cs (some ⟨g1,0,none⟩) (some ⟨g2,0,none⟩) m cc (by omega)
  rw[hCl] at hSC
  have hlC:(Cs.flatMap numC).length=m*4:=by rw[flat_length numC_len,hCl]
  clear hOk hgr
  refine Fn.enter Tryz.func3 rfl rfl rfl ?_
  intro w hw
  obtain⟨wN,wO,wL⟩:=hw
  repeat (first|refine Ta ?_|(refine Tm ?_;intro _)|refine WO.acall (hc:=hG) (k:=?_)|refine Tc ?_|exact Tz)
  rename_i gS gZ
  refine WO.acallX (hc:=hTS) (hR:=fun w hm=>wN.mod hm.mod) (k:=fun s1 hs1=>?_)
  clear hs1
  generalize s1 0=gN
  clear s1
  simp only[List.cons_append,List.nil_append]
  repeat (first|refine Ta ?_|(refine Tm ?_;intro _)|refine Tc ?_|exact Tz)
  rename_i gT
  refine WO.acallC (hc:=hTO) (hR:=fun w hm=>wO.mod hm.mod) (k:=fun gL=>?_)
  repeat (first|refine Ta ?_|(refine Tm ?_;intro _)|refine Tc ?_|exact Tz)
  refine WO.acallC (hc:=hTN) (hR:=fun w hm=>wL.mod hm.mod) (k:=fun gP=>?_)
  repeat (first|refine Ta ?_|(refine Tm ?_;intro _)|refine Tc ?_|exact Tz)
  refine WO.acallR (hc:=hA1 gN gL) (hR:=fun w1 hm=>⟨RdF.seg (f:=keyC) (xs:=N) (r:=twoC 77 0) (Hs.seg (by repeat (first|exact Hs.here|apply Hs.there)) hm),RdF.seg (f:=odC) (xs:=ls) (r:=opC 77 0 0 0 0 0) (Hs.seg (by repeat (first|exact Hs.here|apply Hs.there)) hm)⟩) (k:=?_)
  repeat (first|refine Ta ?_|(refine Tm ?_;intro _)|refine Tc ?_|exact Tz)
  refine WO.acallR (hc:=hA2) (hR:=fun w1 hm=>⟨wN.mod hm.mod,wO.mod hm.mod⟩) (k:=?_)
  repeat (first|refine Ta ?_|(refine Tm ?_;intro _)|refine Tc ?_|exact Tz)
  refine WO.acallX (hc:=hC1 gN gP) (hR:=fun w1 hm=>⟨RdF.seg (f:=keyC) (xs:=N) (r:=twoC 77 0) (Hs.seg (by repeat (first|exact Hs.here|apply Hs.there)) hm),RdF.seg (f:=numC) (xs:=l) (r:=numC 77) (Hs.seg (by repeat (first|exact Hs.here|apply Hs.there)) hm)⟩) (k:=fun s1 hs1=>?_)
  clear hs1
  generalize s1 0=gC
  clear s1
  simp only[List.cons_append,List.nil_append]
  repeat (first|refine Ta ?_|(refine Tm ?_;intro _)|refine Tc ?_|exact Tz)
  refine WO.calls (fs:=[]) (cs:=[]) hC2 rfl rfl rfl (fun w1 hm=>⟨wN.mod hm.mod,wL.mod hm.mod⟩) (fun u N' ⟨gC2,cgC2,rgC2,e1,e2⟩=>?_)
  subst e1 e2
  simp only[List.cons_append,List.nil_append]
  repeat (first|refine Ta ?_|(refine Tm ?_;intro _)|refine Tc ?_|exact Tz)
  refine WO.acallR (hc:=hSA) (hR:=fun w1 hm=>⟨⟨none,0,rfl,.inl ⟨rfl,rfl⟩⟩,⟨none,0,rfl,.inl ⟨rfl,rfl⟩⟩⟩) (k:=?_)
  repeat (first|refine WO.does (does_neqN rfl rfl rfl) ?_|refine Ta ?_|(refine Tm ?_;intro _)|refine Tc ?_|exact Tz)
  refine WO.acallR (hc:=hSC gC gC2 cgC2) (hR:=fun w1 hm=>⟨by have:=RdF.seg (f:=numC) (xs:=Cs) (r:=[]) (c:=m) (Hs.seg (L:=_) (g:=gC) (t:=24) (by first|(rw[List.append_nil];repeat (first|exact Hs.here|apply Hs.there))|repeat (first|exact Hs.here|apply Hs.there)) hm);rw[hCl] at this;exact this,by have:=RdF.seg (f:=numC) (xs:=Cs) (r:=rgC2) (c:=cgC2) (Hs.seg (L:=_) (g:=gC2) (t:=24) (by first|(rw[List.append_nil];repeat (first|exact Hs.here|apply Hs.there))|repeat (first|exact Hs.here|apply Hs.there)) hm);rw[hCl] at this;exact this⟩) (k:=?_)
  repeat (first|refine WO.does (does_neqN rfl rfl rfl) ?_|refine Ta ?_|(refine Tm ?_;intro _)|refine Tc ?_|exact Tz)
  refine WO.acallR (hc:=hLS gN) (hR:=fun w1 hm=>⟨Hs.seg (by repeat (first|exact Hs.here|apply Hs.there)) hm,wN.mod hm.mod⟩) (k:=?_)
  repeat (first|refine Ta ?_|(refine Tm ?_;intro _)|refine Tc ?_|exact Tz)
  refine WO.acallR (hc:=hLO gL) (hR:=fun w1 hm=>⟨Hs.seg (by repeat (first|exact Hs.here|apply Hs.there)) hm,wO.mod hm.mod⟩) (k:=?_)
  repeat (first|refine Ta ?_|(refine Tm ?_;intro _)|refine Tc ?_|exact Tz)
  refine WO.acallR (hc:=hLN gP) (hR:=fun w1 hm=>⟨Hs.seg (by repeat (first|exact Hs.here|apply Hs.there)) hm,wL.mod hm.mod⟩) (k:=?_)
  repeat (first|refine Ta ?_|(refine Tm ?_;intro _)|refine Tc ?_|exact Tz)
  rename_i bk
  refine WO.callsL (hc:=k_Setting 0 (.slice none 0 0) (.slice none 0 0) (.slice none 0 0) bk (some ⟨gN,0,none⟩) N.length (N.length+1) p q g h f sec (by decide)) (hp:=(.cons (by repeat (first|exact Pk.here|apply Pk.there)) .nil)) (fun _ _=>trivial) (fun v N' hpo=>?_)
  obtain⟨rfl,gK,cK,rK,rfl,k1,k2,k3⟩:=hpo
  simp only[List.cons_append,List.nil_append]
  repeat (first|refine Ta ?_|(refine Tm ?_;intro _)|refine Tc ?_|exact Tz)
  refine WO.callsL (hc:=k_Openeds0 (0+1) (.slice none 0 0) (.slice (some ⟨gK,0,none⟩) 1 cK) (.slice none 0 0) bk (some ⟨gL,0,none⟩) ls.length (ls.length+1) (by decide)) (hp:=(.cons (by repeat (first|exact Pk.here|apply Pk.there)) .nil)) (fun _ _=>trivial) (fun v N' hpo=>?_)
  obtain⟨rfl,gO,cO,rO,rfl,k4,k5,k6⟩:=hpo
  simp only[List.cons_append,List.nil_append]
  repeat (first|refine Ta ?_|(refine Tm ?_;intro _)|refine Tc ?_|exact Tz)
  refine WO.callsL (hc:=k_Nums0 (0+1+1) (.slice (some ⟨gK,0,none⟩) 1 cK) (.slice none 0 0) (.slice (some ⟨gO,0,none⟩) 1 cO) bk (some ⟨gP,0,none⟩) l.length (l.length+1) (by decide)) (hp:=(.cons (by repeat (first|exact Pk.here|apply Pk.there)) .nil)) (fun _ _=>trivial) (fun v N' hpo=>?_)
  obtain⟨rfl,gB,cB,rB,rfl,k7,k8,k9⟩:=hpo
  simp only[List.cons_append,List.nil_append]
  repeat (first|refine Ta ?_|(refine Tm ?_;intro _)|refine Tc ?_|exact Tz)
  refine WO.callsL (hc:=k_Nums1 (0+1+1+1) (.slice (some ⟨gK,0,none⟩) 1 cK) (.slice none 0 0) (.slice (some ⟨gO,0,none⟩) 1 cO) bk none 0 0 gB 1 cB [.slice (some ⟨gP,0,none⟩) l.length (l.length+1),.slice none 0 0,.int .i64 ((0+1+1+1:Nat):Int)] rB (by decide) (by decide) rfl k7 k8) (hp:=(.cons (by repeat (first|exact Pk.here|apply Pk.there)) (.cons (by repeat (first|exact Pk.here|apply Pk.there)) .nil))) (fun _ _=>trivial) (fun v N' hpo=>?_)
  obtain⟨rfl,gD,cD,rD,rfl,k10,k11,k12⟩:=hpo
  simp only[List.cons_append,List.nil_append]
  repeat (first|refine Ta ?_|(refine Tm ?_;intro _)|refine Tc ?_|exact Tz)
  refine WO.callsL (hc:=k_Nums1 (0+1+1+1+1) (.slice (some ⟨gK,0,none⟩) 1 cK) (.slice none 0 0) (.slice (some ⟨gO,0,none⟩) 1 cO) bk (some ⟨gC,0,none⟩) m m gD (1+1) cD [.slice (some ⟨gP,0,none⟩) l.length (l.length+1),.slice none 0 0,.int .i64 ((0+1+1+1:Nat):Int),.slice none 0 0,.slice none 0 0,.int .i64 ((0+1+1+1+1:Nat):Int)] rD (by decide) (by decide) rfl k10 k11) (hp:=(.cons (by repeat (first|exact Pk.here|apply Pk.there)) (.cons (by repeat (first|exact Pk.here|apply Pk.there)) .nil))) (fun _ _=>trivial) (fun v N' hpo=>?_)
  obtain⟨rfl,gE,cE,rE,rfl,k13,k14,k15⟩:=hpo
  simp only[List.cons_append,List.nil_append]
  repeat (first|refine Ta ?_|(refine Tm ?_;intro _)|refine Tc ?_|exact Tz)
  have hAp:FnL Tryz.prog 19 [pt bk] ([⟨bk,68,bkC (0+1+1+1+1+1) (.slice (some ⟨gE,0,none⟩) (1+1+1) cE) (.slice (some ⟨gK,0,none⟩) 1 cK) (.slice none 0 0) (.slice (some ⟨gO,0,none⟩) 1 cO)⟩,⟨gE,124,[.slice (some ⟨gP,0,none⟩) l.length (l.length+1),.slice none 0 0,.int .i64 ((0+1+1+1:Nat):Int),.slice none 0 0,.slice none 0 0,.int .i64 ((0+1+1+1+1:Nat):Int),.slice (some ⟨gC,0,none⟩) m m,.slice none 0 0,.int .i64 ((0+1+1+1+1+1:Nat):Int)]++rE⟩,⟨gK,150,[.slice (some ⟨gN,0,none⟩) N.length (N.length+1),.slice none 0 0,.int .i64 ((0+1:Nat):Int)]++rK⟩,⟨gO,122,[.slice (some ⟨gL,0,none⟩) ls.length (ls.length+1),.slice none 0 0,.int .i64 ((0+1+1:Nat):Int)]++rO⟩,
      ⟨gP,24,l.flatMap numC++numC 77⟩,⟨gC,24,Cs.flatMap numC⟩,⟨gN,97,N.flatMap keyC++twoC 77 0⟩,⟨gL,76,ls.flatMap odC++opC 77 0 0 0 0 0⟩]) Tr (fun v N=>v=.bool true) :=
    k_ApartO (0+1+1+1+1+1) bk gE (1+1+1) cE gK 1 cK gO 1 cO (fun k=>match k with|0=>⟨some gP,l.length,l.length+1,l.flatMap numC++numC 77,0+1+1+1⟩|1=>⟨none,0,0,[],0+1+1+1+1⟩|_=>⟨some gC,m,m,Cs.flatMap numC,0+1+1+1+1+1⟩) (fun _=>⟨some gN,N.length,N.length+1,N.flatMap keyC++twoC 77 0,0+1⟩) (fun _=>⟨some gL,ls.length,ls.length+1,ls.flatMap odC++opC 77 0 0 0 0 0,0+1+1⟩) rE rK rO (by decide) (by decide) (by decide)
      (fun k _=>match k with
        | 0=>⟨(fun e=>by cases e),Nat.le_succ _,Nat.le_refl _,hn,hlL,(by show (0+1+1+1:Nat)<1000;decide)⟩
        | 1=>⟨(fun _=>⟨rfl,rfl⟩),Nat.le_refl _,Nat.le_succ _,Nat.zero_le _,rfl,(by show (0+1+1+1+1:Nat)<1000;decide)⟩
        | _+2=>⟨(fun e=>by cases e),Nat.le_refl _,Nat.le_succ _,hm100,hlC,(by show (0+1+1+1+1+1:Nat)<1000;decide)⟩)
      (fun _ _=>⟨(fun e=>by cases e),Nat.le_succ _,Nat.le_refl _,hNl,hlK,(by show (0+1:Nat)<1000;decide)⟩) (fun _ _=>⟨(fun e=>by cases e),Nat.le_succ _,Nat.le_refl _,hol,hlO,(by show (0+1+1:Nat)<1000;decide)⟩)
  refine WO.callsL (hc:=hAp) (hp:=(.cons (by repeat (first|exact Pk.here|apply Pk.there)) (.cons (by repeat (first|exact Pk.here|apply Pk.there)) (.cons (by repeat (first|exact Pk.here|apply Pk.there)) (.cons (by repeat (first|exact Pk.here|apply Pk.there)) (.cons (by repeat (first|exact Pk.here|apply Pk.there)) (.cons (by repeat (first|exact Pk.here|apply Pk.there)) (.cons (by repeat (first|exact Pk.here|apply Pk.there)) (.cons (by repeat (first|exact Pk.here|apply Pk.there)) .nil))))))))) (fun _ _=>trivial) (fun v N' hpo=>?_)
  subst hpo
  repeat (first|refine Ta ?_|(refine Tm ?_;intro _)|refine Tc ?_|exact Tz)
  done
set_option maxHeartbeats 8000000 in
theorem u_RaiseNN (hNl:N.length≤100) (hol:ls.length≤100) (hn:l.length≤100) (hOk:∀ o∈ls,OdOk o) (hgr:grtB N.length n1 n2 n3 ls.length l.length=false)
    (e1:Int)
    (e2:Int)
    (hA1:∀ gN gL,Fn Tryz.prog 8 [stV p q g h f sec (.slice (some ⟨gN,0,none⟩) N.length (N.length+1)),.slice (some ⟨gL,0,none⟩) ls.length (ls.length+1)] (fun w=>RdF keyC (.slice (some ⟨gN,0,none⟩) N.length (N.length+1)) N w∧RdF odC (.slice (some ⟨gL,0,none⟩) ls.length (ls.length+1)) ls w) (Is (.tuple #[.slice none 0 0,.int .i64 e1])))
    (hA2:Fn Tryz.prog 9 [stV p q g h f sec (.slice p0 N.length c0),.slice p4 ls.length c4] (fun w=>RdF keyC (.slice p0 N.length c0) N w∧RdF odC (.slice p4 ls.length c4) ls w) (Is (.tuple #[.slice none 0 0,.int .i64 e1])))
    (hC1:∀ gN gL,Fn Tryz.prog 10 [stV p q g h f sec (.slice (some ⟨gN,0,none⟩) N.length (N.length+1)),.slice (some ⟨gL,0,none⟩) l.length (l.length+1)] (fun w=>RdF keyC (.slice (some ⟨gN,0,none⟩) N.length (N.length+1)) N w∧RdF numC (.slice (some ⟨gL,0,none⟩) l.length (l.length+1)) l w) (Is (.tuple #[.slice none 0 0,.int .i64 e2])))
    (hC2:Fn Tryz.prog 11 [stV p q g h f sec (.slice p0 N.length c0),.slice p5 l.length c5] (fun w=>RdF keyC (.slice p0 N.length c0) N w∧RdF numC (.slice p5 l.length c5) l w) (Is (.tuple #[.slice none 0 0,.int .i64 e2]))) :
    Fn Tryz.prog 3 [stV p q g h f sec (.slice p0 N.length c0),gvV ep d (.slice p1 n1 c1) (.slice p2 n2 c2) (.slice p3 n3 c3) sC sS n x (.slice p4 ls.length c4) (.slice p5 l.length c5)] (fun w=>RdF keyC (.slice p0 N.length c0) N w∧RdF odC (.slice p4 ls.length c4) ls w∧RdF numC (.slice p5 l.length c5) l w) (Is (.bool true)):=by
  have hG:=t_great p q g h f sec ep d sC sS n x p0 p1 p2 p3 p4 p5 N.length n1 n2 n3 ls.length l.length c0 c1 c2 c3 c4 c5
  rw[hgr] at hG
  have hTS:=u_TwinSetting p q g h f sec p0 c0 N hNl
  have hTO:=t_TwinOpeneds ls p4 c4 hol
  have hTN:=t_TwinNums l p5 c5 hn
  have hLS:=fun gN=>u_LeftSetting p q g h f sec p0 c0 N gN hNl
  have hLO:=fun gL=>t_LeftOpeneds ls p4 c4 gL hol hOk
  have hLN:=fun gL=>t_LeftNums l p5 c5 gL hn
  have hlK:(N.flatMap keyC++twoC 77 0).length=(N.length+1)*8:=by rw[List.length_append,flat_length keyC_len,Nat.succ_mul];rfl
  have hlO:(ls.flatMap odC++opC 77 0 0 0 0 0).length=(ls.length+1)*15:=by rw[List.length_append,flat_length odC_len,Nat.succ_mul];rfl
  have hlL:(l.flatMap numC++numC 77).length=(l.length+1)*4:=by rw[List.length_append,flat_length numC_len,Nat.succ_mul];rfl
  have hSA:=u_SameNums [] none none 0 0 (by decide)
  have hSC:=u_SameNums [] none none 0 0 (by decide)
  clear hOk hgr
  refine Fn.enter Tryz.func3 rfl rfl rfl ?_
  intro w hw
  obtain⟨wN,wO,wL⟩:=hw
  repeat (first|refine Ta ?_|(refine Tm ?_;intro _)|refine WO.acall (hc:=hG) (k:=?_)|refine Tc ?_|exact Tz)
  rename_i gS gZ
  refine WO.acallX (hc:=hTS) (hR:=fun w hm=>wN.mod hm.mod) (k:=fun s1 hs1=>?_)
  clear hs1
  generalize s1 0=gN
  clear s1
  simp only[List.cons_append,List.nil_append]
  repeat (first|refine Ta ?_|(refine Tm ?_;intro _)|refine Tc ?_|exact Tz)
  rename_i gT
  refine WO.acallC (hc:=hTO) (hR:=fun w hm=>wO.mod hm.mod) (k:=fun gL=>?_)
  repeat (first|refine Ta ?_|(refine Tm ?_;intro _)|refine Tc ?_|exact Tz)
  refine WO.acallC (hc:=hTN) (hR:=fun w hm=>wL.mod hm.mod) (k:=fun gP=>?_)
  repeat (first|refine Ta ?_|(refine Tm ?_;intro _)|refine Tc ?_|exact Tz)
  refine WO.acallR (hc:=hA1 gN gL) (hR:=fun w1 hm=>⟨RdF.seg (f:=keyC) (xs:=N) (r:=twoC 77 0) (Hs.seg (by repeat (first|exact Hs.here|apply Hs.there)) hm),RdF.seg (f:=odC) (xs:=ls) (r:=opC 77 0 0 0 0 0) (Hs.seg (by repeat (first|exact Hs.here|apply Hs.there)) hm)⟩) (k:=?_)
  repeat (first|refine Ta ?_|(refine Tm ?_;intro _)|refine Tc ?_|exact Tz)
  refine WO.acallR (hc:=hA2) (hR:=fun w1 hm=>⟨wN.mod hm.mod,wO.mod hm.mod⟩) (k:=?_)
  repeat (first|refine Ta ?_|(refine Tm ?_;intro _)|refine Tc ?_|exact Tz)
  refine WO.acallR (hc:=hC1 gN gP) (hR:=fun w1 hm=>⟨RdF.seg (f:=keyC) (xs:=N) (r:=twoC 77 0) (Hs.seg (by repeat (first|exact Hs.here|apply Hs.there)) hm),RdF.seg (f:=numC) (xs:=l) (r:=numC 77) (Hs.seg (by repeat (first|exact Hs.here|apply Hs.there)) hm)⟩) (k:=?_)
  repeat (first|refine Ta ?_|(refine Tm ?_;intro _)|refine Tc ?_|exact Tz)
  refine WO.acallR (hc:=hC2) (hR:=fun w1 hm=>⟨wN.mod hm.mod,wL.mod hm.mod⟩) (k:=?_)
  repeat (first|refine Ta ?_|(refine Tm ?_;intro _)|refine Tc ?_|exact Tz)
  refine WO.acallR (hc:=hSA) (hR:=fun w1 hm=>⟨⟨none,0,rfl,.inl ⟨rfl,rfl⟩⟩,⟨none,0,rfl,.inl ⟨rfl,rfl⟩⟩⟩) (k:=?_)
  repeat (first|refine WO.does (does_neqN rfl rfl rfl) ?_|refine Ta ?_|(refine Tm ?_;intro _)|refine Tc ?_|exact Tz)
  refine WO.acallR (hc:=hSC) (hR:=fun w1 hm=>⟨⟨none,0,rfl,.inl ⟨rfl,rfl⟩⟩,⟨none,0,rfl,.inl ⟨rfl,rfl⟩⟩⟩) (k:=?_)
  repeat (first|refine WO.does (does_neqN rfl rfl rfl) ?_|refine Ta ?_|(refine Tm ?_;intro _)|refine Tc ?_|exact Tz)
  refine WO.acallR (hc:=hLS gN) (hR:=fun w1 hm=>⟨Hs.seg (by repeat (first|exact Hs.here|apply Hs.there)) hm,wN.mod hm.mod⟩) (k:=?_)
  repeat (first|refine Ta ?_|(refine Tm ?_;intro _)|refine Tc ?_|exact Tz)
  refine WO.acallR (hc:=hLO gL) (hR:=fun w1 hm=>⟨Hs.seg (by repeat (first|exact Hs.here|apply Hs.there)) hm,wO.mod hm.mod⟩) (k:=?_)
  repeat (first|refine Ta ?_|(refine Tm ?_;intro _)|refine Tc ?_|exact Tz)
  refine WO.acallR (hc:=hLN gP) (hR:=fun w1 hm=>⟨Hs.seg (by repeat (first|exact Hs.here|apply Hs.there)) hm,wL.mod hm.mod⟩) (k:=?_)
  repeat (first|refine Ta ?_|(refine Tm ?_;intro _)|refine Tc ?_|exact Tz)
  rename_i bk
  refine WO.callsL (hc:=k_Setting 0 (.slice none 0 0) (.slice none 0 0) (.slice none 0 0) bk (some ⟨gN,0,none⟩) N.length (N.length+1) p q g h f sec (by decide)) (hp:=(.cons (by repeat (first|exact Pk.here|apply Pk.there)) .nil)) (fun _ _=>trivial) (fun v N' hpo=>?_)
  obtain⟨rfl,gK,cK,rK,rfl,k1,k2,k3⟩:=hpo
  simp only[List.cons_append,List.nil_append]
  repeat (first|refine Ta ?_|(refine Tm ?_;intro _)|refine Tc ?_|exact Tz)
  refine WO.callsL (hc:=k_Openeds0 (0+1) (.slice none 0 0) (.slice (some ⟨gK,0,none⟩) 1 cK) (.slice none 0 0) bk (some ⟨gL,0,none⟩) ls.length (ls.length+1) (by decide)) (hp:=(.cons (by repeat (first|exact Pk.here|apply Pk.there)) .nil)) (fun _ _=>trivial) (fun v N' hpo=>?_)
  obtain⟨rfl,gO,cO,rO,rfl,k4,k5,k6⟩:=hpo
  simp only[List.cons_append,List.nil_append]
  repeat (first|refine Ta ?_|(refine Tm ?_;intro _)|refine Tc ?_|exact Tz)
  refine WO.callsL (hc:=k_Nums0 (0+1+1) (.slice (some ⟨gK,0,none⟩) 1 cK) (.slice none 0 0) (.slice (some ⟨gO,0,none⟩) 1 cO) bk (some ⟨gP,0,none⟩) l.length (l.length+1) (by decide)) (hp:=(.cons (by repeat (first|exact Pk.here|apply Pk.there)) .nil)) (fun _ _=>trivial) (fun v N' hpo=>?_)
  obtain⟨rfl,gB,cB,rB,rfl,k7,k8,k9⟩:=hpo
  simp only[List.cons_append,List.nil_append]
  repeat (first|refine Ta ?_|(refine Tm ?_;intro _)|refine Tc ?_|exact Tz)
  refine WO.callsL (hc:=k_Nums1 (0+1+1+1) (.slice (some ⟨gK,0,none⟩) 1 cK) (.slice none 0 0) (.slice (some ⟨gO,0,none⟩) 1 cO) bk none 0 0 gB 1 cB [.slice (some ⟨gP,0,none⟩) l.length (l.length+1),.slice none 0 0,.int .i64 ((0+1+1+1:Nat):Int)] rB (by decide) (by decide) rfl k7 k8) (hp:=(.cons (by repeat (first|exact Pk.here|apply Pk.there)) (.cons (by repeat (first|exact Pk.here|apply Pk.there)) .nil))) (fun _ _=>trivial) (fun v N' hpo=>?_)
  obtain⟨rfl,gD,cD,rD,rfl,k10,k11,k12⟩:=hpo
  simp only[List.cons_append,List.nil_append]
  repeat (first|refine Ta ?_|(refine Tm ?_;intro _)|refine Tc ?_|exact Tz)
  refine WO.callsL (hc:=k_Nums1 (0+1+1+1+1) (.slice (some ⟨gK,0,none⟩) 1 cK) (.slice none 0 0) (.slice (some ⟨gO,0,none⟩) 1 cO) bk none 0 0 gD (1+1) cD [.slice (some ⟨gP,0,none⟩) l.length (l.length+1),.slice none 0 0,.int .i64 ((0+1+1+1:Nat):Int),.slice none 0 0,.slice none 0 0,.int .i64 ((0+1+1+1+1:Nat):Int)] rD (by decide) (by decide) rfl k10 k11) (hp:=(.cons (by repeat (first|exact Pk.here|apply Pk.there)) (.cons (by repeat (first|exact Pk.here|apply Pk.there)) .nil))) (fun _ _=>trivial) (fun v N' hpo=>?_)
  obtain⟨rfl,gE,cE,rE,rfl,k13,k14,k15⟩:=hpo
  simp only[List.cons_append,List.nil_append]
  repeat (first|refine Ta ?_|(refine Tm ?_;intro _)|refine Tc ?_|exact Tz)
  have hAp:FnL Tryz.prog 19 [pt bk] ([⟨bk,68,bkC (0+1+1+1+1+1) (.slice (some ⟨gE,0,none⟩) (1+1+1) cE) (.slice (some ⟨gK,0,none⟩) 1 cK) (.slice none 0 0) (.slice (some ⟨gO,0,none⟩) 1 cO)⟩,⟨gE,124,[.slice (some ⟨gP,0,none⟩) l.length (l.length+1),.slice none 0 0,.int .i64 ((0+1+1+1:Nat):Int),.slice none 0 0,.slice none 0 0,.int .i64 ((0+1+1+1+1:Nat):Int),.slice none 0 0,.slice none 0 0,.int .i64 ((0+1+1+1+1+1:Nat):Int)]++rE⟩,⟨gK,150,[.slice (some ⟨gN,0,none⟩) N.length (N.length+1),.slice none 0 0,.int .i64 ((0+1:Nat):Int)]++rK⟩,⟨gO,122,[.slice (some ⟨gL,0,none⟩) ls.length (ls.length+1),.slice none 0 0,.int .i64 ((0+1+1:Nat):Int)]++rO⟩,
      ⟨gP,24,l.flatMap numC++numC 77⟩,⟨gN,97,N.flatMap keyC++twoC 77 0⟩,⟨gL,76,ls.flatMap odC++opC 77 0 0 0 0 0⟩]) Tr (fun v N=>v=.bool true) :=
    k_ApartO (0+1+1+1+1+1) bk gE (1+1+1) cE gK 1 cK gO 1 cO (fun k=>match k with|0=>⟨some gP,l.length,l.length+1,l.flatMap numC++numC 77,0+1+1+1⟩|1=>⟨none,0,0,[],0+1+1+1+1⟩|_=>⟨none,0,0,[],0+1+1+1+1+1⟩) (fun _=>⟨some gN,N.length,N.length+1,N.flatMap keyC++twoC 77 0,0+1⟩) (fun _=>⟨some gL,ls.length,ls.length+1,ls.flatMap odC++opC 77 0 0 0 0 0,0+1+1⟩) rE rK rO (by decide) (by decide) (by decide)
      (fun k _=>match k with
        | 0=>⟨(fun e=>by cases e),Nat.le_succ _,Nat.le_refl _,hn,hlL,(by show (0+1+1+1:Nat)<1000;decide)⟩
        | 1=>⟨(fun _=>⟨rfl,rfl⟩),Nat.le_refl _,Nat.le_succ _,Nat.zero_le _,rfl,(by show (0+1+1+1+1:Nat)<1000;decide)⟩
        | _+2=>⟨(fun _=>⟨rfl,rfl⟩),Nat.le_refl _,Nat.le_succ _,Nat.zero_le _,rfl,(by show (0+1+1+1+1+1:Nat)<1000;decide)⟩)
      (fun _ _=>⟨(fun e=>by cases e),Nat.le_succ _,Nat.le_refl _,hNl,hlK,(by show (0+1:Nat)<1000;decide)⟩) (fun _ _=>⟨(fun e=>by cases e),Nat.le_succ _,Nat.le_refl _,hol,hlO,(by show (0+1+1:Nat)<1000;decide)⟩)
  refine WO.callsL (hc:=hAp) (hp:=(.cons (by repeat (first|exact Pk.here|apply Pk.there)) (.cons (by repeat (first|exact Pk.here|apply Pk.there)) (.cons (by repeat (first|exact Pk.here|apply Pk.there)) (.cons (by repeat (first|exact Pk.here|apply Pk.there)) (.cons (by repeat (first|exact Pk.here|apply Pk.there)) (.cons (by repeat (first|exact Pk.here|apply Pk.there)) (.cons (by repeat (first|exact Pk.here|apply Pk.there)) .nil)))))))) (fun _ _=>trivial) (fun v N' hpo=>?_)
  subst hpo
  repeat (first|refine Ta ?_|(refine Tm ?_;intro _)|refine Tc ?_|exact Tz)
  done
theorem u_OpensRaise (hp:p<B256) (hq:q<B256) (hg:g<B256) (hh:h<B256) (hN:NumsOk N) (hO:∀ o∈ls,OdOk o) (hl:∀ a∈l,a<B256)
    (hf1 : -9223372036854775808≤f) (hf2:f≤9223372036854775807) (hs1 : -9223372036854775808≤sec) (hs2:sec≤9223372036854775807) :
    Fn Tryz.prog 3 [stV p q g h f sec (.slice p0 N.length c0),gvV ep d (.slice p1 n1 c1) (.slice p2 n2 c2) (.slice p3 n3 c3) sC sS n x (.slice p4 ls.length c4) (.slice p5 l.length c5)] (fun w=>RdF keyC (.slice p0 N.length c0) N w∧RdF odC (.slice p4 ls.length c4) ls w∧RdF numC (.slice p5 l.length c5) l w) (Is (.bool true)):=by
  cases hgr:grtB N.length n1 n2 n3 ls.length l.length with
  | true=>exact u_RaiseGreat p q g h f sec ep d sC sS n x p0 p1 p2 p3 p4 p5 n1 n2 n3 c0 c1 c2 c3 c4 c5 N ls l hgr
  | false =>
    obtain⟨hNl,hol,hn⟩ : N.length≤100∧ls.length≤100∧l.length≤100:=by
      unfold grtB at hgr
      simp only[Bool.or_eq_false_iff,decide_eq_false_iff_not] at hgr
      omega
    have hA:=raise_cases p q g h f sec N ls hp hq hg hh hN hNl hO hol hf1 hf2 hs1 hs2
    cases hS:shownB p q g h f sec N l with
    | true =>
      obtain⟨m,rfl⟩ : ∃ m:Nat,sec=(m:Int):=by
        unfold shownB at hS
        rw[Bool.and_eq_true] at hS
        have:=setB_spec hS.1
        exact⟨sec.toNat,by omega⟩
      have hm3:m≤3:=by
        unfold shownB at hS
        rw[Bool.and_eq_true] at hS
        have:=setB_more hS.1
        omega
      have hC1:=fun gN gL=>c_ShownY p q g h f (some ⟨gN,0,none⟩) (N.length+1) N (some ⟨gL,0,none⟩) (l.length+1) l m hp hq hg hh hN hNl hl hn hf1 hf2 hs2 hS
      have hC2:=r16_ShownY p q g h f p0 c0 N p5 c5 l m hp hq hg hh hN hNl hl hn hf1 hf2 hs2 hS
      rcases hA with ⟨m',As,hm,hmm,hAl,hA1,hA2⟩|⟨e1,hA1,hA2⟩
      · obtain rfl:m'=m:=by omega
        exact u_RaiseYY p q g h f (m' : Int) ep d sC sS n x p0 p1 p2 p3 p4 p5 n1 n2 n3 c0 c1 c2 c3 c4 c5 N ls l m' (by omega) hNl hol hn hO hgr As hAl _ (by simp[osL]) (fun gN gL=>hA1 (some ⟨gN,0,none⟩) (N.length+1) (some ⟨gL,0,none⟩) (ls.length+1)) (hA2 p0 c0 p4 c4) hC1 hC2
      · exact u_RaiseNY p q g h f (m:Int) ep d sC sS n x p0 p1 p2 p3 p4 p5 n1 n2 n3 c0 c1 c2 c3 c4 c5 N ls l m (by omega) hNl hol hn hO hgr e1 _ (by simp[osL]) (fun gN gL=>hA1 (some ⟨gN,0,none⟩) (N.length+1) (some ⟨gL,0,none⟩) (ls.length+1)) (hA2 p0 c0 p4 c4) hC1 hC2
    | false =>
      have hC1:=fun gN gL=>c_ShownN p q g h f (some ⟨gN,0,none⟩) (N.length+1) N (some ⟨gL,0,none⟩) (l.length+1) l sec hp hq hg hh hN hNl hl hn hf1 hf2 hs1 hs2 hS
      have hC2:=r16_ShownN p q g h f p0 c0 N p5 c5 l sec hp hq hg hh hN hNl hl hn hf1 hf2 hs1 hs2 hS
      rcases hA with ⟨m',As,hm,hmm,hAl,hA1,hA2⟩|⟨e1,hA1,hA2⟩
      · exact u_RaiseYN p q g h f sec ep d sC sS n x p0 p1 p2 p3 p4 p5 n1 n2 n3 c0 c1 c2 c3 c4 c5 N ls l m' (by omega) hNl hol hn hO hgr As hAl 1 (fun gN gL=>hA1 (some ⟨gN,0,none⟩) (N.length+1) (some ⟨gL,0,none⟩) (ls.length+1)) (hA2 p0 c0 p4 c4) hC1 hC2
      · exact u_RaiseNN p q g h f sec ep d sC sS n x p0 p1 p2 p3 p4 p5 n1 n2 n3 c0 c1 c2 c3 c4 c5 N ls l hNl hol hn hO hgr e1 1 (fun gN gL=>hA1 (some ⟨gN,0,none⟩) (N.length+1) (some ⟨gL,0,none⟩) (ls.length+1)) (hA2 p0 c0 p4 c4) hC1 hC2
end
end Sx
end Go.Proofs.YtiiacjladnljhaaGreatDoor
