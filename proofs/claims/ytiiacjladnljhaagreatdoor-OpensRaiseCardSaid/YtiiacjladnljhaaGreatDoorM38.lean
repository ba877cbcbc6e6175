/- Part 38 of the proof: RaB, RaC -/
import Derived.Test.YtiiacjladnljhaaGreatDoorM37
import Derived.Test.YtiiacjladnljhaaGreatDoorM36
set_option linter.unusedSimpArgs false
set_option linter.unusedVariables false
namespace Go.Proofs.YtiiacjladnljhaaGreatDoor
open Go Go.RowKit Go.BigFrame
namespace Sx
attribute [local irreducible] wd DQ DQS WO WC WX
theorem RdF.own {α:Type} {f:α→List Value} {xs:List α} {w:World} {g n c:Nat} (hs:Seg w g 0 (xs.flatMap f)) (hn:xs.length=n):RdF f (.slice (some ⟨g,0,none⟩) n c) xs w:=by
  subst hn
  exact⟨_,_,rfl,.inr ⟨g,0,rfl,hs⟩⟩
def rsN (p q:Nat) (ps zs:List Nat) (j:Nat):Nat:=prD p zs (wts q ps (q - (j+1)))
def rsL (p q:Nat) (ps zs:List Nat) (m:Nat):List Nat:=(List.range m).map (rsN p q ps zs)
section
variable (p q g h:Nat)
section
variable (ps zs:List Nat) (pe pz:Option Addr) (cE cZ j gG gE gP:Nat)
set_option maxHeartbeats 2000000 in
theorem c_RaiseQ (hP:PtsOk q ps) (hcap:ps.length≤cE) (hz:ZsOk p zs) (hl:zs.length=ps.length) (hj:j+1<q) (hj2:j<900) (hp:p<B256) (hq:q<B256) (h1:1<p) (he:wtE q ps ps.length=0) :
    Fn Tryz.prog 105 ([.int .i64 (j:Int)]++[pt gG,pt gE,pt gP])
      (fun w=>Seg w gG 0 (grpC p q g h)∧Seg w gE 0 [.slice pe ps.length cE]∧Seg w gP 0 [.slice pz zs.length cZ]∧RdF numC (.slice pe ps.length cE) ps w∧RdF numC (.slice pz zs.length cZ) zs w) (Is (.tuple #[numV (rsN p q ps zs j),.int .i64 0])):=by
  have h2:=c_secrets1 j (by omega)
  have h3:=c_ScOfM p q g h (j+1) (by omega) (by omega) hj hq
  have hW0:=c_Weights p q g h ps pe cE (q - (j+1)) hP hcap (by omega) (by omega) hq
  have hW:Fn Tryz.prog 106 [grpV p q g h,.slice pe ps.length cE,numV (q - (j+1))] (RdF numC (.slice pe ps.length cE) ps) (Ex (fun s=>.tuple #[.slice (some ⟨s 0,0,none⟩) ps.length ps.length,.int .i64 0]) (fun s=>[⟨s 0,24,(wts q ps (q - (j+1))).flatMap numC⟩]) (fun _=>True)):=by
    refine hW0.weak (fun w hw=>hw) (fun v N hv=>?_)
    rcases hv with ⟨h,_⟩|⟨_,g,h,h'⟩
    · exact absurd he h
    · exact⟨fun _=>g,h,h',trivial⟩
  clear hW0
  have hPr:=fun pn=>c_ProductR p q g h hp h1 zs (wts q ps (q - (j+1))) hz (fun v hv=>Nat.lt_trans (wts_lt (by omega) v hv) hq) (by rw[wts_len,hl]) (fun e=>hP.ne (List.length_eq_zero_iff.1 (by rw[← hl,e];rfl))) pz pn cZ ps.length (by have:=hP.len;omega)
  rw[show prD p zs (wts q ps (q - (j+1)))=rsN p q ps zs j from rfl] at hPr
  have hwl:(wts q ps (q - (j+1))).length=ps.length:=wts_len
  generalize hws:wts q ps (q - (j+1))=ws at *
  generalize rsN p q ps zs j=V at *
  have hN:=c_secrets
  refine Fn.enter Tryz.func105 rfl rfl rfl ?_
  intro w hw
  obtain⟨wG,wE,wP,wL,wZ⟩:=hw
  repeat (first|refine Ta ?_|(refine Tm ?_;intro _)|refine Tc ?_|exact Tz)
  refine WC.adraw 14 (k:=?_)
  iterate 8 (first|refine DQ.does (fun s _=>a_loadF (hs:=wG) (hle:=Nat.le_refl _) (vs:=grpC p q g h)) Dp.const ?_|refine DQ.does (fun s _=>a_loadF1 (hs:=wE) (hle:=Nat.zero_le _)) Dp.const ?_|refine DQ.acallV (hc:=h2) (k:=?_)|refine DQ.acall (hc:=hN) (k:=?_)|refine DQ.acall (hc:=h3) (k:=?_)|refine Da ?_|refine Dc ?_)
  refine DQ.callsE (fs:=fun _=>[]) (cs:=fun _=>[]) (R:=fun _=>RdF numC (.slice pe ps.length cE) ps) (vf:=fun _ x=>.tuple #[.slice (some ⟨x 0,0,none⟩) ps.length ps.length,.int .i64 0]) (Nf:=fun _ x=>[⟨x 0,24,ws.flatMap numC⟩]) (S:=fun _ _=>True) (fun _=>[]) (fun _=>.nil)
    (fun _=>⟨fun _=>0,trivial⟩) (fun _ _=>hW) (fun _=>rfl) (fun _=>rfl) (fun _=>by simp) (fun _ _ w hm=>wL.mod hm.mod) Dp.const Dp.const Dp.const ?_
  try dsimp only[List.map_cons,List.map_nil,List.cons_append,List.nil_append]
  iterate 5 (refine DQ.auto (k:=?_))
  refine DQ.anil (k:=?_)
  intro sx _
  generalize sx 8 0=g0
  rw[hl] at hPr
  have wP' : Seg w gP 0 [.slice pz ps.length cZ]:=by rw[← hl];exact wP
  have wZ' : RdF numC (.slice pz ps.length cZ) zs w:=by rw[← hl];exact wZ
  clear wP wZ
  repeat (first|refine WO.does (a_loadF (hs:=wG) (hle:=Nat.le_refl _) (vs:=grpC p q g h)) ?_|refine WO.does (a_loadF1 (hs:=wP') (hle:=Nat.zero_le _)) ?_|refine Ta ?_|(refine Tm ?_;intro _)|refine WO.acallR (hc:=hPr _) (hR:=fun w1 hm=>⟨wZ'.mod hm.mod,RdF.own (Hs.seg (by repeat (first|exact Hs.here|apply Hs.there)) hm) hwl⟩) (k:=?_)|refine Tc ?_|exact Tz)
  done
set_option maxHeartbeats 2000000 in
theorem c_RaiseQE (hP:PtsOk q ps) (hcap:ps.length≤cE) (hj:j+1<q) (hj2:j<900) (hq:q<B256) (he:wtE q ps ps.length≠0) :
    Fn Tryz.prog 105 ([.int .i64 (j:Int)]++[pt gG,pt gE,pt gP])
      (fun w=>Seg w gG 0 (grpC p q g h)∧Seg w gE 0 [.slice pe ps.length cE]∧Seg w gP 0 [.slice pz zs.length cZ]∧RdF numC (.slice pe ps.length cE) ps w∧RdF numC (.slice pz zs.length cZ) zs w) (Is (.tuple #[numV 0,.int .i64 7])):=by
  have h2:=c_secrets1 j (by omega)
  have h3:=c_ScOfM p q g h (j+1) (by omega) (by omega) hj hq
  have hW0:=c_Weights p q g h ps pe cE (q - (j+1)) hP hcap (by omega) (by omega) hq
  have hW:Fn Tryz.prog 106 [grpV p q g h,.slice pe ps.length cE,numV (q - (j+1))] (RdF numC (.slice pe ps.length cE) ps) (Is (.tuple #[.slice none 0 0,.int .i64 7])):=by
    refine hW0.weak (fun w hw=>hw) (fun v N hv=>?_)
    rcases hv with ⟨_,h,_⟩|⟨h,_⟩
    · exact h
    · exact absurd h he
  clear hW0
  have hN:=c_secrets
  refine Fn.enter Tryz.func105 rfl rfl rfl ?_
  intro w hw
  obtain⟨wG,wE,wP,wL,wZ⟩:=hw
  repeat (first|refine Ta ?_|(refine Tm ?_;intro _)|refine Tc ?_|exact Tz)
  refine WC.adraw 14 (k:=?_)
  iterate 14 (first|refine DQ.does (fun s _=>a_loadF (hs:=wG) (hle:=Nat.le_refl _) (vs:=grpC p q g h)) Dp.const ?_|refine DQ.does (fun s _=>a_loadF1 (hs:=wE) (hle:=Nat.zero_le _)) Dp.const ?_|refine DQ.acallV (hc:=h2) (k:=?_)|refine Da ?_|refine DQ.acall (hc:=hN) (k:=?_)|refine DQ.acall (hc:=h3) (k:=?_)|refine DQ.acallM (hc:=hW) (hR:=fun w1 hm=>wL.mod hm.mod) (k:=?_)|refine Dc ?_)
  refine DQ.anil (k:=?_)
  intro sx _
  repeat (first|refine Ta ?_|(refine Tm ?_;intro _)|refine Tc ?_|exact Tz)
  done
end
section
variable (ks zs:List Nat) (pa pz:Option Addr) (cA cZ m:Nat)
theorem ptsOk_map (hne:ks≠[]) (hnd:ks.Nodup) (hk:∀ k∈ks,k<7∧k+1<q) (hn:ks.length≤7):PtsOk q (ks.map (· + 1)) where
  ne:=by simpa using hne
  lt:=fun y hy=>by obtain⟨k,h,rfl⟩:=List.mem_map.1 hy;exact (hk k h).2
  nd:=by
    rw[List.Nodup,List.pairwise_map]
    exact hnd.imp (fun h e=>h (by omega))
  len:=by simpa using hn
theorem range_getD (ks:List Nat):(List.range ks.length).map (fun i=>ks.getD i 0+1)=ks.map (· + 1):=by
  apply List.ext_getElem
  · simp
  · intro i h1 h2
    simp only[List.length_map,List.length_range] at h1
    simp[List.getD,h1]
theorem c_Raise (hne:ks≠[]) (hnd:ks.Nodup) (hk:∀ k∈ks,k<7∧k+1<q) (hn:ks.length≤7) (hcap:ks.length≤cA) (hz:ZsOk p zs) (hl:zs.length=ks.length) (hm1:1≤m) (hm3:m≤3) (hmq:m<q) (hp:p<B256) (hq:q<B256) (h1:1<p) :
    Fn Tryz.prog 27 [grpV p q g h,.slice pa ks.length cA,.slice pz zs.length cZ,.int .i64 (m:Int)] (fun w=>RdF intC (.slice pa ks.length cA) ks w∧RdF numC (.slice pz zs.length cZ) zs w)
      (NewWt (wtE q (ks.map (· + 1)) (ks.map (· + 1)).length) m ((rsL p q (ks.map (· + 1)) zs m).flatMap numC)):=by
  have hPt:=ptsOk_map q ks hne hnd hk hn
  have hnn:0<ks.length:=List.length_pos_iff.2 hne
  have hC:=fun gA gG gP=>c_made (f:=101) [pt gA,pt gG,pt gP] (fun i=>ks.getD i 0+1) ks.length (fun w=>Seg w gA 0 [.slice pa ks.length cA]∧Seg w gG 0 (grpC p q g h)∧Seg w gP 0 [.slice pz zs.length cZ]∧RdF intC (.slice pa ks.length cA) ks w∧RdF numC (.slice pz zs.length cZ) zs w)
    (fun w w' ⟨a,b,d,e,f⟩ hb=>⟨Stable.seg w w' a hb,Stable.seg w w' b hb,Stable.seg w w' d hb,e.mod (.of_below hb _),f.mod (.of_below hb _)⟩) (by omega) (fun i hi=>by
      have hik:ks[i]?=some (ks.getD i 0):=by rw[List.getElem?_eq_getElem hi];simp[List.getD,hi]
      obtain⟨z,hiz⟩ : ∃ z,zs[i]?=some z:=⟨_,List.getElem?_eq_getElem (by omega)⟩
      have hkm:=hk _ (List.mem_of_getElem? hik)
      have hzm:=List.mem_of_getElem? hiz
      exact c_RaiseP p q g h ks zs pa pz cA cZ i _ z gA gG gP hik hiz hnd hkm.1 hcap hn (hz.may z hzm) (hz.lt z hzm) hkm.2 hq hp)
  rw[range_getD] at hC
  have hpl:(ks.map (· + 1)).length=ks.length:=by simp
  have hneq:((zs.length:Nat):Int)=((ks.length:Nat):Int):=by rw[hl]
  generalize hps:ks.map (· + 1)=ps at *
  have hlp:zs.length=ps.length:=by omega
  by_cases he:wtE q ps ps.length=0
  · have hD:=fun gG gE gP pe=>c_made (f:=105) [pt gG,pt gE,pt gP] (rsN p q ps zs) m (fun w=>Seg w gG 0 (grpC p q g h)∧Seg w gE 0 [.slice pe ps.length ks.length]∧Seg w gP 0 [.slice pz zs.length cZ]∧RdF numC (.slice pe ps.length ks.length) ps w∧RdF numC (.slice pz zs.length cZ) zs w)
      (fun w w' ⟨a,b,d,e,f⟩ hb=>⟨Stable.seg w w' a hb,Stable.seg w w' b hb,Stable.seg w w' d hb,e.mod (.of_below hb _),f.mod (.of_below hb _)⟩) (by omega) (fun j hj=>c_RaiseQ p q g h ps zs pe pz ks.length cZ j gG gE gP hPt (by omega) hz hlp (by omega) (by omega) hp hq h1 he)
    rw[show (List.range m).map (rsN p q ps zs)=rsL p q ps zs m from rfl] at hD
    generalize rsL p q ps zs m=rs at *
    rw[hpl] at hD
    refine Fn.enter Tryz.func27 rfl rfl rfl ?_
    intro w hw
    obtain⟨wA,wZ⟩:=hw
    repeat (first|refine WO.does (does_lssN rfl rfl (by omega)) ?_|refine WO.does (does_gtrN rfl rfl (by omega)) ?_|refine WO.does (does_eqlN rfl rfl (by omega)) ?_|refine WO.does (does_neqN rfl rfl hneq) ?_|refine Ta ?_|(refine Tm ?_;intro _)|refine WO.does (does_func rfl rfl) ?_|refine WO.acallX (hc:=hC _ _ _) (hR:=fun w1 hm=>⟨Hs.seg (by repeat (first|exact Hs.here|apply Hs.there)) hm,Hs.seg (by repeat (first|exact Hs.here|apply Hs.there)) hm,Hs.seg (by repeat (first|exact Hs.here|apply Hs.there)) hm,wA.mod hm.mod,wZ.mod hm.mod⟩) (k:=fun s _=>?_)|refine Tc ?_|exact Tz)
    generalize s 0=gT
    repeat (first|refine Ta ?_|(refine Tm ?_;intro _)|refine WO.does (does_func rfl rfl) ?_|refine WO.acallX (hc:=hD _ _ _ _) (hR:=fun w1 hm=>⟨Hs.seg (by repeat (first|exact Hs.here|apply Hs.there)) hm,Hs.seg (by repeat (first|exact Hs.here|apply Hs.there)) hm,Hs.seg (by repeat (first|exact Hs.here|apply Hs.there)) hm,RdF.own (Hs.seg (by repeat (first|exact Hs.here|apply Hs.there)) hm) hpl,wZ.mod hm.mod⟩) (k:=fun s _=>?_)|refine Tc ?_|exact Tz)
    generalize s 0=gO
    repeat (first|refine Ta ?_|(refine Tm ?_;intro _)|refine Tc ?_|exact Tz)
    exact WX.ret2 rfl (by exact rv_tmp rfl) (by exact rv_tmp rfl) [⟨gO,24,rs.flatMap numC⟩] (Lle.cons (by repeat (first|exact Pk.here|apply Pk.there)) rfl Lle.nil) (.inr ⟨he,gO,rfl,rfl⟩)
  · have hD:=fun gG gE gP pe=>c_madeE (f:=105) [pt gG,pt gE,pt gP] 0 m 7 (fun w=>Seg w gG 0 (grpC p q g h)∧Seg w gE 0 [.slice pe ps.length ks.length]∧Seg w gP 0 [.slice pz zs.length cZ]∧RdF numC (.slice pe ps.length ks.length) ps w∧RdF numC (.slice pz zs.length cZ) zs w)
      (fun w w' ⟨a,b,d,e,f⟩ hb=>⟨Stable.seg w w' a hb,Stable.seg w w' b hb,Stable.seg w w' d hb,e.mod (.of_below hb _),f.mod (.of_below hb _)⟩) (by omega) (by omega) (by decide) (c_RaiseQE p q g h ps zs pe pz ks.length cZ 0 gG gE gP hPt (by omega) (by omega) (by omega) hq he)
    rw[hpl] at hD
    refine Fn.enter Tryz.func27 rfl rfl rfl ?_
    intro w hw
    obtain⟨wA,wZ⟩:=hw
    repeat (first|refine WO.does (does_lssN rfl rfl (by omega)) ?_|refine WO.does (does_gtrN rfl rfl (by omega)) ?_|refine WO.does (does_eqlN rfl rfl (by omega)) ?_|refine WO.does (does_neqN rfl rfl hneq) ?_|refine Ta ?_|(refine Tm ?_;intro _)|refine WO.does (does_func rfl rfl) ?_|refine WO.acallX (hc:=hC _ _ _) (hR:=fun w1 hm=>⟨Hs.seg (by repeat (first|exact Hs.here|apply Hs.there)) hm,Hs.seg (by repeat (first|exact Hs.here|apply Hs.there)) hm,Hs.seg (by repeat (first|exact Hs.here|apply Hs.there)) hm,wA.mod hm.mod,wZ.mod hm.mod⟩) (k:=fun s _=>?_)|refine Tc ?_|exact Tz)
    generalize s 0=gT
    repeat (first|refine Ta ?_|(refine Tm ?_;intro _)|refine WO.does (does_func rfl rfl) ?_|refine WO.acallR (hc:=hD _ _ _ _) (hR:=fun w1 hm=>⟨Hs.seg (by repeat (first|exact Hs.here|apply Hs.there)) hm,Hs.seg (by repeat (first|exact Hs.here|apply Hs.there)) hm,Hs.seg (by repeat (first|exact Hs.here|apply Hs.there)) hm,RdF.own (Hs.seg (by repeat (first|exact Hs.here|apply Hs.there)) hm) hpl,wZ.mod hm.mod⟩) (k:=?_)|refine Tc ?_|exact Tz)
    exact WX.ret2 rfl (by exact rv_tmp rfl) (by exact rv_tmp rfl) [] Lle.nil (.inl ⟨he,rfl,rfl⟩)
end
end
end Sx
end Go.Proofs.YtiiacjladnljhaaGreatDoor
namespace Go.Proofs.YtiiacjladnljhaaGreatDoor
open Go Go.RowKit Go.BigFrame
namespace Sx
attribute [local irreducible] wd DQ DQS WO WC WX
theorem RdF.ownR {α:Type} {f:α→List Value} {xs:List α} {r:List Value} {w:World} {g n c:Nat} (hs:Seg w g 0 (xs.flatMap f++r)) (hn:xs.length=n):RdF f (.slice (some ⟨g,0,none⟩) n c) xs w:=by
  subst hn
  exact RdF.seg hs
def r1T (ks:List Nat) (i:Nat):List Nat:=(ks.take i).map (· + 1)
theorem r1T_succ {ks:List Nat} {i a:Nat} (ha:ks[i]?=some a):(r1T ks i).flatMap numC++numC (a+1)=(r1T ks (i+1)).flatMap numC:=by
  unfold r1T
  rw[List.take_add_one,ha,List.map_append,List.flatMap_append];simp
theorem r1T_len {ks:List Nat} {i:Nat} (h:i≤ks.length):((r1T ks i).flatMap numC).length=i*4:=by
  rw[flat_length numC_len];simp[r1T,h]
theorem ra1 {i m:Nat} (h:i+1<m) (k:m≤3):i+1+1≤3:=by omega
theorem ra2 {i:Nat} (h:i+1+1≤3):i+1+1<9223372036854775808:=by omega
theorem ra3 {i:Nat} (h:i+1+1≤3):(i+1+1)*32≤140737488355328:=by omega
theorem ra4 {i m:Nat} (h:i+1<m):m - (i+1+1)<m - (i+1):=by omega
theorem r1T_all {ks:List Nat}:r1T ks ks.length=ks.map (· + 1):=by unfold r1T;rw[List.take_length]
section
variable (p q g h:Nat)
variable (ks zs:List Nat) (pa pz:Option Addr) (cA cZ m:Nat)
set_option maxHeartbeats 4000000 in
theorem r11_Raise (hne:ks≠[]) (hnd:ks.Nodup) (hk:∀ k∈ks,k<7∧k+1<q) (hn:ks.length≤7) (hz:ZsOk p zs) (hl:zs.length=ks.length) (hm1:1≤m) (hm3:m≤3) (hmq:m<q) (hp:p<B256) (hq:q<B256) (h1:1<p) :
    Fn Tryz.prog 31 [grpV p q g h,.slice pa ks.length cA,.slice pz zs.length cZ,.int .i64 (m:Int)] (fun w=>RdF intC (.slice pa ks.length cA) ks w∧RdF numC (.slice pz zs.length cZ) zs w)
      (NewWr (wtE q (ks.map (· + 1)) (ks.map (· + 1)).length) m ((rsL p q (ks.map (· + 1)) zs m).flatMap numC)):=by
  have hPt:=ptsOk_map q ks hne hnd hk hn
  have hnn:0<ks.length:=List.length_pos_iff.2 hne
  have hneq:((zs.length:Nat):Int)=((ks.length:Nat):Int):=by rw[hl]
  refine Fn.enter Tryz.func31 rfl rfl rfl ?_
  intro w hw
  obtain⟨wA,wZ⟩:=hw
  repeat (first|refine WO.does (does_lssN rfl rfl (by omega)) ?_|refine WO.does (does_gtrN rfl rfl (by omega)) ?_|refine WO.does (does_eqlN rfl rfl (by omega)) ?_|refine WO.does (does_neqN rfl rfl hneq) ?_|refine Ta ?_|(refine Tm ?_;intro _)|refine Tc ?_|exact Tz)
  rename_i gG
  refine WC.loopI (σ:=Nat × Nat × Nat) (fun s=>s.1≤ks.length∧(0<s.1→s.2.2<9223372036854775808∧s.1≤s.2.2)) (fun s=>[(1,.slice pa ks.length cA),(2,.slice pz zs.length cZ),(3,.int .i64 (m:Int)),(4,Sx.pt gG),(10,agV s.2.1 s.2.2 s.1 s.1),(11,.int .i64 (s.1:Int))])
    (fun s=>⟨gG,26,grpC p q g h⟩::naL s.2.1 ((r1T ks s.1).flatMap numC) (mkz (s.2.2 - s.1) (numC 0)) s.1) (fun s=>ks.length - s.1) (0,0,0) (fun s hi=>?_) ⟨Nat.zero_le _,fun h=>absurd h (by decide)⟩
  obtain⟨i,g0,c0⟩:=s
  try dsimp only at hi ⊢
  obtain⟨hi,hr⟩:=hi
  by_cases hlt:i<ks.length
  · obtain⟨a,ha⟩ : ∃ y,ks[i]?=some y:=⟨_,List.getElem?_eq_getElem hlt⟩
    obtain⟨z,hiz⟩ : ∃ y,zs[i]?=some y:=⟨_,List.getElem?_eq_getElem (by omega)⟩
    have hltz:i<zs.length:=by omega
    have hka:=hk a (List.mem_of_getElem? ha)
    have hzm:=List.mem_of_getElem? hiz
    obtain⟨bA,oA,e,_,hsA⟩:=id wA |>.get ha
    subst e
    obtain⟨bZ,oZ,e,_,hsZ⟩:=id wZ |>.get hiz
    subst e
    have hca:=ints_get (o:=oA) ha
    have hcz:cut (zs.flatMap numC) (oZ+i*4 - oZ) 4=numC z:=by rw[Nat.add_sub_cancel_left];exact cut_flatP (f:=numC) (k:=4) (fun _=>rfl) hiz
    have hadd2:IntKind.i64.wrap ((i:Int)+1)=((i+1:Nat):Int):=i64_in' (by omega) (by omega) (by omega)
    have hadd4:IntKind.i64.wrap ((a:Int)+1)=((a+1:Nat):Int):=i64_in' (by omega) (by omega) (by omega)
    have hM:=r8_May p q g h z (hz.lt z hzm) hp
    rw[hz.may z hzm] at hM
    have hO:=r9_OfP p q g h (a+1) (by omega) hq
    rw[ofZ_nat q (a+1) (by omega),Nat.mod_eq_of_lt hka.2] at hO
    have hsn:=r1T_succ ha
    have hBl:=r1T_len (ks:=ks) hi
    generalize hB2:(r1T ks (i+1)).flatMap numC=B2 at *
    generalize hB1:(r1T ks i).flatMap numC=B1 at *
    generalize hTL:naL g0 B1 (mkz (c0 - i) (numC 0)) i=TL
    generalize hAV:agV g0 c0 i i=aV
    repeat (first|refine Ta ?_|(refine Tm ?_;intro _)|refine Tc ?_|exact Tz)
    refine WC.dT rfl (by omega) ?_
    repeat (first|refine Ta ?_|(refine Tm ?_;intro _)|refine Tc ?_|exact Tz)
    refine WC.adraw 21 (k:=?_)
    iterate 21 (first|refine DQ.does (fun s _=>does_indexSlice (o':=oA+i*1) rfl rfl hlt rfl) Dp.const ?_|refine DQ.does (fun s _=>a_loadF1 (hs:=hsA) (hle:=Nat.le_add_right _ _) (hc:=hca)) Dp.const ?_|refine DQ.does (fun s _=>does_lssN rfl rfl (by omega)) Dp.const ?_|refine DQ.does (fun s _=>does_geqN rfl rfl (by omega)) Dp.const ?_|refine DQ.does (fun s _=>does_indexSlice (o':=oZ+i*4) rfl rfl hltz rfl) Dp.const ?_|refine DQ.does (fun s _=>a_loadF (vs:=numC z) (hs:=hsZ) (hle:=Nat.le_add_right _ _) (hc:=hcz)) Dp.const ?_|refine Da ?_|refine DQ.acall (hc:=hM) (k:=?_)|refine Dc ?_)
    refine DQ.anil (k:=?_)
    intro sx _
    repeat (first|refine Ta ?_|(refine Tm ?_;intro _)|refine Tc ?_|exact Tz)
    refine WC.loopI (σ:=Nat) (fun k=>k≤i) (fun k=>[(1,.slice (some ⟨bA,oA,none⟩) ks.length cA),(2,.slice (some ⟨bZ,oZ,none⟩) zs.length cZ),(3,.int .i64 (m:Int)),(4,Sx.pt gG),(10,aV),(11,.int .i64 (i:Int)),(12,.int .i64 (k:Int))]) (fun k=>⟨gG,26,grpC p q g h⟩::TL) (fun k=>i - k) 0 (fun k hki=>?_) (Nat.zero_le _) (hl:=Lle.same)
    try dsimp only at hki ⊢
    by_cases hlk:k<i
    · have hkl:k<ks.length:=by omega
      obtain⟨b,hb⟩ : ∃ y,ks[k]?=some y:=⟨_,List.getElem?_eq_getElem hkl⟩
      have hcb:=ints_get (o:=oA) hb
      have hadd3:IntKind.i64.wrap ((k:Int)+1)=((k+1:Nat):Int):=i64_in' (by omega) (by omega) (by omega)
      have hab:(b:Int)≠(a:Int):=fun e=>by
        obtain⟨k1,e1⟩:=List.getElem?_eq_some_iff.1 hb
        obtain⟨k2,e2⟩:=List.getElem?_eq_some_iff.1 ha
        exact List.pairwise_iff_getElem.1 hnd k i k1 k2 hlk (by rw[e1,e2];exact Int.ofNat_inj.1 e)
      repeat (first|refine Ta ?_|(refine Tm ?_;intro _)|refine Tc ?_|exact Tz)
      refine WC.dT rfl (by omega) ?_
      repeat (first|refine Ta ?_|(refine Tm ?_;intro _)|refine Tc ?_|exact Tz)
      refine WC.adraw 9 (k:=?_)
      iterate 9 (first|refine DQ.does (fun s _=>does_indexSlice (o':=oA+k*1) rfl rfl hkl rfl) Dp.const ?_|refine DQ.does (fun s _=>a_loadF1 (hs:=hsA) (hle:=Nat.le_add_right _ _) (hc:=hcb)) Dp.const ?_|refine DQ.does (fun s _=>does_indexSlice (o':=oA+i*1) rfl rfl hlt rfl) Dp.const ?_|refine DQ.does (fun s _=>a_loadF1 (hs:=hsA) (hle:=Nat.le_add_right _ _) (hc:=hca)) Dp.const ?_|refine DQ.does (fun s _=>does_eqlN rfl rfl hab) Dp.const ?_|refine Da ?_|refine Dc ?_)
      refine DQ.anil (k:=?_)
      intro sx _
      repeat (first|refine WO.does (does_add rfl rfl hadd3) ?_|refine Ta ?_|(refine Tm ?_;intro _)|refine Tc ?_|exact Tz)
      exact WX.metI (k+1) (hl:=Lle.same) (hs:=⟨by show k+1≤i;omega,by show i - (k+1)<i - k;omega⟩)
    · have hk2:k=i:=by omega
      subst hk2
      rcases k with _|i
      · have e1:B1=[]:=List.length_eq_zero_iff.1 (by omega)
        subst e1 hTL hAV
        rw[List.nil_append] at hsn
        try dsimp only[agV,naL]
        repeat (first|refine Ta ?_|(refine Tm ?_;intro _)|refine Tc ?_|exact Tz)
        refine WC.adrawF [0] 8 (k:=?_)
        repeat (first|refine DQ.does (fun s _=>does_indexSlice (o':=oA+0*1) rfl rfl hlt rfl) Dp.const ?_|refine DQ.does (fun s _=>a_loadF1 (hs:=hsA) (hle:=Nat.le_add_right _ _) (hc:=hca)) Dp.const ?_|refine DQ.does (fun s _=>does_add rfl rfl hadd4) Dp.const ?_|refine Da ?_|refine DQ.acall (hc:=hO) (k:=?_)|refine Df ?_)
        refine DQ.anil (k:=?_)
        intro sx _
        repeat (first|refine Ta ?_|(refine Tm ?_;intro _)|(refine WO.makes (makes_build (cs:=numC (a+1)) rfl (by decide) rfl) ?_;intro _)|refine Tc ?_|exact Tz)
        refine WO.appNZ (z:=numC 0) (ys:=numC (a+1)) (m:=1) rfl rfl rfl (Rds.own (m:=4) Hs.here rfl) rfl (by decide) (by decide) (by decide) (by decide) (fun g1 c1 a2 a3=>?_)
        rw[hsn]
        repeat (first|refine WO.does (does_add rfl rfl hadd2) ?_|refine Ta ?_|(refine Tm ?_;intro _)|refine Tc ?_|exact Tz)
        subst hB2
        exact WX.metI (1,g1,c1) (hs:=⟨⟨by show 0+1≤ks.length;omega,fun _=>⟨a2,a3⟩⟩,by show ks.length - (0+1)<ks.length - 0;omega⟩)
      · obtain⟨r2,r3⟩:=hr (by omega)
        subst hTL hAV
        try dsimp only[agV,naL]
        repeat (first|refine Ta ?_|(refine Tm ?_;intro _)|refine Tc ?_|exact Tz)
        refine WC.dF rfl (by omega) ?_
        repeat (first|refine Ta ?_|(refine Tm ?_;intro _)|refine Tc ?_|exact Tz)
        refine WC.adrawF [0] 8 (k:=?_)
        repeat (first|refine DQ.does (fun s _=>does_indexSlice (o':=oA+(i+1)*1) rfl rfl hlt rfl) Dp.const ?_|refine DQ.does (fun s _=>a_loadF1 (hs:=hsA) (hle:=Nat.le_add_right _ _) (hc:=hca)) Dp.const ?_|refine DQ.does (fun s _=>does_add rfl rfl hadd4) Dp.const ?_|refine Da ?_|refine DQ.acall (hc:=hO) (k:=?_)|refine Df ?_)
        refine DQ.anil (k:=?_)
        intro sx _
        repeat (first|refine Ta ?_|(refine Tm ?_;intro _)|(refine WO.makes (makes_build (cs:=numC (a+1)) rfl (by decide) rfl) ?_;intro _)|refine Tc ?_|exact Tz)
        refine WO.appKZ (z:=numC 0) (m:=1) (l:=i+1+1) rfl rfl rfl (xs:=B1) (ys:=numC (a+1)) hBl r3 (by repeat (first|exact Pk.here|apply Pk.there)) (Rds.own (m:=4) Hs.here rfl) rfl rfl rfl (by omega) r2 (by omega) (by decide) (by decide) (fun g1 c1 a2 a3=>?_)
        rw[hsn]
        repeat (first|refine WO.does (does_add rfl rfl hadd2) ?_|refine Ta ?_|(refine Tm ?_;intro _)|refine Tc ?_|exact Tz)
        subst hB2
        exact WX.metI (i+1+1,g1,c1) (hs:=⟨⟨by show i+1+1≤ks.length;omega,fun _=>⟨a2,a3⟩⟩,by show ks.length - (i+1+1)<ks.length - (i+1);omega⟩)
  · have hi2:i=ks.length:=by omega
    subst hi2
    obtain⟨r2,r3⟩:=hr (by omega)
    rw[r1T_all]
    have hpl:(ks.map (· + 1)).length=ks.length:=by simp
    have hcz2:zs.length=(ks.map (· + 1)).length:=by omega
    have hq0:1<q:=by omega
    generalize ks.map (· + 1)=ps at *
    have hn7:ps.length≤7:=by omega
    have hW:=fun (gP cP j:Nat) (hj:j<m)=>r10_Weights p q g h ps (some ⟨gP,0,none⟩) cP (q - (j+1)) hPt (by omega) (by omega) hq
    have hPr:=fun (pn:Option Addr) (cN j:Nat)=>r8_ProductR p q g h hp h1 zs (wts q ps (q - (j+1))) hz (fun v hv=>Nat.lt_trans (wts_lt (by omega) v hv) hq) (by rw[wts_len,hcz2]) pz pn cZ cN (by omega)
    have hwl:=fun (x:Nat)=>wts_len (q:=q) (l:=ps) (x:=x)
    have hnp:0<ps.length:=by omega
    clear hr hneq hl hlt hi hnn hk hnd hne hn wA hPt
    rw[← hpl] at r3 ⊢
    clear hpl
    generalize hN:ps.length=n at *
    generalize hZ:zs.length=nz at *
    generalize wtE q ps n=E at *
    subst hcz2
    obtain⟨n,rfl⟩ : ∃ k,nz=k+1:=⟨nz - 1,by omega⟩
    try dsimp only[agV,naL]
    generalize hPB:ps.flatMap numC++mkz (c0 - (n+1)) (numC 0)=PB at *
    repeat (first|refine Ta ?_|(refine Tm ?_;intro _)|refine Tc ?_|exact Tz)
    refine WC.dF rfl (by omega) ?_
    repeat (first|refine Ta ?_|(refine Tm ?_;intro _)|refine Tc ?_|exact Tz)
    refine WC.loopI (σ:=Nat × Nat × Nat) (fun s=>s.1≤m∧(0<s.1→s.2.2<9223372036854775808∧s.1≤s.2.2∧E=0)) (fun s=>[(2,.slice pz (n+1) cZ),(3,.int .i64 (m:Int)),(4,Sx.pt gG),(10,.slice (some ⟨g0,0,none⟩) (n+1) c0),(13,agV s.2.1 s.2.2 s.1 s.1),(14,.int .i64 ((s.1+1:Nat):Int))])
      (fun s=>⟨gG,26,grpC p q g h⟩::⟨g0,24,PB⟩::naL s.2.1 ((rsL p q ps zs s.1).flatMap numC) (mkz (s.2.2 - s.1) (numC 0)) s.1) (fun s=>m - s.1) (0,0,0) (fun s hi=>?_) ⟨Nat.zero_le _,fun h=>absurd h (by decide)⟩
    obtain⟨i,gS,cS⟩:=s
    try dsimp only at hi ⊢
    obtain⟨hi,hr⟩:=hi
    by_cases hlt:i<m
    · have hW':=hW g0 c0 i hlt
      clear hW
      have hO:=r9_OfM p q g h (i+1) (by omega) (by omega) (by omega) hq
      have hng:IntKind.i64.wrap (0 - ((i+1:Nat):Int)) = -((i+1:Nat):Int):=by rw[show (0:Int) - ((i+1:Nat):Int) = -((i+1:Nat):Int) by omega];exact i64_in (by omega) (by omega)
      have hadd2:IntKind.i64.wrap (((i+1:Nat):Int)+1)=((i+1+1:Nat):Int):=i64_in' (by omega) (by omega) (by omega)
      have hsn:(rsL p q ps zs i).flatMap numC++numC (rsN p q ps zs i)=(rsL p q ps zs (i+1)).flatMap numC:=by unfold rsL;rw[range_take_succ,List.flatMap_append];simp
      have hBl:((rsL p q ps zs i).flatMap numC).length=i*4:=by rw[flat_length numC_len];simp[rsL]
      have hPr':=fun pn cN=>hPr pn cN i
      clear hPr
      rw[show prD p zs (wts q ps (q - (i+1)))=rsN p q ps zs i from rfl] at hPr'
      have hwl':=hwl (q - (i+1))
      generalize hB2:(rsL p q ps zs (i+1)).flatMap numC=B2 at *
      generalize hB1:(rsL p q ps zs i).flatMap numC=B1 at *
      generalize rsN p q ps zs i=V at *
      generalize wts q ps (q - (i+1))=ws at *
      generalize hTL:naL gS B1 (mkz (cS - i) (numC 0)) i=TL
      generalize hAV:agV gS cS i i=aV
      by_cases he:E=0
      · have hWx:Fn Tryz.prog 113 [grpV p q g h,.slice (some ⟨g0,0,none⟩) (n+1) c0,numV (q - (i+1))] (RdF numC (.slice (some ⟨g0,0,none⟩) (n+1) c0) ps) (Ex (fun x=>.tuple #[.slice (some ⟨x 0,0,none⟩) (n+1) (x 1),.int .i64 0]) (fun x=>[⟨x 0,24,ws.flatMap numC++mkz (x 1 - (n+1)) (numC 0)⟩]) (fun x=>n+1≤x 1)):=by
          refine hW'.weak (fun w hw=>hw) (fun v N hv=>?_)
          rcases hv with ⟨h,_⟩|⟨_,g,c,h0,h,h'⟩
          · exact absurd he h
          · exact⟨fun k=>if k=0 then g else c,h,h',h0⟩
        clear hW'
        repeat (first|refine Ta ?_|(refine Tm ?_;intro _)|refine Tc ?_|exact Tz)
        refine WC.dT rfl (by omega) ?_
        repeat (first|refine Ta ?_|(refine Tm ?_;intro _)|refine Tc ?_|exact Tz)
        refine WC.adraw 12 (k:=?_)
        iterate 6 (first|refine DQ.does (fun s _=>does_negV rfl hng) Dp.const ?_|refine DQ.acall (hc:=hO) (k:=?_)|refine Da ?_|refine Dc ?_)
        refine DQ.callsE (fs:=fun _=>[]) (cs:=fun _=>[]) (R:=fun _=>RdF numC (.slice (some ⟨g0,0,none⟩) (n+1) c0) ps) (vf:=fun _ x=>.tuple #[.slice (some ⟨x 0,0,none⟩) (n+1) (x 1),.int .i64 0]) (Nf:=fun _ x=>[⟨x 0,24,ws.flatMap numC++mkz (x 1 - (n+1)) (numC 0)⟩]) (S:=fun _ x=>n+1≤x 1) (fun _=>[]) (fun _=>.nil)
          (fun _=>⟨fun _=>n+1,Nat.le_refl _⟩) (fun _ _=>hWx) (fun _=>rfl) (fun _=>rfl) (fun _=>by simp) (fun _ _ w hm=>RdF.ownR (r:=mkz (c0 - (n+1)) (numC 0)) (by rw[hPB];exact Hs.seg (by repeat (first|exact Hs.here|apply Hs.there)) hm) hN) Dp.const Dp.const Dp.const ?_
        try dsimp only[List.map_cons,List.map_nil,List.cons_append,List.nil_append]
        iterate 5 (refine DQ.auto (k:=?_))
        refine DQ.anil (k:=?_)
        intro sx _
        generalize sx 6 0=gW
        generalize sx 6 1=cW
        repeat (first|refine Ta ?_|(refine Tm ?_;intro _)|refine WO.acallR (hc:=hPr' _ _) (hR:=fun w1 hm=>⟨wZ.mod hm.mod,RdF.ownR (Hs.seg (by repeat (first|exact Hs.here|apply Hs.there)) hm) hwl'⟩) (k:=?_)|refine Tc ?_|exact Tz)
        rcases i with _|i
        · have e1:B1=[]:=List.length_eq_zero_iff.1 (by omega)
          subst e1 hTL hAV
          rw[List.nil_append] at hsn
          try dsimp only[agV,naL]
          repeat (first|refine Ta ?_|(refine Tm ?_;intro _)|(refine WO.makes (makes_build (cs:=numC V) rfl (by decide) rfl) ?_;intro _)|refine Tc ?_|exact Tz)
          refine WO.appNZ (z:=numC 0) (ys:=numC V) (m:=1) rfl rfl rfl (Rds.own (m:=4) Hs.here rfl) rfl (by decide) (by decide) (by decide) (by decide) (fun g1 c1 a2 a3=>?_)
          rw[hsn]
          repeat (first|refine WO.does (does_add rfl rfl hadd2) ?_|refine Ta ?_|(refine Tm ?_;intro _)|refine Tc ?_|exact Tz)
          subst hB2
          exact WX.metI (1,g1,c1) (hs:=⟨⟨by show 0+1≤m;omega,fun _=>⟨a2,a3,he⟩⟩,by show m - (0+1)<m - 0;omega⟩)
        · obtain⟨r2,r3,_⟩:=hr (Nat.succ_pos _)
          have hb3:i+1+1≤3:=ra1 hlt hm3
          subst hTL hAV
          try dsimp only[agV,naL]
          repeat (first|refine Ta ?_|(refine Tm ?_;intro _)|(refine WO.makes (makes_build (cs:=numC V) rfl (by decide) rfl) ?_;intro _)|refine Tc ?_|exact Tz)
          refine WO.appKZ (z:=numC 0) (m:=1) (l:=i+1+1) rfl rfl rfl (xs:=B1) (ys:=numC V) hBl r3 (by repeat (first|exact Pk.here|apply Pk.there)) (Rds.own (m:=4) Hs.here rfl) rfl rfl rfl (ra2 hb3) r2 (ra3 hb3) (by decide) (by decide) (fun g1 c1 a2 a3=>?_)
          rw[hsn]
          repeat (first|refine WO.does (does_add rfl rfl hadd2) ?_|refine Ta ?_|(refine Tm ?_;intro _)|refine Tc ?_|exact Tz)
          subst hB2
          exact WX.metI (i+1+1,g1,c1) (hs:=⟨⟨hlt,fun _=>⟨a2,a3,he⟩⟩,ra4 hlt⟩)
      · have hWx:Fn Tryz.prog 113 [grpV p q g h,.slice (some ⟨g0,0,none⟩) (n+1) c0,numV (q - (i+1))] (RdF numC (.slice (some ⟨g0,0,none⟩) (n+1) c0) ps) (Is (.tuple #[.slice none 0 0,.int .i64 7])):=by
          refine hW'.weak (fun w hw=>hw) (fun v N hv=>?_)
          rcases hv with ⟨_,h,_⟩|⟨h,_⟩
          · exact h
          · exact absurd h he
        clear hW'
        repeat (first|refine Ta ?_|(refine Tm ?_;intro _)|refine Tc ?_|exact Tz)
        refine WC.dT rfl (by omega) ?_
        repeat (first|refine Ta ?_|(refine Tm ?_;intro _)|refine Tc ?_|exact Tz)
        refine WC.adraw 12 (k:=?_)
        iterate 6 (first|refine DQ.does (fun s _=>does_negV rfl hng) Dp.const ?_|refine DQ.acall (hc:=hO) (k:=?_)|refine Da ?_|refine Dc ?_)
        refine DQ.acallM (hc:=hWx) (hR:=fun w1 hm=>RdF.ownR (r:=mkz (c0 - (n+1)) (numC 0)) (by rw[hPB];exact Hs.seg (by repeat (first|exact Hs.here|apply Hs.there)) hm) hN) (k:=?_)
        iterate 5 (refine DQ.auto (k:=?_))
        refine DQ.anil (k:=?_)
        intro sx _
        repeat (first|refine Ta ?_|(refine Tm ?_;intro _)|refine Tc ?_|exact Tz)
        exact WX.ret2 rfl (by exact rv_tmp rfl) (by exact rv_tmp rfl) [] Lle.nil (.inl ⟨he,rfl,rfl⟩)
    · have hi2:i=m:=by omega
      subst hi2
      obtain⟨k2,k3,hE⟩:=hr (by omega)
      generalize (rsL p q ps zs i).flatMap numC=B at *
      obtain⟨i,rfl⟩ : ∃ k,i=k+1:=⟨i - 1,by omega⟩
      try dsimp only[agV,naL,List.cons_append,List.nil_append]
      repeat (first|refine Ta ?_|(refine Tm ?_;intro _)|refine Tc ?_|exact Tz)
      refine WC.dF rfl (by omega) ?_
      repeat (first|refine Ta ?_|(refine Tm ?_;intro _)|refine Tc ?_|exact Tz)
      exact WX.ret2 rfl (by exact rv_tmp rfl) (by exact rv_tmp rfl) [⟨gS,24,B++mkz (cS - (i+1)) (numC 0)⟩] (Lle.cons (by repeat (first|exact Pk.here|apply Pk.there)) rfl Lle.nil) (.inr ⟨hE,gS,cS,k3,rfl,rfl⟩)
end
end Sx
end Go.Proofs.YtiiacjladnljhaaGreatDoor
