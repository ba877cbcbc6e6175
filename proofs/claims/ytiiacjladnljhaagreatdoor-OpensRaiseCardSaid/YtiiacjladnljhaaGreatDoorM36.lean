/- Part 36 of the proof: QlC, DfA, DfB, OsB, WrA -/
import Derived.Test.YtiiacjladnljhaaGreatDoorM30
import Derived.Test.YtiiacjladnljhaaGreatDoorM34
import Derived.Test.YtiiacjladnljhaaGreatDoorM35
set_option linter.unusedSimpArgs false
set_option linter.unusedVariables false
namespace Go.Proofs.YtiiacjladnljhaaGreatDoor
open Go Go.RowKit Go.BigFrame
namespace Sx
attribute [local irreducible] wd DQ DQS WO WC WX
section
variable (p q g h:Nat)
set_option maxHeartbeats 2000000 in
theorem r10_AtY (l:List Nat) (pz:Option Addr) (c x:Nat) (hl:∀ a∈l,a<B256) (hn:l.length≤1099511627776) (hq:q<B256) (hx:x<B256) (hb1:allN q l=true) (hxq:x<q) :
    Fn Tryz.prog 208 [grpV p q g h,.slice pz l.length c,numV x] (RdF numC (.slice pz l.length c) l) (Is (.tuple #[numV (polyN l x%q),.int .i64 0])):=by
  have hM1:=r10_All p q g h l pz c hl hn hq
  have hM2:=r10_below p q g h x hx hq
  obtain⟨h1,hlq⟩:=allN_spec hb1
  rw[mayN_self,decide_eq_true h1,decide_eq_true hxq] at hM2
  rw[hb1] at hM1
  have hOf:=r9_OfP p q g h 1 (by omega) hq
  rw[ofZ_nat q 1 (by omega)] at hOf
  have hT:=fun a b (ha:a<q) (hb:b<q)=>by
    have:=r10_times p q g h a b (Nat.lt_trans ha hq) (Nat.lt_trans hb hq) hq
    rw[show mayN a b q=true by simp[mayN,h1,ha,hb]] at this
    exact this
  have hP:=fun a b (ha:a<q) (hb:b<q)=>by
    have:=r10_plus p q g h a b (Nat.lt_trans ha hq) (Nat.lt_trans hb hq) hq
    rw[show mayN a b q=true by simp[mayN,h1,ha,hb]] at this
    exact this
  refine Fn.enter Tryz.func208 rfl rfl rfl ?_
  intro w hw
  have hwK:=hw
  obtain⟨pt',c',e,hpc⟩:=hw
  cases e
  repeat (first|refine Ta ?_|(refine Tm ?_;intro _)|refine WO.acall (hc:=hM2) (k:=?_)|refine WO.acall (hc:=hOf) (k:=?_)|refine WO.acallR (hc:=hM1) (hR:=fun w hm=>hwK.mod hm.mod) (k:=?_)|refine Tc ?_|exact Tz)
  rename_i g3 g5 g6 g8 g9
  refine WC.loopI (σ:=Nat) (fun i=>i≤l.length) (fun i=>[(1,.slice pz l.length c),(3,Sx.pt g3),(5,Sx.pt g5),(6,Sx.pt g6),(8,Sx.pt g8),(9,Sx.pt g9),(10,.int .i64 (i:Int))])
    (fun i=>[⟨g9,24,numC (x ^ i%q)⟩,⟨g8,24,numC (polyN (l.take i) x%q)⟩,⟨g6,24,numC 0⟩,⟨g5,24,numC x⟩,⟨g3,26,grpC p q g h⟩]) (fun i=>l.length - i) 0 (fun i hi=>?_) (Nat.zero_le _)
    (hl:=by simp only[Nat.pow_zero,List.take_zero,polyN,Nat.zero_mod];repeat (first|exact Lle.nil|refine Lle.cons (by repeat (first|exact Pk.here|apply Pk.there)) (by rfl) ?_))
  try dsimp only at hi ⊢
  by_cases hlt:i<l.length
  · obtain⟨y,hy⟩ : ∃ y,l[i]?=some y:=⟨_,List.getElem?_eq_getElem hlt⟩
    rcases hpc with ⟨_,h0⟩|⟨b,o,rfl,hs⟩
    · rw[h0] at hlt;simp at hlt
    have hadd2:IntKind.i64.wrap ((i:Int)+1)=((i+1:Nat):Int):=i64_in' (by omega) (by omega) (by omega)
    have hcx:cut (l.flatMap numC) (o+i*4 - o) 4=numC y:=by rw[Nat.add_sub_cancel_left];exact cut_flat numC_len hy
    have hyq:=hlq y (List.mem_of_getElem? hy)
    have hpw:x ^ i%q<q:=Nat.mod_lt _ (by omega)
    have hou:polyN (l.take i) x%q<q:=Nat.mod_lt _ (by omega)
    have hT1:=hT y (x ^ i%q) hyq hpw
    have hty:y*(x ^ i%q)%q<q:=Nat.mod_lt _ (by omega)
    have hP1:=hP (polyN (l.take i) x%q) (y*(x ^ i%q)%q) hou hty
    have hT2:=hT (x ^ i%q) x hpw hxq
    have hst:=polyN_step q x (l.take i) y
    rw[List.length_take,Nat.min_eq_left (Nat.le_of_lt hlt),show l.take i++[y]=l.take (i+1) by rw[List.take_add_one,hy];rfl] at hst
    simp only[okV] at hT1 hP1 hT2
    rw[hst] at hP1
    rw[pow_step] at hT2
    clear hT hP hst hlq hl hM1 hM2 hOf
    generalize hX2:x ^ (i+1)%q=X2 at *
    generalize hP2:polyN (l.take (i+1)) x%q=P2 at *
    generalize x ^ i%q=X1 at *
    generalize polyN (l.take i) x%q=P1 at *
    generalize y*X1%q=Y1 at *
    repeat (first|refine Ta ?_|(refine Tm ?_;intro _)|refine Tc ?_|exact Tz)
    refine WC.dT rfl (by omega) ?_
    repeat (first|refine Ta ?_|(refine Tm ?_;intro _)|refine Tc ?_|exact Tz)
    refine WC.adraw 10 (k:=?_)
    iterate 10 (first|refine Da ?_|refine DQ.does (fun s _=>does_indexSlice (o':=o+i*4) rfl rfl hlt rfl) Dp.const ?_|refine DQ.does (fun s _=>a_loadF (vs:=numC y) (hs:=hs) (hle:=Nat.le_add_right _ _) (hc:=hcx)) Dp.const ?_|refine DQ.acall (hc:=hT1) (k:=?_)|refine DQ.acall (hc:=hP1) (k:=?_)|refine Dc ?_)
    refine DQ.anil (k:=?_)
    intro sx _
    repeat (first|refine Ta ?_|(refine Tm ?_;intro _)|refine WO.acall (hc:=hT2) (k:=?_)|refine WO.does (does_add rfl rfl hadd2) ?_|refine Tc ?_|exact Tz)
    subst hX2 hP2
    exact WX.metI (i+1) (hs:=⟨by show i+1≤l.length;omega,by show l.length - (i+1)<l.length - i;omega⟩)
  · have hi2:i=l.length:=by omega
    subst hi2
    rw[List.take_length]
    repeat (first|refine Ta ?_|(refine Tm ?_;intro _)|refine Tc ?_|exact Tz)
    refine WC.dF rfl (by omega) ?_
    repeat (first|refine Ta ?_|(refine Tm ?_;intro _)|refine Tc ?_|exact Tz)
    done
end
end Sx
end Go.Proofs.YtiiacjladnljhaaGreatDoor
namespace Go.Proofs.YtiiacjladnljhaaGreatDoor
open Go Go.RowKit Go.BigFrame
namespace Sx
attribute [local irreducible] wd DQ DQS WO WC WX
def naL (g:Nat) (B r:List Value):Nat→List Ent
  | 0=>[]
  | _+1=>[⟨g,24,B++r⟩]
def NewT (m:Nat) (cs:List Value):Value→List Ent→Prop:=fun v N=>∃ g c r,v=.tuple #[.slice (some ⟨g,0,none⟩) m c,.int .i64 0]∧N=[⟨g,24,cs++r⟩]
end Sx
end Go.Proofs.YtiiacjladnljhaaGreatDoor
namespace Go.Proofs.YtiiacjladnljhaaGreatDoor
open Go Go.RowKit Go.BigFrame
namespace Sx
attribute [local irreducible] wd DQ DQS WO WC WX
section
variable (p q g h:Nat)
theorem r15_Poly (f sec:Int) (ns:Value) (l:List Nat) (pz:Option Addr) (c:Nat) (hl:∀ a∈l,a<B256) (hn:l.length≤1099511627776) (hq:q<B256) (hf:0≤f∧0≤sec∧f+sec≤5) :
    Fn Tryz.prog 33 [stV p q g h f sec ns,.slice pz l.length c] (RdF numC (.slice pz l.length c) l) (Is (.bool (decide ((l.length:Int)=f+sec) && allN q l))):=by
  have hadd:IntKind.i64.wrap (f+sec)=f+sec:=i64_in (by omega) (by omega)
  have hA:=r10_All p q g h l pz c hl hn hq
  generalize allN q l=b at *
  refine Fn.enter Tryz.func33 rfl rfl rfl ?_
  intro w hw
  by_cases he:(l.length:Int)=f+sec
  · have d:decide ((l.length:Int)=f+sec)=true:=decide_eq_true he
    rw[d,Bool.true_and]
    repeat (first|refine Ta ?_|(refine Tm ?_;intro _)|refine WO.does (does_add rfl rfl hadd) ?_|refine WO.does (does_eqlY rfl rfl he) ?_|refine WO.acallR (hc:=hA) (hR:=fun w1 hm=>hw.mod hm.mod) (k:=?_)|refine Tc ?_|exact Tz)
  · have d:decide ((l.length:Int)=f+sec)=false:=decide_eq_false he
    rw[d,Bool.false_and]
    repeat (first|refine Ta ?_|(refine Tm ?_;intro _)|refine WO.does (does_add rfl rfl hadd) ?_|refine WO.does (does_eqlN rfl rfl he) ?_|refine Tc ?_|exact Tz)
end
end Sx
end Go.Proofs.YtiiacjladnljhaaGreatDoor
namespace Go.Proofs.YtiiacjladnljhaaGreatDoor
open Go Go.RowKit Go.BigFrame
namespace Sx
attribute [local irreducible] wd DQ DQS WO WC WX
section
variable (p q g h:Nat)
theorem r9_OfM (m:Nat) (hm:m<1000) (h0m:0<m) (hmq:m<q) (hq:q<B256):Fn Tryz.prog 112 [grpV p q g h,.int .i64 (-(m:Int))] Tr (Is (numV (q - m))):=by
  have hO:=r_Of m (by omega)
  have hcv:IntKind.u64.wrap (-(m:Int))=((18446744073709551616 - m:Nat):Int):=by
    simp[IntKind.wrap,IntKind.signed,IntKind.bits];omega
  have hng:IntKind.u64.wrap (0 - ((18446744073709551616 - m:Nat):Int))=(m:Int):=by
    simp[IntKind.wrap,IntKind.signed,IntKind.bits];omega
  have hD:=r_Div m q (B256_of (by omega)) hq (by omega)
  rw[Nat.mod_eq_of_lt hmq] at hD
  have hS:=r_Sub q m hq (B256_of (by omega))
  rw[show (q+B256 - m)%B256=q - m by rw[show q+B256 - m=(q - m)+B256 by omega,Nat.add_mod_right];exact Nat.mod_eq_of_lt (by omega)] at hS
  generalize m / q=D at *
  have hmb:m<B256:=B256_of (by omega)
  have d0:decide (q=0)=false:=decide_eq_false (by omega)
  have d1:decide (m=0)=false:=decide_eq_false (by omega)
  generalize q - m=R at *
  generalize bw q m 0=bb at *
  refine Fn.enter Tryz.func112 rfl rfl rfl ?_
  intro w hw
  repeat (first|refine Ta ?_|(refine Tm ?_;intro _)|refine Tc ?_|exact Tz)
  rw[d0]
  repeat (first|refine Ta ?_|(refine Tm ?_;intro _)|refine WO.does (does_geqN rfl rfl (by omega)) ?_|refine Tc ?_|exact Tz)
  refine WC.adrawF [9,10] 13 (k:=?_)
  repeat (first|refine Da ?_|refine DQ.acall (hc:=hO) (k:=?_)|refine DQ.does (fun s _=>does_conv rfl hcv) Dp.const ?_|refine DQ.does (fun s _=>does_negV rfl hng) Dp.const ?_|refine DQ.acall (hc:=hD) (k:=?_)|refine Df ?_)
  refine DQ.anil (k:=?_)
  intro sx _
  repeat (first|refine Ta ?_|(refine Tm ?_;intro _)|refine WO.does (a_eqNumV rfl rfl hmb B256_zero d1) ?_|refine WO.acall (hc:=hS) (k:=?_)|refine Tc ?_|exact Tz)
  done
end
theorem scL_length {q n:Nat} {l:List Nat}:(scL q l n).length=n:=by simp[scL]
theorem scL_get {q n i:Nat} {l:List Nat} (h:i<n):(scL q l n)[i]?=some (scN q l i):=by simp[scL,h]
section
variable (p q g h:Nat) (l:List Nat) (pz:Option Addr) (c m:Nat)
set_option maxHeartbeats 2000000 in
theorem r11_valuesS (hl:∀ a∈l,a<B256) (hn:l.length≤1099511627776) (hq:q<B256) (hb1:allN q l=true) (h1:1≤m) (hm:m≤3) (hmq:m<q) :
    Fn Tryz.prog 117 [grpV p q g h,.slice pz l.length c,.int .i64 (m:Int),.int .i64 (-1)] (RdF numC (.slice pz l.length c) l) (NewT m ((scL q l m).flatMap numC)):=by
  refine Fn.enter Tryz.func117 rfl rfl rfl ?_
  intro w hw
  repeat (first|refine Ta ?_|(refine Tm ?_;intro _)|refine Tc ?_|exact Tz)
  rename_i gG
  refine WC.loopI (σ:=Nat × Nat × Nat × List Value) (fun s=>s.1≤m∧(0<s.1→(((scL q l s.1).flatMap numC)++s.2.2.2).length=s.2.2.1*4∧s.2.2.1<9223372036854775808∧s.1≤s.2.2.1)) (fun s=>[(1,.slice pz l.length c),(2,.int .i64 (m:Int)),(3,.int .i64 (-1)),(4,pt gG),(9,.int .i64 0),(10,agV s.2.1 s.2.2.1 s.1 s.1),(11,.int .i64 ((s.1+1:Nat):Int))])
    (fun s=>naL s.2.1 ((scL q l s.1).flatMap numC) s.2.2.2 s.1++[⟨gG,26,grpC p q g h⟩]) (fun s=>m - s.1) (0,0,0,[]) (fun s hi=>?_) ⟨Nat.zero_le _,fun h=>absurd h (by decide)⟩
  obtain⟨i,g0,c0,r⟩:=s
  try dsimp only at hi ⊢
  obtain⟨hi,hr⟩:=hi
  by_cases hlt:i<m
  · have hadd2:IntKind.i64.wrap (((i+1:Nat):Int)+1)=((i+1+1:Nat):Int):=i64_in' (by omega) (by omega) (by omega)
    have hmul:IntKind.i64.wrap ((-1:Int)*((i+1:Nat):Int)) = -((i+1:Nat):Int):=by rw[show (-1:Int)*((i+1:Nat):Int) = -((i+1:Nat):Int) by omega];exact i64_in (by omega) (by omega)
    have h2:=r9_OfM p q g h (i+1) (by omega) (by omega) (by omega) hq
    have h3:=r10_AtY p q g h l pz c (q - (i+1)) hl hn hq (by omega) hb1 (by omega)
    rw[show polyN l (q - (i+1))%q=scN q l i from rfl] at h3
    have hst:(scL q l i).flatMap numC++numC (scN q l i)=(scL q l (i+1)).flatMap numC:=by unfold scL;rw[range_take_succ,List.flatMap_append];simp
    have hBl:((scL q l i).flatMap numC).length=i*4:=by rw[flat_length numC_len,scL_length]
    generalize hB2:(scL q l (i+1)).flatMap numC=B2 at *
    generalize scN q l i=V at *
    rcases i with _|i
    · try dsimp only[agV,naL,List.nil_append]
      have hst' : numC V=B2:=by rw[← hst];rfl
      repeat (first|refine Ta ?_|(refine Tm ?_;intro _)|refine Tc ?_|exact Tz)
      refine WC.dT rfl (by omega) ?_
      repeat (first|refine Ta ?_|(refine Tm ?_;intro _)|refine Tc ?_|exact Tz)
      refine WC.adrawF [10] 12 (k:=?_)
      repeat (first|refine Da ?_|refine DQ.acall (hc:=h2) (k:=?_)|refine DQ.does (fun s _=>does_mul rfl rfl hmul) Dp.const ?_|refine DQ.acallM (hc:=h3) (hR:=fun w hm=>hw.mod hm.mod) (k:=?_)|refine Df ?_)
      refine DQ.anil (k:=?_)
      intro sx _
      repeat (first|refine Ta ?_|(refine Tm ?_;intro _)|refine WO.does (does_neqN rfl rfl rfl) ?_|(refine WO.makes (makes_build (cs:=numC V) rfl (by decide) rfl) ?_;intro _)|refine Tc ?_|exact Tz)
      refine WO.appN (z:=numC 0) (m:=1) rfl rfl rfl (Rds.own (m:=4) Hs.here rfl) rfl (by decide) (by decide) (by decide) (by decide) (fun g1 c1 r1 a1 a2 a3=>?_)
      rw[hst'] at a1 ⊢
      repeat (first|refine Ta ?_|(refine Tm ?_;intro _)|refine WO.does (does_add rfl rfl hadd2) ?_|refine Tc ?_|exact Tz)
      subst hB2
      exact WX.metI (1,g1,c1,r1) (hs:=⟨⟨by show 0+1≤m;omega,fun _=>⟨a1,a2,a3⟩⟩,by show m - (0+1)<m - 0;omega⟩)
    · obtain⟨r1,r2,r3⟩:=hr (by omega)
      generalize (scL q l (i+1)).flatMap numC=B1 at *
      try dsimp only[agV,naL,List.cons_append,List.nil_append]
      repeat (first|refine Ta ?_|(refine Tm ?_;intro _)|refine Tc ?_|exact Tz)
      refine WC.dT rfl (by omega) ?_
      repeat (first|refine Ta ?_|(refine Tm ?_;intro _)|refine Tc ?_|exact Tz)
      refine WC.adrawF [10] 12 (k:=?_)
      repeat (first|refine Da ?_|refine DQ.acall (hc:=h2) (k:=?_)|refine DQ.does (fun s _=>does_mul rfl rfl hmul) Dp.const ?_|refine DQ.acallM (hc:=h3) (hR:=fun w hm=>hw.mod hm.mod) (k:=?_)|refine Df ?_)
      refine DQ.anil (k:=?_)
      intro sx _
      repeat (first|refine Ta ?_|(refine Tm ?_;intro _)|refine WO.does (does_neqN rfl rfl rfl) ?_|(refine WO.makes (makes_build (cs:=numC V) rfl (by decide) rfl) ?_;intro _)|refine Tc ?_|exact Tz)
      refine WO.appK (z:=numC 0) (m:=1) (l:=i+1+1) rfl rfl rfl (xs:=B1) (r:=r) (ys:=numC V) hBl r1 (by repeat (first|exact Pk.here|apply Pk.there)) (Rds.own (m:=4) Hs.here rfl) rfl rfl rfl (by omega) r2 (by omega) (by decide) (by decide) (fun g1 c1 r1 a1 a2 a3=>?_)
      rw[hst] at a1 ⊢
      repeat (first|refine Ta ?_|(refine Tm ?_;intro _)|refine WO.does (does_add rfl rfl hadd2) ?_|refine Tc ?_|exact Tz)
      subst hB2
      exact WX.metI (i+1+1,g1,c1,r1) (hs:=⟨⟨by show i+1+1≤m;omega,fun _=>⟨a1,a2,a3⟩⟩,by show m - (i+1+1)<m - (i+1);omega⟩)
  · have hi2:i=m:=by omega
    subst hi2
    generalize (scL q l i).flatMap numC=B at *
    obtain⟨i,rfl⟩ : ∃ k,i=k+1:=⟨i - 1,by omega⟩
    try dsimp only[agV,naL,List.cons_append,List.nil_append]
    repeat (first|refine Ta ?_|(refine Tm ?_;intro _)|refine Tc ?_|exact Tz)
    refine WC.dF rfl (by omega) ?_
    repeat (first|refine Ta ?_|(refine Tm ?_;intro _)|refine Tc ?_|exact Tz)
    exact WX.ret2 rfl (by exact rv_tmp rfl) (by exact rv_tmp rfl) [⟨g0,24,B++r⟩] (Lle.cons (by repeat (first|exact Pk.here|apply Pk.there)) rfl Lle.nil) ⟨g0,c0,r,rfl,rfl⟩
theorem r11_SecretsY (hl:∀ a∈l,a<B256) (hn:l.length≤1099511627776) (hq:q<B256) (hb1:allN q l=true) (h1:1≤m) (hm:m≤3) (hmq:m<q) :
    Fn Tryz.prog 34 [grpV p q g h,.slice pz l.length c,.int .i64 (m:Int)] (RdF numC (.slice pz l.length c) l) (NewT m ((scL q l m).flatMap numC)):=by
  have hV:=r11_valuesS p q g h l pz c m hl hn hq hb1 h1 hm hmq
  generalize (scL q l m).flatMap numC=B at *
  refine Fn.enter Tryz.func34 rfl rfl rfl ?_
  intro w hw
  repeat (first|refine Ta ?_|(refine Tm ?_;intro _)|refine WO.does (does_lssN rfl rfl (by omega)) ?_|refine WO.does (does_gtrN rfl rfl (by omega)) ?_|refine Tc ?_|exact Tz)
  refine WO.calls (fs:=[]) (cs:=[]) hV rfl rfl rfl (fun w1 hm=>hw.mod hm.mod) (fun u N ⟨g0,c0,r,e1,e2⟩=>?_)
  subst e1 e2
  try dsimp only[List.cons_append,List.nil_append]
  repeat (first|refine Ta ?_|(refine Tm ?_;intro _)|refine Tc ?_|exact Tz)
  exact WX.ret2 rfl (by exact rv_tmp rfl) (by exact rv_tmp rfl) [⟨g0,24,B++r⟩] (Lle.cons (by repeat (first|exact Pk.here|apply Pk.there)) rfl Lle.nil) ⟨g0,c0,r,rfl,rfl⟩
end
section
variable (p q g h:Nat) (f:Int) (pt:Option Addr) (c:Nat) (N:List (Nat × Nat)) (pz:Option Addr) (cz:Nat) (l:List Nat)
set_option maxHeartbeats 4000000 in
theorem r16_ShownN (sec:Int) (hp:p<B256) (hq:q<B256) (hg:g<B256) (hh:h<B256) (hN:NumsOk N) (hNl:N.length≤100) (hl:∀ a∈l,a<B256) (hn:l.length≤100)
    (hf1 : -9223372036854775808≤f) (hf2:f≤9223372036854775807) (hs1 : -9223372036854775808≤sec) (hs2:sec≤9223372036854775807) (hA:shownB p q g h f sec N l=false) :
    Fn Tryz.prog 11 [stV p q g h f sec (.slice pt N.length c),.slice pz l.length cz] (fun w=>RdF keyC (.slice pt N.length c) N w∧RdF numC (.slice pz l.length cz) l w) (Is nilE):=by
  have hS:=r15_Setting p q g h f sec pt c N hp hq hg hh hN (by omega) hf1 hf2 hs1 hs2
  unfold shownB at hA
  cases e1:setB p q g h f sec N with
  | false =>
    rw[e1] at hS
    refine Fn.enter Tryz.func11 rfl rfl rfl ?_
    intro w hw
    obtain⟨hwK,hwY⟩:=hw
    repeat (first|refine Ta ?_|(refine Tm ?_;intro _)|refine WO.acallR (hc:=hS) (hR:=fun w hm=>(hwK.mod hm.mod).rdK) (k:=?_)|refine Tc ?_|exact Tz)
    done
  | true =>
  rw[e1] at hS hA
  have hsp:=setB_spec e1
  have hP:=r15_Poly p q g h f sec (.slice pt N.length c) l pz cz hl (by omega) hq ⟨hsp.2.2.2.1,by omega,hsp.2.2.2.2.2.1⟩
  rw[Bool.true_and] at hA
  rw[hA] at hP
  refine Fn.enter Tryz.func11 rfl rfl rfl ?_
  intro w hw
  obtain⟨hwK,hwY⟩:=hw
  repeat (first|refine Ta ?_|(refine Tm ?_;intro _)|refine WO.acallR (hc:=hS) (hR:=fun w hm=>(hwK.mod hm.mod).rdK) (k:=?_)|refine WO.acallR (hc:=hP) (hR:=fun w hm=>hwY.mod hm.mod) (k:=?_)|refine Tc ?_|exact Tz)
  done
def NewG (n:Nat) (cs:List Value):Value→List Ent→Prop:=fun v N=>∃ g c r,v=.tuple #[.slice (some ⟨g,0,none⟩) n c,.int .i64 0]∧N=[⟨g,24,cs++r⟩]
set_option maxHeartbeats 4000000 in
theorem r16_ShownY (m:Nat) (hp:p<B256) (hq:q<B256) (hg:g<B256) (hh:h<B256) (hN:NumsOk N) (hNl:N.length≤100) (hl:∀ a∈l,a<B256) (hn:l.length≤100)
    (hf1 : -9223372036854775808≤f) (hf2:f≤9223372036854775807) (hs2:(m:Int)≤9223372036854775807) (hA:shownB p q g h f (m:Int) N l=true) :
    Fn Tryz.prog 11 [stV p q g h f (m:Int) (.slice pt N.length c),.slice pz l.length cz] (fun w=>RdF keyC (.slice pt N.length c) N w∧RdF numC (.slice pz l.length cz) l w)
      (NewG m ((osL p q h l m).flatMap numC)):=by
  have hS:=r15_Setting p q g h f (m:Int) pt c N hp hq hg hh hN (by omega) hf1 hf2 (by omega) hs2
  unfold shownB at hA
  rw[Bool.and_eq_true] at hA
  obtain⟨e1,he⟩:=hA
  rw[e1] at hS
  have hsp:=setB_spec e1
  have hP:=r15_Poly p q g h f (m:Int) (.slice pt N.length c) l pz cz hl (by omega) hq ⟨hsp.2.2.2.1,by omega,hsp.2.2.2.2.2.1⟩
  rw[he] at hP
  have hall:allN q l=true:=by rw[Bool.and_eq_true] at he;exact he.2
  have hmo:=setB_more e1
  have hm3:m≤3:=by omega
  have hm1:1≤m:=by omega
  have hSe:=r11_SecretsY p q g h l pz cz m hl (by omega) hq hall (by omega) hm3 (by omega)
  have hq0:0<q:=by omega
  clear e1 he
  refine Fn.enter Tryz.func11 rfl rfl rfl ?_
  intro w hw
  obtain⟨hwK,hwY⟩:=hw
  repeat (first|refine Ta ?_|(refine Tm ?_;intro _)|refine WO.acallR (hc:=hS) (hR:=fun w hm=>(hwK.mod hm.mod).rdK) (k:=?_)|refine WO.acallR (hc:=hP) (hR:=fun w hm=>hwY.mod hm.mod) (k:=?_)|refine Tc ?_|exact Tz)
  rename_i gS
  refine WO.calls (fs:=[]) (cs:=[]) hSe rfl rfl rfl (fun w1 hm=>hwY.mod hm.mod) (fun u N' ⟨gL,cL,rL,e1,e2⟩=>?_)
  subst e1 e2
  try dsimp only[List.cons_append,List.nil_append]
  repeat (first|refine Ta ?_|(refine Tm ?_;intro _)|refine Tc ?_|exact Tz)
  refine WC.loopI (σ:=Nat × Nat × Nat × List Value) (fun s=>s.1≤m∧(0<s.1→((osL p q h l s.1).flatMap numC++s.2.2.2).length=s.2.2.1*4∧s.2.2.1<9223372036854775808∧s.1≤s.2.2.1)) (fun s=>[(2,Sx.pt gS),(6,.slice (some ⟨gL,0,none⟩) m cL),(8,agV s.2.1 s.2.2.1 s.1 s.1),(9,.int .i64 (s.1:Int))])
    (fun s=>⟨gL,24,(scL q l m).flatMap numC++rL⟩::⟨gS,29,stC p q g h f (m:Int) (.slice pt N.length c)⟩::naL s.2.1 ((osL p q h l s.1).flatMap numC) s.2.2.2 s.1) (fun s=>m - s.1) (0,0,0,[]) (fun s hi=>?_) ⟨Nat.zero_le _,fun h=>absurd h (by decide)⟩
  obtain⟨i,g0,c0,r⟩:=s
  try dsimp only at hi ⊢
  obtain⟨hi,hr⟩:=hi
  by_cases hlt:i<m
  · have hadd2:IntKind.i64.wrap ((i:Int)+1)=((i+1:Nat):Int):=i64_in' (by omega) (by omega) (by omega)
    have hE:=r8_Exp p q g h h (scN q l i) hh (Nat.lt_trans (Nat.mod_lt _ hq0) hq) hp
    simp only[rE] at hE
    rw[show okV (gMay p h) (h ^ scN q l i%p)=osN p q h l i from rfl] at hE
    have hcu:cut ((scL q l m).flatMap numC++rL) (0+i*4) 4=numC (scN q l i):=by rw[Nat.zero_add];exact cut_flatL numC_len (scL_get hlt)
    have hst:(osL p q h l i).flatMap numC++numC (osN p q h l i)=(osL p q h l (i+1)).flatMap numC:=by unfold osL;rw[range_take_succ,List.flatMap_append];simp
    have hBl:((osL p q h l i).flatMap numC).length=i*4:=by rw[flat_length numC_len];simp[osL]
    generalize hB2:(osL p q h l (i+1)).flatMap numC=B2 at *
    generalize hB1:(osL p q h l i).flatMap numC=B1 at *
    generalize (scL q l m).flatMap numC++rL=SL at *
    generalize scN q l i=s1 at *
    generalize osN p q h l i=V at *
    rcases i with _|i
    · have e1:B1=[]:=List.length_eq_zero_iff.1 (by omega)
      subst e1
      rw[List.nil_append] at hst
      try dsimp only[agV,naL]
      repeat (first|refine Ta ?_|(refine Tm ?_;intro _)|refine Tc ?_|exact Tz)
      refine WC.dT rfl (by omega) ?_
      repeat (first|refine Ta ?_|(refine Tm ?_;intro _)|refine Tc ?_|exact Tz)
      refine WC.adrawF [12] 14 (k:=?_)
      repeat (first|refine Da ?_|refine DQ.does (fun s _=>does_indexSlice (o':=0+0*4) rfl rfl hlt rfl) Dp.const ?_|refine DQ.does (fun s _=>a_load (vs:=numC s1) (hc:=hcu)) Dp.const ?_|refine DQ.acall (hc:=hE) (k:=?_)|refine Df ?_)
      refine DQ.anil (k:=?_)
      intro sx _
      repeat (first|refine Ta ?_|(refine Tm ?_;intro _)|(refine WO.makes (makes_build (cs:=numC V) rfl (by decide) rfl) ?_;intro _)|refine Tc ?_|exact Tz)
      refine WO.appN (z:=numC 0) (ys:=numC V) (m:=1) rfl rfl rfl (Rds.own (m:=4) Hs.here rfl) rfl (by decide) (by decide) (by decide) (by decide) (fun g1 c1 r1 a1 a2 a3=>?_)
      rw[hst] at a1 ⊢
      repeat (first|refine Ta ?_|(refine Tm ?_;intro _)|refine WO.does (does_add rfl rfl hadd2) ?_|refine Tc ?_|exact Tz)
      subst hB2
      exact WX.metI (1,g1,c1,r1) (hs:=⟨⟨by show 0+1≤m;omega,fun _=>⟨a1,a2,a3⟩⟩,by show m - (0+1)<m - 0;omega⟩)
    · obtain⟨r1,r2,r3⟩:=hr (by omega)
      try dsimp only[agV,naL]
      repeat (first|refine Ta ?_|(refine Tm ?_;intro _)|refine Tc ?_|exact Tz)
      refine WC.dT rfl (by omega) ?_
      repeat (first|refine Ta ?_|(refine Tm ?_;intro _)|refine Tc ?_|exact Tz)
      refine WC.adrawF [12] 14 (k:=?_)
      repeat (first|refine Da ?_|refine DQ.does (fun s _=>does_indexSlice (o':=0+(i+1)*4) rfl rfl hlt rfl) Dp.const ?_|refine DQ.does (fun s _=>a_load (vs:=numC s1) (hc:=hcu)) Dp.const ?_|refine DQ.acall (hc:=hE) (k:=?_)|refine Df ?_)
      refine DQ.anil (k:=?_)
      intro sx _
      repeat (first|refine Ta ?_|(refine Tm ?_;intro _)|(refine WO.makes (makes_build (cs:=numC V) rfl (by decide) rfl) ?_;intro _)|refine Tc ?_|exact Tz)
      refine WO.appK (z:=numC 0) (m:=1) (l:=i+1+1) rfl rfl rfl (xs:=B1) (r:=r) (ys:=numC V) hBl r1 (by repeat (first|exact Pk.here|apply Pk.there)) (Rds.own (m:=4) Hs.here rfl) rfl rfl rfl (by omega) r2 (by omega) (by decide) (by decide) (fun g1 c1 r1 a1 a2 a3=>?_)
      rw[hst] at a1 ⊢
      repeat (first|refine Ta ?_|(refine Tm ?_;intro _)|refine WO.does (does_add rfl rfl hadd2) ?_|refine Tc ?_|exact Tz)
      subst hB2
      exact WX.metI (i+1+1,g1,c1,r1) (hs:=⟨⟨by show i+1+1≤m;omega,fun _=>⟨a1,a2,a3⟩⟩,by show m - (i+1+1)<m - (i+1);omega⟩)
  · have hi2:i=m:=by omega
    subst hi2
    generalize (osL p q h l i).flatMap numC=B at *
    obtain⟨i,rfl⟩ : ∃ k,i=k+1:=⟨i - 1,by omega⟩
    try dsimp only[agV,naL,List.cons_append,List.nil_append]
    repeat (first|refine Ta ?_|(refine Tm ?_;intro _)|refine Tc ?_|exact Tz)
    refine WC.dF rfl (by omega) ?_
    repeat (first|refine Ta ?_|(refine Tm ?_;intro _)|refine Tc ?_|exact Tz)
    exact WX.ret2 rfl (by exact rv_tmp rfl) (by exact rv_tmp rfl) [⟨g0,24,B++r⟩] (Lle.cons (by repeat (first|exact Pk.here|apply Pk.there)) rfl Lle.nil) ⟨g0,c0,r,rfl,rfl⟩
end
end Sx
end Go.Proofs.YtiiacjladnljhaaGreatDoor
namespace Go.Proofs.YtiiacjladnljhaaGreatDoor
open Go Go.RowKit Go.BigFrame
namespace Sx
attribute [local irreducible] wd DQ DQS WO WC WX
theorem dif_split {q i x:Nat} {l:List Nat} {k:Nat}:∀ {n:Nat},k≤n→∃ r,dif q l i x n=dif q l i x k++r
  | n,h=>by
    induction n with
    | zero=>exact⟨[],by rw[show k=0 by omega,List.append_nil]⟩
    | succ n ih =>
      by_cases e:k=n+1
      · exact⟨[],by rw[e,List.append_nil]⟩
      · obtain⟨r,hr⟩:=ih (by omega)
        refine⟨r++([n].flatMap fun j=>if j=i then [] else [(x+q - l.getD j 0)%q]),?_⟩
        rw[← List.append_assoc,← hr]
        unfold dif
        rw[List.range_succ,List.flatMap_append]
theorem copB_snoc {q d:Nat} {D:List Nat}:copB q (D++[d])=(copB q D && decide (Nat.gcd d q=1)):=by simp[copB]
theorem copB_app {q:Nat} {D r:List Nat} (h:copB q D=false):copB q (D++r)=false:=by
  unfold copB at *
  rw[List.all_append,h,Bool.false_and]
theorem iE_cop {q:Nat} {ds:List Nat}:iE (prM q 1 ds) q=if copB q ds=true then 0 else 7:=by
  unfold iE
  by_cases h:copB q ds=true
  · rw[if_pos h,if_pos ((prM_gcd q ds 1).2 ⟨Nat.gcd_one_left q,h⟩)]
  · rw[if_neg h,if_neg (fun e=>h ((prM_gcd q ds 1).1 e).2)]
theorem wtE_step {q:Nat} {l:List Nat} {i:Nat} (h:wtE q l i=0):wtE q l (i+1)=if copB q (dif q l i (l.getD i 0) l.length)=true then 0 else 7:=by
  rw[wtE_succ,h,iE_cop];rfl
theorem wtE_mono {q:Nat} {l:List Nat} {i:Nat} (h:wtE q l i≠0):∀ {n:Nat},i≤n→wtE q l n≠0:=by
  intro n hn
  induction n with
  | zero=>rw[show i=0 by omega] at h;exact h
  | succ n ih =>
    by_cases e:i=n+1
    · subst e;exact h
    · have:=ih (by omega)
      rw[wtE_succ]
      unfold kE
      rw[if_neg this];exact this
section
variable (p q g h:Nat)
theorem r10_less1 (a b:Nat) (h1:1<q) (ha:a<q) (hb:b<q) (hq:q<B256):Fn Tryz.prog 204 [grpV p q g h,numV a,numV b] Tr (Is (numV ((a+q - b)%q))):=by
  have hO:=r9_Sub p q g h a b (Nat.lt_trans ha hq) (Nat.lt_trans hb hq) hq
  rw[may_t h1 ha hb] at hO
  generalize (a+q - b)%q=R at *
  refine Fn.enter Tryz.func204 rfl rfl rfl ?_
  intro w hw
  repeat (first|refine Ta ?_|(refine Tm ?_;intro _)|refine WO.acall (hc:=hO) (k:=?_)|refine Tc ?_|exact Tz)
  done
theorem r10_times1 (a b:Nat) (h1:1<q) (ha:a<q) (hb:b<q) (hq:q<B256):Fn Tryz.prog 203 [grpV p q g h,numV a,numV b] Tr (Is (numV (a*b%q))):=by
  have hO:=r10_times p q g h a b (Nat.lt_trans ha hq) (Nat.lt_trans hb hq) hq
  rw[may_t h1 ha hb] at hO
  exact hO
theorem r9_Inv1 (a:Nat) (h1:1<q) (ha:a<q) (hq:q<B256):Fn Tryz.prog 241 [grpV p q g h,numV a] Tr (Is (.tuple #[numV (invN a q),.int .i64 (iE a q)])):=by
  have hO:=r9_Inv p q g h a (Nat.lt_trans ha hq) hq
  rw[show invE a q=iE a q by unfold invE iE;rw[may_t h1 ha ha];rfl,may_t h1 ha ha] at hO
  exact hO
set_option maxHeartbeats 1000000 in
theorem r10_under (l:List Nat) (pt:Option Addr) (c i li:Nat) (h1:1<q) (hl:∀ y∈l,y<q) (hn:l.length≤1000) (hli:l[i]?=some li) (hq:q<B256) :
    Fn Tryz.prog 202 [grpV p q g h,.slice pt l.length c,.int .i64 (i:Int)] (RdF numC (.slice pt l.length c) l) (Is (.tuple #[numV (if copB q (dif q l i li l.length)=true then prI q 1 (dif q l i li l.length) else 0),.bool (copB q (dif q l i li l.length))])):=by
  have hil:i<l.length:=by
    rcases Nat.lt_or_ge i l.length with h|h
    · exact h
    · rw[List.getElem?_eq_none h] at hli;cases hli
  have hlq:=hl li (List.mem_of_getElem? hli)
  have hOf:=r9_OfP p q g h 1 (by decide) hq
  rw[show ofZ q ((1:Nat):Int)=1 by rw[ofZ_nat q 1 (by omega),Nat.mod_eq_of_lt h1]] at hOf
  refine Fn.enter Tryz.func202 rfl rfl rfl ?_
  intro w hw
  obtain⟨b,o,rfl,_,hs⟩:=id hw |>.get hli
  have hci:cut (l.flatMap numC) (o+i*4 - o) 4=numC li:=by rw[Nat.add_sub_cancel_left];exact cut_flatP (f:=numC) (k:=4) (fun _=>rfl) hli
  repeat (first|refine Ta ?_|(refine Tm ?_;intro _)|refine WO.acall (hc:=hOf) (k:=?_)|refine Tc ?_|exact Tz)
  rename_i gG gR gW
  refine WC.loopI (σ:=Nat) (fun k=>k≤l.length∧copB q (dif q l i li k)=true) (fun k=>[(1,.slice (some ⟨b,o,none⟩) l.length c),(2,.int .i64 (i:Int)),(3,Sx.pt gG),(6,Sx.pt gR),(7,.bool false),(8,Sx.pt gW),(9,.int .i64 (k:Int))]) (fun k=>[⟨gW,24,numC (prI q 1 (dif q l i li k))⟩,⟨gR,24,numC 0⟩,⟨gG,26,grpC p q g h⟩]) (fun k=>l.length - k) 0 (fun k hk=>?_) ⟨Nat.zero_le _,rfl⟩
  try dsimp only at hk ⊢
  obtain⟨hk,hcp⟩:=hk
  by_cases hlt:k<l.length
  · have hadd2:IntKind.i64.wrap ((k:Int)+1)=((k+1:Nat):Int):=i64_in' (by omega) (by omega) (by omega)
    by_cases hki:k=i
    · have hd:=dif_same (q:=q) (l:=l) (x:=li) hki
      rw[← hd]
      rw[← hd] at hcp
      repeat (first|refine Ta ?_|(refine Tm ?_;intro _)|refine Tc ?_|exact Tz)
      refine WC.dT rfl (by omega) ?_
      repeat (first|refine Ta ?_|(refine Tm ?_;intro _)|refine WO.does (does_neqN rfl rfl (by omega)) ?_|refine WO.does (does_add rfl rfl hadd2) ?_|refine Tc ?_|exact Tz)
      exact WX.metI (k+1) (hl:=Lle.same) (hs:=⟨⟨by show k+1≤l.length;omega,hcp⟩,by show l.length - (k+1)<l.length - k;omega⟩)
    · obtain⟨y,hy⟩ : ∃ y,l[k]?=some y:=⟨_,List.getElem?_eq_getElem hlt⟩
      have hck:cut (l.flatMap numC) (o+k*4 - o) 4=numC y:=by rw[Nat.add_sub_cancel_left];exact cut_flatP (f:=numC) (k:=4) (fun _=>rfl) hy
      have hd:=dif_next (q:=q) (x:=li) hki hy
      have hvl:(li+q - y)%q<q:=Nat.mod_lt _ (by omega)
      have hLs:=r10_less1 p q g h li y h1 hlq (hl y (List.mem_of_getElem? hy)) hq
      have hIv:=r9_Inv1 p q g h ((li+q - y)%q) h1 hvl hq
      have hTm:=r10_times1 p q g h (prI q 1 (dif q l i li k)) (invN ((li+q - y)%q) q) h1 (prI_lt (by omega) h1 _) (invN_ltq h1 hvl) hq
      rw[← prI_snoc,← hd] at hTm
      by_cases hg:Nat.gcd ((li+q - y)%q) q=1
      · have hc2:copB q (dif q l i li (k+1))=true:=by rw[hd,copB_snoc,hcp,decide_eq_true hg];rfl
        rw[show iE ((li+q - y)%q) q=0 by unfold iE;rw[if_pos hg]] at hIv
        clear hd hg
        generalize (li+q - y)%q=v at *
        repeat (first|refine Ta ?_|(refine Tm ?_;intro _)|refine Tc ?_|exact Tz)
        refine WC.dT rfl (by omega) ?_
        repeat (first|refine Ta ?_|(refine Tm ?_;intro _)|refine WO.does (does_neqY rfl rfl (by omega)) ?_|refine Tc ?_|exact Tz)
        refine WC.adrawF [14] 16 (k:=?_)
        iterate 4 (refine DQ.auto (k:=?_))
        refine DQ.does (fun s _=>does_indexSlice (o':=o+i*4) rfl rfl hil rfl) Dp.const ?_
        refine DQ.does (fun s _=>a_loadF (vs:=numC li) (hs:=hs) (hle:=Nat.le_add_right _ _) (hc:=hci)) Dp.const ?_
        iterate 2 (refine DQ.auto (k:=?_))
        refine DQ.does (fun s _=>does_indexSlice (o':=o+k*4) rfl rfl hlt rfl) Dp.const ?_
        refine DQ.does (fun s _=>a_loadF (vs:=numC y) (hs:=hs) (hle:=Nat.le_add_right _ _) (hc:=hck)) Dp.const ?_
        repeat (first|refine Da ?_|refine DQ.acall (hc:=hLs) (k:=?_)|refine DQ.acall (hc:=hIv) (k:=?_)|refine Df ?_)
        refine DQ.anil (k:=?_)
        intro sx _
        repeat (first|refine Ta ?_|(refine Tm ?_;intro _)|refine WO.acall (hc:=hTm) (k:=?_)|refine WO.does (does_add rfl rfl hadd2) ?_|refine Tc ?_|exact Tz)
        exact WX.metI (k+1) (hs:=⟨⟨by show k+1≤l.length;omega,hc2⟩,by show l.length - (k+1)<l.length - k;omega⟩)
      · have hc2:copB q (dif q l i li l.length)=false:=by
          obtain⟨r,hr⟩:=dif_split (q:=q) (i:=i) (x:=li) (l:=l) (k:=k+1) (n:=l.length) (by omega)
          rw[hr,hd]
          exact copB_app (by rw[copB_snoc,decide_eq_false hg,Bool.and_false])
        rw[show iE ((li+q - y)%q) q=7 by unfold iE;rw[if_neg hg]] at hIv
        rw[hc2,if_neg (by decide)]
        clear hd hg hTm
        generalize (li+q - y)%q=v at *
        repeat (first|refine Ta ?_|(refine Tm ?_;intro _)|refine Tc ?_|exact Tz)
        refine WC.dT rfl (by omega) ?_
        repeat (first|refine Ta ?_|(refine Tm ?_;intro _)|refine WO.does (does_neqY rfl rfl (by omega)) ?_|refine Tc ?_|exact Tz)
        refine WC.adrawF [14] 16 (k:=?_)
        iterate 4 (refine DQ.auto (k:=?_))
        refine DQ.does (fun s _=>does_indexSlice (o':=o+i*4) rfl rfl hil rfl) Dp.const ?_
        refine DQ.does (fun s _=>a_loadF (vs:=numC li) (hs:=hs) (hle:=Nat.le_add_right _ _) (hc:=hci)) Dp.const ?_
        iterate 2 (refine DQ.auto (k:=?_))
        refine DQ.does (fun s _=>does_indexSlice (o':=o+k*4) rfl rfl hlt rfl) Dp.const ?_
        refine DQ.does (fun s _=>a_loadF (vs:=numC y) (hs:=hs) (hle:=Nat.le_add_right _ _) (hc:=hck)) Dp.const ?_
        repeat (first|refine Da ?_|refine DQ.acall (hc:=hLs) (k:=?_)|refine DQ.acall (hc:=hIv) (k:=?_)|refine Df ?_)
        refine DQ.anil (k:=?_)
        intro sx _
        repeat (first|refine Ta ?_|(refine Tm ?_;intro _)|refine Tc ?_|exact Tz)
        done
  · have hi2:k=l.length:=by omega
    subst hi2
    rw[hcp,if_pos rfl]
    repeat (first|refine Ta ?_|(refine Tm ?_;intro _)|refine Tc ?_|exact Tz)
    refine WC.dF rfl (by omega) ?_
    repeat (first|refine Ta ?_|(refine Tm ?_;intro _)|refine Tc ?_|exact Tz)
    done
end
end Sx
end Go.Proofs.YtiiacjladnljhaaGreatDoor
