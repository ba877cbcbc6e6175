/- Part 27 of the proof: DlC, ReA, RfY, PrC, PrD, RfZ, RgA, SyC, AbA -/
import Derived.Test.YtiiacjladnljhaaGreatDoorM26
import Derived.Test.YtiiacjladnljhaaGreatDoorM25
import Derived.Test.YtiiacjladnljhaaGreatDoorM21
import Derived.Test.YtiiacjladnljhaaGreatDoorM17
set_option linter.unusedSimpArgs false
set_option linter.unusedVariables false
namespace Go.Proofs.YtiiacjladnljhaaGreatDoor
open Go Go.RowKit Go.BigFrame
namespace Sx
attribute [local irreducible] DQ DQS WO WC WX
def setB (p q g h:Nat) (f sec:Int) (N:List (Nat × Nat)):Bool :=
  decide (0≤f) && decide (f≤2) && decide (1≤sec) && decide (sec≤3) && decide (sec≤f+1) && decide (3*f+1≤(N.length:Int)) && decide ((N.length:Int)≤7) && decide ((N.length:Int)+sec<(q:Int)) && kB p q g && kB p q h && N.all (fun k=>kB p q k.1 && kB p q k.2)
def RdK (v:Value) (N:List (Nat × Nat)) (w:World):Prop :=
  ∃ pt c,v=.slice pt N.length c∧((pt=none∧N=[])∨∃ b o,pt=some ⟨b,o,none⟩∧Seg w b o (N.flatMap keyC))
def NumsOk (N:List (Nat × Nat)):Prop:=∀ k∈N,k.1<B256∧k.2<B256
set_option maxHeartbeats 4000000 in
theorem c_Setting (p q g h:Nat) (f sec:Int) (pt:Option Addr) (c:Nat) (N:List (Nat × Nat)) (hp:p<B256) (hq:q<B256) (hg:g<B256) (hh:h<B256) (hN:NumsOk N) (hNl:N.length≤1099511627776)
    (hf1 : -9223372036854775808≤f) (hf2:f≤9223372036854775807) (hs1 : -9223372036854775808≤sec) (hs2:sec≤9223372036854775807) :
    Fn Tryz.prog 21 [stV p q g h f sec (.slice pt N.length c)] (RdK (.slice pt N.length c) N) (Is (.bool (setB p q g h f sec N))):=by
  by_cases t1:f<0
  · rw[show setB p q g h f sec N=false by simp[setB];omega]
    refine Fn.enter Tryz.func21 rfl rfl rfl ?_
    intro w hw
    repeat (first|refine Td ?_|(refine Tm ?_;intro _)|refine Tc ?_|exact Tz)
  by_cases t2:2<f
  · rw[show setB p q g h f sec N=false by simp[setB];omega]
    refine Fn.enter Tryz.func21 rfl rfl rfl ?_
    intro w hw
    repeat (first|refine Td ?_|(refine Tm ?_;intro _)|refine Tc ?_|exact Tz)
  by_cases t3:sec<1
  · rw[show setB p q g h f sec N=false by simp[setB];omega]
    refine Fn.enter Tryz.func21 rfl rfl rfl ?_
    intro w hw
    repeat (first|refine Td ?_|(refine Tm ?_;intro _)|refine Tc ?_|exact Tz)
  obtain⟨M,hM⟩ : ∃ M:Int,(if f+1<3 then f+1 else 3)=M:=⟨_,rfl⟩
  have hM2:M≤3∧M≤f+1∧(M=3∨M=f+1):=by split at hM<;>omega
  by_cases t4:M<sec
  · rw[show setB p q g h f sec N=false by simp[setB];omega]
    refine Fn.enter Tryz.func21 rfl rfl rfl ?_
    intro w hw
    repeat (first|refine Td ?_|(refine Tm ?_;intro _)|refine WO.does (does_min rfl rfl hM) ?_|refine Tc ?_|exact Tz)
  by_cases t5:(N.length:Int)<3*f+1
  · rw[show setB p q g h f sec N=false by simp[setB];omega]
    refine Fn.enter Tryz.func21 rfl rfl rfl ?_
    intro w hw
    repeat (first|refine Td ?_|(refine Tm ?_;intro _)|refine WO.does (does_min rfl rfl hM) ?_|refine Tc ?_|exact Tz)
  by_cases t6:7<(N.length:Int)
  · rw[show setB p q g h f sec N=false by simp[setB];omega]
    refine Fn.enter Tryz.func21 rfl rfl rfl ?_
    intro w hw
    repeat (first|refine Td ?_|(refine Tm ?_;intro _)|refine WO.does (does_min rfl rfl hM) ?_|refine Tc ?_|exact Tz)
  obtain⟨m,hm⟩ : ∃ m:Nat,(m:Int)=(N.length:Int)+sec:=⟨((N.length:Int)+sec).toNat,by omega⟩
  have hadd:IntKind.i64.wrap ((N.length:Int)+sec)=(m:Int):=i64_in' (by omega) (by omega) (by omega)
  have hA:=c_above q m hq (by omega)
  have hSB:setB p q g h f sec N=(decide (m<q) && (kB p q g && kB p q h) && N.all (fun k=>kB p q k.1 && kB p q k.2)):=by
    have e1:decide ((N.length:Int)+sec<(q:Int))=decide (m<q):=by rw[← hm];simp
    unfold setB
    rw[e1,decide_eq_true (by omega:0≤f),decide_eq_true (by omega:f≤2),decide_eq_true (by omega:1≤sec),decide_eq_true (by omega:sec≤3),decide_eq_true (by omega:sec≤f+1),decide_eq_true (by omega:3*f+1≤(N.length:Int)),decide_eq_true (by omega:(N.length:Int)≤7)]
    simp only[Bool.true_and,Bool.and_assoc]
  rw[hSB]
  clear hSB
  cases t7:decide (m<q) with
  | false =>
    rw[t7] at hA
    clear t7
    refine Fn.enter Tryz.func21 rfl rfl rfl ?_
    intro w hw
    repeat (first|refine Td ?_|(refine Tm ?_;intro _)|refine WO.does (does_min rfl rfl hM) ?_|refine WO.does (does_add rfl rfl hadd) ?_|refine WO.acall (hc:=hA) (k:=?_)|refine Tc ?_|exact Tz)
  | true =>
  rw[t7] at hA
  clear t7
  have hK:=fun b=>c_keys p q g h g h b hg hh hp hq
  cases t8:(kB p q g && kB p q h) with
  | false =>
    rw[t8] at hK
    clear t8
    refine Fn.enter Tryz.func21 rfl rfl rfl ?_
    intro w hw
    repeat (first|refine Td ?_|(refine Tm ?_;intro _)|refine WO.does (does_min rfl rfl hM) ?_|refine WO.does (does_add rfl rfl hadd) ?_|refine WO.acall (hc:=hA) (k:=?_)|(refine WO.makes (makes_build (cs:=numC g++numC h) rfl (by decide) rfl) ?_;intro _)|refine WO.acallR (hc:=hK _) (hR:=fun w' hm=>Hs.seg (by repeat (first|exact Hs.here|apply Hs.there)) hm) (k:=?_)|refine Tc ?_|exact Tz)
  | true =>
  rw[t8] at hK
  clear t8
  have hC:=fun gS b o=>c_ContainsKey [Sx.pt gS] (fun k=>!(kB p q k.1 && kB p q k.2)) N b o c (fun w=>Seg w gS 0 (stC p q g h f sec (.slice (some ⟨b,o,none⟩) N.length c))) Stable.seg hNl (f:=94) (fun k hk=>c_Setting1 p q g h f sec _ k gS (hN k hk).1 (hN k hk).2 hp hq)
  have hall:N.any (fun k=>!(kB p q k.1 && kB p q k.2)) = !N.all (fun k=>kB p q k.1 && kB p q k.2):=List.not_all_eq_any_not .. |>.symm
  rw[hall] at hC
  clear hall
  generalize (N.all fun k=>kB p q k.1 && kB p q k.2)=r at *
  refine Fn.enter Tryz.func21 rfl rfl rfl ?_
  intro w hw
  obtain⟨pt',c',e,hpc⟩:=hw
  cases e
  rcases hpc with ⟨_,h0⟩|⟨b,o,rfl,hs⟩
  · rw[h0] at t5;simp at t5;omega
  repeat (first|refine Td ?_|(refine Tm ?_;intro _)|refine WO.does (does_min rfl rfl hM) ?_|refine WO.does (does_add rfl rfl hadd) ?_|refine WO.acall (hc:=hA) (k:=?_)|(refine WO.makes (makes_build (cs:=numC g++numC h) rfl (by decide) rfl) ?_;intro _)|refine WO.acallR (hc:=hK _) (hR:=fun w' hm=>Hs.seg (by repeat (first|exact Hs.here|apply Hs.there)) hm) (k:=?_)|refine WO.acallR (hc:=hC _ b o) (hR:=fun w' hm=>⟨hs.mod hm.mod (by simp),Hs.seg (by repeat (first|exact Hs.here|apply Hs.there)) hm⟩) (k:=?_)|refine Tc ?_|exact Tz)
  rw[Bool.not_not]
  repeat (first|refine Td ?_|(refine Tm ?_;intro _)|refine Tc ?_|exact Tz)
end Sx
end Go.Proofs.YtiiacjladnljhaaGreatDoor
namespace Go.Proofs.YtiiacjladnljhaaGreatDoor
open Go Go.RowKit Go.BigFrame
namespace Sx
theorem wd0_lt {n:Nat} (h:n<18446744073709551616):wd 0 n=n:=Nat.mod_eq_of_lt h
attribute [local irreducible] wd DQ DQS WO WC WX
theorem cut_key1 {N:List (Nat × Nat)} {o i:Nat} {k:Nat × Nat} (h:N[i]?=some k):cut (N.flatMap keyC) (o+i*8 - o) 4=numC k.1:=by
  have:=cut_flat keyC_len h
  rw[Nat.add_sub_cancel_left]
  unfold cut at *
  rw[show (4:Nat)=min 4 8 by decide,← List.take_take,this]
  rfl
theorem cut_key2 {N:List (Nat × Nat)} {o i:Nat} {k:Nat × Nat} (h:N[i]?=some k):cut (N.flatMap keyC) (o+i*8+4 - o) 4=numC k.2:=by
  have:=cut_flat keyC_len h
  rw[show o+i*8+4 - o=i*8+4 by omega]
  unfold cut at *
  rw[← List.drop_drop]
  have h2:(List.drop 4 (List.drop (i*8) (N.flatMap keyC))).take 4=(List.take 8 (List.drop (i*8) (N.flatMap keyC))).drop 4:=by
    rw[List.drop_take]
  rw[h2,this]
  rfl
theorem all_false {α:Type} {P:α→Bool} {xs:List α} {i:Nat} {x:α} (hx:xs[i]?=some x) (h:P x=false):xs.all P=false:=by
  rw[List.all_eq_false];exact⟨x,List.mem_of_getElem? hx,by simp[h]⟩
theorem all_true {α:Type} {P:α→Bool} {xs:List α} (h:∀ j,j<xs.length→∀ x,xs[j]?=some x→P x=true):xs.all P=true:=by
  rw[List.all_eq_true]
  intro x hx
  obtain⟨j,hj⟩:=List.mem_iff_getElem?.1 hx
  exact h j (by rcases Nat.lt_or_ge j xs.length with h1|h1;exact h1;rw[List.getElem?_eq_none h1] at hj;cases hj) x hj
section
variable (p q g h:Nat)
theorem r15_key (a:Nat) (ha:a<B256) (hp:p<B256) (hq:q<B256):Fn Tryz.prog 109 [grpV p q g h,numV a] Tr (Is (.bool (kB p q a))):=by
  have hI:=r8_In p q g h a ha hp hq
  unfold kB
  cases e:gIn p q a with
  | false =>
    rw[e] at hI
    rw[Bool.false_and]
    refine Fn.enter Tryz.func109 rfl rfl rfl ?_
    intro w hw
    repeat (first|refine Td ?_|(refine Tm ?_;intro _)|refine WO.acall (hc:=hI) (k:=?_)|refine Tc ?_|exact Tz)
  | true =>
    rw[e] at hI
    rw[Bool.true_and]
    by_cases h1:a=1
    · rw[decide_eq_false (by omega:¬ a≠1)]
      refine Fn.enter Tryz.func109 rfl rfl rfl ?_
      intro w hw
      repeat (first|refine Td ?_|(refine Tm ?_;intro _)|refine WO.acall (hc:=hI) (k:=?_)|refine WO.does (does_buildA (cs:=numC 1) rfl rfl (by kernel_rfl)) ?_|refine WO.does a_neqNum ?_|refine Tc ?_|exact Tz)
    · rw[decide_eq_true (by omega:a≠1)]
      refine Fn.enter Tryz.func109 rfl rfl rfl ?_
      intro w hw
      repeat (first|refine Td ?_|(refine Tm ?_;intro _)|refine WO.acall (hc:=hI) (k:=?_)|refine WO.does (does_buildA (cs:=numC 1) rfl rfl (by kernel_rfl)) ?_|refine WO.does a_neqNum ?_|refine Tc ?_|exact Tz)
set_option maxHeartbeats 4000000 in
theorem r15_Setting (f sec:Int) (pt:Option Addr) (c:Nat) (N:List (Nat × Nat)) (hp:p<B256) (hq:q<B256) (hg:g<B256) (hh:h<B256) (hN:NumsOk N) (hNl:N.length≤1099511627776)
    (hf1 : -9223372036854775808≤f) (hf2:f≤9223372036854775807) (hs1 : -9223372036854775808≤sec) (hs2:sec≤9223372036854775807) :
    Fn Tryz.prog 28 [stV p q g h f sec (.slice pt N.length c)] (RdK (.slice pt N.length c) N) (Is (.bool (setB p q g h f sec N))):=by
  by_cases t1:f<0
  · rw[show setB p q g h f sec N=false by simp[setB];omega]
    refine Fn.enter Tryz.func28 rfl rfl rfl ?_
    intro w hw
    repeat (first|refine Td ?_|(refine Tm ?_;intro _)|refine Tc ?_|exact Tz)
  by_cases t2:2<f
  · rw[show setB p q g h f sec N=false by simp[setB];omega]
    refine Fn.enter Tryz.func28 rfl rfl rfl ?_
    intro w hw
    repeat (first|refine Td ?_|(refine Tm ?_;intro _)|refine Tc ?_|exact Tz)
  by_cases t3:sec<1
  · rw[show setB p q g h f sec N=false by simp[setB];omega]
    refine Fn.enter Tryz.func28 rfl rfl rfl ?_
    intro w hw
    repeat (first|refine Td ?_|(refine Tm ?_;intro _)|refine Tc ?_|exact Tz)
  by_cases t4:3<sec
  · rw[show setB p q g h f sec N=false by simp[setB];omega]
    refine Fn.enter Tryz.func28 rfl rfl rfl ?_
    intro w hw
    repeat (first|refine Td ?_|(refine Tm ?_;intro _)|refine Tc ?_|exact Tz)
  by_cases t4' : f+1<sec
  · rw[show setB p q g h f sec N=false by simp[setB];omega]
    refine Fn.enter Tryz.func28 rfl rfl rfl ?_
    intro w hw
    repeat (first|refine Td ?_|(refine Tm ?_;intro _)|refine Tc ?_|exact Tz)
  by_cases t5:(N.length:Int)<3*f+1
  · rw[show setB p q g h f sec N=false by simp[setB];omega]
    refine Fn.enter Tryz.func28 rfl rfl rfl ?_
    intro w hw
    repeat (first|refine Td ?_|(refine Tm ?_;intro _)|refine Tc ?_|exact Tz)
  by_cases t6:7<(N.length:Int)
  · rw[show setB p q g h f sec N=false by simp[setB];omega]
    refine Fn.enter Tryz.func28 rfl rfl rfl ?_
    intro w hw
    repeat (first|refine Td ?_|(refine Tm ?_;intro _)|refine Tc ?_|exact Tz)
  obtain⟨m,hm⟩ : ∃ m:Nat,(m:Int)=(N.length:Int)+sec:=⟨((N.length:Int)+sec).toNat,by omega⟩
  have hadd:IntKind.i64.wrap ((N.length:Int)+sec)=(m:Int):=i64_in' (by omega) (by omega) (by omega)
  have hcv:IntKind.u64.wrap (m:Int)=(m:Int):=u64_in (by omega) (by omega)
  have hSB:setB p q g h f sec N=(decide (m<q) && (kB p q g && kB p q h) && N.all (fun k=>kB p q k.1 && kB p q k.2)):=by
    have e1:decide ((N.length:Int)+sec<(q:Int))=decide (m<q):=by rw[← hm];simp
    unfold setB
    rw[e1,decide_eq_true (by omega:0≤f),decide_eq_true (by omega:f≤2),decide_eq_true (by omega:1≤sec),decide_eq_true (by omega:sec≤3),decide_eq_true (by omega:sec≤f+1),decide_eq_true (by omega:3*f+1≤(N.length:Int)),decide_eq_true (by omega:(N.length:Int)≤7)]
    simp only[Bool.true_and,Bool.and_assoc]
  rw[hSB]
  clear hSB
  have hwp:=word_parts hq
  have hm32:m<18446744073709551616:=by omega
  by_cases t7:m<q
  · rw[decide_eq_true t7,Bool.true_and]
    have hK1:=r15_key p q g h g hg hp hq
    have hK2:=r15_key p q g h h hh hp hq
    have hKs:=fun a (ha:a<B256)=>r15_key p q g h a ha hp hq
    refine Fn.enter Tryz.func28 rfl rfl rfl ?_
    intro w hw
    obtain⟨pt',c',e,hpc⟩:=hw
    cases e
    rcases hpc with ⟨_,h0⟩|⟨b,o,rfl,hs⟩
    · rw[h0] at t5;simp at t5;omega
    refine WC.seq ?_
    repeat (first|refine Tf ?_|(refine Tm ?_;intro _)|refine Tc ?_|exact Tz)
    refine WX.seq ?_
    refine WC.seq ?_
    repeat (first|refine Tf ?_|(refine Tm ?_;intro _)|refine Tc ?_|exact Tz)
    refine WX.seq ?_
    refine WC.seq ?_
    refine WC.seq ?_
    repeat (first|refine Tf ?_|(refine Tm ?_;intro _)|refine Tc ?_|exact Tz)
    refine WX.seq ?_
    repeat (first|refine Tf ?_|(refine Tm ?_;intro _)|refine Tc ?_|exact Tz)
    refine WX.seq ?_
    refine WC.seq ?_
    repeat (first|refine Tf ?_|(refine Tm ?_;intro _)|refine Tc ?_|exact Tz)
    rename_i g1 g4
    refine WX.seq ?_
    refine WC.joinI (σ:=Unit) (fun _=>True) (fun _=>[(1,pt g1),(2,.bool false),(3,.int .i64 (N.length:Int))]) (fun _=>[⟨g1,29,stC p q g h f sec (.slice (some ⟨b,o,none⟩) N.length c)⟩]) ?_ (fun _ hTr=>?_)
    · clear hK1 hK2 hKs
      by_cases w1:wd 1 q=0
      · have d1:((wd 1 q:Nat):Int)=0:=by omega
        by_cases w2:wd 2 q=0
        · have d2:((wd 2 q:Nat):Int)=0:=by omega
          by_cases w3:wd 3 q=0
          · have d3:((wd 3 q:Nat):Int)=0:=by omega
            have w0:wd 0 q=q:=wd0_lt (hwp.2 ⟨w1,w2,w3⟩)
            have d0:¬ ((wd 0 q:Nat):Int)≤(m:Int):=by omega
            clear w1 w2 w3 w0 hwp
            repeat (first|refine Td ?_|(refine Tm ?_;intro _)|refine WO.does (does_add rfl rfl hadd) ?_|refine WO.does (does_conv rfl hcv) ?_|refine Tc ?_|exact Tz)
            exact WX.metI () (hs:=trivial)
          · have d3:¬ ((wd 3 q:Nat):Int)=0:=by omega
            repeat (first|refine Td ?_|(refine Tm ?_;intro _)|refine Tc ?_|exact Tz)
            exact WX.metI () (hs:=trivial)
        · have d2:¬ ((wd 2 q:Nat):Int)=0:=by omega
          repeat (first|refine Td ?_|(refine Tm ?_;intro _)|refine Tc ?_|exact Tz)
          exact WX.metI () (hs:=trivial)
      · have d1:¬ ((wd 1 q:Nat):Int)=0:=by omega
        repeat (first|refine Td ?_|(refine Tm ?_;intro _)|refine Tc ?_|exact Tz)
        exact WX.metI () (hs:=trivial)
    clear hTr hadd hcv hm hwp hm32 t7 m
    cases e1:kB p q g with
    | false =>
      rw[e1] at hK1
      rw[Bool.false_and,Bool.false_and]
      repeat (first|refine Ta ?_|(refine Tm ?_;intro _)|refine WO.acall (hc:=hK1) (k:=?_)|refine Tc ?_|exact Tz)
    | true =>
    rw[e1] at hK1
    cases e2:kB p q h with
    | false =>
      rw[e2] at hK2
      rw[Bool.and_false,Bool.false_and]
      repeat (first|refine Ta ?_|(refine Tm ?_;intro _)|refine WO.acall (hc:=hK1) (k:=?_)|refine WO.acall (hc:=hK2) (k:=?_)|refine Tc ?_|exact Tz)
    | true =>
    rw[e2] at hK2
    rw[Bool.true_and,Bool.true_and]
    repeat (first|refine Ta ?_|(refine Tm ?_;intro _)|refine WO.acall (hc:=hK1) (k:=?_)|refine WO.acall (hc:=hK2) (k:=?_)|refine Tc ?_|exact Tz)
    refine WC.loopI (σ:=Nat) (fun i=>i≤N.length∧∀ j,j<i→∀ x,N[j]?=some x→(kB p q x.1 && kB p q x.2)=true) (fun i=>[(1,pt g1),(2,.bool false),(3,.int .i64 (N.length:Int)),(5,.int .i64 (i:Int))]) (fun _=>[⟨g1,29,stC p q g h f sec (.slice (some ⟨b,o,none⟩) N.length c)⟩]) (fun i=>N.length - i) 0 (fun i hi=>?_) ⟨Nat.zero_le _,fun j hj=>by omega⟩
    try dsimp only at hi ⊢
    obtain⟨hi,h0⟩:=hi
    by_cases hlt:i<N.length
    · obtain⟨k,hx⟩ : ∃ k,N[i]?=some k:=⟨_,List.getElem?_eq_getElem hlt⟩
      have hkb:=hN k (List.mem_of_getElem? hx)
      have hk1:=hKs k.1 hkb.1
      have hk2:=hKs k.2 hkb.2
      clear hK1 hK2 hKs
      cases q1:kB p q k.1 with
      | false =>
        rw[all_false (P:=fun k=>kB p q k.1 && kB p q k.2) hx (by simp[q1])]
        rw[q1] at hk1
        repeat (first|refine Ta ?_|(refine Tm ?_;intro _)|refine Tc ?_|exact Tz)
        refine WC.dT rfl (by omega) ?_
        repeat (first|refine Ta ?_|(refine Tm ?_;intro _)|refine Tc ?_|exact Tz)
        refine WC.adraw 22 (k:=?_)
        iterate 22 (first|refine Da ?_|refine DQ.does (fun s _=>does_indexSlice (o':=o+i*8) rfl rfl hlt rfl) Dp.const ?_|refine DQ.does (fun s _=>a_loadF (vs:=numC k.1) (hs:=hs) (hle:=by omega) (hc:=cut_key1 hx)) Dp.const ?_|refine DQ.does (fun s _=>a_loadF (vs:=numC k.2) (hs:=hs) (hle:=by omega) (hc:=cut_key2 hx)) Dp.const ?_|refine DQ.acall (hc:=hk1) (k:=?_)|refine DQ.acall (hc:=hk2) (k:=?_)|refine Dc ?_)
        refine DQ.anil (k:=?_)
        intro sx _
        repeat (first|refine Ta ?_|(refine Tm ?_;intro _)|refine Tc ?_|exact Tz)
      | true =>
        rw[q1] at hk1
        cases q2:kB p q k.2 with
        | false =>
          rw[all_false (P:=fun k=>kB p q k.1 && kB p q k.2) hx (by simp[q2])]
          rw[q2] at hk2
          repeat (first|refine Ta ?_|(refine Tm ?_;intro _)|refine Tc ?_|exact Tz)
          refine WC.dT rfl (by omega) ?_
          repeat (first|refine Ta ?_|(refine Tm ?_;intro _)|refine Tc ?_|exact Tz)
          refine WC.adraw 22 (k:=?_)
          iterate 22 (first|refine Da ?_|refine DQ.does (fun s _=>does_indexSlice (o':=o+i*8) rfl rfl hlt rfl) Dp.const ?_|refine DQ.does (fun s _=>a_loadF (vs:=numC k.1) (hs:=hs) (hle:=by omega) (hc:=cut_key1 hx)) Dp.const ?_|refine DQ.does (fun s _=>a_loadF (vs:=numC k.2) (hs:=hs) (hle:=by omega) (hc:=cut_key2 hx)) Dp.const ?_|refine DQ.acall (hc:=hk1) (k:=?_)|refine DQ.acall (hc:=hk2) (k:=?_)|refine Dc ?_)
          refine DQ.anil (k:=?_)
          intro sx _
          repeat (first|refine Ta ?_|(refine Tm ?_;intro _)|refine Tc ?_|exact Tz)
        | true =>
          rw[q2] at hk2
          repeat (first|refine Ta ?_|(refine Tm ?_;intro _)|refine Tc ?_|exact Tz)
          refine WC.dT rfl (by omega) ?_
          repeat (first|refine Ta ?_|(refine Tm ?_;intro _)|refine Tc ?_|exact Tz)
          refine WC.adraw 22 (k:=?_)
          iterate 22 (first|refine Da ?_|refine DQ.does (fun s _=>does_indexSlice (o':=o+i*8) rfl rfl hlt rfl) Dp.const ?_|refine DQ.does (fun s _=>a_loadF (vs:=numC k.1) (hs:=hs) (hle:=by omega) (hc:=cut_key1 hx)) Dp.const ?_|refine DQ.does (fun s _=>a_loadF (vs:=numC k.2) (hs:=hs) (hle:=by omega) (hc:=cut_key2 hx)) Dp.const ?_|refine DQ.acall (hc:=hk1) (k:=?_)|refine DQ.acall (hc:=hk2) (k:=?_)|refine Dc ?_)
          refine DQ.anil (k:=?_)
          intro sx _
          repeat (first|refine Ta ?_|(refine Tm ?_;intro _)|refine Tc ?_|exact Tz)
          refine WX.metI (i+1) (hs:=⟨⟨by show i+1≤N.length;omega,fun j hj y hy=>by
            rcases Nat.lt_or_ge j i with h|h
            · exact h0 j h y hy
            · have:j=i:=by omega
              subst this
              rw[hx] at hy;cases hy;rw[q1,q2];rfl⟩,by show N.length - (i+1)<N.length - i;omega⟩)
    · have hi2:i=N.length:=by omega
      rw[all_true (xs:=N) (P:=fun k=>kB p q k.1 && kB p q k.2) (by rw[← hi2];exact h0)]
      repeat (first|refine Ta ?_|(refine Tm ?_;intro _)|refine Tc ?_|exact Tz)
      refine WC.dF rfl (by omega) ?_
      repeat (first|refine Ta ?_|(refine Tm ?_;intro _)|refine Tc ?_|exact Tz)
  · rw[decide_eq_false t7,Bool.false_and,Bool.false_and]
    obtain⟨w1,w2,w3⟩:=hwp.1 (by omega)
    have w0:wd 0 q=q:=wd0_lt (by omega)
    have d1:((wd 1 q:Nat):Int)=0:=by omega
    have d2:((wd 2 q:Nat):Int)=0:=by omega
    have d3:((wd 3 q:Nat):Int)=0:=by omega
    have d0:((wd 0 q:Nat):Int)≤(m:Int):=by omega
    clear w1 w2 w3 w0 hwp
    refine Fn.enter Tryz.func28 rfl rfl rfl ?_
    intro w hw
    repeat (first|refine Td ?_|(refine Tm ?_;intro _)|refine WO.does (does_add rfl rfl hadd) ?_|refine WO.does (does_conv rfl hcv) ?_|refine Tc ?_|exact Tz)
end
end Sx
end Go.Proofs.YtiiacjladnljhaaGreatDoor
namespace Go.Proofs.YtiiacjladnljhaaGreatDoor
open Go Go.RowKit Go.BigFrame
namespace Sx
attribute [local irreducible] wd DQ DQS WO WC WX
end Sx
end Go.Proofs.YtiiacjladnljhaaGreatDoor
namespace Go.Proofs.YtiiacjladnljhaaGreatDoor
open Go Go.RowKit Go.BigFrame
namespace Sx
attribute [local irreducible] wd DQ DQS WO WC WX
theorem gIn_may {p q a:Nat} (h:gIn p q a=true):gMay p a=true:=by
  unfold gIn at h;simp at h;exact h.1
end Sx
end Go.Proofs.YtiiacjladnljhaaGreatDoor
namespace Go.Proofs.YtiiacjladnljhaaGreatDoor
open Go Go.RowKit Go.BigFrame
namespace Sx
attribute [local irreducible] wd DQ DQS WO WC WX
end Sx
end Go.Proofs.YtiiacjladnljhaaGreatDoor
namespace Go.Proofs.YtiiacjladnljhaaGreatDoor
open Go Go.RowKit Go.BigFrame
namespace Sx
attribute [local irreducible] wd DQ DQS WO WC WX
end Sx
end Go.Proofs.YtiiacjladnljhaaGreatDoor
namespace Go.Proofs.YtiiacjladnljhaaGreatDoor
open Go Go.RowKit Go.BigFrame
namespace Sx
attribute [local irreducible] wd DQ DQS WO WC WX
end Sx
end Go.Proofs.YtiiacjladnljhaaGreatDoor
namespace Go.Proofs.YtiiacjladnljhaaGreatDoor
open Go Go.RowKit Go.BigFrame
namespace Sx
section
variable {P:Program}
def LPost (w:World) (gs:List Nat) (post:Value→List Ent→Prop):Ending→World→Prop:=fun e w'=>∃ v N,e=.returned v∧Me w gs N w'∧post v N
def FnL (P:Program) (f:FuncId) (args:List Value) (L:List Ent) (R:World→Prop) (post:Value→List Ent→Prop):Prop :=
  ∀ w,(∀ e∈L,e.ok w)→(L.map Ent.g).Nodup→R w→Calls P f args.toArray w (LPost w (L.map Ent.g) post)
theorem FnL.enter {n:Nat} {f:FuncId} {fn:Func} {c:Code} {args:List Value} {L:List Ent} {R:World→Prop} {post:Value→List Ent→Prop} (hf:P.funcs[f]?=some fn) (hb:fn.body=some c) (hn:fn.ntmps=n) (hle:Nat.ble args.length n=true)
    (k:∀ w,R w→WC P w (L.map Ent.g) n c (bodyPost P fn (LPost w (L.map Ent.g) post)) (kin args 0) L):FnL P f args L R post:=by
  intro w hok hnd hw
  refine calls_of_wp hf hb ?_
  have hle' : args.length≤n:=by simpa using hle
  refine k w hw _ w rfl (by simp[hn];omega) (fun t v hv=>?_) ⟨.refl _ _,hok,fun e he=>.inr (List.mem_map.2 ⟨e,he,rfl⟩),hnd⟩
  obtain⟨j,h1,h2⟩:=kin_spec args 0 t v hv
  subst h1
  have hj:j<args.length:=by
    rcases Nat.lt_or_ge j args.length with h|h
    · exact h
    · rw[List.getElem?_eq_none h] at h2;cases h2
  simp only[Nat.zero_add]
  rw[Array.getElem?_append_left (by simpa using hj)]
  simpa using h2
theorem FnM.toL {f:FuncId} {args:List Value} {g t:Nat} {cs cs' : List Value} {R:World→Prop} {v:Value} (h:FnM P f args g t cs cs' R v):FnL P f args [⟨g,t,cs⟩] R (fun u N=>u=v∧N=[⟨g,t,cs'⟩]):=fun w h1 _ hw =>
  (h w (h1 _ (by simp)) hw).mono fun _ _ ⟨e,hm,hok⟩=>⟨v,[⟨g,t,cs'⟩],e,⟨hm,by simpa using hok,by simp,by simp⟩,rfl,rfl⟩
inductive Pks:List Ent→List Ent→List Ent→Prop
  | nil {L:List Ent}:Pks L [] L
  | cons {L L1 M R:List Ent} {g t:Nat} {cs:List Value}:Pk L g t cs L1→Pks L1 M R→Pks L (⟨g,t,cs⟩::M) R
theorem Pks.perm {L M R:List Ent} (h:Pks L M R):L.Perm (M++R):=by
  induction h with
  | nil=>exact .refl _
  | cons h1 _ ih=>exact h1.perm.trans (ih.cons _)
theorem Me.callL {w0 w w' : World} {gs:List Nat} {M R N:List Ent} (h:Me w0 gs (M++R) w) (hm:Me w (M.map Ent.g) N w'):Me w0 gs (N++R) w':=by
  have hnd:=h.nodup
  rw[List.map_append,List.nodup_append] at hnd
  have hR:∀ e∈R,e.ok w':=fun e he=>(h.ok e (List.mem_append_right _ he)).keep (hm.mod.block e.g (h.ok e (List.mem_append_right _ he)).lt (fun hg=>hnd.2.2 _ hg _ (List.mem_map.2 ⟨e,he,rfl⟩) rfl))
  refine⟨⟨hm.mod.os.trans h.mod.os,hm.mod.tape.trans h.mod.tape,hm.mod.output.trans h.mod.output,Nat.le_trans h.mod.size hm.mod.size,fun k hk hn=>?_⟩,fun e he=>?_,fun e he=>?_,?_⟩
  · refine (hm.mod.block k (Nat.lt_of_lt_of_le hk h.mod.size) (fun hg=>?_)).trans (h.mod.block k hk hn)
    obtain⟨e,he,rfl⟩:=List.mem_map.1 hg
    rcases h.mine e (List.mem_append_left _ he) with h1|h1
    · omega
    · exact hn h1
  · rcases List.mem_append.1 he with he|he
    · exact hm.ok e he
    · exact hR e he
  · rcases List.mem_append.1 he with he|he
    · rcases hm.mine e he with h1|h1
      · exact .inl (Nat.le_trans h.mod.size h1)
      · obtain⟨e',he',hg⟩:=List.mem_map.1 h1
        rw[← hg]
        exact h.mine e' (List.mem_append_left _ he')
    · exact h.mine e (List.mem_append_right _ he)
  · rw[List.map_append,List.nodup_append]
    refine⟨hm.nodup,hnd.2.1,fun x hx y hy e=>?_⟩
    obtain⟨e1,he1,rfl⟩:=List.mem_map.1 hx
    obtain⟨e2,he2,rfl⟩:=List.mem_map.1 hy
    have h2:=(h.ok e2 (List.mem_append_right _ he2)).lt
    rcases hm.mine e1 he1 with h1|h1
    · omega
    · exact hnd.2.2 _ h1 _ (List.mem_map.2 ⟨e2,he2,rfl⟩) e
end
section
variable {P:Program} {w0:World} {gs:List Nat} {n:Nat} {ops:List Oper} {Q:Exit→Act→World→Prop} {K:List (Nat × Value)} {L:List Ent} {rest:List Oper}
variable {d:Nat} {op:Op} {ty:TypeId} {pos:String} {after:Array Edge} {gd:Option (Nat × Bool)}
theorem WO.callsLV {f:FuncId} [Cal P f] {x:Operand} {xs:Array Operand} {ats:Array TypeId} {ar fs cs ar' : List Value} {M R:List Ent} {Rq:World→Prop} {post:Value→List Ent→Prop} (hc:FnL P f ar' M Rq post) (hx:ev K x=some (.func (.func f) fs.toArray cs.toArray)) (ha:evs K xs.toList=some ar) (hh:fs++ar++cs=ar')
    (hp:Pks L M R) (hR:∀ w,Mr w0 gs L w→Rq w) (k:∀ v N,post v N→WO P w0 gs n ops Q ((d,v)::K) (N++R) rest) (hd:Nat.blt d n=true:=by rfl) (hw:wk ops K gd=some true:=by rfl) :
    WO P w0 gs n ops Q K L (⟨some d,.call { callee:=.value x,args:=xs,argTypes:=ats },ty,pos,after,gd⟩::rest):=by
  intro a w hdf hsz hk hme
  refine wpList_step fun F hF=>?_
  rw[if_pos (wk_spec (o:=⟨some d,.call { callee:=.value x,args:=xs,argTypes:=ats },ty,pos,after,gd⟩) hk hw)]
  have hd' : d<n:=by simpa [Nat.blt_eq] using hd
  have hme':=hme.perm hp.perm
  have hnd:=hme'.nodup
  rw[List.map_append,List.nodup_append] at hnd
  unfold Oper.wp
  subst hh
  rw[run_call hk hx ha,Oper.upon_enter]
  refine (hc w (fun e he=>hme'.ok e (List.mem_append_left _ he)) hnd.1 (hR w hme.mr)).mono ?_
  rintro e w' ⟨v,N,rfl,hm,hq⟩
  exact hF _ _ (k v N hq _ _ (by rw[put_defers];exact hdf) (by rw[put_size];exact hsz) (hk.put (by omega) v) (hme'.callL hm))
theorem WO.callsL {f:FuncId} [Cal P f] {xs:Array Operand} {ats:Array TypeId} {ar:List Value} {M R:List Ent} {Rq:World→Prop} {post:Value→List Ent→Prop} (hc:FnL P f ar M Rq post)
    (hR:∀ w,Mr w0 gs L w→Rq w) (k:∀ v N,post v N→WO P w0 gs n ops Q ((d,v)::K) (N++R) rest) (ha:evs K xs.toList=some ar:=by rfl) (hp:Pks L M R:=by (repeat (first|exact Pks.nil|refine Pks.cons (by repeat (first|exact Pk.here|apply Pk.there)) ?_))) (hd:Nat.blt d n=true:=by rfl) (hw:wk ops K gd=some true:=by rfl) :
    WO P w0 gs n ops Q K L (⟨some d,.call { callee:=.value (.func f),args:=xs,argTypes:=ats },ty,pos,after,gd⟩::rest) :=
  WO.callsLV (fs:=[]) (cs:=[]) hc rfl ha (by simp) hp hR k hd hw
theorem WX.retP_of {fn:Func} {v:Value} {N:List Ent} {post:Value→List Ent→Prop} (hr:∀ a w,Kn K a→Me w0 gs L w→(results fn a.tmps).run P w=.ok v w) (hN:Lle N L) (hp:post v N):WX w0 gs n .ret (bodyPost P fn (LPost w0 gs post)) K L:=fun a w h1 _ h3 h4 =>
  ⟨h1,v,hr a w h3 h4,v,N,rfl,hN.me h4,hp⟩
theorem WX.retP_ofN {fn:Func} {v:Value} {N:List Ent} {post:Value→List Ent→Prop} (hr:∀ a w,Kn K a→Me w0 gs L w→(results fn a.tmps).run P w=.ok v w) (hN:Lle N L) (hp:post v N):WX w0 gs n .normal (bodyPost P fn (LPost w0 gs post)) K L:=fun a w h1 _ h3 h4 =>
  ⟨h1,v,hr a w h3 h4,v,N,rfl,hN.me h4,hp⟩
theorem resP0 {fn:Func} (hfn:fn.results=#[]) (a:Act) (w:World) (_:Kn K a) (_:Me w0 gs L w):(results fn a.tmps).run P w=.ok (.tuple #[]) w:=by
  rw[results_eq,hfn];simp
theorem resP1 {fn:Func} {r:ResultVar} {v:Value} (hfn:fn.results=#[r]) (hr:Rv P w0 gs K L r v) (a:Act) (w:World) (hk:Kn K a) (hme:Me w0 gs L w):(results fn a.tmps).run P w=.ok v w:=by
  have h:=mapM1 (hr a w hk hme)
  rw[results_eq,hfn,Sem.run_bind,h];rfl
end
section
variable {P:Program} {w0:World} {gs:List Nat} {K:List (Nat × Value)} {L:List Ent}
theorem does_eqlY {x y:Operand} {t yt ty:TypeId} {k:IntKind} {m n:Int} (hx:ev K x=some (.int k m)) (hy:ev K y=some (.int k n)) (h:m=n):Does P w0 gs K L (.binOp .eql t x y yt) ty (.bool true):=by
  have:=does_eql (P:=P) (w0:=w0) (gs:=gs) (L:=L) (t:=t) (yt:=yt) (ty:=ty) hx hy
  rw[decide_eq_true h] at this
  exact this
theorem does_eqlN {x y:Operand} {t yt ty:TypeId} {k:IntKind} {m n:Int} (hx:ev K x=some (.int k m)) (hy:ev K y=some (.int k n)) (h:m≠n):Does P w0 gs K L (.binOp .eql t x y yt) ty (.bool false):=by
  have:=does_eql (P:=P) (w0:=w0) (gs:=gs) (L:=L) (t:=t) (yt:=yt) (ty:=ty) hx hy
  rw[decide_eq_false h] at this
  exact this
theorem does_neqY {x y:Operand} {t yt ty:TypeId} {k:IntKind} {m n:Int} (hx:ev K x=some (.int k m)) (hy:ev K y=some (.int k n)) (h:m≠n):Does P w0 gs K L (.binOp .neq t x y yt) ty (.bool true):=by
  have:=does_neq (P:=P) (w0:=w0) (gs:=gs) (L:=L) (t:=t) (yt:=yt) (ty:=ty) hx hy
  rw[decide_eq_true h] at this
  exact this
theorem does_neqN {x y:Operand} {t yt ty:TypeId} {k:IntKind} {m n:Int} (hx:ev K x=some (.int k m)) (hy:ev K y=some (.int k n)) (h:m=n):Does P w0 gs K L (.binOp .neq t x y yt) ty (.bool false):=by
  have:=does_neq (P:=P) (w0:=w0) (gs:=gs) (L:=L) (t:=t) (yt:=yt) (ty:=ty) hx hy
  rw[decide_eq_false (fun hn=>hn h)] at this
  exact this
theorem does_gtrY {x y:Operand} {t yt ty:TypeId} {k:IntKind} {m n:Int} (hx:ev K x=some (.int k m)) (hy:ev K y=some (.int k n)) (h:n<m):Does P w0 gs K L (.binOp .gtr t x y yt) ty (.bool true):=by
  have:=does_gtr (P:=P) (w0:=w0) (gs:=gs) (L:=L) (t:=t) (yt:=yt) (ty:=ty) hx hy
  rw[decide_eq_true h] at this
  exact this
theorem does_gtrN {x y:Operand} {t yt ty:TypeId} {k:IntKind} {m n:Int} (hx:ev K x=some (.int k m)) (hy:ev K y=some (.int k n)) (h:¬ n<m):Does P w0 gs K L (.binOp .gtr t x y yt) ty (.bool false):=by
  have:=does_gtr (P:=P) (w0:=w0) (gs:=gs) (L:=L) (t:=t) (yt:=yt) (ty:=ty) hx hy
  rw[decide_eq_false h] at this
  exact this
theorem does_lssY {x y:Operand} {t yt ty:TypeId} {k:IntKind} {m n:Int} (hx:ev K x=some (.int k m)) (hy:ev K y=some (.int k n)) (h:m<n):Does P w0 gs K L (.binOp .lss t x y yt) ty (.bool true):=by
  have:=does_lss (P:=P) (w0:=w0) (gs:=gs) (L:=L) (t:=t) (yt:=yt) (ty:=ty) hx hy
  rw[decide_eq_true h] at this
  exact this
theorem does_lssN {x y:Operand} {t yt ty:TypeId} {k:IntKind} {m n:Int} (hx:ev K x=some (.int k m)) (hy:ev K y=some (.int k n)) (h:¬ m<n):Does P w0 gs K L (.binOp .lss t x y yt) ty (.bool false):=by
  have:=does_lss (P:=P) (w0:=w0) (gs:=gs) (L:=L) (t:=t) (yt:=yt) (ty:=ty) hx hy
  rw[decide_eq_false h] at this
  exact this
theorem does_geqY {x y:Operand} {t yt ty:TypeId} {k:IntKind} {m n:Int} (hx:ev K x=some (.int k m)) (hy:ev K y=some (.int k n)) (h:n≤m):Does P w0 gs K L (.binOp .geq t x y yt) ty (.bool true):=by
  have:=does_geq (P:=P) (w0:=w0) (gs:=gs) (L:=L) (t:=t) (yt:=yt) (ty:=ty) hx hy
  rw[decide_eq_true h] at this
  exact this
theorem does_geqN {x y:Operand} {t yt ty:TypeId} {k:IntKind} {m n:Int} (hx:ev K x=some (.int k m)) (hy:ev K y=some (.int k n)) (h:¬ n≤m):Does P w0 gs K L (.binOp .geq t x y yt) ty (.bool false):=by
  have:=does_geq (P:=P) (w0:=w0) (gs:=gs) (L:=L) (t:=t) (yt:=yt) (ty:=ty) hx hy
  rw[decide_eq_false h] at this
  exact this
theorem does_leqY {x y:Operand} {t yt ty:TypeId} {k:IntKind} {m n:Int} (hx:ev K x=some (.int k m)) (hy:ev K y=some (.int k n)) (h:m≤n):Does P w0 gs K L (.binOp .leq t x y yt) ty (.bool true):=by
  have:=does_leq (P:=P) (w0:=w0) (gs:=gs) (L:=L) (t:=t) (yt:=yt) (ty:=ty) hx hy
  rw[decide_eq_true h] at this
  exact this
end
end Sx
end Go.Proofs.YtiiacjladnljhaaGreatDoor
namespace Go.Proofs.YtiiacjladnljhaaGreatDoor
open Go Go.RowKit Go.BigFrame
namespace Sx
attribute [local irreducible] wd DQ DQS WO WC WX
def nodeB (n:Nat) (N:List (Nat × Nat)):Bool:=decide (1≤n) && decide (n≤N.length)
theorem nodeB_spec {n:Nat} {N:List (Nat × Nat)} (h:nodeB n N=true):1≤n∧n≤N.length:=by
  unfold nodeB at h;simp at h;exact h
section
variable (p q g h:Nat) (f sec:Int) (pt:Option Addr) (c:Nat) (N:List (Nat × Nat))
theorem r15_Node (n:Nat) (hn:n<256) (hNl:N.length≤1099511627776):Fn Tryz.prog 29 [stV p q g h f sec (.slice pt N.length c),.int .u8 (n:Int)] Tr (Is (.bool (nodeB n N))):=by
  have hcv:IntKind.i64.wrap (n:Int)=(n:Int):=i64_in (by omega) (by omega)
  unfold nodeB
  by_cases h1:1≤n
  · rw[decide_eq_true h1,Bool.true_and]
    have d1:decide ((1:Int)≤(n:Int))=true:=decide_eq_true (by omega)
    have d2:decide ((n:Int)≤(N.length:Int))=decide (n≤N.length):=by simp
    refine Fn.enter Tryz.func29 rfl rfl rfl ?_
    intro w hw
    repeat (first|refine Ta ?_|(refine Tm ?_;intro _)|refine Tc ?_|exact Tz)
    rw[d1]
    repeat (first|refine Ta ?_|(refine Tm ?_;intro _)|refine WO.does (does_conv rfl hcv) ?_|refine Tc ?_|exact Tz)
    rw[d2]
    repeat (first|refine Ta ?_|(refine Tm ?_;intro _)|refine Tc ?_|exact Tz)
  · rw[decide_eq_false h1,Bool.false_and]
    have d1:decide ((1:Int)≤(n:Int))=false:=decide_eq_false (by omega)
    refine Fn.enter Tryz.func29 rfl rfl rfl ?_
    intro w hw
    repeat (first|refine Ta ?_|(refine Tm ?_;intro _)|refine Tc ?_|exact Tz)
    rw[d1]
    repeat (first|refine Ta ?_|(refine Tm ?_;intro _)|refine Tc ?_|exact Tz)
end
theorem setB_may {p q g h:Nat} {f sec:Int} {N:List (Nat × Nat)} (hs:setB p q g h f sec N=true):gMay p h=true:=by
  unfold setB at hs
  simp only[Bool.and_eq_true] at hs
  have hk:=hs.1.2
  unfold kB at hk
  rw[Bool.and_eq_true] at hk
  exact gIn_may hk.1
abbrev dlC (ep d:Nat) (v y pr:Value) (c s:Nat):List Value:=[.int .u64 (ep:Int),.int .u8 (d:Int),v,y,pr,.int .u64 ((wd 0 c:Nat):Int),.int .u64 ((wd 1 c:Nat):Int),.int .u64 ((wd 2 c:Nat):Int),.int .u64 ((wd 3 c:Nat):Int),.int .u64 ((wd 0 s:Nat):Int),.int .u64 ((wd 1 s:Nat):Int),.int .u64 ((wd 2 s:Nat):Int),.int .u64 ((wd 3 s:Nat):Int)]
end Sx
end Go.Proofs.YtiiacjladnljhaaGreatDoor
