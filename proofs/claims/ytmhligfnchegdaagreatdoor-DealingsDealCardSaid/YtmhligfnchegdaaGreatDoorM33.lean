/- Part 33 of the proof: LfA, DlB, DlC, ReA -/
import Derived.Test.YtmhligfnchegdaaGreatDoorM32
set_option linter.unusedSimpArgs false
set_option linter.unusedVariables false
namespace Go.Proofs.YtmhligfnchegdaaGreatDoor
open Go Go.RowKit Go.BigFrame
namespace Sx
attribute [local irreducible] wd DQ DQS WO WC WX
theorem cut_flatL {α:Type} {f:α→List Value} {k:Nat} (hk:∀ x,(f x).length=k) {xs:List α} {r:List Value} {i:Nat} {x:α} (h:xs[i]?=some x):cut (xs.flatMap f++r) (i*k) k=f x:=by
  have hi:i<xs.length:=by
    rcases Nat.lt_or_ge i xs.length with h1|h1
    · exact h1
    · rw[List.getElem?_eq_none h1] at h;cases h
  have h1:=cut_flat hk h
  have hl:=flat_length hk xs
  have h2:i*k+k≤xs.length*k:=by rw[← Nat.succ_mul];exact Nat.mul_le_mul_right _ hi
  unfold cut at *
  rw[List.drop_append,List.take_append,List.length_drop]
  rw[h1,show k - ((xs.flatMap f).length - i*k)=0 by omega]
  simp
theorem cut_flatE {α:Type} {f:α→List Value} {k:Nat} (hk:∀ x,(f x).length=k) {xs:List α} {r:List Value} (hr:r.length=k):cut (xs.flatMap f++r) (xs.length*k) k=r:=by
  rw[← flat_length hk xs,← hr]
  exact cut_flatS (k:=k)
set_option maxHeartbeats 2000000
theorem t_LeftNums (xs:List (Nat)) (pt:Option Addr) (c bt:Nat) (hn:xs.length≤100) :
    Fn Tryz.prog 13 [.slice (some ⟨bt,0,none⟩) xs.length (xs.length+1),.slice pt xs.length c] (fun w=>Seg w bt 0 (xs.flatMap numC++(numC 77))∧RdF numC (.slice pt xs.length c) xs w) (Is (.bool true)):=by
  have hadd:IntKind.i64.wrap ((xs.length:Int)+1)=((xs.length+1:Nat):Int):=i64_in' (by omega) (by omega) (by omega)
  have d0:decide ((xs.length:Int)≠(xs.length:Int))=false:=decide_eq_false (fun h=>h rfl)
  have d1:decide (((xs.length+1:Nat):Int)≤(xs.length:Int))=false:=decide_eq_false (by omega)
  refine Fn.enter Tryz.func13 rfl rfl rfl ?_
  intro w hw
  obtain⟨hwT,pt',c',e,hpc⟩:=hw
  cases e
  repeat (first|refine Ta ?_|(refine Tm ?_;intro _)|refine Tc ?_|exact Tz)
  rw[d0]
  repeat (first|refine Ta ?_|(refine Tm ?_;intro _)|refine WO.does (does_cap rfl) ?_|refine Tc ?_|exact Tz)
  rw[d1]
  repeat (first|refine Ta ?_|(refine Tm ?_;intro _)|refine Tc ?_|exact Tz)
  refine WC.loopI (σ:=Nat) (fun i=>i≤xs.length) (fun i=>[(0,.slice (some ⟨bt,0,none⟩) xs.length (xs.length+1)),(1,.slice pt xs.length c),(5,.int .i64 (i:Int))]) (fun i=>[]) (fun i=>xs.length - i) 0 (fun i hi=>?_) (Nat.zero_le _)
  try dsimp only at hi ⊢
  by_cases hlt:i<xs.length
  · obtain⟨x,hx⟩ : ∃ x,xs[i]?=some x:=⟨_,List.getElem?_eq_getElem hlt⟩
    rcases hpc with ⟨_,h0⟩|⟨b,o,rfl,hs⟩
    · rw[h0] at hlt;simp at hlt
    have hadd2:IntKind.i64.wrap ((i:Int)+1)=((i+1:Nat):Int):=i64_in' (by omega) (by omega) (by omega)
    have hcx:cut (xs.flatMap numC) (o+i*4 - o) 4=numC x:=by rw[Nat.add_sub_cancel_left];exact cut_flat numC_len hx
    have hct:cut (xs.flatMap numC++(numC 77)) (0+i*4 - 0) 4=numC x:=by rw[Nat.zero_add,Nat.sub_zero];exact cut_flatL numC_len hx
    repeat (first|refine Ta ?_|(refine Tm ?_;intro _)|refine Tc ?_|exact Tz)
    refine WC.dT rfl (by omega) ?_
    repeat (first|refine Ta ?_|(refine Tm ?_;intro _)|refine Tc ?_|exact Tz)
    refine WC.adraw 9 (k:=?_)
    iterate 9 (first|refine Da ?_|refine DQ.does (fun s _=>does_indexSlice (o':=o+i*4) rfl rfl hlt rfl) Dp.const ?_|refine DQ.does (fun s _=>does_indexSlice (o':=0+i*4) rfl rfl hlt rfl) Dp.const ?_|refine DQ.does (fun s _=>a_loadF (vs:=numC x) (hs:=hs) (hle:=Nat.le_add_right _ _) (hc:=hcx)) Dp.const ?_|refine DQ.does (fun s _=>a_loadF (vs:=numC x) (hs:=hwT) (hle:=Nat.zero_le _) (hc:=hct)) Dp.const ?_|refine DQ.does (fun s _=>a_neqSame rfl rfl (fun w=>same_num x w) (fun w=>run_eqGuard_num _ _ _ _ _ w)) Dp.const ?_|refine Dc ?_)
    refine DQ.anil (k:=?_)
    intro sx _
    repeat (first|refine Ta ?_|(refine Tm ?_;intro _)|refine WO.does (does_add rfl rfl hadd2) ?_|refine Tc ?_|exact Tz)
    exact WX.metI (i+1) (hs:=⟨by show i+1≤xs.length;omega,by show xs.length - (i+1)<xs.length - i;omega⟩)
  · have hi2:i=xs.length:=by omega
    subst hi2
    have hct:cut (xs.flatMap numC++(numC 77)) (0+xs.length*4 - 0) 4=numC 77:=by rw[Nat.zero_add,Nat.sub_zero];exact cut_flatE numC_len rfl
    have h77:(77:Nat)<B256:=B256_of (by decide)
    repeat (first|refine Ta ?_|(refine Tm ?_;intro _)|refine Tc ?_|exact Tz)
    refine WC.dF rfl (by omega) ?_
    repeat (first|refine Ta ?_|(refine Tm ?_;intro _)|refine WO.does (does_add rfl rfl hadd) ?_|refine WO.does (does_sliceTo (h:=xs.length+1) rfl rfl (Nat.le_refl _)) ?_|refine WO.does (does_indexSlice (o':=0+xs.length*4) rfl rfl (Nat.lt_succ_self _) rfl) ?_|refine WO.does (a_loadF (vs:=numC 77) (hs:=hwT) (hle:=Nat.zero_le _) (hc:=hct)) ?_|refine WO.does (does_buildA (cs:=numC 77) rfl rfl (by kernel_rfl)) ?_|refine WO.does (a_eqNum (ha:=h77) (hb:=h77)) ?_|refine Tc ?_|exact Tz)
theorem t_LeftKeys (xs:List (Nat × Nat)) (pt:Option Addr) (c bt:Nat) (hn:xs.length≤100) :
    Fn Tryz.prog 50 [.slice (some ⟨bt,0,none⟩) xs.length (xs.length+1),.slice pt xs.length c] (fun w=>Seg w bt 0 (xs.flatMap keyC++(twoC 77 0))∧RdF keyC (.slice pt xs.length c) xs w) (Is (.bool true)):=by
  have hadd:IntKind.i64.wrap ((xs.length:Int)+1)=((xs.length+1:Nat):Int):=i64_in' (by omega) (by omega) (by omega)
  have d0:decide ((xs.length:Int)≠(xs.length:Int))=false:=decide_eq_false (fun h=>h rfl)
  have d1:decide (((xs.length+1:Nat):Int)≤(xs.length:Int))=false:=decide_eq_false (by omega)
  refine Fn.enter Tryz.func50 rfl rfl rfl ?_
  intro w hw
  obtain⟨hwT,pt',c',e,hpc⟩:=hw
  cases e
  repeat (first|refine Ta ?_|(refine Tm ?_;intro _)|refine Tc ?_|exact Tz)
  rw[d0]
  repeat (first|refine Ta ?_|(refine Tm ?_;intro _)|refine WO.does (does_cap rfl) ?_|refine Tc ?_|exact Tz)
  rw[d1]
  repeat (first|refine Ta ?_|(refine Tm ?_;intro _)|refine Tc ?_|exact Tz)
  refine WC.loopI (σ:=Nat) (fun i=>i≤xs.length) (fun i=>[(0,.slice (some ⟨bt,0,none⟩) xs.length (xs.length+1)),(1,.slice pt xs.length c),(5,.int .i64 (i:Int))]) (fun i=>[]) (fun i=>xs.length - i) 0 (fun i hi=>?_) (Nat.zero_le _)
  try dsimp only at hi ⊢
  by_cases hlt:i<xs.length
  · obtain⟨x,hx⟩ : ∃ x,xs[i]?=some x:=⟨_,List.getElem?_eq_getElem hlt⟩
    rcases hpc with ⟨_,h0⟩|⟨b,o,rfl,hs⟩
    · rw[h0] at hlt;simp at hlt
    have hadd2:IntKind.i64.wrap ((i:Int)+1)=((i+1:Nat):Int):=i64_in' (by omega) (by omega) (by omega)
    have hcx:cut (xs.flatMap keyC) (o+i*8 - o) 8=keyC x:=by rw[Nat.add_sub_cancel_left];exact cut_flat keyC_len hx
    have hct:cut (xs.flatMap keyC++(twoC 77 0)) (0+i*8 - 0) 8=keyC x:=by rw[Nat.zero_add,Nat.sub_zero];exact cut_flatL keyC_len hx
    repeat (first|refine Ta ?_|(refine Tm ?_;intro _)|refine Tc ?_|exact Tz)
    refine WC.dT rfl (by omega) ?_
    repeat (first|refine Ta ?_|(refine Tm ?_;intro _)|refine Tc ?_|exact Tz)
    refine WC.adraw 9 (k:=?_)
    iterate 9 (first|refine Da ?_|refine DQ.does (fun s _=>does_indexSlice (o':=o+i*8) rfl rfl hlt rfl) Dp.const ?_|refine DQ.does (fun s _=>does_indexSlice (o':=0+i*8) rfl rfl hlt rfl) Dp.const ?_|refine DQ.does (fun s _=>a_loadF (vs:=keyC x) (hs:=hs) (hle:=Nat.le_add_right _ _) (hc:=hcx)) Dp.const ?_|refine DQ.does (fun s _=>a_loadF (vs:=keyC x) (hs:=hwT) (hle:=Nat.zero_le _) (hc:=hct)) Dp.const ?_|refine DQ.does (fun s _=>a_neqSame rfl rfl (fun w=>same_key x.1 x.2 w) (fun w=>guard_key _ _ _ _ _ w)) Dp.const ?_|refine Dc ?_)
    refine DQ.anil (k:=?_)
    intro sx _
    repeat (first|refine Ta ?_|(refine Tm ?_;intro _)|refine WO.does (does_add rfl rfl hadd2) ?_|refine Tc ?_|exact Tz)
    exact WX.metI (i+1) (hs:=⟨by show i+1≤xs.length;omega,by show xs.length - (i+1)<xs.length - i;omega⟩)
  · have hi2:i=xs.length:=by omega
    subst hi2
    have hct:cut (xs.flatMap keyC++(twoC 77 0)) (0+xs.length*8 - 0) 8=twoC 77 0:=by rw[Nat.zero_add,Nat.sub_zero];exact cut_flatE keyC_len rfl
    have h77:(77:Nat)<B256:=B256_of (by decide)
    repeat (first|refine Ta ?_|(refine Tm ?_;intro _)|refine Tc ?_|exact Tz)
    refine WC.dF rfl (by omega) ?_
    repeat (first|refine Ta ?_|(refine Tm ?_;intro _)|refine WO.does (does_add rfl rfl hadd) ?_|refine WO.does (does_sliceTo (h:=xs.length+1) rfl rfl (Nat.le_refl _)) ?_|refine WO.does (does_indexSlice (o':=0+xs.length*8) rfl rfl (Nat.lt_succ_self _) rfl) ?_|refine WO.does (a_loadF (vs:=twoC 77 0) (hs:=hwT) (hle:=Nat.zero_le _) (hc:=hct)) ?_|refine WO.does (does_buildA (cs:=numC 77) rfl rfl (by kernel_rfl)) ?_|refine WO.does (a_eqNum (ha:=h77) (hb:=h77)) ?_|refine Tc ?_|exact Tz)
end Sx
end Go.Proofs.YtmhligfnchegdaaGreatDoor
namespace Go.Proofs.YtmhligfnchegdaaGreatDoor
open Go Go.RowKit Go.BigFrame
namespace Sx
attribute [local irreducible] DQ DQS WO WC WX
def kB (p q a:Nat):Bool:=gIn p q a && decide (a≠1)
abbrev stC (p q g h:Nat) (f sec:Int) (ns:Value):List Value:=[.int .u64 ((wd 0 p:Nat):Int),.int .u64 ((wd 1 p:Nat):Int),.int .u64 ((wd 2 p:Nat):Int),.int .u64 ((wd 3 p:Nat):Int),.int .u64 ((wd 0 q:Nat):Int),.int .u64 ((wd 1 q:Nat):Int),.int .u64 ((wd 2 q:Nat):Int),.int .u64 ((wd 3 q:Nat):Int),.int .u64 ((wd 0 g:Nat):Int),.int .u64 ((wd 1 g:Nat):Int),.int .u64 ((wd 2 g:Nat):Int),.int .u64 ((wd 3 g:Nat):Int),.int .u64 ((wd 0 h:Nat):Int),.int .u64 ((wd 1 h:Nat):Int),.int .u64 ((wd 2 h:Nat):Int),.int .u64 ((wd 3 h:Nat):Int),.int .i64 f,.int .i64 sec,ns]
abbrev stV (p q g h:Nat) (f sec:Int) (ns:Value):Value:=.agg #[.int .u64 ((wd 0 p:Nat):Int),.int .u64 ((wd 1 p:Nat):Int),.int .u64 ((wd 2 p:Nat):Int),.int .u64 ((wd 3 p:Nat):Int),.int .u64 ((wd 0 q:Nat):Int),.int .u64 ((wd 1 q:Nat):Int),.int .u64 ((wd 2 q:Nat):Int),.int .u64 ((wd 3 q:Nat):Int),.int .u64 ((wd 0 g:Nat):Int),.int .u64 ((wd 1 g:Nat):Int),.int .u64 ((wd 2 g:Nat):Int),.int .u64 ((wd 3 g:Nat):Int),.int .u64 ((wd 0 h:Nat):Int),.int .u64 ((wd 1 h:Nat):Int),.int .u64 ((wd 2 h:Nat):Int),.int .u64 ((wd 3 h:Nat):Int),.int .i64 f,.int .i64 sec,ns]
section
variable (p q g h:Nat)
theorem c_keys1 (a gG:Nat) (ha:a<B256) (hp:p<B256) (hq:q<B256):Fn Tryz.prog 140 ([numV a]++[pt gG]) (fun w=>Seg w gG 0 (grpC p q g h)) (Is (.bool (!kB p q a))):=by
  have hI:=c_gIn p q g h a ha hp hq
  unfold kB
  cases e:gIn p q a with
  | false =>
    rw[e] at hI
    refine Fn.enter Tryz.func140 rfl rfl rfl ?_
    intro w hw
    repeat (first|refine Ta ?_|(refine Tm ?_;intro _)|refine WO.acall (hc:=hI) (k:=?_)|refine Tc ?_|exact Tz)
  | true =>
    rw[e] at hI
    by_cases h1:a=1
    · have d1:decide (a=1)=true:=decide_eq_true h1
      rw[show (!(true && decide (a≠1)))=true by simp[h1]]
      refine Fn.enter Tryz.func140 rfl rfl rfl ?_
      intro w hw
      repeat (first|refine Ta ?_|(refine Tm ?_;intro _)|refine WO.acall (hc:=hI) (k:=?_)|refine WO.does (does_buildA (cs:=numC 1) rfl rfl rfl) ?_|refine WO.does a_eqNum ?_|refine Tc ?_|exact Tz)
      rw[d1]
      repeat (first|refine Ta ?_|(refine Tm ?_;intro _)|refine Tc ?_|exact Tz)
    · have d1:decide (a=1)=false:=decide_eq_false h1
      rw[show (!(true && decide (a≠1)))=false by simp[h1]]
      refine Fn.enter Tryz.func140 rfl rfl rfl ?_
      intro w hw
      repeat (first|refine Ta ?_|(refine Tm ?_;intro _)|refine WO.acall (hc:=hI) (k:=?_)|refine WO.does (does_buildA (cs:=numC 1) rfl rfl rfl) ?_|refine WO.does a_eqNum ?_|refine Tc ?_|exact Tz)
      rw[d1]
      repeat (first|refine Ta ?_|(refine Tm ?_;intro _)|refine Tc ?_|exact Tz)
theorem c_keys (a c b:Nat) (ha:a<B256) (hc:c<B256) (hp:p<B256) (hq:q<B256):Fn Tryz.prog 44 [grpV p q g h,.slice (some ⟨b,0,none⟩) 2 2] (fun w=>Seg w b 0 (numC a++numC c)) (Is (.bool (kB p q a && kB p q c))):=by
  have hC:=fun gG=>c_ContainsNum [pt gG] (fun x=>!kB p q x) [a,c] b 0 2 (fun w=>Seg w gG 0 (grpC p q g h)) Stable.seg (by simp) (f:=140) (fun x hx=>by
    simp only[List.mem_cons,List.not_mem_nil,or_false] at hx
    rcases hx with rfl|rfl
    · exact c_keys1 p q g h _ gG ha hp hq
    · exact c_keys1 p q g h _ gG hc hp hq)
  have e:[a,c].any (fun x=>!kB p q x) = !(kB p q a && kB p q c):=by simp[Bool.not_and]
  have e2:[a,c].flatMap numC=numC a++numC c:=rfl
  rw[e,e2] at hC
  generalize (kB p q a && kB p q c)=r at *
  refine Fn.enter Tryz.func44 rfl rfl rfl ?_
  intro w hw
  repeat (first|refine Ta ?_|(refine Tm ?_;intro _)|refine WO.acallR (hc:=hC _) (hR:=fun w' hm=>⟨hw.mod hm.mod (by simp),Hs.seg (by repeat (first|exact Hs.here|apply Hs.there)) hm⟩) (k:=?_)|refine Tc ?_|exact Tz)
  rw[Bool.not_not]
  repeat (first|refine Ta ?_|(refine Tm ?_;intro _)|refine Tc ?_|exact Tz)
theorem c_Setting1 (f sec:Int) (ns:Value) (k:Nat × Nat) (gS:Nat) (h1:k.1<B256) (h2:k.2<B256) (hp:p<B256) (hq:q<B256):Fn Tryz.prog 46 ([keyV k]++[pt gS]) (fun w=>Seg w gS 0 (stC p q g h f sec ns)) (Is (.bool (!(kB p q k.1 && kB p q k.2)))):=by
  have hK:=fun b=>c_keys p q g h k.1 k.2 b h1 h2 hp hq
  generalize (kB p q k.1 && kB p q k.2)=r at *
  obtain⟨k1,k2⟩:=k
  dsimp only at hK
  refine Fn.enter Tryz.func46 rfl rfl rfl ?_
  intro w hw
  repeat (first|refine Ta ?_|(refine Tm ?_;intro _)|(refine WO.makes (makes_build (cs:=numC k1++numC k2) rfl (by decide) rfl) ?_;intro _)|refine WO.acallR (hc:=hK _) (hR:=fun w' hm=>Hs.seg (by repeat (first|exact Hs.here|apply Hs.there)) hm) (k:=?_)|refine Tc ?_|exact Tz)
end
end Sx
end Go.Proofs.YtmhligfnchegdaaGreatDoor
namespace Go.Proofs.YtmhligfnchegdaaGreatDoor
open Go Go.RowKit Go.BigFrame
namespace Sx
attribute [local irreducible] DQ DQS WO WC WX
def setB (p q g h:Nat) (f sec:Int) (N:List (Nat × Nat)):Bool :=
  decide (0≤f) && decide (f≤2) && decide (1≤sec) && decide (sec≤3) && decide (sec≤f+1) && decide (3*f+1≤(N.length:Int)) && decide ((N.length:Int)≤7) && decide ((N.length:Int)+sec<(q:Int)) && kB p q g && kB p q h && N.all (fun k=>kB p q k.1 && kB p q k.2)
def RdK (v:Value) (N:List (Nat × Nat)) (w:World):Prop :=
  ∃ pt c,v=.slice pt N.length c∧((pt=none∧N=[])∨∃ b o,pt=some ⟨b,o,none⟩∧Seg w b o (N.flatMap keyC))
def NumsOk (N:List (Nat × Nat)):Prop:=∀ k∈N,k.1<B256∧k.2<B256
set_option maxHeartbeats 4000000 in
theorem c_Setting (p q g h:Nat) (f sec:Int) (pt:Option Addr) (c:Nat) (N:List (Nat × Nat)) (hp:p<B256) (hq:q<B256) (hg:g<B256) (hh:h<B256) (hN:NumsOk N) (hNl:N.length≤1099511627776)
    (hf1 : -9223372036854775808≤f) (hf2:f≤9223372036854775807) (hs1 : -9223372036854775808≤sec) (hs2:sec≤9223372036854775807) :
    Fn Tryz.prog 9 [stV p q g h f sec (.slice pt N.length c)] (RdK (.slice pt N.length c) N) (Is (.bool (setB p q g h f sec N))):=by
  by_cases t1:f<0
  · rw[show setB p q g h f sec N=false by simp[setB];omega]
    refine Fn.enter Tryz.func9 rfl rfl rfl ?_
    intro w hw
    repeat (first|refine Td ?_|(refine Tm ?_;intro _)|refine Tc ?_|exact Tz)
  by_cases t2:2<f
  · rw[show setB p q g h f sec N=false by simp[setB];omega]
    refine Fn.enter Tryz.func9 rfl rfl rfl ?_
    intro w hw
    repeat (first|refine Td ?_|(refine Tm ?_;intro _)|refine Tc ?_|exact Tz)
  by_cases t3:sec<1
  · rw[show setB p q g h f sec N=false by simp[setB];omega]
    refine Fn.enter Tryz.func9 rfl rfl rfl ?_
    intro w hw
    repeat (first|refine Td ?_|(refine Tm ?_;intro _)|refine Tc ?_|exact Tz)
  obtain⟨M,hM⟩ : ∃ M:Int,(if f+1<3 then f+1 else 3)=M:=⟨_,rfl⟩
  have hM2:M≤3∧M≤f+1∧(M=3∨M=f+1):=by split at hM<;>omega
  by_cases t4:M<sec
  · rw[show setB p q g h f sec N=false by simp[setB];omega]
    refine Fn.enter Tryz.func9 rfl rfl rfl ?_
    intro w hw
    repeat (first|refine Td ?_|(refine Tm ?_;intro _)|refine WO.does (does_min rfl rfl hM) ?_|refine Tc ?_|exact Tz)
  by_cases t5:(N.length:Int)<3*f+1
  · rw[show setB p q g h f sec N=false by simp[setB];omega]
    refine Fn.enter Tryz.func9 rfl rfl rfl ?_
    intro w hw
    repeat (first|refine Td ?_|(refine Tm ?_;intro _)|refine WO.does (does_min rfl rfl hM) ?_|refine Tc ?_|exact Tz)
  by_cases t6:7<(N.length:Int)
  · rw[show setB p q g h f sec N=false by simp[setB];omega]
    refine Fn.enter Tryz.func9 rfl rfl rfl ?_
    intro w hw
    repeat (first|refine Td ?_|(refine Tm ?_;intro _)|refine WO.does (does_min rfl rfl hM) ?_|refine Tc ?_|exact Tz)
  obtain⟨m,hm⟩ : ∃ m:Nat,(m:Int)=(N.length:Int)+sec:=⟨((N.length:Int)+sec).toNat,by omega⟩
  have hadd:IntKind.i64.wrap ((N.length:Int)+sec)=(m:Int):=i64_in' (by omega) (by omega) (by omega)
  have hA:=c_above q m hq (by omega)
  have hSB:setB p q g h f sec N=(decide (m<q) && (kB p q g && kB p q h) && N.all (fun k=>kB p q k.1 && kB p q k.2)):=by
    have e1:decide ((N.length:Int)+sec<(q:Int))=decide (m<q):=by rw[← hm];simp
    unfold setB
    rw[e1,decide_eq_true (by omega:0≤f),decide_eq_true (by omega:f≤2),decide_eq_true (by omega:1≤sec),decide_eq_true (by omega:sec≤3),decide_eq_true (by omega:sec≤f+1),decide_eq_true (by omega:3*f+1≤(N.length:Int)),decide_eq_true (by omega:(N.length:Int)≤7)]
    simp only[Bool.true_and,Bool.and_assoc]
  rw[hSB]
  clear hSB
  cases t7:decide (m<q) with
  | false =>
    rw[t7] at hA
    clear t7
    refine Fn.enter Tryz.func9 rfl rfl rfl ?_
    intro w hw
    repeat (first|refine Td ?_|(refine Tm ?_;intro _)|refine WO.does (does_min rfl rfl hM) ?_|refine WO.does (does_add rfl rfl hadd) ?_|refine WO.acall (hc:=hA) (k:=?_)|refine Tc ?_|exact Tz)
  | true =>
  rw[t7] at hA
  clear t7
  have hK:=fun b=>c_keys p q g h g h b hg hh hp hq
  cases t8:(kB p q g && kB p q h) with
  | false =>
    rw[t8] at hK
    clear t8
    refine Fn.enter Tryz.func9 rfl rfl rfl ?_
    intro w hw
    repeat (first|refine Td ?_|(refine Tm ?_;intro _)|refine WO.does (does_min rfl rfl hM) ?_|refine WO.does (does_add rfl rfl hadd) ?_|refine WO.acall (hc:=hA) (k:=?_)|(refine WO.makes (makes_build (cs:=numC g++numC h) rfl (by decide) rfl) ?_;intro _)|refine WO.acallR (hc:=hK _) (hR:=fun w' hm=>Hs.seg (by repeat (first|exact Hs.here|apply Hs.there)) hm) (k:=?_)|refine Tc ?_|exact Tz)
  | true =>
  rw[t8] at hK
  clear t8
  have hC:=fun gS b o=>c_ContainsKey [Sx.pt gS] (fun k=>!(kB p q k.1 && kB p q k.2)) N b o c (fun w=>Seg w gS 0 (stC p q g h f sec (.slice (some ⟨b,o,none⟩) N.length c))) Stable.seg hNl (f:=46) (fun k hk=>c_Setting1 p q g h f sec _ k gS (hN k hk).1 (hN k hk).2 hp hq)
  have hall:N.any (fun k=>!(kB p q k.1 && kB p q k.2)) = !N.all (fun k=>kB p q k.1 && kB p q k.2):=List.not_all_eq_any_not .. |>.symm
  rw[hall] at hC
  clear hall
  generalize (N.all fun k=>kB p q k.1 && kB p q k.2)=r at *
  refine Fn.enter Tryz.func9 rfl rfl rfl ?_
  intro w hw
  obtain⟨pt',c',e,hpc⟩:=hw
  cases e
  rcases hpc with ⟨_,h0⟩|⟨b,o,rfl,hs⟩
  · rw[h0] at t5;simp at t5;omega
  repeat (first|refine Td ?_|(refine Tm ?_;intro _)|refine WO.does (does_min rfl rfl hM) ?_|refine WO.does (does_add rfl rfl hadd) ?_|refine WO.acall (hc:=hA) (k:=?_)|(refine WO.makes (makes_build (cs:=numC g++numC h) rfl (by decide) rfl) ?_;intro _)|refine WO.acallR (hc:=hK _) (hR:=fun w' hm=>Hs.seg (by repeat (first|exact Hs.here|apply Hs.there)) hm) (k:=?_)|refine WO.acallR (hc:=hC _ b o) (hR:=fun w' hm=>⟨hs.mod hm.mod (by simp),Hs.seg (by repeat (first|exact Hs.here|apply Hs.there)) hm⟩) (k:=?_)|refine Tc ?_|exact Tz)
  rw[Bool.not_not]
  repeat (first|refine Td ?_|(refine Tm ?_;intro _)|refine Tc ?_|exact Tz)
end Sx
end Go.Proofs.YtmhligfnchegdaaGreatDoor
namespace Go.Proofs.YtmhligfnchegdaaGreatDoor
open Go Go.RowKit Go.BigFrame
namespace Sx
theorem wd0_lt {n:Nat} (h:n<18446744073709551616):wd 0 n=n:=Nat.mod_eq_of_lt h
attribute [local irreducible] wd DQ DQS WO WC WX
theorem cut_key1 {N:List (Nat × Nat)} {o i:Nat} {k:Nat × Nat} (h:N[i]?=some k):cut (N.flatMap keyC) (o+i*8 - o) 4=numC k.1:=by
  have:=cut_flat keyC_len h
  rw[Nat.add_sub_cancel_left]
  unfold cut at *
  rw[show (4:Nat)=min 4 8 by decide,← List.take_take,this]
  rfl
theorem cut_key2 {N:List (Nat × Nat)} {o i:Nat} {k:Nat × Nat} (h:N[i]?=some k):cut (N.flatMap keyC) (o+i*8+4 - o) 4=numC k.2:=by
  have:=cut_flat keyC_len h
  rw[show o+i*8+4 - o=i*8+4 by omega]
  unfold cut at *
  rw[← List.drop_drop]
  have h2:(List.drop 4 (List.drop (i*8) (N.flatMap keyC))).take 4=(List.take 8 (List.drop (i*8) (N.flatMap keyC))).drop 4:=by
    rw[List.drop_take]
  rw[h2,this]
  rfl
theorem all_false {α:Type} {P:α→Bool} {xs:List α} {i:Nat} {x:α} (hx:xs[i]?=some x) (h:P x=false):xs.all P=false:=by
  rw[List.all_eq_false];exact⟨x,List.mem_of_getElem? hx,by simp[h]⟩
theorem all_true {α:Type} {P:α→Bool} {xs:List α} (h:∀ j,j<xs.length→∀ x,xs[j]?=some x→P x=true):xs.all P=true:=by
  rw[List.all_eq_true]
  intro x hx
  obtain⟨j,hj⟩:=List.mem_iff_getElem?.1 hx
  exact h j (by rcases Nat.lt_or_ge j xs.length with h1|h1;exact h1;rw[List.getElem?_eq_none h1] at hj;cases hj) x hj
section
variable (p q g h:Nat)
theorem r15_key (a:Nat) (ha:a<B256) (hp:p<B256) (hq:q<B256):Fn Tryz.prog 47 [grpV p q g h,numV a] Tr (Is (.bool (kB p q a))):=by
  have hI:=r8_In p q g h a ha hp hq
  unfold kB
  cases e:gIn p q a with
  | false =>
    rw[e] at hI
    rw[Bool.false_and]
    refine Fn.enter Tryz.func47 rfl rfl rfl ?_
    intro w hw
    repeat (first|refine Td ?_|(refine Tm ?_;intro _)|refine WO.acall (hc:=hI) (k:=?_)|refine Tc ?_|exact Tz)
  | true =>
    rw[e] at hI
    rw[Bool.true_and]
    by_cases h1:a=1
    · rw[decide_eq_false (by omega:¬ a≠1)]
      refine Fn.enter Tryz.func47 rfl rfl rfl ?_
      intro w hw
      repeat (first|refine Td ?_|(refine Tm ?_;intro _)|refine WO.acall (hc:=hI) (k:=?_)|refine WO.does (does_buildA (cs:=numC 1) rfl rfl (by kernel_rfl)) ?_|refine WO.does a_neqNum ?_|refine Tc ?_|exact Tz)
    · rw[decide_eq_true (by omega:a≠1)]
      refine Fn.enter Tryz.func47 rfl rfl rfl ?_
      intro w hw
      repeat (first|refine Td ?_|(refine Tm ?_;intro _)|refine WO.acall (hc:=hI) (k:=?_)|refine WO.does (does_buildA (cs:=numC 1) rfl rfl (by kernel_rfl)) ?_|refine WO.does a_neqNum ?_|refine Tc ?_|exact Tz)
set_option maxHeartbeats 4000000 in
theorem r15_Setting (f sec:Int) (pt:Option Addr) (c:Nat) (N:List (Nat × Nat)) (hp:p<B256) (hq:q<B256) (hg:g<B256) (hh:h<B256) (hN:NumsOk N) (hNl:N.length≤1099511627776)
    (hf1 : -9223372036854775808≤f) (hf2:f≤9223372036854775807) (hs1 : -9223372036854775808≤sec) (hs2:sec≤9223372036854775807) :
    Fn Tryz.prog 10 [stV p q g h f sec (.slice pt N.length c)] (RdK (.slice pt N.length c) N) (Is (.bool (setB p q g h f sec N))):=by
  by_cases t1:f<0
  · rw[show setB p q g h f sec N=false by simp[setB];omega]
    refine Fn.enter Tryz.func10 rfl rfl rfl ?_
    intro w hw
    repeat (first|refine Td ?_|(refine Tm ?_;intro _)|refine Tc ?_|exact Tz)
  by_cases t2:2<f
  · rw[show setB p q g h f sec N=false by simp[setB];omega]
    refine Fn.enter Tryz.func10 rfl rfl rfl ?_
    intro w hw
    repeat (first|refine Td ?_|(refine Tm ?_;intro _)|refine Tc ?_|exact Tz)
  by_cases t3:sec<1
  · rw[show setB p q g h f sec N=false by simp[setB];omega]
    refine Fn.enter Tryz.func10 rfl rfl rfl ?_
    intro w hw
    repeat (first|refine Td ?_|(refine Tm ?_;intro _)|refine Tc ?_|exact Tz)
  by_cases t4:3<sec
  · rw[show setB p q g h f sec N=false by simp[setB];omega]
    refine Fn.enter Tryz.func10 rfl rfl rfl ?_
    intro w hw
    repeat (first|refine Td ?_|(refine Tm ?_;intro _)|refine Tc ?_|exact Tz)
  by_cases t4' : f+1<sec
  · rw[show setB p q g h f sec N=false by simp[setB];omega]
    refine Fn.enter Tryz.func10 rfl rfl rfl ?_
    intro w hw
    repeat (first|refine Td ?_|(refine Tm ?_;intro _)|refine Tc ?_|exact Tz)
  by_cases t5:(N.length:Int)<3*f+1
  · rw[show setB p q g h f sec N=false by simp[setB];omega]
    refine Fn.enter Tryz.func10 rfl rfl rfl ?_
    intro w hw
    repeat (first|refine Td ?_|(refine Tm ?_;intro _)|refine Tc ?_|exact Tz)
  by_cases t6:7<(N.length:Int)
  · rw[show setB p q g h f sec N=false by simp[setB];omega]
    refine Fn.enter Tryz.func10 rfl rfl rfl ?_
    intro w hw
    repeat (first|refine Td ?_|(refine Tm ?_;intro _)|refine Tc ?_|exact Tz)
  obtain⟨m,hm⟩ : ∃ m:Nat,(m:Int)=(N.length:Int)+sec:=⟨((N.length:Int)+sec).toNat,by omega⟩
  have hadd:IntKind.i64.wrap ((N.length:Int)+sec)=(m:Int):=i64_in' (by omega) (by omega) (by omega)
  have hcv:IntKind.u64.wrap (m:Int)=(m:Int):=u64_in (by omega) (by omega)
  have hSB:setB p q g h f sec N=(decide (m<q) && (kB p q g && kB p q h) && N.all (fun k=>kB p q k.1 && kB p q k.2)):=by
    have e1:decide ((N.length:Int)+sec<(q:Int))=decide (m<q):=by rw[← hm];simp
    unfold setB
    rw[e1,decide_eq_true (by omega:0≤f),decide_eq_true (by omega:f≤2),decide_eq_true (by omega:1≤sec),decide_eq_true (by omega:sec≤3),decide_eq_true (by omega:sec≤f+1),decide_eq_true (by omega:3*f+1≤(N.length:Int)),decide_eq_true (by omega:(N.length:Int)≤7)]
    simp only[Bool.true_and,Bool.and_assoc]
  rw[hSB]
  clear hSB
  have hwp:=word_parts hq
  have hm32:m<18446744073709551616:=by omega
  by_cases t7:m<q
  · rw[decide_eq_true t7,Bool.true_and]
    have hK1:=r15_key p q g h g hg hp hq
    have hK2:=r15_key p q g h h hh hp hq
    have hKs:=fun a (ha:a<B256)=>r15_key p q g h a ha hp hq
    refine Fn.enter Tryz.func10 rfl rfl rfl ?_
    intro w hw
    obtain⟨pt',c',e,hpc⟩:=hw
    cases e
    rcases hpc with ⟨_,h0⟩|⟨b,o,rfl,hs⟩
    · rw[h0] at t5;simp at t5;omega
    refine WC.seq ?_
    repeat (first|refine Tf ?_|(refine Tm ?_;intro _)|refine Tc ?_|exact Tz)
    refine WX.seq ?_
    refine WC.seq ?_
    repeat (first|refine Tf ?_|(refine Tm ?_;intro _)|refine Tc ?_|exact Tz)
    refine WX.seq ?_
    refine WC.seq ?_
    refine WC.seq ?_
    repeat (first|refine Tf ?_|(refine Tm ?_;intro _)|refine Tc ?_|exact Tz)
    refine WX.seq ?_
    repeat (first|refine Tf ?_|(refine Tm ?_;intro _)|refine Tc ?_|exact Tz)
    refine WX.seq ?_
    refine WC.seq ?_
    repeat (first|refine Tf ?_|(refine Tm ?_;intro _)|refine Tc ?_|exact Tz)
    rename_i g1 g4
    refine WX.seq ?_
    refine WC.joinI (σ:=Unit) (fun _=>True) (fun _=>[(1,pt g1),(2,.bool false),(3,.int .i64 (N.length:Int))]) (fun _=>[⟨g1,29,stC p q g h f sec (.slice (some ⟨b,o,none⟩) N.length c)⟩]) ?_ (fun _ hTr=>?_)
    · clear hK1 hK2 hKs
      by_cases w1:wd 1 q=0
      · have d1:((wd 1 q:Nat):Int)=0:=by omega
        by_cases w2:wd 2 q=0
        · have d2:((wd 2 q:Nat):Int)=0:=by omega
          by_cases w3:wd 3 q=0
          · have d3:((wd 3 q:Nat):Int)=0:=by omega
            have w0:wd 0 q=q:=wd0_lt (hwp.2 ⟨w1,w2,w3⟩)
            have d0:¬ ((wd 0 q:Nat):Int)≤(m:Int):=by omega
            clear w1 w2 w3 w0 hwp
            repeat (first|refine Td ?_|(refine Tm ?_;intro _)|refine WO.does (does_add rfl rfl hadd) ?_|refine WO.does (does_conv rfl hcv) ?_|refine Tc ?_|exact Tz)
            exact WX.metI () (hs:=trivial)
          · have d3:¬ ((wd 3 q:Nat):Int)=0:=by omega
            repeat (first|refine Td ?_|(refine Tm ?_;intro _)|refine Tc ?_|exact Tz)
            exact WX.metI () (hs:=trivial)
        · have d2:¬ ((wd 2 q:Nat):Int)=0:=by omega
          repeat (first|refine Td ?_|(refine Tm ?_;intro _)|refine Tc ?_|exact Tz)
          exact WX.metI () (hs:=trivial)
      · have d1:¬ ((wd 1 q:Nat):Int)=0:=by omega
        repeat (first|refine Td ?_|(refine Tm ?_;intro _)|refine Tc ?_|exact Tz)
        exact WX.metI () (hs:=trivial)
    clear hTr hadd hcv hm hwp hm32 t7 m
    cases e1:kB p q g with
    | false =>
      rw[e1] at hK1
      rw[Bool.false_and,Bool.false_and]
      repeat (first|refine Ta ?_|(refine Tm ?_;intro _)|refine WO.acall (hc:=hK1) (k:=?_)|refine Tc ?_|exact Tz)
    | true =>
    rw[e1] at hK1
    cases e2:kB p q h with
    | false =>
      rw[e2] at hK2
      rw[Bool.and_false,Bool.false_and]
      repeat (first|refine Ta ?_|(refine Tm ?_;intro _)|refine WO.acall (hc:=hK1) (k:=?_)|refine WO.acall (hc:=hK2) (k:=?_)|refine Tc ?_|exact Tz)
    | true =>
    rw[e2] at hK2
    rw[Bool.true_and,Bool.true_and]
    repeat (first|refine Ta ?_|(refine Tm ?_;intro _)|refine WO.acall (hc:=hK1) (k:=?_)|refine WO.acall (hc:=hK2) (k:=?_)|refine Tc ?_|exact Tz)
    refine WC.loopI (σ:=Nat) (fun i=>i≤N.length∧∀ j,j<i→∀ x,N[j]?=some x→(kB p q x.1 && kB p q x.2)=true) (fun i=>[(1,pt g1),(2,.bool false),(3,.int .i64 (N.length:Int)),(5,.int .i64 (i:Int))]) (fun _=>[⟨g1,29,stC p q g h f sec (.slice (some ⟨b,o,none⟩) N.length c)⟩]) (fun i=>N.length - i) 0 (fun i hi=>?_) ⟨Nat.zero_le _,fun j hj=>by omega⟩
    try dsimp only at hi ⊢
    obtain⟨hi,h0⟩:=hi
    by_cases hlt:i<N.length
    · obtain⟨k,hx⟩ : ∃ k,N[i]?=some k:=⟨_,List.getElem?_eq_getElem hlt⟩
      have hkb:=hN k (List.mem_of_getElem? hx)
      have hk1:=hKs k.1 hkb.1
      have hk2:=hKs k.2 hkb.2
      clear hK1 hK2 hKs
      cases q1:kB p q k.1 with
      | false =>
        rw[all_false (P:=fun k=>kB p q k.1 && kB p q k.2) hx (by simp[q1])]
        rw[q1] at hk1
        repeat (first|refine Ta ?_|(refine Tm ?_;intro _)|refine Tc ?_|exact Tz)
        refine WC.dT rfl (by omega) ?_
        repeat (first|refine Ta ?_|(refine Tm ?_;intro _)|refine Tc ?_|exact Tz)
        refine WC.adraw 22 (k:=?_)
        iterate 22 (first|refine Da ?_|refine DQ.does (fun s _=>does_indexSlice (o':=o+i*8) rfl rfl hlt rfl) Dp.const ?_|refine DQ.does (fun s _=>a_loadF (vs:=numC k.1) (hs:=hs) (hle:=by omega) (hc:=cut_key1 hx)) Dp.const ?_|refine DQ.does (fun s _=>a_loadF (vs:=numC k.2) (hs:=hs) (hle:=by omega) (hc:=cut_key2 hx)) Dp.const ?_|refine DQ.acall (hc:=hk1) (k:=?_)|refine DQ.acall (hc:=hk2) (k:=?_)|refine Dc ?_)
        refine DQ.anil (k:=?_)
        intro sx _
        repeat (first|refine Ta ?_|(refine Tm ?_;intro _)|refine Tc ?_|exact Tz)
      | true =>
        rw[q1] at hk1
        cases q2:kB p q k.2 with
        | false =>
          rw[all_false (P:=fun k=>kB p q k.1 && kB p q k.2) hx (by simp[q2])]
          rw[q2] at hk2
          repeat (first|refine Ta ?_|(refine Tm ?_;intro _)|refine Tc ?_|exact Tz)
          refine WC.dT rfl (by omega) ?_
          repeat (first|refine Ta ?_|(refine Tm ?_;intro _)|refine Tc ?_|exact Tz)
          refine WC.adraw 22 (k:=?_)
          iterate 22 (first|refine Da ?_|refine DQ.does (fun s _=>does_indexSlice (o':=o+i*8) rfl rfl hlt rfl) Dp.const ?_|refine DQ.does (fun s _=>a_loadF (vs:=numC k.1) (hs:=hs) (hle:=by omega) (hc:=cut_key1 hx)) Dp.const ?_|refine DQ.does (fun s _=>a_loadF (vs:=numC k.2) (hs:=hs) (hle:=by omega) (hc:=cut_key2 hx)) Dp.const ?_|refine DQ.acall (hc:=hk1) (k:=?_)|refine DQ.acall (hc:=hk2) (k:=?_)|refine Dc ?_)
          refine DQ.anil (k:=?_)
          intro sx _
          repeat (first|refine Ta ?_|(refine Tm ?_;intro _)|refine Tc ?_|exact Tz)
        | true =>
          rw[q2] at hk2
          repeat (first|refine Ta ?_|(refine Tm ?_;intro _)|refine Tc ?_|exact Tz)
          refine WC.dT rfl (by omega) ?_
          repeat (first|refine Ta ?_|(refine Tm ?_;intro _)|refine Tc ?_|exact Tz)
          refine WC.adraw 22 (k:=?_)
          iterate 22 (first|refine Da ?_|refine DQ.does (fun s _=>does_indexSlice (o':=o+i*8) rfl rfl hlt rfl) Dp.const ?_|refine DQ.does (fun s _=>a_loadF (vs:=numC k.1) (hs:=hs) (hle:=by omega) (hc:=cut_key1 hx)) Dp.const ?_|refine DQ.does (fun s _=>a_loadF (vs:=numC k.2) (hs:=hs) (hle:=by omega) (hc:=cut_key2 hx)) Dp.const ?_|refine DQ.acall (hc:=hk1) (k:=?_)|refine DQ.acall (hc:=hk2) (k:=?_)|refine Dc ?_)
          refine DQ.anil (k:=?_)
          intro sx _
          repeat (first|refine Ta ?_|(refine Tm ?_;intro _)|refine Tc ?_|exact Tz)
          refine WX.metI (i+1) (hs:=⟨⟨by show i+1≤N.length;omega,fun j hj y hy=>by
            rcases Nat.lt_or_ge j i with h|h
            · exact h0 j h y hy
            · have:j=i:=by omega
              subst this
              rw[hx] at hy;cases hy;rw[q1,q2];rfl⟩,by show N.length - (i+1)<N.length - i;omega⟩)
    · have hi2:i=N.length:=by omega
      rw[all_true (xs:=N) (P:=fun k=>kB p q k.1 && kB p q k.2) (by rw[← hi2];exact h0)]
      repeat (first|refine Ta ?_|(refine Tm ?_;intro _)|refine Tc ?_|exact Tz)
      refine WC.dF rfl (by omega) ?_
      repeat (first|refine Ta ?_|(refine Tm ?_;intro _)|refine Tc ?_|exact Tz)
  · rw[decide_eq_false t7,Bool.false_and,Bool.false_and]
    obtain⟨w1,w2,w3⟩:=hwp.1 (by omega)
    have w0:wd 0 q=q:=wd0_lt (by omega)
    have d1:((wd 1 q:Nat):Int)=0:=by omega
    have d2:((wd 2 q:Nat):Int)=0:=by omega
    have d3:((wd 3 q:Nat):Int)=0:=by omega
    have d0:((wd 0 q:Nat):Int)≤(m:Int):=by omega
    clear w1 w2 w3 w0 hwp
    refine Fn.enter Tryz.func10 rfl rfl rfl ?_
    intro w hw
    repeat (first|refine Td ?_|(refine Tm ?_;intro _)|refine WO.does (does_add rfl rfl hadd) ?_|refine WO.does (does_conv rfl hcv) ?_|refine Tc ?_|exact Tz)
end
end Sx
end Go.Proofs.YtmhligfnchegdaaGreatDoor
