/- Part 26 of the proof: DlA, TwA, LfA, DlB -/
import Derived.Test.YtiiacjladnljhaaGreatDoorM25
import Derived.Test.YtiiacjladnljhaaGreatDoorM17
import Derived.Test.YtiiacjladnljhaaGreatDoorM21
set_option linter.unusedSimpArgs false
set_option linter.unusedVariables false
namespace Go.Proofs.YtiiacjladnljhaaGreatDoor
open Go Go.RowKit Go.BigFrame
namespace Sx
attribute [local irreducible] DQ DQS WO WC WX
theorem or_u64 {a b:Nat} (ha:a<18446744073709551616) (hb:b<18446744073709551616):IntKind.u64.wrap (((BitVec.ofInt IntKind.u64.bits ((a:Nat):Int) ||| BitVec.ofInt IntKind.u64.bits ((b:Nat):Int)).toNat:Nat):Int)=((a ||| b:Nat):Int):=by
  have e:(BitVec.ofInt IntKind.u64.bits ((a:Nat):Int) ||| BitVec.ofInt IntKind.u64.bits ((b:Nat):Int)).toNat=a ||| b:=by
    rw[BitVec.toNat_or,BitVec.toNat_ofInt,BitVec.toNat_ofInt]
    have e1:(((a:Nat):Int)%((2 ^ IntKind.u64.bits:Nat):Int)).toNat=a:=by show (((a:Nat):Int)%18446744073709551616).toNat=a;omega
    have e2:(((b:Nat):Int)%((2 ^ IntKind.u64.bits:Nat):Int)).toNat=b:=by show (((b:Nat):Int)%18446744073709551616).toNat=b;omega
    rw[e1,e2]
  rw[e]
  have:=Nat.or_lt_two_pow (n:=64) ha hb
  exact u64_in (by omega) (by omega)
theorem or_lt64 {a b:Nat} (ha:a<18446744073709551616) (hb:b<18446744073709551616):a ||| b<18446744073709551616:=Nat.or_lt_two_pow (n:=64) ha hb
theorem or3_zero {a b c:Nat}:a ||| b ||| c=0↔a=0∧b=0∧c=0:=by
  refine⟨fun h=>?_,fun ⟨h1,h2,h3⟩=>by rw[h1,h2,h3];rfl⟩
  have h1:=Nat.left_le_or (n:=a) (m:=b)
  have h2:=Nat.right_le_or (n:=a) (m:=b)
  have h3:=Nat.left_le_or (n:=a ||| b) (m:=c)
  have h4:=Nat.right_le_or (n:=a ||| b) (m:=c)
  omega
theorem c_above (a m:Nat) (ha:a<B256) (hm:m<9223372036854775808):Fn Tryz.prog 91 [numV a,.int .i64 (m:Int)] Tr (Is (.bool (decide (m<a)))):=by
  have hp:=word_parts ha
  have o1:=or_u64 (wd_lt 1 a) (wd_lt 2 a)
  have o2:=or_u64 (or_lt64 (wd_lt 1 a) (wd_lt 2 a)) (wd_lt 3 a)
  have oz:=or3_zero (a:=wd 1 a) (b:=wd 2 a) (c:=wd 3 a)
  have hcv:IntKind.u64.wrap (m:Int)=(m:Int):=u64_in (by omega) (by omega)
  by_cases hz:wd 1 a ||| wd 2 a ||| wd 3 a=0
  · have hlt:=hp.2 (oz.1 hz)
    have w0:wd 0 a=a:=Nat.mod_eq_of_lt hlt
    have d1:decide (((wd 1 a ||| wd 2 a ||| wd 3 a:Nat):Int)≠0)=false:=decide_eq_false (fun h=>h (by omega))
    have d2:decide ((m:Int)<((wd 0 a:Nat):Int))=decide (m<a):=by rw[w0];simp
    generalize wd 1 a ||| wd 2 a ||| wd 3 a=Z at *
    generalize wd 1 a ||| wd 2 a=Y at *
    refine Fn.enter Tryz.func91 rfl rfl rfl ?_
    intro w hw
    repeat (first|refine Ta ?_|(refine Tm ?_;intro _)|refine WO.does (does_or rfl rfl o1) ?_|refine WO.does (does_or rfl rfl o2) ?_|refine Tc ?_|exact Tz)
    rw[d1]
    repeat (first|refine Ta ?_|(refine Tm ?_;intro _)|refine WO.does (does_conv rfl hcv) ?_|refine Tc ?_|exact Tz)
    rw[d2]
    repeat (first|refine Ta ?_|(refine Tm ?_;intro _)|refine Tc ?_|exact Tz)
  · have hge:¬ a<18446744073709551616:=fun h=>hz (oz.2 (hp.1 h))
    have d1:decide (((wd 1 a ||| wd 2 a ||| wd 3 a:Nat):Int)≠0)=true:=decide_eq_true (fun h=>hz (by omega))
    rw[show decide (m<a)=true from decide_eq_true (by omega)]
    generalize wd 1 a ||| wd 2 a ||| wd 3 a=Z at *
    generalize wd 1 a ||| wd 2 a=Y at *
    refine Fn.enter Tryz.func91 rfl rfl rfl ?_
    intro w hw
    repeat (first|refine Ta ?_|(refine Tm ?_;intro _)|refine WO.does (does_or rfl rfl o1) ?_|refine WO.does (does_or rfl rfl o2) ?_|refine Tc ?_|exact Tz)
    rw[d1]
    repeat (first|refine Ta ?_|(refine Tm ?_;intro _)|refine Tc ?_|exact Tz)
theorem cut_flat {α:Type} {f:α→List Value} {k:Nat} (hk:∀ x,(f x).length=k):∀ {xs:List α} {i:Nat} {x:α},xs[i]?=some x→cut (xs.flatMap f) (i*k) k=f x
  | [],i,x,h=>by simp at h
  | y::r,0,x,h=>by
    simp at h;subst h
    simp[cut,← hk y]
  | y::r,i+1,x,h=>by
    have:=cut_flat hk (xs:=r) (i:=i) (x:=x) (by simpa using h)
    rw[← this]
    unfold cut
    rw[List.flatMap_cons,show (i+1)*k=(f y).length+i*k by rw[hk,Nat.succ_mul];omega,← List.drop_drop,List.drop_left]
def ixI {α:Type} (P:α→Bool):List α→Int
  | []=>-1
  | x::r=>if P x then 0 else if ixI P r<0 then -1 else ixI P r+1
theorem ixI_iff {α:Type} (P:α→Bool):∀ xs:List α,0≤ixI P xs↔xs.any P=true
  | []=>by simp[ixI]
  | x::r=>by
    have ih:=ixI_iff P r
    have e:ixI P (x::r)=if P x then 0 else if ixI P r<0 then -1 else ixI P r+1:=rfl
    by_cases h:P x=true
    · have e2:ixI P (x::r)=0:=by rw[e,if_pos h]
      rw[e2,List.any_cons,h];simp
    · have e2:ixI P (x::r)=if ixI P r<0 then -1 else ixI P r+1:=by rw[e,if_neg h]
      rw[e2,List.any_cons,show P x=false by simpa using h,Bool.false_or,← ih]
      split<;>omega
theorem ixI_any {α:Type} (P:α→Bool) (xs:List α):decide (0≤ixI P xs)=xs.any P :=
  Bool.eq_iff_iff.2 (by rw[decide_eq_true_iff];exact ixI_iff P xs)
theorem ixI_drop {α:Type} (P:α→Bool):∀ (xs:List α) (i:Nat),(∀ j,j<i→∀ x,xs[j]?=some x→P x=false)→ixI P xs=(if ixI P (xs.drop i)<0 then -1 else ixI P (xs.drop i)+i)
  | xs,0,_=>by
    simp only[List.drop_zero]
    have:ixI P xs = -1∨0≤ixI P xs:=by
      cases xs with
      | nil=>exact .inl rfl
      | cons x r => simp only [ixI]; split; · exact .inr (by decide)
                    split
                    · exact .inl rfl
                    · right;omega
    split<;>omega
  | [],i+1,_=>by simp[ixI]
  | x::r,i+1,h=>by
    have hx:=h 0 (by omega) x rfl
    have ih:=ixI_drop P r i (fun j hj y hy=>h (j+1) (by omega) y (by simpa using hy))
    simp only[ixI,hx,List.drop_succ_cons,Bool.false_eq_true,if_false]
    rw[ih]
    split<;>split<;>omega
theorem ixI_at {α:Type} (P:α→Bool) {xs:List α} {i:Nat} {x:α} (h0:∀ j,j<i→∀ x,xs[j]?=some x→P x=false) (hx:xs[i]?=some x) (hp:P x=true):ixI P xs=i:=by
  rw[ixI_drop P xs i h0]
  have hlt:i<xs.length:=by
    rcases Nat.lt_or_ge i xs.length with h|h
    · exact h
    · rw[List.getElem?_eq_none h] at hx;cases hx
  have:xs.drop i=x::xs.drop (i+1):=by
    rw[List.drop_eq_getElem_cons hlt]
    rw[List.getElem?_eq_getElem hlt] at hx
    cases hx;rfl
  rw[this]
  simp[ixI,hp]
theorem ixI_none {α:Type} (P:α→Bool) {xs:List α} (h0:∀ j,j<xs.length→∀ x,xs[j]?=some x→P x=false):ixI P xs = -1:=by
  rw[ixI_drop P xs xs.length h0];simp[ixI]
abbrev keyC (k:Nat × Nat):List Value:=[.int .u64 ((wd 0 k.1:Nat):Int),.int .u64 ((wd 1 k.1:Nat):Int),.int .u64 ((wd 2 k.1:Nat):Int),.int .u64 ((wd 3 k.1:Nat):Int),.int .u64 ((wd 0 k.2:Nat):Int),.int .u64 ((wd 1 k.2:Nat):Int),.int .u64 ((wd 2 k.2:Nat):Int),.int .u64 ((wd 3 k.2:Nat):Int)]
abbrev keyV (k:Nat × Nat):Value:=.agg #[.int .u64 ((wd 0 k.1:Nat):Int),.int .u64 ((wd 1 k.1:Nat):Int),.int .u64 ((wd 2 k.1:Nat):Int),.int .u64 ((wd 3 k.1:Nat):Int),.int .u64 ((wd 0 k.2:Nat):Int),.int .u64 ((wd 1 k.2:Nat):Int),.int .u64 ((wd 2 k.2:Nat):Int),.int .u64 ((wd 3 k.2:Nat):Int)]
theorem numC_len (x:Nat):(numC x).length=4:=rfl
theorem keyC_len (k:Nat × Nat):(keyC k).length=8:=rfl
set_option maxHeartbeats 1000000 in
theorem c_IndexNum {f:Nat} [Cal Tryz.prog f] (caps:List Value) (Pb:Nat→Bool) (xs:List (Nat)) (b o c:Nat) (R:World→Prop) (hst:Stable R) (hn:xs.length≤1099511627776)
    (hf:∀ x∈xs,Fn Tryz.prog f ([numV x]++caps) R (Is (.bool (Pb x)))) :
    Fn Tryz.prog 216 [.slice (some ⟨b,o,none⟩) xs.length c,.func (.func f) #[] caps.toArray] (fun w=>Seg w b o (xs.flatMap numC)∧R w) (Is (.int .i64 (ixI Pb xs))):=by
  refine Fn.enter Tryz.func216 rfl rfl rfl ?_
  intro w hw
  obtain⟨hw,hwR⟩:=hw
  repeat (first|refine Ta ?_|(refine Tm ?_;intro _)|refine Tc ?_|exact Tz)
  refine WC.loopI (σ:=Nat) (fun i=>i≤xs.length∧∀ j,j<i→∀ x,xs[j]?=some x→Pb x=false) (fun i=>[(0,.slice (some ⟨b,o,none⟩) xs.length c),(1,.func (.func f) #[] caps.toArray),(7,.int .i64 (xs.length:Int)),(8,.int .i64 (i:Int))]) (fun _=>[]) (fun i=>xs.length - i) 0 (fun i hi=>?_) ⟨Nat.zero_le _,fun j hj=>by omega⟩
  try dsimp only at hi ⊢
  obtain⟨hi,h0⟩:=hi
  by_cases hlt:i<xs.length
  · obtain⟨x,hx⟩ : ∃ x,xs[i]?=some x:=⟨_,List.getElem?_eq_getElem hlt⟩
    have hcx:cut (xs.flatMap numC) (o+i*4 - o) 4=numC x:=by rw[Nat.add_sub_cancel_left];exact cut_flat numC_len hx
    have hcall:=hf x (List.mem_of_getElem? hx)
    cases hp:Pb x with
    | true =>
      rw[ixI_at Pb h0 hx hp]
      rw[hp] at hcall
      repeat (first|refine Ta ?_|(refine Tm ?_;intro _)|refine Tc ?_|exact Tz)
      refine WC.dT rfl (by omega) ?_
      repeat (first|refine Ta ?_|(refine Tm ?_;intro _)|refine WO.does (does_indexSlice (o':=o+i*4) rfl rfl hlt rfl) ?_|refine WO.does (a_loadF (vs:=numC x) (hs:=hw) (hle:=Nat.le_add_right _ _) (hc:=hcx)) ?_|refine WO.acallV (hc:=hcall) (hR:=fun w' hm=>hst _ _ hwR hm.mod.below) (k:=?_)|refine Tc ?_|exact Tz)
    | false =>
      rw[hp] at hcall
      repeat (first|refine Ta ?_|(refine Tm ?_;intro _)|refine Tc ?_|exact Tz)
      refine WC.dT rfl (by omega) ?_
      repeat (first|refine Ta ?_|(refine Tm ?_;intro _)|refine WO.does (does_indexSlice (o':=o+i*4) rfl rfl hlt rfl) ?_|refine WO.does (a_loadF (vs:=numC x) (hs:=hw) (hle:=Nat.le_add_right _ _) (hc:=hcx)) ?_|refine WO.acallV (hc:=hcall) (hR:=fun w' hm=>hst _ _ hwR hm.mod.below) (k:=?_)|refine Tc ?_|exact Tz)
      refine WX.metI (i+1) (hs:=⟨⟨by show i+1≤xs.length;omega,fun j hj y hy=>by
        rcases Nat.lt_or_ge j i with h|h
        · exact h0 j h y hy
        · have:j=i:=by omega
          subst this
          rw[hx] at hy;cases hy;exact hp⟩,by show xs.length - (i+1)<xs.length - i;omega⟩)
  · have hi2:i=xs.length:=by omega
    rw[ixI_none Pb (by rw[← hi2];exact h0)]
    repeat (first|refine Ta ?_|(refine Tm ?_;intro _)|refine Tc ?_|exact Tz)
    refine WC.dF rfl (by omega) ?_
    repeat (first|refine Ta ?_|(refine Tm ?_;intro _)|refine Tc ?_|exact Tz)
theorem c_ContainsNum {f:Nat} [Cal Tryz.prog f] (caps:List Value) (Pb:Nat→Bool) (xs:List (Nat)) (b o c:Nat) (R:World→Prop) (hst:Stable R) (hn:xs.length≤1099511627776)
    (hf:∀ x∈xs,Fn Tryz.prog f ([numV x]++caps) R (Is (.bool (Pb x)))) :
    Fn Tryz.prog 154 [.slice (some ⟨b,o,none⟩) xs.length c,.func (.func f) #[] caps.toArray] (fun w=>Seg w b o (xs.flatMap numC)∧R w) (Is (.bool (xs.any Pb))):=by
  have hI:=c_IndexNum caps Pb xs b o c R hst hn hf
  rw[← ixI_any]
  generalize ixI Pb xs=r at *
  refine Fn.enter Tryz.func154 rfl rfl rfl ?_
  intro w hw
  obtain⟨hw,hwR⟩:=hw
  repeat (first|refine Ta ?_|(refine Tm ?_;intro _)|refine WO.acallR (hc:=hI) (hR:=fun w' hm=>⟨hw.mod hm.mod (by simp),hst _ _ hwR hm.mod.below⟩) (k:=?_)|refine Tc ?_|exact Tz)
set_option maxHeartbeats 1000000 in
theorem c_IndexKey {f:Nat} [Cal Tryz.prog f] (caps:List Value) (Pb:Nat × Nat→Bool) (xs:List (Nat × Nat)) (b o c:Nat) (R:World→Prop) (hst:Stable R) (hn:xs.length≤1099511627776)
    (hf:∀ x∈xs,Fn Tryz.prog f ([keyV x]++caps) R (Is (.bool (Pb x)))) :
    Fn Tryz.prog 157 [.slice (some ⟨b,o,none⟩) xs.length c,.func (.func f) #[] caps.toArray] (fun w=>Seg w b o (xs.flatMap keyC)∧R w) (Is (.int .i64 (ixI Pb xs))):=by
  refine Fn.enter Tryz.func157 rfl rfl rfl ?_
  intro w hw
  obtain⟨hw,hwR⟩:=hw
  repeat (first|refine Ta ?_|(refine Tm ?_;intro _)|refine Tc ?_|exact Tz)
  refine WC.loopI (σ:=Nat) (fun i=>i≤xs.length∧∀ j,j<i→∀ x,xs[j]?=some x→Pb x=false) (fun i=>[(0,.slice (some ⟨b,o,none⟩) xs.length c),(1,.func (.func f) #[] caps.toArray),(7,.int .i64 (xs.length:Int)),(8,.int .i64 (i:Int))]) (fun _=>[]) (fun i=>xs.length - i) 0 (fun i hi=>?_) ⟨Nat.zero_le _,fun j hj=>by omega⟩
  try dsimp only at hi ⊢
  obtain⟨hi,h0⟩:=hi
  by_cases hlt:i<xs.length
  · obtain⟨x,hx⟩ : ∃ x,xs[i]?=some x:=⟨_,List.getElem?_eq_getElem hlt⟩
    have hcx:cut (xs.flatMap keyC) (o+i*8 - o) 8=keyC x:=by rw[Nat.add_sub_cancel_left];exact cut_flat keyC_len hx
    have hcall:=hf x (List.mem_of_getElem? hx)
    cases hp:Pb x with
    | true =>
      rw[ixI_at Pb h0 hx hp]
      rw[hp] at hcall
      repeat (first|refine Ta ?_|(refine Tm ?_;intro _)|refine Tc ?_|exact Tz)
      refine WC.dT rfl (by omega) ?_
      repeat (first|refine Ta ?_|(refine Tm ?_;intro _)|refine WO.does (does_indexSlice (o':=o+i*8) rfl rfl hlt rfl) ?_|refine WO.does (a_loadF (vs:=keyC x) (hs:=hw) (hle:=Nat.le_add_right _ _) (hc:=hcx)) ?_|refine WO.acallV (hc:=hcall) (hR:=fun w' hm=>hst _ _ hwR hm.mod.below) (k:=?_)|refine Tc ?_|exact Tz)
    | false =>
      rw[hp] at hcall
      repeat (first|refine Ta ?_|(refine Tm ?_;intro _)|refine Tc ?_|exact Tz)
      refine WC.dT rfl (by omega) ?_
      repeat (first|refine Ta ?_|(refine Tm ?_;intro _)|refine WO.does (does_indexSlice (o':=o+i*8) rfl rfl hlt rfl) ?_|refine WO.does (a_loadF (vs:=keyC x) (hs:=hw) (hle:=Nat.le_add_right _ _) (hc:=hcx)) ?_|refine WO.acallV (hc:=hcall) (hR:=fun w' hm=>hst _ _ hwR hm.mod.below) (k:=?_)|refine Tc ?_|exact Tz)
      refine WX.metI (i+1) (hs:=⟨⟨by show i+1≤xs.length;omega,fun j hj y hy=>by
        rcases Nat.lt_or_ge j i with h|h
        · exact h0 j h y hy
        · have:j=i:=by omega
          subst this
          rw[hx] at hy;cases hy;exact hp⟩,by show xs.length - (i+1)<xs.length - i;omega⟩)
  · have hi2:i=xs.length:=by omega
    rw[ixI_none Pb (by rw[← hi2];exact h0)]
    repeat (first|refine Ta ?_|(refine Tm ?_;intro _)|refine Tc ?_|exact Tz)
    refine WC.dF rfl (by omega) ?_
    repeat (first|refine Ta ?_|(refine Tm ?_;intro _)|refine Tc ?_|exact Tz)
theorem c_ContainsKey {f:Nat} [Cal Tryz.prog f] (caps:List Value) (Pb:Nat × Nat→Bool) (xs:List (Nat × Nat)) (b o c:Nat) (R:World→Prop) (hst:Stable R) (hn:xs.length≤1099511627776)
    (hf:∀ x∈xs,Fn Tryz.prog f ([keyV x]++caps) R (Is (.bool (Pb x)))) :
    Fn Tryz.prog 93 [.slice (some ⟨b,o,none⟩) xs.length c,.func (.func f) #[] caps.toArray] (fun w=>Seg w b o (xs.flatMap keyC)∧R w) (Is (.bool (xs.any Pb))):=by
  have hI:=c_IndexKey caps Pb xs b o c R hst hn hf
  rw[← ixI_any]
  generalize ixI Pb xs=r at *
  refine Fn.enter Tryz.func93 rfl rfl rfl ?_
  intro w hw
  obtain⟨hw,hwR⟩:=hw
  repeat (first|refine Ta ?_|(refine Tm ?_;intro _)|refine WO.acallR (hc:=hI) (hR:=fun w' hm=>⟨hw.mod hm.mod (by simp),hst _ _ hwR hm.mod.below⟩) (k:=?_)|refine Tc ?_|exact Tz)
end Sx
end Go.Proofs.YtiiacjladnljhaaGreatDoor
namespace Go.Proofs.YtiiacjladnljhaaGreatDoor
open Go Go.RowKit Go.BigFrame
namespace Sx
attribute [local irreducible] wd DQ DQS WO WC WX
abbrev pfC (k:Nat × Nat):List Value:=twoC k.1 k.2
theorem pfC_len (k:Nat × Nat):(pfC k).length=8:=rfl
set_option maxHeartbeats 2000000
theorem t_TwinNums (xs:List (Nat)) (pt:Option Addr) (c:Nat) (hn:xs.length≤100) :
    Fn Tryz.prog 7 [.slice pt xs.length c] (RdF numC (.slice pt xs.length c) xs) (NewC 24 xs.length (xs.length+1) (xs.flatMap numC++(numC 77))):=by
  have hadd:IntKind.i64.wrap ((xs.length:Int)+1)=((xs.length+1:Nat):Int):=i64_in' (by omega) (by omega) (by omega)
  refine Fn.enter Tryz.func7 rfl rfl rfl ?_
  intro w hw
  obtain⟨pt',c',e,hpc⟩:=hw
  cases e
  repeat (first|refine Ta ?_|(refine Tm ?_;intro _)|refine WO.does (does_add rfl rfl hadd) ?_|(refine WO.makes (makes_slice (l:=0) (c:=xs.length+1) rfl rfl (by omega) (by omega) (by omega)) ?_;intro g)|refine Tc ?_|exact Tz)
  refine WC.loopI (σ:=Nat) (fun i=>i≤xs.length) (fun i=>[(0,.slice pt xs.length c),(3,.slice (some ⟨g,0,none⟩) i (xs.length+1)),(4,.int .i64 (i:Int))]) (fun i=>[⟨g,24,(xs.take i).flatMap numC++mkz (xs.length+1 - i) (numC 0)⟩]) (fun i=>xs.length - i) 0 (fun i hi=>?_) (Nat.zero_le _)
  try dsimp only at hi ⊢
  by_cases hlt:i<xs.length
  · obtain⟨x,hx⟩ : ∃ x,xs[i]?=some x:=⟨_,List.getElem?_eq_getElem hlt⟩
    rcases hpc with ⟨_,h0⟩|⟨b,o,rfl,hs⟩
    · rw[h0] at hlt;simp at hlt
    have hadd2:IntKind.i64.wrap ((i:Int)+1)=((i+1:Nat):Int):=i64_in' (by omega) (by omega) (by omega)
    have hcx:cut (xs.flatMap numC) (o+i*4 - o) 4=numC x:=by rw[Nat.add_sub_cancel_left];exact cut_flat numC_len hx
    have hov:=over_twin (f:=numC) (z:=numC 0) (m:=xs.length+1 - i) numC_len rfl hx (by omega)
    rw[show xs.length+1 - i - 1=xs.length+1 - (i+1) by omega] at hov
    have hle:i*(numC 0).length+(numC x).length≤((xs.take i).flatMap numC++mkz (xs.length+1 - i) (numC 0)).length:=by
      rw[List.length_append,flat_length numC_len,mkz_length,List.length_take,Nat.min_eq_left (by omega)]
      show i*4+4≤i*4+(xs.length+1 - i)*4
      have:1*4≤(xs.length+1 - i)*4:=Nat.mul_le_mul_right _ (by omega)
      omega
    repeat (first|refine Ta ?_|(refine Tm ?_;intro _)|refine Tc ?_|exact Tz)
    refine WC.dT rfl (by omega) ?_
    repeat (first|refine Ta ?_|(refine Tm ?_;intro _)|refine WO.does (does_indexSlice (o':=o+i*4) rfl rfl hlt rfl) ?_|refine WO.does (a_loadF (vs:=numC x) (hs:=hs) (hle:=Nat.le_add_right _ _) (hc:=hcx)) ?_|(refine WO.makes (makes_build (t:=30) (cs:=numC x) rfl (by decide) rfl) ?_;intro g2)|refine WO.both (app_room (s:=undef) (z:=numC 0) rfl rfl (Rds.own (m:=4) Hs.here rfl) rfl (by omega) rfl (by repeat (first|exact Rp.here|apply Rp.there)) hov hle rfl (by decide)) ?_|refine WO.does (does_add rfl rfl hadd2) ?_|refine Tc ?_|exact Tz)
    exact WX.metI (i+1) (hs:=⟨by show i+1≤xs.length;omega,by show xs.length - (i+1)<xs.length - i;omega⟩)
  · have hi2:i=xs.length:=by omega
    subst hi2
    have hov:=over_spare (f:=numC) (xs:=xs) (z:=numC 0) (s:=numC 77) numC_len rfl rfl
    have hle:xs.length*(numC 0).length+(numC 77).length≤(xs.flatMap numC++mkz 1 (numC 0)).length:=by
      rw[List.length_append,flat_length numC_len,mkz_length]
      show xs.length*4+4≤xs.length*4+1*4
      omega
    rw[List.take_length,show xs.length+1 - xs.length=1 by omega]
    repeat (first|refine Ta ?_|(refine Tm ?_;intro _)|refine Tc ?_|exact Tz)
    refine WC.dF rfl (by omega) ?_
    repeat (first|refine Ta ?_|(refine Tm ?_;intro _)|refine WO.does (does_buildA (cs:=numC 77) rfl rfl (by kernel_rfl)) ?_|(refine WO.makes (makes_build (t:=30) (cs:=numC 77) rfl (by decide) rfl) ?_;intro g2)|refine WO.both (app_room (s:=undef) (z:=numC 0) rfl rfl (Rds.own (m:=4) Hs.here rfl) rfl (by omega) rfl (by repeat (first|exact Rp.here|apply Rp.there)) hov hle rfl (by decide)) ?_|refine WO.does (does_sliceTo (h:=xs.length) rfl rfl (by omega)) ?_|refine Tc ?_|exact Tz)
    exact WX.retC
theorem t_TwinKeys (xs:List (Nat × Nat)) (pt:Option Addr) (c:Nat) (hn:xs.length≤100) :
    Fn Tryz.prog 20 [.slice pt xs.length c] (RdF keyC (.slice pt xs.length c) xs) (NewC 97 xs.length (xs.length+1) (xs.flatMap keyC++(twoC 77 0))):=by
  have hadd:IntKind.i64.wrap ((xs.length:Int)+1)=((xs.length+1:Nat):Int):=i64_in' (by omega) (by omega) (by omega)
  refine Fn.enter Tryz.func20 rfl rfl rfl ?_
  intro w hw
  obtain⟨pt',c',e,hpc⟩:=hw
  cases e
  repeat (first|refine Ta ?_|(refine Tm ?_;intro _)|refine WO.does (does_add rfl rfl hadd) ?_|(refine WO.makes (makes_slice (l:=0) (c:=xs.length+1) rfl rfl (by omega) (by omega) (by omega)) ?_;intro g)|refine Tc ?_|exact Tz)
  refine WC.loopI (σ:=Nat) (fun i=>i≤xs.length) (fun i=>[(0,.slice pt xs.length c),(3,.slice (some ⟨g,0,none⟩) i (xs.length+1)),(4,.int .i64 (i:Int))]) (fun i=>[⟨g,97,(xs.take i).flatMap keyC++mkz (xs.length+1 - i) (twoC 0 0)⟩]) (fun i=>xs.length - i) 0 (fun i hi=>?_) (Nat.zero_le _)
  try dsimp only at hi ⊢
  by_cases hlt:i<xs.length
  · obtain⟨x,hx⟩ : ∃ x,xs[i]?=some x:=⟨_,List.getElem?_eq_getElem hlt⟩
    rcases hpc with ⟨_,h0⟩|⟨b,o,rfl,hs⟩
    · rw[h0] at hlt;simp at hlt
    have hadd2:IntKind.i64.wrap ((i:Int)+1)=((i+1:Nat):Int):=i64_in' (by omega) (by omega) (by omega)
    have hcx:cut (xs.flatMap keyC) (o+i*8 - o) 8=keyC x:=by rw[Nat.add_sub_cancel_left];exact cut_flat keyC_len hx
    have hov:=over_twin (f:=keyC) (z:=twoC 0 0) (m:=xs.length+1 - i) keyC_len rfl hx (by omega)
    rw[show xs.length+1 - i - 1=xs.length+1 - (i+1) by omega] at hov
    have hle:i*(twoC 0 0).length+(keyC x).length≤((xs.take i).flatMap keyC++mkz (xs.length+1 - i) (twoC 0 0)).length:=by
      rw[List.length_append,flat_length keyC_len,mkz_length,List.length_take,Nat.min_eq_left (by omega)]
      show i*8+8≤i*8+(xs.length+1 - i)*8
      have:1*8≤(xs.length+1 - i)*8:=Nat.mul_le_mul_right _ (by omega)
      omega
    repeat (first|refine Ta ?_|(refine Tm ?_;intro _)|refine Tc ?_|exact Tz)
    refine WC.dT rfl (by omega) ?_
    repeat (first|refine Ta ?_|(refine Tm ?_;intro _)|refine WO.does (does_indexSlice (o':=o+i*8) rfl rfl hlt rfl) ?_|refine WO.does (a_loadF (vs:=keyC x) (hs:=hs) (hle:=Nat.le_add_right _ _) (hc:=hcx)) ?_|(refine WO.makes (makes_build (t:=27) (cs:=keyC x) rfl (by decide) rfl) ?_;intro g2)|refine WO.both (app_room (s:=undef) (z:=twoC 0 0) rfl rfl (Rds.own (m:=8) Hs.here rfl) rfl (by omega) rfl (by repeat (first|exact Rp.here|apply Rp.there)) hov hle rfl (by decide)) ?_|refine WO.does (does_add rfl rfl hadd2) ?_|refine Tc ?_|exact Tz)
    exact WX.metI (i+1) (hs:=⟨by show i+1≤xs.length;omega,by show xs.length - (i+1)<xs.length - i;omega⟩)
  · have hi2:i=xs.length:=by omega
    subst hi2
    have hov:=over_spare (f:=keyC) (xs:=xs) (z:=twoC 0 0) (s:=twoC 77 0) keyC_len rfl rfl
    have hle:xs.length*(twoC 0 0).length+(twoC 77 0).length≤(xs.flatMap keyC++mkz 1 (twoC 0 0)).length:=by
      rw[List.length_append,flat_length keyC_len,mkz_length]
      show xs.length*8+8≤xs.length*8+1*8
      omega
    rw[List.take_length,show xs.length+1 - xs.length=1 by omega]
    repeat (first|refine Ta ?_|(refine Tm ?_;intro _)|refine Tc ?_|exact Tz)
    refine WC.dF rfl (by omega) ?_
    repeat (first|refine Ta ?_|(refine Tm ?_;intro _)|refine WO.does (does_buildA (cs:=numC 77) rfl rfl (by kernel_rfl)) ?_|refine WO.does (does_buildT (t:=97) (cs:=twoC 77 0) rfl (by kernel_rfl)) ?_|(refine WO.makes (makes_build (t:=27) (cs:=twoC 77 0) rfl (by decide) rfl) ?_;intro g2)|refine WO.both (app_room (s:=undef) (z:=twoC 0 0) rfl rfl (Rds.own (m:=8) Hs.here rfl) rfl (by omega) rfl (by repeat (first|exact Rp.here|apply Rp.there)) hov hle rfl (by decide)) ?_|refine WO.does (does_sliceTo (h:=xs.length) rfl rfl (by omega)) ?_|refine Tc ?_|exact Tz)
    exact WX.retC
end Sx
end Go.Proofs.YtiiacjladnljhaaGreatDoor
namespace Go.Proofs.YtiiacjladnljhaaGreatDoor
open Go Go.RowKit Go.BigFrame
namespace Sx
attribute [local irreducible] wd DQ DQS WO WC WX
theorem cut_flatL {α:Type} {f:α→List Value} {k:Nat} (hk:∀ x,(f x).length=k) {xs:List α} {r:List Value} {i:Nat} {x:α} (h:xs[i]?=some x):cut (xs.flatMap f++r) (i*k) k=f x:=by
  have hi:i<xs.length:=by
    rcases Nat.lt_or_ge i xs.length with h1|h1
    · exact h1
    · rw[List.getElem?_eq_none h1] at h;cases h
  have h1:=cut_flat hk h
  have hl:=flat_length hk xs
  have h2:i*k+k≤xs.length*k:=by rw[← Nat.succ_mul];exact Nat.mul_le_mul_right _ hi
  unfold cut at *
  rw[List.drop_append,List.take_append,List.length_drop]
  rw[h1,show k - ((xs.flatMap f).length - i*k)=0 by omega]
  simp
theorem cut_flatE {α:Type} {f:α→List Value} {k:Nat} (hk:∀ x,(f x).length=k) {xs:List α} {r:List Value} (hr:r.length=k):cut (xs.flatMap f++r) (xs.length*k) k=r:=by
  rw[← flat_length hk xs,← hr]
  exact cut_flatS (k:=k)
set_option maxHeartbeats 2000000
theorem t_LeftNums (xs:List (Nat)) (pt:Option Addr) (c bt:Nat) (hn:xs.length≤100) :
    Fn Tryz.prog 15 [.slice (some ⟨bt,0,none⟩) xs.length (xs.length+1),.slice pt xs.length c] (fun w=>Seg w bt 0 (xs.flatMap numC++(numC 77))∧RdF numC (.slice pt xs.length c) xs w) (Is (.bool true)):=by
  have hadd:IntKind.i64.wrap ((xs.length:Int)+1)=((xs.length+1:Nat):Int):=i64_in' (by omega) (by omega) (by omega)
  have d0:decide ((xs.length:Int)≠(xs.length:Int))=false:=decide_eq_false (fun h=>h rfl)
  have d1:decide (((xs.length+1:Nat):Int)≤(xs.length:Int))=false:=decide_eq_false (by omega)
  refine Fn.enter Tryz.func15 rfl rfl rfl ?_
  intro w hw
  obtain⟨hwT,pt',c',e,hpc⟩:=hw
  cases e
  repeat (first|refine Ta ?_|(refine Tm ?_;intro _)|refine Tc ?_|exact Tz)
  rw[d0]
  repeat (first|refine Ta ?_|(refine Tm ?_;intro _)|refine WO.does (does_cap rfl) ?_|refine Tc ?_|exact Tz)
  rw[d1]
  repeat (first|refine Ta ?_|(refine Tm ?_;intro _)|refine Tc ?_|exact Tz)
  refine WC.loopI (σ:=Nat) (fun i=>i≤xs.length) (fun i=>[(0,.slice (some ⟨bt,0,none⟩) xs.length (xs.length+1)),(1,.slice pt xs.length c),(5,.int .i64 (i:Int))]) (fun i=>[]) (fun i=>xs.length - i) 0 (fun i hi=>?_) (Nat.zero_le _)
  try dsimp only at hi ⊢
  by_cases hlt:i<xs.length
  · obtain⟨x,hx⟩ : ∃ x,xs[i]?=some x:=⟨_,List.getElem?_eq_getElem hlt⟩
    rcases hpc with ⟨_,h0⟩|⟨b,o,rfl,hs⟩
    · rw[h0] at hlt;simp at hlt
    have hadd2:IntKind.i64.wrap ((i:Int)+1)=((i+1:Nat):Int):=i64_in' (by omega) (by omega) (by omega)
    have hcx:cut (xs.flatMap numC) (o+i*4 - o) 4=numC x:=by rw[Nat.add_sub_cancel_left];exact cut_flat numC_len hx
    have hct:cut (xs.flatMap numC++(numC 77)) (0+i*4 - 0) 4=numC x:=by rw[Nat.zero_add,Nat.sub_zero];exact cut_flatL numC_len hx
    repeat (first|refine Ta ?_|(refine Tm ?_;intro _)|refine Tc ?_|exact Tz)
    refine WC.dT rfl (by omega) ?_
    repeat (first|refine Ta ?_|(refine Tm ?_;intro _)|refine Tc ?_|exact Tz)
    refine WC.adraw 9 (k:=?_)
    iterate 9 (first|refine Da ?_|refine DQ.does (fun s _=>does_indexSlice (o':=o+i*4) rfl rfl hlt rfl) Dp.const ?_|refine DQ.does (fun s _=>does_indexSlice (o':=0+i*4) rfl rfl hlt rfl) Dp.const ?_|refine DQ.does (fun s _=>a_loadF (vs:=numC x) (hs:=hs) (hle:=Nat.le_add_right _ _) (hc:=hcx)) Dp.const ?_|refine DQ.does (fun s _=>a_loadF (vs:=numC x) (hs:=hwT) (hle:=Nat.zero_le _) (hc:=hct)) Dp.const ?_|refine DQ.does (fun s _=>a_neqSame rfl rfl (fun w=>same_num x w) (fun w=>run_eqGuard_num _ _ _ _ _ w)) Dp.const ?_|refine Dc ?_)
    refine DQ.anil (k:=?_)
    intro sx _
    repeat (first|refine Ta ?_|(refine Tm ?_;intro _)|refine WO.does (does_add rfl rfl hadd2) ?_|refine Tc ?_|exact Tz)
    exact WX.metI (i+1) (hs:=⟨by show i+1≤xs.length;omega,by show xs.length - (i+1)<xs.length - i;omega⟩)
  · have hi2:i=xs.length:=by omega
    subst hi2
    have hct:cut (xs.flatMap numC++(numC 77)) (0+xs.length*4 - 0) 4=numC 77:=by rw[Nat.zero_add,Nat.sub_zero];exact cut_flatE numC_len rfl
    have h77:(77:Nat)<B256:=B256_of (by decide)
    repeat (first|refine Ta ?_|(refine Tm ?_;intro _)|refine Tc ?_|exact Tz)
    refine WC.dF rfl (by omega) ?_
    repeat (first|refine Ta ?_|(refine Tm ?_;intro _)|refine WO.does (does_add rfl rfl hadd) ?_|refine WO.does (does_sliceTo (h:=xs.length+1) rfl rfl (Nat.le_refl _)) ?_|refine WO.does (does_indexSlice (o':=0+xs.length*4) rfl rfl (Nat.lt_succ_self _) rfl) ?_|refine WO.does (a_loadF (vs:=numC 77) (hs:=hwT) (hle:=Nat.zero_le _) (hc:=hct)) ?_|refine WO.does (does_buildA (cs:=numC 77) rfl rfl (by kernel_rfl)) ?_|refine WO.does (a_eqNum (ha:=h77) (hb:=h77)) ?_|refine Tc ?_|exact Tz)
theorem t_LeftKeys (xs:List (Nat × Nat)) (pt:Option Addr) (c bt:Nat) (hn:xs.length≤100) :
    Fn Tryz.prog 36 [.slice (some ⟨bt,0,none⟩) xs.length (xs.length+1),.slice pt xs.length c] (fun w=>Seg w bt 0 (xs.flatMap keyC++(twoC 77 0))∧RdF keyC (.slice pt xs.length c) xs w) (Is (.bool true)):=by
  have hadd:IntKind.i64.wrap ((xs.length:Int)+1)=((xs.length+1:Nat):Int):=i64_in' (by omega) (by omega) (by omega)
  have d0:decide ((xs.length:Int)≠(xs.length:Int))=false:=decide_eq_false (fun h=>h rfl)
  have d1:decide (((xs.length+1:Nat):Int)≤(xs.length:Int))=false:=decide_eq_false (by omega)
  refine Fn.enter Tryz.func36 rfl rfl rfl ?_
  intro w hw
  obtain⟨hwT,pt',c',e,hpc⟩:=hw
  cases e
  repeat (first|refine Ta ?_|(refine Tm ?_;intro _)|refine Tc ?_|exact Tz)
  rw[d0]
  repeat (first|refine Ta ?_|(refine Tm ?_;intro _)|refine WO.does (does_cap rfl) ?_|refine Tc ?_|exact Tz)
  rw[d1]
  repeat (first|refine Ta ?_|(refine Tm ?_;intro _)|refine Tc ?_|exact Tz)
  refine WC.loopI (σ:=Nat) (fun i=>i≤xs.length) (fun i=>[(0,.slice (some ⟨bt,0,none⟩) xs.length (xs.length+1)),(1,.slice pt xs.length c),(5,.int .i64 (i:Int))]) (fun i=>[]) (fun i=>xs.length - i) 0 (fun i hi=>?_) (Nat.zero_le _)
  try dsimp only at hi ⊢
  by_cases hlt:i<xs.length
  · obtain⟨x,hx⟩ : ∃ x,xs[i]?=some x:=⟨_,List.getElem?_eq_getElem hlt⟩
    rcases hpc with ⟨_,h0⟩|⟨b,o,rfl,hs⟩
    · rw[h0] at hlt;simp at hlt
    have hadd2:IntKind.i64.wrap ((i:Int)+1)=((i+1:Nat):Int):=i64_in' (by omega) (by omega) (by omega)
    have hcx:cut (xs.flatMap keyC) (o+i*8 - o) 8=keyC x:=by rw[Nat.add_sub_cancel_left];exact cut_flat keyC_len hx
    have hct:cut (xs.flatMap keyC++(twoC 77 0)) (0+i*8 - 0) 8=keyC x:=by rw[Nat.zero_add,Nat.sub_zero];exact cut_flatL keyC_len hx
    repeat (first|refine Ta ?_|(refine Tm ?_;intro _)|refine Tc ?_|exact Tz)
    refine WC.dT rfl (by omega) ?_
    repeat (first|refine Ta ?_|(refine Tm ?_;intro _)|refine Tc ?_|exact Tz)
    refine WC.adraw 9 (k:=?_)
    iterate 9 (first|refine Da ?_|refine DQ.does (fun s _=>does_indexSlice (o':=o+i*8) rfl rfl hlt rfl) Dp.const ?_|refine DQ.does (fun s _=>does_indexSlice (o':=0+i*8) rfl rfl hlt rfl) Dp.const ?_|refine DQ.does (fun s _=>a_loadF (vs:=keyC x) (hs:=hs) (hle:=Nat.le_add_right _ _) (hc:=hcx)) Dp.const ?_|refine DQ.does (fun s _=>a_loadF (vs:=keyC x) (hs:=hwT) (hle:=Nat.zero_le _) (hc:=hct)) Dp.const ?_|refine DQ.does (fun s _=>a_neqSame rfl rfl (fun w=>same_key x.1 x.2 w) (fun w=>guard_key _ _ _ _ _ w)) Dp.const ?_|refine Dc ?_)
    refine DQ.anil (k:=?_)
    intro sx _
    repeat (first|refine Ta ?_|(refine Tm ?_;intro _)|refine WO.does (does_add rfl rfl hadd2) ?_|refine Tc ?_|exact Tz)
    exact WX.metI (i+1) (hs:=⟨by show i+1≤xs.length;omega,by show xs.length - (i+1)<xs.length - i;omega⟩)
  · have hi2:i=xs.length:=by omega
    subst hi2
    have hct:cut (xs.flatMap keyC++(twoC 77 0)) (0+xs.length*8 - 0) 8=twoC 77 0:=by rw[Nat.zero_add,Nat.sub_zero];exact cut_flatE keyC_len rfl
    have h77:(77:Nat)<B256:=B256_of (by decide)
    repeat (first|refine Ta ?_|(refine Tm ?_;intro _)|refine Tc ?_|exact Tz)
    refine WC.dF rfl (by omega) ?_
    repeat (first|refine Ta ?_|(refine Tm ?_;intro _)|refine WO.does (does_add rfl rfl hadd) ?_|refine WO.does (does_sliceTo (h:=xs.length+1) rfl rfl (Nat.le_refl _)) ?_|refine WO.does (does_indexSlice (o':=0+xs.length*8) rfl rfl (Nat.lt_succ_self _) rfl) ?_|refine WO.does (a_loadF (vs:=twoC 77 0) (hs:=hwT) (hle:=Nat.zero_le _) (hc:=hct)) ?_|refine WO.does (does_buildA (cs:=numC 77) rfl rfl (by kernel_rfl)) ?_|refine WO.does (a_eqNum (ha:=h77) (hb:=h77)) ?_|refine Tc ?_|exact Tz)
end Sx
end Go.Proofs.YtiiacjladnljhaaGreatDoor
namespace Go.Proofs.YtiiacjladnljhaaGreatDoor
open Go Go.RowKit Go.BigFrame
namespace Sx
attribute [local irreducible] DQ DQS WO WC WX
def kB (p q a:Nat):Bool:=gIn p q a && decide (a≠1)
abbrev stC (p q g h:Nat) (f sec:Int) (ns:Value):List Value:=[.int .u64 ((wd 0 p:Nat):Int),.int .u64 ((wd 1 p:Nat):Int),.int .u64 ((wd 2 p:Nat):Int),.int .u64 ((wd 3 p:Nat):Int),.int .u64 ((wd 0 q:Nat):Int),.int .u64 ((wd 1 q:Nat):Int),.int .u64 ((wd 2 q:Nat):Int),.int .u64 ((wd 3 q:Nat):Int),.int .u64 ((wd 0 g:Nat):Int),.int .u64 ((wd 1 g:Nat):Int),.int .u64 ((wd 2 g:Nat):Int),.int .u64 ((wd 3 g:Nat):Int),.int .u64 ((wd 0 h:Nat):Int),.int .u64 ((wd 1 h:Nat):Int),.int .u64 ((wd 2 h:Nat):Int),.int .u64 ((wd 3 h:Nat):Int),.int .i64 f,.int .i64 sec,ns]
abbrev stV (p q g h:Nat) (f sec:Int) (ns:Value):Value:=.agg #[.int .u64 ((wd 0 p:Nat):Int),.int .u64 ((wd 1 p:Nat):Int),.int .u64 ((wd 2 p:Nat):Int),.int .u64 ((wd 3 p:Nat):Int),.int .u64 ((wd 0 q:Nat):Int),.int .u64 ((wd 1 q:Nat):Int),.int .u64 ((wd 2 q:Nat):Int),.int .u64 ((wd 3 q:Nat):Int),.int .u64 ((wd 0 g:Nat):Int),.int .u64 ((wd 1 g:Nat):Int),.int .u64 ((wd 2 g:Nat):Int),.int .u64 ((wd 3 g:Nat):Int),.int .u64 ((wd 0 h:Nat):Int),.int .u64 ((wd 1 h:Nat):Int),.int .u64 ((wd 2 h:Nat):Int),.int .u64 ((wd 3 h:Nat):Int),.int .i64 f,.int .i64 sec,ns]
section
variable (p q g h:Nat)
theorem c_keys1 (a gG:Nat) (ha:a<B256) (hp:p<B256) (hq:q<B256):Fn Tryz.prog 155 ([numV a]++[pt gG]) (fun w=>Seg w gG 0 (grpC p q g h)) (Is (.bool (!kB p q a))):=by
  have hI:=c_gIn p q g h a ha hp hq
  unfold kB
  cases e:gIn p q a with
  | false =>
    rw[e] at hI
    refine Fn.enter Tryz.func155 rfl rfl rfl ?_
    intro w hw
    repeat (first|refine Ta ?_|(refine Tm ?_;intro _)|refine WO.acall (hc:=hI) (k:=?_)|refine Tc ?_|exact Tz)
  | true =>
    rw[e] at hI
    by_cases h1:a=1
    · have d1:decide (a=1)=true:=decide_eq_true h1
      rw[show (!(true && decide (a≠1)))=true by simp[h1]]
      refine Fn.enter Tryz.func155 rfl rfl rfl ?_
      intro w hw
      repeat (first|refine Ta ?_|(refine Tm ?_;intro _)|refine WO.acall (hc:=hI) (k:=?_)|refine WO.does (does_buildA (cs:=numC 1) rfl rfl rfl) ?_|refine WO.does a_eqNum ?_|refine Tc ?_|exact Tz)
      rw[d1]
      repeat (first|refine Ta ?_|(refine Tm ?_;intro _)|refine Tc ?_|exact Tz)
    · have d1:decide (a=1)=false:=decide_eq_false h1
      rw[show (!(true && decide (a≠1)))=false by simp[h1]]
      refine Fn.enter Tryz.func155 rfl rfl rfl ?_
      intro w hw
      repeat (first|refine Ta ?_|(refine Tm ?_;intro _)|refine WO.acall (hc:=hI) (k:=?_)|refine WO.does (does_buildA (cs:=numC 1) rfl rfl rfl) ?_|refine WO.does a_eqNum ?_|refine Tc ?_|exact Tz)
      rw[d1]
      repeat (first|refine Ta ?_|(refine Tm ?_;intro _)|refine Tc ?_|exact Tz)
theorem c_keys (a c b:Nat) (ha:a<B256) (hc:c<B256) (hp:p<B256) (hq:q<B256):Fn Tryz.prog 92 [grpV p q g h,.slice (some ⟨b,0,none⟩) 2 2] (fun w=>Seg w b 0 (numC a++numC c)) (Is (.bool (kB p q a && kB p q c))):=by
  have hC:=fun gG=>c_ContainsNum [pt gG] (fun x=>!kB p q x) [a,c] b 0 2 (fun w=>Seg w gG 0 (grpC p q g h)) Stable.seg (by simp) (f:=155) (fun x hx=>by
    simp only[List.mem_cons,List.not_mem_nil,or_false] at hx
    rcases hx with rfl|rfl
    · exact c_keys1 p q g h _ gG ha hp hq
    · exact c_keys1 p q g h _ gG hc hp hq)
  have e:[a,c].any (fun x=>!kB p q x) = !(kB p q a && kB p q c):=by simp[Bool.not_and]
  have e2:[a,c].flatMap numC=numC a++numC c:=rfl
  rw[e,e2] at hC
  generalize (kB p q a && kB p q c)=r at *
  refine Fn.enter Tryz.func92 rfl rfl rfl ?_
  intro w hw
  repeat (first|refine Ta ?_|(refine Tm ?_;intro _)|refine WO.acallR (hc:=hC _) (hR:=fun w' hm=>⟨hw.mod hm.mod (by simp),Hs.seg (by repeat (first|exact Hs.here|apply Hs.there)) hm⟩) (k:=?_)|refine Tc ?_|exact Tz)
  rw[Bool.not_not]
  repeat (first|refine Ta ?_|(refine Tm ?_;intro _)|refine Tc ?_|exact Tz)
theorem c_Setting1 (f sec:Int) (ns:Value) (k:Nat × Nat) (gS:Nat) (h1:k.1<B256) (h2:k.2<B256) (hp:p<B256) (hq:q<B256):Fn Tryz.prog 94 ([keyV k]++[pt gS]) (fun w=>Seg w gS 0 (stC p q g h f sec ns)) (Is (.bool (!(kB p q k.1 && kB p q k.2)))):=by
  have hK:=fun b=>c_keys p q g h k.1 k.2 b h1 h2 hp hq
  generalize (kB p q k.1 && kB p q k.2)=r at *
  obtain⟨k1,k2⟩:=k
  dsimp only at hK
  refine Fn.enter Tryz.func94 rfl rfl rfl ?_
  intro w hw
  repeat (first|refine Ta ?_|(refine Tm ?_;intro _)|(refine WO.makes (makes_build (cs:=numC k1++numC k2) rfl (by decide) rfl) ?_;intro _)|refine WO.acallR (hc:=hK _) (hR:=fun w' hm=>Hs.seg (by repeat (first|exact Hs.here|apply Hs.there)) hm) (k:=?_)|refine Tc ?_|exact Tz)
end
end Sx
end Go.Proofs.YtiiacjladnljhaaGreatDoor
