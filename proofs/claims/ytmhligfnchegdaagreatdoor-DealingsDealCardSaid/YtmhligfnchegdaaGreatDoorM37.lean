/- Part 37 of the proof: QlA, QlB, ScA, SnA, DeA -/
import Derived.Test.YtmhligfnchegdaaGreatDoorM34
import Derived.Test.YtmhligfnchegdaaGreatDoorM31
import Derived.Test.YtmhligfnchegdaaGreatDoorM32
import Derived.Test.YtmhligfnchegdaaGreatDoorM30
import Derived.Test.YtmhligfnchegdaaGreatDoorM35
import Derived.Test.YtmhligfnchegdaaGreatDoorM36
set_option linter.unusedSimpArgs false
set_option linter.unusedVariables false
namespace Go.Proofs.YtmhligfnchegdaaGreatDoor
open Go Go.RowKit Go.BigFrame
namespace Sx
attribute [local irreducible] wd DQ DQS WO WC WX
theorem mayN_self (a q:Nat):mayN a a q=(decide (1<q) && decide (a<q)):=by
  unfold mayN
  cases decide (1<q)<;>cases decide (a<q)<;>rfl
section
variable (p q g h:Nat)
theorem r10_below (a:Nat) (ha:a<B256) (hq:q<B256):Fn Tryz.prog 209 [grpV p q g h,numV a] Tr (Is (.bool (mayN a a q))):=by
  have hO:=r9_Add p q g h a a ha ha hq
  generalize mayN a a q=b at *
  generalize (a+a)%q=R at *
  refine Fn.enter Tryz.func209 rfl rfl rfl ?_
  intro w hw
  repeat (first|refine Ta ?_|(refine Tm ?_;intro _)|refine WO.acall (hc:=hO) (k:=?_)|refine Tc ?_|exact Tz)
  cases b<;>exact WX.aret1 (hp:=rfl)
theorem r10_plus (a b:Nat) (ha:a<B256) (hb:b<B256) (hq:q<B256):Fn Tryz.prog 254 [grpV p q g h,numV a,numV b] Tr (Is (numV (okV (mayN a b q) ((a+b)%q)))):=by
  have hO:=r9_Add p q g h a b ha hb hq
  refine Fn.enter Tryz.func254 rfl rfl rfl ?_
  intro w hw
  repeat (first|refine Ta ?_|(refine Tm ?_;intro _)|refine WO.acall (hc:=hO) (k:=?_)|refine Tc ?_|exact Tz)
theorem r10_times (a b:Nat) (ha:a<B256) (hb:b<B256) (hq:q<B256):Fn Tryz.prog 255 [grpV p q g h,numV a,numV b] Tr (Is (numV (okV (mayN a b q) (a*b%q)))):=by
  have hO:=r9_Mul p q g h a b ha hb hq
  refine Fn.enter Tryz.func255 rfl rfl rfl ?_
  intro w hw
  repeat (first|refine Ta ?_|(refine Tm ?_;intro _)|refine WO.acall (hc:=hO) (k:=?_)|refine Tc ?_|exact Tz)
set_option maxHeartbeats 1000000 in
theorem r10_All (l:List Nat) (pt:Option Addr) (c:Nat) (hl:∀ x∈l,x<B256) (hn:l.length≤1099511627776) (hq:q<B256) :
    Fn Tryz.prog 125 [grpV p q g h,.slice pt l.length c] (RdF numC (.slice pt l.length c) l) (Is (.bool (allN q l))):=by
  have h0:=r10_below p q g h 0 B256_zero hq
  have hb:=fun x (hx:x<B256)=>r10_below p q g h x hx hq
  by_cases h1:1<q
  · rw[show mayN 0 0 q=true by rw[mayN_self];simp;omega] at h0
    refine Fn.enter Tryz.func125 rfl rfl rfl ?_
    intro w hw
    obtain⟨pt',c',e,hpc⟩:=hw
    cases e
    repeat (first|refine Ta ?_|(refine Tm ?_;intro _)|refine WO.acall (hc:=h0) (k:=?_)|refine Tc ?_|exact Tz)
    rename_i g2
    refine WC.loopI (σ:=Nat) (fun i=>i≤l.length∧∀ j,j<i→∀ x,l[j]?=some x→decide (x<q)=true) (fun i=>[(1,.slice pt l.length c),(2,Sx.pt g2),(5,.int .i64 (i:Int))]) (fun i=>[⟨g2,26,grpC p q g h⟩]) (fun i=>l.length - i) 0 (fun i hi=>?_) ⟨Nat.zero_le _,fun j hj=>by omega⟩
    try dsimp only at hi ⊢
    obtain⟨hi,hi2⟩:=hi
    by_cases hlt:i<l.length
    · obtain⟨x,hx⟩ : ∃ x,l[i]?=some x:=⟨_,List.getElem?_eq_getElem hlt⟩
      rcases hpc with ⟨_,h0⟩|⟨b,o,rfl,hs⟩
      · rw[h0] at hlt;simp at hlt
      have hadd2:IntKind.i64.wrap ((i:Int)+1)=((i+1:Nat):Int):=i64_in' (by omega) (by omega) (by omega)
      have hcx:cut (l.flatMap numC) (o+i*4 - o) 4=numC x:=by rw[Nat.add_sub_cancel_left];exact cut_flat numC_len hx
      have hbx:=hb x (hl x (List.mem_of_getElem? hx))
      rw[mayN_self,decide_eq_true h1,Bool.true_and] at hbx
      repeat (first|refine Ta ?_|(refine Tm ?_;intro _)|refine Tc ?_|exact Tz)
      refine WC.dT rfl (by omega) ?_
      cases hxq:(decide (x<q):Bool) with
      | false =>
        rw[hxq] at hbx
        have:allN q l=false:=allN_no hx hxq
        rw[this]
        repeat (first|refine Ta ?_|(refine Tm ?_;intro _)|refine Tc ?_|exact Tz)
        refine WC.adraw 6 (k:=?_)
        iterate 6 (first|refine Da ?_|refine DQ.does (fun s _=>does_indexSlice (o':=o+i*4) rfl rfl hlt rfl) Dp.const ?_|refine DQ.does (fun s _=>a_loadF (vs:=numC x) (hs:=hs) (hle:=Nat.le_add_right _ _) (hc:=hcx)) Dp.const ?_|refine DQ.acall (hc:=hbx) (k:=?_)|refine Dc ?_)
        refine DQ.anil (k:=?_)
        intro sx _
        repeat (first|refine Ta ?_|(refine Tm ?_;intro _)|refine Tc ?_|exact Tz)
        done
      | true =>
        rw[hxq] at hbx
        repeat (first|refine Ta ?_|(refine Tm ?_;intro _)|refine Tc ?_|exact Tz)
        refine WC.adraw 6 (k:=?_)
        iterate 6 (first|refine Da ?_|refine DQ.does (fun s _=>does_indexSlice (o':=o+i*4) rfl rfl hlt rfl) Dp.const ?_|refine DQ.does (fun s _=>a_loadF (vs:=numC x) (hs:=hs) (hle:=Nat.le_add_right _ _) (hc:=hcx)) Dp.const ?_|refine DQ.acall (hc:=hbx) (k:=?_)|refine Dc ?_)
        refine DQ.anil (k:=?_)
        intro sx _
        repeat (first|refine Ta ?_|(refine Tm ?_;intro _)|refine WO.does (does_add rfl rfl hadd2) ?_|refine Tc ?_|exact Tz)
        exact WX.metI (i+1) (hs:=⟨⟨by show i+1≤l.length;omega,fun j hj y hy=>by
          rcases Nat.lt_or_ge j i with h|h
          · exact hi2 j h y hy
          · have:j=i:=by omega
            subst this
            rw[hx] at hy;cases hy;exact hxq⟩,by show l.length - (i+1)<l.length - i;omega⟩)
    · have hi3:i=l.length:=by omega
      have:allN q l=true:=allN_yes h1 (by rw[← hi3];exact hi2)
      rw[this]
      repeat (first|refine Ta ?_|(refine Tm ?_;intro _)|refine Tc ?_|exact Tz)
      refine WC.dF rfl (by omega) ?_
      repeat (first|refine Ta ?_|(refine Tm ?_;intro _)|refine Tc ?_|exact Tz)
      done
  · rw[show mayN 0 0 q=false by rw[mayN_self,decide_eq_false h1];rfl] at h0
    rw[show allN q l=false by unfold allN;rw[decide_eq_false h1];rfl]
    clear hb
    refine Fn.enter Tryz.func125 rfl rfl rfl ?_
    intro w hw
    repeat (first|refine Ta ?_|(refine Tm ?_;intro _)|refine WO.acall (hc:=h0) (k:=?_)|refine Tc ?_|exact Tz)
    done
end
end Sx
end Go.Proofs.YtmhligfnchegdaaGreatDoor
namespace Go.Proofs.YtmhligfnchegdaaGreatDoor
open Go Go.RowKit Go.BigFrame
namespace Sx
attribute [local irreducible] wd DQ DQS WO WC WX
section
variable (p q g h:Nat)
theorem r9_OfP (m:Nat) (hm:m<9223372036854775808) (hq:q<B256):Fn Tryz.prog 213 [grpV p q g h,.int .i64 (m:Int)] Tr (Is (numV (ofZ q (m:Int)))):=by
  have hO:=r_Of m (by omega)
  have hcv:IntKind.u64.wrap (m:Int)=(m:Int):=u64_in (by omega) (by omega)
  by_cases h0:q=0
  · subst h0
    rw[ofZ_zero]
    refine Fn.enter Tryz.func213 rfl rfl rfl ?_
    intro w hw
    repeat (first|refine Ta ?_|(refine Tm ?_;intro _)|refine Tc ?_|exact Tz)
    done
  · have hD:=r_Div m q (B256_of (by omega)) hq (by omega)
    rw[ofZ_nat q m (by omega)]
    generalize m / q=D at *
    generalize hR:m%q=R at *
    have d0:decide (q=0)=false:=decide_eq_false h0
    refine Fn.enter Tryz.func213 rfl rfl rfl ?_
    intro w hw
    repeat (first|refine Ta ?_|(refine Tm ?_;intro _)|refine Tc ?_|exact Tz)
    rw[d0]
    repeat (first|refine Ta ?_|(refine Tm ?_;intro _)|refine WO.does (does_geqY rfl rfl (by omega)) ?_|refine Tc ?_|exact Tz)
    refine WC.adrawF [8,9] 12 (k:=?_)
    repeat (first|refine Da ?_|refine DQ.acall (hc:=hO) (k:=?_)|refine DQ.does (fun s _=>does_conv rfl hcv) Dp.const ?_|refine DQ.acall (hc:=hD) (k:=?_)|refine Df ?_)
    refine DQ.anil (k:=?_)
    intro sx _
    repeat (first|refine Ta ?_|(refine Tm ?_;intro _)|refine Tc ?_|exact Tz)
    done
end
end Sx
end Go.Proofs.YtmhligfnchegdaaGreatDoor
namespace Go.Proofs.YtmhligfnchegdaaGreatDoor
open Go Go.RowKit Go.BigFrame
namespace Sx
attribute [local irreducible] wd DQ DQS WO WC WX
theorem c_amount (m:Nat) (hm:m<9223372036854775808):Fn Tryz.prog 227 [.int .i64 (m:Int)] Tr (Is (.tuple #[.int .u64 (m:Int),.int .i64 0])):=by
  have hcv:IntKind.u64.wrap (m:Int)=(m:Int):=u64_in (by omega) (by omega)
  refine Fn.enter Tryz.func227 rfl rfl rfl ?_
  intro w hw
  repeat (first|refine Ta ?_|(refine Tm ?_;intro _)|refine WO.does (does_lssN rfl rfl (by omega)) ?_|refine WO.does (does_conv rfl hcv) ?_|refine Tc ?_|exact Tz)
  done
section
variable (p q g h gV gG:Nat)
theorem c_ScOf1 (a b:Nat) (ha:a<q) (hb:b<q) (h1:1<q) (hq:q<B256):FnM Tryz.prog 228 [numV b,pt gV,pt gG] gV 24 (numC a) (numC ((a+b)%q)) (fun w=>Seg w gG 0 (grpC p q g h)∧gG≠gV) (.tuple #[]):=by
  have hA:=c_Add a b q (Nat.lt_trans ha hq) (Nat.lt_trans hb hq) hq
  rw[show mayN a b q=true by simp[mayN,h1,ha,hb]] at hA
  generalize (a+b)%q=R at *
  refine FnM.enter Tryz.func228 rfl rfl rfl ?_
  intro w ⟨hw,hne⟩
  have hbG:gG ∉ [gV]:=by simpa using hne
  repeat (first|refine WO.does (a_loadF (vs:=numC q) (hs:=hw) (hb:=hbG)) ?_|refine Ta ?_|(refine Tm ?_;intro _)|refine WO.acall (hc:=hA) (k:=?_)|refine Tc ?_|exact Tz)
  exact WX.retM_ofN (res0 rfl) (by repeat (first|exact Hs.here|apply Hs.there))
def topN (m k i:Nat):Nat:=m / 2 ^ (k - i)
theorem topN_step {m k i:Nat} (h:i<k):topN m k (i+1)=2*topN m k i+m / 2 ^ (k - 1 - i)%2:=by
  unfold topN
  rw[show k - (i+1)=k - 1 - i by omega,show k - i=(k - 1 - i)+1 by omega,Nat.pow_succ,← Nat.div_div_eq_div_mul]
  omega
theorem topN_zero {m k:Nat} (h:m<2 ^ k):topN m k 0=0:=by unfold topN;exact Nat.div_eq_of_lt h
theorem topN_all (m k:Nat):topN m k k=m:=by unfold topN;rw[Nat.sub_self,Nat.pow_zero,Nat.div_one]
theorem c_Len64 (m:Nat) (hm:m<9223372036854775808):Fn Tryz.prog 229 [.int .u64 (m:Int)] Tr (Is (.int .i64 (bitsN m:Nat))):=.of fun w=>(Tryz.bits_Len64 (m:Int) w (by omega) (by omega)).mono fun e w' h=>by
  obtain⟨rfl,rfl⟩:=h
  refine⟨?_,Below.refl _ _⟩
  have:=bitLen_eq (x:=m) (by omega)
  rw[Int.toNat_natCast,this]
set_option maxHeartbeats 1000000 in
theorem c_ScOf (m:Nat) (hm:m<9223372036854775808) (hq:q<B256):Fn Tryz.prog 187 [grpV p q g h,.int .i64 (m:Int)] Tr (Is (numV (ofZ q (m:Int)))):=by
  have hB:=c_Bits q hq
  by_cases h1:1<q
  · have hb2:¬ ((bitsN q:Nat):Int)<2:=by
      have:¬ bitsN q≤1:=by rw[bitsN_le_iff];omega
      omega
    have hA:=c_amount m hm
    have hL:=c_Len64 m hm
    have hlb:=bitsN_le (k:=63) (x:=m) (by omega)
    have htop:=topN_zero (lt_bitsN m)
    have hall:=topN_all m (bitsN m)
    rw[ofZ_nat q m (by omega)]
    generalize bitsN q=bq at *
    generalize bitsN m=k at *
    have hC:=fun gV gG a b (ha:a<q) (hb:b<q)=>(c_ScOf1 p q g h gV gG a b ha hb h1 hq).toL
    have h0:=c_Of 0
    have hO1:=c_Of 1
    refine Fn.enter Tryz.func187 rfl rfl rfl ?_
    intro w hw
    repeat (first|refine Ta ?_|(refine Tm ?_;intro _)|refine WO.acall (hc:=hB) (k:=?_)|refine WO.does (does_lssN rfl rfl hb2) ?_|refine WO.acall (hc:=hA) (k:=?_)|refine WO.acall (hc:=h0) (k:=?_)|refine WO.acall (hc:=hL) (k:=?_)|refine WO.does (does_func rfl rfl) ?_|refine Tc ?_|exact Tz)
    rename_i g2 g4 gV
    refine WC.ndp' (fun hnd=>?_)
    have hne:g2≠gV:=by intro e;simp[e] at hnd
    clear hnd
    refine WC.loopI (σ:=Nat) (fun i=>i≤k) (fun i=>[(2,Sx.pt g2),(4,Sx.pt g4),(5,.int .u64 (m:Int)),(6,.int .i64 0),(7,Sx.pt gV),(8,.func (.func 228) #[] #[Sx.pt gV,Sx.pt g2]),(23,.int .i64 (k:Int)),(24,.int .i64 (i:Int))])
      (fun i=>[⟨gV,24,numC (topN m k i%q)⟩,⟨g4,24,numC 0⟩,⟨g2,26,grpC p q g h⟩]) (fun i=>k - i) 0 (fun i hi=>?_) (Nat.zero_le _)
      (hl:=by rw[htop,Nat.zero_mod];repeat (first|exact Lle.nil|refine Lle.cons (by repeat (first|exact Pk.here|apply Pk.there)) (by rfl) ?_))
    try dsimp only at hi ⊢
    by_cases hlt:i<k
    · have hstep:=topN_step (m:=m) hlt
      have hal:topN m k i%q<q:=Nat.mod_lt _ (by omega)
      have hadd2:IntKind.i64.wrap ((i:Int)+1)=((i+1:Nat):Int):=i64_in' (by omega) (by omega) (by omega)
      have hs1:IntKind.i64.wrap ((k:Int) - 1)=((k - 1:Nat):Int):=i64_in' (by omega) (by omega) (by omega)
      have hs2:IntKind.i64.wrap (((k - 1:Nat):Int) - (i:Int))=((k - 1 - i:Nat):Int):=i64_in' (by omega) (by omega) (by omega)
      have hX:m / 2 ^ (k - 1 - i)<18446744073709551616:=Nat.lt_of_le_of_lt (Nat.div_le_self _ _) (by omega)
      have hand:IntKind.u64.wrap ((BitVec.ofInt IntKind.u64.bits ((m / 2 ^ (k - 1 - i):Nat):Int) &&& BitVec.ofInt IntKind.u64.bits 1).toNat)=((m / 2 ^ (k - 1 - i)%2:Nat):Int):=and_one _ hX
      have hC1:=hC gV g2 (topN m k i%q) (topN m k i%q) hal hal
      have hbl:(topN m k i%q+topN m k i%q)%q<q:=Nat.mod_lt _ (by omega)
      have hC2:=hC gV g2 ((topN m k i%q+topN m k i%q)%q) 1 hbl h1
      have hv:∀ b,m / 2 ^ (k - 1 - i)%2=b→((topN m k i%q+topN m k i%q)%q+b)%q=topN m k (i+1)%q:=fun b hb=>by
        rw[hstep,hb,← Nat.add_mod,Nat.mod_add_mod,Nat.two_mul]
      repeat (first|refine Ta ?_|(refine Tm ?_;intro _)|refine Tc ?_|exact Tz)
      refine WC.dT rfl (by omega) ?_
      repeat (first|refine Ta ?_|(refine Tm ?_;intro _)|refine Tc ?_|exact Tz)
      refine WO.callsLV hC1 rfl rfl rfl (Pks.cons (by repeat (first|exact Pk.here|apply Pk.there)) Pks.nil) (fun w1 hm=>⟨Hs.seg (by repeat (first|exact Hs.here|apply Hs.there)) hm,hne⟩) (fun v N hv=>?_)
      obtain⟨rfl,rfl⟩:=hv
      simp only[List.cons_append,List.nil_append]
      have hb2':=Nat.mod_lt (m / 2 ^ (k - 1 - i)) (show 2 > 0 by decide)
      generalize hbb:m / 2 ^ (k - 1 - i)%2=b at *
      generalize (topN m k i%q+topN m k i%q)%q=A at *
      repeat (first|refine Ta ?_|(refine Tm ?_;intro _)|refine WO.acall (hc:=hL) (k:=?_)|refine WO.does (does_sub rfl rfl hs1) ?_|refine WO.does (does_sub rfl rfl hs2) ?_|refine WO.does (does_shr rfl rfl (by omega) (shr_nat (by show k - 1 - i≤64;omega))) ?_|refine WO.does (does_and rfl rfl hand) ?_|refine Tc ?_|exact Tz)
      have hb01:b=0∨b=1:=by omega
      rcases hb01 with rfl|rfl
      · have hv0:=hv 0 rfl
        rw[Nat.add_zero,Nat.mod_eq_of_lt hbl] at hv0
        refine WC.condF rfl ?_
        repeat (first|refine Ta ?_|(refine Tm ?_;intro _)|refine WO.does (does_add rfl rfl hadd2) ?_|refine Tc ?_|exact Tz)
        rw[hv0]
        exact WX.metI (i+1) (hs:=⟨by show i+1≤k;omega,by show k - (i+1)<k - i;omega⟩)
      · have hv1:=hv 1 rfl
        rw[hv1] at hC2
        refine WC.condT rfl ?_
        repeat (first|refine Ta ?_|(refine Tm ?_;intro _)|refine WO.acall (hc:=hO1) (k:=?_)|refine Tc ?_|exact Tz)
        refine WO.callsLV hC2 rfl rfl rfl (Pks.cons (by repeat (first|exact Pk.here|apply Pk.there)) Pks.nil) (fun w1 hm=>⟨Hs.seg (by repeat (first|exact Hs.here|apply Hs.there)) hm,hne⟩) (fun v N hv=>?_)
        obtain⟨rfl,rfl⟩:=hv
        simp only[List.cons_append,List.nil_append]
        repeat (first|refine Ta ?_|(refine Tm ?_;intro _)|refine WO.does (does_add rfl rfl hadd2) ?_|refine Tc ?_|exact Tz)
        exact WX.metI (i+1) (hs:=⟨by show i+1≤k;omega,by show k - (i+1)<k - i;omega⟩)
    · have hi2:i=k:=by omega
      subst hi2
      rw[hall]
      repeat (first|refine Ta ?_|(refine Tm ?_;intro _)|refine Tc ?_|exact Tz)
      refine WC.dF rfl (by omega) ?_
      repeat (first|refine Ta ?_|(refine Tm ?_;intro _)|refine Tc ?_|exact Tz)
      done
  · rw[show ofZ q (m:Int)=0 by unfold ofZ;rw[if_pos (by omega)]]
    have hb2:((bitsN q:Nat):Int)<2:=by
      have:bitsN q≤1:=by rw[bitsN_le_iff];omega
      omega
    generalize bitsN q=bq at *
    refine Fn.enter Tryz.func187 rfl rfl rfl ?_
    intro w hw
    repeat (first|refine Ta ?_|(refine Tm ?_;intro _)|refine WO.acall (hc:=hB) (k:=?_)|refine WO.does (does_lssY rfl rfl hb2) ?_|refine Tc ?_|exact Tz)
    done
end
end Sx
end Go.Proofs.YtmhligfnchegdaaGreatDoor
namespace Go.Proofs.YtmhligfnchegdaaGreatDoor
open Go Go.RowKit Go.BigFrame
namespace Sx
attribute [local irreducible] wd DQ DQS WO WC WX
theorem c_nodes1 (n:Nat) (hn:n<4611686018427387904):Fn Tryz.prog 184 [.int .i64 (n:Int)] Tr (Is (.int .i64 ((n+1:Nat):Int))):=by
  have ha:IntKind.i64.wrap ((n:Int)+1)=((n+1:Nat):Int):=i64_in' (by omega) (by omega) (by omega)
  refine Fn.enter Tryz.func184 rfl rfl rfl ?_
  intro w hw
  repeat (first|refine Ta ?_|(refine Tm ?_;intro _)|refine WO.does (does_add rfl rfl ha) ?_|refine Tc ?_|exact Tz)
abbrev sideC:List Value:=[.int .i64 7,.func (.func 184) #[] #[]]
theorem c_nodes:Fn Tryz.prog 106 [] Tr (Is (.agg sideC.toArray)):=by
  refine Fn.enter Tryz.func106 rfl rfl rfl ?_
  intro w hw
  repeat (first|refine Ta ?_|(refine Tm ?_;intro _)|refine Tc ?_|exact Tz)
section
variable (p q g h:Nat)
theorem c_values1 (l:List Nat) (pz:Option Addr) (c i gS gG gP:Nat) (hl:∀ a∈l,a<B256) (hn:l.length≤1099511627776) (hq:q<B256) (hb1:allN q l=true) (hi:i+1<q) (hi2:i<1000) :
    Fn Tryz.prog 186 ([.int .i64 (i:Int)]++[pt gG,pt gP,pt gS]) (fun w=>Seg w gG 0 (grpC p q g h)∧Seg w gP 0 [.slice pz l.length c]∧Seg w gS 0 sideC∧RdF numC (.slice pz l.length c) l w) (Is (.tuple #[numV (shN q l i),.int .i64 0])):=by
  have h1:=c_nodes1 i (by omega)
  have h2:=c_ScOf p q g h (i+1) (by omega) hq
  rw[ofZ_nat q (i+1) (by omega),Nat.mod_eq_of_lt hi] at h2
  have h3:=c_pAtY p q g h l pz c (i+1) hl hn hq (Nat.lt_trans hi hq) hb1 hi
  rw[show polyN l (i+1)%q=shN q l i from rfl] at h3
  generalize shN q l i=V at *
  refine Fn.enter Tryz.func186 rfl rfl rfl ?_
  intro w hw
  obtain⟨wG,wP,wS,wL⟩:=hw
  repeat (first|refine Ta ?_|(refine Tm ?_;intro _)|refine Tc ?_|exact Tz)
  refine WC.adraw 11 (k:=?_)
  iterate 11 (first|refine Da ?_|refine DQ.does (fun s _=>a_loadF (hs:=wG) (hle:=Nat.le_refl _) (vs:=grpC p q g h)) Dp.const ?_|refine DQ.does (fun s _=>a_loadF1 (hs:=wP) (hle:=Nat.le_refl _)) Dp.const ?_|refine DQ.does (fun s _=>a_loadF1 (hs:=wS) (hle:=Nat.zero_le _)) Dp.const ?_|refine DQ.acallV (hc:=h1) (k:=?_)|refine DQ.acall (hc:=h2) (k:=?_)|refine DQ.acallM (hc:=h3) (hR:=fun w hm=>wL.mod hm.mod) (k:=?_)|refine Dc ?_)
  refine DQ.anil (k:=?_)
  intro sx _
  repeat (first|refine Ta ?_|(refine Tm ?_;intro _)|refine Tc ?_|exact Tz)
  done
end
set_option maxHeartbeats 1000000 in
theorem c_made {f:Nat} [Cal Tryz.prog f] (caps:List Value) (V:Nat→Nat) (m:Nat) (R:World→Prop) (hst:Stable R) (hm:m≤100)
    (hf:∀ i,i<m→Fn Tryz.prog f ([.int .i64 (i:Int)]++caps) R (Is (.tuple #[numV (V i),.int .i64 0]))) :
    Fn Tryz.prog 185 [.int .i64 (m:Int),.func (.func f) #[] caps.toArray] R
      (Ex (fun s=>.tuple #[.slice (some ⟨s 0,0,none⟩) m m,.int .i64 0]) (fun s=>[⟨s 0,24,((List.range m).map V).flatMap numC⟩]) (fun _=>True)):=by
  refine Fn.enter Tryz.func185 rfl rfl rfl ?_
  intro w hw
  repeat (first|refine Ta ?_|(refine Tm ?_;intro _)|(refine WO.makes (makes_slice (l:=0) (c:=m) rfl rfl (by omega) (by omega) (by omega)) ?_;intro g)|refine Tc ?_|exact Tz)
  refine WC.loopI (σ:=Nat) (fun i=>i≤m) (fun i=>[(1,.func (.func f) #[] caps.toArray),(5,.int .i64 0),(6,.slice (some ⟨g,0,none⟩) i m),(12,.int .i64 (m:Int)),(13,.int .i64 (i:Int))]) (fun i=>[⟨g,24,((List.range i).map V).flatMap numC++mkz (m - i) (numC 0)⟩]) (fun i=>m - i) 0 (fun i hi=>?_) (Nat.zero_le _)
  try dsimp only at hi ⊢
  by_cases hlt:i<m
  · have hadd2:IntKind.i64.wrap ((i:Int)+1)=((i+1:Nat):Int):=i64_in' (by omega) (by omega) (by omega)
    have hcall:=hf i hlt
    have hx:((List.range m).map V)[i]?=some (V i):=by simp[hlt]
    have htk:∀ j,j≤m→((List.range m).map V).take j=(List.range j).map V:=fun j hj=>by rw[← List.map_take,List.take_range,Nat.min_eq_left hj]
    have hov:=over_twin (f:=numC) (z:=numC 0) (m:=m - i) numC_len rfl hx (by omega)
    rw[htk i (by omega),htk (i+1) (by omega),show m - i - 1=m - (i+1) by omega] at hov
    have hle:i*(numC 0).length+(numC (V i)).length≤(((List.range i).map V).flatMap numC++mkz (m - i) (numC 0)).length:=by
      rw[List.length_append,flat_length numC_len,mkz_length,List.length_map,List.length_range]
      show i*4+4≤i*4+(m - i)*4
      have:1*4≤(m - i)*4:=Nat.mul_le_mul_right _ (by omega)
      omega
    repeat (first|refine Ta ?_|(refine Tm ?_;intro _)|refine Tc ?_|exact Tz)
    refine WC.dT rfl (by omega) ?_
    repeat (first|refine Ta ?_|(refine Tm ?_;intro _)|refine WO.acallV (hc:=hcall) (hR:=fun w' hm=>hst _ _ hw hm.mod.below) (k:=?_)|refine Tc ?_|exact Tz)
    repeat (first|refine Ta ?_|(refine Tm ?_;intro _)|(refine WO.makes (makes_build (t:=30) (cs:=numC (V i)) rfl (by decide) rfl) ?_;intro g2)|refine WO.both (app_room (s:=undef) (z:=numC 0) rfl rfl (Rds.own (m:=4) Hs.here rfl) rfl (by omega) rfl (by repeat (first|exact Rp.here|apply Rp.there)) hov hle rfl (by decide)) ?_|refine WO.does (does_add rfl rfl hadd2) ?_|refine Tc ?_|exact Tz)
    exact WX.metI (i+1) (hs:=⟨by show i+1≤m;omega,by show m - (i+1)<m - i;omega⟩)
  · have hi2:i=m:=by omega
    subst hi2
    rw[Nat.sub_self,show mkz 0 (numC 0)=[] from rfl,List.append_nil]
    repeat (first|refine Ta ?_|(refine Tm ?_;intro _)|refine Tc ?_|exact Tz)
    refine WC.dF rfl (by omega) ?_
    repeat (first|refine Ta ?_|(refine Tm ?_;intro _)|refine Tc ?_|exact Tz)
    exact WX.ret2 rfl (by exact rv_tmp rfl) (by exact rv_tmp rfl) [⟨g,24,((List.range i).map V).flatMap numC⟩] (Lle.cons (by repeat (first|exact Pk.here|apply Pk.there)) rfl Lle.nil) ⟨fun _=>g,rfl,rfl,trivial⟩
section
variable (p q g h:Nat) (l:List Nat) (pz:Option Addr) (c m:Nat)
set_option maxHeartbeats 1000000 in
theorem c_values (hl:∀ a∈l,a<B256) (hn:l.length≤1099511627776) (hq:q<B256) (hb1:allN q l=true) (h1:1≤m) (hm:m≤7) (hmq:m<q) :
    Fn Tryz.prog 107 [.agg sideC.toArray,grpV p q g h,.slice pz l.length c,.int .i64 (m:Int)] (RdF numC (.slice pz l.length c) l)
      (Ex (fun s=>.tuple #[.slice (some ⟨s 0,0,none⟩) m m,.int .i64 0]) (fun s=>[⟨s 0,24,(shL q l m).flatMap numC⟩]) (fun _=>True)):=by
  have hC:=fun gS gG gP=>c_made (f:=186) [pt gG,pt gP,pt gS] (shN q l) m (fun w=>Seg w gG 0 (grpC p q g h)∧Seg w gP 0 [.slice pz l.length c]∧Seg w gS 0 sideC∧RdF numC (.slice pz l.length c) l w)
    (fun w w' ⟨a,b,d,e⟩ hb=>⟨Stable.seg w w' a hb,Stable.seg w w' b hb,Stable.seg w w' d hb,e.mod (.of_below hb _)⟩) (by omega) (fun i hi=>c_values1 p q g h l pz c i gS gG gP hl hn hq hb1 (by omega) (by omega))
  refine Fn.enter Tryz.func107 rfl rfl rfl ?_
  intro w hw
  repeat (first|refine Ta ?_|(refine Tm ?_;intro _)|refine WO.does (does_lssN rfl rfl (by omega)) ?_|refine WO.does (does_func rfl rfl) ?_|refine WO.does (does_gtrN rfl rfl (by omega)) ?_|refine Tc ?_|exact Tz)
  repeat (first|refine Ta ?_|(refine Tm ?_;intro _)|refine WO.does (does_func rfl rfl) ?_|refine WO.acallX (hc:=hC _ _ _) (hR:=fun w1 hm=>⟨Hs.seg (by repeat (first|exact Hs.here|apply Hs.there)) hm,Hs.seg (by repeat (first|exact Hs.here|apply Hs.there)) hm,Hs.seg (by repeat (first|exact Hs.here|apply Hs.there)) hm,hw.mod hm.mod⟩) (k:=fun s _=>?_)|refine Tc ?_|exact Tz)
  generalize s 0=g0
  repeat (first|refine Ta ?_|(refine Tm ?_;intro _)|refine Tc ?_|exact Tz)
  exact WX.ret2 rfl (by exact rv_tmp rfl) (by exact rv_tmp rfl) [⟨g0,24,(shL q l m).flatMap numC⟩] (Lle.cons (by repeat (first|exact Pk.here|apply Pk.there)) rfl Lle.nil) ⟨fun _=>g0,rfl,rfl,trivial⟩
set_option maxHeartbeats 1000000 in
theorem c_shOf (hl:∀ a∈l,a<B256) (hn:l.length≤1099511627776) (hq:q<B256) (hb1:allN q l=true) (h1:1≤m) (hm:m≤7) (hmq:m<q) :
    Fn Tryz.prog 22 [grpV p q g h,.slice pz l.length c,.int .i64 (m:Int)] (RdF numC (.slice pz l.length c) l)
      (Ex (fun s=>.tuple #[.slice (some ⟨s 0,0,none⟩) m m,.int .i64 0]) (fun s=>[⟨s 0,24,(shL q l m).flatMap numC⟩]) (fun _=>True)):=by
  have hV:=c_values p q g h l pz c m hl hn hq hb1 h1 hm hmq
  have hN:=c_nodes
  refine Fn.enter Tryz.func22 rfl rfl rfl ?_
  intro w hw
  repeat (first|refine Ta ?_|(refine Tm ?_;intro _)|refine Tc ?_|exact Tz)
  refine WC.adraw 9 (k:=?_)
  refine DQ.acall (hc:=hN) (k:=?_)
  iterate 3 (refine DQ.auto (k:=?_))
  refine DQ.callsE (fs:=fun _=>[]) (cs:=fun _=>[]) (R:=fun _=>RdF numC (.slice pz l.length c) l) (vf:=fun _ x=>.tuple #[.slice (some ⟨x 0,0,none⟩) m m,.int .i64 0]) (Nf:=fun _ x=>[⟨x 0,24,(shL q l m).flatMap numC⟩]) (S:=fun _ _=>True) (fun _=>[]) (fun _=>.nil)
    (fun _=>⟨fun _=>0,trivial⟩) (fun _ _=>hV) (fun _=>rfl) (fun _=>rfl) (fun _=>by simp) (fun _ _ w hm=>hw.mod hm.mod) Dp.const Dp.const Dp.const ?_
  try dsimp only[List.map_cons,List.map_nil,List.cons_append,List.nil_append]
  iterate 4 (refine DQ.auto (k:=?_))
  refine DQ.anil (k:=?_)
  intro sx _
  generalize sx 4 0=g0
  repeat (first|refine Ta ?_|(refine Tm ?_;intro _)|refine Tc ?_|exact Tz)
  exact WX.ret2 rfl (by exact rv_tmp rfl) (by exact rv_tmp rfl) [⟨g0,24,(shL q l m).flatMap numC⟩] (Lle.cons (by repeat (first|exact Pk.here|apply Pk.there)) rfl Lle.nil) ⟨fun _=>g0,rfl,rfl,trivial⟩
end
end Sx
end Go.Proofs.YtmhligfnchegdaaGreatDoor
namespace Go.Proofs.YtmhligfnchegdaaGreatDoor
open Go Go.RowKit Go.BigFrame
namespace Sx
attribute [local irreducible] wd DQ DQS WO WC WX
section
variable (p q g h:Nat) (f sec:Int) (ns:Value)
theorem c_poly (l:List Nat) (pz:Option Addr) (c:Nat) (hl:∀ a∈l,a<B256) (hn:l.length≤1099511627776) (hq:q<B256) (hf:0≤f∧0≤sec∧f+sec≤5) :
    Fn Tryz.prog 20 [stV p q g h f sec ns,.slice pz l.length c] (RdF numC (.slice pz l.length c) l) (Is (.bool (decide ((l.length:Int)=f+sec) && allN q l))):=by
  have hadd:IntKind.i64.wrap (f+sec)=f+sec:=i64_in (by omega) (by omega)
  cases hb:allN q l with
  | true =>
    have hA:=c_pAtY p q g h l pz c 0 hl hn hq (B256_of (by decide)) hb (by have:=(allN_spec hb).1;omega)
    generalize polyN l 0%q=V at *
    rw[Bool.and_true]
    refine Fn.enter Tryz.func20 rfl rfl rfl ?_
    intro w hw
    repeat (first|refine Ta ?_|(refine Tm ?_;intro _)|refine WO.acallR (hc:=hA) (hR:=fun w1 hm=>hw.mod hm.mod) (k:=?_)|refine WO.does (does_add rfl rfl hadd) ?_|refine Tc ?_|exact Tz)
    by_cases he:(l.length:Int)=f+sec
    · have d:decide ((l.length:Int)=f+sec)=true:=decide_eq_true he
      rw[d]
      repeat (first|refine Ta ?_|(refine Tm ?_;intro _)|refine Tc ?_|exact Tz)
    · have d:decide ((l.length:Int)=f+sec)=false:=decide_eq_false he
      rw[d]
      repeat (first|refine Ta ?_|(refine Tm ?_;intro _)|refine Tc ?_|exact Tz)
  | false =>
    have hA:=c_pAtN p q g h l pz c 0 hl hn hq (B256_of (by decide)) (by rw[hb,Bool.false_and])
    rw[Bool.and_false]
    refine Fn.enter Tryz.func20 rfl rfl rfl ?_
    intro w hw
    repeat (first|refine Ta ?_|(refine Tm ?_;intro _)|refine WO.acallR (hc:=hA) (hR:=fun w1 hm=>hw.mod hm.mod) (k:=?_)|refine WO.does (does_add rfl rfl hadd) ?_|refine Tc ?_|exact Tz)
    by_cases he:(l.length:Int)=f+sec
    · have d:decide ((l.length:Int)=f+sec)=true:=decide_eq_true he
      rw[d]
      repeat (first|refine Ta ?_|(refine Tm ?_;intro _)|refine Tc ?_|exact Tz)
    · have d:decide ((l.length:Int)=f+sec)=false:=decide_eq_false he
      rw[d]
      repeat (first|refine Ta ?_|(refine Tm ?_;intro _)|refine Tc ?_|exact Tz)
end
section
open Kp
variable {P:Program} {w0:World} {gs:List Nat} {n:Nat} {fl:List Nat} {Q:Exit→Act→World→Prop} {ops:List Oper} {L0:List Ent}
variable {tail rest:List Oper} {i:Nat} {C:Nums→Prop} {K:Nums→List (Nat × Value)} {N:Nums→List (Nat × Ent)}
variable {d:Nat} {op:Op} {ty:TypeId} {pos:String} {after:Array Edge} {gd:Option (Nat × Bool)}
theorem DQ.acallS {f:FuncId} [Cal P f] {xs:Array Operand} {ats:Array TypeId} {vs:List Value} {Rq:World→Prop} {t m:Nat} {cs:List Value} (hc:Fn P f vs Rq (NewS t m cs)) (hR:∀ w,Rq w) (ha:∀ s,evs (K s) xs.toList=some vs:=by (intro s;rfl))
    (k:DQ P w0 gs n fl Q ops L0 tail (i+1) rest (fun s=>C s∧True) (fun s=>(d,.slice (some ⟨s i 0,0,none⟩) m m)::K s) (fun s=>(i,⟨s i 0,t,cs⟩)::N s))
    (hfl:fl.contains i=false:=by rfl) (hw:∀ s,wk ops (K s) gd=some true:=by intro _;rfl) (hd:Nat.blt d n=true:=by rfl) :
    DQ P w0 gs n fl Q ops L0 tail i (⟨some d,.call { callee:=.value (.func f),args:=xs,argTypes:=ats },ty,pos,after,gd⟩::rest) C K N :=
  DQ.callsE (fs:=fun _=>[]) (cs:=fun _=>[]) (R:=fun _=>Rq) (vf:=fun _ x=>.slice (some ⟨x 0,0,none⟩) m m) (Nf:=fun _ x=>[⟨x 0,t,cs⟩]) (S:=fun _ _=>True) (fun _=>[]) (fun _=>.nil)
    (fun _=>⟨fun _=>0,trivial⟩) (fun _ _=>Fn.weak hc (fun _ h=>h) (fun v N ⟨g,e1,e2⟩=>⟨fun _=>g,e1,e2,trivial⟩)) (fun _=>rfl) ha (fun _=>by simp) (fun _ _ w _=>hR w) Dp.const Dp.const Dp.const k hfl hw hd
end
section
variable (p q g h:Nat)
set_option maxHeartbeats 2000000 in
theorem c_draw (x:Nat) (H:List Nat) (hx:x<B256) (hq:q<B256) (h0:0<q) (hH:∀ b∈H,b<256) (hl:H.length=32):Fn Tryz.prog 28 [grpV p q g h,numV x,.agg (byC H).toArray] Tr (Is (numV (drawN q x H))):=by
  have hP:=c_PutLong [] x 0 none (by decide)
  rw[List.nil_append] at hP
  have hbl:(be 32 x).length=32:=be_length _ _
  rw[hbl] at hP
  have hN:=fun g3 g5 gR=>c_Number q sDraw [.slice (some ⟨g3,0,none⟩) 32 32,.slice (some ⟨g5,0,none⟩) 32 32] [be 32 x,H] gR 0 2 hq h0 (by
    intro X hX
    simp only[List.mem_cons,List.not_mem_nil,or_false] at hX
    rcases hX with rfl|rfl
    · exact be_lt
    · exact hH) (by
    simp only[hBytes,hHead,hBody,List.flatMap_cons,List.flatMap_nil,List.length_append,be_length,strB_length,List.length_nil,hl]
    decide) (by decide)
  have hlt:hNum q (strB sDraw) [be 32 x,H] < B256:=Nat.lt_trans (Nat.mod_lt _ h0) hq
  unfold drawN
  generalize hNum q (strB sDraw) [be 32 x,H]=R at *
  have hbH:(byC H).length=32:=by rw[byC_length,hl]
  refine Fn.enter Tryz.func28 rfl rfl rfl ?_
  intro w hw
  repeat (first|refine Ta ?_|(refine Tm ?_;intro _)|refine Tc ?_|exact Tz)
  rename_i g3 g4 g5 g6
  refine WC.adrawF [9] 11 (k:=?_)
  iterate 3 (refine DQ.auto (k:=?_))
  refine DQ.acallS (hc:=hP) (hR:=fun _=>Rd.nil) (k:=?_)
  refine DQ.does (v:=fun _=>.slice (some ⟨g5,0,none⟩) 32 32) (fun s _=>does_sliceA rfl) Dp.const ?_
  refine DQ.makes (vf:=fun _ g=>.slice (some ⟨g,0,none⟩) 2 2) (t:=84) (cs:=fun s=>[.slice (some ⟨s 3 0,0,none⟩) 32 32,.slice (some ⟨g5,0,none⟩) 32 32]) (fun s _=>makes_build rfl (by decide) rfl) Dp.const (by intro s s' h;dsimp only;rw[h]<;>decide +kernel) ?_
  refine DQ.callE (v:=fun _=>.tuple #[numV R,.int .i64 0]) (fun s=>[⟨s 5 0,84,[.slice (some ⟨s 3 0,0,none⟩) 32 32,.slice (some ⟨g5,0,none⟩) 32 32]⟩,⟨s 3 0,5,byC (be 32 x)⟩]) (fun s=>.cons 5 (.head _) (by decide +kernel) (.cons 3 (by repeat (first|exact .head _|apply List.Mem.tail)) (by decide +kernel) .nil)) (fun s _=>hN (s 3 0) g5 (s 5 0)) (fun s=>rfl) (fun s hC w hm=>⟨Hs.seg Hs.here hm,Parts.cons (by have:=RdP.own0 (g:=s 3 0) (c:=32) (X:=be 32 x) (t:=5) hm (Hs.there Hs.here) (by omega) (by decide);rw[hbl] at this;exact this) (Parts.cons (by have:=RdP.own0 (g:=g5) (c:=32) (X:=H) (t:=82) hm (by repeat (first|exact Hs.here|apply Hs.there)) (by omega) (by decide);rw[hl] at this;exact this) Parts.nil)⟩) Dp.const ?_
  repeat (first|refine Da ?_|refine Df ?_)
  refine DQ.anil (k:=?_)
  intro sx _
  repeat (first|refine Ta ?_|(refine Tm ?_;intro _)|refine WO.does a_eqNum ?_|refine Tc ?_|exact Tz)
  by_cases hR:R=0
  · have d:decide (R=0)=true:=decide_eq_true hR
    rw[if_pos hR,d]
    repeat (first|refine Ta ?_|(refine Tm ?_;intro _)|refine WO.does (does_buildA (cs:=numC 1) rfl rfl (by kernel_rfl)) ?_|refine Tc ?_|exact Tz)
  · have d:decide (R=0)=false:=decide_eq_false hR
    rw[if_neg hR,d]
    repeat (first|refine Ta ?_|(refine Tm ?_;intro _)|refine Tc ?_|exact Tz)
end
end Sx
end Go.Proofs.YtmhligfnchegdaaGreatDoor
