/- Part 30 of the proof: QlA, QlB, ScA, SnA, DeA, DeB, LwC, LwA -/
import Derived.Test.YtiiacjladnljhaaGreatDoorM27
import Derived.Test.YtiiacjladnljhaaGreatDoorM28
import Derived.Test.YtiiacjladnljhaaGreatDoorM25
import Derived.Test.YtiiacjladnljhaaGreatDoorM26
import Derived.Test.YtiiacjladnljhaaGreatDoorM24
import Derived.Test.YtiiacjladnljhaaGreatDoorM29
set_option linter.unusedSimpArgs false
set_option linter.unusedVariables false
namespace Go.Proofs.YtiiacjladnljhaaGreatDoor
open Go Go.RowKit Go.BigFrame
namespace Sx
attribute [local irreducible] wd DQ DQS WO WC WX
theorem mayN_self (a q:Nat):mayN a a q=(decide (1<q) && decide (a<q)):=by
  unfold mayN
  cases decide (1<q)<;>cases decide (a<q)<;>rfl
section
variable (p q g h:Nat)
theorem r10_below (a:Nat) (ha:a<B256) (hq:q<B256):Fn Tryz.prog 201 [grpV p q g h,numV a] Tr (Is (.bool (mayN a a q))):=by
  have hO:=r9_Add p q g h a a ha ha hq
  generalize mayN a a q=b at *
  generalize (a+a)%q=R at *
  refine Fn.enter Tryz.func201 rfl rfl rfl ?_
  intro w hw
  repeat (first|refine Ta ?_|(refine Tm ?_;intro _)|refine WO.acall (hc:=hO) (k:=?_)|refine Tc ?_|exact Tz)
  cases b<;>exact WX.aret1 (hp:=rfl)
theorem r10_plus (a b:Nat) (ha:a<B256) (hb:b<B256) (hq:q<B256):Fn Tryz.prog 245 [grpV p q g h,numV a,numV b] Tr (Is (numV (okV (mayN a b q) ((a+b)%q)))):=by
  have hO:=r9_Add p q g h a b ha hb hq
  refine Fn.enter Tryz.func245 rfl rfl rfl ?_
  intro w hw
  repeat (first|refine Ta ?_|(refine Tm ?_;intro _)|refine WO.acall (hc:=hO) (k:=?_)|refine Tc ?_|exact Tz)
theorem r10_times (a b:Nat) (ha:a<B256) (hb:b<B256) (hq:q<B256):Fn Tryz.prog 203 [grpV p q g h,numV a,numV b] Tr (Is (numV (okV (mayN a b q) (a*b%q)))):=by
  have hO:=r9_Mul p q g h a b ha hb hq
  refine Fn.enter Tryz.func203 rfl rfl rfl ?_
  intro w hw
  repeat (first|refine Ta ?_|(refine Tm ?_;intro _)|refine WO.acall (hc:=hO) (k:=?_)|refine Tc ?_|exact Tz)
set_option maxHeartbeats 1000000 in
theorem r10_All (l:List Nat) (pt:Option Addr) (c:Nat) (hl:∀ x∈l,x<B256) (hn:l.length≤1099511627776) (hq:q<B256) :
    Fn Tryz.prog 116 [grpV p q g h,.slice pt l.length c] (RdF numC (.slice pt l.length c) l) (Is (.bool (allN q l))):=by
  have h0:=r10_below p q g h 0 B256_zero hq
  have hb:=fun x (hx:x<B256)=>r10_below p q g h x hx hq
  by_cases h1:1<q
  · rw[show mayN 0 0 q=true by rw[mayN_self];simp;omega] at h0
    refine Fn.enter Tryz.func116 rfl rfl rfl ?_
    intro w hw
    obtain⟨pt',c',e,hpc⟩:=hw
    cases e
    repeat (first|refine Ta ?_|(refine Tm ?_;intro _)|refine WO.acall (hc:=h0) (k:=?_)|refine Tc ?_|exact Tz)
    rename_i g2
    refine WC.loopI (σ:=Nat) (fun i=>i≤l.length∧∀ j,j<i→∀ x,l[j]?=some x→decide (x<q)=true) (fun i=>[(1,.slice pt l.length c),(2,Sx.pt g2),(5,.int .i64 (i:Int))]) (fun i=>[⟨g2,26,grpC p q g h⟩]) (fun i=>l.length - i) 0 (fun i hi=>?_) ⟨Nat.zero_le _,fun j hj=>by omega⟩
    try dsimp only at hi ⊢
    obtain⟨hi,hi2⟩:=hi
    by_cases hlt:i<l.length
    · obtain⟨x,hx⟩ : ∃ x,l[i]?=some x:=⟨_,List.getElem?_eq_getElem hlt⟩
      rcases hpc with ⟨_,h0⟩|⟨b,o,rfl,hs⟩
      · rw[h0] at hlt;simp at hlt
      have hadd2:IntKind.i64.wrap ((i:Int)+1)=((i+1:Nat):Int):=i64_in' (by omega) (by omega) (by omega)
      have hcx:cut (l.flatMap numC) (o+i*4 - o) 4=numC x:=by rw[Nat.add_sub_cancel_left];exact cut_flat numC_len hx
      have hbx:=hb x (hl x (List.mem_of_getElem? hx))
      rw[mayN_self,decide_eq_true h1,Bool.true_and] at hbx
      repeat (first|refine Ta ?_|(refine Tm ?_;intro _)|refine Tc ?_|exact Tz)
      refine WC.dT rfl (by omega) ?_
      cases hxq:(decide (x<q):Bool) with
      | false =>
        rw[hxq] at hbx
        have:allN q l=false:=allN_no hx hxq
        rw[this]
        repeat (first|refine Ta ?_|(refine Tm ?_;intro _)|refine Tc ?_|exact Tz)
        refine WC.adraw 6 (k:=?_)
        iterate 6 (first|refine Da ?_|refine DQ.does (fun s _=>does_indexSlice (o':=o+i*4) rfl rfl hlt rfl) Dp.const ?_|refine DQ.does (fun s _=>a_loadF (vs:=numC x) (hs:=hs) (hle:=Nat.le_add_right _ _) (hc:=hcx)) Dp.const ?_|refine DQ.acall (hc:=hbx) (k:=?_)|refine Dc ?_)
        refine DQ.anil (k:=?_)
        intro sx _
        repeat (first|refine Ta ?_|(refine Tm ?_;intro _)|refine Tc ?_|exact Tz)
        done
      | true =>
        rw[hxq] at hbx
        repeat (first|refine Ta ?_|(refine Tm ?_;intro _)|refine Tc ?_|exact Tz)
        refine WC.adraw 6 (k:=?_)
        iterate 6 (first|refine Da ?_|refine DQ.does (fun s _=>does_indexSlice (o':=o+i*4) rfl rfl hlt rfl) Dp.const ?_|refine DQ.does (fun s _=>a_loadF (vs:=numC x) (hs:=hs) (hle:=Nat.le_add_right _ _) (hc:=hcx)) Dp.const ?_|refine DQ.acall (hc:=hbx) (k:=?_)|refine Dc ?_)
        refine DQ.anil (k:=?_)
        intro sx _
        repeat (first|refine Ta ?_|(refine Tm ?_;intro _)|refine WO.does (does_add rfl rfl hadd2) ?_|refine Tc ?_|exact Tz)
        exact WX.metI (i+1) (hs:=⟨⟨by show i+1≤l.length;omega,fun j hj y hy=>by
          rcases Nat.lt_or_ge j i with h|h
          · exact hi2 j h y hy
          · have:j=i:=by omega
            subst this
            rw[hx] at hy;cases hy;exact hxq⟩,by show l.length - (i+1)<l.length - i;omega⟩)
    · have hi3:i=l.length:=by omega
      have:allN q l=true:=allN_yes h1 (by rw[← hi3];exact hi2)
      rw[this]
      repeat (first|refine Ta ?_|(refine Tm ?_;intro _)|refine Tc ?_|exact Tz)
      refine WC.dF rfl (by omega) ?_
      repeat (first|refine Ta ?_|(refine Tm ?_;intro _)|refine Tc ?_|exact Tz)
      done
  · rw[show mayN 0 0 q=false by rw[mayN_self,decide_eq_false h1];rfl] at h0
    rw[show allN q l=false by unfold allN;rw[decide_eq_false h1];rfl]
    clear hb
    refine Fn.enter Tryz.func116 rfl rfl rfl ?_
    intro w hw
    repeat (first|refine Ta ?_|(refine Tm ?_;intro _)|refine WO.acall (hc:=h0) (k:=?_)|refine Tc ?_|exact Tz)
    done
end
end Sx
end Go.Proofs.YtiiacjladnljhaaGreatDoor
namespace Go.Proofs.YtiiacjladnljhaaGreatDoor
open Go Go.RowKit Go.BigFrame
namespace Sx
attribute [local irreducible] wd DQ DQS WO WC WX
section
variable (p q g h:Nat)
theorem r9_OfP (m:Nat) (hm:m<9223372036854775808) (hq:q<B256):Fn Tryz.prog 112 [grpV p q g h,.int .i64 (m:Int)] Tr (Is (numV (ofZ q (m:Int)))):=by
  have hO:=r_Of m (by omega)
  have hcv:IntKind.u64.wrap (m:Int)=(m:Int):=u64_in (by omega) (by omega)
  by_cases h0:q=0
  · subst h0
    rw[ofZ_zero]
    refine Fn.enter Tryz.func112 rfl rfl rfl ?_
    intro w hw
    repeat (first|refine Ta ?_|(refine Tm ?_;intro _)|refine Tc ?_|exact Tz)
    done
  · have hD:=r_Div m q (B256_of (by omega)) hq (by omega)
    rw[ofZ_nat q m (by omega)]
    generalize m / q=D at *
    generalize hR:m%q=R at *
    have d0:decide (q=0)=false:=decide_eq_false h0
    refine Fn.enter Tryz.func112 rfl rfl rfl ?_
    intro w hw
    repeat (first|refine Ta ?_|(refine Tm ?_;intro _)|refine Tc ?_|exact Tz)
    rw[d0]
    repeat (first|refine Ta ?_|(refine Tm ?_;intro _)|refine WO.does (does_geqY rfl rfl (by omega)) ?_|refine Tc ?_|exact Tz)
    refine WC.adrawF [8,9] 12 (k:=?_)
    repeat (first|refine Da ?_|refine DQ.acall (hc:=hO) (k:=?_)|refine DQ.does (fun s _=>does_conv rfl hcv) Dp.const ?_|refine DQ.acall (hc:=hD) (k:=?_)|refine Df ?_)
    refine DQ.anil (k:=?_)
    intro sx _
    repeat (first|refine Ta ?_|(refine Tm ?_;intro _)|refine Tc ?_|exact Tz)
    done
end
end Sx
end Go.Proofs.YtiiacjladnljhaaGreatDoor
namespace Go.Proofs.YtiiacjladnljhaaGreatDoor
open Go Go.RowKit Go.BigFrame
namespace Sx
attribute [local irreducible] wd DQ DQS WO WC WX
theorem c_amount (m:Nat) (hm:m<9223372036854775808):Fn Tryz.prog 181 [.int .i64 (m:Int)] Tr (Is (.tuple #[.int .u64 (m:Int),.int .i64 0])):=by
  have hcv:IntKind.u64.wrap (m:Int)=(m:Int):=u64_in (by omega) (by omega)
  refine Fn.enter Tryz.func181 rfl rfl rfl ?_
  intro w hw
  repeat (first|refine Ta ?_|(refine Tm ?_;intro _)|refine WO.does (does_lssN rfl rfl (by omega)) ?_|refine WO.does (does_conv rfl hcv) ?_|refine Tc ?_|exact Tz)
  done
section
variable (p q g h gV gG:Nat)
theorem c_ScOf1 (a b:Nat) (ha:a<q) (hb:b<q) (h1:1<q) (hq:q<B256):FnM Tryz.prog 182 [numV b,pt gV,pt gG] gV 24 (numC a) (numC ((a+b)%q)) (fun w=>Seg w gG 0 (grpC p q g h)∧gG≠gV) (.tuple #[]):=by
  have hA:=c_Add a b q (Nat.lt_trans ha hq) (Nat.lt_trans hb hq) hq
  rw[show mayN a b q=true by simp[mayN,h1,ha,hb]] at hA
  generalize (a+b)%q=R at *
  refine FnM.enter Tryz.func182 rfl rfl rfl ?_
  intro w ⟨hw,hne⟩
  have hbG:gG ∉ [gV]:=by simpa using hne
  repeat (first|refine WO.does (a_loadF (vs:=numC q) (hs:=hw) (hb:=hbG)) ?_|refine Ta ?_|(refine Tm ?_;intro _)|refine WO.acall (hc:=hA) (k:=?_)|refine Tc ?_|exact Tz)
  exact WX.retM_ofN (res0 rfl) (by repeat (first|exact Hs.here|apply Hs.there))
def topN (m k i:Nat):Nat:=m / 2 ^ (k - i)
theorem topN_step {m k i:Nat} (h:i<k):topN m k (i+1)=2*topN m k i+m / 2 ^ (k - 1 - i)%2:=by
  unfold topN
  rw[show k - (i+1)=k - 1 - i by omega,show k - i=(k - 1 - i)+1 by omega,Nat.pow_succ,← Nat.div_div_eq_div_mul]
  omega
theorem topN_zero {m k:Nat} (h:m<2 ^ k):topN m k 0=0:=by unfold topN;exact Nat.div_eq_of_lt h
theorem topN_all (m k:Nat):topN m k k=m:=by unfold topN;rw[Nat.sub_self,Nat.pow_zero,Nat.div_one]
theorem c_Len64 (m:Nat) (hm:m<9223372036854775808):Fn Tryz.prog 178 [.int .u64 (m:Int)] Tr (Is (.int .i64 (bitsN m:Nat))):=.of fun w=>(Tryz.bits_Len64 (m:Int) w (by omega) (by omega)).mono fun e w' h=>by
  obtain⟨rfl,rfl⟩:=h
  refine⟨?_,Below.refl _ _⟩
  have:=bitLen_eq (x:=m) (by omega)
  rw[Int.toNat_natCast,this]
set_option maxHeartbeats 1000000 in
theorem c_ScOf (m:Nat) (hm:m<9223372036854775808) (hq:q<B256):Fn Tryz.prog 103 [grpV p q g h,.int .i64 (m:Int)] Tr (Is (numV (ofZ q (m:Int)))):=by
  have hB:=c_Bits q hq
  by_cases h1:1<q
  · have hb2:¬ ((bitsN q:Nat):Int)<2:=by
      have:¬ bitsN q≤1:=by rw[bitsN_le_iff];omega
      omega
    have hA:=c_amount m hm
    have hL:=c_Len64 m hm
    have hlb:=bitsN_le (k:=63) (x:=m) (by omega)
    have htop:=topN_zero (lt_bitsN m)
    have hall:=topN_all m (bitsN m)
    rw[ofZ_nat q m (by omega)]
    generalize bitsN q=bq at *
    generalize bitsN m=k at *
    have hC:=fun gV gG a b (ha:a<q) (hb:b<q)=>(c_ScOf1 p q g h gV gG a b ha hb h1 hq).toL
    have h0:=c_Of 0
    have hO1:=c_Of 1
    refine Fn.enter Tryz.func103 rfl rfl rfl ?_
    intro w hw
    repeat (first|refine Ta ?_|(refine Tm ?_;intro _)|refine WO.acall (hc:=hB) (k:=?_)|refine WO.does (does_lssN rfl rfl hb2) ?_|refine WO.acall (hc:=hA) (k:=?_)|refine WO.acall (hc:=h0) (k:=?_)|refine WO.acall (hc:=hL) (k:=?_)|refine WO.does (does_func rfl rfl) ?_|refine Tc ?_|exact Tz)
    rename_i g2 g4 gV
    refine WC.ndp' (fun hnd=>?_)
    have hne:g2≠gV:=by intro e;simp[e] at hnd
    clear hnd
    refine WC.loopI (σ:=Nat) (fun i=>i≤k) (fun i=>[(2,Sx.pt g2),(4,Sx.pt g4),(5,.int .u64 (m:Int)),(6,.int .i64 0),(7,Sx.pt gV),(8,.func (.func 182) #[] #[Sx.pt gV,Sx.pt g2]),(23,.int .i64 (k:Int)),(24,.int .i64 (i:Int))])
      (fun i=>[⟨gV,24,numC (topN m k i%q)⟩,⟨g4,24,numC 0⟩,⟨g2,26,grpC p q g h⟩]) (fun i=>k - i) 0 (fun i hi=>?_) (Nat.zero_le _)
      (hl:=by rw[htop,Nat.zero_mod];repeat (first|exact Lle.nil|refine Lle.cons (by repeat (first|exact Pk.here|apply Pk.there)) (by rfl) ?_))
    try dsimp only at hi ⊢
    by_cases hlt:i<k
    · have hstep:=topN_step (m:=m) hlt
      have hal:topN m k i%q<q:=Nat.mod_lt _ (by omega)
      have hadd2:IntKind.i64.wrap ((i:Int)+1)=((i+1:Nat):Int):=i64_in' (by omega) (by omega) (by omega)
      have hs1:IntKind.i64.wrap ((k:Int) - 1)=((k - 1:Nat):Int):=i64_in' (by omega) (by omega) (by omega)
      have hs2:IntKind.i64.wrap (((k - 1:Nat):Int) - (i:Int))=((k - 1 - i:Nat):Int):=i64_in' (by omega) (by omega) (by omega)
      have hX:m / 2 ^ (k - 1 - i)<18446744073709551616:=Nat.lt_of_le_of_lt (Nat.div_le_self _ _) (by omega)
      have hand:IntKind.u64.wrap ((BitVec.ofInt IntKind.u64.bits ((m / 2 ^ (k - 1 - i):Nat):Int) &&& BitVec.ofInt IntKind.u64.bits 1).toNat)=((m / 2 ^ (k - 1 - i)%2:Nat):Int):=and_one _ hX
      have hC1:=hC gV g2 (topN m k i%q) (topN m k i%q) hal hal
      have hbl:(topN m k i%q+topN m k i%q)%q<q:=Nat.mod_lt _ (by omega)
      have hC2:=hC gV g2 ((topN m k i%q+topN m k i%q)%q) 1 hbl h1
      have hv:∀ b,m / 2 ^ (k - 1 - i)%2=b→((topN m k i%q+topN m k i%q)%q+b)%q=topN m k (i+1)%q:=fun b hb=>by
        rw[hstep,hb,← Nat.add_mod,Nat.mod_add_mod,Nat.two_mul]
      repeat (first|refine Ta ?_|(refine Tm ?_;intro _)|refine Tc ?_|exact Tz)
      refine WC.dT rfl (by omega) ?_
      repeat (first|refine Ta ?_|(refine Tm ?_;intro _)|refine Tc ?_|exact Tz)
      refine WO.callsLV hC1 rfl rfl rfl (Pks.cons (by repeat (first|exact Pk.here|apply Pk.there)) Pks.nil) (fun w1 hm=>⟨Hs.seg (by repeat (first|exact Hs.here|apply Hs.there)) hm,hne⟩) (fun v N hv=>?_)
      obtain⟨rfl,rfl⟩:=hv
      simp only[List.cons_append,List.nil_append]
      have hb2':=Nat.mod_lt (m / 2 ^ (k - 1 - i)) (show 2 > 0 by decide)
      generalize hbb:m / 2 ^ (k - 1 - i)%2=b at *
      generalize (topN m k i%q+topN m k i%q)%q=A at *
      repeat (first|refine Ta ?_|(refine Tm ?_;intro _)|refine WO.acall (hc:=hL) (k:=?_)|refine WO.does (does_sub rfl rfl hs1) ?_|refine WO.does (does_sub rfl rfl hs2) ?_|refine WO.does (does_shr rfl rfl (by omega) (shr_nat (by show k - 1 - i≤64;omega))) ?_|refine WO.does (does_and rfl rfl hand) ?_|refine Tc ?_|exact Tz)
      have hb01:b=0∨b=1:=by omega
      rcases hb01 with rfl|rfl
      · have hv0:=hv 0 rfl
        rw[Nat.add_zero,Nat.mod_eq_of_lt hbl] at hv0
        refine WC.condF rfl ?_
        repeat (first|refine Ta ?_|(refine Tm ?_;intro _)|refine WO.does (does_add rfl rfl hadd2) ?_|refine Tc ?_|exact Tz)
        rw[hv0]
        exact WX.metI (i+1) (hs:=⟨by show i+1≤k;omega,by show k - (i+1)<k - i;omega⟩)
      · have hv1:=hv 1 rfl
        rw[hv1] at hC2
        refine WC.condT rfl ?_
        repeat (first|refine Ta ?_|(refine Tm ?_;intro _)|refine WO.acall (hc:=hO1) (k:=?_)|refine Tc ?_|exact Tz)
        refine WO.callsLV hC2 rfl rfl rfl (Pks.cons (by repeat (first|exact Pk.here|apply Pk.there)) Pks.nil) (fun w1 hm=>⟨Hs.seg (by repeat (first|exact Hs.here|apply Hs.there)) hm,hne⟩) (fun v N hv=>?_)
        obtain⟨rfl,rfl⟩:=hv
        simp only[List.cons_append,List.nil_append]
        repeat (first|refine Ta ?_|(refine Tm ?_;intro _)|refine WO.does (does_add rfl rfl hadd2) ?_|refine Tc ?_|exact Tz)
        exact WX.metI (i+1) (hs:=⟨by show i+1≤k;omega,by show k - (i+1)<k - i;omega⟩)
    · have hi2:i=k:=by omega
      subst hi2
      rw[hall]
      repeat (first|refine Ta ?_|(refine Tm ?_;intro _)|refine Tc ?_|exact Tz)
      refine WC.dF rfl (by omega) ?_
      repeat (first|refine Ta ?_|(refine Tm ?_;intro _)|refine Tc ?_|exact Tz)
      done
  · rw[show ofZ q (m:Int)=0 by unfold ofZ;rw[if_pos (by omega)]]
    have hb2:((bitsN q:Nat):Int)<2:=by
      have:bitsN q≤1:=by rw[bitsN_le_iff];omega
      omega
    generalize bitsN q=bq at *
    refine Fn.enter Tryz.func103 rfl rfl rfl ?_
    intro w hw
    repeat (first|refine Ta ?_|(refine Tm ?_;intro _)|refine WO.acall (hc:=hB) (k:=?_)|refine WO.does (does_lssY rfl rfl hb2) ?_|refine Tc ?_|exact Tz)
    done
end
end Sx
end Go.Proofs.YtiiacjladnljhaaGreatDoor
namespace Go.Proofs.YtiiacjladnljhaaGreatDoor
open Go Go.RowKit Go.BigFrame
namespace Sx
attribute [local irreducible] wd DQ DQS WO WC WX
theorem c_nodes1 (n:Nat) (hn:n<4611686018427387904):Fn Tryz.prog 185 [.int .i64 (n:Int)] Tr (Is (.int .i64 ((n+1:Nat):Int))):=by
  have ha:IntKind.i64.wrap ((n:Int)+1)=((n+1:Nat):Int):=i64_in' (by omega) (by omega) (by omega)
  refine Fn.enter Tryz.func185 rfl rfl rfl ?_
  intro w hw
  repeat (first|refine Ta ?_|(refine Tm ?_;intro _)|refine WO.does (does_add rfl rfl ha) ?_|refine Tc ?_|exact Tz)
abbrev sideC:List Value:=[.int .i64 7,.func (.func 185) #[] #[]]
theorem c_nodes:Fn Tryz.prog 104 [] Tr (Is (.agg sideC.toArray)):=by
  refine Fn.enter Tryz.func104 rfl rfl rfl ?_
  intro w hw
  repeat (first|refine Ta ?_|(refine Tm ?_;intro _)|refine Tc ?_|exact Tz)
set_option maxHeartbeats 1000000 in
theorem c_made {f:Nat} [Cal Tryz.prog f] (caps:List Value) (V:Nat→Nat) (m:Nat) (R:World→Prop) (hst:Stable R) (hm:m≤100)
    (hf:∀ i,i<m→Fn Tryz.prog f ([.int .i64 (i:Int)]++caps) R (Is (.tuple #[numV (V i),.int .i64 0]))) :
    Fn Tryz.prog 100 [.int .i64 (m:Int),.func (.func f) #[] caps.toArray] R
      (Ex (fun s=>.tuple #[.slice (some ⟨s 0,0,none⟩) m m,.int .i64 0]) (fun s=>[⟨s 0,24,((List.range m).map V).flatMap numC⟩]) (fun _=>True)):=by
  refine Fn.enter Tryz.func100 rfl rfl rfl ?_
  intro w hw
  repeat (first|refine Ta ?_|(refine Tm ?_;intro _)|(refine WO.makes (makes_slice (l:=0) (c:=m) rfl rfl (by omega) (by omega) (by omega)) ?_;intro g)|refine Tc ?_|exact Tz)
  refine WC.loopI (σ:=Nat) (fun i=>i≤m) (fun i=>[(1,.func (.func f) #[] caps.toArray),(5,.int .i64 0),(6,.slice (some ⟨g,0,none⟩) i m),(12,.int .i64 (m:Int)),(13,.int .i64 (i:Int))]) (fun i=>[⟨g,24,((List.range i).map V).flatMap numC++mkz (m - i) (numC 0)⟩]) (fun i=>m - i) 0 (fun i hi=>?_) (Nat.zero_le _)
  try dsimp only at hi ⊢
  by_cases hlt:i<m
  · have hadd2:IntKind.i64.wrap ((i:Int)+1)=((i+1:Nat):Int):=i64_in' (by omega) (by omega) (by omega)
    have hcall:=hf i hlt
    have hx:((List.range m).map V)[i]?=some (V i):=by simp[hlt]
    have htk:∀ j,j≤m→((List.range m).map V).take j=(List.range j).map V:=fun j hj=>by rw[← List.map_take,List.take_range,Nat.min_eq_left hj]
    have hov:=over_twin (f:=numC) (z:=numC 0) (m:=m - i) numC_len rfl hx (by omega)
    rw[htk i (by omega),htk (i+1) (by omega),show m - i - 1=m - (i+1) by omega] at hov
    have hle:i*(numC 0).length+(numC (V i)).length≤(((List.range i).map V).flatMap numC++mkz (m - i) (numC 0)).length:=by
      rw[List.length_append,flat_length numC_len,mkz_length,List.length_map,List.length_range]
      show i*4+4≤i*4+(m - i)*4
      have:1*4≤(m - i)*4:=Nat.mul_le_mul_right _ (by omega)
      omega
    repeat (first|refine Ta ?_|(refine Tm ?_;intro _)|refine Tc ?_|exact Tz)
    refine WC.dT rfl (by omega) ?_
    repeat (first|refine Ta ?_|(refine Tm ?_;intro _)|refine WO.acallV (hc:=hcall) (hR:=fun w' hm=>hst _ _ hw hm.mod.below) (k:=?_)|refine Tc ?_|exact Tz)
    repeat (first|refine Ta ?_|(refine Tm ?_;intro _)|(refine WO.makes (makes_build (t:=30) (cs:=numC (V i)) rfl (by decide) rfl) ?_;intro g2)|refine WO.both (app_room (s:=undef) (z:=numC 0) rfl rfl (Rds.own (m:=4) Hs.here rfl) rfl (by omega) rfl (by repeat (first|exact Rp.here|apply Rp.there)) hov hle rfl (by decide)) ?_|refine WO.does (does_add rfl rfl hadd2) ?_|refine Tc ?_|exact Tz)
    exact WX.metI (i+1) (hs:=⟨by show i+1≤m;omega,by show m - (i+1)<m - i;omega⟩)
  · have hi2:i=m:=by omega
    subst hi2
    rw[Nat.sub_self,show mkz 0 (numC 0)=[] from rfl,List.append_nil]
    repeat (first|refine Ta ?_|(refine Tm ?_;intro _)|refine Tc ?_|exact Tz)
    refine WC.dF rfl (by omega) ?_
    repeat (first|refine Ta ?_|(refine Tm ?_;intro _)|refine Tc ?_|exact Tz)
    exact WX.ret2 rfl (by exact rv_tmp rfl) (by exact rv_tmp rfl) [⟨g,24,((List.range i).map V).flatMap numC⟩] (Lle.cons (by repeat (first|exact Pk.here|apply Pk.there)) rfl Lle.nil) ⟨fun _=>g,rfl,rfl,trivial⟩
end Sx
end Go.Proofs.YtiiacjladnljhaaGreatDoor
namespace Go.Proofs.YtiiacjladnljhaaGreatDoor
open Go Go.RowKit Go.BigFrame
namespace Sx
attribute [local irreducible] wd DQ DQS WO WC WX
end Sx
end Go.Proofs.YtiiacjladnljhaaGreatDoor
namespace Go.Proofs.YtiiacjladnljhaaGreatDoor
open Go Go.RowKit Go.BigFrame
namespace Sx
attribute [local irreducible] wd DQ DQS WO WC WX
theorem RdF.get {α:Type} {f:α→List Value} {pz:Option Addr} {n c:Nat} {xs:List α} {w:World} (h:RdF f (.slice pz n c) xs w) {i:Nat} {x:α} (hx:xs[i]?=some x):∃ b o,pz=some ⟨b,o,none⟩∧n=xs.length∧Seg w b o (xs.flatMap f):=by
  obtain⟨p,c',e,h⟩:=h
  cases e
  rcases h with ⟨_,rfl⟩|⟨b,o,rfl,hs⟩
  · simp at hx
  · exact⟨b,o,rfl,rfl,hs⟩
end Sx
end Go.Proofs.YtiiacjladnljhaaGreatDoor
namespace Go.Proofs.YtiiacjladnljhaaGreatDoor
open Go Go.RowKit Go.BigFrame
namespace Sx
attribute [local irreducible] wd DQ DQS WO WC WX
section
variable {w0:World} {gs:List Nat} {K:List (Nat × Value)} {L:List Ent}
theorem a_eqGroupV {x y:Operand} {yt ty:TypeId} {p q g h:Nat} (hx:ev K x=some (.agg (grpC p q g h).toArray)) (hy:ev K y=some (.agg (grpC p q g h).toArray)):Does Tryz.prog w0 gs K L (.binOp .eql 26 x y yt) ty (.bool true) :=
  a_eqSame hx hy (fun w=>same_group p q g h w) (fun w=>guard_group _ _ _ _ _ w)
end
section
variable (p q g h:Nat) (f sec:Int) (pt:Option Addr) (c:Nat) (N:List (Nat × Nat))
set_option maxHeartbeats 2000000 in
theorem u_TwinSetting (hNl:N.length≤100) :
    Fn Tryz.prog 5 [stV p q g h f sec (.slice pt N.length c)] (RdF keyC (.slice pt N.length c) N)
      (Ex (fun s=>stV p q g h f sec (.slice (some ⟨s 0,0,none⟩) N.length (N.length+1))) (fun s=>[⟨s 0,97,N.flatMap keyC++twoC 77 0⟩]) (fun _=>True)):=by
  have hT:=t_TwinKeys N pt c hNl
  refine Fn.enter Tryz.func5 rfl rfl rfl ?_
  intro w hw
  repeat (first|refine Ta ?_|(refine Tm ?_;intro _)|refine Tc ?_|exact Tz)
  refine WC.adraw 10 (k:=?_)
  repeat (first|refine Da ?_|refine DQ.acallC (hc:=hT) (hR:=fun w hm=>hw.mod hm.mod) (k:=?_)|refine Dc ?_)
  refine DQ.anil (k:=?_)
  intro sx _
  generalize sx 8 0=gN
  repeat (first|refine Ta ?_|(refine Tm ?_;intro _)|refine Tc ?_|exact Tz)
  exact WX.ret1 rfl a_rvc [⟨gN,97,N.flatMap keyC++twoC 77 0⟩] (Lle.cons (by repeat (first|exact Pk.here|apply Pk.there)) rfl Lle.nil) ⟨fun _=>gN,rfl,rfl,trivial⟩
set_option maxHeartbeats 2000000 in
theorem u_LeftSetting (bt:Nat) (hNl:N.length≤100) :
    Fn Tryz.prog 13 [stV p q g h f sec (.slice (some ⟨bt,0,none⟩) N.length (N.length+1)),stV p q g h f sec (.slice pt N.length c)]
      (fun w=>Seg w bt 0 (N.flatMap keyC++twoC 77 0)∧RdF keyC (.slice pt N.length c) N w) (Is (.bool true)):=by
  have hL:=t_LeftKeys N pt c bt hNl
  refine Fn.enter Tryz.func13 rfl rfl rfl ?_
  intro w hw
  repeat (first|refine Ta ?_|(refine Tm ?_;intro _)|refine WO.does (a_eqGroupV (p:=p) (q:=q) (g:=g) (h:=h) rfl rfl) ?_|refine WO.does (does_eqlY rfl rfl rfl) ?_|refine WO.acallR (hc:=hL) (hR:=fun w hm=>⟨hw.1.mod hm.mod (by simp),hw.2.mod hm.mod⟩) (k:=?_)|refine Tc ?_|exact Tz)
  done
end
set_option maxHeartbeats 2000000 in
theorem u_SameNums (xs:List (Nat)) (pa pb:Option Addr) (ca cb:Nat) (hn:xs.length≤100) :
    Fn Tryz.prog 12 [.slice pa xs.length ca,.slice pb xs.length cb] (fun w=>RdF numC (.slice pa xs.length ca) xs w∧RdF numC (.slice pb xs.length cb) xs w) (Is (.bool true)):=by
  have d0:decide ((xs.length:Int)≠(xs.length:Int))=false:=decide_eq_false (fun h=>h rfl)
  refine Fn.enter Tryz.func12 rfl rfl rfl ?_
  intro w hw
  obtain⟨hwA,hwB⟩:=hw
  repeat (first|refine Ta ?_|(refine Tm ?_;intro _)|refine Tc ?_|exact Tz)
  rw[d0]
  repeat (first|refine Ta ?_|(refine Tm ?_;intro _)|refine Tc ?_|exact Tz)
  refine WC.loopI (σ:=Nat) (fun i=>i≤xs.length) (fun i=>[(0,.slice pa xs.length ca),(1,.slice pb xs.length cb),(5,.int .i64 (i:Int))]) (fun i=>[]) (fun i=>xs.length - i) 0 (fun i hi=>?_) (Nat.zero_le _)
  try dsimp only at hi ⊢
  by_cases hlt:i<xs.length
  · obtain⟨x,hx⟩ : ∃ x,xs[i]?=some x:=⟨_,List.getElem?_eq_getElem hlt⟩
    obtain⟨b,o,rfl,_,hs⟩:=hwA.get hx
    obtain⟨b2,o2,rfl,_,hs2⟩:=hwB.get hx
    have hadd2:IntKind.i64.wrap ((i:Int)+1)=((i+1:Nat):Int):=i64_in' (by omega) (by omega) (by omega)
    have hcx:cut (xs.flatMap numC) (o+i*4 - o) 4=numC x:=by rw[Nat.add_sub_cancel_left];exact cut_flat numC_len hx
    have hcy:cut (xs.flatMap numC) (o2+i*4 - o2) 4=numC x:=by rw[Nat.add_sub_cancel_left];exact cut_flat numC_len hx
    repeat (first|refine Ta ?_|(refine Tm ?_;intro _)|refine Tc ?_|exact Tz)
    refine WC.dT rfl (by omega) ?_
    repeat (first|refine Ta ?_|(refine Tm ?_;intro _)|refine Tc ?_|exact Tz)
    refine WC.adraw 9 (k:=?_)
    iterate 2 (refine DQ.auto (k:=?_))
    refine DQ.does (fun s _=>does_indexSlice (o':=o+i*4) rfl rfl hlt rfl) Dp.const ?_
    refine DQ.does (fun s _=>a_loadF (vs:=numC x) (hs:=hs) (hle:=Nat.le_add_right _ _) (hc:=hcx)) Dp.const ?_
    iterate 2 (refine DQ.auto (k:=?_))
    refine DQ.does (fun s _=>does_indexSlice (o':=o2+i*4) rfl rfl hlt rfl) Dp.const ?_
    refine DQ.does (fun s _=>a_loadF (vs:=numC x) (hs:=hs2) (hle:=Nat.le_add_right _ _) (hc:=hcy)) Dp.const ?_
    refine DQ.does (fun s _=>a_neqSame rfl rfl (fun w=>same_num x w) (fun w=>run_eqGuard_num _ _ _ _ _ w)) Dp.const ?_
    refine DQ.anil (k:=?_)
    intro sx _
    repeat (first|refine Ta ?_|(refine Tm ?_;intro _)|refine WO.does (does_add rfl rfl hadd2) ?_|refine Tc ?_|exact Tz)
    exact WX.metI (i+1) (hs:=⟨by show i+1≤xs.length;omega,by show xs.length - (i+1)<xs.length - i;omega⟩)
  · have hi2:i=xs.length:=by omega
    subst hi2
    repeat (first|refine Ta ?_|(refine Tm ?_;intro _)|refine Tc ?_|exact Tz)
    refine WC.dF rfl (by omega) ?_
    repeat (first|refine Ta ?_|(refine Tm ?_;intro _)|refine Tc ?_|exact Tz)
end Sx
end Go.Proofs.YtiiacjladnljhaaGreatDoor
namespace Go.Proofs.YtiiacjladnljhaaGreatDoor
open Go Go.RowKit Go.BigFrame
namespace Sx
attribute [local irreducible] wd DQ DQS WO WC WX
abbrev gvV (ep d:Nat) (v y pr:Value) (c s n x:Nat) (l pp:Value):Value:=.agg #[.int .u64 (ep:Int),.int .u8 (d:Int),v,y,pr,.int .u64 ((wd 0 c:Nat):Int),.int .u64 ((wd 1 c:Nat):Int),.int .u64 ((wd 2 c:Nat):Int),.int .u64 ((wd 3 c:Nat):Int),.int .u64 ((wd 0 s:Nat):Int),.int .u64 ((wd 1 s:Nat):Int),.int .u64 ((wd 2 s:Nat):Int),.int .u64 ((wd 3 s:Nat):Int),.int .u8 (n:Int),.int .u64 ((wd 0 x:Nat):Int),.int .u64 ((wd 1 x:Nat):Int),.int .u64 ((wd 2 x:Nat):Int),.int .u64 ((wd 3 x:Nat):Int),l,pp]
abbrev gvC (ep d:Nat) (v y pr:Value) (c s n x:Nat) (l pp:Value):List Value:=[.int .u64 (ep:Int),.int .u8 (d:Int),v,y,pr,.int .u64 ((wd 0 c:Nat):Int),.int .u64 ((wd 1 c:Nat):Int),.int .u64 ((wd 2 c:Nat):Int),.int .u64 ((wd 3 c:Nat):Int),.int .u64 ((wd 0 s:Nat):Int),.int .u64 ((wd 1 s:Nat):Int),.int .u64 ((wd 2 s:Nat):Int),.int .u64 ((wd 3 s:Nat):Int),.int .u8 (n:Int),.int .u64 ((wd 0 x:Nat):Int),.int .u64 ((wd 1 x:Nat):Int),.int .u64 ((wd 2 x:Nat):Int),.int .u64 ((wd 3 x:Nat):Int),l,pp]
section
variable (p q g h:Nat) (f sec:Int) (ep d sC sS n x:Nat) (p0 p1 p2 p3 p4 p5:Option Addr) (n0 n1 n2 n3 n4 n5 c0 c1 c2 c3 c4 c5:Nat)
set_option maxHeartbeats 2000000
theorem great0 (h0:(100:Int)<(n0:Int)):Fn Tryz.prog 4 [stV p q g h f sec (.slice p0 n0 c0),gvV ep d (.slice p1 n1 c1) (.slice p2 n2 c2) (.slice p3 n3 c3) sC sS n x (.slice p4 n4 c4) (.slice p5 n5 c5)] Tr (Is (.bool true)):=by
  refine Fn.enter Tryz.func4 rfl rfl rfl ?_
  intro w hw
  repeat (first|refine Ta ?_|(refine Tm ?_;intro _)|refine WO.does (does_gtrY rfl rfl h0) ?_|refine Tc ?_|exact Tz)
  done
theorem great1 (h0:¬ (100:Int)<(n0:Int)) (h1:(100:Int)<(n1:Int)):Fn Tryz.prog 4 [stV p q g h f sec (.slice p0 n0 c0),gvV ep d (.slice p1 n1 c1) (.slice p2 n2 c2) (.slice p3 n3 c3) sC sS n x (.slice p4 n4 c4) (.slice p5 n5 c5)] Tr (Is (.bool true)):=by
  refine Fn.enter Tryz.func4 rfl rfl rfl ?_
  intro w hw
  repeat (first|refine Ta ?_|(refine Tm ?_;intro _)|refine WO.does (does_gtrN rfl rfl h0) ?_|refine WO.does (does_gtrY rfl rfl h1) ?_|refine Tc ?_|exact Tz)
  done
theorem great2 (h0:¬ (100:Int)<(n0:Int)) (h1:¬ (100:Int)<(n1:Int)) (h2:(100:Int)<(n2:Int)):Fn Tryz.prog 4 [stV p q g h f sec (.slice p0 n0 c0),gvV ep d (.slice p1 n1 c1) (.slice p2 n2 c2) (.slice p3 n3 c3) sC sS n x (.slice p4 n4 c4) (.slice p5 n5 c5)] Tr (Is (.bool true)):=by
  refine Fn.enter Tryz.func4 rfl rfl rfl ?_
  intro w hw
  repeat (first|refine Ta ?_|(refine Tm ?_;intro _)|refine WO.does (does_gtrN rfl rfl h0) ?_|refine WO.does (does_gtrN rfl rfl h1) ?_|refine WO.does (does_gtrY rfl rfl h2) ?_|refine Tc ?_|exact Tz)
  done
theorem great3 (h0:¬ (100:Int)<(n0:Int)) (h1:¬ (100:Int)<(n1:Int)) (h2:¬ (100:Int)<(n2:Int)) (h3:(100:Int)<(n3:Int)):Fn Tryz.prog 4 [stV p q g h f sec (.slice p0 n0 c0),gvV ep d (.slice p1 n1 c1) (.slice p2 n2 c2) (.slice p3 n3 c3) sC sS n x (.slice p4 n4 c4) (.slice p5 n5 c5)] Tr (Is (.bool true)):=by
  refine Fn.enter Tryz.func4 rfl rfl rfl ?_
  intro w hw
  repeat (first|refine Ta ?_|(refine Tm ?_;intro _)|refine WO.does (does_gtrN rfl rfl h0) ?_|refine WO.does (does_gtrN rfl rfl h1) ?_|refine WO.does (does_gtrN rfl rfl h2) ?_|refine WO.does (does_gtrY rfl rfl h3) ?_|refine Tc ?_|exact Tz)
  done
theorem great4 (h0:¬ (100:Int)<(n0:Int)) (h1:¬ (100:Int)<(n1:Int)) (h2:¬ (100:Int)<(n2:Int)) (h3:¬ (100:Int)<(n3:Int)) (h4:(100:Int)<(n4:Int)):Fn Tryz.prog 4 [stV p q g h f sec (.slice p0 n0 c0),gvV ep d (.slice p1 n1 c1) (.slice p2 n2 c2) (.slice p3 n3 c3) sC sS n x (.slice p4 n4 c4) (.slice p5 n5 c5)] Tr (Is (.bool true)):=by
  refine Fn.enter Tryz.func4 rfl rfl rfl ?_
  intro w hw
  repeat (first|refine Ta ?_|(refine Tm ?_;intro _)|refine WO.does (does_gtrN rfl rfl h0) ?_|refine WO.does (does_gtrN rfl rfl h1) ?_|refine WO.does (does_gtrN rfl rfl h2) ?_|refine WO.does (does_gtrN rfl rfl h3) ?_|refine WO.does (does_gtrY rfl rfl h4) ?_|refine Tc ?_|exact Tz)
  done
theorem great5 (h0:¬ (100:Int)<(n0:Int)) (h1:¬ (100:Int)<(n1:Int)) (h2:¬ (100:Int)<(n2:Int)) (h3:¬ (100:Int)<(n3:Int)) (h4:¬ (100:Int)<(n4:Int)) (h5:(100:Int)<(n5:Int)):Fn Tryz.prog 4 [stV p q g h f sec (.slice p0 n0 c0),gvV ep d (.slice p1 n1 c1) (.slice p2 n2 c2) (.slice p3 n3 c3) sC sS n x (.slice p4 n4 c4) (.slice p5 n5 c5)] Tr (Is (.bool true)):=by
  refine Fn.enter Tryz.func4 rfl rfl rfl ?_
  intro w hw
  repeat (first|refine Ta ?_|(refine Tm ?_;intro _)|refine WO.does (does_gtrN rfl rfl h0) ?_|refine WO.does (does_gtrN rfl rfl h1) ?_|refine WO.does (does_gtrN rfl rfl h2) ?_|refine WO.does (does_gtrN rfl rfl h3) ?_|refine WO.does (does_gtrN rfl rfl h4) ?_|refine WO.does (does_gtrY rfl rfl h5) ?_|refine Tc ?_|exact Tz)
  done
theorem great6 (h0:¬ (100:Int)<(n0:Int)) (h1:¬ (100:Int)<(n1:Int)) (h2:¬ (100:Int)<(n2:Int)) (h3:¬ (100:Int)<(n3:Int)) (h4:¬ (100:Int)<(n4:Int)) (h5:¬ (100:Int)<(n5:Int)):Fn Tryz.prog 4 [stV p q g h f sec (.slice p0 n0 c0),gvV ep d (.slice p1 n1 c1) (.slice p2 n2 c2) (.slice p3 n3 c3) sC sS n x (.slice p4 n4 c4) (.slice p5 n5 c5)] Tr (Is (.bool false)):=by
  refine Fn.enter Tryz.func4 rfl rfl rfl ?_
  intro w hw
  repeat (first|refine Ta ?_|(refine Tm ?_;intro _)|refine WO.does (does_gtrN rfl rfl h0) ?_|refine WO.does (does_gtrN rfl rfl h1) ?_|refine WO.does (does_gtrN rfl rfl h2) ?_|refine WO.does (does_gtrN rfl rfl h3) ?_|refine WO.does (does_gtrN rfl rfl h4) ?_|refine WO.does (does_gtrN rfl rfl h5) ?_|refine Tc ?_|exact Tz)
  done
def grtB (n0 n1 n2 n3 n4 n5:Nat):Bool:=decide (100<n0) || decide (100<n1) || decide (100<n2) || decide (100<n3) || decide (100<n4) || decide (100<n5)
theorem t_great:Fn Tryz.prog 4 [stV p q g h f sec (.slice p0 n0 c0),gvV ep d (.slice p1 n1 c1) (.slice p2 n2 c2) (.slice p3 n3 c3) sC sS n x (.slice p4 n4 c4) (.slice p5 n5 c5)] Tr (Is (.bool (grtB n0 n1 n2 n3 n4 n5))):=by
  by_cases h0:100<n0
  · rw[show grtB n0 n1 n2 n3 n4 n5=true by simp[grtB,h0]]
    exact great0 p q g h f sec ep d sC sS n x p0 p1 p2 p3 p4 p5 n0 n1 n2 n3 n4 n5 c0 c1 c2 c3 c4 c5 (by omega)
  by_cases h1:100<n1
  · rw[show grtB n0 n1 n2 n3 n4 n5=true by simp[grtB,h1]]
    exact great1 p q g h f sec ep d sC sS n x p0 p1 p2 p3 p4 p5 n0 n1 n2 n3 n4 n5 c0 c1 c2 c3 c4 c5 (by omega) (by omega)
  by_cases h2:100<n2
  · rw[show grtB n0 n1 n2 n3 n4 n5=true by simp[grtB,h2]]
    exact great2 p q g h f sec ep d sC sS n x p0 p1 p2 p3 p4 p5 n0 n1 n2 n3 n4 n5 c0 c1 c2 c3 c4 c5 (by omega) (by omega) (by omega)
  by_cases h3:100<n3
  · rw[show grtB n0 n1 n2 n3 n4 n5=true by simp[grtB,h3]]
    exact great3 p q g h f sec ep d sC sS n x p0 p1 p2 p3 p4 p5 n0 n1 n2 n3 n4 n5 c0 c1 c2 c3 c4 c5 (by omega) (by omega) (by omega) (by omega)
  by_cases h4:100<n4
  · rw[show grtB n0 n1 n2 n3 n4 n5=true by simp[grtB,h4]]
    exact great4 p q g h f sec ep d sC sS n x p0 p1 p2 p3 p4 p5 n0 n1 n2 n3 n4 n5 c0 c1 c2 c3 c4 c5 (by omega) (by omega) (by omega) (by omega) (by omega)
  by_cases h5:100<n5
  · rw[show grtB n0 n1 n2 n3 n4 n5=true by simp[grtB,h5]]
    exact great5 p q g h f sec ep d sC sS n x p0 p1 p2 p3 p4 p5 n0 n1 n2 n3 n4 n5 c0 c1 c2 c3 c4 c5 (by omega) (by omega) (by omega) (by omega) (by omega) (by omega)
  rw[show grtB n0 n1 n2 n3 n4 n5=false by simp[grtB];omega]
  exact great6 p q g h f sec ep d sC sS n x p0 p1 p2 p3 p4 p5 n0 n1 n2 n3 n4 n5 c0 c1 c2 c3 c4 c5 (by omega) (by omega) (by omega) (by omega) (by omega) (by omega)
end
end Sx
end Go.Proofs.YtiiacjladnljhaaGreatDoor
