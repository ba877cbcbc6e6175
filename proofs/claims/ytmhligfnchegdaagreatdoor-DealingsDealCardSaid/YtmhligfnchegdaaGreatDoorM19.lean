/- Part 19 of the proof: MdA, MdB, MdC, MdD, Inv, MdE, Grp, GpA, GpB, SxY -/
import Derived.Test.YtmhligfnchegdaaGreatDoorM17
import Derived.Test.YtmhligfnchegdaaGreatDoorM09
import Derived.Test.YtmhligfnchegdaaGreatDoorM18
import Derived.RangeFuncLeaves
import Derived.LoopN
set_option linter.unusedSimpArgs false
set_option linter.unusedVariables false
namespace Go.Proofs.YtmhligfnchegdaaGreatDoor
open Go Go.RowKit
namespace Sx
attribute [local irreducible] wd DQ DQS WO WC WX
theorem cmpN_lt {a b:Nat} (h:a<b):cmpN a b = -1:=by unfold cmpN;rw[if_neg (by omega),if_pos h]
theorem cmpN_gt {a b:Nat} (h:b<a):cmpN a b=1:=by unfold cmpN;rw[if_neg (by omega),if_neg (by omega)]
theorem cmpN_eq {a b:Nat} (h:a=b):cmpN a b=0:=by unfold cmpN;rw[if_pos h]
theorem add_casesN {a b m:Nat} (ha:a<m) (hb:b<m) (hm:m<B256) :
    ((a+b) / B256=0∧bw ((a+b)%B256) m 0=1∧(a+b)%m=(a+b)%B256) ∨
    ((a+b) / B256=1∧(a+b)%m=((a+b)%B256+B256 - m)%B256) ∨
    ((a+b) / B256=0∧bw ((a+b)%B256) m 0=0∧(a+b)%m=((a+b)%B256+B256 - m)%B256):=by
  by_cases hc:a+b<B256
  · have e:(a+b)%B256=a+b:=Nat.mod_eq_of_lt hc
    rw[e]
    have e0:(a+b) / B256=0:=Nat.div_eq_of_lt hc
    by_cases h:a+b<m
    · exact .inl ⟨e0,by simp[bw];omega,Nat.mod_eq_of_lt h⟩
    · refine .inr (.inr ⟨e0,by simp[bw];omega,?_⟩)
      rw[Nat.mod_eq_sub_mod (by omega),Nat.mod_eq_of_lt (by omega),show a+b+B256 - m=(a+b - m)+B256 by omega,Nat.add_mod_right,Nat.mod_eq_of_lt (by omega)]
  · have e:(a+b)%B256=a+b - B256:=by rw[Nat.mod_eq_sub_mod (by omega),Nat.mod_eq_of_lt (by omega)]
    refine .inr (.inl ⟨?_,?_⟩)
    · rw[Nat.div_eq_iff B256_zero];omega
    · rw[e,Nat.mod_eq_sub_mod (by omega),Nat.mod_eq_of_lt (by omega),show a+b - B256+B256 - m=a+b - m by omega,Nat.mod_eq_of_lt (by omega)]
theorem bw_two (a b c:Nat):bw a b c=0∨bw a b c=1:=by unfold bw;split<;>simp
theorem c_Add1 (a b m:Nat) (ha:a<m) (hb:b<m) (hm:m<B256):Fn Tryz.prog 238 [numV a,numV b,numV m] Tr (Is (numV ((a+b)%m))):=by
  have hc:=add_casesN ha hb hm
  have hA:=c_LAdd a b (by omega) (by omega)
  have hS:=c_LSub ((a+b)%B256) m (Nat.mod_lt _ B256_zero) hm
  have hl:=bw_two ((a+b)%B256) m 0
  generalize (a+b)%m=R at *
  generalize (a+b) / B256=c at *
  generalize ((a+b)%B256+B256 - m)%B256=y at *
  generalize bw ((a+b)%B256) m 0=l at *
  generalize (a+b)%B256=X at *
  rcases hc with ⟨rfl,rfl,rfl⟩|⟨rfl,rfl⟩|⟨rfl,rfl,rfl⟩
  · refine Fn.enter Tryz.func238 rfl rfl rfl ?_
    intro w hw
    repeat (first|refine Ta ?_|(refine Tm ?_;intro _)|refine WO.acall (hc:=hA) (k:=?_)|refine WO.acall (hc:=hS) (k:=?_)|refine Tc ?_|exact Tz)
  · rcases hl with rfl|rfl
    all_goals
      refine Fn.enter Tryz.func238 rfl rfl rfl ?_
      intro w hw
      repeat (first|refine Ta ?_|(refine Tm ?_;intro _)|refine WO.acall (hc:=hA) (k:=?_)|refine WO.acall (hc:=hS) (k:=?_)|refine Tc ?_|exact Tz)
  · refine Fn.enter Tryz.func238 rfl rfl rfl ?_
    intro w hw
    repeat (first|refine Ta ?_|(refine Tm ?_;intro _)|refine WO.acall (hc:=hA) (k:=?_)|refine WO.acall (hc:=hS) (k:=?_)|refine Tc ?_|exact Tz)
def okE (c:Bool):Int:=if c then 0 else 1
def okV (c:Bool) (r:Nat):Nat:=if c then r else 0
def mayN (a b m:Nat):Bool:=decide (1<m) && decide (a<m) && decide (b<m)
theorem mayN_cases (a b m:Nat):(1<m∧a<m∧b<m∧mayN a b m=true∧cmpN m 1=1∧cmpN a m = -1∧cmpN b m = -1) ∨
    (mayN a b m=false∧((cmpN m 1=0∨cmpN m 1 = -1)∨(cmpN m 1=1∧(cmpN a m=0∨cmpN a m=1))∨(cmpN m 1=1∧cmpN a m = -1∧(cmpN b m=0∨cmpN b m=1)))):=by
  unfold mayN cmpN
  by_cases h1:1<m
  · by_cases h2:a<m
    · by_cases h3:b<m
      · refine .inl ⟨h1,h2,h3,by simp[h1,h2,h3],?_,?_,?_⟩
        · rw[if_neg (by omega),if_neg (by omega)]
        · rw[if_neg (by omega),if_pos h2]
        · rw[if_neg (by omega),if_pos h3]
      · refine .inr ⟨by simp[h3],.inr (.inr ⟨?_,?_,?_⟩)⟩
        · rw[if_neg (by omega),if_neg (by omega)]
        · rw[if_neg (by omega),if_pos h2]
        · by_cases e:b=m
          · exact .inl (if_pos e)
          · exact .inr (by rw[if_neg e,if_neg h3])
    · refine .inr ⟨by simp[h2],.inr (.inl ⟨?_,?_⟩)⟩
      · rw[if_neg (by omega),if_neg (by omega)]
      · by_cases e:a=m
        · exact .inl (if_pos e)
        · exact .inr (by rw[if_neg e,if_neg h2])
  · refine .inr ⟨by simp[h1],.inl ?_⟩
    by_cases e:m=1
    · exact .inl (if_pos e)
    · exact .inr (by rw[if_neg e,if_pos (by omega)])
set_option maxHeartbeats 1000000 in
theorem c_of {f:Nat} [Cal Tryz.prog f] (caps:List Value) (a b m r:Nat) (ha:a<B256) (hb:b<B256) (hm:m<B256) (R:World→Prop) (hst:Stable R)
    (hf:mayN a b m=true→Fn Tryz.prog f ([numV a,numV b,numV m]++caps) R (Is (numV r))) :
    Fn Tryz.prog 198 [.agg #[.func (.func f) #[] caps.toArray],numV a,numV b,numV m] R (Is (.tuple #[numV (okV (mayN a b m) r),.int .i64 (okE (mayN a b m))])):=by
  have hC1:=c_Cmp m 1 hm B256_one'
  have hC2:=c_Cmp a m ha hm
  have hC3:=c_Cmp b m hb hm
  rcases mayN_cases a b m with ⟨h1,h2,h3,hy,e1,e2,e3⟩|⟨hn,hc⟩
  · have hF:=hf hy
    rw[hy]
    rw[e1] at hC1;rw[e2] at hC2;rw[e3] at hC3
    refine Fn.enter Tryz.func198 rfl rfl rfl ?_
    intro w hw
    repeat (first|refine Ta ?_|(refine Tm ?_;intro _)|refine Tc ?_|exact Tz)
    refine WC.adraw 16 (k:=?_)
    repeat (first|refine Da ?_|refine DQ.acall (hc:=c_Of1) (k:=?_)|refine DQ.acall (hc:=hC1) (k:=?_)|refine DQ.acall (hc:=hC2) (k:=?_)|refine DQ.acall (hc:=hC3) (k:=?_)|refine Dc ?_)
    refine DQ.anil (k:=?_)
    intro sx _
    repeat (first|refine Ta ?_|(refine Tm ?_;intro _)|refine WO.acallV (hc:=hF) (hR:=fun w' hm=>hst _ _ hw hm.mod.below) (k:=?_)|refine Tc ?_|exact Tz)
  · rw[hn]
    rcases hc with (e1|e1)|⟨e1,e2|e2⟩|⟨e1,e2,e3|e3⟩
    · rw[e1] at hC1
      refine Fn.enter Tryz.func198 rfl rfl rfl ?_
      intro w hw
      repeat (first|refine Ta ?_|(refine Tm ?_;intro _)|refine Tc ?_|exact Tz)
      refine WC.adraw 16 (k:=?_)
      repeat (first|refine Da ?_|refine DQ.acall (hc:=c_Of1) (k:=?_)|refine DQ.acall (hc:=hC1) (k:=?_)|refine DQ.acall (hc:=hC2) (k:=?_)|refine DQ.acall (hc:=hC3) (k:=?_)|refine Dc ?_)
      refine DQ.anil (k:=?_)
      intro sx _
      repeat (first|refine Ta ?_|(refine Tm ?_;intro _)|refine Tc ?_|exact Tz)
    · rw[e1] at hC1
      refine Fn.enter Tryz.func198 rfl rfl rfl ?_
      intro w hw
      repeat (first|refine Ta ?_|(refine Tm ?_;intro _)|refine Tc ?_|exact Tz)
      refine WC.adraw 16 (k:=?_)
      repeat (first|refine Da ?_|refine DQ.acall (hc:=c_Of1) (k:=?_)|refine DQ.acall (hc:=hC1) (k:=?_)|refine DQ.acall (hc:=hC2) (k:=?_)|refine DQ.acall (hc:=hC3) (k:=?_)|refine Dc ?_)
      refine DQ.anil (k:=?_)
      intro sx _
      repeat (first|refine Ta ?_|(refine Tm ?_;intro _)|refine Tc ?_|exact Tz)
    · rw[e1] at hC1;rw[e2] at hC2
      refine Fn.enter Tryz.func198 rfl rfl rfl ?_
      intro w hw
      repeat (first|refine Ta ?_|(refine Tm ?_;intro _)|refine Tc ?_|exact Tz)
      refine WC.adraw 16 (k:=?_)
      repeat (first|refine Da ?_|refine DQ.acall (hc:=c_Of1) (k:=?_)|refine DQ.acall (hc:=hC1) (k:=?_)|refine DQ.acall (hc:=hC2) (k:=?_)|refine DQ.acall (hc:=hC3) (k:=?_)|refine Dc ?_)
      refine DQ.anil (k:=?_)
      intro sx _
      repeat (first|refine Ta ?_|(refine Tm ?_;intro _)|refine Tc ?_|exact Tz)
    · rw[e1] at hC1;rw[e2] at hC2
      refine Fn.enter Tryz.func198 rfl rfl rfl ?_
      intro w hw
      repeat (first|refine Ta ?_|(refine Tm ?_;intro _)|refine Tc ?_|exact Tz)
      refine WC.adraw 16 (k:=?_)
      repeat (first|refine Da ?_|refine DQ.acall (hc:=c_Of1) (k:=?_)|refine DQ.acall (hc:=hC1) (k:=?_)|refine DQ.acall (hc:=hC2) (k:=?_)|refine DQ.acall (hc:=hC3) (k:=?_)|refine Dc ?_)
      refine DQ.anil (k:=?_)
      intro sx _
      repeat (first|refine Ta ?_|(refine Tm ?_;intro _)|refine Tc ?_|exact Tz)
    · rw[e1] at hC1;rw[e2] at hC2;rw[e3] at hC3
      refine Fn.enter Tryz.func198 rfl rfl rfl ?_
      intro w hw
      repeat (first|refine Ta ?_|(refine Tm ?_;intro _)|refine Tc ?_|exact Tz)
      refine WC.adraw 16 (k:=?_)
      repeat (first|refine Da ?_|refine DQ.acall (hc:=c_Of1) (k:=?_)|refine DQ.acall (hc:=hC1) (k:=?_)|refine DQ.acall (hc:=hC2) (k:=?_)|refine DQ.acall (hc:=hC3) (k:=?_)|refine Dc ?_)
      refine DQ.anil (k:=?_)
      intro sx _
      repeat (first|refine Ta ?_|(refine Tm ?_;intro _)|refine Tc ?_|exact Tz)
    · rw[e1] at hC1;rw[e2] at hC2;rw[e3] at hC3
      refine Fn.enter Tryz.func198 rfl rfl rfl ?_
      intro w hw
      repeat (first|refine Ta ?_|(refine Tm ?_;intro _)|refine Tc ?_|exact Tz)
      refine WC.adraw 16 (k:=?_)
      repeat (first|refine Da ?_|refine DQ.acall (hc:=c_Of1) (k:=?_)|refine DQ.acall (hc:=hC1) (k:=?_)|refine DQ.acall (hc:=hC2) (k:=?_)|refine DQ.acall (hc:=hC3) (k:=?_)|refine Dc ?_)
      refine DQ.anil (k:=?_)
      intro sx _
      repeat (first|refine Ta ?_|(refine Tm ?_;intro _)|refine Tc ?_|exact Tz)
end Sx
end Go.Proofs.YtmhligfnchegdaaGreatDoor
namespace Go.Proofs.YtmhligfnchegdaaGreatDoor
open Go Go.RowKit
namespace Sx
attribute [local irreducible] wd DQ DQS WO WC WX
theorem mayN_spec {a b m:Nat} (h:mayN a b m=true):1<m∧a<m∧b<m:=by
  unfold mayN at h;simp at h;exact⟨h.1.1,h.1.2,h.2⟩
abbrev rE (c:Bool) (r:Nat):Value:=.tuple #[numV (okV c r),.int .i64 (okE c)]
theorem c_Add (a b m:Nat) (ha:a<B256) (hb:b<B256) (hm:m<B256):Fn Tryz.prog 204 [numV a,numV b,numV m] Tr (Is (rE (mayN a b m) ((a+b)%m))):=by
  have hO:=c_of (f:=238) [] a b m ((a+b)%m) ha hb hm Tr Stable.tr (fun h=>c_Add1 a b m (mayN_spec h).2.1 (mayN_spec h).2.2 hm)
  refine Fn.enter Tryz.func204 rfl rfl rfl ?_
  intro w hw
  repeat (first|refine Ta ?_|(refine Tm ?_;intro _)|refine WO.acall (hc:=hO) (k:=?_)|refine Tc ?_|exact Tz)
theorem c_Mul (a b m:Nat) (ha:a<B256) (hb:b<B256) (hm:m<B256):Fn Tryz.prog 203 [numV a,numV b,numV m] Tr (Is (rE (mayN a b m) (a*b%m))):=by
  have hO:=c_of (f:=197) [] a b m (a*b%m) ha hb hm Tr Stable.tr (fun h=>c_times a b m (mayN_spec h).2.1 (mayN_spec h).2.2 hm)
  refine Fn.enter Tryz.func203 rfl rfl rfl ?_
  intro w hw
  repeat (first|refine Ta ?_|(refine Tm ?_;intro _)|refine WO.acall (hc:=hO) (k:=?_)|refine Tc ?_|exact Tz)
def topB (n N k:Nat):Nat:=n / 2 ^ (N - k)
theorem topB_start {n N:Nat} (h:n<2 ^ N):topB n N 0=0:=Nat.div_eq_of_lt (by simpa using h)
theorem topB_end (n N:Nat):topB n N N=n:=by unfold topB;simp
theorem topB_step (n:Nat) {N k:Nat} (h:k<N):topB n N (k+1)=2*topB n N k+bitN n (N - 1 - k):=by
  unfold topB bitN
  have e:N - k=(N - 1 - k)+1:=by omega
  have e2:N - (k+1)=N - 1 - k:=by omega
  rw[e2,e,Nat.pow_succ,← Nat.div_div_eq_div_mul]
  omega
theorem pow_round (a m t b:Nat) (hb:b=0∨b=1):a ^ (2*t+b)%m=if b=1 then (a ^ t%m*(a ^ t%m)%m)*a%m else a ^ t%m*(a ^ t%m)%m:=by
  have h1:a ^ (2*t)%m=a ^ t%m*(a ^ t%m)%m:=by rw[Nat.two_mul,Nat.pow_add,Nat.mul_mod]
  rcases hb with rfl|rfl
  · simpa using h1
  · rw[if_pos rfl,Nat.pow_succ,Nat.mul_mod,h1,Nat.mul_mod_mod]
theorem bitN_two (a i:Nat):bitN a i=0∨bitN a i=1:=by unfold bitN;omega
end Sx
end Go.Proofs.YtmhligfnchegdaaGreatDoor
namespace Go.Proofs.YtmhligfnchegdaaGreatDoor
open Go Go.RowKit
namespace Sx
attribute [local irreducible] wd DQ DQS WO WC WX
theorem lt_two_pow_bitsN (n:Nat):n<2 ^ bitsN n:=lt_bitsN n
theorem bitsN_256 {n:Nat} (h:n<B256):bitsN n≤256:=bitsN_le (by simpa [B256] using h)
theorem c_powerW {f:Nat} [Cal Tryz.prog f] (caps:List Value) (a n m:Nat) (h1:1<m) (ha:a<m) (hn:n<B256) (hm:m<18446744073709551616) (R:World→Prop) (hst:Stable R)
    (hf:∀ x y:Nat,x<m→y<m→Fn Tryz.prog f ([.int .u64 (x:Int),.int .u64 (y:Int)]++caps) R (Is (.int .u64 ((x*y%m:Nat):Int)))) :
    Fn Tryz.prog 192 [.int .u64 (a:Int),.int .u64 1,numV n,.func (.func f) #[] caps.toArray] R (Is (.int .u64 ((a ^ n%m:Nat):Int))):=by
  have hB:=c_Bits n hn
  have hlt:=lt_two_pow_bitsN n
  have hN:=bitsN_256 hn
  have hbit:∀ i:Int,0≤i→i≤1000000→Fn Tryz.prog 232 [numV n,.int .i64 i] Tr (Is (.int .u64 (bitN n i.toNat:Nat))):=fun i h0 h1=>c_Bit n i hn h0 h1
  have hend:=topB_end n (bitsN n)
  have hst0:=topB_start hlt
  have hstep:=fun k (h:k<bitsN n)=>topB_step n h
  generalize bitsN n=N at *
  refine Fn.enter Tryz.func192 rfl rfl rfl ?_
  intro w hw
  repeat (first|refine Ta ?_|(refine Tm ?_;intro _)|refine WO.acall (hc:=hB) (k:=?_)|refine Tc ?_|exact Tz)
  rename_i g6
  refine WC.loopI (σ:=Nat × Nat) (fun s=>s.1≤N∧s.2=a ^ topB n N s.1%m) (fun s=>[(0,.int .u64 (a:Int)),(3,.func (.func f) #[] caps.toArray),(6,pt g6),(9,.int .u64 (s.2:Int)),(13,.int .i64 (N:Int)),(14,.int .i64 (s.1:Int))]) (fun s=>[⟨g6,24,numC n⟩]) (fun s=>N - s.1) (0,1) (fun s hs=>?_) ⟨Nat.zero_le _,by rw[hst0,Nat.pow_zero,Nat.mod_eq_of_lt h1]⟩
  obtain⟨k,x⟩:=s
  obtain⟨hk,hx⟩:=hs
  dsimp only at hk hx ⊢
  have hxm:x<m:=by rw[hx];exact Nat.mod_lt _ (by omega)
  by_cases hlt:(k:Int)<(N:Int)
  · have hkN:k<N:=by omega
    have hsq:=hf x x hxm hxm
    have hma:=hf (x*x%m) a (Nat.mod_lt _ (by omega)) ha
    have hbt:=hbit ((N:Int) - 1 - (k:Int)) (by omega) (by omega)
    rw[show ((N:Int) - 1 - (k:Int)).toNat=N - 1 - k by omega] at hbt
    have hp:=pow_round a m (topB n N k) (bitN n (N - 1 - k)) (bitN_two _ _)
    rw[← hstep k hkN,← hx] at hp
    repeat (first|refine Ta ?_|(refine Tm ?_;intro _)|refine Tc ?_|exact Tz)
    refine WC.dT rfl hlt ?_
    repeat (first|refine Ta ?_|(refine Tm ?_;intro _)|refine WO.acallV (hc:=hsq) (hR:=fun w' hm=>hst _ _ hw hm.mod.below) (k:=?_)|refine Tc ?_|exact Tz)
    rcases bitN_two n (N - 1 - k) with e|e
    · rw[e] at hbt hp
      refine WC.adraw 8 (k:=?_)
      repeat (first|refine Da ?_|refine DQ.acall (hc:=hB) (k:=?_)|refine DQ.acall (hc:=hbt) (k:=?_)|refine Dc ?_)
      refine DQ.anil (k:=?_)
      intro sx _
      repeat (first|refine Ta ?_|(refine Tm ?_;intro _)|refine Tc ?_|exact Tz)
      refine WX.metI (k+1,x*x%m) (hs:=⟨⟨by omega,by simpa using hp.symm⟩,by simp only;omega⟩)
    · rw[e] at hbt hp
      refine WC.adraw 8 (k:=?_)
      repeat (first|refine Da ?_|refine DQ.acall (hc:=hB) (k:=?_)|refine DQ.acall (hc:=hbt) (k:=?_)|refine Dc ?_)
      refine DQ.anil (k:=?_)
      intro sx _
      repeat (first|refine Ta ?_|(refine Tm ?_;intro _)|refine WO.acallV (hc:=hma) (hR:=fun w' hm=>hst _ _ hw hm.mod.below) (k:=?_)|refine Tc ?_|exact Tz)
      refine WX.metI (k+1,x*x%m*a%m) (hs:=⟨⟨by omega,by simpa using hp.symm⟩,by simp only;omega⟩)
  · have hkN:k=N:=by omega
    subst hkN
    rw[hend] at hx
    subst hx
    repeat (first|refine Ta ?_|(refine Tm ?_;intro _)|refine Tc ?_|exact Tz)
    refine WC.dF rfl hlt ?_
    repeat (first|refine Ta ?_|(refine Tm ?_;intro _)|refine Tc ?_|exact Tz)
end Sx
end Go.Proofs.YtmhligfnchegdaaGreatDoor
namespace Go.Proofs.YtmhligfnchegdaaGreatDoor
open Go Go.RowKit
namespace Sx
attribute [local irreducible] DQ DQS WO WC WX
theorem c_powerN {f:Nat} [Cal Tryz.prog f] (caps:List Value) (a n m:Nat) (h1:1<m) (ha:a<m) (hn:n<B256) (R:World→Prop) (hst:Stable R)
    (hf:∀ x y:Nat,x<m→y<m→Fn Tryz.prog f ([numV x,numV y]++caps) R (Is (numV (x*y%m)))) :
    Fn Tryz.prog 195 [numV a,numV 1,numV n,.func (.func f) #[] caps.toArray] R (Is (numV (a ^ n%m))):=by
  have hB:=c_Bits n hn
  have hlt:=lt_two_pow_bitsN n
  have hN:=bitsN_256 hn
  have hbit:∀ i:Int,0≤i→i≤1000000→Fn Tryz.prog 232 [numV n,.int .i64 i] Tr (Is (.int .u64 (bitN n i.toNat:Nat))):=fun i h0 h1=>c_Bit n i hn h0 h1
  have hend:=topB_end n (bitsN n)
  have hst0:=topB_start hlt
  have hstep:=fun k (h:k<bitsN n)=>topB_step n h
  generalize bitsN n=N at *
  refine Fn.enter Tryz.func195 rfl rfl rfl ?_
  intro w hw
  repeat (first|refine Ta ?_|(refine Tm ?_;intro _)|refine WO.acall (hc:=hB) (k:=?_)|refine Tc ?_|exact Tz)
  rename_i g4 g5 g6 g8 g9
  refine WC.loopI (σ:=Nat × Nat) (fun s=>s.1≤N∧s.2=a ^ topB n N s.1%m) (fun s=>[(3,.func (.func f) #[] caps.toArray),(4,pt g4),(6,pt g6),(8,pt g8),(9,pt g9),(13,.int .i64 (N:Int)),(14,.int .i64 (s.1:Int))])
    (fun s=>[⟨g4,24,numC a⟩,⟨g6,24,numC n⟩,⟨g8,24,numC 0⟩,⟨g9,24,numC s.2⟩]) (fun s=>N - s.1) (0,1) (fun s hs=>?_) ⟨Nat.zero_le _,by rw[hst0,Nat.pow_zero,Nat.mod_eq_of_lt h1]⟩
  obtain⟨k,x⟩:=s
  obtain⟨hk,hx⟩:=hs
  dsimp only at hk hx ⊢
  have hxm:x<m:=by rw[hx];exact Nat.mod_lt _ (by omega)
  by_cases hlt:(k:Int)<(N:Int)
  · have hkN:k<N:=by omega
    have hsq:=hf x x hxm hxm
    have hma:=hf (x*x%m) a (Nat.mod_lt _ (by omega)) ha
    have hbt:=hbit ((N:Int) - 1 - (k:Int)) (by omega) (by omega)
    rw[show ((N:Int) - 1 - (k:Int)).toNat=N - 1 - k by omega] at hbt
    have hp:=pow_round a m (topB n N k) (bitN n (N - 1 - k)) (bitN_two _ _)
    rw[← hstep k hkN,← hx] at hp
    repeat (first|refine Ta ?_|(refine Tm ?_;intro _)|refine Tc ?_|exact Tz)
    refine WC.dT rfl hlt ?_
    repeat (first|refine Ta ?_|(refine Tm ?_;intro _)|refine WO.acallV (hc:=hsq) (hR:=fun w' hm=>hst _ _ hw hm.mod.below) (k:=?_)|refine Tc ?_|exact Tz)
    rcases bitN_two n (N - 1 - k) with e|e
    · rw[e] at hbt hp
      refine WC.adraw 8 (k:=?_)
      repeat (first|refine Da ?_|refine DQ.acall (hc:=hB) (k:=?_)|refine DQ.acall (hc:=hbt) (k:=?_)|refine Dc ?_)
      refine DQ.anil (k:=?_)
      intro sx _
      repeat (first|refine Ta ?_|(refine Tm ?_;intro _)|refine Tc ?_|exact Tz)
      refine WX.metI (k+1,x*x%m) (hs:=⟨⟨by omega,by simpa using hp.symm⟩,by simp only;omega⟩)
    · rw[e] at hbt hp
      refine WC.adraw 8 (k:=?_)
      repeat (first|refine Da ?_|refine DQ.acall (hc:=hB) (k:=?_)|refine DQ.acall (hc:=hbt) (k:=?_)|refine Dc ?_)
      refine DQ.anil (k:=?_)
      intro sx _
      repeat (first|refine Ta ?_|(refine Tm ?_;intro _)|refine WO.acallV (hc:=hma) (hR:=fun w' hm=>hst _ _ hw hm.mod.below) (k:=?_)|refine Tc ?_|exact Tz)
      refine WX.metI (k+1,x*x%m*a%m) (hs:=⟨⟨by omega,by simpa using hp.symm⟩,by simp only;omega⟩)
  · have hkN:k=N:=by omega
    subst hkN
    rw[hend] at hx
    subst hx
    repeat (first|refine Ta ?_|(refine Tm ?_;intro _)|refine Tc ?_|exact Tz)
    refine WC.dF rfl hlt ?_
    repeat (first|refine Ta ?_|(refine Tm ?_;intro _)|refine Tc ?_|exact Tz)
theorem c_Exp11 (a b m g:Nat) (ha:a<m) (hb:b<m) (hm:m<18446744073709551616):Fn Tryz.prog 193 [.int .u64 (a:Int),.int .u64 (b:Int),pt g] (fun w=>Seg w g 0 (numC m)) (Is (.int .u64 ((a*b%m:Nat):Int))):=by
  have hW:=c_word a b m ha hb hm
  have e:wd 0 m=m:=Nat.mod_eq_of_lt hm
  rw[← e] at hW
  refine Fn.enter Tryz.func193 rfl rfl rfl ?_
  intro w hw
  rw[← e]
  repeat (first|refine Ta ?_|(refine Tm ?_;intro _)|refine WO.acall (hc:=hW) (k:=?_)|refine Tc ?_|exact Tz)
theorem c_Exp12 (a b m g:Nat) (ha:a<m) (hb:b<m) (hm:m<B256):Fn Tryz.prog 196 [numV a,numV b,pt g] (fun w=>Seg w g 0 (numC m)) (Is (numV (a*b%m))):=by
  have hW:=c_times a b m ha hb hm
  refine Fn.enter Tryz.func196 rfl rfl rfl ?_
  intro w hw
  repeat (first|refine Ta ?_|(refine Tm ?_;intro _)|refine WO.acall (hc:=hW) (k:=?_)|refine Tc ?_|exact Tz)
theorem c_Exp1 (a n m g:Nat) (h1:1<m) (ha:a<m) (hm:m<B256) (hn:n<B256):Fn Tryz.prog 190 [numV a,numV a,numV m,pt g] (fun w=>Seg w g 0 (numC n)) (Is (numV (a ^ n%m))):=by
  have hB:=c_Bits m hm
  by_cases hs:m<18446744073709551616
  · have hle:((bitsN m:Nat):Int)≤64:=by have:bitsN m≤64:=bitsN_le (by simpa using hs);omega
    have ea:wd 0 a=a:=Nat.mod_eq_of_lt (by omega)
    have hP:∀ g,Fn Tryz.prog 192 [.int .u64 ((wd 0 a:Nat):Int),.int .u64 1,numV n,.func (.func 193) #[] #[pt g]] (fun w=>Seg w g 0 (numC m)) (Is (.int .u64 ((a ^ n%m:Nat):Int))) :=
      fun g=>by rw[ea];exact c_powerW [pt g] a n m h1 ha hn hs _ Stable.seg (fun x y hx hy=>c_Exp11 x y m g hx hy hs)
    have hO:=c_Of (a ^ n%m) (Nat.lt_trans (Nat.mod_lt _ (by omega)) hs)
    generalize bitsN m=N at *
    refine Fn.enter Tryz.func190 rfl rfl rfl ?_
    intro w hw
    repeat (first|refine Ta ?_|(refine Tm ?_;intro _)|refine WO.acall (hc:=hB) (k:=?_)|refine Tc ?_|exact Tz)
    refine WC.dT rfl hle ?_
    repeat (first|refine Ta ?_|(refine Tm ?_;intro _)|refine WO.acall (hc:=hO) (k:=?_)|refine WO.acallR (hc:=hP _) (hR:=fun w' hm=>Hs.seg (by repeat (first|exact Hs.here|apply Hs.there)) hm) (k:=?_)|refine Tc ?_|exact Tz)
  · have hle:¬ ((bitsN m:Nat):Int)≤64:=by
      intro h
      have:bitsN m≤64:=by omega
      rw[bitsN_le_iff] at this
      exact hs (by simpa using this)
    have hP:∀ g,Fn Tryz.prog 195 [numV a,numV 1,numV n,.func (.func 196) #[] #[pt g]] (fun w=>Seg w g 0 (numC m)) (Is (numV (a ^ n%m))) :=
      fun g=>c_powerN [pt g] a n m h1 ha hn _ Stable.seg (fun x y hx hy=>c_Exp12 x y m g hx hy hm)
    generalize bitsN m=N at *
    refine Fn.enter Tryz.func190 rfl rfl rfl ?_
    intro w hw
    repeat (first|refine Ta ?_|(refine Tm ?_;intro _)|refine WO.acall (hc:=hB) (k:=?_)|refine Tc ?_|exact Tz)
    refine WC.dF rfl hle ?_
    repeat (first|refine Ta ?_|(refine Tm ?_;intro _)|refine Tc ?_|exact Tz)
    refine WC.adraw 5 (k:=?_)
    repeat (first|refine Da ?_|refine DQ.acall (hc:=c_Of1) (k:=?_)|refine DQ.acallR (hc:=hP _) (hR:=fun w' hm=>Hs.seg (by repeat (first|exact Hs.here|apply Hs.there)) hm) (k:=?_)|refine Dc ?_)
    refine DQ.anil (k:=?_)
    intro sx _
    repeat (first|refine Ta ?_|(refine Tm ?_;intro _)|refine Tc ?_|exact Tz)
theorem c_Exp (a n m:Nat) (ha:a<B256) (hn:n<B256) (hm:m<B256):Fn Tryz.prog 109 [numV a,numV n,numV m] Tr (Is (rE (mayN a a m) (a ^ n%m))):=by
  have hO:=fun g=>c_of (f:=190) [pt g] a a m (a ^ n%m) ha ha hm _ Stable.seg (fun h=>c_Exp1 a n m g (mayN_spec h).1 (mayN_spec h).2.1 hm hn)
  refine Fn.enter Tryz.func109 rfl rfl rfl ?_
  intro w hw
  repeat (first|refine Ta ?_|(refine Tm ?_;intro _)|refine WO.acallR (hc:=hO _) (hR:=fun w' hm=>Hs.seg (by repeat (first|exact Hs.here|apply Hs.there)) hm) (k:=?_)|refine Tc ?_|exact Tz)
end Sx
end Go.Proofs.YtmhligfnchegdaaGreatDoor
namespace Go.Proofs.YtmhligfnchegdaaGreatDoor
namespace Sx
end Sx
end Go.Proofs.YtmhligfnchegdaaGreatDoor
namespace Go.Proofs.YtmhligfnchegdaaGreatDoor
open Go Go.RowKit
namespace Sx
attribute [local irreducible] wd DQ DQS WO WC WX
end Sx
end Go.Proofs.YtmhligfnchegdaaGreatDoor
namespace Go.Proofs.YtmhligfnchegdaaGreatDoor
open Go Go.RowKit
namespace Sx
attribute [local irreducible] wd DQ DQS WO WC WX
abbrev grpC (p q g h:Nat):List Value:=[.int .u64 ((wd 0 p:Nat):Int),.int .u64 ((wd 1 p:Nat):Int),.int .u64 ((wd 2 p:Nat):Int),.int .u64 ((wd 3 p:Nat):Int),.int .u64 ((wd 0 q:Nat):Int),.int .u64 ((wd 1 q:Nat):Int),.int .u64 ((wd 2 q:Nat):Int),.int .u64 ((wd 3 q:Nat):Int),.int .u64 ((wd 0 g:Nat):Int),.int .u64 ((wd 1 g:Nat):Int),.int .u64 ((wd 2 g:Nat):Int),.int .u64 ((wd 3 g:Nat):Int),.int .u64 ((wd 0 h:Nat):Int),.int .u64 ((wd 1 h:Nat):Int),.int .u64 ((wd 2 h:Nat):Int),.int .u64 ((wd 3 h:Nat):Int)]
abbrev grpV (p q g h:Nat):Value:=.agg #[.int .u64 ((wd 0 p:Nat):Int),.int .u64 ((wd 1 p:Nat):Int),.int .u64 ((wd 2 p:Nat):Int),.int .u64 ((wd 3 p:Nat):Int),.int .u64 ((wd 0 q:Nat):Int),.int .u64 ((wd 1 q:Nat):Int),.int .u64 ((wd 2 q:Nat):Int),.int .u64 ((wd 3 q:Nat):Int),.int .u64 ((wd 0 g:Nat):Int),.int .u64 ((wd 1 g:Nat):Int),.int .u64 ((wd 2 g:Nat):Int),.int .u64 ((wd 3 g:Nat):Int),.int .u64 ((wd 0 h:Nat):Int),.int .u64 ((wd 1 h:Nat):Int),.int .u64 ((wd 2 h:Nat):Int),.int .u64 ((wd 3 h:Nat):Int)]
def gMay (p a:Nat):Bool:=decide (1<p) && decide (a≠0) && decide (a<p)
theorem gMay_spec {p a:Nat} (h:gMay p a=true):1<p∧a≠0∧a<p:=by
  unfold gMay at h;simp at h;exact⟨h.1.1,h.1.2,h.2⟩
theorem gMay_mayN {p a:Nat} (h:gMay p a=true):mayN a a p=true:=by
  obtain⟨h1,_,h3⟩:=gMay_spec h
  simp[mayN,h1,h3]
section
variable (p q g h:Nat)
theorem c_SAdd (a b:Nat) (ha:a<B256) (hb:b<B256) (hq:q<B256):Fn Tryz.prog 121 [grpV p q g h,numV a,numV b] Tr (Is (rE (mayN a b q) ((a+b)%q))):=by
  have hO:=c_Add a b q ha hb hq
  refine Fn.enter Tryz.func121 rfl rfl rfl ?_
  intro w hw
  repeat (first|refine Td ?_|(refine Tm ?_;intro _)|refine WO.acall (hc:=hO) (k:=?_)|refine Tc ?_|exact Tz)
theorem c_SMul (a b:Nat) (ha:a<B256) (hb:b<B256) (hq:q<B256):Fn Tryz.prog 120 [grpV p q g h,numV a,numV b] Tr (Is (rE (mayN a b q) (a*b%q))):=by
  have hO:=c_Mul a b q ha hb hq
  refine Fn.enter Tryz.func120 rfl rfl rfl ?_
  intro w hw
  repeat (first|refine Td ?_|(refine Tm ?_;intro _)|refine WO.acall (hc:=hO) (k:=?_)|refine Tc ?_|exact Tz)
theorem c_may (a:Nat) (ha:a<B256) (hp:p<B256):Fn Tryz.prog 108 [grpV p q g h,numV a] Tr (Is (.bool (gMay p a))):=by
  have hC1:=c_Cmp p 1 hp B256_one'
  have hC2:=c_Cmp a p ha hp
  by_cases h1:1<p
  · rw[cmpN_gt h1] at hC1
    by_cases h2:a=0
    · have e:gMay p a=false:=by simp[gMay,h2]
      rw[e]
      refine Fn.enter Tryz.func108 rfl rfl rfl ?_
      intro w hw
      repeat (first|refine Td ?_|(refine Tm ?_;intro _)|refine Tc ?_|exact Tz)
      refine WC.adraw 18 (k:=?_)
      repeat (first|refine DQ.decT (k:=?_)|refine DQ.decF (k:=?_)|refine Da ?_|refine DQ.acall (hc:=c_Of1) (k:=?_)|refine DQ.acall (hc:=c_Of0) (k:=?_)|refine DQ.acall (hc:=hC1) (k:=?_)|refine DQ.acall (hc:=hC2) (k:=?_)|refine Dc ?_)
      refine DQ.anil (k:=?_)
      intro sx _
      repeat (first|refine Td ?_|(refine Tm ?_;intro _)|refine Tc ?_|exact Tz)
    · by_cases h3:a<p
      · have e:gMay p a=true:=by simp[gMay,h1,h2,h3]
        rw[cmpN_lt h3] at hC2
        rw[e]
        refine Fn.enter Tryz.func108 rfl rfl rfl ?_
        intro w hw
        repeat (first|refine Td ?_|(refine Tm ?_;intro _)|refine Tc ?_|exact Tz)
        refine WC.adraw 18 (k:=?_)
        repeat (first|refine DQ.decT (k:=?_)|refine DQ.decF (k:=?_)|refine Da ?_|refine DQ.acall (hc:=c_Of1) (k:=?_)|refine DQ.acall (hc:=c_Of0) (k:=?_)|refine DQ.acall (hc:=hC1) (k:=?_)|refine DQ.acall (hc:=hC2) (k:=?_)|refine Dc ?_)
        refine DQ.anil (k:=?_)
        intro sx _
        repeat (first|refine Td ?_|(refine Tm ?_;intro _)|refine Tc ?_|exact Tz)
      · have e:gMay p a=false:=by simp[gMay,h3]
        have e2:cmpN a p=0∨cmpN a p=1:=by
          rcases Nat.lt_or_ge p a with h4|h4
          · exact .inr (cmpN_gt h4)
          · exact .inl (cmpN_eq (by omega))
        rw[e]
        rcases e2 with e2|e2
        all_goals
          rw[e2] at hC2
          refine Fn.enter Tryz.func108 rfl rfl rfl ?_
          intro w hw
          repeat (first|refine Td ?_|(refine Tm ?_;intro _)|refine Tc ?_|exact Tz)
          refine WC.adraw 18 (k:=?_)
          repeat (first|refine DQ.decT (k:=?_)|refine DQ.decF (k:=?_)|refine Da ?_|refine DQ.acall (hc:=c_Of1) (k:=?_)|refine DQ.acall (hc:=c_Of0) (k:=?_)|refine DQ.acall (hc:=hC1) (k:=?_)|refine DQ.acall (hc:=hC2) (k:=?_)|refine Dc ?_)
          refine DQ.anil (k:=?_)
          intro sx _
          repeat (first|refine Td ?_|(refine Tm ?_;intro _)|refine Tc ?_|exact Tz)
  · have e:gMay p a=false:=by simp[gMay,h1]
    have e2:cmpN p 1=0∨cmpN p 1 = -1:=by
      rcases Nat.lt_or_ge p 1 with h4|h4
      · exact .inr (cmpN_lt h4)
      · exact .inl (cmpN_eq (by omega))
    rw[e]
    rcases e2 with e2|e2
    all_goals
      rw[e2] at hC1
      refine Fn.enter Tryz.func108 rfl rfl rfl ?_
      intro w hw
      repeat (first|refine Td ?_|(refine Tm ?_;intro _)|refine Tc ?_|exact Tz)
      refine WC.adraw 18 (k:=?_)
      repeat (first|refine DQ.decT (k:=?_)|refine DQ.decF (k:=?_)|refine Da ?_|refine DQ.acall (hc:=c_Of1) (k:=?_)|refine DQ.acall (hc:=c_Of0) (k:=?_)|refine DQ.acall (hc:=hC1) (k:=?_)|refine DQ.acall (hc:=hC2) (k:=?_)|refine Dc ?_)
      refine DQ.anil (k:=?_)
      intro sx _
      repeat (first|refine Td ?_|(refine Tm ?_;intro _)|refine Tc ?_|exact Tz)
theorem c_gExp (a n:Nat) (ha:a<B256) (hn:n<B256) (hp:p<B256):Fn Tryz.prog 23 [grpV p q g h,numV a,numV n] Tr (Is (rE (gMay p a) (a ^ n%p))):=by
  have hM:=c_may p q g h a ha hp
  cases hy:gMay p a with
  | true =>
    have hE:=c_Exp a n p ha hn hp
    rw[gMay_mayN hy] at hE
    rw[hy] at hM
    refine Fn.enter Tryz.func23 rfl rfl rfl ?_
    intro w hw
    repeat (first|refine Td ?_|(refine Tm ?_;intro _)|refine WO.acall (hc:=hM) (k:=?_)|refine WO.acall (hc:=hE) (k:=?_)|refine Tc ?_|exact Tz)
  | false =>
    rw[hy] at hM
    refine Fn.enter Tryz.func23 rfl rfl rfl ?_
    intro w hw
    repeat (first|refine Td ?_|(refine Tm ?_;intro _)|refine WO.acall (hc:=hM) (k:=?_)|refine Tc ?_|exact Tz)
theorem c_gMul (a b:Nat) (ha:a<B256) (hb:b<B256) (hp:p<B256):Fn Tryz.prog 116 [grpV p q g h,numV a,numV b] Tr (Is (rE (gMay p a && gMay p b) (a*b%p))):=by
  have hM1:=c_may p q g h a ha hp
  have hM2:=c_may p q g h b hb hp
  cases hy:gMay p a with
  | true =>
    rw[hy] at hM1
    cases hz:gMay p b with
    | true =>
      rw[hz] at hM2
      have hE:=c_Mul a b p ha hb hp
      have hm:mayN a b p=true:=by
        obtain⟨h1,_,h3⟩:=gMay_spec hy
        obtain⟨_,_,h4⟩:=gMay_spec hz
        simp[mayN,h1,h3,h4]
      rw[hm] at hE
      refine Fn.enter Tryz.func116 rfl rfl rfl ?_
      intro w hw
      repeat (first|refine Td ?_|(refine Tm ?_;intro _)|refine WO.acall (hc:=hM1) (k:=?_)|refine WO.acall (hc:=hM2) (k:=?_)|refine WO.acall (hc:=hE) (k:=?_)|refine Tc ?_|exact Tz)
    | false =>
      rw[hz] at hM2
      refine Fn.enter Tryz.func116 rfl rfl rfl ?_
      intro w hw
      repeat (first|refine Td ?_|(refine Tm ?_;intro _)|refine WO.acall (hc:=hM1) (k:=?_)|refine WO.acall (hc:=hM2) (k:=?_)|refine Tc ?_|exact Tz)
  | false =>
    rw[hy] at hM1
    refine Fn.enter Tryz.func116 rfl rfl rfl ?_
    intro w hw
    repeat (first|refine Td ?_|(refine Tm ?_;intro _)|refine WO.acall (hc:=hM1) (k:=?_)|refine WO.acall (hc:=hM2) (k:=?_)|refine Tc ?_|exact Tz)
def gIn (p q a:Nat):Bool:=gMay p a && decide (a ^ q%p=1)
theorem c_gIn (a:Nat) (ha:a<B256) (hp:p<B256) (hq:q<B256):Fn Tryz.prog 141 [grpV p q g h,numV a] Tr (Is (.bool (gIn p q a))):=by
  have hE:=c_gExp p q g h a q ha hq hp
  cases hy:gMay p a with
  | true =>
    rw[hy] at hE
    have hB:a ^ q%p<B256:=Nat.lt_trans (Nat.mod_lt _ (by have:=gMay_spec hy;omega)) hp
    have e:gIn p q a=decide (a ^ q%p=1):=by simp[gIn,hy]
    rw[e]
    generalize a ^ q%p=v at *
    refine Fn.enter Tryz.func141 rfl rfl rfl ?_
    intro w hw
    repeat (first|refine Td ?_|(refine Tm ?_;intro _)|refine WO.acall (hc:=hE) (k:=?_)|refine Tc ?_|exact Tz)
    by_cases hv:v=1
    · rw[decide_eq_true hv]
      refine WC.adraw 8 (k:=?_)
      repeat (first|refine DQ.decT (k:=?_)|refine DQ.decF (k:=?_)|refine Da ?_|refine DQ.acall (hc:=c_Of1) (k:=?_)|refine Dc ?_)
      refine DQ.anil (k:=?_)
      intro sx _
      repeat (first|refine Td ?_|(refine Tm ?_;intro _)|refine Tc ?_|exact Tz)
    · rw[decide_eq_false hv]
      refine WC.adraw 8 (k:=?_)
      repeat (first|refine DQ.decT (k:=?_)|refine DQ.decF (k:=?_)|refine Da ?_|refine DQ.acall (hc:=c_Of1) (k:=?_)|refine Dc ?_)
      refine DQ.anil (k:=?_)
      intro sx _
      repeat (first|refine Td ?_|(refine Tm ?_;intro _)|refine Tc ?_|exact Tz)
  | false =>
    have e:gIn p q a=false:=by simp[gIn,hy]
    rw[hy] at hE
    rw[e]
    refine Fn.enter Tryz.func141 rfl rfl rfl ?_
    intro w hw
    repeat (first|refine Td ?_|(refine Tm ?_;intro _)|refine WO.acall (hc:=hE) (k:=?_)|refine Tc ?_|exact Tz)
    refine WC.adraw 8 (k:=?_)
    repeat (first|refine DQ.decT (k:=?_)|refine DQ.decF (k:=?_)|refine Da ?_|refine DQ.acall (hc:=c_Of1) (k:=?_)|refine Dc ?_)
    refine DQ.anil (k:=?_)
    intro sx _
    repeat (first|refine Td ?_|(refine Tm ?_;intro _)|refine Tc ?_|exact Tz)
end
end Sx
end Go.Proofs.YtmhligfnchegdaaGreatDoor
namespace Go.Proofs.YtmhligfnchegdaaGreatDoor
open Go Go.RowKit Go.BigFrame
namespace Sx
attribute [local irreducible] DQ DQS WO WC
abbrev q0 (l:Nat):Nat × Value:=(0,.func (.yield l) #[] #[])
abbrev q1 (g:Nat):Nat × Value:=(1,pt g)
abbrev q2 (g:Nat):Nat × Value:=(2,pt g)
abbrev qn (j a:Nat):Nat × Value:=(j,numV a)
end Sx
end Go.Proofs.YtmhligfnchegdaaGreatDoor
namespace Go.Proofs.YtmhligfnchegdaaGreatDoor
open Go Go.RowKit Go.BigFrame
namespace Sx
def KpB (ks:List Nat) (A B:World):Prop:=KeepB ks A B∧A.heap.size≤B.heap.size
theorem KpB.trans {ks:List Nat} {A B C:World} (h:KpB ks A B) (k:KpB ks B C):KpB ks A C:=⟨h.1.trans k.1,Nat.le_trans h.2 k.2⟩
theorem KpB.put {ks:List Nat} {n:Nat} (hk:∀ k∈ks,k<n) (W:World) (l:Nat) (o o' : Obj) (hl:n≤l) (h1:W.heap[l]?=some o) (h2:o.isCells=false) (h3:o.isWalk=false):KpB ks W (W.putObj l o'):=⟨KeepB.put hk W l o o' hl h1 h2 h3,by simp⟩
end Sx
end Go.Proofs.YtmhligfnchegdaaGreatDoor
namespace Go.Proofs.YtmhligfnchegdaaGreatDoor
open Go Go.RowKit Go.BigFrame
namespace Sx
section
variable {P:Program} {w0:World} {gs:List Nat} {n:Nat} {Q:Exit→Act→World→Prop} {K:List (Nat × Value)} {L:List Ent}
theorem WC.loopU {c:Code} (m:Nat) (k:WC P w0 gs n c (Exit.then (Code.rounds P c Q m) Q) K L):WC P w0 gs n (.loop c) Q K L:=fun a w h1 h2 h3 h4=>wp_loop_rounds (m+1) (k a w h1 h2 h3 h4)
theorem WX.rounds {c:Code} {m:Nat} {Q' : Exit→Act→World→Prop} (k:WC P w0 gs n c (Exit.then (Code.rounds P c Q m) Q) K L):WX w0 gs n .normal (Exit.then (Code.rounds P c Q (m+1)) Q') K L:=k
end
end Sx
end Go.Proofs.YtmhligfnchegdaaGreatDoor
