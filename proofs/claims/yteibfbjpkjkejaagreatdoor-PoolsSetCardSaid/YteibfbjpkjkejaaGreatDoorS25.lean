/- Part 25 of the proof. -/
import Derived.Test.YteibfbjpkjkejaaGreatDoorS13
set_option linter.unusedSimpArgs false
set_option linter.unusedVariables false
set_option maxHeartbeats 8000000
namespace Go.Proofs.YteibfbjpkjkejaaGreatDoor
section
open Go Go.RowKit
namespace Sx
attribute [local irreducible] DQ DQS WC WO WX wd
theorem dA {a b:Nat} (h:a<b):uU a b = -1:=by unfold uU;rw[if_neg (by omega),if_pos h]
theorem lq {a b:Nat} (h:b<a):uU a b=1:=by unfold uU;rw[if_neg (by omega),if_neg (by omega)]
theorem dK {a b:Nat} (h:a=b):uU a b=0:=by unfold uU;rw[if_pos h]
theorem iL {a b m:Nat} (ha:a<m) (hb:b<m) (hm:m<zd) :
  ((a+b) / zd=0∧bw ((a+b)%zd) m 0=1∧(a+b)%m=(a+b)%zd) ∨
  ((a+b) / zd=1∧(a+b)%m=((a+b)%zd+zd - m)%zd) ∨
  ((a+b) / zd=0∧bw ((a+b)%zd) m 0=0∧(a+b)%m=((a+b)%zd+zd - m)%zd):=by
 by_cases hc:a+b<zd
 ·have e:(a+b)%zd=a+b:=Nat.mod_eq_of_lt hc;rw[e];have e0:(a+b) / zd=0:=Nat.div_eq_of_lt hc
  by_cases h:a+b<m
  ·exact .inl ⟨e0,by simp[bw];omega,Nat.mod_eq_of_lt h⟩
  ·refine .inr (.inr ⟨e0,by simp[bw];omega,?_⟩);rw[Nat.mod_eq_sub_mod (by omega),Nat.mod_eq_of_lt (by omega),show a+b+zd - m=(a+b - m)+zd by omega,Nat.add_mod_right,Nat.mod_eq_of_lt (by omega)]
 ·have e:(a+b)%zd=a+b - zd:=by rw[Nat.mod_eq_sub_mod (by omega),Nat.mod_eq_of_lt (by omega)]
  refine .inr (.inl ⟨?_,?_⟩)
  ·rw[Nat.div_eq_iff zD];omega
  ·rw[e,Nat.mod_eq_sub_mod (by omega),Nat.mod_eq_of_lt (by omega),show a+b - zd+zd - m=a+b - m by omega,Nat.mod_eq_of_lt (by omega)]
theorem iH {a b m:Nat} (ha:a<m) (hb:b<m) (hm:m<zd) :
  (bw a b 0=0∧(a+m - b)%m=(a+zd - b)%zd)∨(bw a b 0=1∧(a+m - b)%m=((a+zd - b)%zd+m)%zd):=by
 by_cases h:a<b
 ·refine .inr ⟨by simp[bw];omega,?_⟩;rw[Nat.mod_eq_of_lt (by omega:a+m - b<m),Nat.mod_eq_of_lt (by omega:a+zd - b<zd),show a+zd - b+m=(a+m - b)+zd by omega,Nat.add_mod_right,Nat.mod_eq_of_lt (by omega)]
 ·refine .inl ⟨by simp[bw];omega,?_⟩;rw[show a+m - b=(a - b)+m by omega,Nat.add_mod_right,Nat.mod_eq_of_lt (by omega),show a+zd - b=(a - b)+zd by omega,Nat.add_mod_right,Nat.mod_eq_of_lt (by omega)]
theorem adV (a b c:Nat):bw a b c=0∨bw a b c=1:=by unfold bw;split<;>simp
theorem adF (a b m:Nat) (ha:a<m) (hb:b<m) (hm:m<zd):Fn Tryz.prog 156 [zj a,zj b,zj m] Tr (Is (zj ((a+b)%m))):=by
 have hc:=iL ha hb hm;have hA:=aaU a b (by omega) (by omega);have hS:=aaR ((a+b)%zd) m (Nat.mod_lt _ zD) hm;have hl:=adV ((a+b)%zd) m 0;generalize (a+b)%m=R at *;generalize (a+b) / zd=c at *;generalize ((a+b)%zd+zd - m)%zd=y at *;generalize bw ((a+b)%zd) m 0=l at *;generalize (a+b)%zd=X at *
 rcases hc with ⟨rfl,rfl,rfl⟩|⟨rfl,rfl⟩|⟨rfl,rfl,rfl⟩
 ·refine Fn.enter Tryz.func156 rfl rfl rfl ?_;intro w hw
  repeat (first|refine Ta ?_|(refine Tm ?_;intro _)|refine WO.acall (hc:=hA) (k:=?_)|refine WO.acall (hc:=hS) (k:=?_)|refine Tc ?_|exact Tz)
 ·rcases hl with rfl|rfl
  all_goals
   refine Fn.enter Tryz.func156 rfl rfl rfl ?_;intro w hw
   repeat (first|refine Ta ?_|(refine Tm ?_;intro _)|refine WO.acall (hc:=hA) (k:=?_)|refine WO.acall (hc:=hS) (k:=?_)|refine Tc ?_|exact Tz)
 ·refine Fn.enter Tryz.func156 rfl rfl rfl ?_;intro w hw
  repeat (first|refine Ta ?_|(refine Tm ?_;intro _)|refine WO.acall (hc:=hA) (k:=?_)|refine WO.acall (hc:=hS) (k:=?_)|refine Tc ?_|exact Tz)
theorem adZ (a b m:Nat) (ha:a<m) (hb:b<m) (hm:m<zd):Fn Tryz.prog 162 [zj a,zj b,zj m] Tr (Is (zj ((a+m - b)%m))):=by
 have hc:=iH ha hb hm;have hS:=aaR a b (by omega) (by omega);have hA:=aaU ((a+zd - b)%zd) m (Nat.mod_lt _ zD) hm;generalize (a+m - b)%m=R at *;generalize ((a+zd - b)%zd+m) / zd=c at *;generalize ((a+zd - b)%zd+m)%zd=y at *;generalize bw a b 0=l at *;generalize (a+zd - b)%zd=X at *
 rcases hc with ⟨rfl,rfl⟩|⟨rfl,rfl⟩
 all_goals
  refine Fn.enter Tryz.func162 rfl rfl rfl ?_;intro w hw
  repeat (first|refine Ta ?_|(refine Tm ?_;intro _)|refine WO.acall (hc:=hA) (k:=?_)|refine WO.acall (hc:=hS) (k:=?_)|refine Tc ?_|exact Tz)
def okE (c:Bool):Int:=if c then 0 else 1
def okV (c:Bool) (r:Nat):Nat:=if c then r else 0
def zJ (a b m:Nat):Bool:=decide (1<m) && decide (a<m) && decide (b<m)
theorem jR (a b m:Nat):(1<m∧a<m∧b<m∧zJ a b m=true∧uU m 1=1∧uU a m = -1∧uU b m = -1) ∨
  (zJ a b m=false∧((uU m 1=0∨uU m 1 = -1)∨(uU m 1=1∧(uU a m=0∨uU a m=1))∨(uU m 1=1∧uU a m = -1∧(uU b m=0∨uU b m=1)))):=by
 unfold zJ uU
 by_cases h1:1<m
 ·by_cases h2:a<m
  ·by_cases h3:b<m
   ·refine .inl ⟨h1,h2,h3,by simp[h1,h2,h3],?_,?_,?_⟩
    ·rw[if_neg (by omega),if_neg (by omega)]
    ·rw[if_neg (by omega),if_pos h2]
    ·rw[if_neg (by omega),if_pos h3]
   ·refine .inr ⟨by simp[h3],.inr (.inr ⟨?_,?_,?_⟩)⟩
    ·rw[if_neg (by omega),if_neg (by omega)]
    ·rw[if_neg (by omega),if_pos h2]
    ·by_cases e:b=m
     ·exact .inl (if_pos e)
     ·exact .inr (by rw[if_neg e,if_neg h3])
  ·refine .inr ⟨by simp[h2],.inr (.inl ⟨?_,?_⟩)⟩
   ·rw[if_neg (by omega),if_neg (by omega)]
   ·by_cases e:a=m
    ·exact .inl (if_pos e)
    ·exact .inr (by rw[if_neg e,if_neg h2])
 ·refine .inr ⟨by simp[h1],.inl ?_⟩
  by_cases e:m=1
  ·exact .inl (if_pos e)
  ·exact .inr (by rw[if_neg e,if_pos (by omega)])
theorem adq {f:Nat} [Cal Tryz.prog f] (caps:List Value) (a b m r:Nat) (ha:a<zd) (hb:b<zd) (hm:m<zd) (R:World→Prop) (hst:yq R)
  (hf:zJ a b m=true→Fn Tryz.prog f ([zj a,zj b,zj m]++caps) R (Is (zj r))) :
  Fn Tryz.prog 85 [.agg #[.func (.func f) #[] caps.toArray],zj a,zj b,zj m] R (Is (.tuple #[zj (okV (zJ a b m) r),.int .i64 (okE (zJ a b m))])):=by
 have hC1:=kf m 1 hm yP;have hC2:=kf a m ha hm;have hC3:=kf b m hb hm
 rcases jR a b m with ⟨h1,h2,h3,hy,e1,e2,e3⟩|⟨hn,hc⟩
 ·have hF:=hf hy;rw[hy];rw[e1] at hC1;rw[e2] at hC2;rw[e3] at hC3;refine Fn.enter Tryz.func85 rfl rfl rfl ?_;intro w hw
  repeat (first|refine Tw ?_|(refine Tm ?_;intro _)|exact Tz)
  refine WC.adraw 16 (k:=?_)
  repeat (first|refine Da ?_|refine DQ.acall (hc:=v8) (k:=?_)|refine DQ.acall (hc:=hC1) (k:=?_)|refine DQ.acall (hc:=hC2) (k:=?_)|refine DQ.acall (hc:=hC3) (k:=?_)|refine Dc ?_)
  refine DQ.anil (k:=?_);intro sx _
  repeat (first|refine Ta ?_|(refine Tm ?_;intro _)|refine WO.acallV (hc:=hF) (hR:=fun w' hm=>hst _ _ hw hm.mod.below) (k:=?_)|refine Tc ?_|exact Tz)
 ·rw[hn]
  rcases hc with (e1|e1)|⟨e1,e2|e2⟩|⟨e1,e2,e3|e3⟩
  ·rw[e1] at hC1;refine Fn.enter Tryz.func85 rfl rfl rfl ?_;intro w hw
   repeat (first|refine Tw ?_|(refine Tm ?_;intro _)|exact Tz)
   refine WC.adraw 16 (k:=?_)
   repeat (first|refine Da ?_|refine DQ.acall (hc:=v8) (k:=?_)|refine DQ.acall (hc:=hC1) (k:=?_)|refine DQ.acall (hc:=hC2) (k:=?_)|refine DQ.acall (hc:=hC3) (k:=?_)|refine Dc ?_)
   refine DQ.anil (k:=?_);intro sx _
   repeat (first|refine Tw ?_|(refine Tm ?_;intro _)|exact Tz)
  ·rw[e1] at hC1;refine Fn.enter Tryz.func85 rfl rfl rfl ?_;intro w hw
   repeat (first|refine Tw ?_|(refine Tm ?_;intro _)|exact Tz)
   refine WC.adraw 16 (k:=?_)
   repeat (first|refine Da ?_|refine DQ.acall (hc:=v8) (k:=?_)|refine DQ.acall (hc:=hC1) (k:=?_)|refine DQ.acall (hc:=hC2) (k:=?_)|refine DQ.acall (hc:=hC3) (k:=?_)|refine Dc ?_)
   refine DQ.anil (k:=?_);intro sx _
   repeat (first|refine Tw ?_|(refine Tm ?_;intro _)|exact Tz)
  ·rw[e1] at hC1;rw[e2] at hC2;refine Fn.enter Tryz.func85 rfl rfl rfl ?_;intro w hw
   repeat (first|refine Tw ?_|(refine Tm ?_;intro _)|exact Tz)
   refine WC.adraw 16 (k:=?_)
   repeat (first|refine Da ?_|refine DQ.acall (hc:=v8) (k:=?_)|refine DQ.acall (hc:=hC1) (k:=?_)|refine DQ.acall (hc:=hC2) (k:=?_)|refine DQ.acall (hc:=hC3) (k:=?_)|refine Dc ?_)
   refine DQ.anil (k:=?_);intro sx _
   repeat (first|refine Tw ?_|(refine Tm ?_;intro _)|exact Tz)
  ·rw[e1] at hC1;rw[e2] at hC2;refine Fn.enter Tryz.func85 rfl rfl rfl ?_;intro w hw
   repeat (first|refine Tw ?_|(refine Tm ?_;intro _)|exact Tz)
   refine WC.adraw 16 (k:=?_)
   repeat (first|refine Da ?_|refine DQ.acall (hc:=v8) (k:=?_)|refine DQ.acall (hc:=hC1) (k:=?_)|refine DQ.acall (hc:=hC2) (k:=?_)|refine DQ.acall (hc:=hC3) (k:=?_)|refine Dc ?_)
   refine DQ.anil (k:=?_);intro sx _
   repeat (first|refine Tw ?_|(refine Tm ?_;intro _)|exact Tz)
  ·rw[e1] at hC1;rw[e2] at hC2;rw[e3] at hC3;refine Fn.enter Tryz.func85 rfl rfl rfl ?_;intro w hw
   repeat (first|refine Tw ?_|(refine Tm ?_;intro _)|exact Tz)
   refine WC.adraw 16 (k:=?_)
   repeat (first|refine Da ?_|refine DQ.acall (hc:=v8) (k:=?_)|refine DQ.acall (hc:=hC1) (k:=?_)|refine DQ.acall (hc:=hC2) (k:=?_)|refine DQ.acall (hc:=hC3) (k:=?_)|refine Dc ?_)
   refine DQ.anil (k:=?_);intro sx _
   repeat (first|refine Tw ?_|(refine Tm ?_;intro _)|exact Tz)
  ·rw[e1] at hC1;rw[e2] at hC2;rw[e3] at hC3;refine Fn.enter Tryz.func85 rfl rfl rfl ?_;intro w hw
   repeat (first|refine Tw ?_|(refine Tm ?_;intro _)|exact Tz)
   refine WC.adraw 16 (k:=?_)
   repeat (first|refine Da ?_|refine DQ.acall (hc:=v8) (k:=?_)|refine DQ.acall (hc:=hC1) (k:=?_)|refine DQ.acall (hc:=hC2) (k:=?_)|refine DQ.acall (hc:=hC3) (k:=?_)|refine Dc ?_)
   refine DQ.anil (k:=?_);intro sx _
   repeat (first|refine Tw ?_|(refine Tm ?_;intro _)|exact Tz)
theorem zK {a b m:Nat} (h:zJ a b m=true):1<m∧a<m∧b<m:=by
 unfold zJ at h;simp at h;exact⟨h.1.1,h.1.2,h.2⟩
abbrev rE (c:Bool) (r:Nat):Value:=.tuple #[zj (okV c r),.int .i64 (okE c)]
theorem ac3 (a b m:Nat) (ha:a<zd) (hb:b<zd) (hm:m<zd):Fn Tryz.prog 129 [zj a,zj b,zj m] Tr (Is (rE (zJ a b m) ((a+b)%m))):=by
 have hO:=adq (f:=156) [] a b m ((a+b)%m) ha hb hm Tr yq.tr (fun h=>adF a b m (zK h).2.1 (zK h).2.2 hm);refine Fn.enter Tryz.func129 rfl rfl rfl ?_;intro w hw
 repeat (first|refine Ta ?_|(refine Tm ?_;intro _)|refine WO.acall (hc:=hO) (k:=?_)|refine Tc ?_|exact Tz)
theorem acB (a b m:Nat) (ha:a<zd) (hb:b<zd) (hm:m<zd):Fn Tryz.prog 140 [zj a,zj b,zj m] Tr (Is (rE (zJ a b m) ((a+m - b)%m))):=by
 have hO:=adq (f:=162) [] a b m ((a+m - b)%m) ha hb hm Tr yq.tr (fun h=>adZ a b m (zK h).2.1 (zK h).2.2 hm);refine Fn.enter Tryz.func140 rfl rfl rfl ?_;intro w hw
 repeat (first|refine Ta ?_|(refine Tm ?_;intro _)|refine WO.acall (hc:=hO) (k:=?_)|refine Tc ?_|exact Tz)
theorem abO (a b m:Nat) (ha:a<zd) (hb:b<zd) (hm:m<zd):Fn Tryz.prog 128 [zj a,zj b,zj m] Tr (Is (rE (zJ a b m) (a*b%m))):=by
 have hO:=adq (f:=84) [] a b m (a*b%m) ha hb hm Tr yq.tr (fun h=>mY a b m (zK h).2.1 (zK h).2.2 hm);refine Fn.enter Tryz.func128 rfl rfl rfl ?_;intro w hw
 repeat (first|refine Ta ?_|(refine Tm ?_;intro _)|refine WO.acall (hc:=hO) (k:=?_)|refine Tc ?_|exact Tz)
def dZ (n N k:Nat):Nat:=n / 2 ^ (N - k)
theorem qX {n N:Nat} (h:n<2 ^ N):dZ n N 0=0:=Nat.div_eq_of_lt (by simpa using h)
theorem jy (n N:Nat):dZ n N N=n:=by unfold dZ;simp
theorem nL (n:Nat) {N k:Nat} (h:k<N):dZ n N (k+1)=2*dZ n N k+uk n (N - 1 - k):=by
 unfold dZ uk;have e:N - k=(N - 1 - k)+1:=by omega
 have e2:N - (k+1)=N - 1 - k:=by omega
 rw[e2,e,Nat.pow_succ,← Nat.div_div_eq_div_mul];omega
theorem nN (a m t b:Nat) (hb:b=0∨b=1):a ^ (2*t+b)%m=if b=1 then (a ^ t%m*(a ^ t%m)%m)*a%m else a ^ t%m*(a ^ t%m)%m:=by
 have h1:a ^ (2*t)%m=a ^ t%m*(a ^ t%m)%m:=by rw[Nat.two_mul,Nat.pow_add,Nat.mul_mod]
 rcases hb with rfl|rfl
 ·simpa using h1
 ·rw[if_pos rfl,Nat.pow_succ,Nat.mul_mod,h1,Nat.mul_mod_mod]
theorem ri (a i:Nat):uk a i=0∨uk a i=1:=by unfold uk;omega
theorem ux (n:Nat):n<2 ^ zF n:=tP n
theorem nz {n:Nat} (h:n<zd):zF n≤256:=y9 (by simpa [zd] using h)
theorem bd {f:Nat} [Cal Tryz.prog f] (caps:List Value) (a n m:Nat) (h1:1<m) (ha:a<m) (hn:n<zd) (hm:m<18446744073709551616) (R:World→Prop) (hst:yq R)
  (hf:∀ x y:Nat,x<m→y<m→Fn Tryz.prog f ([.int .u64 (x:Int),.int .u64 (y:Int)]++caps) R (Is (.int .u64 ((x*y%m:Nat):Int)))) :
  Fn Tryz.prog 79 [.int .u64 (a:Int),.int .u64 1,zj n,.func (.func f) #[] caps.toArray] R (Is (.int .u64 ((a ^ n%m:Nat):Int))):=by
 have hB:=mC n hn;have hlt:=ux n;have hN:=nz hn;have hbit:∀ i:Int,0≤i→i≤1000000→Fn Tryz.prog 116 [zj n,.int .i64 i] Tr (Is (.int .u64 (uk n i.toNat:Nat))):=fun i h0 h1=>adM n i hn h0 h1;have hend:=jy n (zF n);have hst0:=qX hlt;have hstep:=fun k (h:k<zF n)=>nL n h;generalize zF n=N at *;refine Fn.enter Tryz.func79 rfl rfl rfl ?_;intro w hw
 repeat (first|refine Ta ?_|(refine Tm ?_;intro _)|refine WO.acall (hc:=hB) (k:=?_)|refine Tc ?_|exact Tz)
 rename_i g6;refine WC.loopI (σ:=Nat × Nat) (fun s=>s.1≤N∧s.2=a ^ dZ n N s.1%m) (fun s=>[(0,.int .u64 (a:Int)),(3,.func (.func f) #[] caps.toArray),(6,pt g6),(9,.int .u64 (s.2:Int)),(13,.int .i64 (N:Int)),(14,.int .i64 (s.1:Int))]) (fun s=>[⟨g6,24,zc n⟩]) (fun s=>N - s.1) (0,1) (fun s hs=>?_) ⟨Nat.zero_le _,by rw[hst0,Nat.pow_zero,Nat.mod_eq_of_lt h1]⟩;obtain⟨k,x⟩:=s;obtain⟨hk,hx⟩:=hs;dsimp only at hk hx ⊢;have hxm:x<m:=by rw[hx];exact Nat.mod_lt _ (by omega)
 by_cases hlt:(k:Int)<(N:Int)
 ·have hkN:k<N:=by omega
  have hsq:=hf x x hxm hxm;have hma:=hf (x*x%m) a (Nat.mod_lt _ (by omega)) ha;have hbt:=hbit ((N:Int) - 1 - (k:Int)) (by omega) (by omega);rw[show ((N:Int) - 1 - (k:Int)).toNat=N - 1 - k by omega] at hbt;have hp:=nN a m (dZ n N k) (uk n (N - 1 - k)) (ri _ _);rw[← hstep k hkN,← hx] at hp
  repeat (first|refine Tw ?_|(refine Tm ?_;intro _)|exact Tz)
  refine WC.dT rfl hlt ?_
  repeat (first|refine Ta ?_|(refine Tm ?_;intro _)|refine WO.acallV (hc:=hsq) (hR:=fun w' hm=>hst _ _ hw hm.mod.below) (k:=?_)|refine Tc ?_|exact Tz)
  rcases ri n (N - 1 - k) with e|e
  ·rw[e] at hbt hp;refine WC.adraw 8 (k:=?_)
   repeat (first|refine Da ?_|refine DQ.acall (hc:=hB) (k:=?_)|refine DQ.acall (hc:=hbt) (k:=?_)|refine Dc ?_)
   refine DQ.anil (k:=?_);intro sx _
   repeat (first|refine Tw ?_|(refine Tm ?_;intro _)|exact Tz)
   refine WX.metI (k+1,x*x%m) (hs:=⟨⟨by omega,by simpa using hp.symm⟩,by simp only;omega⟩)
  ·rw[e] at hbt hp;refine WC.adraw 8 (k:=?_)
   repeat (first|refine Da ?_|refine DQ.acall (hc:=hB) (k:=?_)|refine DQ.acall (hc:=hbt) (k:=?_)|refine Dc ?_)
   refine DQ.anil (k:=?_);intro sx _
   repeat (first|refine Ta ?_|(refine Tm ?_;intro _)|refine WO.acallV (hc:=hma) (hR:=fun w' hm=>hst _ _ hw hm.mod.below) (k:=?_)|refine Tc ?_|exact Tz)
   refine WX.metI (k+1,x*x%m*a%m) (hs:=⟨⟨by omega,by simpa using hp.symm⟩,by simp only;omega⟩)
 ·have hkN:k=N:=by omega
  subst hkN;rw[hend] at hx;subst hx
  repeat (first|refine Tw ?_|(refine Tm ?_;intro _)|exact Tz)
  refine WC.dF rfl hlt ?_
  repeat (first|refine Tw ?_|(refine Tm ?_;intro _)|exact Tz)
end Sx
end
section
open Go Go.RowKit
namespace Sx
attribute [local irreducible] DQ DQS WC WO WX
theorem cT {f:Nat} [Cal Tryz.prog f] (caps:List Value) (a n m:Nat) (h1:1<m) (ha:a<m) (hn:n<zd) (R:World→Prop) (hst:yq R)
  (hf:∀ x y:Nat,x<m→y<m→Fn Tryz.prog f ([zj x,zj y]++caps) R (Is (zj (x*y%m)))) :
  Fn Tryz.prog 82 [zj a,zj 1,zj n,.func (.func f) #[] caps.toArray] R (Is (zj (a ^ n%m))):=by
 have hB:=mC n hn;have hlt:=ux n;have hN:=nz hn;have hbit:∀ i:Int,0≤i→i≤1000000→Fn Tryz.prog 116 [zj n,.int .i64 i] Tr (Is (.int .u64 (uk n i.toNat:Nat))):=fun i h0 h1=>adM n i hn h0 h1;have hend:=jy n (zF n);have hst0:=qX hlt;have hstep:=fun k (h:k<zF n)=>nL n h;generalize zF n=N at *;refine Fn.enter Tryz.func82 rfl rfl rfl ?_;intro w hw
 repeat (first|refine Ta ?_|(refine Tm ?_;intro _)|refine WO.acall (hc:=hB) (k:=?_)|refine Tc ?_|exact Tz)
 rename_i g4 g5 g6 g8 g9
 refine WC.loopI (σ:=Nat × Nat) (fun s=>s.1≤N∧s.2=a ^ dZ n N s.1%m) (fun s=>[(3,.func (.func f) #[] caps.toArray),(4,pt g4),(6,pt g6),(8,pt g8),(9,pt g9),(13,.int .i64 (N:Int)),(14,.int .i64 (s.1:Int))])
  (fun s=>[⟨g4,24,zc a⟩,⟨g6,24,zc n⟩,⟨g8,24,zc 0⟩,⟨g9,24,zc s.2⟩]) (fun s=>N - s.1) (0,1) (fun s hs=>?_) ⟨Nat.zero_le _,by rw[hst0,Nat.pow_zero,Nat.mod_eq_of_lt h1]⟩
 obtain⟨k,x⟩:=s;obtain⟨hk,hx⟩:=hs;dsimp only at hk hx ⊢;have hxm:x<m:=by rw[hx];exact Nat.mod_lt _ (by omega)
 by_cases hlt:(k:Int)<(N:Int)
 ·have hkN:k<N:=by omega
  have hsq:=hf x x hxm hxm;have hma:=hf (x*x%m) a (Nat.mod_lt _ (by omega)) ha;have hbt:=hbit ((N:Int) - 1 - (k:Int)) (by omega) (by omega);rw[show ((N:Int) - 1 - (k:Int)).toNat=N - 1 - k by omega] at hbt;have hp:=nN a m (dZ n N k) (uk n (N - 1 - k)) (ri _ _);rw[← hstep k hkN,← hx] at hp
  repeat (first|refine Tw ?_|(refine Tm ?_;intro _)|exact Tz)
  refine WC.dT rfl hlt ?_
  repeat (first|refine Ta ?_|(refine Tm ?_;intro _)|refine WO.acallV (hc:=hsq) (hR:=fun w' hm=>hst _ _ hw hm.mod.below) (k:=?_)|refine Tc ?_|exact Tz)
  rcases ri n (N - 1 - k) with e|e
  ·rw[e] at hbt hp;refine WC.adraw 8 (k:=?_)
   repeat (first|refine Da ?_|refine DQ.acall (hc:=hB) (k:=?_)|refine DQ.acall (hc:=hbt) (k:=?_)|refine Dc ?_)
   refine DQ.anil (k:=?_);intro sx _
   repeat (first|refine Tw ?_|(refine Tm ?_;intro _)|exact Tz)
   refine WX.metI (k+1,x*x%m) (hs:=⟨⟨by omega,by simpa using hp.symm⟩,by simp only;omega⟩)
  ·rw[e] at hbt hp;refine WC.adraw 8 (k:=?_)
   repeat (first|refine Da ?_|refine DQ.acall (hc:=hB) (k:=?_)|refine DQ.acall (hc:=hbt) (k:=?_)|refine Dc ?_)
   refine DQ.anil (k:=?_);intro sx _
   repeat (first|refine Ta ?_|(refine Tm ?_;intro _)|refine WO.acallV (hc:=hma) (hR:=fun w' hm=>hst _ _ hw hm.mod.below) (k:=?_)|refine Tc ?_|exact Tz)
   refine WX.metI (k+1,x*x%m*a%m) (hs:=⟨⟨by omega,by simpa using hp.symm⟩,by simp only;omega⟩)
 ·have hkN:k=N:=by omega
  subst hkN;rw[hend] at hx;subst hx
  repeat (first|refine Tw ?_|(refine Tm ?_;intro _)|exact Tz)
  refine WC.dF rfl hlt ?_
  repeat (first|refine Tw ?_|(refine Tm ?_;intro _)|exact Tz)
theorem abd (a b m g:Nat) (ha:a<m) (hb:b<m) (hm:m<18446744073709551616):Fn Tryz.prog 80 [.int .u64 (a:Int),.int .u64 (b:Int),pt g] (fun w=>Seg w g 0 (zc m)) (Is (.int .u64 ((a*b%m:Nat):Int))):=by
 have hW:=adl a b m ha hb hm;have e:wd 0 m=m:=Nat.mod_eq_of_lt hm;rw[← e] at hW;refine Fn.enter Tryz.func80 rfl rfl rfl ?_;intro w hw;rw[← e]
 repeat (first|refine Ta ?_|(refine Tm ?_;intro _)|refine WO.acall (hc:=hW) (k:=?_)|refine Tc ?_|exact Tz)
theorem abZ (a b m g:Nat) (ha:a<m) (hb:b<m) (hm:m<zd):Fn Tryz.prog 83 [zj a,zj b,pt g] (fun w=>Seg w g 0 (zc m)) (Is (zj (a*b%m))):=by
 have hW:=mY a b m ha hb hm;refine Fn.enter Tryz.func83 rfl rfl rfl ?_;intro w hw
 repeat (first|refine Ta ?_|(refine Tm ?_;intro _)|refine WO.acall (hc:=hW) (k:=?_)|refine Tc ?_|exact Tz)
theorem ad9 (a n m g:Nat) (h1:1<m) (ha:a<m) (hm:m<zd) (hn:n<zd):Fn Tryz.prog 77 [zj a,zj a,zj m,pt g] (fun w=>Seg w g 0 (zc n)) (Is (zj (a ^ n%m))):=by
 have hB:=mC m hm
 by_cases hs:m<18446744073709551616
 ·have hle:((zF m:Nat):Int)≤64:=by have:zF m≤64:=y9 (by simpa using hs);omega
  have ea:wd 0 a=a:=Nat.mod_eq_of_lt (by omega)
  have hP:∀ g,Fn Tryz.prog 79 [.int .u64 ((wd 0 a:Nat):Int),.int .u64 1,zj n,.func (.func 80) #[] #[pt g]] (fun w=>Seg w g 0 (zc m)) (Is (.int .u64 ((a ^ n%m:Nat):Int))) :=
   fun g=>by rw[ea];exact bd [pt g] a n m h1 ha hn hs _ yq.seg (fun x y hx hy=>abd x y m g hx hy hs)
  have hO:=aH (a ^ n%m) (Nat.lt_trans (Nat.mod_lt _ (by omega)) hs);generalize zF m=N at *;refine Fn.enter Tryz.func77 rfl rfl rfl ?_;intro w hw
  repeat (first|refine Ta ?_|(refine Tm ?_;intro _)|refine WO.acall (hc:=hB) (k:=?_)|refine Tc ?_|exact Tz)
  refine WC.dT rfl hle ?_
  repeat (first|refine Ta ?_|(refine Tm ?_;intro _)|refine WO.acall (hc:=hO) (k:=?_)|refine WO.acallR (hc:=hP _) (hR:=fun w' hm=>Hs.sg hm) (k:=?_)|refine Tc ?_|exact Tz)
 ·have hle:¬ ((zF m:Nat):Int)≤64:=by
   intro h;have:zF m≤64:=by omega
   rw[yO] at this;exact hs (by simpa using this)
  have hP:∀ g,Fn Tryz.prog 82 [zj a,zj 1,zj n,.func (.func 83) #[] #[pt g]] (fun w=>Seg w g 0 (zc m)) (Is (zj (a ^ n%m))) :=
   fun g=>cT [pt g] a n m h1 ha hn _ yq.seg (fun x y hx hy=>abZ x y m g hx hy hm)
  generalize zF m=N at *;refine Fn.enter Tryz.func77 rfl rfl rfl ?_;intro w hw
  repeat (first|refine Ta ?_|(refine Tm ?_;intro _)|refine WO.acall (hc:=hB) (k:=?_)|refine Tc ?_|exact Tz)
  refine WC.dF rfl hle ?_
  repeat (first|refine Tw ?_|(refine Tm ?_;intro _)|exact Tz)
  refine WC.adraw 5 (k:=?_)
  repeat (first|refine Da ?_|refine DQ.acall (hc:=v8) (k:=?_)|refine DQ.acallR (hc:=hP _) (hR:=fun w' hm=>Hs.sg hm) (k:=?_)|refine Dc ?_)
  refine DQ.anil (k:=?_);intro sx _
  repeat (first|refine Tw ?_|(refine Tm ?_;intro _)|exact Tz)
theorem aeJ (a n m:Nat) (ha:a<zd) (hn:n<zd) (hm:m<zd):Fn Tryz.prog 36 [zj a,zj n,zj m] Tr (Is (rE (zJ a a m) (a ^ n%m))):=by
 have hO:=fun g=>adq (f:=77) [pt g] a a m (a ^ n%m) ha ha hm _ yq.seg (fun h=>ad9 a n m g (zK h).1 (zK h).2.1 hm hn);refine Fn.enter Tryz.func36 rfl rfl rfl ?_;intro w hw
 repeat (first|refine Ta ?_|(refine Tm ?_;intro _)|refine WO.acallR (hc:=hO _) (hR:=fun w' hm=>Hs.sg hm) (k:=?_)|refine Tc ?_|exact Tz)
end Sx
end
section
namespace Sx
def iY (m r s x y:Nat):Nat:=if h:s≤1 then y else iY m s (r%s) y ((x+m - r / s*y%m)%m)
termination_by s
decreasing_by exact Nat.mod_lt _ (by omega)
def uJ (a m:Nat):Nat:=if Nat.gcd a m=1 then iY m m a 0 1 else 0
theorem ka {a b m:Int} (h:m ∣ a - b):a%m=b%m:=by
 obtain⟨c,hc⟩:=h;have:a=b+m*c:=by omega
 rw[this,Int.add_mul_emod_self_left]
theorem lj {a b m:Int} (h:a%m=b%m):m ∣ a - b:=Int.dvd_of_emod_eq_zero (by rw[Int.sub_emod,h,Int.sub_self,Int.zero_emod])
theorem il {a b m:Nat} (h:(m:Int) ∣ (a:Int) - (b:Int)):a%m=b%m:=by
 have:=ka h;rw[← Int.natCast_emod,← Int.natCast_emod] at this;exact Int.ofNat.inj this
theorem pI {a b m:Nat} (h:a%m=b%m):(m:Int) ∣ (a:Int) - (b:Int):=by
 apply lj;rw[← Int.natCast_emod,← Int.natCast_emod,h]
theorem bG {a m r s x y:Nat} (hm:0<m) (h1:x*a%m=r%m) (h2:y*a%m=s%m):(x+m - r / s*y%m)%m*a%m=r%s%m:=by
 have ht:r / s*y%m<m:=Nat.mod_lt _ hm;have e1:r=s*(r / s)+r%s:=(Nat.div_add_mod r s).symm;have e2:r / s*y=m*(r / s*y / m)+r / s*y%m:=(Nat.div_add_mod _ m).symm;have e3:x+m - r / s*y%m=m*((x+m - r / s*y%m) / m)+(x+m - r / s*y%m)%m:=(Nat.div_add_mod _ m).symm;have d1:=pI h1;have d2:=pI h2;apply il;generalize hz:(x+m - r / s*y%m)%m=z at *;generalize (x+m - r / s*y%m) / m=k at *;generalize hu:r / s*y%m=u at *;generalize r / s*y / m=l at *;generalize r / s=q at *;generalize r%s=p at *;obtain⟨c1,hc1⟩:=d1;obtain⟨c2,hc2⟩:=d2;have f3:(x:Int)+m - u=m*k+z:=by
  have:((x+m - u:Nat):Int)=((m*k+z:Nat):Int):=by rw[e3]
  rw[Int.ofNat_sub (by omega)] at this;push_cast at this;exact this
 have f2:(q:Int)*y=m*l+u:=by exact_mod_cast e2
 have f1:(r:Int)=s*q+p:=by exact_mod_cast e1
 push_cast at hc1 hc2 ⊢;refine⟨c1 - q*c2+a - k*a+l*a,?_⟩;have hz' : (z:Int)=x+m - (q*y - m*l) - m*k:=by omega
 have:(z:Int)*a - p=(x*a - r) - q*(y*a - s)+m*a+m*(l*a) - m*(k*a):=by
  rw[hz',f1];simp only[Int.sub_mul,Int.add_mul,Int.mul_sub,Int.mul_add,Int.mul_assoc,Int.mul_comm,Int.mul_left_comm];omega
 rw[this,hc1,hc2];simp only[Int.sub_mul,Int.add_mul,Int.mul_sub,Int.mul_add,Int.mul_assoc,Int.mul_comm,Int.mul_left_comm];omega
theorem js {m r x y:Nat}:iY m r 1 x y=y:=by unfold iY;simp
theorem mb {m r s x y:Nat} (h:1<s):iY m r s x y=iY m s (r%s) y ((x+m - r / s*y%m)%m):=by
 rw[iY];rw[dif_neg (by omega)]
theorem kW {r s:Nat} (hs:1<s) (hg:Nat.gcd r s=1):0<r%s:=by
 rcases Nat.eq_zero_or_pos (r%s) with h|h
 ·exfalso;have h1:s ∣ r:=Nat.dvd_of_mod_eq_zero h;have:Nat.gcd r s=s:=Nat.gcd_eq_right h1;omega
 ·exact h
theorem jl {r s:Nat} (hg:Nat.gcd r s=1):Nat.gcd s (r%s)=1:=by
 rw[Nat.gcd_comm s,← Nat.gcd_rec,Nat.gcd_comm];exact hg
theorem dt (m a:Nat) (hm:1<m):∀ (s r x y:Nat),0<s→Nat.gcd r s=1→x*a%m=r%m→y*a%m=s%m→y<m→iY m r s x y*a%m=1∧iY m r s x y<m:=by
 intro s
 induction s using Nat.strongRecOn with
 | _ s ih =>
  intro r x y hs hg h1 h2 hy
  by_cases e:s=1
  ·subst e;rw[js,h2,Nat.mod_eq_of_lt hm];exact⟨rfl,hy⟩
  ·rw[mb (by omega)];exact ih (r%s) (Nat.mod_lt _ hs) s y _ (kW (by omega) hg) (jl hg) h2 (bG (by omega) h1 h2) (Nat.mod_lt _ (by omega))
theorem qA {m a:Nat} (hm:1<m) (ha:a<m) (hg:Nat.gcd a m=1):uJ a m*a%m=1∧uJ a m<m:=by
 unfold uJ;rw[if_pos hg];have h0:0<a:=by
  rcases Nat.eq_zero_or_pos a with h|h
  ·subst h;rw[Nat.gcd_zero_left] at hg;omega
  ·exact h
 exact dt m a hm a m 0 1 h0 (by rw[Nat.gcd_comm];exact hg) (by simp) (by simp) hm
theorem acx {m a:Nat} (hm:1<m) (ha:a<m) (hg:Nat.gcd a m=1):uJ a m≠0:=by
 intro h;have:=(qA hm ha hg).1;rw[h] at this;simp at this
theorem lh {m a:Nat} (hg:Nat.gcd a m≠1):uJ a m=0:=by unfold uJ;rw[if_neg hg]
def i4 (a m:Nat):Int:=if zJ a a m then (if Nat.gcd a m=1 then 0 else 7) else 1
end Sx
end
section
open Go Go.RowKit
namespace Sx
attribute [local irreducible] DQ DQS WC WO WX wd
theorem afe {r s m:Nat} (hs:1<s) (hr:r≤m) (hm:1<m):r / s<m:=Nat.lt_of_le_of_lt (Nat.div_le_div_right hr) (Nat.div_lt_self (by omega) hs)
theorem adX (a m:Nat) (h1:1<m) (ha:a<m) (hm:m<zd):Fn Tryz.prog 171 [zj a,zj a,zj m] Tr (Is (zj (uJ a m))):=by
 have haB:a<zd:=by omega
 have hG:=aj a m haB hm;have hgB:Nat.gcd a m<zd:=Nat.lt_of_le_of_lt (Nat.gcd_le_right _ (by omega)) hm
 by_cases hg:Nat.gcd a m=1
 ·have hne:¬ (Nat.gcd a m≠1):=fun h=>h hg;have hinv:uJ a m=iY m m a 0 1:=by unfold uJ;rw[if_pos hg]
  have h0:0<a:=by
   rcases Nat.eq_zero_or_pos a with h|h
   ·subst h;rw[Nat.gcd_zero_left] at hg;omega
   ·exact h
  have hgm:Nat.gcd m a=1:=by rw[Nat.gcd_comm];exact hg
  rw[hinv];refine Fn.enter Tryz.func171 rfl rfl rfl ?_;intro w hw
  repeat (first|refine Ta ?_|(refine Tm ?_;intro _)|refine WO.acall (hc:=hG) (k:=?_)|refine WO.acall (hc:=v8) (k:=?_)|refine Tc ?_|exact Tz)
  refine WC.dF rfl hne ?_
  repeat (first|refine Tw ?_|(refine Tm ?_;intro _)|exact Tz)
  rename_i g3 g4 g5 g6;refine WC.adrawS [1] [(1,[⟨g3,24,zc a⟩])] 8 (k:=?_)
  repeat (first|refine DQS.skip ?_|refine DQS.autoM (k:=?_)|refine DQS.acall (hc:=v8) (k:=?_)|refine DQS.acall (hc:=nA) (k:=?_)|refine DQS.autoH (k:=?_)|refine DQS.auto (k:=?_)|refine DQS.autoF (k:=?_)|refine DQS.does (fun s _=>yv) Dp.const ?_|refine DQS.does (fun s _=>vx) Dp.const ?_)
  refine DQS.anil (k:=?_);intro sx _
  repeat (first|refine WOS.autoS (kk:=?_)|refine WOS.auto (kk:=?_))
  refine WOS.nil ?_;refine WX.noPanic ?_;generalize sx 4 0=g7;generalize sx 5 0=g8;generalize sx 6 0=g9;generalize sx 7 0=g10
  repeat (first|refine Tw ?_|(refine Tm ?_;intro _)|exact Tz)
  refine WC.loopI (σ:=Nat × Nat × Nat × Nat) (fun s=>0<s.2.1∧s.2.1<s.1∧s.1≤m∧Nat.gcd s.1 s.2.1=1∧s.2.2.1<m∧s.2.2.2<m∧iY m s.1 s.2.1 s.2.2.1 s.2.2.2=iY m m a 0 1)
   (fun s=>[(5,pt g5),(6,pt g6),(7,pt g7),(8,pt g8),(9,pt g9),(10,pt g10)])
   (fun s=>[⟨g5,24,zc m⟩,⟨g6,24,zc 0⟩,⟨g7,24,zc s.1⟩,⟨g8,24,zc s.2.1⟩,⟨g9,24,zc s.2.2.1⟩,⟨g10,24,zc s.2.2.2⟩]) (fun s=>s.2.1) (m,a,0,1) (fun s hs=>?_) ⟨h0,ha,Nat.le_refl _,hgm,by show 0<m;omega,h1,rfl⟩
  obtain⟨r,s,x,y⟩:=s;obtain⟨hs0,hsr,hrm,hgc,hx,hy,heq⟩:=hs;dsimp only at hs0 hsr hrm hgc hx hy heq ⊢;have hsB:s<zd:=by omega
  by_cases hs1:s=1
  ·have hno:¬ (s≠1):=fun h=>h hs1;subst hs1;rw[js] at heq;rw[← heq]
   repeat (first|refine Tw ?_|(refine Tm ?_;intro _)|exact Tz)
   refine WC.adraw 3 (k:=?_)
   repeat (first|refine Da ?_|refine DQ.acall (hc:=v8) (k:=?_)|refine Dc ?_)
   refine DQ.anil (k:=?_);intro sx _
   repeat (first|refine Tw ?_|(refine Tm ?_;intro _)|exact Tz)
  ·have hD:=aey r s (by omega) hsB hs0;have hq:=afe (r:=r) (s:=s) (m:=m) (by omega) hrm h1;have hT:=mY (r / s) y m hq hy hm;have hS:=acB x (r / s*y%m) m (by omega) (Nat.lt_trans (Nat.mod_lt _ (by omega)) hm) hm;have hmay:zJ x (r / s*y%m) m=true:=by unfold zJ;simp[h1,hx,Nat.mod_lt _ (show 0<m by omega)]
   rw[hmay] at hS;have hnext:=mb (m:=m) (r:=r) (x:=x) (y:=y) (show 1<s by omega);have hpos:=kW (show 1<s by omega) hgc;have hlt:=Nat.mod_lt r hs0;have hgn:=jl hgc;have hz:(x+m - r / s*y%m)%m<m:=Nat.mod_lt _ (by omega);rw[heq] at hnext;generalize (x+m - r / s*y%m)%m=z at *;generalize r / s*y%m=u at *;generalize r / s=q at *;generalize r%s=p at *
   repeat (first|refine Tw ?_|(refine Tm ?_;intro _)|exact Tz)
   refine WC.adraw 3 (k:=?_)
   repeat (first|refine Da ?_|refine DQ.acall (hc:=v8) (k:=?_)|refine Dc ?_)
   refine DQ.anil (k:=?_);intro sx _
   repeat (first|refine Tw ?_|(refine Tm ?_;intro _)|exact Tz)
   refine WC.dT rfl hs1 ?_
   repeat (first|refine Ta ?_|(refine Tm ?_;intro _)|refine WO.acall (hc:=hD) (k:=?_)|refine Tc ?_|exact Tz)
   rename_i g11 g12;refine WC.adrawF [9] 11 (k:=?_)
   repeat (first|refine Da ?_|refine DQ.acall (hc:=hT) (k:=?_)|refine DQ.acall (hc:=hS) (k:=?_)|refine Df ?_)
   refine DQ.anil (k:=?_);intro sx _
   repeat (first|refine Tw ?_|(refine Tm ?_;intro _)|exact Tz)
   generalize sx 10 0=g14;refine WC.adrawS [1,2,3] [(1,[⟨g12,24,zc p⟩]),(2,[⟨g10,24,zc y⟩]),(3,[⟨g14,24,zc z⟩])] 4 (k:=?_)
   repeat (first|refine DQS.skip ?_|refine DQS.autoM (k:=?_)|refine DQS.autoH (k:=?_)|refine DQS.auto (k:=?_)|refine DQS.autoF (k:=?_)|refine DQS.does (fun s _=>yv) Dp.const ?_|refine DQS.does (fun s _=>vx) Dp.const ?_)
   refine DQS.anil (k:=?_);intro sx _
   repeat (first|refine WOS.autoS (kk:=?_)|refine WOS.auto (kk:=?_))
   refine WOS.nil ?_;refine WX.noPanic ?_
   repeat (first|refine Tw ?_|(refine Tm ?_;intro _)|exact Tz)
   refine WX.metI (s,p,y,z) (hs:=⟨⟨hpos,hlt,by omega,hgn,hy,hz,hnext.symm⟩,hlt⟩)
 ·have hinv:uJ a m=0:=lh hg;rw[hinv];refine Fn.enter Tryz.func171 rfl rfl rfl ?_;intro w hw
  repeat (first|refine Ta ?_|(refine Tm ?_;intro _)|refine WO.acall (hc:=hG) (k:=?_)|refine WO.acall (hc:=v8) (k:=?_)|refine Tc ?_|exact Tz)
  refine WC.dT rfl hg ?_
  repeat (first|refine Tw ?_|(refine Tm ?_;intro _)|exact Tz)
theorem fE {a m:Nat} (h1:1<m) (ha:a<m):uJ a m<m:=by
 by_cases hg:Nat.gcd a m=1
 ·exact (qA h1 ha hg).2
 ·rw[lh hg];omega
theorem aer (a m:Nat) (ha:a<zd) (hm:m<zd):Fn Tryz.prog 164 [zj a,zj m] Tr (Is (.tuple #[zj (okV (zJ a a m) (uJ a m)),.int .i64 (i4 a m)])):=by
 have hO:=adq (f:=171) [] a a m (uJ a m) ha ha hm Tr yq.tr (fun h=>adX a m (zK h).1 (zK h).2.1 hm);cases hy:zJ a a m with
 | false =>
  have he:i4 a m=1:=by unfold i4;rw[hy];rfl
  rw[hy] at hO;rw[he];refine Fn.enter Tryz.func164 rfl rfl rfl ?_;intro w hw
  repeat (first|refine Ta ?_|(refine Tm ?_;intro _)|refine WO.acall (hc:=hO) (k:=?_)|refine Tc ?_|exact Tz)
  refine WC.adraw 7 (k:=?_)
  repeat (first|refine Da ?_|refine DQ.acall (hc:=nA) (k:=?_)|refine Dc ?_)
  refine DQ.anil (k:=?_);intro sx _
  repeat (first|refine Tw ?_|(refine Tm ?_;intro _)|exact Tz)
 | true =>
  obtain⟨h1,h2,_⟩:=zK hy;have hB:uJ a m<zd:=Nat.lt_trans (fE h1 h2) hm;rw[hy] at hO
  by_cases hg:Nat.gcd a m=1
  ·have he:i4 a m=0:=by unfold i4;rw[hy,if_pos hg];rfl
   have hz:¬ uJ a m=0:=acx h1 h2 hg;rw[he];generalize uJ a m=v at *;refine Fn.enter Tryz.func164 rfl rfl rfl ?_;intro w hw
   repeat (first|refine Ta ?_|(refine Tm ?_;intro _)|refine WO.acall (hc:=hO) (k:=?_)|refine Tc ?_|exact Tz)
   refine WC.adraw 7 (k:=?_)
   repeat (first|refine Da ?_|refine DQ.acall (hc:=nA) (k:=?_)|refine Dc ?_)
   refine DQ.anil (k:=?_);intro sx _
   repeat (first|refine Tw ?_|(refine Tm ?_;intro _)|exact Tz)
   refine WC.dF rfl hz ?_
   repeat (first|refine Tw ?_|(refine Tm ?_;intro _)|exact Tz)
  ·have he:i4 a m=7:=by unfold i4;rw[hy,if_neg hg];rfl
   rw[he];rw[lh hg] at hO ⊢;refine Fn.enter Tryz.func164 rfl rfl rfl ?_;intro w hw
   repeat (first|refine Ta ?_|(refine Tm ?_;intro _)|refine WO.acall (hc:=hO) (k:=?_)|refine Tc ?_|exact Tz)
   refine WC.adraw 7 (k:=?_)
   repeat (first|refine Da ?_|refine DQ.acall (hc:=nA) (k:=?_)|refine Dc ?_)
   refine DQ.anil (k:=?_);intro sx _
   repeat (first|refine Tw ?_|(refine Tm ?_;intro _)|exact Tz)
abbrev zL (p q g h:Nat):List Value:=[.int .u64 ((wd 0 p:Nat):Int),.int .u64 ((wd 1 p:Nat):Int),.int .u64 ((wd 2 p:Nat):Int),.int .u64 ((wd 3 p:Nat):Int),.int .u64 ((wd 0 q:Nat):Int),.int .u64 ((wd 1 q:Nat):Int),.int .u64 ((wd 2 q:Nat):Int),.int .u64 ((wd 3 q:Nat):Int),.int .u64 ((wd 0 g:Nat):Int),.int .u64 ((wd 1 g:Nat):Int),.int .u64 ((wd 2 g:Nat):Int),.int .u64 ((wd 3 g:Nat):Int),.int .u64 ((wd 0 h:Nat):Int),.int .u64 ((wd 1 h:Nat):Int),.int .u64 ((wd 2 h:Nat):Int),.int .u64 ((wd 3 h:Nat):Int)]
abbrev yo (p q g h:Nat):Value:=.agg #[.int .u64 ((wd 0 p:Nat):Int),.int .u64 ((wd 1 p:Nat):Int),.int .u64 ((wd 2 p:Nat):Int),.int .u64 ((wd 3 p:Nat):Int),.int .u64 ((wd 0 q:Nat):Int),.int .u64 ((wd 1 q:Nat):Int),.int .u64 ((wd 2 q:Nat):Int),.int .u64 ((wd 3 q:Nat):Int),.int .u64 ((wd 0 g:Nat):Int),.int .u64 ((wd 1 g:Nat):Int),.int .u64 ((wd 2 g:Nat):Int),.int .u64 ((wd 3 g:Nat):Int),.int .u64 ((wd 0 h:Nat):Int),.int .u64 ((wd 1 h:Nat):Int),.int .u64 ((wd 2 h:Nat):Int),.int .u64 ((wd 3 h:Nat):Int)]
def yB (p a:Nat):Bool:=decide (1<p) && decide (a≠0) && decide (a<p)
theorem yT {p a:Nat} (h:yB p a=true):1<p∧a≠0∧a<p:=by
 unfold yB at h;simp at h;exact⟨h.1.1,h.1.2,h.2⟩
theorem dv {p a:Nat} (h:yB p a=true):zJ a a p=true:=by
 obtain⟨h1,_,h3⟩:=yT h;simp[zJ,h1,h3]
section
variable (p q g h:Nat)
theorem nn (a b:Nat) (ha:a<zd) (hb:b<zd) (hq:q<zd):Fn Tryz.prog 97 [yo p q g h,zj a,zj b] Tr (Is (rE (zJ a b q) ((a+b)%q))):=by
 have hO:=ac3 a b q ha hb hq;refine Fn.enter Tryz.func97 rfl rfl rfl ?_;intro w hw
 repeat (first|refine Td ?_|(refine Tm ?_;intro _)|refine WO.acall (hc:=hO) (k:=?_)|refine Tc ?_|exact Tz)
theorem aan (a b:Nat) (ha:a<zd) (hb:b<zd) (hq:q<zd):Fn Tryz.prog 109 [yo p q g h,zj a,zj b] Tr (Is (rE (zJ a b q) ((a+q - b)%q))):=by
 have hO:=acB a b q ha hb hq;refine Fn.enter Tryz.func109 rfl rfl rfl ?_;intro w hw
 repeat (first|refine Td ?_|(refine Tm ?_;intro _)|refine WO.acall (hc:=hO) (k:=?_)|refine Tc ?_|exact Tz)
theorem kU (a b:Nat) (ha:a<zd) (hb:b<zd) (hq:q<zd):Fn Tryz.prog 96 [yo p q g h,zj a,zj b] Tr (Is (rE (zJ a b q) (a*b%q))):=by
 have hO:=abO a b q ha hb hq;refine Fn.enter Tryz.func96 rfl rfl rfl ?_;intro w hw
 repeat (first|refine Td ?_|(refine Tm ?_;intro _)|refine WO.acall (hc:=hO) (k:=?_)|refine Tc ?_|exact Tz)
theorem ac5 (a:Nat) (ha:a<zd) (hq:q<zd):Fn Tryz.prog 143 [yo p q g h,zj a] Tr (Is (.tuple #[zj (okV (zJ a a q) (uJ a q)),.int .i64 (i4 a q)])):=by
 have hO:=aer a q ha hq;refine Fn.enter Tryz.func143 rfl rfl rfl ?_;intro w hw
 repeat (first|refine Td ?_|(refine Tm ?_;intro _)|refine WO.acall (hc:=hO) (k:=?_)|refine Tc ?_|exact Tz)
theorem abz (a:Nat) (ha:a<zd) (hp:p<zd):Fn Tryz.prog 35 [yo p q g h,zj a] Tr (Is (.bool (yB p a))):=by
 have hC1:=kf p 1 hp yP;have hC2:=kf a p ha hp
 by_cases h1:1<p
 ·rw[lq h1] at hC1
  by_cases h2:a=0
  ·have e:yB p a=false:=by simp[yB,h2]
   rw[e];refine Fn.enter Tryz.func35 rfl rfl rfl ?_;intro w hw
   repeat (first|refine Td ?_|(refine Tm ?_;intro _)|refine Tc ?_|exact Tz)
   refine WC.adraw 18 (k:=?_)
   repeat (first|refine DQ.decT (k:=?_)|refine DQ.decF (k:=?_)|refine Da ?_|refine DQ.acall (hc:=v8) (k:=?_)|refine DQ.acall (hc:=nA) (k:=?_)|refine DQ.acall (hc:=hC1) (k:=?_)|refine DQ.acall (hc:=hC2) (k:=?_)|refine Dc ?_)
   refine DQ.anil (k:=?_);intro sx _
   repeat (first|refine Td ?_|(refine Tm ?_;intro _)|refine Tc ?_|exact Tz)
  ·by_cases h3:a<p
   ·have e:yB p a=true:=by simp[yB,h1,h2,h3]
    rw[dA h3] at hC2;rw[e];refine Fn.enter Tryz.func35 rfl rfl rfl ?_;intro w hw
    repeat (first|refine Td ?_|(refine Tm ?_;intro _)|refine Tc ?_|exact Tz)
    refine WC.adraw 18 (k:=?_)
    repeat (first|refine DQ.decT (k:=?_)|refine DQ.decF (k:=?_)|refine Da ?_|refine DQ.acall (hc:=v8) (k:=?_)|refine DQ.acall (hc:=nA) (k:=?_)|refine DQ.acall (hc:=hC1) (k:=?_)|refine DQ.acall (hc:=hC2) (k:=?_)|refine Dc ?_)
    refine DQ.anil (k:=?_);intro sx _
    repeat (first|refine Td ?_|(refine Tm ?_;intro _)|refine Tc ?_|exact Tz)
   ·have e:yB p a=false:=by simp[yB,h3]
    have e2:uU a p=0∨uU a p=1:=by
     rcases Nat.lt_or_ge p a with h4|h4
     ·exact .inr (lq h4)
     ·exact .inl (dK (by omega))
    rw[e]
    rcases e2 with e2|e2
    all_goals
     rw[e2] at hC2;refine Fn.enter Tryz.func35 rfl rfl rfl ?_;intro w hw
     repeat (first|refine Td ?_|(refine Tm ?_;intro _)|refine Tc ?_|exact Tz)
     refine WC.adraw 18 (k:=?_)
     repeat (first|refine DQ.decT (k:=?_)|refine DQ.decF (k:=?_)|refine Da ?_|refine DQ.acall (hc:=v8) (k:=?_)|refine DQ.acall (hc:=nA) (k:=?_)|refine DQ.acall (hc:=hC1) (k:=?_)|refine DQ.acall (hc:=hC2) (k:=?_)|refine Dc ?_)
     refine DQ.anil (k:=?_);intro sx _
     repeat (first|refine Td ?_|(refine Tm ?_;intro _)|refine Tc ?_|exact Tz)
 ·have e:yB p a=false:=by simp[yB,h1]
  have e2:uU p 1=0∨uU p 1 = -1:=by
   rcases Nat.lt_or_ge p 1 with h4|h4
   ·exact .inr (dA h4)
   ·exact .inl (dK (by omega))
  rw[e]
  rcases e2 with e2|e2
  all_goals
   rw[e2] at hC1;refine Fn.enter Tryz.func35 rfl rfl rfl ?_;intro w hw
   repeat (first|refine Td ?_|(refine Tm ?_;intro _)|refine Tc ?_|exact Tz)
   refine WC.adraw 18 (k:=?_)
   repeat (first|refine DQ.decT (k:=?_)|refine DQ.decF (k:=?_)|refine Da ?_|refine DQ.acall (hc:=v8) (k:=?_)|refine DQ.acall (hc:=nA) (k:=?_)|refine DQ.acall (hc:=hC1) (k:=?_)|refine DQ.acall (hc:=hC2) (k:=?_)|refine Dc ?_)
   refine DQ.anil (k:=?_);intro sx _
   repeat (first|refine Td ?_|(refine Tm ?_;intro _)|refine Tc ?_|exact Tz)
theorem ud (a n:Nat) (ha:a<zd) (hn:n<zd) (hp:p<zd):Fn Tryz.prog 17 [yo p q g h,zj a,zj n] Tr (Is (rE (yB p a) (a ^ n%p))):=by
 have hM:=abz p q g h a ha hp;cases hy:yB p a with
 | true =>
  have hE:=aeJ a n p ha hn hp;rw[dv hy] at hE;rw[hy] at hM;refine Fn.enter Tryz.func17 rfl rfl rfl ?_;intro w hw
  repeat (first|refine Td ?_|(refine Tm ?_;intro _)|refine WO.acall (hc:=hM) (k:=?_)|refine WO.acall (hc:=hE) (k:=?_)|refine Tc ?_|exact Tz)
 | false =>
  rw[hy] at hM;refine Fn.enter Tryz.func17 rfl rfl rfl ?_;intro w hw
  repeat (first|refine Td ?_|(refine Tm ?_;intro _)|refine WO.acall (hc:=hM) (k:=?_)|refine Tc ?_|exact Tz)
theorem aau (a b:Nat) (ha:a<zd) (hb:b<zd) (hp:p<zd):Fn Tryz.prog 92 [yo p q g h,zj a,zj b] Tr (Is (rE (yB p a && yB p b) (a*b%p))):=by
 have hM1:=abz p q g h a ha hp;have hM2:=abz p q g h b hb hp;cases hy:yB p a with
 | true =>
  rw[hy] at hM1;cases hz:yB p b with
  | true =>
   rw[hz] at hM2;have hE:=abO a b p ha hb hp;have hm:zJ a b p=true:=by
    obtain⟨h1,_,h3⟩:=yT hy;obtain⟨_,_,h4⟩:=yT hz;simp[zJ,h1,h3,h4]
   rw[hm] at hE;refine Fn.enter Tryz.func92 rfl rfl rfl ?_;intro w hw
   repeat (first|refine Td ?_|(refine Tm ?_;intro _)|refine WO.acall (hc:=hM1) (k:=?_)|refine WO.acall (hc:=hM2) (k:=?_)|refine WO.acall (hc:=hE) (k:=?_)|refine Tc ?_|exact Tz)
  | false =>
   rw[hz] at hM2;refine Fn.enter Tryz.func92 rfl rfl rfl ?_;intro w hw
   repeat (first|refine Td ?_|(refine Tm ?_;intro _)|refine WO.acall (hc:=hM1) (k:=?_)|refine WO.acall (hc:=hM2) (k:=?_)|refine Tc ?_|exact Tz)
 | false =>
  rw[hy] at hM1;refine Fn.enter Tryz.func92 rfl rfl rfl ?_;intro w hw
  repeat (first|refine Td ?_|(refine Tm ?_;intro _)|refine WO.acall (hc:=hM1) (k:=?_)|refine WO.acall (hc:=hM2) (k:=?_)|refine Tc ?_|exact Tz)
def gIn (p q a:Nat):Bool:=yB p a && decide (a ^ q%p=1)
theorem rL (a:Nat) (ha:a<zd) (hp:p<zd) (hq:q<zd):Fn Tryz.prog 54 [yo p q g h,zj a] Tr (Is (.bool (gIn p q a))):=by
 have hE:=ud p q g h a q ha hq hp;cases hy:yB p a with
 | true =>
  rw[hy] at hE;have hB:a ^ q%p<zd:=Nat.lt_trans (Nat.mod_lt _ (by have:=yT hy;omega)) hp;have e:gIn p q a=decide (a ^ q%p=1):=by simp[gIn,hy]
  rw[e];generalize a ^ q%p=v at *;refine Fn.enter Tryz.func54 rfl rfl rfl ?_;intro w hw
  repeat (first|refine Td ?_|(refine Tm ?_;intro _)|refine WO.acall (hc:=hE) (k:=?_)|refine Tc ?_|exact Tz)
  by_cases hv:v=1
  ·rw[decide_eq_true hv];refine WC.adraw 8 (k:=?_)
   repeat (first|refine DQ.decT (k:=?_)|refine DQ.decF (k:=?_)|refine Da ?_|refine DQ.acall (hc:=v8) (k:=?_)|refine Dc ?_)
   refine DQ.anil (k:=?_);intro sx _
   repeat (first|refine Td ?_|(refine Tm ?_;intro _)|refine Tc ?_|exact Tz)
  ·rw[decide_eq_false hv];refine WC.adraw 8 (k:=?_)
   repeat (first|refine DQ.decT (k:=?_)|refine DQ.decF (k:=?_)|refine Da ?_|refine DQ.acall (hc:=v8) (k:=?_)|refine Dc ?_)
   refine DQ.anil (k:=?_);intro sx _
   repeat (first|refine Td ?_|(refine Tm ?_;intro _)|refine Tc ?_|exact Tz)
 | false =>
  have e:gIn p q a=false:=by simp[gIn,hy]
  rw[hy] at hE;rw[e];refine Fn.enter Tryz.func54 rfl rfl rfl ?_;intro w hw
  repeat (first|refine Td ?_|(refine Tm ?_;intro _)|refine WO.acall (hc:=hE) (k:=?_)|refine Tc ?_|exact Tz)
  refine WC.adraw 8 (k:=?_)
  repeat (first|refine DQ.decT (k:=?_)|refine DQ.decF (k:=?_)|refine Da ?_|refine DQ.acall (hc:=v8) (k:=?_)|refine Dc ?_)
  refine DQ.anil (k:=?_);intro sx _
  repeat (first|refine Td ?_|(refine Tm ?_;intro _)|refine Tc ?_|exact Tz)
end
end Sx
end
end Go.Proofs.YteibfbjpkjkejaaGreatDoor
