/- Part 25 of the proof. -/
import Derived.Test.YteibfbjpkjkejaaGreatDoorM14
set_option linter.unusedSimpArgs false
set_option linter.unusedVariables false
set_option maxHeartbeats 8000000
namespace Go.Proofs.YteibfbjpkjkejaaGreatDoor
section
open Go Go.RowKit
namespace Sx
attribute [local irreducible] DQ DQS WC WO WX wd
theorem gh {a b:Nat} (h:a<b):uE a b = -1:=by unfold uE;rw[if_neg (by omega),if_pos h]
theorem mM {a b:Nat} (h:b<a):uE a b=1:=by unfold uE;rw[if_neg (by omega),if_neg (by omega)]
theorem eE {a b:Nat} (h:a=b):uE a b=0:=by unfold uE;rw[if_pos h]
theorem jU {a b m:Nat} (ha:a<m) (hb:b<m) (hm:m<zd) :
  ((a+b) / zd=0∧bw ((a+b)%zd) m 0=1∧(a+b)%m=(a+b)%zd) ∨
  ((a+b) / zd=1∧(a+b)%m=((a+b)%zd+zd - m)%zd) ∨
  ((a+b) / zd=0∧bw ((a+b)%zd) m 0=0∧(a+b)%m=((a+b)%zd+zd - m)%zd):=by
 by_cases hc:a+b<zd
 ·have e:(a+b)%zd=a+b:=Nat.mod_eq_of_lt hc;rw[e];have e0:(a+b) / zd=0:=Nat.div_eq_of_lt hc
  by_cases h:a+b<m
  ·exact .inl ⟨e0,by simp[bw];omega,Nat.mod_eq_of_lt h⟩
  ·refine .inr (.inr ⟨e0,by simp[bw];omega,?_⟩);rw[Nat.mod_eq_sub_mod (by omega),Nat.mod_eq_of_lt (by omega),show a+b+zd - m=(a+b - m)+zd by omega,Nat.add_mod_right,Nat.mod_eq_of_lt (by omega)]
 ·have e:(a+b)%zd=a+b - zd:=by rw[Nat.mod_eq_sub_mod (by omega),Nat.mod_eq_of_lt (by omega)]
  refine .inr (.inl ⟨?_,?_⟩)
  ·rw[Nat.div_eq_iff zA];omega
  ·rw[e,Nat.mod_eq_sub_mod (by omega),Nat.mod_eq_of_lt (by omega),show a+b - zd+zd - m=a+b - m by omega,Nat.mod_eq_of_lt (by omega)]
theorem ir {a b m:Nat} (ha:a<m) (hb:b<m) (hm:m<zd) :
  (bw a b 0=0∧(a+m - b)%m=(a+zd - b)%zd)∨(bw a b 0=1∧(a+m - b)%m=((a+zd - b)%zd+m)%zd):=by
 by_cases h:a<b
 ·refine .inr ⟨by simp[bw];omega,?_⟩;rw[Nat.mod_eq_of_lt (by omega:a+m - b<m),Nat.mod_eq_of_lt (by omega:a+zd - b<zd),show a+zd - b+m=(a+m - b)+zd by omega,Nat.add_mod_right,Nat.mod_eq_of_lt (by omega)]
 ·refine .inl ⟨by simp[bw];omega,?_⟩;rw[show a+m - b=(a - b)+m by omega,Nat.add_mod_right,Nat.mod_eq_of_lt (by omega),show a+zd - b=(a - b)+zd by omega,Nat.add_mod_right,Nat.mod_eq_of_lt (by omega)]
theorem adx (a b c:Nat):bw a b c=0∨bw a b c=1:=by unfold bw;split<;>simp
theorem ac0 (a b m:Nat) (ha:a<m) (hb:b<m) (hm:m<zd):Fn Tryz.prog 156 [zi a,zi b,zi m] Tr (Is (zi ((a+b)%m))):=by
 have hc:=jU ha hb hm;have hA:=aaj a b (by omega) (by omega);have hS:=aai ((a+b)%zd) m (Nat.mod_lt _ zA) hm;have hl:=adx ((a+b)%zd) m 0;generalize (a+b)%m=R at *;generalize (a+b) / zd=c at *;generalize ((a+b)%zd+zd - m)%zd=y at *;generalize bw ((a+b)%zd) m 0=l at *;generalize (a+b)%zd=X at *
 rcases hc with ⟨rfl,rfl,rfl⟩|⟨rfl,rfl⟩|⟨rfl,rfl,rfl⟩
 ·refine Fn.enter Tryz.func156 rfl rfl rfl ?_;intro w hw
  repeat (first|refine Ta ?_|(refine Tm ?_;intro _)|refine WO.acall (hc:=hA) (k:=?_)|refine WO.acall (hc:=hS) (k:=?_)|refine Tc ?_|exact Tz)
 ·rcases hl with rfl|rfl
  all_goals
   refine Fn.enter Tryz.func156 rfl rfl rfl ?_;intro w hw
   repeat (first|refine Ta ?_|(refine Tm ?_;intro _)|refine WO.acall (hc:=hA) (k:=?_)|refine WO.acall (hc:=hS) (k:=?_)|refine Tc ?_|exact Tz)
 ·refine Fn.enter Tryz.func156 rfl rfl rfl ?_;intro w hw
  repeat (first|refine Ta ?_|(refine Tm ?_;intro _)|refine WO.acall (hc:=hA) (k:=?_)|refine WO.acall (hc:=hS) (k:=?_)|refine Tc ?_|exact Tz)
theorem ac8 (a b m:Nat) (ha:a<m) (hb:b<m) (hm:m<zd):Fn Tryz.prog 162 [zi a,zi b,zi m] Tr (Is (zi ((a+m - b)%m))):=by
 have hc:=ir ha hb hm;have hS:=aai a b (by omega) (by omega);have hA:=aaj ((a+zd - b)%zd) m (Nat.mod_lt _ zA) hm;generalize (a+m - b)%m=R at *;generalize ((a+zd - b)%zd+m) / zd=c at *;generalize ((a+zd - b)%zd+m)%zd=y at *;generalize bw a b 0=l at *;generalize (a+zd - b)%zd=X at *
 rcases hc with ⟨rfl,rfl⟩|⟨rfl,rfl⟩
 all_goals
  refine Fn.enter Tryz.func162 rfl rfl rfl ?_;intro w hw
  repeat (first|refine Ta ?_|(refine Tm ?_;intro _)|refine WO.acall (hc:=hA) (k:=?_)|refine WO.acall (hc:=hS) (k:=?_)|refine Tc ?_|exact Tz)
def okE (c:Bool):Int:=if c then 0 else 1
def okV (c:Bool) (r:Nat):Nat:=if c then r else 0
def zJ (a b m:Nat):Bool:=decide (1<m) && decide (a<m) && decide (b<m)
theorem j6 (a b m:Nat):(1<m∧a<m∧b<m∧zJ a b m=true∧uE m 1=1∧uE a m = -1∧uE b m = -1) ∨
  (zJ a b m=false∧((uE m 1=0∨uE m 1 = -1)∨(uE m 1=1∧(uE a m=0∨uE a m=1))∨(uE m 1=1∧uE a m = -1∧(uE b m=0∨uE b m=1)))):=by
 unfold zJ uE
 by_cases h1:1<m
 ·by_cases h2:a<m
  ·by_cases h3:b<m
   ·refine .inl ⟨h1,h2,h3,by simp[h1,h2,h3],?_,?_,?_⟩
    ·rw[if_neg (by omega),if_neg (by omega)]
    ·rw[if_neg (by omega),if_pos h2]
    ·rw[if_neg (by omega),if_pos h3]
   ·refine .inr ⟨by simp[h3],.inr (.inr ⟨?_,?_,?_⟩)⟩
    ·rw[if_neg (by omega),if_neg (by omega)]
    ·rw[if_neg (by omega),if_pos h2]
    ·by_cases e:b=m
     ·exact .inl (if_pos e)
     ·exact .inr (by rw[if_neg e,if_neg h3])
  ·refine .inr ⟨by simp[h2],.inr (.inl ⟨?_,?_⟩)⟩
   ·rw[if_neg (by omega),if_neg (by omega)]
   ·by_cases e:a=m
    ·exact .inl (if_pos e)
    ·exact .inr (by rw[if_neg e,if_neg h2])
 ·refine .inr ⟨by simp[h1],.inl ?_⟩
  by_cases e:m=1
  ·exact .inl (if_pos e)
  ·exact .inr (by rw[if_neg e,if_pos (by omega)])
theorem acU {f:Nat} [Cal Tryz.prog f] (caps:List Value) (a b m r:Nat) (ha:a<zd) (hb:b<zd) (hm:m<zd) (R:World→Prop) (hst:yo R)
  (hf:zJ a b m=true→Fn Tryz.prog f ([zi a,zi b,zi m]++caps) R (Is (zi r))) :
  Fn Tryz.prog 85 [.agg #[.func (.func f) #[] caps.toArray],zi a,zi b,zi m] R (Is (.tuple #[zi (okV (zJ a b m) r),.int .i64 (okE (zJ a b m))])):=by
 have hC1:=mP m 1 hm yP;have hC2:=mP a m ha hm;have hC3:=mP b m hb hm
 rcases j6 a b m with ⟨h1,h2,h3,hy,e1,e2,e3⟩|⟨hn,hc⟩
 ·have hF:=hf hy;rw[hy];rw[e1] at hC1;rw[e2] at hC2;rw[e3] at hC3;refine Fn.enter Tryz.func85 rfl rfl rfl ?_;intro w hw
  repeat (first|refine Tw ?_|(refine Tm ?_;intro _)|exact Tz)
  refine WC.adraw 16 (k:=?_)
  repeat (first|refine Da ?_|refine DQ.acall (hc:=vZ) (k:=?_)|refine DQ.acall (hc:=hC1) (k:=?_)|refine DQ.acall (hc:=hC2) (k:=?_)|refine DQ.acall (hc:=hC3) (k:=?_)|refine Dc ?_)
  refine DQ.anil (k:=?_);intro sx _
  repeat (first|refine Ta ?_|(refine Tm ?_;intro _)|refine WO.acallV (hc:=hF) (hR:=fun w' hm=>hst _ _ hw hm.mod.below) (k:=?_)|refine Tc ?_|exact Tz)
 ·rw[hn]
  rcases hc with (e1|e1)|⟨e1,e2|e2⟩|⟨e1,e2,e3|e3⟩
  ·rw[e1] at hC1;refine Fn.enter Tryz.func85 rfl rfl rfl ?_;intro w hw
   repeat (first|refine Tw ?_|(refine Tm ?_;intro _)|exact Tz)
   refine WC.adraw 16 (k:=?_)
   repeat (first|refine Da ?_|refine DQ.acall (hc:=vZ) (k:=?_)|refine DQ.acall (hc:=hC1) (k:=?_)|refine DQ.acall (hc:=hC2) (k:=?_)|refine DQ.acall (hc:=hC3) (k:=?_)|refine Dc ?_)
   refine DQ.anil (k:=?_);intro sx _
   repeat (first|refine Tw ?_|(refine Tm ?_;intro _)|exact Tz)
  ·rw[e1] at hC1;refine Fn.enter Tryz.func85 rfl rfl rfl ?_;intro w hw
   repeat (first|refine Tw ?_|(refine Tm ?_;intro _)|exact Tz)
   refine WC.adraw 16 (k:=?_)
   repeat (first|refine Da ?_|refine DQ.acall (hc:=vZ) (k:=?_)|refine DQ.acall (hc:=hC1) (k:=?_)|refine DQ.acall (hc:=hC2) (k:=?_)|refine DQ.acall (hc:=hC3) (k:=?_)|refine Dc ?_)
   refine DQ.anil (k:=?_);intro sx _
   repeat (first|refine Tw ?_|(refine Tm ?_;intro _)|exact Tz)
  ·rw[e1] at hC1;rw[e2] at hC2;refine Fn.enter Tryz.func85 rfl rfl rfl ?_;intro w hw
   repeat (first|refine Tw ?_|(refine Tm ?_;intro _)|exact Tz)
   refine WC.adraw 16 (k:=?_)
   repeat (first|refine Da ?_|refine DQ.acall (hc:=vZ) (k:=?_)|refine DQ.acall (hc:=hC1) (k:=?_)|refine DQ.acall (hc:=hC2) (k:=?_)|refine DQ.acall (hc:=hC3) (k:=?_)|refine Dc ?_)
   refine DQ.anil (k:=?_);intro sx _
   repeat (first|refine Tw ?_|(refine Tm ?_;intro _)|exact Tz)
  ·rw[e1] at hC1;rw[e2] at hC2;refine Fn.enter Tryz.func85 rfl rfl rfl ?_;intro w hw
   repeat (first|refine Tw ?_|(refine Tm ?_;intro _)|exact Tz)
   refine WC.adraw 16 (k:=?_)
   repeat (first|refine Da ?_|refine DQ.acall (hc:=vZ) (k:=?_)|refine DQ.acall (hc:=hC1) (k:=?_)|refine DQ.acall (hc:=hC2) (k:=?_)|refine DQ.acall (hc:=hC3) (k:=?_)|refine Dc ?_)
   refine DQ.anil (k:=?_);intro sx _
   repeat (first|refine Tw ?_|(refine Tm ?_;intro _)|exact Tz)
  ·rw[e1] at hC1;rw[e2] at hC2;rw[e3] at hC3;refine Fn.enter Tryz.func85 rfl rfl rfl ?_;intro w hw
   repeat (first|refine Tw ?_|(refine Tm ?_;intro _)|exact Tz)
   refine WC.adraw 16 (k:=?_)
   repeat (first|refine Da ?_|refine DQ.acall (hc:=vZ) (k:=?_)|refine DQ.acall (hc:=hC1) (k:=?_)|refine DQ.acall (hc:=hC2) (k:=?_)|refine DQ.acall (hc:=hC3) (k:=?_)|refine Dc ?_)
   refine DQ.anil (k:=?_);intro sx _
   repeat (first|refine Tw ?_|(refine Tm ?_;intro _)|exact Tz)
  ·rw[e1] at hC1;rw[e2] at hC2;rw[e3] at hC3;refine Fn.enter Tryz.func85 rfl rfl rfl ?_;intro w hw
   repeat (first|refine Tw ?_|(refine Tm ?_;intro _)|exact Tz)
   refine WC.adraw 16 (k:=?_)
   repeat (first|refine Da ?_|refine DQ.acall (hc:=vZ) (k:=?_)|refine DQ.acall (hc:=hC1) (k:=?_)|refine DQ.acall (hc:=hC2) (k:=?_)|refine DQ.acall (hc:=hC3) (k:=?_)|refine Dc ?_)
   refine DQ.anil (k:=?_);intro sx _
   repeat (first|refine Tw ?_|(refine Tm ?_;intro _)|exact Tz)
theorem zL {a b m:Nat} (h:zJ a b m=true):1<m∧a<m∧b<m:=by
 unfold zJ at h;simp at h;exact⟨h.1.1,h.1.2,h.2⟩
abbrev rE (c:Bool) (r:Nat):Value:=.tuple #[zi (okV c r),.int .i64 (okE c)]
theorem adS (a b m:Nat) (ha:a<zd) (hb:b<zd) (hm:m<zd):Fn Tryz.prog 129 [zi a,zi b,zi m] Tr (Is (rE (zJ a b m) ((a+b)%m))):=by
 have hO:=acU (f:=156) [] a b m ((a+b)%m) ha hb hm Tr yo.tr (fun h=>ac0 a b m (zL h).2.1 (zL h).2.2 hm);refine Fn.enter Tryz.func129 rfl rfl rfl ?_;intro w hw
 repeat (first|refine Ta ?_|(refine Tm ?_;intro _)|refine WO.acall (hc:=hO) (k:=?_)|refine Tc ?_|exact Tz)
theorem aau (a b m:Nat) (ha:a<zd) (hb:b<zd) (hm:m<zd):Fn Tryz.prog 140 [zi a,zi b,zi m] Tr (Is (rE (zJ a b m) ((a+m - b)%m))):=by
 have hO:=acU (f:=162) [] a b m ((a+m - b)%m) ha hb hm Tr yo.tr (fun h=>ac8 a b m (zL h).2.1 (zL h).2.2 hm);refine Fn.enter Tryz.func140 rfl rfl rfl ?_;intro w hw
 repeat (first|refine Ta ?_|(refine Tm ?_;intro _)|refine WO.acall (hc:=hO) (k:=?_)|refine Tc ?_|exact Tz)
theorem aaI (a b m:Nat) (ha:a<zd) (hb:b<zd) (hm:m<zd):Fn Tryz.prog 128 [zi a,zi b,zi m] Tr (Is (rE (zJ a b m) (a*b%m))):=by
 have hO:=acU (f:=84) [] a b m (a*b%m) ha hb hm Tr yo.tr (fun h=>lw a b m (zL h).2.1 (zL h).2.2 hm);refine Fn.enter Tryz.func128 rfl rfl rfl ?_;intro w hw
 repeat (first|refine Ta ?_|(refine Tm ?_;intro _)|refine WO.acall (hc:=hO) (k:=?_)|refine Tc ?_|exact Tz)
def dt (n N k:Nat):Nat:=n / 2 ^ (N - k)
theorem qG {n N:Nat} (h:n<2 ^ N):dt n N 0=0:=Nat.div_eq_of_lt (by simpa using h)
theorem kb (n N:Nat):dt n N N=n:=by unfold dt;simp
theorem nr (n:Nat) {N k:Nat} (h:k<N):dt n N (k+1)=2*dt n N k+uh n (N - 1 - k):=by
 unfold dt uh;have e:N - k=(N - 1 - k)+1:=by omega
 have e2:N - (k+1)=N - 1 - k:=by omega
 rw[e2,e,Nat.pow_succ,← Nat.div_div_eq_div_mul];omega
theorem oS (a m t b:Nat) (hb:b=0∨b=1):a ^ (2*t+b)%m=if b=1 then (a ^ t%m*(a ^ t%m)%m)*a%m else a ^ t%m*(a ^ t%m)%m:=by
 have h1:a ^ (2*t)%m=a ^ t%m*(a ^ t%m)%m:=by rw[Nat.two_mul,Nat.pow_add,Nat.mul_mod]
 rcases hb with rfl|rfl
 ·simpa using h1
 ·rw[if_pos rfl,Nat.pow_succ,Nat.mul_mod,h1,Nat.mul_mod_mod]
theorem sT (a i:Nat):uh a i=0∨uh a i=1:=by unfold uh;omega
theorem uw (n:Nat):n<2 ^ zF n:=tu n
theorem nN {n:Nat} (h:n<zd):zF n≤256:=y6 (by simpa [zd] using h)
theorem dK {f:Nat} [Cal Tryz.prog f] (caps:List Value) (a n m:Nat) (h1:1<m) (ha:a<m) (hn:n<zd) (hm:m<18446744073709551616) (R:World→Prop) (hst:yo R)
  (hf:∀ x y:Nat,x<m→y<m→Fn Tryz.prog f ([.int .u64 (x:Int),.int .u64 (y:Int)]++caps) R (Is (.int .u64 ((x*y%m:Nat):Int)))) :
  Fn Tryz.prog 79 [.int .u64 (a:Int),.int .u64 1,zi n,.func (.func f) #[] caps.toArray] R (Is (.int .u64 ((a ^ n%m:Nat):Int))):=by
 have hB:=oO n hn;have hlt:=uw n;have hN:=nN hn;have hbit:∀ i:Int,0≤i→i≤1000000→Fn Tryz.prog 116 [zi n,.int .i64 i] Tr (Is (.int .u64 (uh n i.toNat:Nat))):=fun i h0 h1=>adQ n i hn h0 h1;have hend:=kb n (zF n);have hst0:=qG hlt;have hstep:=fun k (h:k<zF n)=>nr n h;generalize zF n=N at *;refine Fn.enter Tryz.func79 rfl rfl rfl ?_;intro w hw
 repeat (first|refine Ta ?_|(refine Tm ?_;intro _)|refine WO.acall (hc:=hB) (k:=?_)|refine Tc ?_|exact Tz)
 rename_i g6;refine WC.loopI (σ:=Nat × Nat) (fun s=>s.1≤N∧s.2=a ^ dt n N s.1%m) (fun s=>[(0,.int .u64 (a:Int)),(3,.func (.func f) #[] caps.toArray),(6,pt g6),(9,.int .u64 (s.2:Int)),(13,.int .i64 (N:Int)),(14,.int .i64 (s.1:Int))]) (fun s=>[⟨g6,24,zb n⟩]) (fun s=>N - s.1) (0,1) (fun s hs=>?_) ⟨Nat.zero_le _,by rw[hst0,Nat.pow_zero,Nat.mod_eq_of_lt h1]⟩;obtain⟨k,x⟩:=s;obtain⟨hk,hx⟩:=hs;dsimp only at hk hx ⊢;have hxm:x<m:=by rw[hx];exact Nat.mod_lt _ (by omega)
 by_cases hlt:(k:Int)<(N:Int)
 ·have hkN:k<N:=by omega
  have hsq:=hf x x hxm hxm;have hma:=hf (x*x%m) a (Nat.mod_lt _ (by omega)) ha;have hbt:=hbit ((N:Int) - 1 - (k:Int)) (by omega) (by omega);rw[show ((N:Int) - 1 - (k:Int)).toNat=N - 1 - k by omega] at hbt;have hp:=oS a m (dt n N k) (uh n (N - 1 - k)) (sT _ _);rw[← hstep k hkN,← hx] at hp
  repeat (first|refine Tw ?_|(refine Tm ?_;intro _)|exact Tz)
  refine WC.dT rfl hlt ?_
  repeat (first|refine Ta ?_|(refine Tm ?_;intro _)|refine WO.acallV (hc:=hsq) (hR:=fun w' hm=>hst _ _ hw hm.mod.below) (k:=?_)|refine Tc ?_|exact Tz)
  rcases sT n (N - 1 - k) with e|e
  ·rw[e] at hbt hp;refine WC.adraw 8 (k:=?_)
   repeat (first|refine Da ?_|refine DQ.acall (hc:=hB) (k:=?_)|refine DQ.acall (hc:=hbt) (k:=?_)|refine Dc ?_)
   refine DQ.anil (k:=?_);intro sx _
   repeat (first|refine Tw ?_|(refine Tm ?_;intro _)|exact Tz)
   refine WX.metI (k+1,x*x%m) (hs:=⟨⟨by omega,by simpa using hp.symm⟩,by simp only;omega⟩)
  ·rw[e] at hbt hp;refine WC.adraw 8 (k:=?_)
   repeat (first|refine Da ?_|refine DQ.acall (hc:=hB) (k:=?_)|refine DQ.acall (hc:=hbt) (k:=?_)|refine Dc ?_)
   refine DQ.anil (k:=?_);intro sx _
   repeat (first|refine Ta ?_|(refine Tm ?_;intro _)|refine WO.acallV (hc:=hma) (hR:=fun w' hm=>hst _ _ hw hm.mod.below) (k:=?_)|refine Tc ?_|exact Tz)
   refine WX.metI (k+1,x*x%m*a%m) (hs:=⟨⟨by omega,by simpa using hp.symm⟩,by simp only;omega⟩)
 ·have hkN:k=N:=by omega
  subst hkN;rw[hend] at hx;subst hx
  repeat (first|refine Tw ?_|(refine Tm ?_;intro _)|exact Tz)
  refine WC.dF rfl hlt ?_
  repeat (first|refine Tw ?_|(refine Tm ?_;intro _)|exact Tz)
end Sx
end
section
open Go Go.RowKit
namespace Sx
attribute [local irreducible] DQ DQS WC WO WX
theorem bn {f:Nat} [Cal Tryz.prog f] (caps:List Value) (a n m:Nat) (h1:1<m) (ha:a<m) (hn:n<zd) (R:World→Prop) (hst:yo R)
  (hf:∀ x y:Nat,x<m→y<m→Fn Tryz.prog f ([zi x,zi y]++caps) R (Is (zi (x*y%m)))) :
  Fn Tryz.prog 82 [zi a,zi 1,zi n,.func (.func f) #[] caps.toArray] R (Is (zi (a ^ n%m))):=by
 have hB:=oO n hn;have hlt:=uw n;have hN:=nN hn;have hbit:∀ i:Int,0≤i→i≤1000000→Fn Tryz.prog 116 [zi n,.int .i64 i] Tr (Is (.int .u64 (uh n i.toNat:Nat))):=fun i h0 h1=>adQ n i hn h0 h1;have hend:=kb n (zF n);have hst0:=qG hlt;have hstep:=fun k (h:k<zF n)=>nr n h;generalize zF n=N at *;refine Fn.enter Tryz.func82 rfl rfl rfl ?_;intro w hw
 repeat (first|refine Ta ?_|(refine Tm ?_;intro _)|refine WO.acall (hc:=hB) (k:=?_)|refine Tc ?_|exact Tz)
 rename_i g4 g5 g6 g8 g9
 refine WC.loopI (σ:=Nat × Nat) (fun s=>s.1≤N∧s.2=a ^ dt n N s.1%m) (fun s=>[(3,.func (.func f) #[] caps.toArray),(4,pt g4),(6,pt g6),(8,pt g8),(9,pt g9),(13,.int .i64 (N:Int)),(14,.int .i64 (s.1:Int))])
  (fun s=>[⟨g4,24,zb a⟩,⟨g6,24,zb n⟩,⟨g8,24,zb 0⟩,⟨g9,24,zb s.2⟩]) (fun s=>N - s.1) (0,1) (fun s hs=>?_) ⟨Nat.zero_le _,by rw[hst0,Nat.pow_zero,Nat.mod_eq_of_lt h1]⟩
 obtain⟨k,x⟩:=s;obtain⟨hk,hx⟩:=hs;dsimp only at hk hx ⊢;have hxm:x<m:=by rw[hx];exact Nat.mod_lt _ (by omega)
 by_cases hlt:(k:Int)<(N:Int)
 ·have hkN:k<N:=by omega
  have hsq:=hf x x hxm hxm;have hma:=hf (x*x%m) a (Nat.mod_lt _ (by omega)) ha;have hbt:=hbit ((N:Int) - 1 - (k:Int)) (by omega) (by omega);rw[show ((N:Int) - 1 - (k:Int)).toNat=N - 1 - k by omega] at hbt;have hp:=oS a m (dt n N k) (uh n (N - 1 - k)) (sT _ _);rw[← hstep k hkN,← hx] at hp
  repeat (first|refine Tw ?_|(refine Tm ?_;intro _)|exact Tz)
  refine WC.dT rfl hlt ?_
  repeat (first|refine Ta ?_|(refine Tm ?_;intro _)|refine WO.acallV (hc:=hsq) (hR:=fun w' hm=>hst _ _ hw hm.mod.below) (k:=?_)|refine Tc ?_|exact Tz)
  rcases sT n (N - 1 - k) with e|e
  ·rw[e] at hbt hp;refine WC.adraw 8 (k:=?_)
   repeat (first|refine Da ?_|refine DQ.acall (hc:=hB) (k:=?_)|refine DQ.acall (hc:=hbt) (k:=?_)|refine Dc ?_)
   refine DQ.anil (k:=?_);intro sx _
   repeat (first|refine Tw ?_|(refine Tm ?_;intro _)|exact Tz)
   refine WX.metI (k+1,x*x%m) (hs:=⟨⟨by omega,by simpa using hp.symm⟩,by simp only;omega⟩)
  ·rw[e] at hbt hp;refine WC.adraw 8 (k:=?_)
   repeat (first|refine Da ?_|refine DQ.acall (hc:=hB) (k:=?_)|refine DQ.acall (hc:=hbt) (k:=?_)|refine Dc ?_)
   refine DQ.anil (k:=?_);intro sx _
   repeat (first|refine Ta ?_|(refine Tm ?_;intro _)|refine WO.acallV (hc:=hma) (hR:=fun w' hm=>hst _ _ hw hm.mod.below) (k:=?_)|refine Tc ?_|exact Tz)
   refine WX.metI (k+1,x*x%m*a%m) (hs:=⟨⟨by omega,by simpa using hp.symm⟩,by simp only;omega⟩)
 ·have hkN:k=N:=by omega
  subst hkN;rw[hend] at hx;subst hx
  repeat (first|refine Tw ?_|(refine Tm ?_;intro _)|exact Tz)
  refine WC.dF rfl hlt ?_
  repeat (first|refine Tw ?_|(refine Tm ?_;intro _)|exact Tz)
theorem acm (a b m g:Nat) (ha:a<m) (hb:b<m) (hm:m<18446744073709551616):Fn Tryz.prog 80 [.int .u64 (a:Int),.int .u64 (b:Int),pt g] (fun w=>Seg w g 0 (zb m)) (Is (.int .u64 ((a*b%m:Nat):Int))):=by
 have hW:=acT a b m ha hb hm;have e:wd 0 m=m:=Nat.mod_eq_of_lt hm;rw[← e] at hW;refine Fn.enter Tryz.func80 rfl rfl rfl ?_;intro w hw;rw[← e]
 repeat (first|refine Ta ?_|(refine Tm ?_;intro _)|refine WO.acall (hc:=hW) (k:=?_)|refine Tc ?_|exact Tz)
theorem abl (a b m g:Nat) (ha:a<m) (hb:b<m) (hm:m<zd):Fn Tryz.prog 83 [zi a,zi b,pt g] (fun w=>Seg w g 0 (zb m)) (Is (zi (a*b%m))):=by
 have hW:=lw a b m ha hb hm;refine Fn.enter Tryz.func83 rfl rfl rfl ?_;intro w hw
 repeat (first|refine Ta ?_|(refine Tm ?_;intro _)|refine WO.acall (hc:=hW) (k:=?_)|refine Tc ?_|exact Tz)
theorem ado (a n m g:Nat) (h1:1<m) (ha:a<m) (hm:m<zd) (hn:n<zd):Fn Tryz.prog 77 [zi a,zi a,zi m,pt g] (fun w=>Seg w g 0 (zb n)) (Is (zi (a ^ n%m))):=by
 have hB:=oO m hm
 by_cases hs:m<18446744073709551616
 ·have hle:((zF m:Nat):Int)≤64:=by have:zF m≤64:=y6 (by simpa using hs);omega
  have ea:wd 0 a=a:=Nat.mod_eq_of_lt (by omega)
  have hP:∀ g,Fn Tryz.prog 79 [.int .u64 ((wd 0 a:Nat):Int),.int .u64 1,zi n,.func (.func 80) #[] #[pt g]] (fun w=>Seg w g 0 (zb m)) (Is (.int .u64 ((a ^ n%m:Nat):Int))) :=
   fun g=>by rw[ea];exact dK [pt g] a n m h1 ha hn hs _ yo.seg (fun x y hx hy=>acm x y m g hx hy hs)
  have hO:=ci (a ^ n%m) (Nat.lt_trans (Nat.mod_lt _ (by omega)) hs);generalize zF m=N at *;refine Fn.enter Tryz.func77 rfl rfl rfl ?_;intro w hw
  repeat (first|refine Ta ?_|(refine Tm ?_;intro _)|refine WO.acall (hc:=hB) (k:=?_)|refine Tc ?_|exact Tz)
  refine WC.dT rfl hle ?_
  repeat (first|refine Ta ?_|(refine Tm ?_;intro _)|refine WO.acall (hc:=hO) (k:=?_)|refine WO.acallR (hc:=hP _) (hR:=fun w' hm=>Hs.sg hm) (k:=?_)|refine Tc ?_|exact Tz)
 ·have hle:¬ ((zF m:Nat):Int)≤64:=by
   intro h;have:zF m≤64:=by omega
   rw[yK] at this;exact hs (by simpa using this)
  have hP:∀ g,Fn Tryz.prog 82 [zi a,zi 1,zi n,.func (.func 83) #[] #[pt g]] (fun w=>Seg w g 0 (zb m)) (Is (zi (a ^ n%m))) :=
   fun g=>bn [pt g] a n m h1 ha hn _ yo.seg (fun x y hx hy=>abl x y m g hx hy hm)
  generalize zF m=N at *;refine Fn.enter Tryz.func77 rfl rfl rfl ?_;intro w hw
  repeat (first|refine Ta ?_|(refine Tm ?_;intro _)|refine WO.acall (hc:=hB) (k:=?_)|refine Tc ?_|exact Tz)
  refine WC.dF rfl hle ?_
  repeat (first|refine Tw ?_|(refine Tm ?_;intro _)|exact Tz)
  refine WC.adraw 5 (k:=?_)
  repeat (first|refine Da ?_|refine DQ.acall (hc:=vZ) (k:=?_)|refine DQ.acallR (hc:=hP _) (hR:=fun w' hm=>Hs.sg hm) (k:=?_)|refine Dc ?_)
  refine DQ.anil (k:=?_);intro sx _
  repeat (first|refine Tw ?_|(refine Tm ?_;intro _)|exact Tz)
theorem ad2 (a n m:Nat) (ha:a<zd) (hn:n<zd) (hm:m<zd):Fn Tryz.prog 36 [zi a,zi n,zi m] Tr (Is (rE (zJ a a m) (a ^ n%m))):=by
 have hO:=fun g=>acU (f:=77) [pt g] a a m (a ^ n%m) ha ha hm _ yo.seg (fun h=>ado a n m g (zL h).1 (zL h).2.1 hm hn);refine Fn.enter Tryz.func36 rfl rfl rfl ?_;intro w hw
 repeat (first|refine Ta ?_|(refine Tm ?_;intro _)|refine WO.acallR (hc:=hO _) (hR:=fun w' hm=>Hs.sg hm) (k:=?_)|refine Tc ?_|exact Tz)
end Sx
end
section
namespace Sx
def iD (m r s x y:Nat):Nat:=if h:s≤1 then y else iD m s (r%s) y ((x+m - r / s*y%m)%m)
termination_by s
decreasing_by exact Nat.mod_lt _ (by omega)
def uS (a m:Nat):Nat:=if Nat.gcd a m=1 then iD m m a 0 1 else 0
theorem mW {a b m:Int} (h:m ∣ a - b):a%m=b%m:=by
 obtain⟨c,hc⟩:=h;have:a=b+m*c:=by omega
 rw[this,Int.add_mul_emod_self_left]
theorem lE {a b m:Int} (h:a%m=b%m):m ∣ a - b:=Int.dvd_of_emod_eq_zero (by rw[Int.sub_emod,h,Int.sub_self,Int.zero_emod])
theorem jp {a b m:Nat} (h:(m:Int) ∣ (a:Int) - (b:Int)):a%m=b%m:=by
 have:=mW h;rw[← Int.natCast_emod,← Int.natCast_emod] at this;exact Int.ofNat.inj this
theorem qM {a b m:Nat} (h:a%m=b%m):(m:Int) ∣ (a:Int) - (b:Int):=by
 apply lE;rw[← Int.natCast_emod,← Int.natCast_emod,h]
theorem ap {a m r s x y:Nat} (hm:0<m) (h1:x*a%m=r%m) (h2:y*a%m=s%m):(x+m - r / s*y%m)%m*a%m=r%s%m:=by
 have ht:r / s*y%m<m:=Nat.mod_lt _ hm;have e1:r=s*(r / s)+r%s:=(Nat.div_add_mod r s).symm;have e2:r / s*y=m*(r / s*y / m)+r / s*y%m:=(Nat.div_add_mod _ m).symm;have e3:x+m - r / s*y%m=m*((x+m - r / s*y%m) / m)+(x+m - r / s*y%m)%m:=(Nat.div_add_mod _ m).symm;have d1:=qM h1;have d2:=qM h2;apply jp;generalize hz:(x+m - r / s*y%m)%m=z at *;generalize (x+m - r / s*y%m) / m=k at *;generalize hu:r / s*y%m=u at *;generalize r / s*y / m=l at *;generalize r / s=q at *;generalize r%s=p at *;obtain⟨c1,hc1⟩:=d1;obtain⟨c2,hc2⟩:=d2;have f3:(x:Int)+m - u=m*k+z:=by
  have:((x+m - u:Nat):Int)=((m*k+z:Nat):Int):=by rw[e3]
  rw[Int.ofNat_sub (by omega)] at this;push_cast at this;exact this
 have f2:(q:Int)*y=m*l+u:=by exact_mod_cast e2
 have f1:(r:Int)=s*q+p:=by exact_mod_cast e1
 push_cast at hc1 hc2 ⊢;refine⟨c1 - q*c2+a - k*a+l*a,?_⟩;have hz' : (z:Int)=x+m - (q*y - m*l) - m*k:=by omega
 have:(z:Int)*a - p=(x*a - r) - q*(y*a - s)+m*a+m*(l*a) - m*(k*a):=by
  rw[hz',f1];simp only[Int.sub_mul,Int.add_mul,Int.mul_sub,Int.mul_add,Int.mul_assoc,Int.mul_comm,Int.mul_left_comm];omega
 rw[this,hc1,hc2];simp only[Int.sub_mul,Int.add_mul,Int.mul_sub,Int.mul_add,Int.mul_assoc,Int.mul_comm,Int.mul_left_comm];omega
theorem kw {m r x y:Nat}:iD m r 1 x y=y:=by unfold iD;simp
theorem oQ {m r s x y:Nat} (h:1<s):iD m r s x y=iD m s (r%s) y ((x+m - r / s*y%m)%m):=by
 rw[iD];rw[dif_neg (by omega)]
theorem lK {r s:Nat} (hs:1<s) (hg:Nat.gcd r s=1):0<r%s:=by
 rcases Nat.eq_zero_or_pos (r%s) with h|h
 ·exfalso;have h1:s ∣ r:=Nat.dvd_of_mod_eq_zero h;have:Nat.gcd r s=s:=Nat.gcd_eq_right h1;omega
 ·exact h
theorem kx {r s:Nat} (hg:Nat.gcd r s=1):Nat.gcd s (r%s)=1:=by
 rw[Nat.gcd_comm s,← Nat.gcd_rec,Nat.gcd_comm];exact hg
theorem eT (m a:Nat) (hm:1<m):∀ (s r x y:Nat),0<s→Nat.gcd r s=1→x*a%m=r%m→y*a%m=s%m→y<m→iD m r s x y*a%m=1∧iD m r s x y<m:=by
 intro s
 induction s using Nat.strongRecOn with
 | _ s ih =>
  intro r x y hs hg h1 h2 hy
  by_cases e:s=1
  ·subst e;rw[kw,h2,Nat.mod_eq_of_lt hm];exact⟨rfl,hy⟩
  ·rw[oQ (by omega)];exact ih (r%s) (Nat.mod_lt _ hs) s y _ (lK (by omega) hg) (kx hg) h2 (ap (by omega) h1 h2) (Nat.mod_lt _ (by omega))
theorem rT {m a:Nat} (hm:1<m) (ha:a<m) (hg:Nat.gcd a m=1):uS a m*a%m=1∧uS a m<m:=by
 unfold uS;rw[if_pos hg];have h0:0<a:=by
  rcases Nat.eq_zero_or_pos a with h|h
  ·subst h;rw[Nat.gcd_zero_left] at hg;omega
  ·exact h
 exact eT m a hm a m 0 1 h0 (by rw[Nat.gcd_comm];exact hg) (by simp) (by simp) hm
theorem abf {m a:Nat} (hm:1<m) (ha:a<m) (hg:Nat.gcd a m=1):uS a m≠0:=by
 intro h;have:=(rT hm ha hg).1;rw[h] at this;simp at this
theorem mC {m a:Nat} (hg:Nat.gcd a m≠1):uS a m=0:=by unfold uS;rw[if_neg hg]
def iE (a m:Nat):Int:=if zJ a a m then (if Nat.gcd a m=1 then 0 else 7) else 1
end Sx
end
section
open Go Go.RowKit
namespace Sx
attribute [local irreducible] DQ DQS WC WO WX wd
theorem aeN {r s m:Nat} (hs:1<s) (hr:r≤m) (hm:1<m):r / s<m:=Nat.lt_of_le_of_lt (Nat.div_le_div_right hr) (Nat.div_lt_self (by omega) hs)
theorem ade (a m:Nat) (h1:1<m) (ha:a<m) (hm:m<zd):Fn Tryz.prog 171 [zi a,zi a,zi m] Tr (Is (zi (uS a m))):=by
 have haB:a<zd:=by omega
 have hG:=ad a m haB hm;have hgB:Nat.gcd a m<zd:=Nat.lt_of_le_of_lt (Nat.gcd_le_right _ (by omega)) hm
 by_cases hg:Nat.gcd a m=1
 ·have hne:¬ (Nat.gcd a m≠1):=fun h=>h hg;have hinv:uS a m=iD m m a 0 1:=by unfold uS;rw[if_pos hg]
  have h0:0<a:=by
   rcases Nat.eq_zero_or_pos a with h|h
   ·subst h;rw[Nat.gcd_zero_left] at hg;omega
   ·exact h
  have hgm:Nat.gcd m a=1:=by rw[Nat.gcd_comm];exact hg
  rw[hinv];refine Fn.enter Tryz.func171 rfl rfl rfl ?_;intro w hw
  repeat (first|refine Ta ?_|(refine Tm ?_;intro _)|refine WO.acall (hc:=hG) (k:=?_)|refine WO.acall (hc:=vZ) (k:=?_)|refine Tc ?_|exact Tz)
  refine WC.dF rfl hne ?_
  repeat (first|refine Tw ?_|(refine Tm ?_;intro _)|exact Tz)
  rename_i g3 g4 g5 g6;refine WC.adrawS [1] [(1,[⟨g3,24,zb a⟩])] 8 (k:=?_)
  repeat (first|refine DQS.skip ?_|refine DQS.autoM (k:=?_)|refine DQS.acall (hc:=vZ) (k:=?_)|refine DQS.acall (hc:=nL) (k:=?_)|refine DQS.autoH (k:=?_)|refine DQS.auto (k:=?_)|refine DQS.autoF (k:=?_)|refine DQS.does (fun s _=>yq) Dp.const ?_|refine DQS.does (fun s _=>vw) Dp.const ?_)
  refine DQS.anil (k:=?_);intro sx _
  repeat (first|refine WOS.autoS (kk:=?_)|refine WOS.auto (kk:=?_))
  refine WOS.nil ?_;refine WX.noPanic ?_;generalize sx 4 0=g7;generalize sx 5 0=g8;generalize sx 6 0=g9;generalize sx 7 0=g10
  repeat (first|refine Tw ?_|(refine Tm ?_;intro _)|exact Tz)
  refine WC.loopI (σ:=Nat × Nat × Nat × Nat) (fun s=>0<s.2.1∧s.2.1<s.1∧s.1≤m∧Nat.gcd s.1 s.2.1=1∧s.2.2.1<m∧s.2.2.2<m∧iD m s.1 s.2.1 s.2.2.1 s.2.2.2=iD m m a 0 1)
   (fun s=>[(5,pt g5),(6,pt g6),(7,pt g7),(8,pt g8),(9,pt g9),(10,pt g10)])
   (fun s=>[⟨g5,24,zb m⟩,⟨g6,24,zb 0⟩,⟨g7,24,zb s.1⟩,⟨g8,24,zb s.2.1⟩,⟨g9,24,zb s.2.2.1⟩,⟨g10,24,zb s.2.2.2⟩]) (fun s=>s.2.1) (m,a,0,1) (fun s hs=>?_) ⟨h0,ha,Nat.le_refl _,hgm,by show 0<m;omega,h1,rfl⟩
  obtain⟨r,s,x,y⟩:=s;obtain⟨hs0,hsr,hrm,hgc,hx,hy,heq⟩:=hs;dsimp only at hs0 hsr hrm hgc hx hy heq ⊢;have hsB:s<zd:=by omega
  by_cases hs1:s=1
  ·have hno:¬ (s≠1):=fun h=>h hs1;subst hs1;rw[kw] at heq;rw[← heq]
   repeat (first|refine Tw ?_|(refine Tm ?_;intro _)|exact Tz)
   refine WC.adraw 3 (k:=?_)
   repeat (first|refine Da ?_|refine DQ.acall (hc:=vZ) (k:=?_)|refine Dc ?_)
   refine DQ.anil (k:=?_);intro sx _
   repeat (first|refine Tw ?_|(refine Tm ?_;intro _)|exact Tz)
  ·have hD:=aer r s (by omega) hsB hs0;have hq:=aeN (r:=r) (s:=s) (m:=m) (by omega) hrm h1;have hT:=lw (r / s) y m hq hy hm;have hS:=aau x (r / s*y%m) m (by omega) (Nat.lt_trans (Nat.mod_lt _ (by omega)) hm) hm;have hmay:zJ x (r / s*y%m) m=true:=by unfold zJ;simp[h1,hx,Nat.mod_lt _ (show 0<m by omega)]
   rw[hmay] at hS;have hnext:=oQ (m:=m) (r:=r) (x:=x) (y:=y) (show 1<s by omega);have hpos:=lK (show 1<s by omega) hgc;have hlt:=Nat.mod_lt r hs0;have hgn:=kx hgc;have hz:(x+m - r / s*y%m)%m<m:=Nat.mod_lt _ (by omega);rw[heq] at hnext;generalize (x+m - r / s*y%m)%m=z at *;generalize r / s*y%m=u at *;generalize r / s=q at *;generalize r%s=p at *
   repeat (first|refine Tw ?_|(refine Tm ?_;intro _)|exact Tz)
   refine WC.adraw 3 (k:=?_)
   repeat (first|refine Da ?_|refine DQ.acall (hc:=vZ) (k:=?_)|refine Dc ?_)
   refine DQ.anil (k:=?_);intro sx _
   repeat (first|refine Tw ?_|(refine Tm ?_;intro _)|exact Tz)
   refine WC.dT rfl hs1 ?_
   repeat (first|refine Ta ?_|(refine Tm ?_;intro _)|refine WO.acall (hc:=hD) (k:=?_)|refine Tc ?_|exact Tz)
   rename_i g11 g12;refine WC.adrawF [9] 11 (k:=?_)
   repeat (first|refine Da ?_|refine DQ.acall (hc:=hT) (k:=?_)|refine DQ.acall (hc:=hS) (k:=?_)|refine Df ?_)
   refine DQ.anil (k:=?_);intro sx _
   repeat (first|refine Tw ?_|(refine Tm ?_;intro _)|exact Tz)
   generalize sx 10 0=g14;refine WC.adrawS [1,2,3] [(1,[⟨g12,24,zb p⟩]),(2,[⟨g10,24,zb y⟩]),(3,[⟨g14,24,zb z⟩])] 4 (k:=?_)
   repeat (first|refine DQS.skip ?_|refine DQS.autoM (k:=?_)|refine DQS.autoH (k:=?_)|refine DQS.auto (k:=?_)|refine DQS.autoF (k:=?_)|refine DQS.does (fun s _=>yq) Dp.const ?_|refine DQS.does (fun s _=>vw) Dp.const ?_)
   refine DQS.anil (k:=?_);intro sx _
   repeat (first|refine WOS.autoS (kk:=?_)|refine WOS.auto (kk:=?_))
   refine WOS.nil ?_;refine WX.noPanic ?_
   repeat (first|refine Tw ?_|(refine Tm ?_;intro _)|exact Tz)
   refine WX.metI (s,p,y,z) (hs:=⟨⟨hpos,hlt,by omega,hgn,hy,hz,hnext.symm⟩,hlt⟩)
 ·have hinv:uS a m=0:=mC hg;rw[hinv];refine Fn.enter Tryz.func171 rfl rfl rfl ?_;intro w hw
  repeat (first|refine Ta ?_|(refine Tm ?_;intro _)|refine WO.acall (hc:=hG) (k:=?_)|refine WO.acall (hc:=vZ) (k:=?_)|refine Tc ?_|exact Tz)
  refine WC.dT rfl hg ?_
  repeat (first|refine Tw ?_|(refine Tm ?_;intro _)|exact Tz)
theorem gk {a m:Nat} (h1:1<m) (ha:a<m):uS a m<m:=by
 by_cases hg:Nat.gcd a m=1
 ·exact (rT h1 ha hg).2
 ·rw[mC hg];omega
theorem aeu (a m:Nat) (ha:a<zd) (hm:m<zd):Fn Tryz.prog 164 [zi a,zi m] Tr (Is (.tuple #[zi (okV (zJ a a m) (uS a m)),.int .i64 (iE a m)])):=by
 have hO:=acU (f:=171) [] a a m (uS a m) ha ha hm Tr yo.tr (fun h=>ade a m (zL h).1 (zL h).2.1 hm);cases hy:zJ a a m with
 | false =>
  have he:iE a m=1:=by unfold iE;rw[hy];rfl
  rw[hy] at hO;rw[he];refine Fn.enter Tryz.func164 rfl rfl rfl ?_;intro w hw
  repeat (first|refine Ta ?_|(refine Tm ?_;intro _)|refine WO.acall (hc:=hO) (k:=?_)|refine Tc ?_|exact Tz)
  refine WC.adraw 7 (k:=?_)
  repeat (first|refine Da ?_|refine DQ.acall (hc:=nL) (k:=?_)|refine Dc ?_)
  refine DQ.anil (k:=?_);intro sx _
  repeat (first|refine Tw ?_|(refine Tm ?_;intro _)|exact Tz)
 | true =>
  obtain⟨h1,h2,_⟩:=zL hy;have hB:uS a m<zd:=Nat.lt_trans (gk h1 h2) hm;rw[hy] at hO
  by_cases hg:Nat.gcd a m=1
  ·have he:iE a m=0:=by unfold iE;rw[hy,if_pos hg];rfl
   have hz:¬ uS a m=0:=abf h1 h2 hg;rw[he];generalize uS a m=v at *;refine Fn.enter Tryz.func164 rfl rfl rfl ?_;intro w hw
   repeat (first|refine Ta ?_|(refine Tm ?_;intro _)|refine WO.acall (hc:=hO) (k:=?_)|refine Tc ?_|exact Tz)
   refine WC.adraw 7 (k:=?_)
   repeat (first|refine Da ?_|refine DQ.acall (hc:=nL) (k:=?_)|refine Dc ?_)
   refine DQ.anil (k:=?_);intro sx _
   repeat (first|refine Tw ?_|(refine Tm ?_;intro _)|exact Tz)
   refine WC.dF rfl hz ?_
   repeat (first|refine Tw ?_|(refine Tm ?_;intro _)|exact Tz)
  ·have he:iE a m=7:=by unfold iE;rw[hy,if_neg hg];rfl
   rw[he];rw[mC hg] at hO ⊢;refine Fn.enter Tryz.func164 rfl rfl rfl ?_;intro w hw
   repeat (first|refine Ta ?_|(refine Tm ?_;intro _)|refine WO.acall (hc:=hO) (k:=?_)|refine Tc ?_|exact Tz)
   refine WC.adraw 7 (k:=?_)
   repeat (first|refine Da ?_|refine DQ.acall (hc:=nL) (k:=?_)|refine Dc ?_)
   refine DQ.anil (k:=?_);intro sx _
   repeat (first|refine Tw ?_|(refine Tm ?_;intro _)|exact Tz)
abbrev zP (p q g h:Nat):List Value:=[.int .u64 ((wd 0 p:Nat):Int),.int .u64 ((wd 1 p:Nat):Int),.int .u64 ((wd 2 p:Nat):Int),.int .u64 ((wd 3 p:Nat):Int),.int .u64 ((wd 0 q:Nat):Int),.int .u64 ((wd 1 q:Nat):Int),.int .u64 ((wd 2 q:Nat):Int),.int .u64 ((wd 3 q:Nat):Int),.int .u64 ((wd 0 g:Nat):Int),.int .u64 ((wd 1 g:Nat):Int),.int .u64 ((wd 2 g:Nat):Int),.int .u64 ((wd 3 g:Nat):Int),.int .u64 ((wd 0 h:Nat):Int),.int .u64 ((wd 1 h:Nat):Int),.int .u64 ((wd 2 h:Nat):Int),.int .u64 ((wd 3 h:Nat):Int)]
abbrev yk (p q g h:Nat):Value:=.agg #[.int .u64 ((wd 0 p:Nat):Int),.int .u64 ((wd 1 p:Nat):Int),.int .u64 ((wd 2 p:Nat):Int),.int .u64 ((wd 3 p:Nat):Int),.int .u64 ((wd 0 q:Nat):Int),.int .u64 ((wd 1 q:Nat):Int),.int .u64 ((wd 2 q:Nat):Int),.int .u64 ((wd 3 q:Nat):Int),.int .u64 ((wd 0 g:Nat):Int),.int .u64 ((wd 1 g:Nat):Int),.int .u64 ((wd 2 g:Nat):Int),.int .u64 ((wd 3 g:Nat):Int),.int .u64 ((wd 0 h:Nat):Int),.int .u64 ((wd 1 h:Nat):Int),.int .u64 ((wd 2 h:Nat):Int),.int .u64 ((wd 3 h:Nat):Int)]
def yw (p a:Nat):Bool:=decide (1<p) && decide (a≠0) && decide (a<p)
theorem yM {p a:Nat} (h:yw p a=true):1<p∧a≠0∧a<p:=by
 unfold yw at h;simp at h;exact⟨h.1.1,h.1.2,h.2⟩
theorem ef {p a:Nat} (h:yw p a=true):zJ a a p=true:=by
 obtain⟨h1,_,h3⟩:=yM h;simp[zJ,h1,h3]
section
variable (p q g h:Nat)
theorem nk (a b:Nat) (ha:a<zd) (hb:b<zd) (hq:q<zd):Fn Tryz.prog 97 [yk p q g h,zi a,zi b] Tr (Is (rE (zJ a b q) ((a+b)%q))):=by
 have hO:=adS a b q ha hb hq;refine Fn.enter Tryz.func97 rfl rfl rfl ?_;intro w hw
 repeat (first|refine Td ?_|(refine Tm ?_;intro _)|refine WO.acall (hc:=hO) (k:=?_)|refine Tc ?_|exact Tz)
theorem aah (a b:Nat) (ha:a<zd) (hb:b<zd) (hq:q<zd):Fn Tryz.prog 109 [yk p q g h,zi a,zi b] Tr (Is (rE (zJ a b q) ((a+q - b)%q))):=by
 have hO:=aau a b q ha hb hq;refine Fn.enter Tryz.func109 rfl rfl rfl ?_;intro w hw
 repeat (first|refine Td ?_|(refine Tm ?_;intro _)|refine WO.acall (hc:=hO) (k:=?_)|refine Tc ?_|exact Tz)
theorem kN (a b:Nat) (ha:a<zd) (hb:b<zd) (hq:q<zd):Fn Tryz.prog 96 [yk p q g h,zi a,zi b] Tr (Is (rE (zJ a b q) (a*b%q))):=by
 have hO:=aaI a b q ha hb hq;refine Fn.enter Tryz.func96 rfl rfl rfl ?_;intro w hw
 repeat (first|refine Td ?_|(refine Tm ?_;intro _)|refine WO.acall (hc:=hO) (k:=?_)|refine Tc ?_|exact Tz)
theorem ac4 (a:Nat) (ha:a<zd) (hq:q<zd):Fn Tryz.prog 143 [yk p q g h,zi a] Tr (Is (.tuple #[zi (okV (zJ a a q) (uS a q)),.int .i64 (iE a q)])):=by
 have hO:=aeu a q ha hq;refine Fn.enter Tryz.func143 rfl rfl rfl ?_;intro w hw
 repeat (first|refine Td ?_|(refine Tm ?_;intro _)|refine WO.acall (hc:=hO) (k:=?_)|refine Tc ?_|exact Tz)
theorem abI (a:Nat) (ha:a<zd) (hp:p<zd):Fn Tryz.prog 35 [yk p q g h,zi a] Tr (Is (.bool (yw p a))):=by
 have hC1:=mP p 1 hp yP;have hC2:=mP a p ha hp
 by_cases h1:1<p
 ·rw[mM h1] at hC1
  by_cases h2:a=0
  ·have e:yw p a=false:=by simp[yw,h2]
   rw[e];refine Fn.enter Tryz.func35 rfl rfl rfl ?_;intro w hw
   repeat (first|refine Td ?_|(refine Tm ?_;intro _)|refine Tc ?_|exact Tz)
   refine WC.adraw 18 (k:=?_)
   repeat (first|refine DQ.decT (k:=?_)|refine DQ.decF (k:=?_)|refine Da ?_|refine DQ.acall (hc:=vZ) (k:=?_)|refine DQ.acall (hc:=nL) (k:=?_)|refine DQ.acall (hc:=hC1) (k:=?_)|refine DQ.acall (hc:=hC2) (k:=?_)|refine Dc ?_)
   refine DQ.anil (k:=?_);intro sx _
   repeat (first|refine Td ?_|(refine Tm ?_;intro _)|refine Tc ?_|exact Tz)
  ·by_cases h3:a<p
   ·have e:yw p a=true:=by simp[yw,h1,h2,h3]
    rw[gh h3] at hC2;rw[e];refine Fn.enter Tryz.func35 rfl rfl rfl ?_;intro w hw
    repeat (first|refine Td ?_|(refine Tm ?_;intro _)|refine Tc ?_|exact Tz)
    refine WC.adraw 18 (k:=?_)
    repeat (first|refine DQ.decT (k:=?_)|refine DQ.decF (k:=?_)|refine Da ?_|refine DQ.acall (hc:=vZ) (k:=?_)|refine DQ.acall (hc:=nL) (k:=?_)|refine DQ.acall (hc:=hC1) (k:=?_)|refine DQ.acall (hc:=hC2) (k:=?_)|refine Dc ?_)
    refine DQ.anil (k:=?_);intro sx _
    repeat (first|refine Td ?_|(refine Tm ?_;intro _)|refine Tc ?_|exact Tz)
   ·have e:yw p a=false:=by simp[yw,h3]
    have e2:uE a p=0∨uE a p=1:=by
     rcases Nat.lt_or_ge p a with h4|h4
     ·exact .inr (mM h4)
     ·exact .inl (eE (by omega))
    rw[e]
    rcases e2 with e2|e2
    all_goals
     rw[e2] at hC2;refine Fn.enter Tryz.func35 rfl rfl rfl ?_;intro w hw
     repeat (first|refine Td ?_|(refine Tm ?_;intro _)|refine Tc ?_|exact Tz)
     refine WC.adraw 18 (k:=?_)
     repeat (first|refine DQ.decT (k:=?_)|refine DQ.decF (k:=?_)|refine Da ?_|refine DQ.acall (hc:=vZ) (k:=?_)|refine DQ.acall (hc:=nL) (k:=?_)|refine DQ.acall (hc:=hC1) (k:=?_)|refine DQ.acall (hc:=hC2) (k:=?_)|refine Dc ?_)
     refine DQ.anil (k:=?_);intro sx _
     repeat (first|refine Td ?_|(refine Tm ?_;intro _)|refine Tc ?_|exact Tz)
 ·have e:yw p a=false:=by simp[yw,h1]
  have e2:uE p 1=0∨uE p 1 = -1:=by
   rcases Nat.lt_or_ge p 1 with h4|h4
   ·exact .inr (gh h4)
   ·exact .inl (eE (by omega))
  rw[e]
  rcases e2 with e2|e2
  all_goals
   rw[e2] at hC1;refine Fn.enter Tryz.func35 rfl rfl rfl ?_;intro w hw
   repeat (first|refine Td ?_|(refine Tm ?_;intro _)|refine Tc ?_|exact Tz)
   refine WC.adraw 18 (k:=?_)
   repeat (first|refine DQ.decT (k:=?_)|refine DQ.decF (k:=?_)|refine Da ?_|refine DQ.acall (hc:=vZ) (k:=?_)|refine DQ.acall (hc:=nL) (k:=?_)|refine DQ.acall (hc:=hC1) (k:=?_)|refine DQ.acall (hc:=hC2) (k:=?_)|refine Dc ?_)
   refine DQ.anil (k:=?_);intro sx _
   repeat (first|refine Td ?_|(refine Tm ?_;intro _)|refine Tc ?_|exact Tz)
theorem ub (a n:Nat) (ha:a<zd) (hn:n<zd) (hp:p<zd):Fn Tryz.prog 17 [yk p q g h,zi a,zi n] Tr (Is (rE (yw p a) (a ^ n%p))):=by
 have hM:=abI p q g h a ha hp;cases hy:yw p a with
 | true =>
  have hE:=ad2 a n p ha hn hp;rw[ef hy] at hE;rw[hy] at hM;refine Fn.enter Tryz.func17 rfl rfl rfl ?_;intro w hw
  repeat (first|refine Td ?_|(refine Tm ?_;intro _)|refine WO.acall (hc:=hM) (k:=?_)|refine WO.acall (hc:=hE) (k:=?_)|refine Tc ?_|exact Tz)
 | false =>
  rw[hy] at hM;refine Fn.enter Tryz.func17 rfl rfl rfl ?_;intro w hw
  repeat (first|refine Td ?_|(refine Tm ?_;intro _)|refine WO.acall (hc:=hM) (k:=?_)|refine Tc ?_|exact Tz)
theorem aB (a b:Nat) (ha:a<zd) (hb:b<zd) (hp:p<zd):Fn Tryz.prog 92 [yk p q g h,zi a,zi b] Tr (Is (rE (yw p a && yw p b) (a*b%p))):=by
 have hM1:=abI p q g h a ha hp;have hM2:=abI p q g h b hb hp;cases hy:yw p a with
 | true =>
  rw[hy] at hM1;cases hz:yw p b with
  | true =>
   rw[hz] at hM2;have hE:=aaI a b p ha hb hp;have hm:zJ a b p=true:=by
    obtain⟨h1,_,h3⟩:=yM hy;obtain⟨_,_,h4⟩:=yM hz;simp[zJ,h1,h3,h4]
   rw[hm] at hE;refine Fn.enter Tryz.func92 rfl rfl rfl ?_;intro w hw
   repeat (first|refine Td ?_|(refine Tm ?_;intro _)|refine WO.acall (hc:=hM1) (k:=?_)|refine WO.acall (hc:=hM2) (k:=?_)|refine WO.acall (hc:=hE) (k:=?_)|refine Tc ?_|exact Tz)
  | false =>
   rw[hz] at hM2;refine Fn.enter Tryz.func92 rfl rfl rfl ?_;intro w hw
   repeat (first|refine Td ?_|(refine Tm ?_;intro _)|refine WO.acall (hc:=hM1) (k:=?_)|refine WO.acall (hc:=hM2) (k:=?_)|refine Tc ?_|exact Tz)
 | false =>
  rw[hy] at hM1;refine Fn.enter Tryz.func92 rfl rfl rfl ?_;intro w hw
  repeat (first|refine Td ?_|(refine Tm ?_;intro _)|refine WO.acall (hc:=hM1) (k:=?_)|refine WO.acall (hc:=hM2) (k:=?_)|refine Tc ?_|exact Tz)
def gIn (p q a:Nat):Bool:=yw p a && decide (a ^ q%p=1)
theorem rU (a:Nat) (ha:a<zd) (hp:p<zd) (hq:q<zd):Fn Tryz.prog 54 [yk p q g h,zi a] Tr (Is (.bool (gIn p q a))):=by
 have hE:=ub p q g h a q ha hq hp;cases hy:yw p a with
 | true =>
  rw[hy] at hE;have hB:a ^ q%p<zd:=Nat.lt_trans (Nat.mod_lt _ (by have:=yM hy;omega)) hp;have e:gIn p q a=decide (a ^ q%p=1):=by simp[gIn,hy]
  rw[e];generalize a ^ q%p=v at *;refine Fn.enter Tryz.func54 rfl rfl rfl ?_;intro w hw
  repeat (first|refine Td ?_|(refine Tm ?_;intro _)|refine WO.acall (hc:=hE) (k:=?_)|refine Tc ?_|exact Tz)
  by_cases hv:v=1
  ·rw[decide_eq_true hv];refine WC.adraw 8 (k:=?_)
   repeat (first|refine DQ.decT (k:=?_)|refine DQ.decF (k:=?_)|refine Da ?_|refine DQ.acall (hc:=vZ) (k:=?_)|refine Dc ?_)
   refine DQ.anil (k:=?_);intro sx _
   repeat (first|refine Td ?_|(refine Tm ?_;intro _)|refine Tc ?_|exact Tz)
  ·rw[decide_eq_false hv];refine WC.adraw 8 (k:=?_)
   repeat (first|refine DQ.decT (k:=?_)|refine DQ.decF (k:=?_)|refine Da ?_|refine DQ.acall (hc:=vZ) (k:=?_)|refine Dc ?_)
   refine DQ.anil (k:=?_);intro sx _
   repeat (first|refine Td ?_|(refine Tm ?_;intro _)|refine Tc ?_|exact Tz)
 | false =>
  have e:gIn p q a=false:=by simp[gIn,hy]
  rw[hy] at hE;rw[e];refine Fn.enter Tryz.func54 rfl rfl rfl ?_;intro w hw
  repeat (first|refine Td ?_|(refine Tm ?_;intro _)|refine WO.acall (hc:=hE) (k:=?_)|refine Tc ?_|exact Tz)
  refine WC.adraw 8 (k:=?_)
  repeat (first|refine DQ.decT (k:=?_)|refine DQ.decF (k:=?_)|refine Da ?_|refine DQ.acall (hc:=vZ) (k:=?_)|refine Dc ?_)
  refine DQ.anil (k:=?_);intro sx _
  repeat (first|refine Td ?_|(refine Tm ?_;intro _)|refine Tc ?_|exact Tz)
end
end Sx
end
end Go.Proofs.YteibfbjpkjkejaaGreatDoor
