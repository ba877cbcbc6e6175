/- Part 25 of the proof. -/
import Derived.Test.YtiiefkchpicncaaGreatDoorA12
set_option linter.unusedSimpArgs false
set_option linter.unusedVariables false
set_option maxHeartbeats 8000000
namespace Go.Proofs.YtiiefkchpicncaaGreatDoor
section
open Go Go.RowKit
namespace Sx
attribute [local irreducible] DQ WC WO WX wd
theorem eU {a b:Nat} (h:a<b):uF a b = -1:=by unfold uF;rw[if_neg Om,if_pos h]
theorem lu {a b:Nat} (h:b<a):uF a b=1:=by unfold uF;rw[if_neg Om,if_neg Om]
theorem fm {a b:Nat} (h:a=b):uF a b=0:=by unfold uF;rw[if_pos h]
theorem iC {a b m:Nat} (ha:a<m) (hb:b<m) (hm:m<zd) :
  ((a+b) / zd=0∧bw ((a+b)%zd) m 0=1∧(a+b)%m=(a+b)%zd) ∨
  ((a+b) / zd=1∧(a+b)%m=((a+b)%zd+zd - m)%zd) ∨
  ((a+b) / zd=0∧bw ((a+b)%zd) m 0=0∧(a+b)%m=((a+b)%zd+zd - m)%zd):=by
 by_cases hc:a+b<zd
 ·have e:(a+b)%zd=a+b:=Nat.mod_eq_of_lt hc;rw[e];have e0:(a+b) / zd=0:=Nat.div_eq_of_lt hc
  by_cases h:a+b<m
  ·exact .inl ⟨e0,by simp[bw];omega,Nat.mod_eq_of_lt h⟩
  ·refine .inr (.inr ⟨e0,by simp[bw];omega,?_⟩);rw[Nat.mod_eq_sub_mod Om,Nat.mod_eq_of_lt Om,show a+b+zd - m=(a+b - m)+zd by omega,Nat.add_mod_right,Nat.mod_eq_of_lt Om]
 ·have e:(a+b)%zd=a+b - zd:=by rw[Nat.mod_eq_sub_mod Om,Nat.mod_eq_of_lt Om]
  refine .inr (.inl ⟨?_,?_⟩)
  ·rw[Nat.div_eq_iff zy];omega
  ·rw[e,Nat.mod_eq_sub_mod Om,Nat.mod_eq_of_lt Om,show a+b - zd+zd - m=a+b - m by omega,Nat.mod_eq_of_lt Om]
theorem ii {a b m:Nat} (ha:a<m) (hb:b<m) (hm:m<zd) :
  (bw a b 0=0∧(a+m - b)%m=(a+zd - b)%zd)∨(bw a b 0=1∧(a+m - b)%m=((a+zd - b)%zd+m)%zd):=by
 by_cases h:a<b
 ·refine .inr ⟨by simp[bw];omega,?_⟩;rw[Nat.mod_eq_of_lt (by omega:a+m - b<m),Nat.mod_eq_of_lt (by omega:a+zd - b<zd),show a+zd - b+m=(a+m - b)+zd by omega,Nat.add_mod_right,Nat.mod_eq_of_lt Om]
 ·refine .inl ⟨by simp[bw];omega,?_⟩;rw[show a+m - b=(a - b)+m by omega,Nat.add_mod_right,Nat.mod_eq_of_lt Om,show a+zd - b=(a - b)+zd by omega,Nat.add_mod_right,Nat.mod_eq_of_lt Om]
theorem ado (a b c:Nat):bw a b c=0∨bw a b c=1:=by unfold bw;split<;>simp
theorem aez (a b m:Nat) (ha:a<m) (hb:b<m) (hm:m<zd):Fn Tryz.prog 202 [zj a,zj b,zj m] Tr (Is (zj ((a+b)%m))):=by
 have hc:=iC ha hb hm;have hA:=aao a b Om Om;have hS:=aax ((a+b)%zd) m (Nat.mod_lt _ zy) hm;have hl:=ado ((a+b)%zd) m 0;generalize (a+b)%m=R at *;generalize (a+b) / zd=c at *;generalize ((a+b)%zd+zd - m)%zd=y at *;generalize bw ((a+b)%zd) m 0=l at *;generalize (a+b)%zd=X at *
 rcases hc with ⟨rfl,rfl,rfl⟩|⟨rfl,rfl⟩|⟨rfl,rfl,rfl⟩
 ·refine Fn.enter Tryz.func202 rfl rfl rfl ?_;intro w hw
  repeat (first|refine Ta ?_|(refine Tm ?_;intro _)|refine WO.acall (hc:=hA) (k:=?_)|refine WO.acall (hc:=hS) (k:=?_)|refine Tc ?_|exact Tz)
 ·rcases hl with rfl|rfl
  all_goals
   refine Fn.enter Tryz.func202 rfl rfl rfl ?_;intro w hw
   repeat (first|refine Ta ?_|(refine Tm ?_;intro _)|refine WO.acall (hc:=hA) (k:=?_)|refine WO.acall (hc:=hS) (k:=?_)|refine Tc ?_|exact Tz)
 ·refine Fn.enter Tryz.func202 rfl rfl rfl ?_;intro w hw
  repeat (first|refine Ta ?_|(refine Tm ?_;intro _)|refine WO.acall (hc:=hA) (k:=?_)|refine WO.acall (hc:=hS) (k:=?_)|refine Tc ?_|exact Tz)
theorem adz (a b m:Nat) (ha:a<m) (hb:b<m) (hm:m<zd):Fn Tryz.prog 210 [zj a,zj b,zj m] Tr (Is (zj ((a+m - b)%m))):=by
 have hc:=ii ha hb hm;have hS:=aax a b Om Om;have hA:=aao ((a+zd - b)%zd) m (Nat.mod_lt _ zy) hm;generalize (a+m - b)%m=R at *;generalize ((a+zd - b)%zd+m) / zd=c at *;generalize ((a+zd - b)%zd+m)%zd=y at *;generalize bw a b 0=l at *;generalize (a+zd - b)%zd=X at *
 rcases hc with ⟨rfl,rfl⟩|⟨rfl,rfl⟩
 all_goals
  refine Fn.enter Tryz.func210 rfl rfl rfl ?_;intro w hw
  repeat (first|refine Ta ?_|(refine Tm ?_;intro _)|refine WO.acall (hc:=hA) (k:=?_)|refine WO.acall (hc:=hS) (k:=?_)|refine Tc ?_|exact Tz)
def okE (c:Bool):Int:=if c then 0 else 1
def okV (c:Bool) (r:Nat):Nat:=if c then r else 0
def zE (a b m:Nat):Bool:=decide (1<m) && decide (a<m) && decide (b<m)
theorem iD (a b m:Nat):(1<m∧a<m∧b<m∧zE a b m=true∧uF m 1=1∧uF a m = -1∧uF b m = -1) ∨
  (zE a b m=false∧((uF m 1=0∨uF m 1 = -1)∨(uF m 1=1∧(uF a m=0∨uF a m=1))∨(uF m 1=1∧uF a m = -1∧(uF b m=0∨uF b m=1)))):=by
 unfold zE uF
 by_cases h1:1<m
 ·by_cases h2:a<m
  ·by_cases h3:b<m
   ·refine .inl ⟨h1,h2,h3,by simp[h1,h2,h3],?_,?_,?_⟩
    ·rw[if_neg Om,if_neg Om]
    ·rw[if_neg Om,if_pos h2]
    ·rw[if_neg Om,if_pos h3]
   ·refine .inr ⟨by simp[h3],.inr (.inr ⟨?_,?_,?_⟩)⟩
    ·rw[if_neg Om,if_neg Om]
    ·rw[if_neg Om,if_pos h2]
    ·by_cases e:b=m
     ·exact .inl (if_pos e)
     ·exact .inr (by rw[if_neg e,if_neg h3])
  ·refine .inr ⟨by simp[h2],.inr (.inl ⟨?_,?_⟩)⟩
   ·rw[if_neg Om,if_neg Om]
   ·by_cases e:a=m
    ·exact .inl (if_pos e)
    ·exact .inr (by rw[if_neg e,if_neg h2])
 ·refine .inr ⟨by simp[h1],.inl ?_⟩
  by_cases e:m=1
  ·exact .inl (if_pos e)
  ·exact .inr (by rw[if_neg e,if_pos Om])
theorem aep {f:Nat} [Cal Tryz.prog f] (caps:List Value) (a b m r:Nat) (ha:a<zd) (hb:b<zd) (hm:m<zd) (R:World→Prop) (hst:yj R)
  (hf:zE a b m=true→Fn Tryz.prog f ([zj a,zj b,zj m]++caps) R (Is (zj r))) :
  Fn Tryz.prog 113 [.agg #[.func (.func f) #[] caps.toArray],zj a,zj b,zj m] R (Is (.tuple #[zj (okV (zE a b m) r),.int .i64 (okE (zE a b m))])):=by
 have hC1:=lR m 1 hm yK;have hC2:=lR a m ha hm;have hC3:=lR b m hb hm
 rcases iD a b m with ⟨h1,h2,h3,hy,e1,e2,e3⟩|⟨hn,hc⟩
 ·have hF:=hf hy;rw[hy];rw[e1] at hC1;rw[e2] at hC2;rw[e3] at hC3;refine Fn.enter Tryz.func113 rfl rfl rfl ?_;intro w hw
  repeat (first|refine Tw ?_|(refine Tm ?_;intro _)|exact Tz)
  refine WC.adraw 16 (k:=?_)
  repeat (first|refine Da ?_|refine DQ.acall (hc:=vP) (k:=?_)|refine DQ.acall (hc:=hC1) (k:=?_)|refine DQ.acall (hc:=hC2) (k:=?_)|refine DQ.acall (hc:=hC3) (k:=?_)|refine Dc ?_)
  refine DQ.anil (k:=?_);intro sx _
  repeat (first|refine Ta ?_|(refine Tm ?_;intro _)|refine WO.acallV (hc:=hF) (hR:=fun w' hm=>hst _ _ hw hm.mod.below) (k:=?_)|refine Tc ?_|exact Tz)
 ·rw[hn]
  rcases hc with (e1|e1)|⟨e1,e2|e2⟩|⟨e1,e2,e3|e3⟩
  ·rw[e1] at hC1;refine Fn.enter Tryz.func113 rfl rfl rfl ?_;intro w hw
   repeat (first|refine Tw ?_|(refine Tm ?_;intro _)|exact Tz)
   refine WC.adraw 16 (k:=?_)
   repeat (first|refine Da ?_|refine DQ.acall (hc:=vP) (k:=?_)|refine DQ.acall (hc:=hC1) (k:=?_)|refine DQ.acall (hc:=hC2) (k:=?_)|refine DQ.acall (hc:=hC3) (k:=?_)|refine Dc ?_)
   refine DQ.anil (k:=?_);intro sx _
   repeat (first|refine Tw ?_|(refine Tm ?_;intro _)|exact Tz)
  ·rw[e1] at hC1;refine Fn.enter Tryz.func113 rfl rfl rfl ?_;intro w hw
   repeat (first|refine Tw ?_|(refine Tm ?_;intro _)|exact Tz)
   refine WC.adraw 16 (k:=?_)
   repeat (first|refine Da ?_|refine DQ.acall (hc:=vP) (k:=?_)|refine DQ.acall (hc:=hC1) (k:=?_)|refine DQ.acall (hc:=hC2) (k:=?_)|refine DQ.acall (hc:=hC3) (k:=?_)|refine Dc ?_)
   refine DQ.anil (k:=?_);intro sx _
   repeat (first|refine Tw ?_|(refine Tm ?_;intro _)|exact Tz)
  ·rw[e1] at hC1;rw[e2] at hC2;refine Fn.enter Tryz.func113 rfl rfl rfl ?_;intro w hw
   repeat (first|refine Tw ?_|(refine Tm ?_;intro _)|exact Tz)
   refine WC.adraw 16 (k:=?_)
   repeat (first|refine Da ?_|refine DQ.acall (hc:=vP) (k:=?_)|refine DQ.acall (hc:=hC1) (k:=?_)|refine DQ.acall (hc:=hC2) (k:=?_)|refine DQ.acall (hc:=hC3) (k:=?_)|refine Dc ?_)
   refine DQ.anil (k:=?_);intro sx _
   repeat (first|refine Tw ?_|(refine Tm ?_;intro _)|exact Tz)
  ·rw[e1] at hC1;rw[e2] at hC2;refine Fn.enter Tryz.func113 rfl rfl rfl ?_;intro w hw
   repeat (first|refine Tw ?_|(refine Tm ?_;intro _)|exact Tz)
   refine WC.adraw 16 (k:=?_)
   repeat (first|refine Da ?_|refine DQ.acall (hc:=vP) (k:=?_)|refine DQ.acall (hc:=hC1) (k:=?_)|refine DQ.acall (hc:=hC2) (k:=?_)|refine DQ.acall (hc:=hC3) (k:=?_)|refine Dc ?_)
   refine DQ.anil (k:=?_);intro sx _
   repeat (first|refine Tw ?_|(refine Tm ?_;intro _)|exact Tz)
  ·rw[e1] at hC1;rw[e2] at hC2;rw[e3] at hC3;refine Fn.enter Tryz.func113 rfl rfl rfl ?_;intro w hw
   repeat (first|refine Tw ?_|(refine Tm ?_;intro _)|exact Tz)
   refine WC.adraw 16 (k:=?_)
   repeat (first|refine Da ?_|refine DQ.acall (hc:=vP) (k:=?_)|refine DQ.acall (hc:=hC1) (k:=?_)|refine DQ.acall (hc:=hC2) (k:=?_)|refine DQ.acall (hc:=hC3) (k:=?_)|refine Dc ?_)
   refine DQ.anil (k:=?_);intro sx _
   repeat (first|refine Tw ?_|(refine Tm ?_;intro _)|exact Tz)
  ·rw[e1] at hC1;rw[e2] at hC2;rw[e3] at hC3;refine Fn.enter Tryz.func113 rfl rfl rfl ?_;intro w hw
   repeat (first|refine Tw ?_|(refine Tm ?_;intro _)|exact Tz)
   refine WC.adraw 16 (k:=?_)
   repeat (first|refine Da ?_|refine DQ.acall (hc:=vP) (k:=?_)|refine DQ.acall (hc:=hC1) (k:=?_)|refine DQ.acall (hc:=hC2) (k:=?_)|refine DQ.acall (hc:=hC3) (k:=?_)|refine Dc ?_)
   refine DQ.anil (k:=?_);intro sx _
   repeat (first|refine Tw ?_|(refine Tm ?_;intro _)|exact Tz)
theorem zF {a b m:Nat} (h:zE a b m=true):1<m∧a<m∧b<m:=by
 unfold zE at h;simp at h;exact⟨h.1.1,h.1.2,h.2⟩
abbrev rE (c:Bool) (r:Nat):Value:=.tuple #[zj (okV c r),.int .i64 (okE c)]
theorem aee (a b m:Nat) (ha:a<zd) (hb:b<zd) (hm:m<zd):Fn Tryz.prog 165 [zj a,zj b,zj m] Tr (Is (rE (zE a b m) ((a+b)%m))):=by
 have hO:=aep (f:=202) [] a b m ((a+b)%m) ha hb hm Tr yj.tr (fun h=>aez a b m (zF h).2.1 (zF h).2.2 hm);refine Fn.enter Tryz.func165 rfl rfl rfl ?_;intro w hw
 repeat (first|refine Ta ?_|(refine Tm ?_;intro _)|refine WO.acall (hc:=hO) (k:=?_)|refine Tc ?_|exact Tz)
theorem abW (a b m:Nat) (ha:a<zd) (hb:b<zd) (hm:m<zd):Fn Tryz.prog 178 [zj a,zj b,zj m] Tr (Is (rE (zE a b m) ((a+m - b)%m))):=by
 have hO:=aep (f:=210) [] a b m ((a+m - b)%m) ha hb hm Tr yj.tr (fun h=>adz a b m (zF h).2.1 (zF h).2.2 hm);refine Fn.enter Tryz.func178 rfl rfl rfl ?_;intro w hw
 repeat (first|refine Ta ?_|(refine Tm ?_;intro _)|refine WO.acall (hc:=hO) (k:=?_)|refine Tc ?_|exact Tz)
theorem abh (a b m:Nat) (ha:a<zd) (hb:b<zd) (hm:m<zd):Fn Tryz.prog 164 [zj a,zj b,zj m] Tr (Is (rE (zE a b m) (a*b%m))):=by
 have hO:=aep (f:=112) [] a b m (a*b%m) ha hb hm Tr yj.tr (fun h=>mY a b m (zF h).2.1 (zF h).2.2 hm);refine Fn.enter Tryz.func164 rfl rfl rfl ?_;intro w hw
 repeat (first|refine Ta ?_|(refine Tm ?_;intro _)|refine WO.acall (hc:=hO) (k:=?_)|refine Tc ?_|exact Tz)
def dS (n N k:Nat):Nat:=n / 2 ^ (N - k)
theorem qG {n N:Nat} (h:n<2 ^ N):dS n N 0=0:=Nat.div_eq_of_lt (by simpa using h)
theorem jj (n N:Nat):dS n N N=n:=by unfold dS;simp
theorem nC (n:Nat) {N k:Nat} (h:k<N):dS n N (k+1)=2*dS n N k+uf n (N - 1 - k):=by
 unfold dS uf;have e:N - k=(N - 1 - k)+1:=by omega
 have e2:N - (k+1)=N - 1 - k:=by omega
 rw[e2,e,Nat.pow_succ,← Nat.div_div_eq_div_mul];omega
theorem nI (a m t b:Nat) (hb:b=0∨b=1):a ^ (2*t+b)%m=if b=1 then (a ^ t%m*(a ^ t%m)%m)*a%m else a ^ t%m*(a ^ t%m)%m:=by
 have h1:a ^ (2*t)%m=a ^ t%m*(a ^ t%m)%m:=by rw[Nat.two_mul,Nat.pow_add,Nat.mul_mod]
 rcases hb with rfl|rfl
 ·simpa using h1
 ·rw[if_pos rfl,Nat.pow_succ,Nat.mul_mod,h1,Nat.mul_mod_mod]
theorem sV (a i:Nat):uf a i=0∨uf a i=1:=by unfold uf;omega
theorem uq (n:Nat):n<2 ^ zC n:=tx n
theorem mg {n:Nat} (h:n<zd):zC n≤256:=yU (by simpa [zd] using h)
theorem ah {f:Nat} [Cal Tryz.prog f] (caps:List Value) (a n m:Nat) (h1:1<m) (ha:a<m) (hn:n<zd) (hm:m<18446744073709551616) (R:World→Prop) (hst:yj R)
  (hf:∀ x y:Nat,x<m→y<m→Fn Tryz.prog f ([.int .u64 (x:Int),.int .u64 (y:Int)]++caps) R (Is (.int .u64 ((x*y%m:Nat):Int)))) :
  Fn Tryz.prog 107 [.int .u64 (a:Int),.int .u64 1,zj n,.func (.func f) #[] caps.toArray] R (Is (.int .u64 ((a ^ n%m:Nat):Int))):=by
 have hB:=oX n hn;have hlt:=uq n;have hN:=mg hn;have hbit:∀ i:Int,0≤i→i≤1000000→Fn Tryz.prog 152 [zj n,.int .i64 i] Tr (Is (.int .u64 (uf n i.toNat:Nat))):=fun i h0 h1=>ad3 n i hn h0 h1;have hend:=jj n (zC n);have hst0:=qG hlt;have hstep:=fun k (h:k<zC n)=>nC n h;generalize zC n=N at *;refine Fn.enter Tryz.func107 rfl rfl rfl ?_;intro w hw
 repeat (first|refine Ta ?_|(refine Tm ?_;intro _)|refine WO.acall (hc:=hB) (k:=?_)|refine Tc ?_|exact Tz)
 rename_i g6;refine WC.loopI (σ:=Nat × Nat) (fun s=>s.1≤N∧s.2=a ^ dS n N s.1%m) (fun s=>[(0,.int .u64 (a:Int)),(3,.func (.func f) #[] caps.toArray),(6,pt g6),(9,.int .u64 (s.2:Int)),(13,.int .i64 (N:Int)),(14,.int .i64 (s.1:Int))]) (fun s=>[⟨g6,24,zb n⟩]) (fun s=>N - s.1) (0,1) (fun s hs=>?_) ⟨Nat.zero_le _,by rw[hst0,Nat.pow_zero,Nat.mod_eq_of_lt h1]⟩;obtain⟨k,x⟩:=s;obtain⟨hk,hx⟩:=hs;dsimp only at hk hx ⊢;have hxm:x<m:=by rw[hx];exact Nat.mod_lt _ Om
 by_cases hlt:(k:Int)<(N:Int)
 ·have hkN:k<N:=by omega
  have hsq:=hf x x hxm hxm;have hma:=hf (x*x%m) a (Nat.mod_lt _ Om) ha;have hbt:=hbit ((N:Int) - 1 - (k:Int)) Om Om;rw[show ((N:Int) - 1 - (k:Int)).toNat=N - 1 - k by omega] at hbt;have hp:=nI a m (dS n N k) (uf n (N - 1 - k)) (sV _ _);rw[← hstep k hkN,← hx] at hp
  repeat (first|refine Tw ?_|(refine Tm ?_;intro _)|exact Tz)
  refine WC.dT rfl hlt ?_
  repeat (first|refine Ta ?_|(refine Tm ?_;intro _)|refine WO.acallV (hc:=hsq) (hR:=fun w' hm=>hst _ _ hw hm.mod.below) (k:=?_)|refine Tc ?_|exact Tz)
  rcases sV n (N - 1 - k) with e|e
  ·rw[e] at hbt hp;refine WC.adraw 8 (k:=?_)
   repeat (first|refine Da ?_|refine DQ.acall (hc:=hB) (k:=?_)|refine DQ.acall (hc:=hbt) (k:=?_)|refine Dc ?_)
   refine DQ.anil (k:=?_);intro sx _
   repeat (first|refine Tw ?_|(refine Tm ?_;intro _)|exact Tz)
   refine WX.metI (k+1,x*x%m) (hs:=⟨⟨by omega,by simpa using hp.symm⟩,by simp only;omega⟩)
  ·rw[e] at hbt hp;refine WC.adraw 8 (k:=?_)
   repeat (first|refine Da ?_|refine DQ.acall (hc:=hB) (k:=?_)|refine DQ.acall (hc:=hbt) (k:=?_)|refine Dc ?_)
   refine DQ.anil (k:=?_);intro sx _
   repeat (first|refine Ta ?_|(refine Tm ?_;intro _)|refine WO.acallV (hc:=hma) (hR:=fun w' hm=>hst _ _ hw hm.mod.below) (k:=?_)|refine Tc ?_|exact Tz)
   refine WX.metI (k+1,x*x%m*a%m) (hs:=⟨⟨by omega,by simpa using hp.symm⟩,by simp only;omega⟩)
 ·have hkN:k=N:=by omega
  subst hkN;rw[hend] at hx;subst hx
  repeat (first|refine Tw ?_|(refine Tm ?_;intro _)|exact Tz)
  refine WC.dF rfl hlt ?_
  repeat (first|refine Tw ?_|(refine Tm ?_;intro _)|exact Tz)
end Sx
end
section
open Go Go.RowKit
namespace Sx
attribute [local irreducible] DQ WC WO WX
theorem ct {f:Nat} [Cal Tryz.prog f] (caps:List Value) (a n m:Nat) (h1:1<m) (ha:a<m) (hn:n<zd) (R:World→Prop) (hst:yj R)
  (hf:∀ x y:Nat,x<m→y<m→Fn Tryz.prog f ([zj x,zj y]++caps) R (Is (zj (x*y%m)))) :
  Fn Tryz.prog 110 [zj a,zj 1,zj n,.func (.func f) #[] caps.toArray] R (Is (zj (a ^ n%m))):=by
 have hB:=oX n hn;have hlt:=uq n;have hN:=mg hn;have hbit:∀ i:Int,0≤i→i≤1000000→Fn Tryz.prog 152 [zj n,.int .i64 i] Tr (Is (.int .u64 (uf n i.toNat:Nat))):=fun i h0 h1=>ad3 n i hn h0 h1;have hend:=jj n (zC n);have hst0:=qG hlt;have hstep:=fun k (h:k<zC n)=>nC n h;generalize zC n=N at *;refine Fn.enter Tryz.func110 rfl rfl rfl ?_;intro w hw
 repeat (first|refine Ta ?_|(refine Tm ?_;intro _)|refine WO.acall (hc:=hB) (k:=?_)|refine Tc ?_|exact Tz)
 rename_i g4 g5 g6 g8 g9
 refine WC.loopI (σ:=Nat × Nat) (fun s=>s.1≤N∧s.2=a ^ dS n N s.1%m) (fun s=>[(3,.func (.func f) #[] caps.toArray),(4,pt g4),(6,pt g6),(8,pt g8),(9,pt g9),(13,.int .i64 (N:Int)),(14,.int .i64 (s.1:Int))])
  (fun s=>[⟨g4,24,zb a⟩,⟨g6,24,zb n⟩,⟨g8,24,zb 0⟩,⟨g9,24,zb s.2⟩]) (fun s=>N - s.1) (0,1) (fun s hs=>?_) ⟨Nat.zero_le _,by rw[hst0,Nat.pow_zero,Nat.mod_eq_of_lt h1]⟩
 obtain⟨k,x⟩:=s;obtain⟨hk,hx⟩:=hs;dsimp only at hk hx ⊢;have hxm:x<m:=by rw[hx];exact Nat.mod_lt _ Om
 by_cases hlt:(k:Int)<(N:Int)
 ·have hkN:k<N:=by omega
  have hsq:=hf x x hxm hxm;have hma:=hf (x*x%m) a (Nat.mod_lt _ Om) ha;have hbt:=hbit ((N:Int) - 1 - (k:Int)) Om Om;rw[show ((N:Int) - 1 - (k:Int)).toNat=N - 1 - k by omega] at hbt;have hp:=nI a m (dS n N k) (uf n (N - 1 - k)) (sV _ _);rw[← hstep k hkN,← hx] at hp
  repeat (first|refine Tw ?_|(refine Tm ?_;intro _)|exact Tz)
  refine WC.dT rfl hlt ?_
  repeat (first|refine Ta ?_|(refine Tm ?_;intro _)|refine WO.acallV (hc:=hsq) (hR:=fun w' hm=>hst _ _ hw hm.mod.below) (k:=?_)|refine Tc ?_|exact Tz)
  rcases sV n (N - 1 - k) with e|e
  ·rw[e] at hbt hp;refine WC.adraw 8 (k:=?_)
   repeat (first|refine Da ?_|refine DQ.acall (hc:=hB) (k:=?_)|refine DQ.acall (hc:=hbt) (k:=?_)|refine Dc ?_)
   refine DQ.anil (k:=?_);intro sx _
   repeat (first|refine Tw ?_|(refine Tm ?_;intro _)|exact Tz)
   refine WX.metI (k+1,x*x%m) (hs:=⟨⟨by omega,by simpa using hp.symm⟩,by simp only;omega⟩)
  ·rw[e] at hbt hp;refine WC.adraw 8 (k:=?_)
   repeat (first|refine Da ?_|refine DQ.acall (hc:=hB) (k:=?_)|refine DQ.acall (hc:=hbt) (k:=?_)|refine Dc ?_)
   refine DQ.anil (k:=?_);intro sx _
   repeat (first|refine Ta ?_|(refine Tm ?_;intro _)|refine WO.acallV (hc:=hma) (hR:=fun w' hm=>hst _ _ hw hm.mod.below) (k:=?_)|refine Tc ?_|exact Tz)
   refine WX.metI (k+1,x*x%m*a%m) (hs:=⟨⟨by omega,by simpa using hp.symm⟩,by simp only;omega⟩)
 ·have hkN:k=N:=by omega
  subst hkN;rw[hend] at hx;subst hx
  repeat (first|refine Tw ?_|(refine Tm ?_;intro _)|exact Tz)
  refine WC.dF rfl hlt ?_
  repeat (first|refine Tw ?_|(refine Tm ?_;intro _)|exact Tz)
theorem aa0 (a b m g:Nat) (ha:a<m) (hb:b<m) (hm:m<18446744073709551616):Fn Tryz.prog 108 [.int .u64 (a:Int),.int .u64 (b:Int),pt g] (fun w=>Seg w g 0 (zb m)) (Is (.int .u64 ((a*b%m:Nat):Int))):=by
 have hW:=adS a b m ha hb hm;have e:wd 0 m=m:=Nat.mod_eq_of_lt hm;rw[← e] at hW;refine Fn.enter Tryz.func108 rfl rfl rfl ?_;intro w hw;rw[← e]
 repeat (first|refine Ta ?_|(refine Tm ?_;intro _)|refine WO.acall (hc:=hW) (k:=?_)|refine Tc ?_|exact Tz)
theorem ac7 (a b m g:Nat) (ha:a<m) (hb:b<m) (hm:m<zd):Fn Tryz.prog 111 [zj a,zj b,pt g] (fun w=>Seg w g 0 (zb m)) (Is (zj (a*b%m))):=by
 have hW:=mY a b m ha hb hm;refine Fn.enter Tryz.func111 rfl rfl rfl ?_;intro w hw
 repeat (first|refine Ta ?_|(refine Tm ?_;intro _)|refine WO.acall (hc:=hW) (k:=?_)|refine Tc ?_|exact Tz)
theorem ady (a n m g:Nat) (h1:1<m) (ha:a<m) (hm:m<zd) (hn:n<zd):Fn Tryz.prog 105 [zj a,zj a,zj m,pt g] (fun w=>Seg w g 0 (zb n)) (Is (zj (a ^ n%m))):=by
 have hB:=oX m hm
 by_cases hs:m<18446744073709551616
 ·have hle:((zC m:Nat):Int)≤64:=by have:zC m≤64:=yU (by simpa using hs);omega
  have ea:wd 0 a=a:=Nat.mod_eq_of_lt Om
  have hP:∀ g,Fn Tryz.prog 107 [.int .u64 ((wd 0 a:Nat):Int),.int .u64 1,zj n,.func (.func 108) #[] #[pt g]] (fun w=>Seg w g 0 (zb m)) (Is (.int .u64 ((a ^ n%m:Nat):Int))) :=
   fun g=>by rw[ea];exact ah [pt g] a n m h1 ha hn hs _ yj.seg (fun x y hx hy=>aa0 x y m g hx hy hs)
  have hO:=ai (a ^ n%m) (Nat.lt_trans (Nat.mod_lt _ Om) hs);generalize zC m=N at *;refine Fn.enter Tryz.func105 rfl rfl rfl ?_;intro w hw
  repeat (first|refine Ta ?_|(refine Tm ?_;intro _)|refine WO.acall (hc:=hB) (k:=?_)|refine Tc ?_|exact Tz)
  refine WC.dT rfl hle ?_
  repeat (first|refine Ta ?_|(refine Tm ?_;intro _)|refine WO.acall (hc:=hO) (k:=?_)|refine WO.acallR (hc:=hP _) (hR:=fun w' hm=>Hs.sg hm) (k:=?_)|refine Tc ?_|exact Tz)
 ·have hle:¬ ((zC m:Nat):Int)≤64:=by
   intro h;have:zC m≤64:=by omega
   rw[yH] at this;exact hs (by simpa using this)
  have hP:∀ g,Fn Tryz.prog 110 [zj a,zj 1,zj n,.func (.func 111) #[] #[pt g]] (fun w=>Seg w g 0 (zb m)) (Is (zj (a ^ n%m))) :=
   fun g=>ct [pt g] a n m h1 ha hn _ yj.seg (fun x y hx hy=>ac7 x y m g hx hy hm)
  generalize zC m=N at *;refine Fn.enter Tryz.func105 rfl rfl rfl ?_;intro w hw
  repeat (first|refine Ta ?_|(refine Tm ?_;intro _)|refine WO.acall (hc:=hB) (k:=?_)|refine Tc ?_|exact Tz)
  refine WC.dF rfl hle ?_
  repeat (first|refine Tw ?_|(refine Tm ?_;intro _)|exact Tz)
  refine WC.adraw 5 (k:=?_)
  repeat (first|refine Da ?_|refine DQ.acall (hc:=vP) (k:=?_)|refine DQ.acallR (hc:=hP _) (hR:=fun w' hm=>Hs.sg hm) (k:=?_)|refine Dc ?_)
  refine DQ.anil (k:=?_);intro sx _
  repeat (first|refine Tw ?_|(refine Tm ?_;intro _)|exact Tz)
theorem ae3 (a n m:Nat) (ha:a<zd) (hn:n<zd) (hm:m<zd):Fn Tryz.prog 51 [zj a,zj n,zj m] Tr (Is (rE (zE a a m) (a ^ n%m))):=by
 have hO:=fun g=>aep (f:=105) [pt g] a a m (a ^ n%m) ha ha hm _ yj.seg (fun h=>ady a n m g (zF h).1 (zF h).2.1 hm hn);refine Fn.enter Tryz.func51 rfl rfl rfl ?_;intro w hw
 repeat (first|refine Ta ?_|(refine Tm ?_;intro _)|refine WO.acallR (hc:=hO _) (hR:=fun w' hm=>Hs.sg hm) (k:=?_)|refine Tc ?_|exact Tz)
end Sx
end
section
namespace Sx
def iI (m r s x y:Nat):Nat:=if h:s≤1 then y else iI m s (r%s) y ((x+m - r / s*y%m)%m)
termination_by s
decreasing_by exact Nat.mod_lt _ Om
def uH (a m:Nat):Nat:=if Nat.gcd a m=1 then iI m m a 0 1 else 0
theorem mL {a b m:Int} (h:m ∣ a - b):a%m=b%m:=by
 obtain⟨c,hc⟩:=h;have:a=b+m*c:=by omega
 rw[this,Int.add_mul_emod_self_left]
theorem m8 {a b m:Int} (h:a%m=b%m):m ∣ a - b:=Int.dvd_of_emod_eq_zero (by rw[Int.sub_emod,h,Int.sub_self,Int.zero_emod])
theorem im {a b m:Nat} (h:(m:Int) ∣ (a:Int) - (b:Int)):a%m=b%m:=by
 have:=mL h;rw[← Int.natCast_emod,← Int.natCast_emod] at this;exact Int.ofNat.inj this
theorem pe {a b m:Nat} (h:a%m=b%m):(m:Int) ∣ (a:Int) - (b:Int):=by
 apply m8;rw[← Int.natCast_emod,← Int.natCast_emod,h]
theorem cf {a m r s x y:Nat} (hm:0<m) (h1:x*a%m=r%m) (h2:y*a%m=s%m):(x+m - r / s*y%m)%m*a%m=r%s%m:=by
 have ht:r / s*y%m<m:=Nat.mod_lt _ hm;have e1:r=s*(r / s)+r%s:=(Nat.div_add_mod r s).symm;have e2:r / s*y=m*(r / s*y / m)+r / s*y%m:=(Nat.div_add_mod _ m).symm;have e3:x+m - r / s*y%m=m*((x+m - r / s*y%m) / m)+(x+m - r / s*y%m)%m:=(Nat.div_add_mod _ m).symm;have d1:=pe h1;have d2:=pe h2;apply im;generalize hz:(x+m - r / s*y%m)%m=z at *;generalize (x+m - r / s*y%m) / m=k at *;generalize hu:r / s*y%m=u at *;generalize r / s*y / m=l at *;generalize r / s=q at *;generalize r%s=p at *;obtain⟨c1,hc1⟩:=d1;obtain⟨c2,hc2⟩:=d2;have f3:(x:Int)+m - u=m*k+z:=by
  have:((x+m - u:Nat):Int)=((m*k+z:Nat):Int):=by rw[e3]
  rw[Int.ofNat_sub Om] at this;push_cast at this;exact this
 have f2:(q:Int)*y=m*l+u:=by exact_mod_cast e2
 have f1:(r:Int)=s*q+p:=by exact_mod_cast e1
 push_cast at hc1 hc2 ⊢;refine⟨c1 - q*c2+a - k*a+l*a,?_⟩;have hz' : (z:Int)=x+m - (q*y - m*l) - m*k:=by omega
 have:(z:Int)*a - p=(x*a - r) - q*(y*a - s)+m*a+m*(l*a) - m*(k*a):=by
  rw[hz',f1];simp only[Int.sub_mul,Int.add_mul,Int.mul_sub,Int.mul_add,Int.mul_assoc,Int.mul_comm,Int.mul_left_comm];omega
 rw[this,hc1,hc2];simp only[Int.sub_mul,Int.add_mul,Int.mul_sub,Int.mul_add,Int.mul_assoc,Int.mul_comm,Int.mul_left_comm];omega
theorem jA {m r x y:Nat}:iI m r 1 x y=y:=by unfold iI;simp
theorem nN {m r s x y:Nat} (h:1<s):iI m r s x y=iI m s (r%s) y ((x+m - r / s*y%m)%m):=by
 rw[iI];rw[dif_neg Om]
theorem kF {r s:Nat} (hs:1<s) (hg:Nat.gcd r s=1):0<r%s:=by
 rcases Nat.eq_zero_or_pos (r%s) with h|h
 ·exfalso;have h1:s ∣ r:=Nat.dvd_of_mod_eq_zero h;have:Nat.gcd r s=s:=Nat.gcd_eq_right h1;omega
 ·exact h
theorem kS {r s:Nat} (hg:Nat.gcd r s=1):Nat.gcd s (r%s)=1:=by
 rw[Nat.gcd_comm s,← Nat.gcd_rec,Nat.gcd_comm];exact hg
theorem gv (m a:Nat) (hm:1<m):∀ (s r x y:Nat),0<s→Nat.gcd r s=1→x*a%m=r%m→y*a%m=s%m→y<m→iI m r s x y*a%m=1∧iI m r s x y<m:=by
 intro s
 induction s using Nat.strongRecOn with
 | _ s ih =>
  intro r x y hs hg h1 h2 hy
  by_cases e:s=1
  ·subst e;rw[jA,h2,Nat.mod_eq_of_lt hm];exact⟨rfl,hy⟩
  ·rw[nN Om];exact ih (r%s) (Nat.mod_lt _ hs) s y _ (kF Om hg) (kS hg) h2 (cf Om h1 h2) (Nat.mod_lt _ Om)
theorem rU {m a:Nat} (hm:1<m) (ha:a<m) (hg:Nat.gcd a m=1):uH a m*a%m=1∧uH a m<m:=by
 unfold uH;rw[if_pos hg];have h0:0<a:=by
  rcases Nat.eq_zero_or_pos a with h|h
  ·subst h;rw[Nat.gcd_zero_left] at hg;omega
  ·exact h
 exact gv m a hm a m 0 1 h0 (by rw[Nat.gcd_comm];exact hg) (by simp) (by simp) hm
theorem acb {m a:Nat} (hm:1<m) (ha:a<m) (hg:Nat.gcd a m=1):uH a m≠0:=by
 intro h;have:=(rU hm ha hg).1;rw[h] at this;simp at this
theorem mT {m a:Nat} (hg:Nat.gcd a m≠1):uH a m=0:=by unfold uH;rw[if_neg hg]
def iH (a m:Nat):Int:=if zE a a m then (if Nat.gcd a m=1 then 0 else 7) else 1
end Sx
end
end Go.Proofs.YtiiefkchpicncaaGreatDoor
