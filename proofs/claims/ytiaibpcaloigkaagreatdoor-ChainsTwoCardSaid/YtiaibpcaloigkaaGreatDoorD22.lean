/- Part 22 of the proof. -/
import Derived.Test.YtiaibpcaloigkaaGreatDoorD16
set_option linter.unusedSimpArgs false
set_option linter.unusedVariables false
set_option maxHeartbeats 8000000
namespace Go.Proofs.YtiaibpcaloigkaaGreatDoor
section
open Go Go.RowKit
namespace Sx
attribute [local irreducible] DQ WC WO WX wd
theorem db {a b:Nat} (h:a<b):uU a b = -1:=by unfold uU;rw[if_neg Om,if_pos h]
theorem m8 {a b:Nat} (h:b<a):uU a b=1:=by unfold uU;rw[if_neg Om,if_neg Om]
theorem fN {a b:Nat} (h:a=b):uU a b=0:=by unfold uU;rw[if_pos h]
theorem j9 {a b m:Nat} (ha:a<m) (hb:b<m) (hm:m<ze) :
  ((a+b) / ze=0∧bw ((a+b)%ze) m 0=1∧(a+b)%m=(a+b)%ze) ∨
  ((a+b) / ze=1∧(a+b)%m=((a+b)%ze+ze - m)%ze) ∨
  ((a+b) / ze=0∧bw ((a+b)%ze) m 0=0∧(a+b)%m=((a+b)%ze+ze - m)%ze):=by
 by_cases hc:a+b<ze
 ·have e:(a+b)%ze=a+b:=Nat.mod_eq_of_lt hc;rw[e];have e0:(a+b) / ze=0:=Nat.div_eq_of_lt hc
  by_cases h:a+b<m
  ·exact .inl ⟨e0,by simp[bw];omega,Nat.mod_eq_of_lt h⟩
  ·refine .inr (.inr ⟨e0,by simp[bw];omega,?_⟩);rw[Nat.mod_eq_sub_mod Om,Nat.mod_eq_of_lt Om,show a+b+ze - m=(a+b - m)+ze by omega,Nat.add_mod_right,Nat.mod_eq_of_lt Om]
 ·have e:(a+b)%ze=a+b - ze:=by rw[Nat.mod_eq_sub_mod Om,Nat.mod_eq_of_lt Om]
  refine .inr (.inl ⟨?_,?_⟩)
  ·rw[Nat.div_eq_iff zC];omega
  ·rw[e,Nat.mod_eq_sub_mod Om,Nat.mod_eq_of_lt Om,show a+b - ze+ze - m=a+b - m by omega,Nat.mod_eq_of_lt Om]
theorem jO {a b m:Nat} (ha:a<m) (hb:b<m) (hm:m<ze) :
  (bw a b 0=0∧(a+m - b)%m=(a+ze - b)%ze)∨(bw a b 0=1∧(a+m - b)%m=((a+ze - b)%ze+m)%ze):=by
 by_cases h:a<b
 ·refine .inr ⟨by simp[bw];omega,?_⟩;rw[Nat.mod_eq_of_lt (by omega:a+m - b<m),Nat.mod_eq_of_lt (by omega:a+ze - b<ze),show a+ze - b+m=(a+m - b)+ze by omega,Nat.add_mod_right,Nat.mod_eq_of_lt Om]
 ·refine .inl ⟨by simp[bw];omega,?_⟩;rw[show a+m - b=(a - b)+m by omega,Nat.add_mod_right,Nat.mod_eq_of_lt Om,show a+ze - b=(a - b)+ze by omega,Nat.add_mod_right,Nat.mod_eq_of_lt Om]
theorem ae3 (a b c:Nat):bw a b c=0∨bw a b c=1:=by unfold bw;split<;>simp
theorem ad0 (a b m:Nat) (ha:a<m) (hb:b<m) (hm:m<ze):Fn Tryz.prog 236 [zi a,zi b,zi m] Tr (Is (zi ((a+b)%m))):=by
 have hc:=j9 ha hb hm;have hA:=aaI a b Om Om;have hS:=aaD ((a+b)%ze) m (Nat.mod_lt _ zC) hm;have hl:=ae3 ((a+b)%ze) m 0;generalize (a+b)%m=R at *;generalize (a+b) / ze=c at *;generalize ((a+b)%ze+ze - m)%ze=y at *;generalize bw ((a+b)%ze) m 0=l at *;generalize (a+b)%ze=X at *
 rcases hc with ⟨rfl,rfl,rfl⟩|⟨rfl,rfl⟩|⟨rfl,rfl,rfl⟩
 ·refine Fn.enter Tryz.func236 rfl rfl rfl ?_;intro w hw
  repeat (first|refine Tj ?_|intro _|refine WO.acall (hc:=hA) (k:=?_)|refine WO.acall (hc:=hS) (k:=?_)|refine Tc ?_|exact Tz)
 ·rcases hl with rfl|rfl
  all_goals
   refine Fn.enter Tryz.func236 rfl rfl rfl ?_;intro w hw
   repeat (first|refine Tj ?_|intro _|refine WO.acall (hc:=hA) (k:=?_)|refine WO.acall (hc:=hS) (k:=?_)|refine Tc ?_|exact Tz)
 ·refine Fn.enter Tryz.func236 rfl rfl rfl ?_;intro w hw
  repeat (first|refine Tj ?_|intro _|refine WO.acall (hc:=hA) (k:=?_)|refine WO.acall (hc:=hS) (k:=?_)|refine Tc ?_|exact Tz)
theorem adK (a b m:Nat) (ha:a<m) (hb:b<m) (hm:m<ze):Fn Tryz.prog 238 [zi a,zi b,zi m] Tr (Is (zi ((a+m - b)%m))):=by
 have hc:=jO ha hb hm;have hS:=aaD a b Om Om;have hA:=aaI ((a+ze - b)%ze) m (Nat.mod_lt _ zC) hm;generalize (a+m - b)%m=R at *;generalize ((a+ze - b)%ze+m) / ze=c at *;generalize ((a+ze - b)%ze+m)%ze=y at *;generalize bw a b 0=l at *;generalize (a+ze - b)%ze=X at *
 rcases hc with ⟨rfl,rfl⟩|⟨rfl,rfl⟩
 all_goals
  refine Fn.enter Tryz.func238 rfl rfl rfl ?_;intro w hw
  repeat (first|refine Tj ?_|intro _|refine WO.acall (hc:=hA) (k:=?_)|refine WO.acall (hc:=hS) (k:=?_)|refine Tc ?_|exact Tz)
def okE (c:Bool):Int:=if c then 0 else 1
def okV (c:Bool) (r:Nat):Nat:=if c then r else 0
def zK (a b m:Nat):Bool:=decide (1<m) && decide (a<m) && decide (b<m)
theorem ic (a b m:Nat):(1<m∧a<m∧b<m∧zK a b m=true∧uU m 1=1∧uU a m = -1∧uU b m = -1) ∨
  (zK a b m=false∧((uU m 1=0∨uU m 1 = -1)∨(uU m 1=1∧(uU a m=0∨uU a m=1))∨(uU m 1=1∧uU a m = -1∧(uU b m=0∨uU b m=1)))):=by
 unfold zK uU
 by_cases h1:1<m
 ·by_cases h2:a<m
  ·by_cases h3:b<m
   ·refine .inl ⟨h1,h2,h3,by simp[h1,h2,h3],?_,?_,?_⟩
    ·rw[if_neg Om,if_neg Om]
    ·rw[if_neg Om,if_pos h2]
    ·rw[if_neg Om,if_pos h3]
   ·refine .inr ⟨by simp[h3],.inr (.inr ⟨?_,?_,?_⟩)⟩
    ·rw[if_neg Om,if_neg Om]
    ·rw[if_neg Om,if_pos h2]
    ·by_cases e:b=m
     ·exact .inl (if_pos e)
     ·exact .inr (by rw[if_neg e,if_neg h3])
  ·refine .inr ⟨by simp[h2],.inr (.inl ⟨?_,?_⟩)⟩
   ·rw[if_neg Om,if_neg Om]
   ·by_cases e:a=m
    ·exact .inl (if_pos e)
    ·exact .inr (by rw[if_neg e,if_neg h2])
 ·refine .inr ⟨by simp[h1],.inl ?_⟩
  by_cases e:m=1
  ·exact .inl (if_pos e)
  ·exact .inr (by rw[if_neg e,if_pos Om])
theorem aek {f:Nat} [Cal Tryz.prog f] (caps:LV) (a b m r:Nat) (ha:a<ze) (hb:b<ze) (hm:m<ze) (R:World→Prop) (hst:zU R)
  (hf:zK a b m=true→Fn Tryz.prog f ([zi a,zi b,zi m]++caps) R (Is (zi r))) :
  Fn Tryz.prog 138 [.agg #[.func (.func f) #[] caps.toArray],zi a,zi b,zi m] R (Is (.tuple #[zi (okV (zK a b m) r),.int .i64 (okE (zK a b m))])):=by
 have hC1:=lT m 1 hm yT;have hC2:=lT a m ha hm;have hC3:=lT b m hb hm
 rcases ic a b m with ⟨h1,h2,h3,hy,e1,e2,e3⟩|⟨hn,hc⟩
 ·have hF:=hf hy;rw[hy];rw[e1] at hC1;rw[e2] at hC2;rw[e3] at hC3;refine Fn.enter Tryz.func138 rfl rfl rfl ?_;intro w hw
  repeat (first|refine Tk ?_|intro _|exact Tz)
  refine WC.adraw 16 (k:=?_)
  repeat (first|refine Da ?_|refine DQ.acall (hc:=vS) (k:=?_)|refine DQ.acall (hc:=hC1) (k:=?_)|refine DQ.acall (hc:=hC2) (k:=?_)|refine DQ.acall (hc:=hC3) (k:=?_)|refine Dc ?_)
  refine DQ.anil (k:=?_);intro sx _
  repeat (first|refine Tj ?_|intro _|refine WO.acallV (hc:=hF) (hR:=fun w' hm=>hst _ _ hw hm.mod.below) (k:=?_)|refine Tc ?_|exact Tz)
 ·rw[hn]
  rcases hc with (e1|e1)|⟨e1,e2|e2⟩|⟨e1,e2,e3|e3⟩
  ·rw[e1] at hC1;refine Fn.enter Tryz.func138 rfl rfl rfl ?_;intro w hw
   repeat (first|refine Tk ?_|intro _|exact Tz)
   refine WC.adraw 16 (k:=?_)
   repeat (first|refine Da ?_|refine DQ.acall (hc:=vS) (k:=?_)|refine DQ.acall (hc:=hC1) (k:=?_)|refine DQ.acall (hc:=hC2) (k:=?_)|refine DQ.acall (hc:=hC3) (k:=?_)|refine Dc ?_)
   refine DQ.anil (k:=?_);intro sx _
   repeat (first|refine Tk ?_|intro _|exact Tz)
  ·rw[e1] at hC1;refine Fn.enter Tryz.func138 rfl rfl rfl ?_;intro w hw
   repeat (first|refine Tk ?_|intro _|exact Tz)
   refine WC.adraw 16 (k:=?_)
   repeat (first|refine Da ?_|refine DQ.acall (hc:=vS) (k:=?_)|refine DQ.acall (hc:=hC1) (k:=?_)|refine DQ.acall (hc:=hC2) (k:=?_)|refine DQ.acall (hc:=hC3) (k:=?_)|refine Dc ?_)
   refine DQ.anil (k:=?_);intro sx _
   repeat (first|refine Tk ?_|intro _|exact Tz)
  ·rw[e1] at hC1;rw[e2] at hC2;refine Fn.enter Tryz.func138 rfl rfl rfl ?_;intro w hw
   repeat (first|refine Tk ?_|intro _|exact Tz)
   refine WC.adraw 16 (k:=?_)
   repeat (first|refine Da ?_|refine DQ.acall (hc:=vS) (k:=?_)|refine DQ.acall (hc:=hC1) (k:=?_)|refine DQ.acall (hc:=hC2) (k:=?_)|refine DQ.acall (hc:=hC3) (k:=?_)|refine Dc ?_)
   refine DQ.anil (k:=?_);intro sx _
   repeat (first|refine Tk ?_|intro _|exact Tz)
  ·rw[e1] at hC1;rw[e2] at hC2;refine Fn.enter Tryz.func138 rfl rfl rfl ?_;intro w hw
   repeat (first|refine Tk ?_|intro _|exact Tz)
   refine WC.adraw 16 (k:=?_)
   repeat (first|refine Da ?_|refine DQ.acall (hc:=vS) (k:=?_)|refine DQ.acall (hc:=hC1) (k:=?_)|refine DQ.acall (hc:=hC2) (k:=?_)|refine DQ.acall (hc:=hC3) (k:=?_)|refine Dc ?_)
   refine DQ.anil (k:=?_);intro sx _
   repeat (first|refine Tk ?_|intro _|exact Tz)
  ·rw[e1] at hC1;rw[e2] at hC2;rw[e3] at hC3;refine Fn.enter Tryz.func138 rfl rfl rfl ?_;intro w hw
   repeat (first|refine Tk ?_|intro _|exact Tz)
   refine WC.adraw 16 (k:=?_)
   repeat (first|refine Da ?_|refine DQ.acall (hc:=vS) (k:=?_)|refine DQ.acall (hc:=hC1) (k:=?_)|refine DQ.acall (hc:=hC2) (k:=?_)|refine DQ.acall (hc:=hC3) (k:=?_)|refine Dc ?_)
   refine DQ.anil (k:=?_);intro sx _
   repeat (first|refine Tk ?_|intro _|exact Tz)
  ·rw[e1] at hC1;rw[e2] at hC2;rw[e3] at hC3;refine Fn.enter Tryz.func138 rfl rfl rfl ?_;intro w hw
   repeat (first|refine Tk ?_|intro _|exact Tz)
   refine WC.adraw 16 (k:=?_)
   repeat (first|refine Da ?_|refine DQ.acall (hc:=vS) (k:=?_)|refine DQ.acall (hc:=hC1) (k:=?_)|refine DQ.acall (hc:=hC2) (k:=?_)|refine DQ.acall (hc:=hC3) (k:=?_)|refine Dc ?_)
   refine DQ.anil (k:=?_);intro sx _
   repeat (first|refine Tk ?_|intro _|exact Tz)
theorem zL {a b m:Nat} (h:zK a b m=true):1<m∧a<m∧b<m:=by
 unfold zK at h;simp at h;exact⟨h.1.1,h.1.2,h.2⟩
abbrev rE (c:Bool) (r:Nat):Value:=.tuple #[zi (okV c r),.int .i64 (okE c)]
theorem adF (a b m:Nat) (ha:a<ze) (hb:b<ze) (hm:m<ze):Fn Tryz.prog 197 [zi a,zi b,zi m] Tr (Is (rE (zK a b m) ((a+b)%m))):=by
 have hO:=aek (f:=236) [] a b m ((a+b)%m) ha hb hm Tr zU.tr (fun h=>ad0 a b m (zL h).2.1 (zL h).2.2 hm);refine Fn.enter Tryz.func197 rfl rfl rfl ?_;intro w hw
 repeat (first|refine Tj ?_|intro _|refine WO.acall (hc:=hO) (k:=?_)|refine Tc ?_|exact Tz)
theorem ab5 (a b m:Nat) (ha:a<ze) (hb:b<ze) (hm:m<ze):Fn Tryz.prog 198 [zi a,zi b,zi m] Tr (Is (rE (zK a b m) ((a+m - b)%m))):=by
 have hO:=aek (f:=238) [] a b m ((a+m - b)%m) ha hb hm Tr zU.tr (fun h=>adK a b m (zL h).2.1 (zL h).2.2 hm);refine Fn.enter Tryz.func198 rfl rfl rfl ?_;intro w hw
 repeat (first|refine Tj ?_|intro _|refine WO.acall (hc:=hO) (k:=?_)|refine Tc ?_|exact Tz)
theorem acO (a b m:Nat) (ha:a<ze) (hb:b<ze) (hm:m<ze):Fn Tryz.prog 202 [zi a,zi b,zi m] Tr (Is (rE (zK a b m) (a*b%m))):=by
 have hO:=aek (f:=137) [] a b m (a*b%m) ha hb hm Tr zU.tr (fun h=>lz a b m (zL h).2.1 (zL h).2.2 hm);refine Fn.enter Tryz.func202 rfl rfl rfl ?_;intro w hw
 repeat (first|refine Tj ?_|intro _|refine WO.acall (hc:=hO) (k:=?_)|refine Tc ?_|exact Tz)
def ci (n N k:Nat):Nat:=n / 2 ^ (N - k)
theorem qT {n N:Nat} (h:n<2 ^ N):ci n N 0=0:=Nat.div_eq_of_lt (by simpa using h)
theorem kz (n N:Nat):ci n N N=n:=by unfold ci;simp
theorem nw (n:Nat) {N k:Nat} (h:k<N):ci n N (k+1)=2*ci n N k+vK n (N - 1 - k):=by
 unfold ci vK;have e:N - k=(N - 1 - k)+1:=by omega
 have e2:N - (k+1)=N - 1 - k:=by omega
 rw[e2,e,Nat.pow_succ,← Nat.div_div_eq_div_mul];omega
theorem mw (a m t b:Nat) (hb:b=0∨b=1):a ^ (2*t+b)%m=if b=1 then (a ^ t%m*(a ^ t%m)%m)*a%m else a ^ t%m*(a ^ t%m)%m:=by
 have h1:a ^ (2*t)%m=a ^ t%m*(a ^ t%m)%m:=by rw[Nat.two_mul,Nat.pow_add,Nat.mul_mod]
 rcases hb with rfl|rfl
 ·simpa using h1
 ·rw[if_pos rfl,Nat.pow_succ,Nat.mul_mod,h1,Nat.mul_mod_mod]
theorem sE (a i:Nat):vK a i=0∨vK a i=1:=by unfold vK;omega
theorem uB (n:Nat):n<2 ^ zF n:=tj n
theorem nR {n:Nat} (h:n<ze):zF n≤256:=yU (by simpa [ze] using h)
theorem bk {f:Nat} [Cal Tryz.prog f] (caps:LV) (a n m:Nat) (h1:1<m) (ha:a<m) (hn:n<ze) (hm:m<18446744073709551616) (R:World→Prop) (hst:zU R)
  (hf:∀ x y:Nat,x<m→y<m→Fn Tryz.prog f ([.int .u64 (x:Int),.int .u64 (y:Int)]++caps) R (Is (.int .u64 ((x*y%m:Nat):Int)))) :
  Fn Tryz.prog 132 [.int .u64 (a:Int),.int .u64 1,zi n,.func (.func f) #[] caps.toArray] R (Is (.int .u64 ((a ^ n%m:Nat):Int))):=by
 have hB:=nD n hn;have hlt:=uB n;have hN:=nR hn;have hbit:∀ i:Int,0≤i→i≤1000000→Fn Tryz.prog 182 [zi n,.int .i64 i] Tr (Is (.int .u64 (vK n i.toNat:Nat))):=fun i h0 h1=>adY n i hn h0 h1;have hend:=kz n (zF n);have hst0:=qT hlt;have hstep:=fun k (h:k<zF n)=>nw n h;generalize zF n=N at *;refine Fn.enter Tryz.func132 rfl rfl rfl ?_;intro w hw
 repeat (first|refine Tj ?_|intro _|refine WO.acall (hc:=hB) (k:=?_)|refine Tc ?_|exact Tz)
 rename_i g6;refine WC.loopI (σ:=Nat × Nat) (fun s=>s.1≤N∧s.2=a ^ ci n N s.1%m) (fun s=>[(0,.int .u64 (a:Int)),(3,.func (.func f) #[] caps.toArray),(6,pt g6),(9,.int .u64 (s.2:Int)),(13,.int .i64 (N:Int)),(14,.int .i64 (s.1:Int))]) (fun s=>[⟨g6,24,zc n⟩]) (fun s=>N - s.1) (0,1) (fun s hs=>?_) ⟨Nat.zero_le _,by rw[hst0,Nat.pow_zero,Nat.mod_eq_of_lt h1]⟩;obtain⟨k,x⟩:=s;obtain⟨hk,hx⟩:=hs;dsimp only at hk hx ⊢;have hxm:x<m:=by rw[hx];exact Nat.mod_lt _ Om
 by_cases hlt:(k:Int)<(N:Int)
 ·have hkN:k<N:=by omega
  have hsq:=hf x x hxm hxm;have hma:=hf (x*x%m) a (Nat.mod_lt _ Om) ha;have hbt:=hbit ((N:Int) - 1 - (k:Int)) Om Om;rw[show ((N:Int) - 1 - (k:Int)).toNat=N - 1 - k by omega] at hbt;have hp:=mw a m (ci n N k) (vK n (N - 1 - k)) (sE _ _);rw[← hstep k hkN,← hx] at hp
  repeat (first|refine Tk ?_|intro _|exact Tz)
  refine WC.dT rfl hlt ?_
  repeat (first|refine Tj ?_|intro _|refine WO.acallV (hc:=hsq) (hR:=fun w' hm=>hst _ _ hw hm.mod.below) (k:=?_)|refine Tc ?_|exact Tz)
  rcases sE n (N - 1 - k) with e|e
  ·rw[e] at hbt hp;refine WC.adraw 8 (k:=?_)
   repeat (first|refine Da ?_|refine DQ.acall (hc:=hB) (k:=?_)|refine DQ.acall (hc:=hbt) (k:=?_)|refine Dc ?_)
   refine DQ.anil (k:=?_);intro sx _
   repeat (first|refine Tk ?_|intro _|exact Tz)
   refine WX.metI (k+1,x*x%m) (hs:=⟨⟨by omega,by simpa using hp.symm⟩,by simp only;omega⟩)
  ·rw[e] at hbt hp;refine WC.adraw 8 (k:=?_)
   repeat (first|refine Da ?_|refine DQ.acall (hc:=hB) (k:=?_)|refine DQ.acall (hc:=hbt) (k:=?_)|refine Dc ?_)
   refine DQ.anil (k:=?_);intro sx _
   repeat (first|refine Tj ?_|intro _|refine WO.acallV (hc:=hma) (hR:=fun w' hm=>hst _ _ hw hm.mod.below) (k:=?_)|refine Tc ?_|exact Tz)
   refine WX.metI (k+1,x*x%m*a%m) (hs:=⟨⟨by omega,by simpa using hp.symm⟩,by simp only;omega⟩)
 ·have hkN:k=N:=by omega
  subst hkN;rw[hend] at hx;subst hx
  repeat (first|refine Tk ?_|intro _|exact Tz)
  refine WC.dF rfl hlt ?_
  repeat (first|refine Tk ?_|intro _|exact Tz)
end Sx
end
section
open Go Go.RowKit
namespace Sx
attribute [local irreducible] DQ WC WO WX
theorem aam {f:Nat} [Cal Tryz.prog f] (caps:LV) (a n m:Nat) (h1:1<m) (ha:a<m) (hn:n<ze) (R:World→Prop) (hst:zU R)
  (hf:∀ x y:Nat,x<m→y<m→Fn Tryz.prog f ([zi x,zi y]++caps) R (Is (zi (x*y%m)))) :
  Fn Tryz.prog 135 [zi a,zi 1,zi n,.func (.func f) #[] caps.toArray] R (Is (zi (a ^ n%m))):=by
 have hB:=nD n hn;have hlt:=uB n;have hN:=nR hn;have hbit:∀ i:Int,0≤i→i≤1000000→Fn Tryz.prog 182 [zi n,.int .i64 i] Tr (Is (.int .u64 (vK n i.toNat:Nat))):=fun i h0 h1=>adY n i hn h0 h1;have hend:=kz n (zF n);have hst0:=qT hlt;have hstep:=fun k (h:k<zF n)=>nw n h;generalize zF n=N at *;refine Fn.enter Tryz.func135 rfl rfl rfl ?_;intro w hw
 repeat (first|refine Tj ?_|intro _|refine WO.acall (hc:=hB) (k:=?_)|refine Tc ?_|exact Tz)
 rename_i g4 g5 g6 g8 g9
 refine WC.loopI (σ:=Nat × Nat) (fun s=>s.1≤N∧s.2=a ^ ci n N s.1%m) (fun s=>[(3,.func (.func f) #[] caps.toArray),(4,pt g4),(6,pt g6),(8,pt g8),(9,pt g9),(13,.int .i64 (N:Int)),(14,.int .i64 (s.1:Int))])
  (fun s=>[⟨g4,24,zc a⟩,⟨g6,24,zc n⟩,⟨g8,24,zc 0⟩,⟨g9,24,zc s.2⟩]) (fun s=>N - s.1) (0,1) (fun s hs=>?_) ⟨Nat.zero_le _,by rw[hst0,Nat.pow_zero,Nat.mod_eq_of_lt h1]⟩
 obtain⟨k,x⟩:=s;obtain⟨hk,hx⟩:=hs;dsimp only at hk hx ⊢;have hxm:x<m:=by rw[hx];exact Nat.mod_lt _ Om
 by_cases hlt:(k:Int)<(N:Int)
 ·have hkN:k<N:=by omega
  have hsq:=hf x x hxm hxm;have hma:=hf (x*x%m) a (Nat.mod_lt _ Om) ha;have hbt:=hbit ((N:Int) - 1 - (k:Int)) Om Om;rw[show ((N:Int) - 1 - (k:Int)).toNat=N - 1 - k by omega] at hbt;have hp:=mw a m (ci n N k) (vK n (N - 1 - k)) (sE _ _);rw[← hstep k hkN,← hx] at hp
  repeat (first|refine Tk ?_|intro _|exact Tz)
  refine WC.dT rfl hlt ?_
  repeat (first|refine Tj ?_|intro _|refine WO.acallV (hc:=hsq) (hR:=fun w' hm=>hst _ _ hw hm.mod.below) (k:=?_)|refine Tc ?_|exact Tz)
  rcases sE n (N - 1 - k) with e|e
  ·rw[e] at hbt hp;refine WC.adraw 8 (k:=?_)
   repeat (first|refine Da ?_|refine DQ.acall (hc:=hB) (k:=?_)|refine DQ.acall (hc:=hbt) (k:=?_)|refine Dc ?_)
   refine DQ.anil (k:=?_);intro sx _
   repeat (first|refine Tk ?_|intro _|exact Tz)
   refine WX.metI (k+1,x*x%m) (hs:=⟨⟨by omega,by simpa using hp.symm⟩,by simp only;omega⟩)
  ·rw[e] at hbt hp;refine WC.adraw 8 (k:=?_)
   repeat (first|refine Da ?_|refine DQ.acall (hc:=hB) (k:=?_)|refine DQ.acall (hc:=hbt) (k:=?_)|refine Dc ?_)
   refine DQ.anil (k:=?_);intro sx _
   repeat (first|refine Tj ?_|intro _|refine WO.acallV (hc:=hma) (hR:=fun w' hm=>hst _ _ hw hm.mod.below) (k:=?_)|refine Tc ?_|exact Tz)
   refine WX.metI (k+1,x*x%m*a%m) (hs:=⟨⟨by omega,by simpa using hp.symm⟩,by simp only;omega⟩)
 ·have hkN:k=N:=by omega
  subst hkN;rw[hend] at hx;subst hx
  repeat (first|refine Tk ?_|intro _|exact Tz)
  refine WC.dF rfl hlt ?_
  repeat (first|refine Tk ?_|intro _|exact Tz)
theorem acp (a b m g:Nat) (ha:a<m) (hb:b<m) (hm:m<18446744073709551616):Fn Tryz.prog 133 [.int .u64 (a:Int),.int .u64 (b:Int),pt g] (fun w=>Seg w g 0 (zc m)) (Is (.int .u64 ((a*b%m:Nat):Int))):=by
 have hW:=aeo a b m ha hb hm;have e:wd 0 m=m:=Nat.mod_eq_of_lt hm;rw[← e] at hW;refine Fn.enter Tryz.func133 rfl rfl rfl ?_;intro w hw;rw[← e]
 repeat (first|refine Tj ?_|intro _|refine WO.acall (hc:=hW) (k:=?_)|refine Tc ?_|exact Tz)
theorem acn (a b m g:Nat) (ha:a<m) (hb:b<m) (hm:m<ze):Fn Tryz.prog 136 [zi a,zi b,pt g] (fun w=>Seg w g 0 (zc m)) (Is (zi (a*b%m))):=by
 have hW:=lz a b m ha hb hm;refine Fn.enter Tryz.func136 rfl rfl rfl ?_;intro w hw
 repeat (first|refine Tj ?_|intro _|refine WO.acall (hc:=hW) (k:=?_)|refine Tc ?_|exact Tz)
theorem aeZ (a n m g:Nat) (h1:1<m) (ha:a<m) (hm:m<ze) (hn:n<ze):Fn Tryz.prog 130 [zi a,zi a,zi m,pt g] (fun w=>Seg w g 0 (zc n)) (Is (zi (a ^ n%m))):=by
 have hB:=nD m hm
 by_cases hs:m<18446744073709551616
 ·have hle:((zF m:Nat):Int)≤64:=by have:zF m≤64:=yU (by simpa using hs);omega
  have ea:wd 0 a=a:=Nat.mod_eq_of_lt Om
  have hP:∀ g,Fn Tryz.prog 132 [.int .u64 ((wd 0 a:Nat):Int),.int .u64 1,zi n,.func (.func 133) #[] #[pt g]] (fun w=>Seg w g 0 (zc m)) (Is (.int .u64 ((a ^ n%m:Nat):Int))) :=
   fun g=>by rw[ea];exact bk [pt g] a n m h1 ha hn hs _ zU.seg (fun x y hx hy=>acp x y m g hx hy hs)
  have hO:=aas (a ^ n%m) (Nat.lt_trans (Nat.mod_lt _ Om) hs);generalize zF m=N at *;refine Fn.enter Tryz.func130 rfl rfl rfl ?_;intro w hw
  repeat (first|refine Tj ?_|intro _|refine WO.acall (hc:=hB) (k:=?_)|refine Tc ?_|exact Tz)
  refine WC.dT rfl hle ?_
  repeat (first|refine Tj ?_|intro _|refine WO.acall (hc:=hO) (k:=?_)|refine WO.acallR (hc:=hP _) (hR:=fun w' hm=>Hs.sg hm) (k:=?_)|refine Tc ?_|exact Tz)
 ·have hle:¬ ((zF m:Nat):Int)≤64:=by
   intro h;have:zF m≤64:=by omega
   rw[yQ] at this;exact hs (by simpa using this)
  have hP:∀ g,Fn Tryz.prog 135 [zi a,zi 1,zi n,.func (.func 136) #[] #[pt g]] (fun w=>Seg w g 0 (zc m)) (Is (zi (a ^ n%m))) :=
   fun g=>aam [pt g] a n m h1 ha hn _ zU.seg (fun x y hx hy=>acn x y m g hx hy hm)
  generalize zF m=N at *;refine Fn.enter Tryz.func130 rfl rfl rfl ?_;intro w hw
  repeat (first|refine Tj ?_|intro _|refine WO.acall (hc:=hB) (k:=?_)|refine Tc ?_|exact Tz)
  refine WC.dF rfl hle ?_
  repeat (first|refine Tk ?_|intro _|exact Tz)
  refine WC.adraw 5 (k:=?_)
  repeat (first|refine Da ?_|refine DQ.acall (hc:=vS) (k:=?_)|refine DQ.acallR (hc:=hP _) (hR:=fun w' hm=>Hs.sg hm) (k:=?_)|refine Dc ?_)
  refine DQ.anil (k:=?_);intro sx _
  repeat (first|refine Tk ?_|intro _|exact Tz)
theorem afu (a n m:Nat) (ha:a<ze) (hn:n<ze) (hm:m<ze):Fn Tryz.prog 62 [zi a,zi n,zi m] Tr (Is (rE (zK a a m) (a ^ n%m))):=by
 have hO:=fun g=>aek (f:=130) [pt g] a a m (a ^ n%m) ha ha hm _ zU.seg (fun h=>aeZ a n m g (zL h).1 (zL h).2.1 hm hn);refine Fn.enter Tryz.func62 rfl rfl rfl ?_;intro w hw
 repeat (first|refine Tj ?_|intro _|refine WO.acallR (hc:=hO _) (hR:=fun w' hm=>Hs.sg hm) (k:=?_)|refine Tc ?_|exact Tz)
end Sx
end
section
namespace Sx
def iL (m r s x y:Nat):Nat:=if h:s≤1 then y else iL m s (r%s) y ((x+m - r / s*y%m)%m)
termination_by s
decreasing_by exact Nat.mod_lt _ Om
def uG (a m:Nat):Nat:=if Nat.gcd a m=1 then iL m m a 0 1 else 0
theorem mZ {a b m:Int} (h:m ∣ a - b):a%m=b%m:=by
 obtain⟨c,hc⟩:=h;have:a=b+m*c:=by omega
 rw[this,Int.add_mul_emod_self_left]
theorem mV {a b m:Int} (h:a%m=b%m):m ∣ a - b:=Int.dvd_of_emod_eq_zero (by rw[Int.sub_emod,h,Int.sub_self,Int.zero_emod])
theorem ii {a b m:Nat} (h:(m:Int) ∣ (a:Int) - (b:Int)):a%m=b%m:=by
 have:=mZ h;rw[← Int.natCast_emod,← Int.natCast_emod] at this;exact Int.ofNat.inj this
theorem qS {a b m:Nat} (h:a%m=b%m):(m:Int) ∣ (a:Int) - (b:Int):=by
 apply mV;rw[← Int.natCast_emod,← Int.natCast_emod,h]
theorem bO {a m r s x y:Nat} (hm:0<m) (h1:x*a%m=r%m) (h2:y*a%m=s%m):(x+m - r / s*y%m)%m*a%m=r%s%m:=by
 have ht:r / s*y%m<m:=Nat.mod_lt _ hm;have e1:r=s*(r / s)+r%s:=(Nat.div_add_mod r s).symm;have e2:r / s*y=m*(r / s*y / m)+r / s*y%m:=(Nat.div_add_mod _ m).symm;have e3:x+m - r / s*y%m=m*((x+m - r / s*y%m) / m)+(x+m - r / s*y%m)%m:=(Nat.div_add_mod _ m).symm;have d1:=qS h1;have d2:=qS h2;apply ii;generalize hz:(x+m - r / s*y%m)%m=z at *;generalize (x+m - r / s*y%m) / m=k at *;generalize hu:r / s*y%m=u at *;generalize r / s*y / m=l at *;generalize r / s=q at *;generalize r%s=p at *;obtain⟨c1,hc1⟩:=d1;obtain⟨c2,hc2⟩:=d2;have f3:(x:Int)+m - u=m*k+z:=by
  have:((x+m - u:Nat):Int)=((m*k+z:Nat):Int):=by rw[e3]
  rw[Int.ofNat_sub Om] at this;push_cast at this;exact this
 have f2:(q:Int)*y=m*l+u:=by exact_mod_cast e2
 have f1:(r:Int)=s*q+p:=by exact_mod_cast e1
 push_cast at hc1 hc2 ⊢;refine⟨c1 - q*c2+a - k*a+l*a,?_⟩;have hz' : (z:Int)=x+m - (q*y - m*l) - m*k:=by omega
 have:(z:Int)*a - p=(x*a - r) - q*(y*a - s)+m*a+m*(l*a) - m*(k*a):=by
  rw[hz',f1];simp only[Int.sub_mul,Int.add_mul,Int.mul_sub,Int.mul_add,Int.mul_assoc,Int.mul_comm,Int.mul_left_comm];omega
 rw[this,hc1,hc2];simp only[Int.sub_mul,Int.add_mul,Int.mul_sub,Int.mul_add,Int.mul_assoc,Int.mul_comm,Int.mul_left_comm];omega
theorem kP {m r x y:Nat}:iL m r 1 x y=y:=by unfold iL;simp
theorem nW {m r s x y:Nat} (h:1<s):iL m r s x y=iL m s (r%s) y ((x+m - r / s*y%m)%m):=by
 rw[iL];rw[dif_neg Om]
theorem kY {r s:Nat} (hs:1<s) (hg:Nat.gcd r s=1):0<r%s:=by
 rcases Nat.eq_zero_or_pos (r%s) with h|h
 ·exfalso;have h1:s ∣ r:=Nat.dvd_of_mod_eq_zero h;have:Nat.gcd r s=s:=Nat.gcd_eq_right h1;omega
 ·exact h
theorem jg {r s:Nat} (hg:Nat.gcd r s=1):Nat.gcd s (r%s)=1:=by
 rw[Nat.gcd_comm s,← Nat.gcd_rec,Nat.gcd_comm];exact hg
theorem dn (m a:Nat) (hm:1<m):∀ (s r x y:Nat),0<s→Nat.gcd r s=1→x*a%m=r%m→y*a%m=s%m→y<m→iL m r s x y*a%m=1∧iL m r s x y<m:=by
 intro s
 induction s using Nat.strongRecOn with
 | _ s ih =>
  intro r x y hs hg h1 h2 hy
  by_cases e:s=1
  ·subst e;rw[kP,h2,Nat.mod_eq_of_lt hm];exact⟨rfl,hy⟩
  ·rw[nW Om];exact ih (r%s) (Nat.mod_lt _ hs) s y _ (kY Om hg) (jg hg) h2 (bO Om h1 h2) (Nat.mod_lt _ Om)
theorem tu {m a:Nat} (hm:1<m) (ha:a<m) (hg:Nat.gcd a m=1):uG a m*a%m=1∧uG a m<m:=by
 unfold uG;rw[if_pos hg];have h0:0<a:=by
  rcases Nat.eq_zero_or_pos a with h|h
  ·subst h;rw[Nat.gcd_zero_left] at hg;omega
  ·exact h
 exact dn m a hm a m 0 1 h0 (by rw[Nat.gcd_comm];exact hg) Sm Sm hm
theorem ab3 {m a:Nat} (hm:1<m) (ha:a<m) (hg:Nat.gcd a m=1):uG a m≠0:=by
 intro h;have:=(tu hm ha hg).1;rw[h] at this;simp at this
theorem ly {m a:Nat} (hg:Nat.gcd a m≠1):uG a m=0:=by unfold uG;rw[if_neg hg]
def iM (a m:Nat):Int:=if zK a a m then (if Nat.gcd a m=1 then 0 else 7) else 1
end Sx
end
section
open Go Go.RowKit
namespace Sx
attribute [local irreducible] DQ WC WO WT WX wd
theorem agh {r s m:Nat} (hs:1<s) (hr:r≤m) (hm:1<m):r / s<m:=Nat.lt_of_le_of_lt (Nat.div_le_div_right hr) (Nat.div_lt_self Om hs)
theorem adT (a m:Nat) (h1:1<m) (ha:a<m) (hm:m<ze):Fn Tryz.prog 213 [zi a,zi a,zi m] Tr (Is (zi (uG a m))):=by
 have haB:a<ze:=by omega
 have hG:=c9 a m haB hm;have hgB:Nat.gcd a m<ze:=Nat.lt_of_le_of_lt (Nat.gcd_le_right _ Om) hm
 by_cases hg:Nat.gcd a m=1
 ·have hne:¬ (Nat.gcd a m≠1):=fun h=>h hg;have hinv:uG a m=iL m m a 0 1:=by unfold uG;rw[if_pos hg]
  have h0:0<a:=by
   rcases Nat.eq_zero_or_pos a with h|h
   ·subst h;rw[Nat.gcd_zero_left] at hg;omega
   ·exact h
  have hgm:Nat.gcd m a=1:=by rw[Nat.gcd_comm];exact hg
  rw[hinv];refine Fn.enter Tryz.func213 rfl rfl rfl ?_;intro w hw
  repeat (first|refine Tj ?_|intro _|refine WO.acall (hc:=hG) (k:=?_)|refine WO.acall (hc:=vS) (k:=?_)|refine Tc ?_|exact Tz)
  refine WC.dF rfl hne ?_
  repeat (first|refine Tk ?_|intro _|exact Tz)
  rename_i g3 g4 g5 g6;refine WC.mainA [4,5,6,7,8,9,10,11] [(0,zi m),(1,zi a),(2,zi 0),(3,zi 1)] Dt (fun A hA=>?_);refine WT.given [(3,pt g3),(5,pt g5),(6,pt g6)] [⟨g3,24,zc a⟩,⟨g5,24,zc m⟩] Kr (Tlv.a (Tlv.a (Tlv.call nL (fun _ _=>trivial) (Tlv.call vS (fun _ _=>trivial) (Tlv.nil))))) (fun hc hT=>?_)
  suffices hS4080:∀ q4 q5 q6 q7,A [11,10,9,8,7,6,5,4] [(7,pt q4),(8,pt q5),(9,pt q6),(10,pt q7),(3,pt g3),(5,pt g5),(6,pt g6)] [⟨q4,24,zc m⟩,⟨q5,24,zc a⟩,⟨q6,24,zc 0⟩,⟨q7,24,zc 1⟩,⟨g3,24,zc a⟩,⟨g5,24,zc m⟩,⟨g6,24,zc 0⟩] by
   have hS2032:∀ q4 q5 q6 q7,A [10,9,8,7,6,5,4] [(7,pt q4),(8,pt q5),(9,pt q6),(10,pt q7),(3,pt g3),(5,pt g5),(6,pt g6)] [⟨q4,24,zc m⟩,⟨q5,24,zc a⟩,⟨q6,24,zc 0⟩,⟨q7,24,zc 0⟩,⟨g3,24,zc a⟩,⟨g5,24,zc m⟩,⟨g6,24,zc 0⟩]:=by
    intro q4 q5 q6 q7;refine (hA _ _ _).2 (WT.step [11] Dt hc hT ⟨⟨_,rfl,?_⟩,trivial⟩)
    ·refine Tw ?_;exact WT.go [] hA (hS4080 q4 q5 q6 q7)
   have hS1008:∀ q4 q5 q6 q7,A [9,8,7,6,5,4] [(7,pt q4),(8,pt q5),(9,pt q6),(10,pt q7),(3,pt g3),(5,pt g5),(6,pt g6)] [⟨q4,24,zc m⟩,⟨q5,24,zc a⟩,⟨q6,24,zc 0⟩,⟨q7,24,zc 0⟩,⟨g3,24,zc a⟩,⟨g5,24,zc m⟩,⟨g6,24,zc 0⟩]:=by
    intro q4 q5 q6 q7;refine (hA _ _ _).2 (WT.step [10] Dt hc hT ⟨⟨_,rfl,?_⟩,trivial⟩)
    ·refine Tw ?_;exact WT.go [] hA (hS2032 q4 q5 q6 q7)
   have hS496:∀ q4 q5 q6 q7,A [8,7,6,5,4] [(7,pt q4),(8,pt q5),(9,pt q6),(10,pt q7),(3,pt g3),(5,pt g5),(6,pt g6)] [⟨q4,24,zc m⟩,⟨q5,24,zc 0⟩,⟨q6,24,zc 0⟩,⟨q7,24,zc 0⟩,⟨g3,24,zc a⟩,⟨g5,24,zc m⟩,⟨g6,24,zc 0⟩]:=by
    intro q4 q5 q6 q7;refine (hA _ _ _).2 (WT.step [9] Dt hc hT ⟨⟨_,rfl,?_⟩,trivial⟩)
    ·refine Tw ?_;exact WT.go [] hA (hS1008 q4 q5 q6 q7)
   have hS240:∀ q4 q5 q6 q7,A [7,6,5,4] [(7,pt q4),(8,pt q5),(9,pt q6),(10,pt q7),(3,pt g3),(5,pt g5),(6,pt g6)] [⟨q4,24,zc 0⟩,⟨q5,24,zc 0⟩,⟨q6,24,zc 0⟩,⟨q7,24,zc 0⟩,⟨g3,24,zc a⟩,⟨g5,24,zc m⟩,⟨g6,24,zc 0⟩]:=by
    intro q4 q5 q6 q7;refine (hA _ _ _).2 (WT.step [8] Dt hc hT ⟨⟨_,rfl,?_⟩,trivial⟩)
    ·refine Tw ?_;exact WT.go [] hA (hS496 q4 q5 q6 q7)
   have hS112:∀ q4 q5 q6,A [6,5,4] [(7,pt q4),(8,pt q5),(9,pt q6),(3,pt g3),(5,pt g5),(6,pt g6)] [⟨q4,24,zc 0⟩,⟨q5,24,zc 0⟩,⟨q6,24,zc 0⟩,⟨g3,24,zc a⟩,⟨g5,24,zc m⟩,⟨g6,24,zc 0⟩]:=by
    intro q4 q5 q6;refine (hA _ _ _).2 (WT.step [7] Dt hc hT ⟨⟨_,rfl,?_⟩,trivial⟩)
    ·(refine WO.autoM (k:=?_);intro q7);exact WT.go [(10,pt q7)] hA (hS240 q4 q5 q6 q7)
   have hS176:∀ q4 q5 q7,A [7,5,4] [(7,pt q4),(8,pt q5),(10,pt q7),(3,pt g3),(5,pt g5),(6,pt g6)] [⟨q4,24,zc 0⟩,⟨q5,24,zc 0⟩,⟨q7,24,zc 0⟩,⟨g3,24,zc a⟩,⟨g5,24,zc m⟩,⟨g6,24,zc 0⟩]:=by
    intro q4 q5 q7;refine (hA _ _ _).2 (WT.step [6] Dt hc hT ⟨⟨_,rfl,?_⟩,trivial⟩)
    ·(refine WO.autoM (k:=?_);intro q6);exact WT.go [(9,pt q6)] hA (hS240 q4 q5 q6 q7)
   have hS208:∀ q4 q6 q7,A [7,6,4] [(7,pt q4),(9,pt q6),(10,pt q7),(3,pt g3),(5,pt g5),(6,pt g6)] [⟨q4,24,zc 0⟩,⟨q6,24,zc 0⟩,⟨q7,24,zc 0⟩,⟨g3,24,zc a⟩,⟨g5,24,zc m⟩,⟨g6,24,zc 0⟩]:=by
    intro q4 q6 q7;refine (hA _ _ _).2 (WT.step [5] Dt hc hT ⟨⟨_,rfl,?_⟩,trivial⟩)
    ·(refine WO.autoM (k:=?_);intro q5);exact WT.go [(8,pt q5)] hA (hS240 q4 q5 q6 q7)
   have hS224:∀ q5 q6 q7,A [7,6,5] [(8,pt q5),(9,pt q6),(10,pt q7),(3,pt g3),(5,pt g5),(6,pt g6)] [⟨q5,24,zc 0⟩,⟨q6,24,zc 0⟩,⟨q7,24,zc 0⟩,⟨g3,24,zc a⟩,⟨g5,24,zc m⟩,⟨g6,24,zc 0⟩]:=by
    intro q5 q6 q7;refine (hA _ _ _).2 (WT.step [4] Dt hc hT ⟨⟨_,rfl,?_⟩,trivial⟩)
    ·(refine WO.autoM (k:=?_);intro q4);exact WT.go [(7,pt q4)] hA (hS240 q4 q5 q6 q7)
   have hS48:∀ q4 q5,A [5,4] [(7,pt q4),(8,pt q5),(3,pt g3),(5,pt g5),(6,pt g6)] [⟨q4,24,zc 0⟩,⟨q5,24,zc 0⟩,⟨g3,24,zc a⟩,⟨g5,24,zc m⟩,⟨g6,24,zc 0⟩]:=by
    intro q4 q5;refine (hA _ _ _).2 (WT.step [6,7] Dt hc hT ⟨⟨_,rfl,?_⟩,⟨_,rfl,?_⟩,trivial⟩)
    ·(refine WO.autoM (k:=?_);intro q6);exact WT.go [(9,pt q6)] hA (hS112 q4 q5 q6)
    ·(refine WO.autoM (k:=?_);intro q7);exact WT.go [(10,pt q7)] hA (hS176 q4 q5 q7)
   have hS80:∀ q4 q6,A [6,4] [(7,pt q4),(9,pt q6),(3,pt g3),(5,pt g5),(6,pt g6)] [⟨q4,24,zc 0⟩,⟨q6,24,zc 0⟩,⟨g3,24,zc a⟩,⟨g5,24,zc m⟩,⟨g6,24,zc 0⟩]:=by
    intro q4 q6;refine (hA _ _ _).2 (WT.step [5,7] Dt hc hT ⟨⟨_,rfl,?_⟩,⟨_,rfl,?_⟩,trivial⟩)
    ·(refine WO.autoM (k:=?_);intro q5);exact WT.go [(8,pt q5)] hA (hS112 q4 q5 q6)
    ·(refine WO.autoM (k:=?_);intro q7);exact WT.go [(10,pt q7)] hA (hS208 q4 q6 q7)
   have hS144:∀ q4 q7,A [7,4] [(7,pt q4),(10,pt q7),(3,pt g3),(5,pt g5),(6,pt g6)] [⟨q4,24,zc 0⟩,⟨q7,24,zc 0⟩,⟨g3,24,zc a⟩,⟨g5,24,zc m⟩,⟨g6,24,zc 0⟩]:=by
    intro q4 q7;refine (hA _ _ _).2 (WT.step [5,6] Dt hc hT ⟨⟨_,rfl,?_⟩,⟨_,rfl,?_⟩,trivial⟩)
    ·(refine WO.autoM (k:=?_);intro q5);exact WT.go [(8,pt q5)] hA (hS176 q4 q5 q7)
    ·(refine WO.autoM (k:=?_);intro q6);exact WT.go [(9,pt q6)] hA (hS208 q4 q6 q7)
   have hS96:∀ q5 q6,A [6,5] [(8,pt q5),(9,pt q6),(3,pt g3),(5,pt g5),(6,pt g6)] [⟨q5,24,zc 0⟩,⟨q6,24,zc 0⟩,⟨g3,24,zc a⟩,⟨g5,24,zc m⟩,⟨g6,24,zc 0⟩]:=by
    intro q5 q6;refine (hA _ _ _).2 (WT.step [4,7] Dt hc hT ⟨⟨_,rfl,?_⟩,⟨_,rfl,?_⟩,trivial⟩)
    ·(refine WO.autoM (k:=?_);intro q4);exact WT.go [(7,pt q4)] hA (hS112 q4 q5 q6)
    ·(refine WO.autoM (k:=?_);intro q7);exact WT.go [(10,pt q7)] hA (hS224 q5 q6 q7)
   have hS160:∀ q5 q7,A [7,5] [(8,pt q5),(10,pt q7),(3,pt g3),(5,pt g5),(6,pt g6)] [⟨q5,24,zc 0⟩,⟨q7,24,zc 0⟩,⟨g3,24,zc a⟩,⟨g5,24,zc m⟩,⟨g6,24,zc 0⟩]:=by
    intro q5 q7;refine (hA _ _ _).2 (WT.step [4,6] Dt hc hT ⟨⟨_,rfl,?_⟩,⟨_,rfl,?_⟩,trivial⟩)
    ·(refine WO.autoM (k:=?_);intro q4);exact WT.go [(7,pt q4)] hA (hS176 q4 q5 q7)
    ·(refine WO.autoM (k:=?_);intro q6);exact WT.go [(9,pt q6)] hA (hS224 q5 q6 q7)
   have hS192:∀ q6 q7,A [7,6] [(9,pt q6),(10,pt q7),(3,pt g3),(5,pt g5),(6,pt g6)] [⟨q6,24,zc 0⟩,⟨q7,24,zc 0⟩,⟨g3,24,zc a⟩,⟨g5,24,zc m⟩,⟨g6,24,zc 0⟩]:=by
    intro q6 q7;refine (hA _ _ _).2 (WT.step [4,5] Dt hc hT ⟨⟨_,rfl,?_⟩,⟨_,rfl,?_⟩,trivial⟩)
    ·(refine WO.autoM (k:=?_);intro q4);exact WT.go [(7,pt q4)] hA (hS208 q4 q6 q7)
    ·(refine WO.autoM (k:=?_);intro q5);exact WT.go [(8,pt q5)] hA (hS224 q5 q6 q7)
   have hS16:∀ q4,A [4] [(7,pt q4),(3,pt g3),(5,pt g5),(6,pt g6)] [⟨q4,24,zc 0⟩,⟨g3,24,zc a⟩,⟨g5,24,zc m⟩,⟨g6,24,zc 0⟩]:=by
    intro q4;refine (hA _ _ _).2 (WT.step [5,6,7] Dt hc hT ⟨⟨_,rfl,?_⟩,⟨_,rfl,?_⟩,⟨_,rfl,?_⟩,trivial⟩)
    ·(refine WO.autoM (k:=?_);intro q5);exact WT.go [(8,pt q5)] hA (hS48 q4 q5)
    ·(refine WO.autoM (k:=?_);intro q6);exact WT.go [(9,pt q6)] hA (hS80 q4 q6)
    ·(refine WO.autoM (k:=?_);intro q7);exact WT.go [(10,pt q7)] hA (hS144 q4 q7)
   have hS32:∀ q5,A [5] [(8,pt q5),(3,pt g3),(5,pt g5),(6,pt g6)] [⟨q5,24,zc 0⟩,⟨g3,24,zc a⟩,⟨g5,24,zc m⟩,⟨g6,24,zc 0⟩]:=by
    intro q5;refine (hA _ _ _).2 (WT.step [4,6,7] Dt hc hT ⟨⟨_,rfl,?_⟩,⟨_,rfl,?_⟩,⟨_,rfl,?_⟩,trivial⟩)
    ·(refine WO.autoM (k:=?_);intro q4);exact WT.go [(7,pt q4)] hA (hS48 q4 q5)
    ·(refine WO.autoM (k:=?_);intro q6);exact WT.go [(9,pt q6)] hA (hS96 q5 q6)
    ·(refine WO.autoM (k:=?_);intro q7);exact WT.go [(10,pt q7)] hA (hS160 q5 q7)
   have hS64:∀ q6,A [6] [(9,pt q6),(3,pt g3),(5,pt g5),(6,pt g6)] [⟨q6,24,zc 0⟩,⟨g3,24,zc a⟩,⟨g5,24,zc m⟩,⟨g6,24,zc 0⟩]:=by
    intro q6;refine (hA _ _ _).2 (WT.step [4,5,7] Dt hc hT ⟨⟨_,rfl,?_⟩,⟨_,rfl,?_⟩,⟨_,rfl,?_⟩,trivial⟩)
    ·(refine WO.autoM (k:=?_);intro q4);exact WT.go [(7,pt q4)] hA (hS80 q4 q6)
    ·(refine WO.autoM (k:=?_);intro q5);exact WT.go [(8,pt q5)] hA (hS96 q5 q6)
    ·(refine WO.autoM (k:=?_);intro q7);exact WT.go [(10,pt q7)] hA (hS192 q6 q7)
   have hS128:∀ q7,A [7] [(10,pt q7),(3,pt g3),(5,pt g5),(6,pt g6)] [⟨q7,24,zc 0⟩,⟨g3,24,zc a⟩,⟨g5,24,zc m⟩,⟨g6,24,zc 0⟩]:=by
    intro q7;refine (hA _ _ _).2 (WT.step [4,5,6] Dt hc hT ⟨⟨_,rfl,?_⟩,⟨_,rfl,?_⟩,⟨_,rfl,?_⟩,trivial⟩)
    ·(refine WO.autoM (k:=?_);intro q4);exact WT.go [(7,pt q4)] hA (hS144 q4 q7)
    ·(refine WO.autoM (k:=?_);intro q5);exact WT.go [(8,pt q5)] hA (hS160 q5 q7)
    ·(refine WO.autoM (k:=?_);intro q6);exact WT.go [(9,pt q6)] hA (hS192 q6 q7)
   have hS0:A [] [(3,pt g3),(5,pt g5),(6,pt g6)] [⟨g3,24,zc a⟩,⟨g5,24,zc m⟩,⟨g6,24,zc 0⟩]:=by
    refine (hA _ _ _).2 (WT.step [4,5,6,7] Dt hc hT ⟨⟨_,rfl,?_⟩,⟨_,rfl,?_⟩,⟨_,rfl,?_⟩,⟨_,rfl,?_⟩,trivial⟩)
    ·(refine WO.autoM (k:=?_);intro q4);exact WT.go [(7,pt q4)] hA (hS16 q4)
    ·(refine WO.autoM (k:=?_);intro q5);exact WT.go [(8,pt q5)] hA (hS32 q5)
    ·(refine WO.autoM (k:=?_);intro q6);exact WT.go [(9,pt q6)] hA (hS64 q6)
    ·(refine WO.autoM (k:=?_);intro q7);exact WT.go [(10,pt q7)] hA (hS128 q7)
   exact WT.less ((hA _ _ _).1 hS0) Dt Kle.a (by repeat (first|exact Lle.nil|exact Lle.same|refine Lle.c ?_))
  intro q4 q5 q6 q7;refine (hA _ _ _).2 (WT.fin [4,5,6,7,8,9,10,11] 6 hc rfl Kr ?_);clear hc hT hA
  repeat (first|refine Tk ?_|intro _|exact Tz)
  refine WC.loopI (σ:=Nat × Nat × Nat × Nat) (fun s=>0<s.2.1∧s.2.1<s.1∧s.1≤m∧Nat.gcd s.1 s.2.1=1∧s.2.2.1<m∧s.2.2.2<m∧iL m s.1 s.2.1 s.2.2.1 s.2.2.2=iL m m a 0 1)
   (fun s=>[(5,pt g5),(6,pt g6),(7,pt q4),(8,pt q5),(9,pt q6),(10,pt q7)])
   (fun s=>[⟨g5,24,zc m⟩,⟨g6,24,zc 0⟩,⟨q4,24,zc s.1⟩,⟨q5,24,zc s.2.1⟩,⟨q6,24,zc s.2.2.1⟩,⟨q7,24,zc s.2.2.2⟩]) (fun s=>s.2.1) (m,a,0,1) (fun s hs=>?_) ⟨h0,ha,Nat.le_refl _,hgm,by show 0<m;omega,h1,rfl⟩
  obtain⟨r,s,x,y⟩:=s;obtain⟨hs0,hsr,hrm,hgc,hx,hy,heq⟩:=hs;dsimp only at hs0 hsr hrm hgc hx hy heq ⊢;have hsB:s<ze:=by omega
  by_cases hs1:s=1
  ·have hno:¬ (s≠1):=fun h=>h hs1;subst hs1;rw[kP] at heq;rw[← heq]
   repeat (first|refine Tk ?_|intro _|exact Tz)
   refine WC.adraw 3 (k:=?_)
   repeat (first|refine Da ?_|refine DQ.acall (hc:=vS) (k:=?_)|refine Dc ?_)
   refine DQ.anil (k:=?_);intro sx _
   repeat (first|refine Tk ?_|intro _|exact Tz)
  ·have hD:=afT r s Om hsB hs0;have hq:=agh (r:=r) (s:=s) (m:=m) Om hrm h1;have hT:=lz (r / s) y m hq hy hm;have hS:=ab5 x (r / s*y%m) m Om (Nat.lt_trans (Nat.mod_lt _ Om) hm) hm;have hmay:zK x (r / s*y%m) m=true:=by unfold zK;simp[h1,hx,Nat.mod_lt _ (show 0<m by omega)]
   rw[hmay] at hS;have hnext:=nW (m:=m) (r:=r) (x:=x) (y:=y) (show 1<s by omega);have hpos:=kY (show 1<s by omega) hgc;have hlt:=Nat.mod_lt r hs0;have hgn:=jg hgc;have hz:(x+m - r / s*y%m)%m<m:=Nat.mod_lt _ Om;rw[heq] at hnext;generalize (x+m - r / s*y%m)%m=z at *;generalize r / s*y%m=u at *;generalize r / s=q at *;generalize r%s=p at *
   repeat (first|refine Tk ?_|intro _|exact Tz)
   refine WC.adraw 3 (k:=?_)
   repeat (first|refine Da ?_|refine DQ.acall (hc:=vS) (k:=?_)|refine Dc ?_)
   refine DQ.anil (k:=?_);intro sx _
   repeat (first|refine Tk ?_|intro _|exact Tz)
   refine WC.dT rfl hs1 ?_
   repeat (first|refine Tj ?_|intro _|refine WO.acall (hc:=hD) (k:=?_)|refine Tc ?_|exact Tz)
   rename_i g11 g12;refine WC.adrawF [9] 11 (k:=?_)
   repeat (first|refine Da ?_|refine DQ.acall (hc:=hT) (k:=?_)|refine DQ.acall (hc:=hS) (k:=?_)|refine Df ?_)
   refine DQ.anil (k:=?_);intro sx _
   repeat (first|refine Tk ?_|intro _|exact Tz)
   generalize sx 10 0=g14;refine WC.mainA [0,4,5,6,7] [(1,zi p),(2,zi y),(3,zi z)] Dt (fun A hA=>?_);refine WT.given [(5,pt g5),(6,pt g6),(7,pt q4),(8,pt q5),(9,pt q6),(10,pt q7),(12,pt g12),(14,pt g14)] [⟨g12,24,zc p⟩,⟨q7,24,zc y⟩,⟨g14,24,zc z⟩] Kr (Tlv.a (Tlv.a (Tlv.a (Tlv.nil)))) (fun hc hT=>?_)
   suffices hS241:A [7,6,5,4,0] [(46,zi s),(5,pt g5),(6,pt g6),(7,pt q4),(8,pt q5),(9,pt q6),(10,pt q7),(12,pt g12),(14,pt g14)] [⟨g5,24,zc m⟩,⟨g6,24,zc 0⟩,⟨q4,24,zc s⟩,⟨q5,24,zc p⟩,⟨q6,24,zc y⟩,⟨q7,24,zc z⟩,⟨g12,24,zc p⟩,⟨g14,24,zc z⟩] by
    have hS113:A [6,5,4,0] [(46,zi s),(5,pt g5),(6,pt g6),(7,pt q4),(8,pt q5),(9,pt q6),(10,pt q7),(12,pt g12),(14,pt g14)] [⟨g5,24,zc m⟩,⟨g6,24,zc 0⟩,⟨q4,24,zc s⟩,⟨q5,24,zc p⟩,⟨q6,24,zc y⟩,⟨q7,24,zc y⟩,⟨g12,24,zc p⟩,⟨g14,24,zc z⟩]:=by
     refine (hA _ _ _).2 (WT.step [7] Dt hc hT ⟨⟨_,rfl,?_⟩,trivial⟩)
     ·refine Tw ?_;exact WT.go [] hA (hS241)
    have hS49:A [5,4,0] [(46,zi s),(5,pt g5),(6,pt g6),(7,pt q4),(8,pt q5),(9,pt q6),(10,pt q7),(12,pt g12),(14,pt g14)] [⟨g5,24,zc m⟩,⟨g6,24,zc 0⟩,⟨q4,24,zc s⟩,⟨q5,24,zc p⟩,⟨q6,24,zc x⟩,⟨q7,24,zc y⟩,⟨g12,24,zc p⟩,⟨g14,24,zc z⟩]:=by
     refine (hA _ _ _).2 (WT.step [6] Dt hc hT ⟨⟨_,rfl,?_⟩,trivial⟩)
     ·refine Tw ?_;exact WT.go [] hA (hS113)
    have hS17:A [4,0] [(46,zi s),(5,pt g5),(6,pt g6),(7,pt q4),(8,pt q5),(9,pt q6),(10,pt q7),(12,pt g12),(14,pt g14)] [⟨g5,24,zc m⟩,⟨g6,24,zc 0⟩,⟨q4,24,zc s⟩,⟨q5,24,zc s⟩,⟨q6,24,zc x⟩,⟨q7,24,zc y⟩,⟨g12,24,zc p⟩,⟨g14,24,zc z⟩]:=by
     refine (hA _ _ _).2 (WT.step [5] Dt hc hT ⟨⟨_,rfl,?_⟩,trivial⟩)
     ·refine Tw ?_;exact WT.go [] hA (hS49)
    have hS1:A [0] [(46,zi s),(5,pt g5),(6,pt g6),(7,pt q4),(8,pt q5),(9,pt q6),(10,pt q7),(12,pt g12),(14,pt g14)] [⟨g5,24,zc m⟩,⟨g6,24,zc 0⟩,⟨q4,24,zc r⟩,⟨q5,24,zc s⟩,⟨q6,24,zc x⟩,⟨q7,24,zc y⟩,⟨g12,24,zc p⟩,⟨g14,24,zc z⟩]:=by
     refine (hA _ _ _).2 (WT.step [4] Dt hc hT ⟨⟨_,rfl,?_⟩,trivial⟩)
     ·refine Tw ?_;exact WT.go [] hA (hS17)
    have hS0:A [] [(5,pt g5),(6,pt g6),(7,pt q4),(8,pt q5),(9,pt q6),(10,pt q7),(12,pt g12),(14,pt g14)] [⟨g5,24,zc m⟩,⟨g6,24,zc 0⟩,⟨q4,24,zc r⟩,⟨q5,24,zc s⟩,⟨q6,24,zc x⟩,⟨q7,24,zc y⟩,⟨g12,24,zc p⟩,⟨g14,24,zc z⟩]:=by
     refine (hA _ _ _).2 (WT.step [0] Dt hc hT ⟨⟨_,rfl,?_⟩,trivial⟩)
     ·refine Tw ?_;exact WT.go [(46,zi s)] hA (hS1)
    exact WT.less ((hA _ _ _).1 hS0) Dt Kle.a (by repeat (first|exact Lle.nil|exact Lle.same|refine Lle.c ?_))
   refine (hA _ _ _).2 (WT.fin [0,4,5,6,7] 6 hc rfl Kr ?_);clear hc hT hA
   repeat (first|refine Tk ?_|intro _|exact Tz)
   refine WX.metI (s,p,y,z) (hs:=⟨⟨hpos,hlt,by omega,hgn,hy,hz,hnext.symm⟩,hlt⟩)
 ·have hinv:uG a m=0:=ly hg;rw[hinv];refine Fn.enter Tryz.func213 rfl rfl rfl ?_;intro w hw
  repeat (first|refine Tj ?_|intro _|refine WO.acall (hc:=hG) (k:=?_)|refine WO.acall (hc:=vS) (k:=?_)|refine Tc ?_|exact Tz)
  refine WC.dT rfl hg ?_
  repeat (first|refine Tk ?_|intro _|exact Tz)
theorem dX {a m:Nat} (h1:1<m) (ha:a<m):uG a m<m:=by
 by_cases hg:Nat.gcd a m=1
 ·exact (tu h1 ha hg).2
 ·rw[ly hg];omega
theorem afs (a m:Nat) (ha:a<ze) (hm:m<ze):Fn Tryz.prog 170 [zi a,zi m] Tr (Is (.tuple #[zi (okV (zK a a m) (uG a m)),.int .i64 (iM a m)])):=by
 have hO:=aek (f:=213) [] a a m (uG a m) ha ha hm Tr zU.tr (fun h=>adT a m (zL h).1 (zL h).2.1 hm);cases hy:zK a a m with
 | false =>
  have he:iM a m=1:=by unfold iM;rw[hy];rfl
  rw[hy] at hO;rw[he];refine Fn.enter Tryz.func170 rfl rfl rfl ?_;intro w hw
  repeat (first|refine Tj ?_|intro _|refine WO.acall (hc:=hO) (k:=?_)|refine Tc ?_|exact Tz)
  refine WC.adraw 7 (k:=?_)
  repeat (first|refine Da ?_|refine DQ.acall (hc:=nL) (k:=?_)|refine Dc ?_)
  refine DQ.anil (k:=?_);intro sx _
  repeat (first|refine Tk ?_|intro _|exact Tz)
 | true =>
  obtain⟨h1,h2,_⟩:=zL hy;have hB:uG a m<ze:=Nat.lt_trans (dX h1 h2) hm;rw[hy] at hO
  by_cases hg:Nat.gcd a m=1
  ·have he:iM a m=0:=by unfold iM;rw[hy,if_pos hg];rfl
   have hz:¬ uG a m=0:=ab3 h1 h2 hg;rw[he];generalize uG a m=v at *;refine Fn.enter Tryz.func170 rfl rfl rfl ?_;intro w hw
   repeat (first|refine Tj ?_|intro _|refine WO.acall (hc:=hO) (k:=?_)|refine Tc ?_|exact Tz)
   refine WC.adraw 7 (k:=?_)
   repeat (first|refine Da ?_|refine DQ.acall (hc:=nL) (k:=?_)|refine Dc ?_)
   refine DQ.anil (k:=?_);intro sx _
   repeat (first|refine Tk ?_|intro _|exact Tz)
   refine WC.dF rfl hz ?_
   repeat (first|refine Tk ?_|intro _|exact Tz)
  ·have he:iM a m=7:=by unfold iM;rw[hy,if_neg hg];rfl
   rw[he];rw[ly hg] at hO ⊢;refine Fn.enter Tryz.func170 rfl rfl rfl ?_;intro w hw
   repeat (first|refine Tj ?_|intro _|refine WO.acall (hc:=hO) (k:=?_)|refine Tc ?_|exact Tz)
   refine WC.adraw 7 (k:=?_)
   repeat (first|refine Da ?_|refine DQ.acall (hc:=nL) (k:=?_)|refine Dc ?_)
   refine DQ.anil (k:=?_);intro sx _
   repeat (first|refine Tk ?_|intro _|exact Tz)
end Sx
end
section
open Go Go.RowKit
namespace Sx
attribute [local irreducible] DQ WC WO WX wd
abbrev yC (p q g h:Nat):List Value:=[.int .u64 ((wd 0 p:Nat):Int),.int .u64 ((wd 1 p:Nat):Int),.int .u64 ((wd 2 p:Nat):Int),.int .u64 ((wd 3 p:Nat):Int),.int .u64 ((wd 0 q:Nat):Int),.int .u64 ((wd 1 q:Nat):Int),.int .u64 ((wd 2 q:Nat):Int),.int .u64 ((wd 3 q:Nat):Int),.int .u64 ((wd 0 g:Nat):Int),.int .u64 ((wd 1 g:Nat):Int),.int .u64 ((wd 2 g:Nat):Int),.int .u64 ((wd 3 g:Nat):Int),.int .u64 ((wd 0 h:Nat):Int),.int .u64 ((wd 1 h:Nat):Int),.int .u64 ((wd 2 h:Nat):Int),.int .u64 ((wd 3 h:Nat):Int)]
abbrev vI (p q g h:Nat):Value:=.agg #[.int .u64 ((wd 0 p:Nat):Int),.int .u64 ((wd 1 p:Nat):Int),.int .u64 ((wd 2 p:Nat):Int),.int .u64 ((wd 3 p:Nat):Int),.int .u64 ((wd 0 q:Nat):Int),.int .u64 ((wd 1 q:Nat):Int),.int .u64 ((wd 2 q:Nat):Int),.int .u64 ((wd 3 q:Nat):Int),.int .u64 ((wd 0 g:Nat):Int),.int .u64 ((wd 1 g:Nat):Int),.int .u64 ((wd 2 g:Nat):Int),.int .u64 ((wd 3 g:Nat):Int),.int .u64 ((wd 0 h:Nat):Int),.int .u64 ((wd 1 h:Nat):Int),.int .u64 ((wd 2 h:Nat):Int),.int .u64 ((wd 3 h:Nat):Int)]
def yx (p a:Nat):Bool:=decide (1<p) && decide (a≠0) && decide (a<p)
theorem yW {p a:Nat} (h:yx p a=true):1<p∧a≠0∧a<p:=by
 unfold yx at h;simp at h;exact⟨h.1.1,h.1.2,h.2⟩
theorem fU {p a:Nat} (h:yx p a=true):zK a a p=true:=by
 obtain⟨h1,_,h3⟩:=yW h;simp[zK,h1,h3]
section
variable (p q g h:Nat)
theorem mf (a b:Nat) (ha:a<ze) (hb:b<ze) (hq:q<ze):Fn Tryz.prog 169 [vI p q g h,zi a,zi b] Tr (Is (rE (zK a b q) ((a+b)%q))):=by
 have hO:=adF a b q ha hb hq;refine Fn.enter Tryz.func169 rfl rfl rfl ?_;intro w hw
 repeat (first|refine Td ?_|(refine Tm ?_;intro _)|refine WO.acall (hc:=hO) (k:=?_)|refine Tc ?_|exact Tz)
theorem aaV (a b:Nat) (ha:a<ze) (hb:b<ze) (hq:q<ze):Fn Tryz.prog 156 [vI p q g h,zi a,zi b] Tr (Is (rE (zK a b q) ((a+q - b)%q))):=by
 have hO:=ab5 a b q ha hb hq;refine Fn.enter Tryz.func156 rfl rfl rfl ?_;intro w hw
 repeat (first|refine Td ?_|(refine Tm ?_;intro _)|refine WO.acall (hc:=hO) (k:=?_)|refine Tc ?_|exact Tz)
theorem ki (a b:Nat) (ha:a<ze) (hb:b<ze) (hq:q<ze):Fn Tryz.prog 173 [vI p q g h,zi a,zi b] Tr (Is (rE (zK a b q) (a*b%q))):=by
 have hO:=acO a b q ha hb hq;refine Fn.enter Tryz.func173 rfl rfl rfl ?_;intro w hw
 repeat (first|refine Td ?_|(refine Tm ?_;intro _)|refine WO.acall (hc:=hO) (k:=?_)|refine Tc ?_|exact Tz)
theorem ad4 (a:Nat) (ha:a<ze) (hq:q<ze):Fn Tryz.prog 98 [vI p q g h,zi a] Tr (Is (.tuple #[zi (okV (zK a a q) (uG a q)),.int .i64 (iM a q)])):=by
 have hO:=afs a q ha hq;refine Fn.enter Tryz.func98 rfl rfl rfl ?_;intro w hw
 repeat (first|refine Td ?_|(refine Tm ?_;intro _)|refine WO.acall (hc:=hO) (k:=?_)|refine Tc ?_|exact Tz)
theorem acr (a:Nat) (ha:a<ze) (hp:p<ze):Fn Tryz.prog 61 [vI p q g h,zi a] Tr (Is (.bool (yx p a))):=by
 have hC1:=lT p 1 hp yT;have hC2:=lT a p ha hp
 by_cases h1:1<p
 ·rw[m8 h1] at hC1
  by_cases h2:a=0
  ·have e:yx p a=false:=by simp[yx,h2]
   rw[e];refine Fn.enter Tryz.func61 rfl rfl rfl ?_;intro w hw
   repeat (first|refine Td ?_|(refine Tm ?_;intro _)|refine Tc ?_|exact Tz)
   refine WC.adraw 18 (k:=?_)
   repeat (first|refine DQ.decT (k:=?_)|refine DQ.decF (k:=?_)|refine Da ?_|refine DQ.acall (hc:=vS) (k:=?_)|refine DQ.acall (hc:=nL) (k:=?_)|refine DQ.acall (hc:=hC1) (k:=?_)|refine DQ.acall (hc:=hC2) (k:=?_)|refine Dc ?_)
   refine DQ.anil (k:=?_);intro sx _
   repeat (first|refine Td ?_|(refine Tm ?_;intro _)|refine Tc ?_|exact Tz)
  ·by_cases h3:a<p
   ·have e:yx p a=true:=by simp[yx,h1,h2,h3]
    rw[db h3] at hC2;rw[e];refine Fn.enter Tryz.func61 rfl rfl rfl ?_;intro w hw
    repeat (first|refine Td ?_|(refine Tm ?_;intro _)|refine Tc ?_|exact Tz)
    refine WC.adraw 18 (k:=?_)
    repeat (first|refine DQ.decT (k:=?_)|refine DQ.decF (k:=?_)|refine Da ?_|refine DQ.acall (hc:=vS) (k:=?_)|refine DQ.acall (hc:=nL) (k:=?_)|refine DQ.acall (hc:=hC1) (k:=?_)|refine DQ.acall (hc:=hC2) (k:=?_)|refine Dc ?_)
    refine DQ.anil (k:=?_);intro sx _
    repeat (first|refine Td ?_|(refine Tm ?_;intro _)|refine Tc ?_|exact Tz)
   ·have e:yx p a=false:=by simp[yx,h3]
    have e2:uU a p=0∨uU a p=1:=by
     rcases Nat.lt_or_ge p a with h4|h4
     ·exact .inr (m8 h4)
     ·exact .inl (fN Om)
    rw[e]
    rcases e2 with e2|e2
    all_goals
     rw[e2] at hC2;refine Fn.enter Tryz.func61 rfl rfl rfl ?_;intro w hw
     repeat (first|refine Td ?_|(refine Tm ?_;intro _)|refine Tc ?_|exact Tz)
     refine WC.adraw 18 (k:=?_)
     repeat (first|refine DQ.decT (k:=?_)|refine DQ.decF (k:=?_)|refine Da ?_|refine DQ.acall (hc:=vS) (k:=?_)|refine DQ.acall (hc:=nL) (k:=?_)|refine DQ.acall (hc:=hC1) (k:=?_)|refine DQ.acall (hc:=hC2) (k:=?_)|refine Dc ?_)
     refine DQ.anil (k:=?_);intro sx _
     repeat (first|refine Td ?_|(refine Tm ?_;intro _)|refine Tc ?_|exact Tz)
 ·have e:yx p a=false:=by simp[yx,h1]
  have e2:uU p 1=0∨uU p 1 = -1:=by
   rcases Nat.lt_or_ge p 1 with h4|h4
   ·exact .inr (db h4)
   ·exact .inl (fN Om)
  rw[e]
  rcases e2 with e2|e2
  all_goals
   rw[e2] at hC1;refine Fn.enter Tryz.func61 rfl rfl rfl ?_;intro w hw
   repeat (first|refine Td ?_|(refine Tm ?_;intro _)|refine Tc ?_|exact Tz)
   refine WC.adraw 18 (k:=?_)
   repeat (first|refine DQ.decT (k:=?_)|refine DQ.decF (k:=?_)|refine Da ?_|refine DQ.acall (hc:=vS) (k:=?_)|refine DQ.acall (hc:=nL) (k:=?_)|refine DQ.acall (hc:=hC1) (k:=?_)|refine DQ.acall (hc:=hC2) (k:=?_)|refine Dc ?_)
   refine DQ.anil (k:=?_);intro sx _
   repeat (first|refine Td ?_|(refine Tm ?_;intro _)|refine Tc ?_|exact Tz)
theorem vF (a n:Nat) (ha:a<ze) (hn:n<ze) (hp:p<ze):Fn Tryz.prog 26 [vI p q g h,zi a,zi n] Tr (Is (rE (yx p a) (a ^ n%p))):=by
 have hM:=acr p q g h a ha hp;cases hy:yx p a with
 | true =>
  have hE:=afu a n p ha hn hp;rw[fU hy] at hE;rw[hy] at hM;refine Fn.enter Tryz.func26 rfl rfl rfl ?_;intro w hw
  repeat (first|refine Td ?_|(refine Tm ?_;intro _)|refine WO.acall (hc:=hM) (k:=?_)|refine WO.acall (hc:=hE) (k:=?_)|refine Tc ?_|exact Tz)
 | false =>
  rw[hy] at hM;refine Fn.enter Tryz.func26 rfl rfl rfl ?_;intro w hw
  repeat (first|refine Td ?_|(refine Tm ?_;intro _)|refine WO.acall (hc:=hM) (k:=?_)|refine Tc ?_|exact Tz)
theorem aaX (a b:Nat) (ha:a<ze) (hb:b<ze) (hp:p<ze):Fn Tryz.prog 171 [vI p q g h,zi a,zi b] Tr (Is (rE (yx p a && yx p b) (a*b%p))):=by
 have hM1:=acr p q g h a ha hp;have hM2:=acr p q g h b hb hp;cases hy:yx p a with
 | true =>
  rw[hy] at hM1;cases hz:yx p b with
  | true =>
   rw[hz] at hM2;have hE:=acO a b p ha hb hp;have hm:zK a b p=true:=by
    obtain⟨h1,_,h3⟩:=yW hy;obtain⟨_,_,h4⟩:=yW hz;simp[zK,h1,h3,h4]
   rw[hm] at hE;refine Fn.enter Tryz.func171 rfl rfl rfl ?_;intro w hw
   repeat (first|refine Td ?_|(refine Tm ?_;intro _)|refine WO.acall (hc:=hM1) (k:=?_)|refine WO.acall (hc:=hM2) (k:=?_)|refine WO.acall (hc:=hE) (k:=?_)|refine Tc ?_|exact Tz)
  | false =>
   rw[hz] at hM2;refine Fn.enter Tryz.func171 rfl rfl rfl ?_;intro w hw
   repeat (first|refine Td ?_|(refine Tm ?_;intro _)|refine WO.acall (hc:=hM1) (k:=?_)|refine WO.acall (hc:=hM2) (k:=?_)|refine Tc ?_|exact Tz)
 | false =>
  rw[hy] at hM1;refine Fn.enter Tryz.func171 rfl rfl rfl ?_;intro w hw
  repeat (first|refine Td ?_|(refine Tm ?_;intro _)|refine WO.acall (hc:=hM1) (k:=?_)|refine WO.acall (hc:=hM2) (k:=?_)|refine Tc ?_|exact Tz)
def gIn (p q a:Nat):Bool:=yx p a && decide (a ^ q%p=1)
theorem rr (a:Nat) (ha:a<ze) (hp:p<ze) (hq:q<ze):Fn Tryz.prog 75 [vI p q g h,zi a] Tr (Is (.bool (gIn p q a))):=by
 have hE:=vF p q g h a q ha hq hp;cases hy:yx p a with
 | true =>
  rw[hy] at hE;have hB:a ^ q%p<ze:=Nat.lt_trans (Nat.mod_lt _ (by have:=yW hy;omega)) hp;have e:gIn p q a=decide (a ^ q%p=1):=by simp[gIn,hy]
  rw[e];generalize a ^ q%p=v at *;refine Fn.enter Tryz.func75 rfl rfl rfl ?_;intro w hw
  repeat (first|refine Td ?_|(refine Tm ?_;intro _)|refine WO.acall (hc:=hE) (k:=?_)|refine Tc ?_|exact Tz)
  by_cases hv:v=1
  ·rw[decide_eq_true hv];refine WC.adraw 8 (k:=?_)
   repeat (first|refine DQ.decT (k:=?_)|refine DQ.decF (k:=?_)|refine Da ?_|refine DQ.acall (hc:=vS) (k:=?_)|refine Dc ?_)
   refine DQ.anil (k:=?_);intro sx _
   repeat (first|refine Td ?_|(refine Tm ?_;intro _)|refine Tc ?_|exact Tz)
  ·rw[decide_eq_false hv];refine WC.adraw 8 (k:=?_)
   repeat (first|refine DQ.decT (k:=?_)|refine DQ.decF (k:=?_)|refine Da ?_|refine DQ.acall (hc:=vS) (k:=?_)|refine Dc ?_)
   refine DQ.anil (k:=?_);intro sx _
   repeat (first|refine Td ?_|(refine Tm ?_;intro _)|refine Tc ?_|exact Tz)
 | false =>
  have e:gIn p q a=false:=by simp[gIn,hy]
  rw[hy] at hE;rw[e];refine Fn.enter Tryz.func75 rfl rfl rfl ?_;intro w hw
  repeat (first|refine Td ?_|(refine Tm ?_;intro _)|refine WO.acall (hc:=hE) (k:=?_)|refine Tc ?_|exact Tz)
  refine WC.adraw 8 (k:=?_)
  repeat (first|refine DQ.decT (k:=?_)|refine DQ.decF (k:=?_)|refine Da ?_|refine DQ.acall (hc:=vS) (k:=?_)|refine Dc ?_)
  refine DQ.anil (k:=?_);intro sx _
  repeat (first|refine Td ?_|(refine Tm ?_;intro _)|refine Tc ?_|exact Tz)
end
end Sx
end
section
open Go Go.RowKit Go.BigFrame
namespace Sx
attribute [local irreducible] DQ WC WO WX wd
theorem vX {α:Type} {f:α→List Value} {k:Nat} (hk:∀ x,(f x).length=k):∀ {xs:List α} {i:Nat} {x:α},xs[i]?=some x→cut (xs.flatMap f) (i*k) k=f x
 | [],i,x,h=>by simp at h
 | y::r,0,x,h=>by
  simp at h;subst h;simp[cut,← hk y]
 | y::r,i+1,x,h=>by
  have:=vX hk (xs:=r) (i:=i) (x:=x) (by simpa using h);rw[← this];unfold cut;rw[List.flatMap_cons,show (i+1)*k=(f y).length+i*k by rw[hk,Nat.succ_mul];omega,← List.drop_drop,List.drop_left]
abbrev fdC (p q g h:Nat) (e:Int):List Value:=[.int .u64 ((wd 0 p:Nat):Int),.int .u64 ((wd 1 p:Nat):Int),.int .u64 ((wd 2 p:Nat):Int),.int .u64 ((wd 3 p:Nat):Int),.int .u64 ((wd 0 q:Nat):Int),.int .u64 ((wd 1 q:Nat):Int),.int .u64 ((wd 2 q:Nat):Int),.int .u64 ((wd 3 q:Nat):Int),.int .u64 ((wd 0 g:Nat):Int),.int .u64 ((wd 1 g:Nat):Int),.int .u64 ((wd 2 g:Nat):Int),.int .u64 ((wd 3 g:Nat):Int),.int .u64 ((wd 0 h:Nat):Int),.int .u64 ((wd 1 h:Nat):Int),.int .u64 ((wd 2 h:Nat):Int),.int .u64 ((wd 3 h:Nat):Int),.int .i64 e]
def kE (e e' : Int):Int:=if e=0 then e' else e
section
variable (p q g h gF:Nat)
theorem aaU (a:Nat) (e0 e:Int):FnM Tryz.prog 265 [pt gF,zi a,.int .i64 e] gF 336 (fdC p q g h e0) (fdC p q g h (kE e0 e)) Tr (zi a):=by
 refine FnM.enter Tryz.func265 rfl rfl rfl ?_;intro w hw
 by_cases he:e0=0
 ·rw[show kE e0 e=e from if_pos he]
  repeat (first|refine Tj ?_|intro _|refine WO.does (zM rfl rfl he) ?_|refine Tc ?_|exact Tz)
  exact WX.retM_of (abv rfl (by first|exact zP rfl|exact vQ)) Hs.a
 ·rw[show kE e0 e=e0 from if_neg he]
  repeat (first|refine Tj ?_|intro _|refine WO.does (zS rfl rfl he) ?_|refine Tc ?_|exact Tz)
  exact WX.retM_of (abv rfl (by first|exact zP rfl|exact vQ)) Hs.a
theorem lU (a b:Nat) (e0:Int) (ha:a<ze) (hb:b<ze) (hq:q<ze):FnM Tryz.prog 229 [pt gF,zi a,zi b] gF 336 (fdC p q g h e0) (fdC p q g h (kE e0 (okE (zK a b q)))) Tr (zi (okV (zK a b q) ((a+b)%q))):=by
 have hO:=mf p q g h a b ha hb hq;have hK:=aaU p q g h gF (okV (zK a b q) ((a+b)%q)) e0 (okE (zK a b q));simp only[rE] at hO;generalize okV (zK a b q) ((a+b)%q)=R at *;generalize okE (zK a b q)=E at *;refine FnM.enter Tryz.func229 rfl rfl rfl ?_;intro w hw
 repeat (first|refine Tk ?_|intro _|exact Tz)
 refine WC.adraw 10 (k:=?_)
 repeat (first|refine Da ?_|refine DQ.acall (hc:=hO) (k:=?_)|refine Dc ?_)
 refine DQ.anil (k:=?_);intro sx _
 repeat (first|refine Tj ?_|intro _|refine WO.callM rfl hK (by repeat (first|exact Rp.here|apply Rp.there)) (fun _ _=>trivial) Dt ?_ rfl rfl|refine Tc ?_|exact Tz)
 exact WX.retM_of (abv rfl (by first|exact zP rfl|exact vQ)) Hs.a
theorem cU (a b:Nat) (e0:Int) (ha:a<ze) (hb:b<ze) (hq:q<ze):FnM Tryz.prog 230 [pt gF,zi a,zi b] gF 336 (fdC p q g h e0) (fdC p q g h (kE e0 (okE (zK a b q)))) Tr (zi (okV (zK a b q) (a*b%q))):=by
 have hO:=ki p q g h a b ha hb hq;have hK:=aaU p q g h gF (okV (zK a b q) (a*b%q)) e0 (okE (zK a b q));simp only[rE] at hO;generalize okV (zK a b q) (a*b%q)=R at *;generalize okE (zK a b q)=E at *;refine FnM.enter Tryz.func230 rfl rfl rfl ?_;intro w hw
 repeat (first|refine Tk ?_|intro _|exact Tz)
 refine WC.adraw 10 (k:=?_)
 repeat (first|refine Da ?_|refine DQ.acall (hc:=hO) (k:=?_)|refine Dc ?_)
 refine DQ.anil (k:=?_);intro sx _
 repeat (first|refine Tj ?_|intro _|refine WO.callM rfl hK (by repeat (first|exact Rp.here|apply Rp.there)) (fun _ _=>trivial) Dt ?_ rfl rfl|refine Tc ?_|exact Tz)
 exact WX.retM_of (abv rfl (by first|exact zP rfl|exact vQ)) Hs.a
def gaS (q:Nat) (l:LN) (a:Nat) (e:Int):Nat × Int:=l.foldl (fun s x=>(okV (zK s.1 x q) ((s.1+x)%q),kE s.2 (okE (zK s.1 x q)))) (a,e)
theorem jr (q:Nat) (l:LN) (x a:Nat) (e:Int):gaS q (l++[x]) a e=(okV (zK (gaS q l a e).1 x q) (((gaS q l a e).1+x)%q),kE (gaS q l a e).2 (okE (zK (gaS q l a e).1 x q))):=by
 unfold gaS;rw[List.foldl_append];rfl
theorem aeA {q:Nat} {l:LN} {a:Nat} {e:Int} (hq:q<ze) (ha:a<ze):(gaS q l a e).1<ze:=by
 rcases List.eq_nil_or_concat l with rfl|⟨l,x,rfl⟩
 ·exact ha
 ·rw[List.concat_eq_append,jr];cases h:zK (gaS q l a e).1 x q with
  | false=>exact zC
  | true=>exact Nat.lt_trans (Nat.mod_lt _ (by have:=(zL h).1;omega)) hq
theorem bc (l:LN) (pt:Option Addr) (c a:Nat) (e0:Int) (ha:a<ze) (hl:∀ x∈l,x<ze) (hn:l.length≤1099511627776) (hq:q<ze) :
  FnM Tryz.prog 254 [zi a,.slice pt l.length c,.func (.func 229) #[Sx.pt gF] #[]] gF 336 (fdC p q g h e0) (fdC p q g h (gaS q l a e0).2) (fun w=>RdF zc (.slice pt l.length c) l w∧∀ b o,pt=some ⟨b,o,none⟩→l≠[]→b ∉ [gF]) (zi (gaS q l a e0).1):=by
 have hP:=fun u x e (hu:u<ze) (hx:x<ze)=>(lU p q g h gF u x e hu hx hq).toL;refine FnM.enter Tryz.func254 rfl rfl rfl ?_;intro w hw;obtain⟨⟨pt',c',e,hpc⟩,hout⟩:=hw;cases e
 repeat (first|refine Tk ?_|intro _|exact Tz)
 rename_i g3 g6
 refine WC.loopI (σ:=Nat) (fun i=>i≤l.length) (fun i=>[(2,.func (.func 229) #[Sx.pt gF] #[]),(3,Sx.pt g3),(6,Sx.pt g6),(9,.slice pt l.length c),(10,.int .i64 (l.length:Int)),(11,.int .i64 (i:Int))])
  (fun i=>[⟨g6,24,zc 0⟩,⟨g3,24,zc (gaS q (l.take i) a e0).1⟩,⟨gF,336,fdC p q g h (gaS q (l.take i) a e0).2⟩]) (fun i=>l.length - i) 0 (fun i hi=>?_) (Nat.zero_le _)
 try dsimp only at hi ⊢
 by_cases hlt:i<l.length
 ·obtain⟨x,hx⟩ : ∃ x,l[i]?=some x:=⟨_,List.getElem?_eq_getElem hlt⟩
  rcases hpc with ⟨_,h0⟩|⟨b,o,rfl,hs⟩
  ·rw[h0] at hlt;simp at hlt
  have hb:b ∉ [gF]:=hout b o rfl (by rintro rfl;simp at hlt);have hadd2:IntKind.i64.wrap ((i:Int)+1)=((i+1:Nat):Int):=zl Om Om Om;have hcx:cut (l.flatMap zc) (o+i*4 - o) 4=zc x:=by rw[Nat.add_sub_cancel_left];exact vX (f:=zc) (k:=4) (fun _=>rfl) hx
  have hPx:=hP (gaS q (l.take i) a e0).1 x (gaS q (l.take i) a e0).2 (aeA hq ha) (hl x (List.mem_of_getElem? hx));have hst:=jr q (l.take i) x a e0;rw[show l.take i++[x]=l.take (i+1) by rw[List.take_add_one,hx];rfl] at hst;rw[show okV (zK (gaS q (l.take i) a e0).1 x q) (((gaS q (l.take i) a e0).1+x)%q)=(gaS q (l.take (i+1)) a e0).1 by rw[hst],show kE (gaS q (l.take i) a e0).2 (okE (zK (gaS q (l.take i) a e0).1 x q))=(gaS q (l.take (i+1)) a e0).2 by rw[hst]] at hPx;clear hst hP hl
  repeat (first|refine Tk ?_|intro _|exact Tz)
  refine WC.dT rfl Om ?_
  repeat (first|refine Tj ?_|intro _|refine WO.does (zb (o':=o+i*4) rfl rfl hlt rfl) ?_|refine WO.does (zm (vs:=zc x) (hs:=hs) (hle:=Nat.le_add_right _ _) (hb:=hb) (hc:=hcx)) ?_|refine Tc ?_|exact Tz)
  refine WO.callsLV hPx rfl rfl rfl (Pks.cons (Pk.there (Pk.there (Pk.there Pk.here))) Pks.nil) (fun _ _=>trivial) (fun v N hv=>?_);obtain⟨rfl,rfl⟩:=hv;simp only[List.cons_append,List.nil_append]
  repeat (first|refine Tj ?_|intro _|refine WO.does (zj rfl rfl hadd2) ?_|refine Tc ?_|exact Tz)
  exact WX.metI (i+1) (hs:=⟨by show i+1≤l.length;omega,by show l.length - (i+1)<l.length - i;omega⟩)
 ·have hi2:i=l.length:=by omega
  subst hi2;rw[List.take_length]
  repeat (first|refine Tk ?_|intro _|exact Tz)
  refine WC.dF rfl Om ?_
  repeat (first|refine Tk ?_|intro _|exact Tz)
  exact WX.retM_of (abv rfl (by first|exact zP rfl|exact vQ)) Hs.a
end
theorem lW (q:Nat):∀ (l:LN) (a:Nat),(gaS q l a 1).2=1
 | [],_=>rfl
 | x::l,a=>by
  show (gaS q l _ (kE 1 _)).2=1;rw[show kE 1 (okE (zK a x q))=1 from rfl];exact lW q l _
theorem aaW {q:Nat} (h1:1<q):∀ (l:LN) (a:Nat),a<q→(gaS q l a 0).2=if l.all (fun x=>decide (x<q))=true then 0 else 1
 | [],_,_=>rfl
 | x::l,a,ha=>by
  show (gaS q l (okV (zK a x q) ((a+x)%q)) (kE 0 (okE (zK a x q)))).2=_;rw[show kE 0 (okE (zK a x q))=okE (zK a x q) from rfl]
  by_cases hx:x<q
  ·rw[show zK a x q=true by simp[zK,h1,ha,hx]];show (gaS q l ((a+x)%q) 0).2=_;rw[aaW h1 l _ (Nat.mod_lt _ Om)];simp[hx]
  ·rw[show zK a x q=false by simp[zK,hx]];show (gaS q l 0 1).2=_;rw[lW];simp[hx]
theorem ael (q:Nat) (l:LN):decide (kE (gaS q l 0 0).2 (okE (zK 0 0 q))=0)=uf q l:=by
 unfold uf
 by_cases h1:1<q
 ·rw[aaW h1 l 0 Om,show zK 0 0 q=true by simp[zK,h1];omega,decide_eq_true h1,Bool.true_and];cases l.all (fun x=>decide (x<q))<;>rfl
 ·rw[decide_eq_false h1,Bool.false_and,show zK 0 0 q=false by simp[zK,h1]];cases l with
  | nil=>rfl
  | cons x l =>
   have:(gaS q (x::l) 0 0).2=1:=by
    show (gaS q l _ (kE 0 (okE (zK 0 x q)))).2=1;rw[show zK 0 x q=false by simp[zK,h1]];exact lW q l _
   rw[this];rfl
section
variable (p q g h:Nat)
theorem kF (l:LN) (pt:Option Addr) (c:Nat) (hl:∀ x∈l,x<ze) (hn:l.length≤1099511627776) (hq:q<ze) :
  Fn Tryz.prog 227 [vI p q g h,.slice pt l.length c] (RdF zc (.slice pt l.length c) l) (Is (.bool (uf q l))):=by
 have hG:=fun gF=>bc p q g h gF l pt c 0 0 zC hl hn hq;have hP:=fun gF=>lU p q g h gF 0 0 (gaS q l 0 0).2 zC zC hq;have hm:=ael q l;rw[← hm];generalize (gaS q l 0 0).2=E at *;generalize (gaS q l 0 0).1=A at *;generalize okV (zK 0 0 q) ((0+0)%q)=R at *;generalize kE E (okE (zK 0 0 q))=E2 at *;refine Fn.enter Tryz.func227 rfl rfl rfl ?_;intro w hw
 repeat (first|refine Tk ?_|intro _|exact Tz)
 rename_i g2 gF;refine WO.mine (fun hmn=>?_);have hgF:w.heap.size≤gF:=(hmn _ (List.Mem.head _)).resolve_right Sm;refine WO.callM rfl (hG gF) (by repeat (first|exact Rp.here|apply Rp.there)) (fun w1 hm1=>⟨hw.mod hm1.mod,fun b o e hne=>by
  subst e;have:=RdF.lt (k:=3) (f:=zc) (fun _=>rfl) hw hne;simp;omega⟩) Dt ?_ rfl rfl
 repeat (first|refine Tj ?_|intro _|refine WO.callM rfl (hP gF) (by repeat (first|exact Rp.here|apply Rp.there)) (fun _ _=>trivial) Dt ?_ rfl rfl|refine Tc ?_|exact Tz)
 done
end
end Sx
end
section
open Go Go.RowKit Go.BigFrame
namespace Sx
end Sx
end
section
open Go Go.RowKit Go.BigFrame
namespace Sx
attribute [local irreducible] DQ WC WO WX wd
end Sx
end
end Go.Proofs.YtiaibpcaloigkaaGreatDoor
