/- Part 20 of the proof. -/
import Derived.Test.YtiaibpcaloigkaaGreatDoorG14
import Derived.RangeFuncLeaves
set_option linter.unusedSimpArgs false
set_option linter.unusedVariables false
set_option maxHeartbeats 8000000
namespace Go.Proofs.YtiaibpcaloigkaaGreatDoor
section
open Go Go.RowKit
namespace Sx
attribute [local irreducible] DQ WC WO WX wd
theorem fW {a b:Nat} (h:a<b):td a b = -1:=by unfold td;rw[if_neg Om,if_pos h]
theorem kz {a b:Nat} (h:b<a):td a b=1:=by unfold td;rw[if_neg Om,if_neg Om]
theorem eh {a b:Nat} (h:a=b):td a b=0:=by unfold td;rw[if_pos h]
theorem iQ {a b m:Nat} (ha:a<m) (hb:b<m) (hm:m<ze) :
  ((a+b) / ze=0∧bw ((a+b)%ze) m 0=1∧(a+b)%m=(a+b)%ze) ∨
  ((a+b) / ze=1∧(a+b)%m=((a+b)%ze+ze - m)%ze) ∨
  ((a+b) / ze=0∧bw ((a+b)%ze) m 0=0∧(a+b)%m=((a+b)%ze+ze - m)%ze):=by
 by_cases hc:a+b<ze
 ·have e:(a+b)%ze=a+b:=Nat.mod_eq_of_lt hc;rw[e];have e0:(a+b) / ze=0:=Nat.div_eq_of_lt hc
  by_cases h:a+b<m
  ·exact .inl ⟨e0,by simp[bw];omega,Nat.mod_eq_of_lt h⟩
  ·refine .inr (.inr ⟨e0,by simp[bw];omega,?_⟩);rw[Nat.mod_eq_sub_mod Om,Nat.mod_eq_of_lt Om,show a+b+ze - m=(a+b - m)+ze by omega,Nat.add_mod_right,Nat.mod_eq_of_lt Om]
 ·have e:(a+b)%ze=a+b - ze:=by rw[Nat.mod_eq_sub_mod Om,Nat.mod_eq_of_lt Om]
  refine .inr (.inl ⟨?_,?_⟩)
  ·rw[Nat.div_eq_iff zE];omega
  ·rw[e,Nat.mod_eq_sub_mod Om,Nat.mod_eq_of_lt Om,show a+b - ze+ze - m=a+b - m by omega,Nat.mod_eq_of_lt Om]
theorem ff {a b m:Nat} (ha:a<m) (hb:b<m) (hm:m<ze) :
  (bw a b 0=0∧(a+m - b)%m=(a+ze - b)%ze)∨(bw a b 0=1∧(a+m - b)%m=((a+ze - b)%ze+m)%ze):=by
 by_cases h:a<b
 ·refine .inr ⟨by simp[bw];omega,?_⟩;rw[Nat.mod_eq_of_lt (by omega:a+m - b<m),Nat.mod_eq_of_lt (by omega:a+ze - b<ze),show a+ze - b+m=(a+m - b)+ze by omega,Nat.add_mod_right,Nat.mod_eq_of_lt Om]
 ·refine .inl ⟨by simp[bw];omega,?_⟩;rw[show a+m - b=(a - b)+m by omega,Nat.add_mod_right,Nat.mod_eq_of_lt Om,show a+ze - b=(a - b)+ze by omega,Nat.add_mod_right,Nat.mod_eq_of_lt Om]
theorem agQ (a b c:Nat):bw a b c=0∨bw a b c=1:=by unfold bw;split<;>simp
theorem agl (a b m:Nat) (ha:a<m) (hb:b<m) (hm:m<ze):Fn Tryz.prog 236 [zk a,zk b,zk m] Tr (Is (zk ((a+b)%m))):=by
 have hc:=iQ ha hb hm;have hA:=ack a b Om Om;have hS:=acd ((a+b)%ze) m (Nat.mod_lt _ zE) hm;have hl:=agQ ((a+b)%ze) m 0;generalize (a+b)%m=R at *;generalize (a+b) / ze=c at *;generalize ((a+b)%ze+ze - m)%ze=y at *;generalize bw ((a+b)%ze) m 0=l at *;generalize (a+b)%ze=X at *
 rcases hc with ⟨rfl,rfl,rfl⟩|⟨rfl,rfl⟩|⟨rfl,rfl,rfl⟩
 ·refine Fn.enter Tryz.func236 rfl rfl rfl ?_;intro w hw
  repeat (first|refine Tj ?_|intro _|refine WO.acall (hc:=hA) (k:=?_)|refine WO.acall (hc:=hS) (k:=?_)|refine Tc ?_|exact Tz)
 ·rcases hl with rfl|rfl
  all_goals
   refine Fn.enter Tryz.func236 rfl rfl rfl ?_;intro w hw
   repeat (first|refine Tj ?_|intro _|refine WO.acall (hc:=hA) (k:=?_)|refine WO.acall (hc:=hS) (k:=?_)|refine Tc ?_|exact Tz)
 ·refine Fn.enter Tryz.func236 rfl rfl rfl ?_;intro w hw
  repeat (first|refine Tj ?_|intro _|refine WO.acall (hc:=hA) (k:=?_)|refine WO.acall (hc:=hS) (k:=?_)|refine Tc ?_|exact Tz)
theorem afZ (a b m:Nat) (ha:a<m) (hb:b<m) (hm:m<ze):Fn Tryz.prog 238 [zk a,zk b,zk m] Tr (Is (zk ((a+m - b)%m))):=by
 have hc:=ff ha hb hm;have hS:=acd a b Om Om;have hA:=ack ((a+ze - b)%ze) m (Nat.mod_lt _ zE) hm;generalize (a+m - b)%m=R at *;generalize ((a+ze - b)%ze+m) / ze=c at *;generalize ((a+ze - b)%ze+m)%ze=y at *;generalize bw a b 0=l at *;generalize (a+ze - b)%ze=X at *
 rcases hc with ⟨rfl,rfl⟩|⟨rfl,rfl⟩
 all_goals
  refine Fn.enter Tryz.func238 rfl rfl rfl ?_;intro w hw
  repeat (first|refine Tj ?_|intro _|refine WO.acall (hc:=hA) (k:=?_)|refine WO.acall (hc:=hS) (k:=?_)|refine Tc ?_|exact Tz)
def okE (c:Bool):Int:=if c then 0 else 1
def okV (c:Bool) (r:Nat):Nat:=if c then r else 0
def zP (a b m:Nat):Bool:=decide (1<m) && decide (a<m) && decide (b<m)
theorem fz (a b m:Nat):(1<m∧a<m∧b<m∧zP a b m=true∧td m 1=1∧td a m = -1∧td b m = -1) ∨
  (zP a b m=false∧((td m 1=0∨td m 1 = -1)∨(td m 1=1∧(td a m=0∨td a m=1))∨(td m 1=1∧td a m = -1∧(td b m=0∨td b m=1)))):=by
 unfold zP td
 by_cases h1:1<m
 ·by_cases h2:a<m
  ·by_cases h3:b<m
   ·refine .inl ⟨h1,h2,h3,by simp[h1,h2,h3],?_,?_,?_⟩
    ·rw[if_neg Om,if_neg Om]
    ·rw[if_neg Om,if_pos h2]
    ·rw[if_neg Om,if_pos h3]
   ·refine .inr ⟨by simp[h3],.inr (.inr ⟨?_,?_,?_⟩)⟩
    ·rw[if_neg Om,if_neg Om]
    ·rw[if_neg Om,if_pos h2]
    ·by_cases e:b=m
     ·exact .inl (if_pos e)
     ·exact .inr (by rw[if_neg e,if_neg h3])
  ·refine .inr ⟨by simp[h2],.inr (.inl ⟨?_,?_⟩)⟩
   ·rw[if_neg Om,if_neg Om]
   ·by_cases e:a=m
    ·exact .inl (if_pos e)
    ·exact .inr (by rw[if_neg e,if_neg h2])
 ·refine .inr ⟨by simp[h1],.inl ?_⟩
  by_cases e:m=1
  ·exact .inl (if_pos e)
  ·exact .inr (by rw[if_neg e,if_pos Om])
theorem afA {f:Nat} [Cal Tryz.prog f] (caps:LV) (a b m r:Nat) (ha:a<ze) (hb:b<ze) (hm:m<ze) (R:World→Prop) (hst:zX R)
  (hf:zP a b m=true→Fn Tryz.prog f ([zk a,zk b,zk m]++caps) R (Is (zk r))) :
  Fn Tryz.prog 138 [.agg #[.func (.func f) #[] caps.toArray],zk a,zk b,zk m] R (Is (.tuple #[zk (okV (zP a b m) r),.int .i64 (okE (zP a b m))])):=by
 have hC1:=lD m 1 hm y8;have hC2:=lD a m ha hm;have hC3:=lD b m hb hm
 rcases fz a b m with ⟨h1,h2,h3,hy,e1,e2,e3⟩|⟨hn,hc⟩
 ·have hF:=hf hy;rw[hy];rw[e1] at hC1;rw[e2] at hC2;rw[e3] at hC3;refine Fn.enter Tryz.func138 rfl rfl rfl ?_;intro w hw
  repeat (first|refine Tk ?_|intro _|exact Tz)
  refine WC.adraw 16 (k:=?_)
  repeat (first|refine Da ?_|refine DQ.acall (hc:=ue) (k:=?_)|refine DQ.acall (hc:=hC1) (k:=?_)|refine DQ.acall (hc:=hC2) (k:=?_)|refine DQ.acall (hc:=hC3) (k:=?_)|refine Dc ?_)
  refine DQ.anil (k:=?_);intro sx _
  repeat (first|refine Tj ?_|intro _|refine WO.acallV (hc:=hF) (hR:=fun w' hm=>hst _ _ hw hm.mod.below) (k:=?_)|refine Tc ?_|exact Tz)
 ·rw[hn]
  rcases hc with (e1|e1)|⟨e1,e2|e2⟩|⟨e1,e2,e3|e3⟩
  ·rw[e1] at hC1;refine Fn.enter Tryz.func138 rfl rfl rfl ?_;intro w hw
   repeat (first|refine Tk ?_|intro _|exact Tz)
   refine WC.adraw 16 (k:=?_)
   repeat (first|refine Da ?_|refine DQ.acall (hc:=ue) (k:=?_)|refine DQ.acall (hc:=hC1) (k:=?_)|refine DQ.acall (hc:=hC2) (k:=?_)|refine DQ.acall (hc:=hC3) (k:=?_)|refine Dc ?_)
   refine DQ.anil (k:=?_);intro sx _
   repeat (first|refine Tk ?_|intro _|exact Tz)
  ·rw[e1] at hC1;refine Fn.enter Tryz.func138 rfl rfl rfl ?_;intro w hw
   repeat (first|refine Tk ?_|intro _|exact Tz)
   refine WC.adraw 16 (k:=?_)
   repeat (first|refine Da ?_|refine DQ.acall (hc:=ue) (k:=?_)|refine DQ.acall (hc:=hC1) (k:=?_)|refine DQ.acall (hc:=hC2) (k:=?_)|refine DQ.acall (hc:=hC3) (k:=?_)|refine Dc ?_)
   refine DQ.anil (k:=?_);intro sx _
   repeat (first|refine Tk ?_|intro _|exact Tz)
  ·rw[e1] at hC1;rw[e2] at hC2;refine Fn.enter Tryz.func138 rfl rfl rfl ?_;intro w hw
   repeat (first|refine Tk ?_|intro _|exact Tz)
   refine WC.adraw 16 (k:=?_)
   repeat (first|refine Da ?_|refine DQ.acall (hc:=ue) (k:=?_)|refine DQ.acall (hc:=hC1) (k:=?_)|refine DQ.acall (hc:=hC2) (k:=?_)|refine DQ.acall (hc:=hC3) (k:=?_)|refine Dc ?_)
   refine DQ.anil (k:=?_);intro sx _
   repeat (first|refine Tk ?_|intro _|exact Tz)
  ·rw[e1] at hC1;rw[e2] at hC2;refine Fn.enter Tryz.func138 rfl rfl rfl ?_;intro w hw
   repeat (first|refine Tk ?_|intro _|exact Tz)
   refine WC.adraw 16 (k:=?_)
   repeat (first|refine Da ?_|refine DQ.acall (hc:=ue) (k:=?_)|refine DQ.acall (hc:=hC1) (k:=?_)|refine DQ.acall (hc:=hC2) (k:=?_)|refine DQ.acall (hc:=hC3) (k:=?_)|refine Dc ?_)
   refine DQ.anil (k:=?_);intro sx _
   repeat (first|refine Tk ?_|intro _|exact Tz)
  ·rw[e1] at hC1;rw[e2] at hC2;rw[e3] at hC3;refine Fn.enter Tryz.func138 rfl rfl rfl ?_;intro w hw
   repeat (first|refine Tk ?_|intro _|exact Tz)
   refine WC.adraw 16 (k:=?_)
   repeat (first|refine Da ?_|refine DQ.acall (hc:=ue) (k:=?_)|refine DQ.acall (hc:=hC1) (k:=?_)|refine DQ.acall (hc:=hC2) (k:=?_)|refine DQ.acall (hc:=hC3) (k:=?_)|refine Dc ?_)
   refine DQ.anil (k:=?_);intro sx _
   repeat (first|refine Tk ?_|intro _|exact Tz)
  ·rw[e1] at hC1;rw[e2] at hC2;rw[e3] at hC3;refine Fn.enter Tryz.func138 rfl rfl rfl ?_;intro w hw
   repeat (first|refine Tk ?_|intro _|exact Tz)
   refine WC.adraw 16 (k:=?_)
   repeat (first|refine Da ?_|refine DQ.acall (hc:=ue) (k:=?_)|refine DQ.acall (hc:=hC1) (k:=?_)|refine DQ.acall (hc:=hC2) (k:=?_)|refine DQ.acall (hc:=hC3) (k:=?_)|refine Dc ?_)
   refine DQ.anil (k:=?_);intro sx _
   repeat (first|refine Tk ?_|intro _|exact Tz)
theorem zQ {a b m:Nat} (h:zP a b m=true):1<m∧a<m∧b<m:=by
 unfold zP at h;simp at h;exact⟨h.1.1,h.1.2,h.2⟩
abbrev rE (c:Bool) (r:Nat):Value:=.tuple #[zk (okV c r),.int .i64 (okE c)]
theorem afn (a b m:Nat) (ha:a<ze) (hb:b<ze) (hm:m<ze):Fn Tryz.prog 197 [zk a,zk b,zk m] Tr (Is (rE (zP a b m) ((a+b)%m))):=by
 have hO:=afA (f:=236) [] a b m ((a+b)%m) ha hb hm Tr zX.tr (fun h=>agl a b m (zQ h).2.1 (zQ h).2.2 hm);refine Fn.enter Tryz.func197 rfl rfl rfl ?_;intro w hw
 repeat (first|refine Tj ?_|intro _|refine WO.acall (hc:=hO) (k:=?_)|refine Tc ?_|exact Tz)
theorem ac7 (a b m:Nat) (ha:a<ze) (hb:b<ze) (hm:m<ze):Fn Tryz.prog 198 [zk a,zk b,zk m] Tr (Is (rE (zP a b m) ((a+m - b)%m))):=by
 have hO:=afA (f:=238) [] a b m ((a+m - b)%m) ha hb hm Tr zX.tr (fun h=>afZ a b m (zQ h).2.1 (zQ h).2.2 hm);refine Fn.enter Tryz.func198 rfl rfl rfl ?_;intro w hw
 repeat (first|refine Tj ?_|intro _|refine WO.acall (hc:=hO) (k:=?_)|refine Tc ?_|exact Tz)
theorem ad3 (a b m:Nat) (ha:a<ze) (hb:b<ze) (hm:m<ze):Fn Tryz.prog 202 [zk a,zk b,zk m] Tr (Is (rE (zP a b m) (a*b%m))):=by
 have hO:=afA (f:=137) [] a b m (a*b%m) ha hb hm Tr zX.tr (fun h=>kU a b m (zQ h).2.1 (zQ h).2.2 hm);refine Fn.enter Tryz.func202 rfl rfl rfl ?_;intro w hw
 repeat (first|refine Tj ?_|intro _|refine WO.acall (hc:=hO) (k:=?_)|refine Tc ?_|exact Tz)
def aB (n N k:Nat):Nat:=n / 2 ^ (N - k)
theorem pB {n N:Nat} (h:n<2 ^ N):aB n N 0=0:=Nat.div_eq_of_lt (by simpa using h)
theorem jU (n N:Nat):aB n N N=n:=by unfold aB;simp
theorem lj (n:Nat) {N k:Nat} (h:k<N):aB n N (k+1)=2*aB n N k+vZ n (N - 1 - k):=by
 unfold aB vZ;have e:N - k=(N - 1 - k)+1:=by omega
 have e2:N - (k+1)=N - 1 - k:=by omega
 rw[e2,e,Nat.pow_succ,← Nat.div_div_eq_div_mul];omega
theorem nN (a m t b:Nat) (hb:b=0∨b=1):a ^ (2*t+b)%m=if b=1 then (a ^ t%m*(a ^ t%m)%m)*a%m else a ^ t%m*(a ^ t%m)%m:=by
 have h1:a ^ (2*t)%m=a ^ t%m*(a ^ t%m)%m:=by rw[Nat.two_mul,Nat.pow_add,Nat.mul_mod]
 rcases hb with rfl|rfl
 ·simpa using h1
 ·rw[if_pos rfl,Nat.pow_succ,Nat.mul_mod,h1,Nat.mul_mod_mod]
theorem ra (a i:Nat):vZ a i=0∨vZ a i=1:=by unfold vZ;omega
theorem uS (n:Nat):n<2 ^ zJ n:=tI n
theorem nX {n:Nat} (h:n<ze):zJ n≤256:=vd (by simpa [ze] using h)
theorem aae {f:Nat} [Cal Tryz.prog f] (caps:LV) (a n m:Nat) (h1:1<m) (ha:a<m) (hn:n<ze) (hm:m<18446744073709551616) (R:World→Prop) (hst:zX R)
  (hf:∀ x y:Nat,x<m→y<m→Fn Tryz.prog f ([.int .u64 (x:Int),.int .u64 (y:Int)]++caps) R (Is (.int .u64 ((x*y%m:Nat):Int)))) :
  Fn Tryz.prog 132 [.int .u64 (a:Int),.int .u64 1,zk n,.func (.func f) #[] caps.toArray] R (Is (.int .u64 ((a ^ n%m:Nat):Int))):=by
 have hB:=lf n hn;have hlt:=uS n;have hN:=nX hn;have hbit:∀ i:Int,0≤i→i≤1000000→Fn Tryz.prog 182 [zk n,.int .i64 i] Tr (Is (.int .u64 (vZ n i.toNat:Nat))):=fun i h0 h1=>agG n i hn h0 h1;have hend:=jU n (zJ n);have hst0:=pB hlt;have hstep:=fun k (h:k<zJ n)=>lj n h;generalize zJ n=N at *;refine Fn.enter Tryz.func132 rfl rfl rfl ?_;intro w hw
 repeat (first|refine Tj ?_|intro _|refine WO.acall (hc:=hB) (k:=?_)|refine Tc ?_|exact Tz)
 rename_i g6;refine WC.loopI (σ:=Nat × Nat) (fun s=>s.1≤N∧s.2=a ^ aB n N s.1%m) (fun s=>[(0,.int .u64 (a:Int)),(3,.func (.func f) #[] caps.toArray),(6,pt g6),(9,.int .u64 (s.2:Int)),(13,.int .i64 (N:Int)),(14,.int .i64 (s.1:Int))]) (fun s=>[⟨g6,24,zc n⟩]) (fun s=>N - s.1) (0,1) (fun s hs=>?_) ⟨Nat.zero_le _,by rw[hst0,Nat.pow_zero,Nat.mod_eq_of_lt h1]⟩;obtain⟨k,x⟩:=s;obtain⟨hk,hx⟩:=hs;dsimp only at hk hx ⊢;have hxm:x<m:=by rw[hx];exact Nat.mod_lt _ Om
 by_cases hlt:(k:Int)<(N:Int)
 ·have hkN:k<N:=by omega
  have hsq:=hf x x hxm hxm;have hma:=hf (x*x%m) a (Nat.mod_lt _ Om) ha;have hbt:=hbit ((N:Int) - 1 - (k:Int)) Om Om;rw[show ((N:Int) - 1 - (k:Int)).toNat=N - 1 - k by omega] at hbt;have hp:=nN a m (aB n N k) (vZ n (N - 1 - k)) (ra _ _);rw[← hstep k hkN,← hx] at hp
  repeat (first|refine Tk ?_|intro _|exact Tz)
  refine WC.dT rfl hlt ?_
  repeat (first|refine Tj ?_|intro _|refine WO.acallV (hc:=hsq) (hR:=fun w' hm=>hst _ _ hw hm.mod.below) (k:=?_)|refine Tc ?_|exact Tz)
  rcases ra n (N - 1 - k) with e|e
  ·rw[e] at hbt hp;refine WC.adraw 8 (k:=?_)
   repeat (first|refine Da ?_|refine DQ.acall (hc:=hB) (k:=?_)|refine DQ.acall (hc:=hbt) (k:=?_)|refine Dc ?_)
   refine DQ.anil (k:=?_);intro sx _
   repeat (first|refine Tk ?_|intro _|exact Tz)
   refine WX.metI (k+1,x*x%m) (hs:=⟨⟨by omega,by simpa using hp.symm⟩,by simp only;omega⟩)
  ·rw[e] at hbt hp;refine WC.adraw 8 (k:=?_)
   repeat (first|refine Da ?_|refine DQ.acall (hc:=hB) (k:=?_)|refine DQ.acall (hc:=hbt) (k:=?_)|refine Dc ?_)
   refine DQ.anil (k:=?_);intro sx _
   repeat (first|refine Tj ?_|intro _|refine WO.acallV (hc:=hma) (hR:=fun w' hm=>hst _ _ hw hm.mod.below) (k:=?_)|refine Tc ?_|exact Tz)
   refine WX.metI (k+1,x*x%m*a%m) (hs:=⟨⟨by omega,by simpa using hp.symm⟩,by simp only;omega⟩)
 ·have hkN:k=N:=by omega
  subst hkN;rw[hend] at hx;subst hx
  repeat (first|refine Tk ?_|intro _|exact Tz)
  refine WC.dF rfl hlt ?_
  repeat (first|refine Tk ?_|intro _|exact Tz)
end Sx
end
section
open Go Go.RowKit
namespace Sx
attribute [local irreducible] DQ WC WO WX
theorem abP {f:Nat} [Cal Tryz.prog f] (caps:LV) (a n m:Nat) (h1:1<m) (ha:a<m) (hn:n<ze) (R:World→Prop) (hst:zX R)
  (hf:∀ x y:Nat,x<m→y<m→Fn Tryz.prog f ([zk x,zk y]++caps) R (Is (zk (x*y%m)))) :
  Fn Tryz.prog 135 [zk a,zk 1,zk n,.func (.func f) #[] caps.toArray] R (Is (zk (a ^ n%m))):=by
 have hB:=lf n hn;have hlt:=uS n;have hN:=nX hn;have hbit:∀ i:Int,0≤i→i≤1000000→Fn Tryz.prog 182 [zk n,.int .i64 i] Tr (Is (.int .u64 (vZ n i.toNat:Nat))):=fun i h0 h1=>agG n i hn h0 h1;have hend:=jU n (zJ n);have hst0:=pB hlt;have hstep:=fun k (h:k<zJ n)=>lj n h;generalize zJ n=N at *;refine Fn.enter Tryz.func135 rfl rfl rfl ?_;intro w hw
 repeat (first|refine Tj ?_|intro _|refine WO.acall (hc:=hB) (k:=?_)|refine Tc ?_|exact Tz)
 rename_i g4 g5 g6 g8 g9
 refine WC.loopI (σ:=Nat × Nat) (fun s=>s.1≤N∧s.2=a ^ aB n N s.1%m) (fun s=>[(3,.func (.func f) #[] caps.toArray),(4,pt g4),(6,pt g6),(8,pt g8),(9,pt g9),(13,.int .i64 (N:Int)),(14,.int .i64 (s.1:Int))])
  (fun s=>[⟨g4,24,zc a⟩,⟨g6,24,zc n⟩,⟨g8,24,zc 0⟩,⟨g9,24,zc s.2⟩]) (fun s=>N - s.1) (0,1) (fun s hs=>?_) ⟨Nat.zero_le _,by rw[hst0,Nat.pow_zero,Nat.mod_eq_of_lt h1]⟩
 obtain⟨k,x⟩:=s;obtain⟨hk,hx⟩:=hs;dsimp only at hk hx ⊢;have hxm:x<m:=by rw[hx];exact Nat.mod_lt _ Om
 by_cases hlt:(k:Int)<(N:Int)
 ·have hkN:k<N:=by omega
  have hsq:=hf x x hxm hxm;have hma:=hf (x*x%m) a (Nat.mod_lt _ Om) ha;have hbt:=hbit ((N:Int) - 1 - (k:Int)) Om Om;rw[show ((N:Int) - 1 - (k:Int)).toNat=N - 1 - k by omega] at hbt;have hp:=nN a m (aB n N k) (vZ n (N - 1 - k)) (ra _ _);rw[← hstep k hkN,← hx] at hp
  repeat (first|refine Tk ?_|intro _|exact Tz)
  refine WC.dT rfl hlt ?_
  repeat (first|refine Tj ?_|intro _|refine WO.acallV (hc:=hsq) (hR:=fun w' hm=>hst _ _ hw hm.mod.below) (k:=?_)|refine Tc ?_|exact Tz)
  rcases ra n (N - 1 - k) with e|e
  ·rw[e] at hbt hp;refine WC.adraw 8 (k:=?_)
   repeat (first|refine Da ?_|refine DQ.acall (hc:=hB) (k:=?_)|refine DQ.acall (hc:=hbt) (k:=?_)|refine Dc ?_)
   refine DQ.anil (k:=?_);intro sx _
   repeat (first|refine Tk ?_|intro _|exact Tz)
   refine WX.metI (k+1,x*x%m) (hs:=⟨⟨by omega,by simpa using hp.symm⟩,by simp only;omega⟩)
  ·rw[e] at hbt hp;refine WC.adraw 8 (k:=?_)
   repeat (first|refine Da ?_|refine DQ.acall (hc:=hB) (k:=?_)|refine DQ.acall (hc:=hbt) (k:=?_)|refine Dc ?_)
   refine DQ.anil (k:=?_);intro sx _
   repeat (first|refine Tj ?_|intro _|refine WO.acallV (hc:=hma) (hR:=fun w' hm=>hst _ _ hw hm.mod.below) (k:=?_)|refine Tc ?_|exact Tz)
   refine WX.metI (k+1,x*x%m*a%m) (hs:=⟨⟨by omega,by simpa using hp.symm⟩,by simp only;omega⟩)
 ·have hkN:k=N:=by omega
  subst hkN;rw[hend] at hx;subst hx
  repeat (first|refine Tk ?_|intro _|exact Tz)
  refine WC.dF rfl hlt ?_
  repeat (first|refine Tk ?_|intro _|exact Tz)
theorem aeG (a b m g:Nat) (ha:a<m) (hb:b<m) (hm:m<18446744073709551616):Fn Tryz.prog 133 [.int .u64 (a:Int),.int .u64 (b:Int),pt g] (fun w=>Seg w g 0 (zc m)) (Is (.int .u64 ((a*b%m:Nat):Int))):=by
 have hW:=afp a b m ha hb hm;have e:wd 0 m=m:=Nat.mod_eq_of_lt hm;rw[← e] at hW;refine Fn.enter Tryz.func133 rfl rfl rfl ?_;intro w hw;rw[← e]
 repeat (first|refine Tj ?_|intro _|refine WO.acall (hc:=hW) (k:=?_)|refine Tc ?_|exact Tz)
theorem adi (a b m g:Nat) (ha:a<m) (hb:b<m) (hm:m<ze):Fn Tryz.prog 136 [zk a,zk b,pt g] (fun w=>Seg w g 0 (zc m)) (Is (zk (a*b%m))):=by
 have hW:=kU a b m ha hb hm;refine Fn.enter Tryz.func136 rfl rfl rfl ?_;intro w hw
 repeat (first|refine Tj ?_|intro _|refine WO.acall (hc:=hW) (k:=?_)|refine Tc ?_|exact Tz)
theorem agr (a n m g:Nat) (h1:1<m) (ha:a<m) (hm:m<ze) (hn:n<ze):Fn Tryz.prog 130 [zk a,zk a,zk m,pt g] (fun w=>Seg w g 0 (zc n)) (Is (zk (a ^ n%m))):=by
 have hB:=lf m hm
 by_cases hs:m<18446744073709551616
 ·have hle:((zJ m:Nat):Int)≤64:=by have:zJ m≤64:=vd (by simpa using hs);omega
  have ea:wd 0 a=a:=Nat.mod_eq_of_lt Om
  have hP:∀ g,Fn Tryz.prog 132 [.int .u64 ((wd 0 a:Nat):Int),.int .u64 1,zk n,.func (.func 133) #[] #[pt g]] (fun w=>Seg w g 0 (zc m)) (Is (.int .u64 ((a ^ n%m:Nat):Int))) :=
   fun g=>by rw[ea];exact aae [pt g] a n m h1 ha hn hs _ zX.seg (fun x y hx hy=>aeG x y m g hx hy hs)
  have hO:=aG (a ^ n%m) (Nat.lt_trans (Nat.mod_lt _ Om) hs);generalize zJ m=N at *;refine Fn.enter Tryz.func130 rfl rfl rfl ?_;intro w hw
  repeat (first|refine Tj ?_|intro _|refine WO.acall (hc:=hB) (k:=?_)|refine Tc ?_|exact Tz)
  refine WC.dT rfl hle ?_
  repeat (first|refine Tj ?_|intro _|refine WO.acall (hc:=hO) (k:=?_)|refine WO.acallR (hc:=hP _) (hR:=fun w' hm=>Hs.sg hm) (k:=?_)|refine Tc ?_|exact Tz)
 ·have hle:¬ ((zJ m:Nat):Int)≤64:=by
   intro h;have:zJ m≤64:=by omega
   rw[yY] at this;exact hs (by simpa using this)
  have hP:∀ g,Fn Tryz.prog 135 [zk a,zk 1,zk n,.func (.func 136) #[] #[pt g]] (fun w=>Seg w g 0 (zc m)) (Is (zk (a ^ n%m))) :=
   fun g=>abP [pt g] a n m h1 ha hn _ zX.seg (fun x y hx hy=>adi x y m g hx hy hm)
  generalize zJ m=N at *;refine Fn.enter Tryz.func130 rfl rfl rfl ?_;intro w hw
  repeat (first|refine Tj ?_|intro _|refine WO.acall (hc:=hB) (k:=?_)|refine Tc ?_|exact Tz)
  refine WC.dF rfl hle ?_
  repeat (first|refine Tk ?_|intro _|exact Tz)
  refine WC.adraw 5 (k:=?_)
  repeat (first|refine Da ?_|refine DQ.acall (hc:=ue) (k:=?_)|refine DQ.acallR (hc:=hP _) (hR:=fun w' hm=>Hs.sg hm) (k:=?_)|refine Dc ?_)
  refine DQ.anil (k:=?_);intro sx _
  repeat (first|refine Tk ?_|intro _|exact Tz)
theorem ag5 (a n m:Nat) (ha:a<ze) (hn:n<ze) (hm:m<ze):Fn Tryz.prog 62 [zk a,zk n,zk m] Tr (Is (rE (zP a a m) (a ^ n%m))):=by
 have hO:=fun g=>afA (f:=130) [pt g] a a m (a ^ n%m) ha ha hm _ zX.seg (fun h=>agr a n m g (zQ h).1 (zQ h).2.1 hm hn);refine Fn.enter Tryz.func62 rfl rfl rfl ?_;intro w hw
 repeat (first|refine Tj ?_|intro _|refine WO.acallR (hc:=hO _) (hR:=fun w' hm=>Hs.sg hm) (k:=?_)|refine Tc ?_|exact Tz)
end Sx
end
section
namespace Sx
def fJ (m r s x y:Nat):Nat:=if h:s≤1 then y else fJ m s (r%s) y ((x+m - r / s*y%m)%m)
termination_by s
decreasing_by exact Nat.mod_lt _ Om
def uX (a m:Nat):Nat:=if Nat.gcd a m=1 then fJ m m a 0 1 else 0
theorem kc {a b m:Int} (h:m ∣ a - b):a%m=b%m:=by
 obtain⟨c,hc⟩:=h;have:a=b+m*c:=by omega
 rw[this,Int.add_mul_emod_self_left]
theorem kC {a b m:Int} (h:a%m=b%m):m ∣ a - b:=Int.dvd_of_emod_eq_zero (by rw[Int.sub_emod,h,Int.sub_self,Int.zero_emod])
theorem fu {a b m:Nat} (h:(m:Int) ∣ (a:Int) - (b:Int)):a%m=b%m:=by
 have:=kc h;rw[← Int.natCast_emod,← Int.natCast_emod] at this;exact Int.ofNat.inj this
theorem pF {a b m:Nat} (h:a%m=b%m):(m:Int) ∣ (a:Int) - (b:Int):=by
 apply kC;rw[← Int.natCast_emod,← Int.natCast_emod,h]
theorem aW {a m r s x y:Nat} (hm:0<m) (h1:x*a%m=r%m) (h2:y*a%m=s%m):(x+m - r / s*y%m)%m*a%m=r%s%m:=by
 have ht:r / s*y%m<m:=Nat.mod_lt _ hm;have e1:r=s*(r / s)+r%s:=(Nat.div_add_mod r s).symm;have e2:r / s*y=m*(r / s*y / m)+r / s*y%m:=(Nat.div_add_mod _ m).symm;have e3:x+m - r / s*y%m=m*((x+m - r / s*y%m) / m)+(x+m - r / s*y%m)%m:=(Nat.div_add_mod _ m).symm;have d1:=pF h1;have d2:=pF h2;apply fu;generalize hz:(x+m - r / s*y%m)%m=z at *;generalize (x+m - r / s*y%m) / m=k at *;generalize hu:r / s*y%m=u at *;generalize r / s*y / m=l at *;generalize r / s=q at *;generalize r%s=p at *;obtain⟨c1,hc1⟩:=d1;obtain⟨c2,hc2⟩:=d2;have f3:(x:Int)+m - u=m*k+z:=by
  have:((x+m - u:Nat):Int)=((m*k+z:Nat):Int):=by rw[e3]
  rw[Int.ofNat_sub Om] at this;push_cast at this;exact this
 have f2:(q:Int)*y=m*l+u:=by exact_mod_cast e2
 have f1:(r:Int)=s*q+p:=by exact_mod_cast e1
 push_cast at hc1 hc2 ⊢;refine⟨c1 - q*c2+a - k*a+l*a,?_⟩;have hz' : (z:Int)=x+m - (q*y - m*l) - m*k:=by omega
 have:(z:Int)*a - p=(x*a - r) - q*(y*a - s)+m*a+m*(l*a) - m*(k*a):=by
  rw[hz',f1];simp only[Int.sub_mul,Int.add_mul,Int.mul_sub,Int.mul_add,Int.mul_assoc,Int.mul_comm,Int.mul_left_comm];omega
 rw[this,hc1,hc2];simp only[Int.sub_mul,Int.add_mul,Int.mul_sub,Int.mul_add,Int.mul_assoc,Int.mul_comm,Int.mul_left_comm];omega
theorem j7 {m r x y:Nat}:fJ m r 1 x y=y:=by unfold fJ;simp
theorem ma {m r s x y:Nat} (h:1<s):fJ m r s x y=fJ m s (r%s) y ((x+m - r / s*y%m)%m):=by
 rw[fJ];rw[dif_neg Om]
theorem iy {r s:Nat} (hs:1<s) (hg:Nat.gcd r s=1):0<r%s:=by
 rcases Nat.eq_zero_or_pos (r%s) with h|h
 ·exfalso;have h1:s ∣ r:=Nat.dvd_of_mod_eq_zero h;have:Nat.gcd r s=s:=Nat.gcd_eq_right h1;omega
 ·exact h
theorem ig {r s:Nat} (hg:Nat.gcd r s=1):Nat.gcd s (r%s)=1:=by
 rw[Nat.gcd_comm s,← Nat.gcd_rec,Nat.gcd_comm];exact hg
theorem d7 (m a:Nat) (hm:1<m):∀ (s r x y:Nat),0<s→Nat.gcd r s=1→x*a%m=r%m→y*a%m=s%m→y<m→fJ m r s x y*a%m=1∧fJ m r s x y<m:=by
 intro s
 induction s using Nat.strongRecOn with
 | _ s ih =>
  intro r x y hs hg h1 h2 hy
  by_cases e:s=1
  ·subst e;rw[j7,h2,Nat.mod_eq_of_lt hm];exact⟨rfl,hy⟩
  ·rw[ma Om];exact ih (r%s) (Nat.mod_lt _ hs) s y _ (iy Om hg) (ig hg) h2 (aW Om h1 h2) (Nat.mod_lt _ Om)
theorem tW {m a:Nat} (hm:1<m) (ha:a<m) (hg:Nat.gcd a m=1):uX a m*a%m=1∧uX a m<m:=by
 unfold uX;rw[if_pos hg];have h0:0<a:=by
  rcases Nat.eq_zero_or_pos a with h|h
  ·subst h;rw[Nat.gcd_zero_left] at hg;omega
  ·exact h
 exact d7 m a hm a m 0 1 h0 (by rw[Nat.gcd_comm];exact hg) Sm Sm hm
theorem adU {m a:Nat} (hm:1<m) (ha:a<m) (hg:Nat.gcd a m=1):uX a m≠0:=by
 intro h;have:=(tW hm ha hg).1;rw[h] at this;simp at this
theorem kd {m a:Nat} (hg:Nat.gcd a m≠1):uX a m=0:=by unfold uX;rw[if_neg hg]
def fK (a m:Nat):Int:=if zP a a m then (if Nat.gcd a m=1 then 0 else 7) else 1
end Sx
end
section
open Go Go.RowKit
namespace Sx
attribute [local irreducible] DQ WC WO WT WX wd
theorem ahT {r s m:Nat} (hs:1<s) (hr:r≤m) (hm:1<m):r / s<m:=Nat.lt_of_le_of_lt (Nat.div_le_div_right hr) (Nat.div_lt_self Om hs)
theorem agh (a m:Nat) (h1:1<m) (ha:a<m) (hm:m<ze):Fn Tryz.prog 213 [zk a,zk a,zk m] Tr (Is (zk (uX a m))):=by
 have haB:a<ze:=by omega
 have hG:=abR a m haB hm;have hgB:Nat.gcd a m<ze:=Nat.lt_of_le_of_lt (Nat.gcd_le_right _ Om) hm
 by_cases hg:Nat.gcd a m=1
 ·have hne:¬ (Nat.gcd a m≠1):=fun h=>h hg;have hinv:uX a m=fJ m m a 0 1:=by unfold uX;rw[if_pos hg]
  have h0:0<a:=by
   rcases Nat.eq_zero_or_pos a with h|h
   ·subst h;rw[Nat.gcd_zero_left] at hg;omega
   ·exact h
  have hgm:Nat.gcd m a=1:=by rw[Nat.gcd_comm];exact hg
  rw[hinv];refine Fn.enter Tryz.func213 rfl rfl rfl ?_;intro w hw
  repeat (first|refine Tj ?_|intro _|refine WO.acall (hc:=hG) (k:=?_)|refine WO.acall (hc:=ue) (k:=?_)|refine Tc ?_|exact Tz)
  refine WC.dF rfl hne ?_
  repeat (first|refine Tk ?_|intro _|exact Tz)
  rename_i g3 g4 g5 g6;refine WC.mainA [4,5,6,7,8,9,10,11] [(0,zk m),(1,zk a),(2,zk 0),(3,zk 1)] Dtt (fun A hA=>?_);refine WT.given [(3,pt g3),(5,pt g5),(6,pt g6)] [⟨g3,24,zc a⟩,⟨g5,24,zc m⟩] Kr (Tlv.a (Tlv.a (Tlv.call mJ (fun _ _=>trivial) (Tlv.call ue (fun _ _=>trivial) (Tlv.nil))))) (fun hc hT=>?_)
  suffices hS4080:∀ q4 q5 q6 q7,A [11,10,9,8,7,6,5,4] [(7,pt q4),(8,pt q5),(9,pt q6),(10,pt q7),(3,pt g3),(5,pt g5),(6,pt g6)] [⟨q4,24,zc m⟩,⟨q5,24,zc a⟩,⟨q6,24,zc 0⟩,⟨q7,24,zc 1⟩,⟨g3,24,zc a⟩,⟨g5,24,zc m⟩,⟨g6,24,zc 0⟩] by
   have hS2032:∀ q4 q5 q6 q7,A [10,9,8,7,6,5,4] [(7,pt q4),(8,pt q5),(9,pt q6),(10,pt q7),(3,pt g3),(5,pt g5),(6,pt g6)] [⟨q4,24,zc m⟩,⟨q5,24,zc a⟩,⟨q6,24,zc 0⟩,⟨q7,24,zc 0⟩,⟨g3,24,zc a⟩,⟨g5,24,zc m⟩,⟨g6,24,zc 0⟩]:=by
    intro q4 q5 q6 q7;refine (hA _ _ _).2 (WT.step [11] Dtt hc hT ⟨⟨_,rfl,?_⟩,trivial⟩)
    ·refine Tw ?_;exact WT.go [] hA (hS4080 q4 q5 q6 q7)
   have hS1008:∀ q4 q5 q6 q7,A [9,8,7,6,5,4] [(7,pt q4),(8,pt q5),(9,pt q6),(10,pt q7),(3,pt g3),(5,pt g5),(6,pt g6)] [⟨q4,24,zc m⟩,⟨q5,24,zc a⟩,⟨q6,24,zc 0⟩,⟨q7,24,zc 0⟩,⟨g3,24,zc a⟩,⟨g5,24,zc m⟩,⟨g6,24,zc 0⟩]:=by
    intro q4 q5 q6 q7;refine (hA _ _ _).2 (WT.step [10] Dtt hc hT ⟨⟨_,rfl,?_⟩,trivial⟩)
    ·refine Tw ?_;exact WT.go [] hA (hS2032 q4 q5 q6 q7)
   have hS496:∀ q4 q5 q6 q7,A [8,7,6,5,4] [(7,pt q4),(8,pt q5),(9,pt q6),(10,pt q7),(3,pt g3),(5,pt g5),(6,pt g6)] [⟨q4,24,zc m⟩,⟨q5,24,zc 0⟩,⟨q6,24,zc 0⟩,⟨q7,24,zc 0⟩,⟨g3,24,zc a⟩,⟨g5,24,zc m⟩,⟨g6,24,zc 0⟩]:=by
    intro q4 q5 q6 q7;refine (hA _ _ _).2 (WT.step [9] Dtt hc hT ⟨⟨_,rfl,?_⟩,trivial⟩)
    ·refine Tw ?_;exact WT.go [] hA (hS1008 q4 q5 q6 q7)
   have hS240:∀ q4 q5 q6 q7,A [7,6,5,4] [(7,pt q4),(8,pt q5),(9,pt q6),(10,pt q7),(3,pt g3),(5,pt g5),(6,pt g6)] [⟨q4,24,zc 0⟩,⟨q5,24,zc 0⟩,⟨q6,24,zc 0⟩,⟨q7,24,zc 0⟩,⟨g3,24,zc a⟩,⟨g5,24,zc m⟩,⟨g6,24,zc 0⟩]:=by
    intro q4 q5 q6 q7;refine (hA _ _ _).2 (WT.step [8] Dtt hc hT ⟨⟨_,rfl,?_⟩,trivial⟩)
    ·refine Tw ?_;exact WT.go [] hA (hS496 q4 q5 q6 q7)
   have hS112:∀ q4 q5 q6,A [6,5,4] [(7,pt q4),(8,pt q5),(9,pt q6),(3,pt g3),(5,pt g5),(6,pt g6)] [⟨q4,24,zc 0⟩,⟨q5,24,zc 0⟩,⟨q6,24,zc 0⟩,⟨g3,24,zc a⟩,⟨g5,24,zc m⟩,⟨g6,24,zc 0⟩]:=by
    intro q4 q5 q6;refine (hA _ _ _).2 (WT.step [7] Dtt hc hT ⟨⟨_,rfl,?_⟩,trivial⟩)
    ·(refine WO.autoM (k:=?_);intro q7);exact WT.go [(10,pt q7)] hA (hS240 q4 q5 q6 q7)
   have hS176:∀ q4 q5 q7,A [7,5,4] [(7,pt q4),(8,pt q5),(10,pt q7),(3,pt g3),(5,pt g5),(6,pt g6)] [⟨q4,24,zc 0⟩,⟨q5,24,zc 0⟩,⟨q7,24,zc 0⟩,⟨g3,24,zc a⟩,⟨g5,24,zc m⟩,⟨g6,24,zc 0⟩]:=by
    intro q4 q5 q7;refine (hA _ _ _).2 (WT.step [6] Dtt hc hT ⟨⟨_,rfl,?_⟩,trivial⟩)
    ·(refine WO.autoM (k:=?_);intro q6);exact WT.go [(9,pt q6)] hA (hS240 q4 q5 q6 q7)
   have hS208:∀ q4 q6 q7,A [7,6,4] [(7,pt q4),(9,pt q6),(10,pt q7),(3,pt g3),(5,pt g5),(6,pt g6)] [⟨q4,24,zc 0⟩,⟨q6,24,zc 0⟩,⟨q7,24,zc 0⟩,⟨g3,24,zc a⟩,⟨g5,24,zc m⟩,⟨g6,24,zc 0⟩]:=by
    intro q4 q6 q7;refine (hA _ _ _).2 (WT.step [5] Dtt hc hT ⟨⟨_,rfl,?_⟩,trivial⟩)
    ·(refine WO.autoM (k:=?_);intro q5);exact WT.go [(8,pt q5)] hA (hS240 q4 q5 q6 q7)
   have hS224:∀ q5 q6 q7,A [7,6,5] [(8,pt q5),(9,pt q6),(10,pt q7),(3,pt g3),(5,pt g5),(6,pt g6)] [⟨q5,24,zc 0⟩,⟨q6,24,zc 0⟩,⟨q7,24,zc 0⟩,⟨g3,24,zc a⟩,⟨g5,24,zc m⟩,⟨g6,24,zc 0⟩]:=by
    intro q5 q6 q7;refine (hA _ _ _).2 (WT.step [4] Dtt hc hT ⟨⟨_,rfl,?_⟩,trivial⟩)
    ·(refine WO.autoM (k:=?_);intro q4);exact WT.go [(7,pt q4)] hA (hS240 q4 q5 q6 q7)
   have hS48:∀ q4 q5,A [5,4] [(7,pt q4),(8,pt q5),(3,pt g3),(5,pt g5),(6,pt g6)] [⟨q4,24,zc 0⟩,⟨q5,24,zc 0⟩,⟨g3,24,zc a⟩,⟨g5,24,zc m⟩,⟨g6,24,zc 0⟩]:=by
    intro q4 q5;refine (hA _ _ _).2 (WT.step [6,7] Dtt hc hT ⟨⟨_,rfl,?_⟩,⟨_,rfl,?_⟩,trivial⟩)
    ·(refine WO.autoM (k:=?_);intro q6);exact WT.go [(9,pt q6)] hA (hS112 q4 q5 q6)
    ·(refine WO.autoM (k:=?_);intro q7);exact WT.go [(10,pt q7)] hA (hS176 q4 q5 q7)
   have hS80:∀ q4 q6,A [6,4] [(7,pt q4),(9,pt q6),(3,pt g3),(5,pt g5),(6,pt g6)] [⟨q4,24,zc 0⟩,⟨q6,24,zc 0⟩,⟨g3,24,zc a⟩,⟨g5,24,zc m⟩,⟨g6,24,zc 0⟩]:=by
    intro q4 q6;refine (hA _ _ _).2 (WT.step [5,7] Dtt hc hT ⟨⟨_,rfl,?_⟩,⟨_,rfl,?_⟩,trivial⟩)
    ·(refine WO.autoM (k:=?_);intro q5);exact WT.go [(8,pt q5)] hA (hS112 q4 q5 q6)
    ·(refine WO.autoM (k:=?_);intro q7);exact WT.go [(10,pt q7)] hA (hS208 q4 q6 q7)
   have hS144:∀ q4 q7,A [7,4] [(7,pt q4),(10,pt q7),(3,pt g3),(5,pt g5),(6,pt g6)] [⟨q4,24,zc 0⟩,⟨q7,24,zc 0⟩,⟨g3,24,zc a⟩,⟨g5,24,zc m⟩,⟨g6,24,zc 0⟩]:=by
    intro q4 q7;refine (hA _ _ _).2 (WT.step [5,6] Dtt hc hT ⟨⟨_,rfl,?_⟩,⟨_,rfl,?_⟩,trivial⟩)
    ·(refine WO.autoM (k:=?_);intro q5);exact WT.go [(8,pt q5)] hA (hS176 q4 q5 q7)
    ·(refine WO.autoM (k:=?_);intro q6);exact WT.go [(9,pt q6)] hA (hS208 q4 q6 q7)
   have hS96:∀ q5 q6,A [6,5] [(8,pt q5),(9,pt q6),(3,pt g3),(5,pt g5),(6,pt g6)] [⟨q5,24,zc 0⟩,⟨q6,24,zc 0⟩,⟨g3,24,zc a⟩,⟨g5,24,zc m⟩,⟨g6,24,zc 0⟩]:=by
    intro q5 q6;refine (hA _ _ _).2 (WT.step [4,7] Dtt hc hT ⟨⟨_,rfl,?_⟩,⟨_,rfl,?_⟩,trivial⟩)
    ·(refine WO.autoM (k:=?_);intro q4);exact WT.go [(7,pt q4)] hA (hS112 q4 q5 q6)
    ·(refine WO.autoM (k:=?_);intro q7);exact WT.go [(10,pt q7)] hA (hS224 q5 q6 q7)
   have hS160:∀ q5 q7,A [7,5] [(8,pt q5),(10,pt q7),(3,pt g3),(5,pt g5),(6,pt g6)] [⟨q5,24,zc 0⟩,⟨q7,24,zc 0⟩,⟨g3,24,zc a⟩,⟨g5,24,zc m⟩,⟨g6,24,zc 0⟩]:=by
    intro q5 q7;refine (hA _ _ _).2 (WT.step [4,6] Dtt hc hT ⟨⟨_,rfl,?_⟩,⟨_,rfl,?_⟩,trivial⟩)
    ·(refine WO.autoM (k:=?_);intro q4);exact WT.go [(7,pt q4)] hA (hS176 q4 q5 q7)
    ·(refine WO.autoM (k:=?_);intro q6);exact WT.go [(9,pt q6)] hA (hS224 q5 q6 q7)
   have hS192:∀ q6 q7,A [7,6] [(9,pt q6),(10,pt q7),(3,pt g3),(5,pt g5),(6,pt g6)] [⟨q6,24,zc 0⟩,⟨q7,24,zc 0⟩,⟨g3,24,zc a⟩,⟨g5,24,zc m⟩,⟨g6,24,zc 0⟩]:=by
    intro q6 q7;refine (hA _ _ _).2 (WT.step [4,5] Dtt hc hT ⟨⟨_,rfl,?_⟩,⟨_,rfl,?_⟩,trivial⟩)
    ·(refine WO.autoM (k:=?_);intro q4);exact WT.go [(7,pt q4)] hA (hS208 q4 q6 q7)
    ·(refine WO.autoM (k:=?_);intro q5);exact WT.go [(8,pt q5)] hA (hS224 q5 q6 q7)
   have hS16:∀ q4,A [4] [(7,pt q4),(3,pt g3),(5,pt g5),(6,pt g6)] [⟨q4,24,zc 0⟩,⟨g3,24,zc a⟩,⟨g5,24,zc m⟩,⟨g6,24,zc 0⟩]:=by
    intro q4;refine (hA _ _ _).2 (WT.step [5,6,7] Dtt hc hT ⟨⟨_,rfl,?_⟩,⟨_,rfl,?_⟩,⟨_,rfl,?_⟩,trivial⟩)
    ·(refine WO.autoM (k:=?_);intro q5);exact WT.go [(8,pt q5)] hA (hS48 q4 q5)
    ·(refine WO.autoM (k:=?_);intro q6);exact WT.go [(9,pt q6)] hA (hS80 q4 q6)
    ·(refine WO.autoM (k:=?_);intro q7);exact WT.go [(10,pt q7)] hA (hS144 q4 q7)
   have hS32:∀ q5,A [5] [(8,pt q5),(3,pt g3),(5,pt g5),(6,pt g6)] [⟨q5,24,zc 0⟩,⟨g3,24,zc a⟩,⟨g5,24,zc m⟩,⟨g6,24,zc 0⟩]:=by
    intro q5;refine (hA _ _ _).2 (WT.step [4,6,7] Dtt hc hT ⟨⟨_,rfl,?_⟩,⟨_,rfl,?_⟩,⟨_,rfl,?_⟩,trivial⟩)
    ·(refine WO.autoM (k:=?_);intro q4);exact WT.go [(7,pt q4)] hA (hS48 q4 q5)
    ·(refine WO.autoM (k:=?_);intro q6);exact WT.go [(9,pt q6)] hA (hS96 q5 q6)
    ·(refine WO.autoM (k:=?_);intro q7);exact WT.go [(10,pt q7)] hA (hS160 q5 q7)
   have hS64:∀ q6,A [6] [(9,pt q6),(3,pt g3),(5,pt g5),(6,pt g6)] [⟨q6,24,zc 0⟩,⟨g3,24,zc a⟩,⟨g5,24,zc m⟩,⟨g6,24,zc 0⟩]:=by
    intro q6;refine (hA _ _ _).2 (WT.step [4,5,7] Dtt hc hT ⟨⟨_,rfl,?_⟩,⟨_,rfl,?_⟩,⟨_,rfl,?_⟩,trivial⟩)
    ·(refine WO.autoM (k:=?_);intro q4);exact WT.go [(7,pt q4)] hA (hS80 q4 q6)
    ·(refine WO.autoM (k:=?_);intro q5);exact WT.go [(8,pt q5)] hA (hS96 q5 q6)
    ·(refine WO.autoM (k:=?_);intro q7);exact WT.go [(10,pt q7)] hA (hS192 q6 q7)
   have hS128:∀ q7,A [7] [(10,pt q7),(3,pt g3),(5,pt g5),(6,pt g6)] [⟨q7,24,zc 0⟩,⟨g3,24,zc a⟩,⟨g5,24,zc m⟩,⟨g6,24,zc 0⟩]:=by
    intro q7;refine (hA _ _ _).2 (WT.step [4,5,6] Dtt hc hT ⟨⟨_,rfl,?_⟩,⟨_,rfl,?_⟩,⟨_,rfl,?_⟩,trivial⟩)
    ·(refine WO.autoM (k:=?_);intro q4);exact WT.go [(7,pt q4)] hA (hS144 q4 q7)
    ·(refine WO.autoM (k:=?_);intro q5);exact WT.go [(8,pt q5)] hA (hS160 q5 q7)
    ·(refine WO.autoM (k:=?_);intro q6);exact WT.go [(9,pt q6)] hA (hS192 q6 q7)
   have hS0:A [] [(3,pt g3),(5,pt g5),(6,pt g6)] [⟨g3,24,zc a⟩,⟨g5,24,zc m⟩,⟨g6,24,zc 0⟩]:=by
    refine (hA _ _ _).2 (WT.step [4,5,6,7] Dtt hc hT ⟨⟨_,rfl,?_⟩,⟨_,rfl,?_⟩,⟨_,rfl,?_⟩,⟨_,rfl,?_⟩,trivial⟩)
    ·(refine WO.autoM (k:=?_);intro q4);exact WT.go [(7,pt q4)] hA (hS16 q4)
    ·(refine WO.autoM (k:=?_);intro q5);exact WT.go [(8,pt q5)] hA (hS32 q5)
    ·(refine WO.autoM (k:=?_);intro q6);exact WT.go [(9,pt q6)] hA (hS64 q6)
    ·(refine WO.autoM (k:=?_);intro q7);exact WT.go [(10,pt q7)] hA (hS128 q7)
   exact WT.less ((hA _ _ _).1 hS0) Dtt Kle.a (by repeat (first|exact Lle.nil|exact Lle.same|refine Lle.c ?_))
  intro q4 q5 q6 q7;refine (hA _ _ _).2 (WT.fin [4,5,6,7,8,9,10,11] 6 hc rfl Kr ?_);clear hc hT hA
  repeat (first|refine Tk ?_|intro _|exact Tz)
  refine WC.loopI (σ:=Nat × Nat × Nat × Nat) (fun s=>0<s.2.1∧s.2.1<s.1∧s.1≤m∧Nat.gcd s.1 s.2.1=1∧s.2.2.1<m∧s.2.2.2<m∧fJ m s.1 s.2.1 s.2.2.1 s.2.2.2=fJ m m a 0 1)
   (fun s=>[(5,pt g5),(6,pt g6),(7,pt q4),(8,pt q5),(9,pt q6),(10,pt q7)])
   (fun s=>[⟨g5,24,zc m⟩,⟨g6,24,zc 0⟩,⟨q4,24,zc s.1⟩,⟨q5,24,zc s.2.1⟩,⟨q6,24,zc s.2.2.1⟩,⟨q7,24,zc s.2.2.2⟩]) (fun s=>s.2.1) (m,a,0,1) (fun s hs=>?_) ⟨h0,ha,Nat.le_refl _,hgm,by show 0<m;omega,h1,rfl⟩
  obtain⟨r,s,x,y⟩:=s;obtain⟨hs0,hsr,hrm,hgc,hx,hy,heq⟩:=hs;dsimp only at hs0 hsr hrm hgc hx hy heq ⊢;have hsB:s<ze:=by omega
  by_cases hs1:s=1
  ·have hno:¬ (s≠1):=fun h=>h hs1;subst hs1;rw[j7] at heq;rw[← heq]
   repeat (first|refine Tk ?_|intro _|exact Tz)
   refine WC.adraw 3 (k:=?_)
   repeat (first|refine Da ?_|refine DQ.acall (hc:=ue) (k:=?_)|refine Dc ?_)
   refine DQ.anil (k:=?_);intro sx _
   repeat (first|refine Tk ?_|intro _|exact Tz)
  ·have hD:=ahC r s Om hsB hs0;have hq:=ahT (r:=r) (s:=s) (m:=m) Om hrm h1;have hT:=kU (r / s) y m hq hy hm;have hS:=ac7 x (r / s*y%m) m Om (Nat.lt_trans (Nat.mod_lt _ Om) hm) hm;have hmay:zP x (r / s*y%m) m=true:=by unfold zP;simp[h1,hx,Nat.mod_lt _ (show 0<m by omega)]
   rw[hmay] at hS;have hnext:=ma (m:=m) (r:=r) (x:=x) (y:=y) (show 1<s by omega);have hpos:=iy (show 1<s by omega) hgc;have hlt:=Nat.mod_lt r hs0;have hgn:=ig hgc;have hz:(x+m - r / s*y%m)%m<m:=Nat.mod_lt _ Om;rw[heq] at hnext;generalize (x+m - r / s*y%m)%m=z at *;generalize r / s*y%m=u at *;generalize r / s=q at *;generalize r%s=p at *
   repeat (first|refine Tk ?_|intro _|exact Tz)
   refine WC.adraw 3 (k:=?_)
   repeat (first|refine Da ?_|refine DQ.acall (hc:=ue) (k:=?_)|refine Dc ?_)
   refine DQ.anil (k:=?_);intro sx _
   repeat (first|refine Tk ?_|intro _|exact Tz)
   refine WC.dT rfl hs1 ?_
   repeat (first|refine Tj ?_|intro _|refine WO.acall (hc:=hD) (k:=?_)|refine Tc ?_|exact Tz)
   rename_i g11 g12;refine WC.adrawF [9] 11 (k:=?_)
   repeat (first|refine Da ?_|refine DQ.acall (hc:=hT) (k:=?_)|refine DQ.acall (hc:=hS) (k:=?_)|refine Df ?_)
   refine DQ.anil (k:=?_);intro sx _
   repeat (first|refine Tk ?_|intro _|exact Tz)
   generalize sx 10 0=g14;refine WC.mainA [0,4,5,6,7] [(1,zk p),(2,zk y),(3,zk z)] Dtt (fun A hA=>?_);refine WT.given [(5,pt g5),(6,pt g6),(7,pt q4),(8,pt q5),(9,pt q6),(10,pt q7),(12,pt g12),(14,pt g14)] [⟨g12,24,zc p⟩,⟨q7,24,zc y⟩,⟨g14,24,zc z⟩] Kr (Tlv.a (Tlv.a (Tlv.a (Tlv.nil)))) (fun hc hT=>?_)
   suffices hS241:A [7,6,5,4,0] [(46,zk s),(5,pt g5),(6,pt g6),(7,pt q4),(8,pt q5),(9,pt q6),(10,pt q7),(12,pt g12),(14,pt g14)] [⟨g5,24,zc m⟩,⟨g6,24,zc 0⟩,⟨q4,24,zc s⟩,⟨q5,24,zc p⟩,⟨q6,24,zc y⟩,⟨q7,24,zc z⟩,⟨g12,24,zc p⟩,⟨g14,24,zc z⟩] by
    have hS113:A [6,5,4,0] [(46,zk s),(5,pt g5),(6,pt g6),(7,pt q4),(8,pt q5),(9,pt q6),(10,pt q7),(12,pt g12),(14,pt g14)] [⟨g5,24,zc m⟩,⟨g6,24,zc 0⟩,⟨q4,24,zc s⟩,⟨q5,24,zc p⟩,⟨q6,24,zc y⟩,⟨q7,24,zc y⟩,⟨g12,24,zc p⟩,⟨g14,24,zc z⟩]:=by
     refine (hA _ _ _).2 (WT.step [7] Dtt hc hT ⟨⟨_,rfl,?_⟩,trivial⟩)
     ·refine Tw ?_;exact WT.go [] hA (hS241)
    have hS49:A [5,4,0] [(46,zk s),(5,pt g5),(6,pt g6),(7,pt q4),(8,pt q5),(9,pt q6),(10,pt q7),(12,pt g12),(14,pt g14)] [⟨g5,24,zc m⟩,⟨g6,24,zc 0⟩,⟨q4,24,zc s⟩,⟨q5,24,zc p⟩,⟨q6,24,zc x⟩,⟨q7,24,zc y⟩,⟨g12,24,zc p⟩,⟨g14,24,zc z⟩]:=by
     refine (hA _ _ _).2 (WT.step [6] Dtt hc hT ⟨⟨_,rfl,?_⟩,trivial⟩)
     ·refine Tw ?_;exact WT.go [] hA (hS113)
    have hS17:A [4,0] [(46,zk s),(5,pt g5),(6,pt g6),(7,pt q4),(8,pt q5),(9,pt q6),(10,pt q7),(12,pt g12),(14,pt g14)] [⟨g5,24,zc m⟩,⟨g6,24,zc 0⟩,⟨q4,24,zc s⟩,⟨q5,24,zc s⟩,⟨q6,24,zc x⟩,⟨q7,24,zc y⟩,⟨g12,24,zc p⟩,⟨g14,24,zc z⟩]:=by
     refine (hA _ _ _).2 (WT.step [5] Dtt hc hT ⟨⟨_,rfl,?_⟩,trivial⟩)
     ·refine Tw ?_;exact WT.go [] hA (hS49)
    have hS1:A [0] [(46,zk s),(5,pt g5),(6,pt g6),(7,pt q4),(8,pt q5),(9,pt q6),(10,pt q7),(12,pt g12),(14,pt g14)] [⟨g5,24,zc m⟩,⟨g6,24,zc 0⟩,⟨q4,24,zc r⟩,⟨q5,24,zc s⟩,⟨q6,24,zc x⟩,⟨q7,24,zc y⟩,⟨g12,24,zc p⟩,⟨g14,24,zc z⟩]:=by
     refine (hA _ _ _).2 (WT.step [4] Dtt hc hT ⟨⟨_,rfl,?_⟩,trivial⟩)
     ·refine Tw ?_;exact WT.go [] hA (hS17)
    have hS0:A [] [(5,pt g5),(6,pt g6),(7,pt q4),(8,pt q5),(9,pt q6),(10,pt q7),(12,pt g12),(14,pt g14)] [⟨g5,24,zc m⟩,⟨g6,24,zc 0⟩,⟨q4,24,zc r⟩,⟨q5,24,zc s⟩,⟨q6,24,zc x⟩,⟨q7,24,zc y⟩,⟨g12,24,zc p⟩,⟨g14,24,zc z⟩]:=by
     refine (hA _ _ _).2 (WT.step [0] Dtt hc hT ⟨⟨_,rfl,?_⟩,trivial⟩)
     ·refine Tw ?_;exact WT.go [(46,zk s)] hA (hS1)
    exact WT.less ((hA _ _ _).1 hS0) Dtt Kle.a (by repeat (first|exact Lle.nil|exact Lle.same|refine Lle.c ?_))
   refine (hA _ _ _).2 (WT.fin [0,4,5,6,7] 6 hc rfl Kr ?_);clear hc hT hA
   repeat (first|refine Tk ?_|intro _|exact Tz)
   refine WX.metI (s,p,y,z) (hs:=⟨⟨hpos,hlt,by omega,hgn,hy,hz,hnext.symm⟩,hlt⟩)
 ·have hinv:uX a m=0:=kd hg;rw[hinv];refine Fn.enter Tryz.func213 rfl rfl rfl ?_;intro w hw
  repeat (first|refine Tj ?_|intro _|refine WO.acall (hc:=hG) (k:=?_)|refine WO.acall (hc:=ue) (k:=?_)|refine Tc ?_|exact Tz)
  refine WC.dT rfl hg ?_
  repeat (first|refine Tk ?_|intro _|exact Tz)
theorem eb {a m:Nat} (h1:1<m) (ha:a<m):uX a m<m:=by
 by_cases hg:Nat.gcd a m=1
 ·exact (tW h1 ha hg).2
 ·rw[kd hg];omega
theorem ag8 (a m:Nat) (ha:a<ze) (hm:m<ze):Fn Tryz.prog 170 [zk a,zk m] Tr (Is (.tuple #[zk (okV (zP a a m) (uX a m)),.int .i64 (fK a m)])):=by
 have hO:=afA (f:=213) [] a a m (uX a m) ha ha hm Tr zX.tr (fun h=>agh a m (zQ h).1 (zQ h).2.1 hm);cases hy:zP a a m with
 | false =>
  have he:fK a m=1:=by unfold fK;rw[hy];rfl
  rw[hy] at hO;rw[he];refine Fn.enter Tryz.func170 rfl rfl rfl ?_;intro w hw
  repeat (first|refine Tj ?_|intro _|refine WO.acall (hc:=hO) (k:=?_)|refine Tc ?_|exact Tz)
  refine WC.adraw 7 (k:=?_)
  repeat (first|refine Da ?_|refine DQ.acall (hc:=mJ) (k:=?_)|refine Dc ?_)
  refine DQ.anil (k:=?_);intro sx _
  repeat (first|refine Tk ?_|intro _|exact Tz)
 | true =>
  obtain⟨h1,h2,_⟩:=zQ hy;have hB:uX a m<ze:=Nat.lt_trans (eb h1 h2) hm;rw[hy] at hO
  by_cases hg:Nat.gcd a m=1
  ·have he:fK a m=0:=by unfold fK;rw[hy,if_pos hg];rfl
   have hz:¬ uX a m=0:=adU h1 h2 hg;rw[he];generalize uX a m=v at *;refine Fn.enter Tryz.func170 rfl rfl rfl ?_;intro w hw
   repeat (first|refine Tj ?_|intro _|refine WO.acall (hc:=hO) (k:=?_)|refine Tc ?_|exact Tz)
   refine WC.adraw 7 (k:=?_)
   repeat (first|refine Da ?_|refine DQ.acall (hc:=mJ) (k:=?_)|refine Dc ?_)
   refine DQ.anil (k:=?_);intro sx _
   repeat (first|refine Tk ?_|intro _|exact Tz)
   refine WC.dF rfl hz ?_
   repeat (first|refine Tk ?_|intro _|exact Tz)
  ·have he:fK a m=7:=by unfold fK;rw[hy,if_neg hg];rfl
   rw[he];rw[kd hg] at hO ⊢;refine Fn.enter Tryz.func170 rfl rfl rfl ?_;intro w hw
   repeat (first|refine Tj ?_|intro _|refine WO.acall (hc:=hO) (k:=?_)|refine Tc ?_|exact Tz)
   refine WC.adraw 7 (k:=?_)
   repeat (first|refine Da ?_|refine DQ.acall (hc:=mJ) (k:=?_)|refine Dc ?_)
   refine DQ.anil (k:=?_);intro sx _
   repeat (first|refine Tk ?_|intro _|exact Tz)
end Sx
end
section
open Go Go.RowKit
namespace Sx
attribute [local irreducible] DQ WC WO WX wd
abbrev yI (p q g h:Nat):List Value:=[.int .u64 ((wd 0 p:Nat):Int),.int .u64 ((wd 1 p:Nat):Int),.int .u64 ((wd 2 p:Nat):Int),.int .u64 ((wd 3 p:Nat):Int),.int .u64 ((wd 0 q:Nat):Int),.int .u64 ((wd 1 q:Nat):Int),.int .u64 ((wd 2 q:Nat):Int),.int .u64 ((wd 3 q:Nat):Int),.int .u64 ((wd 0 g:Nat):Int),.int .u64 ((wd 1 g:Nat):Int),.int .u64 ((wd 2 g:Nat):Int),.int .u64 ((wd 3 g:Nat):Int),.int .u64 ((wd 0 h:Nat):Int),.int .u64 ((wd 1 h:Nat):Int),.int .u64 ((wd 2 h:Nat):Int),.int .u64 ((wd 3 h:Nat):Int)]
abbrev vV (p q g h:Nat):Value:=.agg #[.int .u64 ((wd 0 p:Nat):Int),.int .u64 ((wd 1 p:Nat):Int),.int .u64 ((wd 2 p:Nat):Int),.int .u64 ((wd 3 p:Nat):Int),.int .u64 ((wd 0 q:Nat):Int),.int .u64 ((wd 1 q:Nat):Int),.int .u64 ((wd 2 q:Nat):Int),.int .u64 ((wd 3 q:Nat):Int),.int .u64 ((wd 0 g:Nat):Int),.int .u64 ((wd 1 g:Nat):Int),.int .u64 ((wd 2 g:Nat):Int),.int .u64 ((wd 3 g:Nat):Int),.int .u64 ((wd 0 h:Nat):Int),.int .u64 ((wd 1 h:Nat):Int),.int .u64 ((wd 2 h:Nat):Int),.int .u64 ((wd 3 h:Nat):Int)]
def yB (p a:Nat):Bool:=decide (1<p) && decide (a≠0) && decide (a<p)
theorem y7 {p a:Nat} (h:yB p a=true):1<p∧a≠0∧a<p:=by
 unfold yB at h;simp at h;exact⟨h.1.1,h.1.2,h.2⟩
theorem dk {p a:Nat} (h:yB p a=true):zP a a p=true:=by
 obtain⟨h1,_,h3⟩:=y7 h;simp[zP,h1,h3]
section
variable (p q g h:Nat)
theorem mF (a b:Nat) (ha:a<ze) (hb:b<ze) (hq:q<ze):Fn Tryz.prog 169 [vV p q g h,zk a,zk b] Tr (Is (rE (zP a b q) ((a+b)%q))):=by
 have hO:=afn a b q ha hb hq;refine Fn.enter Tryz.func169 rfl rfl rfl ?_;intro w hw
 repeat (first|refine Td ?_|(refine Tm ?_;intro _)|refine WO.acall (hc:=hO) (k:=?_)|refine Tc ?_|exact Tz)
theorem acl (a b:Nat) (ha:a<ze) (hb:b<ze) (hq:q<ze):Fn Tryz.prog 156 [vV p q g h,zk a,zk b] Tr (Is (rE (zP a b q) ((a+q - b)%q))):=by
 have hO:=ac7 a b q ha hb hq;refine Fn.enter Tryz.func156 rfl rfl rfl ?_;intro w hw
 repeat (first|refine Td ?_|(refine Tm ?_;intro _)|refine WO.acall (hc:=hO) (k:=?_)|refine Tc ?_|exact Tz)
theorem ju (a b:Nat) (ha:a<ze) (hb:b<ze) (hq:q<ze):Fn Tryz.prog 173 [vV p q g h,zk a,zk b] Tr (Is (rE (zP a b q) (a*b%q))):=by
 have hO:=ad3 a b q ha hb hq;refine Fn.enter Tryz.func173 rfl rfl rfl ?_;intro w hw
 repeat (first|refine Td ?_|(refine Tm ?_;intro _)|refine WO.acall (hc:=hO) (k:=?_)|refine Tc ?_|exact Tz)
theorem af8 (a:Nat) (ha:a<ze) (hq:q<ze):Fn Tryz.prog 98 [vV p q g h,zk a] Tr (Is (.tuple #[zk (okV (zP a a q) (uX a q)),.int .i64 (fK a q)])):=by
 have hO:=ag8 a q ha hq;refine Fn.enter Tryz.func98 rfl rfl rfl ?_;intro w hw
 repeat (first|refine Td ?_|(refine Tm ?_;intro _)|refine WO.acall (hc:=hO) (k:=?_)|refine Tc ?_|exact Tz)
theorem aeZ (a:Nat) (ha:a<ze) (hp:p<ze):Fn Tryz.prog 61 [vV p q g h,zk a] Tr (Is (.bool (yB p a))):=by
 have hC1:=lD p 1 hp y8;have hC2:=lD a p ha hp
 by_cases h1:1<p
 ·rw[kz h1] at hC1
  by_cases h2:a=0
  ·have e:yB p a=false:=by simp[yB,h2]
   rw[e];refine Fn.enter Tryz.func61 rfl rfl rfl ?_;intro w hw
   repeat (first|refine Td ?_|(refine Tm ?_;intro _)|refine Tc ?_|exact Tz)
   refine WC.adraw 18 (k:=?_)
   repeat (first|refine DQ.decT (k:=?_)|refine DQ.decF (k:=?_)|refine Da ?_|refine DQ.acall (hc:=ue) (k:=?_)|refine DQ.acall (hc:=mJ) (k:=?_)|refine DQ.acall (hc:=hC1) (k:=?_)|refine DQ.acall (hc:=hC2) (k:=?_)|refine Dc ?_)
   refine DQ.anil (k:=?_);intro sx _
   repeat (first|refine Td ?_|(refine Tm ?_;intro _)|refine Tc ?_|exact Tz)
  ·by_cases h3:a<p
   ·have e:yB p a=true:=by simp[yB,h1,h2,h3]
    rw[fW h3] at hC2;rw[e];refine Fn.enter Tryz.func61 rfl rfl rfl ?_;intro w hw
    repeat (first|refine Td ?_|(refine Tm ?_;intro _)|refine Tc ?_|exact Tz)
    refine WC.adraw 18 (k:=?_)
    repeat (first|refine DQ.decT (k:=?_)|refine DQ.decF (k:=?_)|refine Da ?_|refine DQ.acall (hc:=ue) (k:=?_)|refine DQ.acall (hc:=mJ) (k:=?_)|refine DQ.acall (hc:=hC1) (k:=?_)|refine DQ.acall (hc:=hC2) (k:=?_)|refine Dc ?_)
    refine DQ.anil (k:=?_);intro sx _
    repeat (first|refine Td ?_|(refine Tm ?_;intro _)|refine Tc ?_|exact Tz)
   ·have e:yB p a=false:=by simp[yB,h3]
    have e2:td a p=0∨td a p=1:=by
     rcases Nat.lt_or_ge p a with h4|h4
     ·exact .inr (kz h4)
     ·exact .inl (eh Om)
    rw[e]
    rcases e2 with e2|e2
    all_goals
     rw[e2] at hC2;refine Fn.enter Tryz.func61 rfl rfl rfl ?_;intro w hw
     repeat (first|refine Td ?_|(refine Tm ?_;intro _)|refine Tc ?_|exact Tz)
     refine WC.adraw 18 (k:=?_)
     repeat (first|refine DQ.decT (k:=?_)|refine DQ.decF (k:=?_)|refine Da ?_|refine DQ.acall (hc:=ue) (k:=?_)|refine DQ.acall (hc:=mJ) (k:=?_)|refine DQ.acall (hc:=hC1) (k:=?_)|refine DQ.acall (hc:=hC2) (k:=?_)|refine Dc ?_)
     refine DQ.anil (k:=?_);intro sx _
     repeat (first|refine Td ?_|(refine Tm ?_;intro _)|refine Tc ?_|exact Tz)
 ·have e:yB p a=false:=by simp[yB,h1]
  have e2:td p 1=0∨td p 1 = -1:=by
   rcases Nat.lt_or_ge p 1 with h4|h4
   ·exact .inr (fW h4)
   ·exact .inl (eh Om)
  rw[e]
  rcases e2 with e2|e2
  all_goals
   rw[e2] at hC1;refine Fn.enter Tryz.func61 rfl rfl rfl ?_;intro w hw
   repeat (first|refine Td ?_|(refine Tm ?_;intro _)|refine Tc ?_|exact Tz)
   refine WC.adraw 18 (k:=?_)
   repeat (first|refine DQ.decT (k:=?_)|refine DQ.decF (k:=?_)|refine Da ?_|refine DQ.acall (hc:=ue) (k:=?_)|refine DQ.acall (hc:=mJ) (k:=?_)|refine DQ.acall (hc:=hC1) (k:=?_)|refine DQ.acall (hc:=hC2) (k:=?_)|refine Dc ?_)
   refine DQ.anil (k:=?_);intro sx _
   repeat (first|refine Td ?_|(refine Tm ?_;intro _)|refine Tc ?_|exact Tz)
theorem vQ (a n:Nat) (ha:a<ze) (hn:n<ze) (hp:p<ze):Fn Tryz.prog 26 [vV p q g h,zk a,zk n] Tr (Is (rE (yB p a) (a ^ n%p))):=by
 have hM:=aeZ p q g h a ha hp;cases hy:yB p a with
 | true =>
  have hE:=ag5 a n p ha hn hp;rw[dk hy] at hE;rw[hy] at hM;refine Fn.enter Tryz.func26 rfl rfl rfl ?_;intro w hw
  repeat (first|refine Td ?_|(refine Tm ?_;intro _)|refine WO.acall (hc:=hM) (k:=?_)|refine WO.acall (hc:=hE) (k:=?_)|refine Tc ?_|exact Tz)
 | false =>
  rw[hy] at hM;refine Fn.enter Tryz.func26 rfl rfl rfl ?_;intro w hw
  repeat (first|refine Td ?_|(refine Tm ?_;intro _)|refine WO.acall (hc:=hM) (k:=?_)|refine Tc ?_|exact Tz)
theorem acg (a b:Nat) (ha:a<ze) (hb:b<ze) (hp:p<ze):Fn Tryz.prog 171 [vV p q g h,zk a,zk b] Tr (Is (rE (yB p a && yB p b) (a*b%p))):=by
 have hM1:=aeZ p q g h a ha hp;have hM2:=aeZ p q g h b hb hp;cases hy:yB p a with
 | true =>
  rw[hy] at hM1;cases hz:yB p b with
  | true =>
   rw[hz] at hM2;have hE:=ad3 a b p ha hb hp;have hm:zP a b p=true:=by
    obtain⟨h1,_,h3⟩:=y7 hy;obtain⟨_,_,h4⟩:=y7 hz;simp[zP,h1,h3,h4]
   rw[hm] at hE;refine Fn.enter Tryz.func171 rfl rfl rfl ?_;intro w hw
   repeat (first|refine Td ?_|(refine Tm ?_;intro _)|refine WO.acall (hc:=hM1) (k:=?_)|refine WO.acall (hc:=hM2) (k:=?_)|refine WO.acall (hc:=hE) (k:=?_)|refine Tc ?_|exact Tz)
  | false =>
   rw[hz] at hM2;refine Fn.enter Tryz.func171 rfl rfl rfl ?_;intro w hw
   repeat (first|refine Td ?_|(refine Tm ?_;intro _)|refine WO.acall (hc:=hM1) (k:=?_)|refine WO.acall (hc:=hM2) (k:=?_)|refine Tc ?_|exact Tz)
 | false =>
  rw[hy] at hM1;refine Fn.enter Tryz.func171 rfl rfl rfl ?_;intro w hw
  repeat (first|refine Td ?_|(refine Tm ?_;intro _)|refine WO.acall (hc:=hM1) (k:=?_)|refine WO.acall (hc:=hM2) (k:=?_)|refine Tc ?_|exact Tz)
def gIn (p q a:Nat):Bool:=yB p a && decide (a ^ q%p=1)
theorem r9 (a:Nat) (ha:a<ze) (hp:p<ze) (hq:q<ze):Fn Tryz.prog 75 [vV p q g h,zk a] Tr (Is (.bool (gIn p q a))):=by
 have hE:=vQ p q g h a q ha hq hp;cases hy:yB p a with
 | true =>
  rw[hy] at hE;have hB:a ^ q%p<ze:=Nat.lt_trans (Nat.mod_lt _ (by have:=y7 hy;omega)) hp;have e:gIn p q a=decide (a ^ q%p=1):=by simp[gIn,hy]
  rw[e];generalize a ^ q%p=v at *;refine Fn.enter Tryz.func75 rfl rfl rfl ?_;intro w hw
  repeat (first|refine Td ?_|(refine Tm ?_;intro _)|refine WO.acall (hc:=hE) (k:=?_)|refine Tc ?_|exact Tz)
  by_cases hv:v=1
  ·rw[decide_eq_true hv];refine WC.adraw 8 (k:=?_)
   repeat (first|refine DQ.decT (k:=?_)|refine DQ.decF (k:=?_)|refine Da ?_|refine DQ.acall (hc:=ue) (k:=?_)|refine Dc ?_)
   refine DQ.anil (k:=?_);intro sx _
   repeat (first|refine Td ?_|(refine Tm ?_;intro _)|refine Tc ?_|exact Tz)
  ·rw[decide_eq_false hv];refine WC.adraw 8 (k:=?_)
   repeat (first|refine DQ.decT (k:=?_)|refine DQ.decF (k:=?_)|refine Da ?_|refine DQ.acall (hc:=ue) (k:=?_)|refine Dc ?_)
   refine DQ.anil (k:=?_);intro sx _
   repeat (first|refine Td ?_|(refine Tm ?_;intro _)|refine Tc ?_|exact Tz)
 | false =>
  have e:gIn p q a=false:=by simp[gIn,hy]
  rw[hy] at hE;rw[e];refine Fn.enter Tryz.func75 rfl rfl rfl ?_;intro w hw
  repeat (first|refine Td ?_|(refine Tm ?_;intro _)|refine WO.acall (hc:=hE) (k:=?_)|refine Tc ?_|exact Tz)
  refine WC.adraw 8 (k:=?_)
  repeat (first|refine DQ.decT (k:=?_)|refine DQ.decF (k:=?_)|refine Da ?_|refine DQ.acall (hc:=ue) (k:=?_)|refine Dc ?_)
  refine DQ.anil (k:=?_);intro sx _
  repeat (first|refine Td ?_|(refine Tm ?_;intro _)|refine Tc ?_|exact Tz)
end
end Sx
end
section
open Go Go.RowKit Go.BigFrame
namespace Sx
attribute [local irreducible] DQ WC WO
theorem aeR (pa pb:Option Addr) (la lb ca cb:Nat):Fn Tryz.prog 201 [.slice pa la ca,.slice pb lb cb] Tr (Ex (fun s=>.func (.func 240) #[] #[pt (s 0),pt (s 1)]) (fun s=>[⟨s 1,46,[.slice pb lb cb]⟩,⟨s 0,46,[.slice pa la ca]⟩]) (fun _=>True)):=by
 refine Fn.enter Tryz.func201 rfl rfl rfl ?_;intro w hw
 repeat (first|refine Ta ?_|refine Tm fun _=>?_|refine WO.does (zH rfl rfl) ?_|refine Tc ?_|exact Tz)
 rename_i g1 g2;exact WX.ret1 rfl (zK rfl) [⟨g2,46,[.slice pb lb cb]⟩,⟨g1,46,[.slice pa la ca]⟩] (Lle.cons Pk.here rfl (Lle.cons Pk.here rfl Lle.nil)) ⟨fun i=>if i=0 then g1 else g2,rfl,rfl,trivial⟩
abbrev q0 (l:Nat):Nat × Value:=(0,.func (.yield l) #[] #[])
abbrev q1 (g:Nat):Nat × Value:=(1,pt g)
abbrev q2 (g:Nat):Nat × Value:=(2,pt g)
abbrev qn (j a:Nat):Nat × Value:=(j,zk a)
theorem aai (m:Nat) {α:Type} (fa fn:α→Nat) (xs:List α) (gA gN bA oA bN oN cA cN l:Nat) (J Jx:List α→World→Prop) (hn:xs.length≤1099511627776) (hJo:∀ s A B,J s A→Mod [] A B→J s B) (hJxo:∀ s A B,Jx s A→Mod [] A B→Jx s B)
  (hY:∀ pre x W,J pre W→pre.length<xs.length→YieldAt (fw none) (m - 1) Tryz.prog l #[zk (fa x),zk (fn x)] W fun e W'=>(e=.returned (.bool true)∧J (pre++[x]) W'∧yA [gA,gN,bA,bN] W W'∧W.heap.size≤W'.heap.size)∨(e=.returned (.bool false)∧Jx (pre++[x]) W'))
  (W:World) (hA:Seg W gA 0 [.slice (some ⟨bA,oA,none⟩) xs.length cA]) (hN:Seg W gN 0 [.slice (some ⟨bN,oN,none⟩) xs.length cN]) (hSA:∀ k x,xs[k]?=some x→Seg W bA (oA+k*4) (zc (fa x))) (hSN:∀ k x,xs[k]?=some x→Seg W bN (oN+k*4) (zc (fn x))) (hlt:∀ k∈[gA,gN,bA,bN],k<W.heap.size) (h0:J [] W) :
  CallsIn (fw none) m Tryz.prog 240 [.func (.yield l) #[] #[],pt gA,pt gN].toArray W fun e W'=>(∃ v,e=.returned v)∧((∃ ys,ys=xs∧J ys W')∨(∃ pre,True∧Jx pre W')):=by
 refine uN (n:=22) Tryz.func240 rfl rfl rfl ?_;have hQ:¬ LetsOut (bodyPost Tryz.prog Tryz.f240 fun e W'=>(∃ v,e=.returned v)∧((∃ ys,ys=xs∧J ys W')∨(∃ pre,True∧Jx pre W'))):=by
  rintro ⟨a,w,⟨v,h⟩,_⟩;cases h
 refine WI.seq (WI.region ?_ (by exact hQ));refine WO.does (zm (hs:=hA)) ?_;refine WO.auto (k:=?_);refine WO.auto (k:=?_);refine WO.nil (WX.seqI ?_);refine WI.block ?_;refine WI.loopW (σ:=Nat) (fun k=>[(0,.func (.yield l) #[] #[]),(1,pt gA),(2,pt gN),(6,.int .i64 (xs.length:Int)),(7,.int .i64 (k:Int))]) (fun k w=>k≤xs.length∧J (xs.take k) w∧yA [gA,gN,bA,bN] W w∧W.heap.size≤w.heap.size) (fun k=>xs.length - k) 0 (fun w hw=>⟨Nat.zero_le _,?_,?_,hw.mod.size⟩) ?_ ?_
 ·have:=hJo [] W w h0 hw.mod;simpa using this
 ·exact yA.of_mod hw.mod (fun k hk=>⟨hlt k hk,by simp⟩)
 ·repeat (first|exact Kle.nil|refine Kle.cons rfl rfl ?_)
 ·rintro k w1 ⟨hk,hJ,hKp,hsz⟩;have hlw:∀ j∈[gA,gN,bA,bN],j<w1.heap.size:=fun j hj=>Nat.lt_of_lt_of_le (hlt j hj) hsz;have hA':=hKp.seg (b:=gA) Sm hA;have hN':=hKp.seg (b:=gN) Sm hN;refine WI.seq (WI.region ?_ (by exact hQ));refine WO.auto (k:=?_);refine WO.nil (WX.seqI ?_);refine WI.seq ?_
  by_cases hkl:k<xs.length
  ·refine WI.condT (show some (Value.bool (decide ((k:Int)<(xs.length:Int))))=some (Value.bool true) by rw[decide_eq_true Om]) ?_;refine WI.skip (WX.seqI ?_);obtain⟨x,hx⟩ : ∃ x,xs[k]?=some x:=⟨_,List.getElem?_eq_getElem hkl⟩;have hSA':=hKp.seg (b:=bA) Sm (hSA k x hx);have hSN':=hKp.seg (b:=bN) Sm (hSN k x hx);have hx' : xs.take k++[x]=xs.take (k+1):=by rw[List.take_add_one,hx];rfl
   refine WI.seq ?_;refine WI.block ?_;refine WI.seq (WI.region ?_ (by exact hQ));refine WO.auto (k:=?_);refine WO.auto (k:=?_);refine WO.nil (WX.seqI ?_);refine WI.seq ?_;refine WI.headQ 9 (by exact hQ) ?_;refine DQ.does (fun s _=>vK rfl) Dp.const ?_;refine DQ.does (fun s _=>vP hA' (i:=0) rfl List.not_mem_nil rfl) Dp.const ?_;refine DQ.does (fun s _=>vK rfl) Dp.const ?_;refine DQ.does (fun s _=>zb (o':=oA+k*4) rfl rfl hkl rfl) Dp.const ?_;refine DQ.does (fun s _=>uj hSA' (i:=0) rfl List.not_mem_nil (vs:=zc (fa x)) rfl rfl) Dp.const ?_;refine DQ.does (fun s _=>vP hN' (i:=0) rfl List.not_mem_nil rfl) Dp.const ?_;refine DQ.does (fun s _=>vK rfl) Dp.const ?_;refine DQ.does (fun s _=>zb (o':=oN+k*4) rfl rfl hkl rfl) Dp.const ?_;refine DQ.does (fun s _=>uj hSN' (i:=0) rfl List.not_mem_nil (vs:=zc (fn x)) rfl rfl) Dp.const ?_;refine DQ.anil (hL:=fun s=>rfl) ?_;intro sx _;refine WO.nil (WX.headV ?_ (by exact hQ));refine VA.yield (i:=9) (S':=[true,true,true,true,true,true,true,true,true,true,false]) (vs:=[zk (fa x),zk (fn x)]) rfl rfl (fun w2 h2=>hY (xs.take k) x w2 (hJo _ _ _ hJ h2.mod) (by rw[List.length_take];omega)) (fun w2 e w3 h2 hR=>?_);have hKw:yA [gA,gN,bA,bN] W w2:=hKp.trans (yA.of_mod h2.mod (fun j hj=>⟨hlw j hj,by simp⟩));have hs2:=Nat.le_trans hsz h2.mod.size
   rcases hR with ⟨rfl,hR,hK3,hs3⟩|⟨rfl,hR⟩
   ·refine⟨true,rfl,?_⟩;rw[hx'] at hR;refine VA.step (S:=[true,true,true,true,true,true,true,true,true,true,false]) (f:=0) [10] ?_;refine tX.cons (fun hQ1 hd1=>?_) tX.nil;refine WO.auto (k:=?_);refine WO.nil (WX.va (VA.done (S:=List.replicate 11 true) ?_) hQ1 hd1);refine WX.seqI (WI.condF rfl ?_);refine WI.skip (WX.blk_normal (WX.seqI ?_));refine WI.region ?_ (by exact hQ);have e1:IntKind.i64.wrap ((k:Int)+1)=((k+1:Nat):Int):=zl Om Om Om;refine WO.does (zi rfl rfl e1) ?_;refine WO.auto (k:=?_);refine WO.nil ?_;refine WX.metW (k+1) Om Kle.a (fun w4 h4=>⟨by omega,hJo _ _ _ hR h4.mod,?_,Nat.le_trans hs2 (Nat.le_trans hs3 h4.mod.size)⟩);exact (hKw.trans hK3).trans (yA.of_mod h4.mod (fun j hj=>⟨Nat.lt_of_lt_of_le (hlt j hj) (Nat.le_trans hs2 hs3),by simp⟩))
   ·refine⟨false,rfl,?_⟩;rw[hx'] at hR;refine VA.step (S:=[true,true,true,true,true,true,true,true,true,true,false]) (f:=0) [10] ?_;refine tX.cons (fun hQ1 hd1=>?_) tX.nil;refine WO.auto (k:=?_);refine WO.nil (WX.va (VA.done (S:=List.replicate 11 true) ?_) hQ1 hd1);refine WX.seqI (WI.condT rfl ?_);refine WI.ret ?_;refine WX.blk_ret (WX.then_ret (WX.then_ret (WX.blk_ret ?_)));intro a w4 g1 g2 g3 g4;exact bodyPost_ret (results_none rfl _ _ _) g1 ⟨⟨_,rfl⟩,.inr ⟨_,trivial,hJxo _ _ _ hR g4.mod⟩⟩
  ·refine WI.condF (show some (Value.bool (decide ((k:Int)<(xs.length:Int))))=some (Value.bool false) by rw[decide_eq_false Om]) ?_;refine WI.exit (WX.then_exit (WX.then_exit (WX.blk_exit ?_)));intro a w4 g1 g2 g3 g4;obtain rfl:k=xs.length:=by omega
   refine bodyPost_end (results_none rfl _ _ _) g1 ⟨⟨_,rfl⟩,.inl ⟨xs,rfl,?_⟩⟩;have:=hJo _ _ _ hJ g4.mod;rwa [List.take_length] at this
end Sx
end
section
open Go Go.RowKit Go.BigFrame
namespace Sx
def KpB (ks:LN) (A B:World):Prop:=yA ks A B∧A.heap.size≤B.heap.size
theorem KpB.trans {ks:LN} {A B C:World} (h:KpB ks A B) (k:KpB ks B C):KpB ks A C:=⟨h.1.trans k.1,Nat.le_trans h.2 k.2⟩
theorem KpB.put {ks:LN} {n:Nat} (hk:∀ k∈ks,k<n) (W:World) (l:Nat) (o o' : Obj) (hl:n≤l) (h1:W.heap[l]?=some o) (h2:o.isCells=false) (h3:o.isWalk=false):KpB ks W (W.putObj l o'):=⟨yA.put hk W l o o' hl h1 h2 h3,by simp⟩
theorem kM (m:Nat) {α:Type} (fa fn:α→Nat) (xs:List α) (gA gN bA oA bN oN cA cN:Nat) (hn:xs.length≤1099511627776) (w:World) (hlt:∀ k∈[gA,gN,bA,bN],k<w.heap.size)
  (hA:Seg w gA 0 [.slice (some ⟨bA,oA,none⟩) xs.length cA]) (hN:Seg w gN 0 [.slice (some ⟨bN,oN,none⟩) xs.length cN]) (hSA:∀ k x,xs[k]?=some x→Seg w bA (oA+k*4) (zc (fa x))) (hSN:∀ k x,xs[k]?=some x→Seg w bN (oN+k*4) (zc (fn x))) :
  SeqStopsK Fence.wide m Tryz.prog 240 #[pt gA,pt gN] (fun x:α=>#[zk (fa x),zk (fn x)]) (KpB [gA,gN,bA,bN]) (fun ys=>ys=xs) (fun _=>True) xs.length w:=fun l J Jx W hW hJ hJx hY h0=>by
 have hk:yA [gA,gN,bA,bN] w W:=fun k hk=>hW.block k (hlt k hk)
 refine aai m fa fn xs gA gN bA oA bN oN cA cN l J Jx hn (fun s A B h hm=>hJ s A B none h ⟨hm.os,hm.tape,hm.output,hm.size,fun k hk _=>hm.block k hk Sm⟩ Sm) (fun s A B h hm=>hJx s A B none h ⟨hm.os,hm.tape,hm.output,hm.size,fun k hk _=>hm.block k hk Sm⟩ Sm)
  hY W (hk.seg Sm hA) (hk.seg Sm hN) (fun k x h=>hk.seg Sm (hSA k x h)) (fun k x h=>hk.seg Sm (hSN k x h)) (fun k hk=>Nat.lt_of_lt_of_le (hlt k hk) hW.size) h0
abbrev PwT (p:Nat):Type:={ x:Nat × Nat // x.1<ze∧x.2<ze∧yB p x.1=true }
def uv (p:Nat) (l:List (PwT p)):Nat:=l.foldl (fun r x=>r*(x.1.1 ^ x.1.2%p)%p) 1
theorem pc (p:Nat) (l:List (PwT p)) (x:PwT p):uv p (l++[x])=uv p l*(x.1.1 ^ x.1.2%p)%p:=by unfold uv;rw[List.foldl_append];rfl
theorem aaP {p:Nat} (h:1<p) (l:List (PwT p)):uv p l<p:=by
 rcases List.eq_nil_or_concat l with rfl|⟨l,x,rfl⟩
 ·exact h
 ·rw[List.concat_eq_append,pc];exact Nat.mod_lt _ Om
theorem mc (p q g h:Nat) (hp:p<ze) (h1:1<p) (xs:List (PwT p)) (bA oA bN oN cA cN:Nat) (hn:xs.length≤1099511627776) :
  Fn Tryz.prog 154 [vV p q g h,.slice (some ⟨bA,oA,none⟩) xs.length cA,.slice (some ⟨bN,oN,none⟩) xs.length cN]
   (fun w=>bA<w.heap.size∧bN<w.heap.size∧(∀ (k:Nat) (x:PwT p),xs[k]?=some x→Seg w bA (oA+k*4) (zc x.1.1))∧(∀ (k:Nat) (x:PwT p),xs[k]?=some x→Seg w bN (oN+k*4) (zc x.1.2))) (Is (.tuple #[zk (uv p xs),.int .i64 0])):=by
 intro w ⟨hbA,hbN,hSA,hSN⟩;have hC:=lD p 1 hp y8;rw[kz h1] at hC;have hPr:=aeR (some ⟨bA,oA,none⟩) (some ⟨bN,oN,none⟩) xs.length xs.length cA cN;refine sJ (n:=52) 3 Tryz.func154 rfl rfl rfl ?_
 repeat (first|refine Ta ?_|refine Tm fun _=>?_|refine WO.acall (hc:=ue) (k:=?_)|refine WO.acall (hc:=hC) (k:=?_)|refine WO.acallX (hc:=hPr) (hR:=fun _ _=>trivial) (k:=fun s _=>?_)|refine Tc ?_|exact Tz)
 rename_i g3 g6 g7 g8;refine WC.condF (show some (Value.bool (decide ((xs.length:Int)≠(xs.length:Int))))=some (Value.bool false) by simp) ?_
 repeat (first|refine Ta ?_|refine Tm fun _=>?_|refine WO.acallX (hc:=hPr) (hR:=fun _ _=>trivial) (k:=fun s _=>?_)|refine Tc ?_|exact Tz)
 generalize s 0=gA;generalize s 1=gN;refine WC.ndp' (fun hnd=>?_);refine WC.mine (fun hmn=>?_);simp only[List.map_append,List.map_cons,List.map_nil,List.cons_append,List.nil_append] at hnd hmn;intro a w1 d1 d2 d3 d4;have l3:=(d4.ok ⟨g3,_,_⟩ (Hs.mem Hs.a)).lt;have l6:=(d4.ok ⟨g6,_,_⟩ (Hs.mem Hs.a)).lt;have l7:=(d4.ok ⟨g7,_,_⟩ (Hs.mem Hs.a)).lt;have l8:=(d4.ok ⟨g8,_,_⟩ (Hs.mem Hs.a)).lt;have lA:=(d4.ok ⟨gA,_,_⟩ (Hs.mem Hs.a)).lt;have lN:=(d4.ok ⟨gN,_,_⟩ (Hs.mem Hs.a)).lt;have sA:=(d4.ok ⟨gA,_,_⟩ (Hs.mem Hs.a)).seg 0;have sN:=(d4.ok ⟨gN,_,_⟩ (Hs.mem Hs.a)).seg 0;simp only[List.drop_zero] at l3 l6 l7 l8 lA lN sA sN;have hn0:=d4.mod.size;have B8:w.heap.size≤g8:=(hmn _ (List.mem_cons_of_mem _ (List.mem_cons_of_mem _ (List.mem_cons_self ..)))).resolve_right Sm;have hne:gN≠g8∧gA≠g8∧g8≠g3∧g8≠g7∧g8≠g6∧g7≠g6:=by
  simp only[List.nodup_cons,List.mem_cons,List.not_mem_nil,or_false,not_or] at hnd;exact⟨hnd.1.2.1,hnd.2.1.1,hnd.2.2.1.2.2,hnd.2.2.1.1,hnd.2.2.1.2.1,hnd.2.2.2.1.1⟩
 have B7:w.heap.size≤g7:=(hmn _ (List.mem_cons_of_mem _ (List.mem_cons_of_mem _ (List.mem_cons_of_mem _ (List.mem_cons_self ..))))).resolve_right Sm;have B6:w.heap.size≤g6:=(hmn _ (List.mem_cons_of_mem _ (List.mem_cons_of_mem _ (List.mem_cons_of_mem _ (List.mem_cons_of_mem _ (List.mem_cons_self ..)))))).resolve_right Sm;obtain⟨hne1,hne2,hne3,hne4,hne5,hne6⟩:=hne;clear hnd hmn;have hbA8:bA≠g8:=by omega
 have hbN8:bN≠g8:=by omega
 have mA:yA [bA,bN] w w1:=yA.of_mod d4.mod (fun k hk=>⟨by simp at hk;omega,by simp⟩);have hks:∀ k∈[gA,gN,bA,bN],k<w1.heap.size∧k≠g8:=by
  intro k hk;simp at hk;omega
 refine (wpIn_wide (n:=3)).1 ?_
 refine wpIn_rangeFunc_ownH (F:=Fence.wide) rfl Om (gf:=240) (lb:=#[pt gA,pt gN]) (d3.eval (x:=.tmp 29) rfl) trivial (enters_of Tryz.func240 Kr rfl)
  (kM 2 (fun x:PwT p=>x.1.1) (fun x=>x.1.2) xs gA gN bA oA bN oN cA cN hn w1 (fun k hk=>(hks k hk).1) sA sN (fun k x hx=>mA.seg Sm (hSA k x hx)) (fun k x hx=>mA.seg Sm (hSN k x hx)))
  KpB.trans (KpB.put (fun k hk=>(hks k hk).1)) (Below.refl _ _) (fun _=>rfl)
  (fun pre W=>Me w [] [⟨g8,24,zc (uv p pre)⟩,⟨g7,54,[.int .i64 0]⟩,⟨g6,24,zc 0⟩,⟨g3,26,yI p q g h⟩] W∧w1.heap.size≤W.heap.size)
  (fun _ _ _=>False)
  (fun pre A B row hs hg hr=>⟨hs.1.own hn0 hg hr,Nat.le_trans hs.2 hg.size⟩)
  (fun _ _ _ _ _ hs _ _=>hs)
  ⟨Lle.me (L':=[⟨g8,24,zc (uv p [])⟩,⟨g7,54,[.int .i64 0]⟩,⟨g6,24,zc 0⟩,⟨g3,26,yI p q g h⟩]) (by repeat (first|exact Lle.nil|refine Lle.c ?_)) d4,Nat.le_refl _⟩
  (fun x a' W=>a'.defers=[]∧a'.tmps.size=52∧∃ q9 q10,Kn [(3,pt g3),(6,pt g6),(7,pt g7),(8,pt g8),(9,pt q9),(10,pt q10)] a'∧(⟨q9,24,zc x.1.1⟩ : Ent).ok W∧(⟨q10,24,zc x.1.2⟩ : Ent).ok W∧w1.heap.size≤q9∧w1.heap.size≤q10)
  (fun x a' _ A B row ⟨e1,e2,q9,q10,e3,e4,e5,e6⟩ hg hr=>⟨e1,e2,q9,q10,e3,e4.own hg hr,e5.own hg hr,e6⟩)
  ?assign ?body ?done ?stop
 case assign =>
  intro l pre x W K hI hK;have hQ:¬ LetsOut (Exit.then K (fun _ _ _=>False)):=fun ⟨_,_,h⟩=>h;have hkn:Kn [(30,zk x.1.1),(31,zk x.1.2),(3,pt g3),(6,pt g6),(7,pt g7),(8,pt g8)] { tmps:=((#[30,31]:Array Tmp).zip #[zk x.1.1,zk x.1.2]).foldl (fun t (p,v)=>t.setIfInBounds p v) a.tmps,defers:=[] }:=by
   have k00:Kn [(3,pt g3),(6,pt g6),(7,pt g7),(8,pt g8)] a:=Kle.kn d3 Kle.a;have k0:Kn [(3,pt g3),(6,pt g6),(7,pt g7),(8,pt g8)] ({ a with defers:=[] }:Act):=k00;have k1:=k0.put (d:=30) (by show 30<a.tmps.size;omega) (zk x.1.1);have k2:=k1.put (d:=31) (by rw[yk];show 31<a.tmps.size;omega) (zk x.1.2);have k3:Kn [(30,zk x.1.1),(31,zk x.1.2),(3,pt g3),(6,pt g6),(7,pt g7),(8,pt g8)] _:=Kle.kn k2 Kle.a;intro t v ht;have k4:=k3 t v ht;simpa [Act.put,Array.zip] using k4
  suffices HH:WI (some l) 1 Tryz.prog W [] 52 _ (Exit.then K (fun _ _ _=>False)) [(30,zk x.1.1),(31,zk x.1.2),(3,pt g3),(6,pt g6),(7,pt g7),(8,pt g8)] [] from HH _ W rfl (by simp[d2]) hkn (Me.refl W [])
  repeat (first|refine WO.nil ?_|refine WO.skip ?_|refine WX.seqI ?_|refine WI.seq ?_|refine WI.region ?_ (by exact hQ)|refine WO.autoS (k:=?_)|(refine WO.autoM (k:=?_);intro _)|refine WO.auto (k:=?_)|refine WO.does yO ?_|refine WO.does ti ?_|refine WI.ret ?_|refine WI.skip ?_|refine WX.then_ret ?_|refine WX.noPanic ?_|refine WX.blk_normal ?_|refine WX.blk_ret ?_|refine WX.then_exit ?_|refine WX.blk_exit ?_|refine WX.blk_pass rfl ?_|refine WI.exit ?_|refine WI.block ?_|refine WX.scp_normal ?_|refine WX.scp_ret ?_|refine WX.scp_exit ?_|refine WI.condT rfl ?_|refine WI.condF rfl ?_)
  rename_i q9 q10;intro a2 W2 e1 e2 e3 e4;have o9:=e4.ok ⟨q9,_,_⟩ (Hs.mem Hs.a);have o10:=e4.ok ⟨q10,_,_⟩ (Hs.mem Hs.a);have m9:=(e4.mine ⟨q9,_,_⟩ (Hs.mem Hs.a)).resolve_right Sm;have m10:=(e4.mine ⟨q10,_,_⟩ (Hs.mem Hs.a)).resolve_right Sm
  refine hK a2 W2 ⟨e4.mod.size,fun k o _ hk _=>(e4.mod.block k (Array.getElem?_eq_some_iff.1 hk).1 Sm).trans hk⟩ ⟨yA.of_mod e4.mod (fun k hk=>⟨Nat.lt_of_lt_of_le (hks k hk).1 hI.2,by simp⟩),e4.mod.size⟩ ⟨hI.1.below e4.mod.below,Nat.le_trans hI.2 e4.mod.size⟩
   ⟨e1,e2,q9,q10,Kle.kn e3 Kle.a,o9,o10,Nat.le_trans hI.2 m9,Nat.le_trans hI.2 m10⟩
 case body =>
  rintro l pre x a' W hl _ ⟨hI,hIs⟩ ⟨e1,e2,q9,q10,e3,o9,o10,hq9,hq10⟩ _;obtain⟨⟨xa,xn⟩,hxa,hxn,hxm⟩:=x;dsimp only at o9 o10 hxa hxn hxm;have hE:=vQ p q g h xa xn hxa hxn hp;rw[hxm] at hE;have hPl:=aaP h1 pre;have hsn:=pc p pre ⟨(xa,xn),hxa,hxn,hxm⟩;dsimp only at hsn;have hEl:xa ^ xn%p<p:=Nat.mod_lt _ Om;have hM:=ad3 (uv p pre) (xa ^ xn%p) p (Nat.lt_trans hPl hp) (Nat.lt_trans hEl hp) hp;have hmay:zP (uv p pre) (xa ^ xn%p) p=true:=by simp[zP,h1,hPl,hEl]
  rw[hmay,← hsn] at hM;have i8:=hI.ok ⟨g8,_,_⟩ (Hs.mem Hs.a);have i3:=hI.ok ⟨g3,_,_⟩ (Hs.mem Hs.a);have s3:=i3.seg 0;have s9:=o9.seg 0;have s10:=o10.seg 0;have b3:g3 ∉ [g8]:=by simp;omega
  have b9:q9 ∉ [g8]:=by simp;omega
  have b10:q10 ∉ [g8]:=by simp;omega
  simp only[List.drop_zero] at s3 s9 s10;have hm0:Me W [g8] [⟨g8,24,zc (uv p pre)⟩] W:=⟨.refl _ _,by simpa using i8,by simp,by simp⟩;generalize hRg:uv p (pre++[⟨(xa,xn),hxa,hxn,hxm⟩])=R at *;have hRR:=Lib.hid hRg;clear hRg;generalize hgP:uv p pre=Pp at *;generalize xa ^ xn%p=E at *;have hQ:¬ LetsOut (ownPostG w1.heap.size (KpB [gA,gN,bA,bN]) (fun (pre:List (PwT p)) W=>Me w [] [⟨g8,24,zc (uv p pre)⟩,⟨g7,54,[.int .i64 0]⟩,⟨g6,24,zc 0⟩,⟨g3,26,yI p q g h⟩] W∧w1.heap.size≤W.heap.size) (fun _ _ _=>False) (pre++[⟨(xa,xn),hxa,hxn,hxm⟩]) W):=fun ⟨_,_,h⟩=>h
  suffices HH:WI (some l) 1 Tryz.prog W [g8] 52 _ (ownPostG w1.heap.size (KpB [gA,gN,bA,bN]) (fun (pre:List (PwT p)) W=>Me w [] [⟨g8,24,zc (uv p pre)⟩,⟨g7,54,[.int .i64 0]⟩,⟨g6,24,zc 0⟩,⟨g3,26,yI p q g h⟩] W∧w1.heap.size≤W.heap.size) (fun _ _ _=>False) (pre++[⟨(xa,xn),hxa,hxn,hxm⟩]) W) [(3,pt g3),(6,pt g6),(7,pt g7),(8,pt g8),(9,pt q9),(10,pt q10)] [⟨g8,24,zc Pp⟩] from HH a' W e1 e2 e3 hm0
  have hE' : okV true E=E:=rfl
  repeat (first|refine WO.does (zn (hs:=s3) (hb:=b3)) ?_|refine WO.does (zn (hs:=s9) (hb:=b9)) ?_|refine WO.does (zn (hs:=s10) (hb:=b10)) ?_|refine WO.nil ?_|refine WO.skip ?_|refine WX.seqI ?_|refine WI.seq ?_|refine WI.region ?_ (by exact hQ)|refine WO.autoS (k:=?_)|(refine WO.autoM (k:=?_);intro _)|refine WO.acall (hc:=hE) (k:=?_)|refine WO.acall (hc:=hM) (k:=?_)|refine WO.auto (k:=?_)|refine WO.does yO ?_|refine WO.does ti ?_|refine WI.ret ?_|refine WI.skip ?_|refine WX.then_ret ?_|refine WX.noPanic ?_|refine WX.blk_normal ?_|refine WX.blk_ret ?_|refine WX.then_exit ?_|refine WX.blk_exit ?_|refine WX.blk_pass rfl ?_|refine WI.exit ?_|refine WI.block ?_|refine WX.scp_normal ?_|refine WX.scp_ret ?_|refine WX.scp_exit ?_|refine WI.condT rfl ?_|refine WI.condF rfl ?_)
  rename_i q11;intro a2 W2 f1 f2 f3 f4;have f8:=f4.ok ⟨g8,_,_⟩ (Hs.mem Hs.a);refine⟨⟨f4.mod.size,fun k o hk0 hk _=>(f4.mod.block k (Array.getElem?_eq_some_iff.1 hk).1 (by simp;omega)).trans hk⟩,⟨yA.of_mod f4.mod (fun k hk=>⟨Nat.lt_of_lt_of_le (hks k hk).1 hIs,by simpa using (hks k hk).2⟩),f4.mod.size⟩,?_,Nat.le_trans hIs f4.mod.size⟩;rw[hRR.out];exact hI.callM Rp.here f4.mod f8 Dtt
 case done =>
  rintro D ys W hD rfl ⟨hI,hIs⟩ hK;have i8:=hI.ok ⟨g8,_,_⟩ (Hs.mem Hs.a);have i7:=hI.ok ⟨g7,_,_⟩ (Hs.mem Hs.a);have i6:=hI.ok ⟨g6,_,_⟩ (Hs.mem Hs.a);have s8:=i8.seg 0;simp only[List.drop_zero] at s8;have b8:g8 ∉ [g7,g6]:=by simp;exact⟨hne4,hne5⟩
  have hm0:Me W [g7,g6] [⟨g7,54,[.int .i64 0]⟩,⟨g6,24,zc 0⟩] W:=⟨.refl _ _,by simpa using ⟨i7,i6⟩,by simp,by simpa using hne6⟩;have hlD:D<W.heap.size:=(Array.getElem?_eq_some_iff.1 hK).1;refine WO.tail (w0:=W) (gs:=[g7,g6]) (n:=52) (K:=[(3,pt g3),(6,pt g6),(7,pt g7),(8,pt g8)]) (L:=[⟨g7,54,[.int .i64 0]⟩,⟨g6,24,zc 0⟩]) rfl d2 (Kle.kn d3 Kle.a) hm0 ?_
  repeat (first|refine WO.does (zn (hs:=s8) (hb:=b8)) ?_|refine Ta ?_|refine Tm fun _=>?_|refine Tc ?_|exact Tz)
  intro a2 W2 f1 f2 f3 f4;have hK2:W2.heap[D]?=some (.deferred (some [])):=(f4.mod.block D hlD (by simp;omega)).trans hK;refine wp_ret ?_;have hdf:(dfA ({ target:=.collected D,args:=#[] }::a.defers) a2).defers=[{ target:=.collected D,args:=#[] }]:=by simp[dfA,f1,d1]
  show LeavesInM Fence.wide 3 Tryz.prog Tryz.f154 a2.tmps _ (dfA ({ target:=.collected D,args:=#[] }::a.defers) a2).defers .returning W2;rw[hdf];refine⟨by simp,.inl ⟨_,_,rfl,run_takeDeferred hK2,?_⟩⟩;have f7:=f4.ok ⟨g7,_,_⟩ (Hs.mem Hs.a);have f6:=f4.ok ⟨g6,_,_⟩ (Hs.mem Hs.a);have hB:Below w.heap.size w W2:=⟨f4.mod.os.trans hI.mod.os,f4.mod.tape.trans hI.mod.tape,f4.mod.output.trans hI.mod.output,Nat.le_trans hI.mod.size f4.mod.size,fun k hk=>(f4.mod.block k (Nat.lt_of_lt_of_le hk hI.mod.size) (by simp;omega)).trans (hI.mod.block k hk Sm)⟩;have hB3:=hB.trans (belowK_b (w:=w) (Nat.le_refl _) W2 D _ (.deferred none) Om hK2 rfl rfl);have p7:=f7.keep (w':=W2.putObj D (.deferred none)) (World.putObj_heap_other (by show g7≠D;omega));have p6:=f6.keep (w':=W2.putObj D (.deferred none)) (World.putObj_heap_other (by show g6≠D;omega));generalize W2.putObj D (.deferred none)=W3 at *;have hm3:Me W3 [g7,g6] _ W3:=⟨.refl _ _,fun e he=>(List.mem_cons.1 he).elim (fun h=>h ▸ p7) (fun he=>(List.mem_singleton.1 he) ▸ p6),by simp,by simpa using hne6⟩;have h:=aa9 (P:=Tryz.prog) (zW (P:=Tryz.prog) (p:=6) (t:=24) (K:=[(3,pt g3),(6,pt g6),(7,pt g7),(8,pt g8)]) rfl (Hs.there Hs.here) (vs:=zc (uv p ys)) rfl rfl a2 W3 (Kle.kn f3 Kle.a) hm3) (tJ (P:=Tryz.prog) (p:=7) (t:=54) (K:=[(3,pt g3),(6,pt g6),(7,pt g7),(8,pt g8)]) rfl Hs.here (v:=.int .i64 0) rfl a2 W3 (Kle.kn f3 Kle.a) hm3);refine⟨.tuple #[zk (uv p ys),.int .i64 0],?_,_,[],rfl,hB3,fx.nil _ _,rfl⟩;rw[yz,show Tryz.f154.results=#[.cell 6 24,.cell 7 54] from rfl,Sem.run_bind,h];rfl
 case stop =>
  rintro D c pre W _ _ h _;exact h.elim
end Sx
end
section
open Go Go.RowKit Go.BigFrame
namespace Sx
attribute [local irreducible] DQ WC WO
theorem fq (pa:Option Addr) (la ca:Nat):Fn Tryz.prog 228 [.slice pa la ca] Tr (Ex (fun s=>.func (.func 264) #[] #[pt (s 0)]) (fun s=>[⟨s 0,46,[.slice pa la ca]⟩]) (fun _=>True)):=by
 refine Fn.enter Tryz.func228 rfl rfl rfl ?_;intro w hw
 repeat (first|refine Ta ?_|refine Tm fun _=>?_|refine WO.does (zH rfl rfl) ?_|refine Tc ?_|exact Tz)
 rename_i g1;exact WX.ret1 rfl (zK rfl) [⟨g1,46,[.slice pa la ca]⟩] (Lle.cons Pk.here rfl Lle.nil) ⟨fun _=>g1,rfl,rfl,trivial⟩
theorem aeI (m:Nat) {α:Type} (fi fa:α→Nat) (xs:List α) (pa:Option Addr) (gA bA oA cA l:Nat) (J Jx:List α→World→Prop) (hn:xs.length≤1099511627776) (hJo:∀ s A B,J s A→Mod [] A B→J s B) (hJxo:∀ s A B,Jx s A→Mod [] A B→Jx s B)
  (hY:∀ pre x W,J pre W→pre.length<xs.length→YieldAt (fw none) (m - 1) Tryz.prog l #[.int .i64 (fi x:Int),zk (fa x)] W fun e W'=>(e=.returned (.bool true)∧J (pre++[x]) W'∧yA [gA,bA] W W'∧W.heap.size≤W'.heap.size)∨(e=.returned (.bool false)∧Jx (pre++[x]) W'))
  (W:World) (hA:Seg W gA 0 [.slice pa xs.length cA]) (hpa:xs≠[]→pa=some ⟨bA,oA,none⟩) (hfi:∀ k x,xs[k]?=some x→fi x=xs.length - 1 - k) (hSA:∀ k x,xs[k]?=some x→Seg W bA (oA+(xs.length - 1 - k)*4) (zc (fa x))) (hlt:∀ k∈[gA,bA],k<W.heap.size) (h0:J [] W) :
  CallsIn (fw none) m Tryz.prog 264 [.func (.yield l) #[] #[],pt gA].toArray W fun e W'=>(∃ v,e=.returned v)∧((∃ ys,ys=xs∧J ys W')∨(∃ pre,True∧Jx pre W')):=by
 refine uN (n:=19) Tryz.func264 rfl rfl rfl ?_;have hQ:¬ LetsOut (bodyPost Tryz.prog Tryz.f264 fun e W'=>(∃ v,e=.returned v)∧((∃ ys,ys=xs∧J ys W')∨(∃ pre,True∧Jx pre W'))):=by
  rintro ⟨a,w,⟨v,h⟩,_⟩;cases h
 have e0:IntKind.i64.wrap ((xs.length:Int) - 1)=(xs.length:Int) - 1 - ((0:Nat):Int):=zl Om Om Om;refine WI.seq (WI.region ?_ (by exact hQ));refine WO.does (zm (hs:=hA)) ?_;refine WO.auto (k:=?_);refine WO.does (zG rfl rfl e0) ?_;refine WO.auto (k:=?_);refine WO.nil (WX.seqI ?_);refine WI.block ?_;refine WI.loopW (σ:=Nat) (fun k=>[(0,.func (.yield l) #[] #[]),(1,pt gA),(3,.int .i64 ((xs.length:Int) - 1 - (k:Int)))]) (fun k w=>k≤xs.length∧J (xs.take k) w∧yA [gA,bA] W w∧W.heap.size≤w.heap.size) (fun k=>xs.length - k) 0 (fun w hw=>⟨Nat.zero_le _,?_,?_,hw.mod.size⟩) ?_ ?_
 ·have:=hJo [] W w h0 hw.mod;simpa using this
 ·exact yA.of_mod hw.mod (fun k hk=>⟨hlt k hk,by simp⟩)
 ·repeat (first|exact Kle.nil|refine Kle.cons rfl rfl ?_)
 ·rintro k w1 ⟨hk,hJ,hKp,hsz⟩;have hlw:∀ j∈[gA,bA],j<w1.heap.size:=fun j hj=>Nat.lt_of_lt_of_le (hlt j hj) hsz;have hA':=hKp.seg (b:=gA) Sm hA;refine WI.seq (WI.seq (WI.region ?_ (by exact hQ)));refine WO.auto (k:=?_)
  by_cases hkl:k<xs.length
  ·rw[show (xs.length:Int) - 1 - (k:Int)=((xs.length - 1 - k:Nat):Int) by omega];refine WO.does (yP rfl rfl Om) ?_;refine WO.nil (WX.seqI ?_);refine WI.condT rfl ?_;refine WI.skip (WX.seqI ?_);obtain⟨x,hx⟩ : ∃ x,xs[k]?=some x:=⟨_,List.getElem?_eq_getElem hkl⟩;have hSA':=hKp.seg (b:=bA) Sm (hSA k x hx);have hfx:=hfi k x hx;have hx' : xs.take k++[x]=xs.take (k+1):=by rw[List.take_add_one,hx];rfl
   have hix:xs.length - 1 - k<xs.length:=by omega
   obtain rfl:=hpa (by rintro rfl;simp at hkl);generalize hj:xs.length - 1 - k=j at *;have e1:IntKind.i64.wrap ((j:Int) - 1)=(xs.length:Int) - 1 - ((k+1:Nat):Int):=zl Om Om Om;refine WI.seq ?_;refine WI.block ?_;refine WI.seq (WI.regionY 6 (by exact hQ) ?_);simp only[List.take_succ_cons,List.take_zero,List.drop_succ_cons,List.drop_zero];refine WO.does (vK rfl) ?_;refine WO.does (vK rfl) ?_;refine WO.does (zm (hs:=hA')) ?_;refine WO.does (vK rfl) ?_;refine WO.does (zb (o':=oA+j*4) rfl rfl hix rfl) ?_;refine WO.does (zn (vs:=zc (fa x)) (hs:=hSA')) ?_;refine WO.nil (WX.woi ?_);refine WOI.yield (vs:=[.int .i64 (j:Int),zk (fa x)]) rfl rfl (fun w2 h2=>hfx ▸ hY (xs.take k) x w2 (hJo _ _ _ hJ h2.mod) (by rw[List.length_take];omega)) (fun w2 e w3 h2 hR=>?_);have hKw:yA [gA,bA] W w2:=hKp.trans (yA.of_mod h2.mod (fun j hj=>⟨hlw j hj,by simp⟩));have hs2:=Nat.le_trans hsz h2.mod.size
   rcases hR with ⟨rfl,hR,hK3,hs3⟩|⟨rfl,hR⟩
   ·refine⟨true,rfl,?_⟩;rw[hx'] at hR;refine WOI.of (by exact hQ) ?_;refine WO.auto (k:=?_);refine WO.nil (WX.seqI ?_);refine WI.condF rfl ?_;refine WI.skip (WX.blk_normal (WX.seqI ?_));refine WI.region ?_ (by exact hQ);refine WO.auto (k:=?_);refine WO.does (zG rfl rfl e1) ?_;refine WO.auto (k:=?_);refine WO.nil ?_;refine WX.metW (k+1) Om Kle.a (fun w4 h4=>⟨by omega,hJo _ _ _ hR h4.mod,?_,Nat.le_trans hs2 (Nat.le_trans hs3 h4.mod.size)⟩);exact (hKw.trans hK3).trans (yA.of_mod h4.mod (fun j hj=>⟨Nat.lt_of_lt_of_le (hlt j hj) (Nat.le_trans hs2 hs3),by simp⟩))
   ·refine⟨false,rfl,?_⟩;rw[hx'] at hR;refine WOI.of (by exact hQ) ?_;refine WO.auto (k:=?_);refine WO.nil (WX.seqI ?_);refine WI.condT rfl ?_;refine WI.ret ?_;refine WX.blk_ret (WX.then_ret (WX.then_ret (WX.blk_ret ?_)));intro a w4 g1 g2 g3 g4;exact bodyPost_ret (results_none rfl _ _ _) g1 ⟨⟨_,rfl⟩,.inr ⟨_,trivial,hJxo _ _ _ hR g4.mod⟩⟩
  ·refine WO.does (zY rfl rfl Om) ?_;refine WO.nil (WX.seqI ?_);refine WI.condF rfl ?_;refine WI.exit (WX.then_exit (WX.then_exit (WX.blk_exit ?_)));intro a w4 g1 g2 g3 g4;obtain rfl:k=xs.length:=by omega
   refine bodyPost_end (results_none rfl _ _ _) g1 ⟨⟨_,rfl⟩,.inl ⟨xs,rfl,?_⟩⟩;have:=hJo _ _ _ hJ g4.mod;rwa [List.take_length] at this
abbrev CoT (q:Nat):Type:={ x:Nat × Nat // x.2<q }
def rJ {q:Nat} (l:LN) (h:∀ c∈l,c<q):Nat→List (CoT q)
 | 0=>[]
 | j+1=>if hj:j<l.length then ⟨(j,l[j]),h _ (List.getElem_mem hj)⟩::rJ l h j else []
theorem nU {q:Nat} {l:LN} (h:∀ c∈l,c<q):∀ j,j≤l.length→(rJ l h j).length=j
 | 0,_=>rfl
 | j+1,hj=>by rw[rJ,dif_pos Om,List.length_cons,nU h j Om]
theorem mR {q:Nat} {l:LN} (h:∀ c∈l,c<q):∀ j,j≤l.length→∀ k x,(rJ l h j)[k]?=some x→x.1.1=j - 1 - k∧l[j - 1 - k]?=some x.1.2
 | 0,_,k,x,hx=>by simp[rJ] at hx
 | j+1,hj,k,x,hx=>by
  rw[rJ,dif_pos Om] at hx;cases k with
  | zero =>
   simp at hx;rw[← hx];simp
  | succ k =>
   have:=mR h j Om k x (by simpa using hx);rw[show j+1 - 1 - (k+1)=j - 1 - k by omega];exact this
theorem q8 {q:Nat} {l:LN} (h:∀ c∈l,c<q) (st:Nat→Nat→Nat):∀ j,j≤l.length→∀ r,(rJ l h j).foldl (fun r (x:CoT q)=>st r x.1.2) r=(l.take j).reverse.foldl st r
 | 0,_,r=>by simp[rJ]
 | j+1,hj,r=>by
  have e:l.take (j+1)=l.take j++[l[j]' Om]:=by rw[List.take_add_one,List.getElem?_eq_getElem (show j<l.length by omega)];rfl
  rw[rJ,dif_pos Om,List.foldl_cons,q8 h st j Om,e,List.reverse_append];rfl
def vB (q x:Nat) (l:List (CoT q)):Nat:=l.foldl (fun r c=>(r*x%q+c.1.2)%q) 0
theorem pA (q x:Nat) (l:List (CoT q)) (c:CoT q):vB q x (l++[c])=(vB q x l*x%q+c.1.2)%q:=by unfold vB;rw[List.foldl_append];rfl
theorem aS {q x:Nat} (h:1<q) (l:List (CoT q)):vB q x l<q:=by
 rcases List.eq_nil_or_concat l with rfl|⟨l,c,rfl⟩
 ·show 0<q;omega
 ·rw[List.concat_eq_append,pA];exact Nat.mod_lt _ Om
theorem iY (q x:Nat) (l:LN):i5 q x l=l.foldr (fun c r=>(r*x%q+c)%q) 0:=by
 induction l with
 | nil=>rfl
 | cons c r ih=>simp only[i5,List.foldr_cons,ih]
theorem lU {q:Nat} (x:Nat) {l:LN} (h:∀ c∈l,c<q):vB q x (rJ l h l.length)=ye l x%q:=by
 rw[← aE,iY,vB,q8 h (fun r c=>(r*x%q+c)%q) _ (Nat.le_refl _),List.take_length,List.foldl_reverse]
end Sx
end
section
open Go Go.RowKit Go.BigFrame
namespace Sx
end Sx
end
end Go.Proofs.YtiaibpcaloigkaaGreatDoor
