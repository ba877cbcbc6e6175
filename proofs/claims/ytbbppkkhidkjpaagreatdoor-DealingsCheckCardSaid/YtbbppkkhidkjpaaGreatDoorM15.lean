/- Part 15 of the proof. -/
import Derived.Test.YtbbppkkhidkjpaaGreatDoorM14
set_option linter.unusedSimpArgs false
set_option linter.unusedVariables false
set_option maxHeartbeats 8000000
namespace Go.Proofs.YtbbppkkhidkjpaaGreatDoor
section
open Go Go.RowKit
namespace Sx
attribute [local irreducible] DQ DQS WC WO WX wd
theorem tJ {a b:Nat} (h:a<b):vG a b = -1:=by unfold vG;rw[if_neg (by omega),if_pos h]
theorem uL {a b:Nat} (h:b<a):vG a b=1:=by unfold vG;rw[if_neg (by omega),if_neg (by omega)]
theorem tK {a b:Nat} (h:a=b):vG a b=0:=by unfold vG;rw[if_pos h]
theorem oF {a b m:Nat} (ha:a<m) (hb:b<m) (hm:m<zb) :
  ((a+b) / zb=0∧bw ((a+b)%zb) m 0=1∧(a+b)%m=(a+b)%zb) ∨
  ((a+b) / zb=1∧(a+b)%m=((a+b)%zb+zb - m)%zb) ∨
  ((a+b) / zb=0∧bw ((a+b)%zb) m 0=0∧(a+b)%m=((a+b)%zb+zb - m)%zb):=by
 by_cases hc:a+b<zb
 ·have e:(a+b)%zb=a+b:=Nat.mod_eq_of_lt hc;rw[e];have e0:(a+b) / zb=0:=Nat.div_eq_of_lt hc
  by_cases h:a+b<m
  ·exact .inl ⟨e0,by simp[bw];omega,Nat.mod_eq_of_lt h⟩
  ·refine .inr (.inr ⟨e0,by simp[bw];omega,?_⟩);rw[Nat.mod_eq_sub_mod (by omega),Nat.mod_eq_of_lt (by omega),show a+b+zb - m=(a+b - m)+zb by omega,Nat.add_mod_right,Nat.mod_eq_of_lt (by omega)]
 ·have e:(a+b)%zb=a+b - zb:=by rw[Nat.mod_eq_sub_mod (by omega),Nat.mod_eq_of_lt (by omega)]
  refine .inr (.inl ⟨?_,?_⟩)
  ·rw[Nat.div_eq_iff zq];omega
  ·rw[e,Nat.mod_eq_sub_mod (by omega),Nat.mod_eq_of_lt (by omega),show a+b - zb+zb - m=a+b - m by omega,Nat.mod_eq_of_lt (by omega)]
theorem oL {a b m:Nat} (ha:a<m) (hb:b<m) (hm:m<zb) :
  (bw a b 0=0∧(a+m - b)%m=(a+zb - b)%zb)∨(bw a b 0=1∧(a+m - b)%m=((a+zb - b)%zb+m)%zb):=by
 by_cases h:a<b
 ·refine .inr ⟨by simp[bw];omega,?_⟩;rw[Nat.mod_eq_of_lt (by omega:a+m - b<m),Nat.mod_eq_of_lt (by omega:a+zb - b<zb),show a+zb - b+m=(a+m - b)+zb by omega,Nat.add_mod_right,Nat.mod_eq_of_lt (by omega)]
 ·refine .inl ⟨by simp[bw];omega,?_⟩;rw[show a+m - b=(a - b)+m by omega,Nat.add_mod_right,Nat.mod_eq_of_lt (by omega),show a+zb - b=(a - b)+zb by omega,Nat.add_mod_right,Nat.mod_eq_of_lt (by omega)]
theorem adg (a b c:Nat):bw a b c=0∨bw a b c=1:=by unfold bw;split<;>simp
theorem adt (a b m:Nat) (ha:a<m) (hb:b<m) (hm:m<zb):Fn Tryz.prog 174 [zf a,zf b,zf m] Tr (Is (zf ((a+b)%m))):=by
 have hc:=oF ha hb hm;have hA:=aaY a b (by omega) (by omega);have hS:=aav ((a+b)%zb) m (Nat.mod_lt _ zq) hm;have hl:=adg ((a+b)%zb) m 0;generalize (a+b)%m=R at *;generalize (a+b) / zb=c at *;generalize ((a+b)%zb+zb - m)%zb=y at *;generalize bw ((a+b)%zb) m 0=l at *;generalize (a+b)%zb=X at *
 rcases hc with ⟨rfl,rfl,rfl⟩|⟨rfl,rfl⟩|⟨rfl,rfl,rfl⟩
 ·refine Fn.enter Tryz.func174 rfl rfl rfl ?_;intro w hw
  repeat (first|refine Ta ?_|(refine Tm ?_;intro _)|refine WO.acall (hc:=hA) (k:=?_)|refine WO.acall (hc:=hS) (k:=?_)|refine Tc ?_|exact Tz)
 ·rcases hl with rfl|rfl
  all_goals
   refine Fn.enter Tryz.func174 rfl rfl rfl ?_;intro w hw
   repeat (first|refine Ta ?_|(refine Tm ?_;intro _)|refine WO.acall (hc:=hA) (k:=?_)|refine WO.acall (hc:=hS) (k:=?_)|refine Tc ?_|exact Tz)
 ·refine Fn.enter Tryz.func174 rfl rfl rfl ?_;intro w hw
  repeat (first|refine Ta ?_|(refine Tm ?_;intro _)|refine WO.acall (hc:=hA) (k:=?_)|refine WO.acall (hc:=hS) (k:=?_)|refine Tc ?_|exact Tz)
theorem ac8 (a b m:Nat) (ha:a<m) (hb:b<m) (hm:m<zb):Fn Tryz.prog 177 [zf a,zf b,zf m] Tr (Is (zf ((a+m - b)%m))):=by
 have hc:=oL ha hb hm;have hS:=aav a b (by omega) (by omega);have hA:=aaY ((a+zb - b)%zb) m (Nat.mod_lt _ zq) hm;generalize (a+m - b)%m=R at *;generalize ((a+zb - b)%zb+m) / zb=c at *;generalize ((a+zb - b)%zb+m)%zb=y at *;generalize bw a b 0=l at *;generalize (a+zb - b)%zb=X at *
 rcases hc with ⟨rfl,rfl⟩|⟨rfl,rfl⟩
 all_goals
  refine Fn.enter Tryz.func177 rfl rfl rfl ?_;intro w hw
  repeat (first|refine Ta ?_|(refine Tm ?_;intro _)|refine WO.acall (hc:=hA) (k:=?_)|refine WO.acall (hc:=hS) (k:=?_)|refine Tc ?_|exact Tz)
def okE (c:Bool):Int:=if c then 0 else 1
def okV (c:Bool) (r:Nat):Nat:=if c then r else 0
def zD (a b m:Nat):Bool:=decide (1<m) && decide (a<m) && decide (b<m)
theorem oH (a b m:Nat):(1<m∧a<m∧b<m∧zD a b m=true∧vG m 1=1∧vG a m = -1∧vG b m = -1) ∨
  (zD a b m=false∧((vG m 1=0∨vG m 1 = -1)∨(vG m 1=1∧(vG a m=0∨vG a m=1))∨(vG m 1=1∧vG a m = -1∧(vG b m=0∨vG b m=1)))):=by
 unfold zD vG
 by_cases h1:1<m
 ·by_cases h2:a<m
  ·by_cases h3:b<m
   ·refine .inl ⟨h1,h2,h3,by simp[h1,h2,h3],?_,?_,?_⟩
    ·rw[if_neg (by omega),if_neg (by omega)]
    ·rw[if_neg (by omega),if_pos h2]
    ·rw[if_neg (by omega),if_pos h3]
   ·refine .inr ⟨by simp[h3],.inr (.inr ⟨?_,?_,?_⟩)⟩
    ·rw[if_neg (by omega),if_neg (by omega)]
    ·rw[if_neg (by omega),if_pos h2]
    ·by_cases e:b=m
     ·exact .inl (if_pos e)
     ·exact .inr (by rw[if_neg e,if_neg h3])
  ·refine .inr ⟨by simp[h2],.inr (.inl ⟨?_,?_⟩)⟩
   ·rw[if_neg (by omega),if_neg (by omega)]
   ·by_cases e:a=m
    ·exact .inl (if_pos e)
    ·exact .inr (by rw[if_neg e,if_neg h2])
 ·refine .inr ⟨by simp[h1],.inl ?_⟩
  by_cases e:m=1
  ·exact .inl (if_pos e)
  ·exact .inr (by rw[if_neg e,if_pos (by omega)])
theorem adk {f:Nat} [Cal Tryz.prog f] (caps:List Value) (a b m r:Nat) (ha:a<zb) (hb:b<zb) (hm:m<zb) (R:World→Prop) (hst:yu R)
  (hf:zD a b m=true→Fn Tryz.prog f ([zf a,zf b,zf m]++caps) R (Is (zf r))) :
  Fn Tryz.prog 169 [.agg #[.func (.func f) #[] caps.toArray],zf a,zf b,zf m] R (Is (.tuple #[zf (okV (zD a b m) r),.int .i64 (okE (zD a b m))])):=by
 have hC1:=gu m 1 hm yA;have hC2:=gu a m ha hm;have hC3:=gu b m hb hm
 rcases oH a b m with ⟨h1,h2,h3,hy,e1,e2,e3⟩|⟨hn,hc⟩
 ·have hF:=hf hy;rw[hy];rw[e1] at hC1;rw[e2] at hC2;rw[e3] at hC3;refine Fn.enter Tryz.func169 rfl rfl rfl ?_;intro w hw
  repeat (first|refine Tw ?_|(refine Tm ?_;intro _)|exact Tz)
  refine WC.adraw 16 (k:=?_)
  repeat (first|refine Da ?_|refine DQ.acall (hc:=uz) (k:=?_)|refine DQ.acall (hc:=hC1) (k:=?_)|refine DQ.acall (hc:=hC2) (k:=?_)|refine DQ.acall (hc:=hC3) (k:=?_)|refine Dc ?_)
  refine DQ.anil (k:=?_);intro sx _
  repeat (first|refine Ta ?_|(refine Tm ?_;intro _)|refine WO.acallV (hc:=hF) (hR:=fun w' hm=>hst _ _ hw hm.mod.below) (k:=?_)|refine Tc ?_|exact Tz)
 ·rw[hn]
  rcases hc with (e1|e1)|⟨e1,e2|e2⟩|⟨e1,e2,e3|e3⟩
  ·rw[e1] at hC1;refine Fn.enter Tryz.func169 rfl rfl rfl ?_;intro w hw
   repeat (first|refine Tw ?_|(refine Tm ?_;intro _)|exact Tz)
   refine WC.adraw 16 (k:=?_)
   repeat (first|refine Da ?_|refine DQ.acall (hc:=uz) (k:=?_)|refine DQ.acall (hc:=hC1) (k:=?_)|refine DQ.acall (hc:=hC2) (k:=?_)|refine DQ.acall (hc:=hC3) (k:=?_)|refine Dc ?_)
   refine DQ.anil (k:=?_);intro sx _
   repeat (first|refine Tw ?_|(refine Tm ?_;intro _)|exact Tz)
  ·rw[e1] at hC1;refine Fn.enter Tryz.func169 rfl rfl rfl ?_;intro w hw
   repeat (first|refine Tw ?_|(refine Tm ?_;intro _)|exact Tz)
   refine WC.adraw 16 (k:=?_)
   repeat (first|refine Da ?_|refine DQ.acall (hc:=uz) (k:=?_)|refine DQ.acall (hc:=hC1) (k:=?_)|refine DQ.acall (hc:=hC2) (k:=?_)|refine DQ.acall (hc:=hC3) (k:=?_)|refine Dc ?_)
   refine DQ.anil (k:=?_);intro sx _
   repeat (first|refine Tw ?_|(refine Tm ?_;intro _)|exact Tz)
  ·rw[e1] at hC1;rw[e2] at hC2;refine Fn.enter Tryz.func169 rfl rfl rfl ?_;intro w hw
   repeat (first|refine Tw ?_|(refine Tm ?_;intro _)|exact Tz)
   refine WC.adraw 16 (k:=?_)
   repeat (first|refine Da ?_|refine DQ.acall (hc:=uz) (k:=?_)|refine DQ.acall (hc:=hC1) (k:=?_)|refine DQ.acall (hc:=hC2) (k:=?_)|refine DQ.acall (hc:=hC3) (k:=?_)|refine Dc ?_)
   refine DQ.anil (k:=?_);intro sx _
   repeat (first|refine Tw ?_|(refine Tm ?_;intro _)|exact Tz)
  ·rw[e1] at hC1;rw[e2] at hC2;refine Fn.enter Tryz.func169 rfl rfl rfl ?_;intro w hw
   repeat (first|refine Tw ?_|(refine Tm ?_;intro _)|exact Tz)
   refine WC.adraw 16 (k:=?_)
   repeat (first|refine Da ?_|refine DQ.acall (hc:=uz) (k:=?_)|refine DQ.acall (hc:=hC1) (k:=?_)|refine DQ.acall (hc:=hC2) (k:=?_)|refine DQ.acall (hc:=hC3) (k:=?_)|refine Dc ?_)
   refine DQ.anil (k:=?_);intro sx _
   repeat (first|refine Tw ?_|(refine Tm ?_;intro _)|exact Tz)
  ·rw[e1] at hC1;rw[e2] at hC2;rw[e3] at hC3;refine Fn.enter Tryz.func169 rfl rfl rfl ?_;intro w hw
   repeat (first|refine Tw ?_|(refine Tm ?_;intro _)|exact Tz)
   refine WC.adraw 16 (k:=?_)
   repeat (first|refine Da ?_|refine DQ.acall (hc:=uz) (k:=?_)|refine DQ.acall (hc:=hC1) (k:=?_)|refine DQ.acall (hc:=hC2) (k:=?_)|refine DQ.acall (hc:=hC3) (k:=?_)|refine Dc ?_)
   refine DQ.anil (k:=?_);intro sx _
   repeat (first|refine Tw ?_|(refine Tm ?_;intro _)|exact Tz)
  ·rw[e1] at hC1;rw[e2] at hC2;rw[e3] at hC3;refine Fn.enter Tryz.func169 rfl rfl rfl ?_;intro w hw
   repeat (first|refine Tw ?_|(refine Tm ?_;intro _)|exact Tz)
   refine WC.adraw 16 (k:=?_)
   repeat (first|refine Da ?_|refine DQ.acall (hc:=uz) (k:=?_)|refine DQ.acall (hc:=hC1) (k:=?_)|refine DQ.acall (hc:=hC2) (k:=?_)|refine DQ.acall (hc:=hC3) (k:=?_)|refine Dc ?_)
   refine DQ.anil (k:=?_);intro sx _
   repeat (first|refine Tw ?_|(refine Tm ?_;intro _)|exact Tz)
theorem zK {a b m:Nat} (h:zD a b m=true):1<m∧a<m∧b<m:=by
 unfold zD at h;simp at h;exact⟨h.1.1,h.1.2,h.2⟩
abbrev rE (c:Bool) (r:Nat):Value:=.tuple #[zf (okV c r),.int .i64 (okE c)]
theorem adv (a b m:Nat) (ha:a<zb) (hb:b<zb) (hm:m<zb):Fn Tryz.prog 118 [zf a,zf b,zf m] Tr (Is (rE (zD a b m) ((a+b)%m))):=by
 have hO:=adk (f:=174) [] a b m ((a+b)%m) ha hb hm Tr yu.tr (fun h=>adt a b m (zK h).2.1 (zK h).2.2 hm);refine Fn.enter Tryz.func118 rfl rfl rfl ?_;intro w hw
 repeat (first|refine Ta ?_|(refine Tm ?_;intro _)|refine WO.acall (hc:=hO) (k:=?_)|refine Tc ?_|exact Tz)
theorem abG (a b m:Nat) (ha:a<zb) (hb:b<zb) (hm:m<zb):Fn Tryz.prog 120 [zf a,zf b,zf m] Tr (Is (rE (zD a b m) ((a+m - b)%m))):=by
 have hO:=adk (f:=177) [] a b m ((a+m - b)%m) ha hb hm Tr yu.tr (fun h=>ac8 a b m (zK h).2.1 (zK h).2.2 hm);refine Fn.enter Tryz.func120 rfl rfl rfl ?_;intro w hw
 repeat (first|refine Ta ?_|(refine Tm ?_;intro _)|refine WO.acall (hc:=hO) (k:=?_)|refine Tc ?_|exact Tz)
theorem acK (a b m:Nat) (ha:a<zb) (hb:b<zb) (hm:m<zb):Fn Tryz.prog 127 [zf a,zf b,zf m] Tr (Is (rE (zD a b m) (a*b%m))):=by
 have hO:=adk (f:=168) [] a b m (a*b%m) ha hb hm Tr yu.tr (fun h=>kR a b m (zK h).2.1 (zK h).2.2 hm);refine Fn.enter Tryz.func127 rfl rfl rfl ?_;intro w hw
 repeat (first|refine Ta ?_|(refine Tm ?_;intro _)|refine WO.acall (hc:=hO) (k:=?_)|refine Tc ?_|exact Tz)
def cE (n N k:Nat):Nat:=n / 2 ^ (N - k)
theorem oC {n N:Nat} (h:n<2 ^ N):cE n N 0=0:=Nat.div_eq_of_lt (by simpa using h)
theorem jN (n N:Nat):cE n N N=n:=by unfold cE;simp
theorem lw (n:Nat) {N k:Nat} (h:k<N):cE n N (k+1)=2*cE n N k+vb n (N - 1 - k):=by
 unfold cE vb;have e:N - k=(N - 1 - k)+1:=by omega
 have e2:N - (k+1)=N - 1 - k:=by omega
 rw[e2,e,Nat.pow_succ,← Nat.div_div_eq_div_mul];omega
theorem qR (a m t b:Nat) (hb:b=0∨b=1):a ^ (2*t+b)%m=if b=1 then (a ^ t%m*(a ^ t%m)%m)*a%m else a ^ t%m*(a ^ t%m)%m:=by
 have h1:a ^ (2*t)%m=a ^ t%m*(a ^ t%m)%m:=by rw[Nat.two_mul,Nat.pow_add,Nat.mul_mod]
 rcases hb with rfl|rfl
 ·simpa using h1
 ·rw[if_pos rfl,Nat.pow_succ,Nat.mul_mod,h1,Nat.mul_mod_mod]
theorem uk (a i:Nat):vb a i=0∨vb a i=1:=by unfold vb;omega
end Sx
end
end Go.Proofs.YtbbppkkhidkjpaaGreatDoor
