/- Part 24 of the proof. -/
import Derived.Test.YtbhblpnjhkddbaaGreatE12
set_option linter.unusedSimpArgs false
set_option linter.unusedVariables false
set_option maxHeartbeats 8000000
namespace Go.Proofs.YtbhblpnjhkddbaaGreat
section
open Go Go.RowKit
namespace Sx
attribute [local irreducible] DQ DQS WC WO WX wd
theorem ir {a b:Nat} (h:a<b):uo a b = -1:=by unfold uo;rw[if_neg (by omega),if_pos h]
theorem mT {a b:Nat} (h:b<a):uo a b=1:=by unfold uo;rw[if_neg (by omega),if_neg (by omega)]
theorem j1 {a b:Nat} (h:a=b):uo a b=0:=by unfold uo;rw[if_pos h]
theorem jr {a b m:Nat} (ha:a<m) (hb:b<m) (hm:m<zc) :
  ((a+b) / zc=0∧bw ((a+b)%zc) m 0=1∧(a+b)%m=(a+b)%zc) ∨
  ((a+b) / zc=1∧(a+b)%m=((a+b)%zc+zc - m)%zc) ∨
  ((a+b) / zc=0∧bw ((a+b)%zc) m 0=0∧(a+b)%m=((a+b)%zc+zc - m)%zc):=by
 by_cases hc:a+b<zc
 ·have e:(a+b)%zc=a+b:=Nat.mod_eq_of_lt hc;rw[e];have e0:(a+b) / zc=0:=Nat.div_eq_of_lt hc
  by_cases h:a+b<m
  ·exact .inl ⟨e0,by simp[bw];omega,Nat.mod_eq_of_lt h⟩
  ·refine .inr (.inr ⟨e0,by simp[bw];omega,?_⟩);rw[Nat.mod_eq_sub_mod (by omega),Nat.mod_eq_of_lt (by omega),show a+b+zc - m=(a+b - m)+zc by omega,Nat.add_mod_right,Nat.mod_eq_of_lt (by omega)]
 ·have e:(a+b)%zc=a+b - zc:=by rw[Nat.mod_eq_sub_mod (by omega),Nat.mod_eq_of_lt (by omega)]
  refine .inr (.inl ⟨?_,?_⟩)
  ·rw[Nat.div_eq_iff zz];omega
  ·rw[e,Nat.mod_eq_sub_mod (by omega),Nat.mod_eq_of_lt (by omega),show a+b - zc+zc - m=a+b - m by omega,Nat.mod_eq_of_lt (by omega)]
theorem kS {a b m:Nat} (ha:a<m) (hb:b<m) (hm:m<zc) :
  (bw a b 0=0∧(a+m - b)%m=(a+zc - b)%zc)∨(bw a b 0=1∧(a+m - b)%m=((a+zc - b)%zc+m)%zc):=by
 by_cases h:a<b
 ·refine .inr ⟨by simp[bw];omega,?_⟩;rw[Nat.mod_eq_of_lt (by omega:a+m - b<m),Nat.mod_eq_of_lt (by omega:a+zc - b<zc),show a+zc - b+m=(a+m - b)+zc by omega,Nat.add_mod_right,Nat.mod_eq_of_lt (by omega)]
 ·refine .inl ⟨by simp[bw];omega,?_⟩;rw[show a+m - b=(a - b)+m by omega,Nat.add_mod_right,Nat.mod_eq_of_lt (by omega),show a+zc - b=(a - b)+zc by omega,Nat.add_mod_right,Nat.mod_eq_of_lt (by omega)]
theorem abo (a b c:Nat):bw a b c=0∨bw a b c=1:=by unfold bw;split<;>simp
theorem abA (a b m:Nat) (ha:a<m) (hb:b<m) (hm:m<zc):Fn Tryz.prog 145 [ze a,ze b,ze m] Tr (Is (ze ((a+b)%m))):=by
 have hc:=jr ha hb hm;have hA:=bH a b (by omega) (by omega);have hS:=bV ((a+b)%zc) m (Nat.mod_lt _ zz) hm;have hl:=abo ((a+b)%zc) m 0;generalize (a+b)%m=R at *;generalize (a+b) / zc=c at *;generalize ((a+b)%zc+zc - m)%zc=y at *;generalize bw ((a+b)%zc) m 0=l at *;generalize (a+b)%zc=X at *
 rcases hc with ⟨rfl,rfl,rfl⟩|⟨rfl,rfl⟩|⟨rfl,rfl,rfl⟩
 ·refine Fn.enter Tryz.func145 rfl rfl rfl ?_;intro w hw
  repeat (first|refine Ta ?_|(refine Tm ?_;intro _)|refine WO.acall (hc:=hA) (k:=?_)|refine WO.acall (hc:=hS) (k:=?_)|refine Tc ?_|exact Tz)
 ·rcases hl with rfl|rfl
  all_goals
   refine Fn.enter Tryz.func145 rfl rfl rfl ?_;intro w hw
   repeat (first|refine Ta ?_|(refine Tm ?_;intro _)|refine WO.acall (hc:=hA) (k:=?_)|refine WO.acall (hc:=hS) (k:=?_)|refine Tc ?_|exact Tz)
 ·refine Fn.enter Tryz.func145 rfl rfl rfl ?_;intro w hw
  repeat (first|refine Ta ?_|(refine Tm ?_;intro _)|refine WO.acall (hc:=hA) (k:=?_)|refine WO.acall (hc:=hS) (k:=?_)|refine Tc ?_|exact Tz)
theorem abg (a b m:Nat) (ha:a<m) (hb:b<m) (hm:m<zc):Fn Tryz.prog 147 [ze a,ze b,ze m] Tr (Is (ze ((a+m - b)%m))):=by
 have hc:=kS ha hb hm;have hS:=bV a b (by omega) (by omega);have hA:=bH ((a+zc - b)%zc) m (Nat.mod_lt _ zz) hm;generalize (a+m - b)%m=R at *;generalize ((a+zc - b)%zc+m) / zc=c at *;generalize ((a+zc - b)%zc+m)%zc=y at *;generalize bw a b 0=l at *;generalize (a+zc - b)%zc=X at *
 rcases hc with ⟨rfl,rfl⟩|⟨rfl,rfl⟩
 all_goals
  refine Fn.enter Tryz.func147 rfl rfl rfl ?_;intro w hw
  repeat (first|refine Ta ?_|(refine Tm ?_;intro _)|refine WO.acall (hc:=hA) (k:=?_)|refine WO.acall (hc:=hS) (k:=?_)|refine Tc ?_|exact Tz)
def okE (c:Bool):Int:=if c then 0 else 1
def okV (c:Bool) (r:Nat):Nat:=if c then r else 0
def zK (a b m:Nat):Bool:=decide (1<m) && decide (a<m) && decide (b<m)
theorem jd (a b m:Nat):(1<m∧a<m∧b<m∧zK a b m=true∧uo m 1=1∧uo a m = -1∧uo b m = -1) ∨
  (zK a b m=false∧((uo m 1=0∨uo m 1 = -1)∨(uo m 1=1∧(uo a m=0∨uo a m=1))∨(uo m 1=1∧uo a m = -1∧(uo b m=0∨uo b m=1)))):=by
 unfold zK uo
 by_cases h1:1<m
 ·by_cases h2:a<m
  ·by_cases h3:b<m
   ·refine .inl ⟨h1,h2,h3,by simp[h1,h2,h3],?_,?_,?_⟩
    ·rw[if_neg (by omega),if_neg (by omega)]
    ·rw[if_neg (by omega),if_pos h2]
    ·rw[if_neg (by omega),if_pos h3]
   ·refine .inr ⟨by simp[h3],.inr (.inr ⟨?_,?_,?_⟩)⟩
    ·rw[if_neg (by omega),if_neg (by omega)]
    ·rw[if_neg (by omega),if_pos h2]
    ·by_cases e:b=m
     ·exact .inl (if_pos e)
     ·exact .inr (by rw[if_neg e,if_neg h3])
  ·refine .inr ⟨by simp[h2],.inr (.inl ⟨?_,?_⟩)⟩
   ·rw[if_neg (by omega),if_neg (by omega)]
   ·by_cases e:a=m
    ·exact .inl (if_pos e)
    ·exact .inr (by rw[if_neg e,if_neg h2])
 ·refine .inr ⟨by simp[h1],.inl ?_⟩
  by_cases e:m=1
  ·exact .inl (if_pos e)
  ·exact .inr (by rw[if_neg e,if_pos (by omega)])
theorem aba {f:Nat} [Cal Tryz.prog f] (caps:List Value) (a b m r:Nat) (ha:a<zc) (hb:b<zc) (hm:m<zc) (R:World→Prop) (hst:zL R)
  (hf:zK a b m=true→Fn Tryz.prog f ([ze a,ze b,ze m]++caps) R (Is (ze r))) :
  Fn Tryz.prog 96 [.agg #[.func (.func f) #[] caps.toArray],ze a,ze b,ze m] R (Is (.tuple #[ze (okV (zK a b m) r),.int .i64 (okE (zK a b m))])):=by
 have hC1:=ng m 1 hm vi;have hC2:=ng a m ha hm;have hC3:=ng b m hb hm
 rcases jd a b m with ⟨h1,h2,h3,hy,e1,e2,e3⟩|⟨hn,hc⟩
 ·have hF:=hf hy;rw[hy];rw[e1] at hC1;rw[e2] at hC2;rw[e3] at hC3;refine Fn.enter Tryz.func96 rfl rfl rfl ?_;intro w hw
  repeat (first|refine Tw ?_|(refine Tm ?_;intro _)|exact Tz)
  refine WC.adraw 16 (k:=?_)
  repeat (first|refine Da ?_|refine DQ.acall (hc:=vS) (k:=?_)|refine DQ.acall (hc:=hC1) (k:=?_)|refine DQ.acall (hc:=hC2) (k:=?_)|refine DQ.acall (hc:=hC3) (k:=?_)|refine Dc ?_)
  refine DQ.anil (k:=?_);intro sx _
  repeat (first|refine Ta ?_|(refine Tm ?_;intro _)|refine WO.acallV (hc:=hF) (hR:=fun w' hm=>hst _ _ hw hm.mod.below) (k:=?_)|refine Tc ?_|exact Tz)
 ·rw[hn]
  rcases hc with (e1|e1)|⟨e1,e2|e2⟩|⟨e1,e2,e3|e3⟩
  ·rw[e1] at hC1;refine Fn.enter Tryz.func96 rfl rfl rfl ?_;intro w hw
   repeat (first|refine Tw ?_|(refine Tm ?_;intro _)|exact Tz)
   refine WC.adraw 16 (k:=?_)
   repeat (first|refine Da ?_|refine DQ.acall (hc:=vS) (k:=?_)|refine DQ.acall (hc:=hC1) (k:=?_)|refine DQ.acall (hc:=hC2) (k:=?_)|refine DQ.acall (hc:=hC3) (k:=?_)|refine Dc ?_)
   refine DQ.anil (k:=?_);intro sx _
   repeat (first|refine Tw ?_|(refine Tm ?_;intro _)|exact Tz)
  ·rw[e1] at hC1;refine Fn.enter Tryz.func96 rfl rfl rfl ?_;intro w hw
   repeat (first|refine Tw ?_|(refine Tm ?_;intro _)|exact Tz)
   refine WC.adraw 16 (k:=?_)
   repeat (first|refine Da ?_|refine DQ.acall (hc:=vS) (k:=?_)|refine DQ.acall (hc:=hC1) (k:=?_)|refine DQ.acall (hc:=hC2) (k:=?_)|refine DQ.acall (hc:=hC3) (k:=?_)|refine Dc ?_)
   refine DQ.anil (k:=?_);intro sx _
   repeat (first|refine Tw ?_|(refine Tm ?_;intro _)|exact Tz)
  ·rw[e1] at hC1;rw[e2] at hC2;refine Fn.enter Tryz.func96 rfl rfl rfl ?_;intro w hw
   repeat (first|refine Tw ?_|(refine Tm ?_;intro _)|exact Tz)
   refine WC.adraw 16 (k:=?_)
   repeat (first|refine Da ?_|refine DQ.acall (hc:=vS) (k:=?_)|refine DQ.acall (hc:=hC1) (k:=?_)|refine DQ.acall (hc:=hC2) (k:=?_)|refine DQ.acall (hc:=hC3) (k:=?_)|refine Dc ?_)
   refine DQ.anil (k:=?_);intro sx _
   repeat (first|refine Tw ?_|(refine Tm ?_;intro _)|exact Tz)
  ·rw[e1] at hC1;rw[e2] at hC2;refine Fn.enter Tryz.func96 rfl rfl rfl ?_;intro w hw
   repeat (first|refine Tw ?_|(refine Tm ?_;intro _)|exact Tz)
   refine WC.adraw 16 (k:=?_)
   repeat (first|refine Da ?_|refine DQ.acall (hc:=vS) (k:=?_)|refine DQ.acall (hc:=hC1) (k:=?_)|refine DQ.acall (hc:=hC2) (k:=?_)|refine DQ.acall (hc:=hC3) (k:=?_)|refine Dc ?_)
   refine DQ.anil (k:=?_);intro sx _
   repeat (first|refine Tw ?_|(refine Tm ?_;intro _)|exact Tz)
  ·rw[e1] at hC1;rw[e2] at hC2;rw[e3] at hC3;refine Fn.enter Tryz.func96 rfl rfl rfl ?_;intro w hw
   repeat (first|refine Tw ?_|(refine Tm ?_;intro _)|exact Tz)
   refine WC.adraw 16 (k:=?_)
   repeat (first|refine Da ?_|refine DQ.acall (hc:=vS) (k:=?_)|refine DQ.acall (hc:=hC1) (k:=?_)|refine DQ.acall (hc:=hC2) (k:=?_)|refine DQ.acall (hc:=hC3) (k:=?_)|refine Dc ?_)
   refine DQ.anil (k:=?_);intro sx _
   repeat (first|refine Tw ?_|(refine Tm ?_;intro _)|exact Tz)
  ·rw[e1] at hC1;rw[e2] at hC2;rw[e3] at hC3;refine Fn.enter Tryz.func96 rfl rfl rfl ?_;intro w hw
   repeat (first|refine Tw ?_|(refine Tm ?_;intro _)|exact Tz)
   refine WC.adraw 16 (k:=?_)
   repeat (first|refine Da ?_|refine DQ.acall (hc:=vS) (k:=?_)|refine DQ.acall (hc:=hC1) (k:=?_)|refine DQ.acall (hc:=hC2) (k:=?_)|refine DQ.acall (hc:=hC3) (k:=?_)|refine Dc ?_)
   refine DQ.anil (k:=?_);intro sx _
   repeat (first|refine Tw ?_|(refine Tm ?_;intro _)|exact Tz)
theorem zG {a b m:Nat} (h:zK a b m=true):1<m∧a<m∧b<m:=by
 unfold zK at h;simp at h;exact⟨h.1.1,h.1.2,h.2⟩
abbrev rE (c:Bool) (r:Nat):Value:=.tuple #[ze (okV c r),.int .i64 (okE c)]
theorem abI (a b m:Nat) (ha:a<zc) (hb:b<zc) (hm:m<zc):Fn Tryz.prog 104 [ze a,ze b,ze m] Tr (Is (rE (zK a b m) ((a+b)%m))):=by
 have hO:=aba (f:=145) [] a b m ((a+b)%m) ha hb hm Tr zL.tr (fun h=>abA a b m (zG h).2.1 (zG h).2.2 hm);refine Fn.enter Tryz.func104 rfl rfl rfl ?_;intro w hw
 repeat (first|refine Ta ?_|(refine Tm ?_;intro _)|refine WO.acall (hc:=hO) (k:=?_)|refine Tc ?_|exact Tz)
theorem aas (a b m:Nat) (ha:a<zc) (hb:b<zc) (hm:m<zc):Fn Tryz.prog 106 [ze a,ze b,ze m] Tr (Is (rE (zK a b m) ((a+m - b)%m))):=by
 have hO:=aba (f:=147) [] a b m ((a+m - b)%m) ha hb hm Tr zL.tr (fun h=>abg a b m (zG h).2.1 (zG h).2.2 hm);refine Fn.enter Tryz.func106 rfl rfl rfl ?_;intro w hw
 repeat (first|refine Ta ?_|(refine Tm ?_;intro _)|refine WO.acall (hc:=hO) (k:=?_)|refine Tc ?_|exact Tz)
theorem aab (a b m:Nat) (ha:a<zc) (hb:b<zc) (hm:m<zc):Fn Tryz.prog 51 [ze a,ze b,ze m] Tr (Is (rE (zK a b m) (a*b%m))):=by
 have hO:=aba (f:=95) [] a b m (a*b%m) ha hb hm Tr zL.tr (fun h=>nW a b m (zG h).2.1 (zG h).2.2 hm);refine Fn.enter Tryz.func51 rfl rfl rfl ?_;intro w hw
 repeat (first|refine Ta ?_|(refine Tm ?_;intro _)|refine WO.acall (hc:=hO) (k:=?_)|refine Tc ?_|exact Tz)
def ej (n N k:Nat):Nat:=n / 2 ^ (N - k)
theorem qO {n N:Nat} (h:n<2 ^ N):ej n N 0=0:=Nat.div_eq_of_lt (by simpa using h)
theorem lm (n N:Nat):ej n N N=n:=by unfold ej;simp
theorem nD (n:Nat) {N k:Nat} (h:k<N):ej n N (k+1)=2*ej n N k+ud n (N - 1 - k):=by
 unfold ej ud;have e:N - k=(N - 1 - k)+1:=by omega
 have e2:N - (k+1)=N - 1 - k:=by omega
 rw[e2,e,Nat.pow_succ,← Nat.div_div_eq_div_mul];omega
theorem nC (a m t b:Nat) (hb:b=0∨b=1):a ^ (2*t+b)%m=if b=1 then (a ^ t%m*(a ^ t%m)%m)*a%m else a ^ t%m*(a ^ t%m)%m:=by
 have h1:a ^ (2*t)%m=a ^ t%m*(a ^ t%m)%m:=by rw[Nat.two_mul,Nat.pow_add,Nat.mul_mod]
 rcases hb with rfl|rfl
 ·simpa using h1
 ·rw[if_pos rfl,Nat.pow_succ,Nat.mul_mod,h1,Nat.mul_mod_mod]
theorem sL (a i:Nat):ud a i=0∨ud a i=1:=by unfold ud;omega
theorem uj (n:Nat):n<2 ^ zy n:=tj n
theorem nl {n:Nat} (h:n<zc):zy n≤256:=vh (by simpa [zc] using h)
theorem eB {f:Nat} [Cal Tryz.prog f] (caps:List Value) (a n m:Nat) (h1:1<m) (ha:a<m) (hn:n<zc) (hm:m<18446744073709551616) (R:World→Prop) (hst:zL R)
  (hf:∀ x y:Nat,x<m→y<m→Fn Tryz.prog f ([.int .u64 (x:Int),.int .u64 (y:Int)]++caps) R (Is (.int .u64 ((x*y%m:Nat):Int)))) :
  Fn Tryz.prog 114 [.int .u64 (a:Int),.int .u64 1,ze n,.func (.func f) #[] caps.toArray] R (Is (.int .u64 ((a ^ n%m:Nat):Int))):=by
 have hB:=rT n hn;have hlt:=uj n;have hN:=nl hn;have hbit:∀ i:Int,0≤i→i≤1000000→Fn Tryz.prog 152 [ze n,.int .i64 i] Tr (Is (.int .u64 (ud n i.toNat:Nat))):=fun i h0 h1=>abc n i hn h0 h1;have hend:=lm n (zy n);have hst0:=qO hlt;have hstep:=fun k (h:k<zy n)=>nD n h;generalize zy n=N at *;refine Fn.enter Tryz.func114 rfl rfl rfl ?_;intro w hw
 repeat (first|refine Ta ?_|(refine Tm ?_;intro _)|refine WO.acall (hc:=hB) (k:=?_)|refine Tc ?_|exact Tz)
 rename_i g6;refine WC.loopI (σ:=Nat × Nat) (fun s=>s.1≤N∧s.2=a ^ ej n N s.1%m) (fun s=>[(0,.int .u64 (a:Int)),(3,.func (.func f) #[] caps.toArray),(6,pt g6),(9,.int .u64 (s.2:Int)),(13,.int .i64 (N:Int)),(14,.int .i64 (s.1:Int))]) (fun s=>[⟨g6,24,zb n⟩]) (fun s=>N - s.1) (0,1) (fun s hs=>?_) ⟨Nat.zero_le _,by rw[hst0,Nat.pow_zero,Nat.mod_eq_of_lt h1]⟩;obtain⟨k,x⟩:=s;obtain⟨hk,hx⟩:=hs;dsimp only at hk hx ⊢;have hxm:x<m:=by rw[hx];exact Nat.mod_lt _ (by omega)
 by_cases hlt:(k:Int)<(N:Int)
 ·have hkN:k<N:=by omega
  have hsq:=hf x x hxm hxm;have hma:=hf (x*x%m) a (Nat.mod_lt _ (by omega)) ha;have hbt:=hbit ((N:Int) - 1 - (k:Int)) (by omega) (by omega);rw[show ((N:Int) - 1 - (k:Int)).toNat=N - 1 - k by omega] at hbt;have hp:=nC a m (ej n N k) (ud n (N - 1 - k)) (sL _ _);rw[← hstep k hkN,← hx] at hp
  repeat (first|refine Tw ?_|(refine Tm ?_;intro _)|exact Tz)
  refine WC.dT rfl hlt ?_
  repeat (first|refine Ta ?_|(refine Tm ?_;intro _)|refine WO.acallV (hc:=hsq) (hR:=fun w' hm=>hst _ _ hw hm.mod.below) (k:=?_)|refine Tc ?_|exact Tz)
  rcases sL n (N - 1 - k) with e|e
  ·rw[e] at hbt hp;refine WC.adraw 8 (k:=?_)
   repeat (first|refine Da ?_|refine DQ.acall (hc:=hB) (k:=?_)|refine DQ.acall (hc:=hbt) (k:=?_)|refine Dc ?_)
   refine DQ.anil (k:=?_);intro sx _
   repeat (first|refine Tw ?_|(refine Tm ?_;intro _)|exact Tz)
   refine WX.metI (k+1,x*x%m) (hs:=⟨⟨by omega,by simpa using hp.symm⟩,by simp only;omega⟩)
  ·rw[e] at hbt hp;refine WC.adraw 8 (k:=?_)
   repeat (first|refine Da ?_|refine DQ.acall (hc:=hB) (k:=?_)|refine DQ.acall (hc:=hbt) (k:=?_)|refine Dc ?_)
   refine DQ.anil (k:=?_);intro sx _
   repeat (first|refine Ta ?_|(refine Tm ?_;intro _)|refine WO.acallV (hc:=hma) (hR:=fun w' hm=>hst _ _ hw hm.mod.below) (k:=?_)|refine Tc ?_|exact Tz)
   refine WX.metI (k+1,x*x%m*a%m) (hs:=⟨⟨by omega,by simpa using hp.symm⟩,by simp only;omega⟩)
 ·have hkN:k=N:=by omega
  subst hkN;rw[hend] at hx;subst hx
  repeat (first|refine Tw ?_|(refine Tm ?_;intro _)|exact Tz)
  refine WC.dF rfl hlt ?_
  repeat (first|refine Tw ?_|(refine Tm ?_;intro _)|exact Tz)
end Sx
end
section
open Go Go.RowKit
namespace Sx
attribute [local irreducible] DQ DQS WC WO WX
theorem cH {f:Nat} [Cal Tryz.prog f] (caps:List Value) (a n m:Nat) (h1:1<m) (ha:a<m) (hn:n<zc) (R:World→Prop) (hst:zL R)
  (hf:∀ x y:Nat,x<m→y<m→Fn Tryz.prog f ([ze x,ze y]++caps) R (Is (ze (x*y%m)))) :
  Fn Tryz.prog 117 [ze a,ze 1,ze n,.func (.func f) #[] caps.toArray] R (Is (ze (a ^ n%m))):=by
 have hB:=rT n hn;have hlt:=uj n;have hN:=nl hn;have hbit:∀ i:Int,0≤i→i≤1000000→Fn Tryz.prog 152 [ze n,.int .i64 i] Tr (Is (.int .u64 (ud n i.toNat:Nat))):=fun i h0 h1=>abc n i hn h0 h1;have hend:=lm n (zy n);have hst0:=qO hlt;have hstep:=fun k (h:k<zy n)=>nD n h;generalize zy n=N at *;refine Fn.enter Tryz.func117 rfl rfl rfl ?_;intro w hw
 repeat (first|refine Ta ?_|(refine Tm ?_;intro _)|refine WO.acall (hc:=hB) (k:=?_)|refine Tc ?_|exact Tz)
 rename_i g4 g5 g6 g8 g9
 refine WC.loopI (σ:=Nat × Nat) (fun s=>s.1≤N∧s.2=a ^ ej n N s.1%m) (fun s=>[(3,.func (.func f) #[] caps.toArray),(4,pt g4),(6,pt g6),(8,pt g8),(9,pt g9),(13,.int .i64 (N:Int)),(14,.int .i64 (s.1:Int))])
  (fun s=>[⟨g4,24,zb a⟩,⟨g6,24,zb n⟩,⟨g8,24,zb 0⟩,⟨g9,24,zb s.2⟩]) (fun s=>N - s.1) (0,1) (fun s hs=>?_) ⟨Nat.zero_le _,by rw[hst0,Nat.pow_zero,Nat.mod_eq_of_lt h1]⟩
 obtain⟨k,x⟩:=s;obtain⟨hk,hx⟩:=hs;dsimp only at hk hx ⊢;have hxm:x<m:=by rw[hx];exact Nat.mod_lt _ (by omega)
 by_cases hlt:(k:Int)<(N:Int)
 ·have hkN:k<N:=by omega
  have hsq:=hf x x hxm hxm;have hma:=hf (x*x%m) a (Nat.mod_lt _ (by omega)) ha;have hbt:=hbit ((N:Int) - 1 - (k:Int)) (by omega) (by omega);rw[show ((N:Int) - 1 - (k:Int)).toNat=N - 1 - k by omega] at hbt;have hp:=nC a m (ej n N k) (ud n (N - 1 - k)) (sL _ _);rw[← hstep k hkN,← hx] at hp
  repeat (first|refine Tw ?_|(refine Tm ?_;intro _)|exact Tz)
  refine WC.dT rfl hlt ?_
  repeat (first|refine Ta ?_|(refine Tm ?_;intro _)|refine WO.acallV (hc:=hsq) (hR:=fun w' hm=>hst _ _ hw hm.mod.below) (k:=?_)|refine Tc ?_|exact Tz)
  rcases sL n (N - 1 - k) with e|e
  ·rw[e] at hbt hp;refine WC.adraw 8 (k:=?_)
   repeat (first|refine Da ?_|refine DQ.acall (hc:=hB) (k:=?_)|refine DQ.acall (hc:=hbt) (k:=?_)|refine Dc ?_)
   refine DQ.anil (k:=?_);intro sx _
   repeat (first|refine Tw ?_|(refine Tm ?_;intro _)|exact Tz)
   refine WX.metI (k+1,x*x%m) (hs:=⟨⟨by omega,by simpa using hp.symm⟩,by simp only;omega⟩)
  ·rw[e] at hbt hp;refine WC.adraw 8 (k:=?_)
   repeat (first|refine Da ?_|refine DQ.acall (hc:=hB) (k:=?_)|refine DQ.acall (hc:=hbt) (k:=?_)|refine Dc ?_)
   refine DQ.anil (k:=?_);intro sx _
   repeat (first|refine Ta ?_|(refine Tm ?_;intro _)|refine WO.acallV (hc:=hma) (hR:=fun w' hm=>hst _ _ hw hm.mod.below) (k:=?_)|refine Tc ?_|exact Tz)
   refine WX.metI (k+1,x*x%m*a%m) (hs:=⟨⟨by omega,by simpa using hp.symm⟩,by simp only;omega⟩)
 ·have hkN:k=N:=by omega
  subst hkN;rw[hend] at hx;subst hx
  repeat (first|refine Tw ?_|(refine Tm ?_;intro _)|exact Tz)
  refine WC.dF rfl hlt ?_
  repeat (first|refine Tw ?_|(refine Tm ?_;intro _)|exact Tz)
theorem aay (a b m g:Nat) (ha:a<m) (hb:b<m) (hm:m<18446744073709551616):Fn Tryz.prog 115 [.int .u64 (a:Int),.int .u64 (b:Int),pt g] (fun w=>Seg w g 0 (zb m)) (Is (.int .u64 ((a*b%m:Nat):Int))):=by
 have hW:=aa4 a b m ha hb hm;have e:wd 0 m=m:=Nat.mod_eq_of_lt hm;rw[← e] at hW;refine Fn.enter Tryz.func115 rfl rfl rfl ?_;intro w hw;rw[← e]
 repeat (first|refine Ta ?_|(refine Tm ?_;intro _)|refine WO.acall (hc:=hW) (k:=?_)|refine Tc ?_|exact Tz)
theorem az (a b m g:Nat) (ha:a<m) (hb:b<m) (hm:m<zc):Fn Tryz.prog 118 [ze a,ze b,pt g] (fun w=>Seg w g 0 (zb m)) (Is (ze (a*b%m))):=by
 have hW:=nW a b m ha hb hm;refine Fn.enter Tryz.func118 rfl rfl rfl ?_;intro w hw
 repeat (first|refine Ta ?_|(refine Tm ?_;intro _)|refine WO.acall (hc:=hW) (k:=?_)|refine Tc ?_|exact Tz)
theorem abG (a n m g:Nat) (h1:1<m) (ha:a<m) (hm:m<zc) (hn:n<zc):Fn Tryz.prog 113 [ze a,ze a,ze m,pt g] (fun w=>Seg w g 0 (zb n)) (Is (ze (a ^ n%m))):=by
 have hB:=rT m hm
 by_cases hs:m<18446744073709551616
 ·have hle:((zy m:Nat):Int)≤64:=by have:zy m≤64:=vh (by simpa using hs);omega
  have ea:wd 0 a=a:=Nat.mod_eq_of_lt (by omega)
  have hP:∀ g,Fn Tryz.prog 114 [.int .u64 ((wd 0 a:Nat):Int),.int .u64 1,ze n,.func (.func 115) #[] #[pt g]] (fun w=>Seg w g 0 (zb m)) (Is (.int .u64 ((a ^ n%m:Nat):Int))) :=
   fun g=>by rw[ea];exact eB [pt g] a n m h1 ha hn hs _ zL.seg (fun x y hx hy=>aay x y m g hx hy hs)
  have hO:=ab (a ^ n%m) (Nat.lt_trans (Nat.mod_lt _ (by omega)) hs);generalize zy m=N at *;refine Fn.enter Tryz.func113 rfl rfl rfl ?_;intro w hw
  repeat (first|refine Ta ?_|(refine Tm ?_;intro _)|refine WO.acall (hc:=hB) (k:=?_)|refine Tc ?_|exact Tz)
  refine WC.dT rfl hle ?_
  repeat (first|refine Ta ?_|(refine Tm ?_;intro _)|refine WO.acall (hc:=hO) (k:=?_)|refine WO.acallR (hc:=hP _) (hR:=fun w' hm=>Hs.sg hm) (k:=?_)|refine Tc ?_|exact Tz)
 ·have hle:¬ ((zy m:Nat):Int)≤64:=by
   intro h;have:zy m≤64:=by omega
   rw[yg] at this;exact hs (by simpa using this)
  have hP:∀ g,Fn Tryz.prog 117 [ze a,ze 1,ze n,.func (.func 118) #[] #[pt g]] (fun w=>Seg w g 0 (zb m)) (Is (ze (a ^ n%m))) :=
   fun g=>cH [pt g] a n m h1 ha hn _ zL.seg (fun x y hx hy=>az x y m g hx hy hm)
  generalize zy m=N at *;refine Fn.enter Tryz.func113 rfl rfl rfl ?_;intro w hw
  repeat (first|refine Ta ?_|(refine Tm ?_;intro _)|refine WO.acall (hc:=hB) (k:=?_)|refine Tc ?_|exact Tz)
  refine WC.dF rfl hle ?_
  repeat (first|refine Tw ?_|(refine Tm ?_;intro _)|exact Tz)
  refine WC.adraw 5 (k:=?_)
  repeat (first|refine Da ?_|refine DQ.acall (hc:=vS) (k:=?_)|refine DQ.acallR (hc:=hP _) (hR:=fun w' hm=>Hs.sg hm) (k:=?_)|refine Dc ?_)
  refine DQ.anil (k:=?_);intro sx _
  repeat (first|refine Tw ?_|(refine Tm ?_;intro _)|exact Tz)
theorem ack (a n m:Nat) (ha:a<zc) (hn:n<zc) (hm:m<zc):Fn Tryz.prog 67 [ze a,ze n,ze m] Tr (Is (rE (zK a a m) (a ^ n%m))):=by
 have hO:=fun g=>aba (f:=113) [pt g] a a m (a ^ n%m) ha ha hm _ zL.seg (fun h=>abG a n m g (zG h).1 (zG h).2.1 hm hn);refine Fn.enter Tryz.func67 rfl rfl rfl ?_;intro w hw
 repeat (first|refine Ta ?_|(refine Tm ?_;intro _)|refine WO.acallR (hc:=hO _) (hR:=fun w' hm=>Hs.sg hm) (k:=?_)|refine Tc ?_|exact Tz)
end Sx
end
section
namespace Sx
def jV (m r s x y:Nat):Nat:=if h:s≤1 then y else jV m s (r%s) y ((x+m - r / s*y%m)%m)
termination_by s
decreasing_by exact Nat.mod_lt _ (by omega)
def vU (a m:Nat):Nat:=if Nat.gcd a m=1 then jV m m a 0 1 else 0
theorem mh {a b m:Int} (h:m ∣ a - b):a%m=b%m:=by
 obtain⟨c,hc⟩:=h;have:a=b+m*c:=by omega
 rw[this,Int.add_mul_emod_self_left]
theorem mu {a b m:Int} (h:a%m=b%m):m ∣ a - b:=Int.dvd_of_emod_eq_zero (by rw[Int.sub_emod,h,Int.sub_self,Int.zero_emod])
theorem jC {a b m:Nat} (h:(m:Int) ∣ (a:Int) - (b:Int)):a%m=b%m:=by
 have:=mh h;rw[← Int.natCast_emod,← Int.natCast_emod] at this;exact Int.ofNat.inj this
theorem qV {a b m:Nat} (h:a%m=b%m):(m:Int) ∣ (a:Int) - (b:Int):=by
 apply mu;rw[← Int.natCast_emod,← Int.natCast_emod,h]
theorem dJ {a m r s x y:Nat} (hm:0<m) (h1:x*a%m=r%m) (h2:y*a%m=s%m):(x+m - r / s*y%m)%m*a%m=r%s%m:=by
 have ht:r / s*y%m<m:=Nat.mod_lt _ hm;have e1:r=s*(r / s)+r%s:=(Nat.div_add_mod r s).symm;have e2:r / s*y=m*(r / s*y / m)+r / s*y%m:=(Nat.div_add_mod _ m).symm;have e3:x+m - r / s*y%m=m*((x+m - r / s*y%m) / m)+(x+m - r / s*y%m)%m:=(Nat.div_add_mod _ m).symm;have d1:=qV h1;have d2:=qV h2;apply jC;generalize hz:(x+m - r / s*y%m)%m=z at *;generalize (x+m - r / s*y%m) / m=k at *;generalize hu:r / s*y%m=u at *;generalize r / s*y / m=l at *;generalize r / s=q at *;generalize r%s=p at *;obtain⟨c1,hc1⟩:=d1;obtain⟨c2,hc2⟩:=d2;have f3:(x:Int)+m - u=m*k+z:=by
  have:((x+m - u:Nat):Int)=((m*k+z:Nat):Int):=by rw[e3]
  rw[Int.ofNat_sub (by omega)] at this;push_cast at this;exact this
 have f2:(q:Int)*y=m*l+u:=by exact_mod_cast e2
 have f1:(r:Int)=s*q+p:=by exact_mod_cast e1
 push_cast at hc1 hc2 ⊢;refine⟨c1 - q*c2+a - k*a+l*a,?_⟩;have hz' : (z:Int)=x+m - (q*y - m*l) - m*k:=by omega
 have:(z:Int)*a - p=(x*a - r) - q*(y*a - s)+m*a+m*(l*a) - m*(k*a):=by
  rw[hz',f1];simp only[Int.sub_mul,Int.add_mul,Int.mul_sub,Int.mul_add,Int.mul_assoc,Int.mul_comm,Int.mul_left_comm];omega
 rw[this,hc1,hc2];simp only[Int.sub_mul,Int.add_mul,Int.mul_sub,Int.mul_add,Int.mul_assoc,Int.mul_comm,Int.mul_left_comm];omega
theorem km {m r x y:Nat}:jV m r 1 x y=y:=by unfold jV;simp
theorem ox {m r s x y:Nat} (h:1<s):jV m r s x y=jV m s (r%s) y ((x+m - r / s*y%m)%m):=by
 rw[jV];rw[dif_neg (by omega)]
theorem kj {r s:Nat} (hs:1<s) (hg:Nat.gcd r s=1):0<r%s:=by
 rcases Nat.eq_zero_or_pos (r%s) with h|h
 ·exfalso;have h1:s ∣ r:=Nat.dvd_of_mod_eq_zero h;have:Nat.gcd r s=s:=Nat.gcd_eq_right h1;omega
 ·exact h
theorem ka {r s:Nat} (hg:Nat.gcd r s=1):Nat.gcd s (r%s)=1:=by
 rw[Nat.gcd_comm s,← Nat.gcd_rec,Nat.gcd_comm];exact hg
theorem fR (m a:Nat) (hm:1<m):∀ (s r x y:Nat),0<s→Nat.gcd r s=1→x*a%m=r%m→y*a%m=s%m→y<m→jV m r s x y*a%m=1∧jV m r s x y<m:=by
 intro s
 induction s using Nat.strongRecOn with
 | _ s ih =>
  intro r x y hs hg h1 h2 hy
  by_cases e:s=1
  ·subst e;rw[km,h2,Nat.mod_eq_of_lt hm];exact⟨rfl,hy⟩
  ·rw[ox (by omega)];exact ih (r%s) (Nat.mod_lt _ hs) s y _ (kj (by omega) hg) (ka hg) h2 (dJ (by omega) h1 h2) (Nat.mod_lt _ (by omega))
theorem uy {m a:Nat} (hm:1<m) (ha:a<m) (hg:Nat.gcd a m=1):vU a m*a%m=1∧vU a m<m:=by
 unfold vU;rw[if_pos hg];have h0:0<a:=by
  rcases Nat.eq_zero_or_pos a with h|h
  ·subst h;rw[Nat.gcd_zero_left] at hg;omega
  ·exact h
 exact fR m a hm a m 0 1 h0 (by rw[Nat.gcd_comm];exact hg) (by simp) (by simp) hm
theorem aaE {m a:Nat} (hm:1<m) (ha:a<m) (hg:Nat.gcd a m=1):vU a m≠0:=by
 intro h;have:=(uy hm ha hg).1;rw[h] at this;simp at this
theorem mj {m a:Nat} (hg:Nat.gcd a m≠1):vU a m=0:=by unfold vU;rw[if_neg hg]
def ot (a m:Nat):Int:=if zK a a m then (if Nat.gcd a m=1 then 0 else 7) else 1
end Sx
end
section
open Go Go.RowKit
namespace Sx
attribute [local irreducible] DQ DQS WC WO WX wd
theorem acT {r s m:Nat} (hs:1<s) (hr:r≤m) (hm:1<m):r / s<m:=Nat.lt_of_le_of_lt (Nat.div_le_div_right hr) (Nat.div_lt_self (by omega) hs)
theorem abC (a m:Nat) (h1:1<m) (ha:a<m) (hm:m<zc):Fn Tryz.prog 110 [ze a,ze a,ze m] Tr (Is (ze (vU a m))):=by
 have haB:a<zc:=by omega
 have hG:=bm a m haB hm;have hgB:Nat.gcd a m<zc:=Nat.lt_of_le_of_lt (Nat.gcd_le_right _ (by omega)) hm
 by_cases hg:Nat.gcd a m=1
 ·have hne:¬ (Nat.gcd a m≠1):=fun h=>h hg;have hinv:vU a m=jV m m a 0 1:=by unfold vU;rw[if_pos hg]
  have h0:0<a:=by
   rcases Nat.eq_zero_or_pos a with h|h
   ·subst h;rw[Nat.gcd_zero_left] at hg;omega
   ·exact h
  have hgm:Nat.gcd m a=1:=by rw[Nat.gcd_comm];exact hg
  rw[hinv];refine Fn.enter Tryz.func110 rfl rfl rfl ?_;intro w hw
  repeat (first|refine Ta ?_|(refine Tm ?_;intro _)|refine WO.acall (hc:=hG) (k:=?_)|refine WO.acall (hc:=vS) (k:=?_)|refine Tc ?_|exact Tz)
  refine WC.dF rfl hne ?_
  repeat (first|refine Tw ?_|(refine Tm ?_;intro _)|exact Tz)
  rename_i g3 g4 g5 g6;refine WC.adrawS [1] [(1,[⟨g3,24,zb a⟩])] 8 (k:=?_)
  repeat (first|refine DQS.skip ?_|refine DQS.autoM (k:=?_)|refine DQS.acall (hc:=vS) (k:=?_)|refine DQS.acall (hc:=oS) (k:=?_)|refine DQS.autoH (k:=?_)|refine DQS.auto (k:=?_)|refine DQS.autoF (k:=?_)|refine DQS.does (fun s _=>yl) Dp.const ?_|refine DQS.does (fun s _=>vq) Dp.const ?_)
  refine DQS.anil (k:=?_);intro sx _
  repeat (first|refine WOS.autoS (kk:=?_)|refine WOS.auto (kk:=?_))
  refine WOS.nil ?_;refine WX.noPanic ?_;generalize sx 4 0=g7;generalize sx 5 0=g8;generalize sx 6 0=g9;generalize sx 7 0=g10
  repeat (first|refine Tw ?_|(refine Tm ?_;intro _)|exact Tz)
  refine WC.loopI (σ:=Nat × Nat × Nat × Nat) (fun s=>0<s.2.1∧s.2.1<s.1∧s.1≤m∧Nat.gcd s.1 s.2.1=1∧s.2.2.1<m∧s.2.2.2<m∧jV m s.1 s.2.1 s.2.2.1 s.2.2.2=jV m m a 0 1)
   (fun s=>[(5,pt g5),(6,pt g6),(7,pt g7),(8,pt g8),(9,pt g9),(10,pt g10)])
   (fun s=>[⟨g5,24,zb m⟩,⟨g6,24,zb 0⟩,⟨g7,24,zb s.1⟩,⟨g8,24,zb s.2.1⟩,⟨g9,24,zb s.2.2.1⟩,⟨g10,24,zb s.2.2.2⟩]) (fun s=>s.2.1) (m,a,0,1) (fun s hs=>?_) ⟨h0,ha,Nat.le_refl _,hgm,by show 0<m;omega,h1,rfl⟩
  obtain⟨r,s,x,y⟩:=s;obtain⟨hs0,hsr,hrm,hgc,hx,hy,heq⟩:=hs;dsimp only at hs0 hsr hrm hgc hx hy heq ⊢;have hsB:s<zc:=by omega
  by_cases hs1:s=1
  ·have hno:¬ (s≠1):=fun h=>h hs1;subst hs1;rw[km] at heq;rw[← heq]
   repeat (first|refine Tw ?_|(refine Tm ?_;intro _)|exact Tz)
   refine WC.adraw 3 (k:=?_)
   repeat (first|refine Da ?_|refine DQ.acall (hc:=vS) (k:=?_)|refine Dc ?_)
   refine DQ.anil (k:=?_);intro sx _
   repeat (first|refine Tw ?_|(refine Tm ?_;intro _)|exact Tz)
  ·have hD:=acp r s (by omega) hsB hs0;have hq:=acT (r:=r) (s:=s) (m:=m) (by omega) hrm h1;have hT:=nW (r / s) y m hq hy hm;have hS:=aas x (r / s*y%m) m (by omega) (Nat.lt_trans (Nat.mod_lt _ (by omega)) hm) hm;have hmay:zK x (r / s*y%m) m=true:=by unfold zK;simp[h1,hx,Nat.mod_lt _ (show 0<m by omega)]
   rw[hmay] at hS;have hnext:=ox (m:=m) (r:=r) (x:=x) (y:=y) (show 1<s by omega);have hpos:=kj (show 1<s by omega) hgc;have hlt:=Nat.mod_lt r hs0;have hgn:=ka hgc;have hz:(x+m - r / s*y%m)%m<m:=Nat.mod_lt _ (by omega);rw[heq] at hnext;generalize (x+m - r / s*y%m)%m=z at *;generalize r / s*y%m=u at *;generalize r / s=q at *;generalize r%s=p at *
   repeat (first|refine Tw ?_|(refine Tm ?_;intro _)|exact Tz)
   refine WC.adraw 3 (k:=?_)
   repeat (first|refine Da ?_|refine DQ.acall (hc:=vS) (k:=?_)|refine Dc ?_)
   refine DQ.anil (k:=?_);intro sx _
   repeat (first|refine Tw ?_|(refine Tm ?_;intro _)|exact Tz)
   refine WC.dT rfl hs1 ?_
   repeat (first|refine Ta ?_|(refine Tm ?_;intro _)|refine WO.acall (hc:=hD) (k:=?_)|refine Tc ?_|exact Tz)
   rename_i g11 g12;refine WC.adrawF [9] 11 (k:=?_)
   repeat (first|refine Da ?_|refine DQ.acall (hc:=hT) (k:=?_)|refine DQ.acall (hc:=hS) (k:=?_)|refine Df ?_)
   refine DQ.anil (k:=?_);intro sx _
   repeat (first|refine Tw ?_|(refine Tm ?_;intro _)|exact Tz)
   generalize sx 10 0=g14;refine WC.adrawS [1,2,3] [(1,[⟨g12,24,zb p⟩]),(2,[⟨g10,24,zb y⟩]),(3,[⟨g14,24,zb z⟩])] 4 (k:=?_)
   repeat (first|refine DQS.skip ?_|refine DQS.autoM (k:=?_)|refine DQS.autoH (k:=?_)|refine DQS.auto (k:=?_)|refine DQS.autoF (k:=?_)|refine DQS.does (fun s _=>yl) Dp.const ?_|refine DQS.does (fun s _=>vq) Dp.const ?_)
   refine DQS.anil (k:=?_);intro sx _
   repeat (first|refine WOS.autoS (kk:=?_)|refine WOS.auto (kk:=?_))
   refine WOS.nil ?_;refine WX.noPanic ?_
   repeat (first|refine Tw ?_|(refine Tm ?_;intro _)|exact Tz)
   refine WX.metI (s,p,y,z) (hs:=⟨⟨hpos,hlt,by omega,hgn,hy,hz,hnext.symm⟩,hlt⟩)
 ·have hinv:vU a m=0:=mj hg;rw[hinv];refine Fn.enter Tryz.func110 rfl rfl rfl ?_;intro w hw
  repeat (first|refine Ta ?_|(refine Tm ?_;intro _)|refine WO.acall (hc:=hG) (k:=?_)|refine WO.acall (hc:=vS) (k:=?_)|refine Tc ?_|exact Tz)
  refine WC.dT rfl hg ?_
  repeat (first|refine Tw ?_|(refine Tm ?_;intro _)|exact Tz)
theorem iu {a m:Nat} (h1:1<m) (ha:a<m):vU a m<m:=by
 by_cases hg:Nat.gcd a m=1
 ·exact (uy h1 ha hg).2
 ·rw[mj hg];omega
theorem acw (a m:Nat) (ha:a<zc) (hm:m<zc):Fn Tryz.prog 66 [ze a,ze m] Tr (Is (.tuple #[ze (okV (zK a a m) (vU a m)),.int .i64 (ot a m)])):=by
 have hO:=aba (f:=110) [] a a m (vU a m) ha ha hm Tr zL.tr (fun h=>abC a m (zG h).1 (zG h).2.1 hm);cases hy:zK a a m with
 | false =>
  have he:ot a m=1:=by unfold ot;rw[hy];rfl
  rw[hy] at hO;rw[he];refine Fn.enter Tryz.func66 rfl rfl rfl ?_;intro w hw
  repeat (first|refine Ta ?_|(refine Tm ?_;intro _)|refine WO.acall (hc:=hO) (k:=?_)|refine Tc ?_|exact Tz)
  refine WC.adraw 7 (k:=?_)
  repeat (first|refine Da ?_|refine DQ.acall (hc:=oS) (k:=?_)|refine Dc ?_)
  refine DQ.anil (k:=?_);intro sx _
  repeat (first|refine Tw ?_|(refine Tm ?_;intro _)|exact Tz)
 | true =>
  obtain⟨h1,h2,_⟩:=zG hy;have hB:vU a m<zc:=Nat.lt_trans (iu h1 h2) hm;rw[hy] at hO
  by_cases hg:Nat.gcd a m=1
  ·have he:ot a m=0:=by unfold ot;rw[hy,if_pos hg];rfl
   have hz:¬ vU a m=0:=aaE h1 h2 hg;rw[he];generalize vU a m=v at *;refine Fn.enter Tryz.func66 rfl rfl rfl ?_;intro w hw
   repeat (first|refine Ta ?_|(refine Tm ?_;intro _)|refine WO.acall (hc:=hO) (k:=?_)|refine Tc ?_|exact Tz)
   refine WC.adraw 7 (k:=?_)
   repeat (first|refine Da ?_|refine DQ.acall (hc:=oS) (k:=?_)|refine Dc ?_)
   refine DQ.anil (k:=?_);intro sx _
   repeat (first|refine Tw ?_|(refine Tm ?_;intro _)|exact Tz)
   refine WC.dF rfl hz ?_
   repeat (first|refine Tw ?_|(refine Tm ?_;intro _)|exact Tz)
  ·have he:ot a m=7:=by unfold ot;rw[hy,if_neg hg];rfl
   rw[he];rw[mj hg] at hO ⊢;refine Fn.enter Tryz.func66 rfl rfl rfl ?_;intro w hw
   repeat (first|refine Ta ?_|(refine Tm ?_;intro _)|refine WO.acall (hc:=hO) (k:=?_)|refine Tc ?_|exact Tz)
   refine WC.adraw 7 (k:=?_)
   repeat (first|refine Da ?_|refine DQ.acall (hc:=oS) (k:=?_)|refine Dc ?_)
   refine DQ.anil (k:=?_);intro sx _
   repeat (first|refine Tw ?_|(refine Tm ?_;intro _)|exact Tz)
abbrev vg (p q g h:Nat):List Value:=[.int .u64 ((wd 0 p:Nat):Int),.int .u64 ((wd 1 p:Nat):Int),.int .u64 ((wd 2 p:Nat):Int),.int .u64 ((wd 3 p:Nat):Int),.int .u64 ((wd 0 q:Nat):Int),.int .u64 ((wd 1 q:Nat):Int),.int .u64 ((wd 2 q:Nat):Int),.int .u64 ((wd 3 q:Nat):Int),.int .u64 ((wd 0 g:Nat):Int),.int .u64 ((wd 1 g:Nat):Int),.int .u64 ((wd 2 g:Nat):Int),.int .u64 ((wd 3 g:Nat):Int),.int .u64 ((wd 0 h:Nat):Int),.int .u64 ((wd 1 h:Nat):Int),.int .u64 ((wd 2 h:Nat):Int),.int .u64 ((wd 3 h:Nat):Int)]
abbrev yR (p q g h:Nat):Value:=.agg #[.int .u64 ((wd 0 p:Nat):Int),.int .u64 ((wd 1 p:Nat):Int),.int .u64 ((wd 2 p:Nat):Int),.int .u64 ((wd 3 p:Nat):Int),.int .u64 ((wd 0 q:Nat):Int),.int .u64 ((wd 1 q:Nat):Int),.int .u64 ((wd 2 q:Nat):Int),.int .u64 ((wd 3 q:Nat):Int),.int .u64 ((wd 0 g:Nat):Int),.int .u64 ((wd 1 g:Nat):Int),.int .u64 ((wd 2 g:Nat):Int),.int .u64 ((wd 3 g:Nat):Int),.int .u64 ((wd 0 h:Nat):Int),.int .u64 ((wd 1 h:Nat):Int),.int .u64 ((wd 2 h:Nat):Int),.int .u64 ((wd 3 h:Nat):Int)]
def yD (p a:Nat):Bool:=decide (1<p) && decide (a≠0) && decide (a<p)
theorem yF {p a:Nat} (h:yD p a=true):1<p∧a≠0∧a<p:=by
 unfold yD at h;simp at h;exact⟨h.1.1,h.1.2,h.2⟩
theorem gj {p a:Nat} (h:yD p a=true):zK a a p=true:=by
 obtain⟨h1,_,h3⟩:=yF h;simp[zK,h1,h3]
section
variable (p q g h:Nat)
theorem qt (a b:Nat) (ha:a<zc) (hb:b<zc) (hq:q<zc):Fn Tryz.prog 65 [yR p q g h,ze a,ze b] Tr (Is (rE (zK a b q) ((a+b)%q))):=by
 have hO:=abI a b q ha hb hq;refine Fn.enter Tryz.func65 rfl rfl rfl ?_;intro w hw
 repeat (first|refine Td ?_|(refine Tm ?_;intro _)|refine WO.acall (hc:=hO) (k:=?_)|refine Tc ?_|exact Tz)
theorem an (a b:Nat) (ha:a<zc) (hb:b<zc) (hq:q<zc):Fn Tryz.prog 79 [yR p q g h,ze a,ze b] Tr (Is (rE (zK a b q) ((a+q - b)%q))):=by
 have hO:=aas a b q ha hb hq;refine Fn.enter Tryz.func79 rfl rfl rfl ?_;intro w hw
 repeat (first|refine Td ?_|(refine Tm ?_;intro _)|refine WO.acall (hc:=hO) (k:=?_)|refine Tc ?_|exact Tz)
theorem iB (a b:Nat) (ha:a<zc) (hb:b<zc) (hq:q<zc):Fn Tryz.prog 77 [yR p q g h,ze a,ze b] Tr (Is (rE (zK a b q) (a*b%q))):=by
 have hO:=aab a b q ha hb hq;refine Fn.enter Tryz.func77 rfl rfl rfl ?_;intro w hw
 repeat (first|refine Td ?_|(refine Tm ?_;intro _)|refine WO.acall (hc:=hO) (k:=?_)|refine Tc ?_|exact Tz)
theorem iW (a:Nat) (ha:a<zc) (hq:q<zc):Fn Tryz.prog 29 [yR p q g h,ze a] Tr (Is (.tuple #[ze (okV (zK a a q) (vU a q)),.int .i64 (ot a q)])):=by
 have hO:=acw a q ha hq;refine Fn.enter Tryz.func29 rfl rfl rfl ?_;intro w hw
 repeat (first|refine Td ?_|(refine Tm ?_;intro _)|refine WO.acall (hc:=hO) (k:=?_)|refine Tc ?_|exact Tz)
theorem aaV (a:Nat) (ha:a<zc) (hp:p<zc):Fn Tryz.prog 50 [yR p q g h,ze a] Tr (Is (.bool (yD p a))):=by
 have hC1:=ng p 1 hp vi;have hC2:=ng a p ha hp
 by_cases h1:1<p
 ·rw[mT h1] at hC1
  by_cases h2:a=0
  ·have e:yD p a=false:=by simp[yD,h2]
   rw[e];refine Fn.enter Tryz.func50 rfl rfl rfl ?_;intro w hw
   repeat (first|refine Td ?_|(refine Tm ?_;intro _)|refine Tc ?_|exact Tz)
   refine WC.adraw 18 (k:=?_)
   repeat (first|refine DQ.decT (k:=?_)|refine DQ.decF (k:=?_)|refine Da ?_|refine DQ.acall (hc:=vS) (k:=?_)|refine DQ.acall (hc:=oS) (k:=?_)|refine DQ.acall (hc:=hC1) (k:=?_)|refine DQ.acall (hc:=hC2) (k:=?_)|refine Dc ?_)
   refine DQ.anil (k:=?_);intro sx _
   repeat (first|refine Td ?_|(refine Tm ?_;intro _)|refine Tc ?_|exact Tz)
  ·by_cases h3:a<p
   ·have e:yD p a=true:=by simp[yD,h1,h2,h3]
    rw[ir h3] at hC2;rw[e];refine Fn.enter Tryz.func50 rfl rfl rfl ?_;intro w hw
    repeat (first|refine Td ?_|(refine Tm ?_;intro _)|refine Tc ?_|exact Tz)
    refine WC.adraw 18 (k:=?_)
    repeat (first|refine DQ.decT (k:=?_)|refine DQ.decF (k:=?_)|refine Da ?_|refine DQ.acall (hc:=vS) (k:=?_)|refine DQ.acall (hc:=oS) (k:=?_)|refine DQ.acall (hc:=hC1) (k:=?_)|refine DQ.acall (hc:=hC2) (k:=?_)|refine Dc ?_)
    refine DQ.anil (k:=?_);intro sx _
    repeat (first|refine Td ?_|(refine Tm ?_;intro _)|refine Tc ?_|exact Tz)
   ·have e:yD p a=false:=by simp[yD,h3]
    have e2:uo a p=0∨uo a p=1:=by
     rcases Nat.lt_or_ge p a with h4|h4
     ·exact .inr (mT h4)
     ·exact .inl (j1 (by omega))
    rw[e]
    rcases e2 with e2|e2
    all_goals
     rw[e2] at hC2;refine Fn.enter Tryz.func50 rfl rfl rfl ?_;intro w hw
     repeat (first|refine Td ?_|(refine Tm ?_;intro _)|refine Tc ?_|exact Tz)
     refine WC.adraw 18 (k:=?_)
     repeat (first|refine DQ.decT (k:=?_)|refine DQ.decF (k:=?_)|refine Da ?_|refine DQ.acall (hc:=vS) (k:=?_)|refine DQ.acall (hc:=oS) (k:=?_)|refine DQ.acall (hc:=hC1) (k:=?_)|refine DQ.acall (hc:=hC2) (k:=?_)|refine Dc ?_)
     refine DQ.anil (k:=?_);intro sx _
     repeat (first|refine Td ?_|(refine Tm ?_;intro _)|refine Tc ?_|exact Tz)
 ·have e:yD p a=false:=by simp[yD,h1]
  have e2:uo p 1=0∨uo p 1 = -1:=by
   rcases Nat.lt_or_ge p 1 with h4|h4
   ·exact .inr (ir h4)
   ·exact .inl (j1 (by omega))
  rw[e]
  rcases e2 with e2|e2
  all_goals
   rw[e2] at hC1;refine Fn.enter Tryz.func50 rfl rfl rfl ?_;intro w hw
   repeat (first|refine Td ?_|(refine Tm ?_;intro _)|refine Tc ?_|exact Tz)
   refine WC.adraw 18 (k:=?_)
   repeat (first|refine DQ.decT (k:=?_)|refine DQ.decF (k:=?_)|refine Da ?_|refine DQ.acall (hc:=vS) (k:=?_)|refine DQ.acall (hc:=oS) (k:=?_)|refine DQ.acall (hc:=hC1) (k:=?_)|refine DQ.acall (hc:=hC2) (k:=?_)|refine Dc ?_)
   refine DQ.anil (k:=?_);intro sx _
   repeat (first|refine Td ?_|(refine Tm ?_;intro _)|refine Tc ?_|exact Tz)
theorem vo (a n:Nat) (ha:a<zc) (hn:n<zc) (hp:p<zc):Fn Tryz.prog 30 [yR p q g h,ze a,ze n] Tr (Is (rE (yD p a) (a ^ n%p))):=by
 have hM:=aaV p q g h a ha hp;cases hy:yD p a with
 | true =>
  have hE:=ack a n p ha hn hp;rw[gj hy] at hE;rw[hy] at hM;refine Fn.enter Tryz.func30 rfl rfl rfl ?_;intro w hw
  repeat (first|refine Td ?_|(refine Tm ?_;intro _)|refine WO.acall (hc:=hM) (k:=?_)|refine WO.acall (hc:=hE) (k:=?_)|refine Tc ?_|exact Tz)
 | false =>
  rw[hy] at hM;refine Fn.enter Tryz.func30 rfl rfl rfl ?_;intro w hw
  repeat (first|refine Td ?_|(refine Tm ?_;intro _)|refine WO.acall (hc:=hM) (k:=?_)|refine Tc ?_|exact Tz)
theorem af (a b:Nat) (ha:a<zc) (hb:b<zc) (hp:p<zc):Fn Tryz.prog 20 [yR p q g h,ze a,ze b] Tr (Is (rE (yD p a && yD p b) (a*b%p))):=by
 have hM1:=aaV p q g h a ha hp;have hM2:=aaV p q g h b hb hp;cases hy:yD p a with
 | true =>
  rw[hy] at hM1;cases hz:yD p b with
  | true =>
   rw[hz] at hM2;have hE:=aab a b p ha hb hp;have hm:zK a b p=true:=by
    obtain⟨h1,_,h3⟩:=yF hy;obtain⟨_,_,h4⟩:=yF hz;simp[zK,h1,h3,h4]
   rw[hm] at hE;refine Fn.enter Tryz.func20 rfl rfl rfl ?_;intro w hw
   repeat (first|refine Td ?_|(refine Tm ?_;intro _)|refine WO.acall (hc:=hM1) (k:=?_)|refine WO.acall (hc:=hM2) (k:=?_)|refine WO.acall (hc:=hE) (k:=?_)|refine Tc ?_|exact Tz)
  | false =>
   rw[hz] at hM2;refine Fn.enter Tryz.func20 rfl rfl rfl ?_;intro w hw
   repeat (first|refine Td ?_|(refine Tm ?_;intro _)|refine WO.acall (hc:=hM1) (k:=?_)|refine WO.acall (hc:=hM2) (k:=?_)|refine Tc ?_|exact Tz)
 | false =>
  rw[hy] at hM1;refine Fn.enter Tryz.func20 rfl rfl rfl ?_;intro w hw
  repeat (first|refine Td ?_|(refine Tm ?_;intro _)|refine WO.acall (hc:=hM1) (k:=?_)|refine WO.acall (hc:=hM2) (k:=?_)|refine Tc ?_|exact Tz)
def gIn (p q a:Nat):Bool:=yD p a && decide (a ^ q%p=1)
theorem tq (a:Nat) (ha:a<zc) (hp:p<zc) (hq:q<zc):Fn Tryz.prog 21 [yR p q g h,ze a] Tr (Is (.bool (gIn p q a))):=by
 have hE:=vo p q g h a q ha hq hp;cases hy:yD p a with
 | true =>
  rw[hy] at hE;have hB:a ^ q%p<zc:=Nat.lt_trans (Nat.mod_lt _ (by have:=yF hy;omega)) hp;have e:gIn p q a=decide (a ^ q%p=1):=by simp[gIn,hy]
  rw[e];generalize a ^ q%p=v at *;refine Fn.enter Tryz.func21 rfl rfl rfl ?_;intro w hw
  repeat (first|refine Td ?_|(refine Tm ?_;intro _)|refine WO.acall (hc:=hE) (k:=?_)|refine Tc ?_|exact Tz)
  by_cases hv:v=1
  ·rw[decide_eq_true hv];refine WC.adraw 8 (k:=?_)
   repeat (first|refine DQ.decT (k:=?_)|refine DQ.decF (k:=?_)|refine Da ?_|refine DQ.acall (hc:=vS) (k:=?_)|refine Dc ?_)
   refine DQ.anil (k:=?_);intro sx _
   repeat (first|refine Td ?_|(refine Tm ?_;intro _)|refine Tc ?_|exact Tz)
  ·rw[decide_eq_false hv];refine WC.adraw 8 (k:=?_)
   repeat (first|refine DQ.decT (k:=?_)|refine DQ.decF (k:=?_)|refine Da ?_|refine DQ.acall (hc:=vS) (k:=?_)|refine Dc ?_)
   refine DQ.anil (k:=?_);intro sx _
   repeat (first|refine Td ?_|(refine Tm ?_;intro _)|refine Tc ?_|exact Tz)
 | false =>
  have e:gIn p q a=false:=by simp[gIn,hy]
  rw[hy] at hE;rw[e];refine Fn.enter Tryz.func21 rfl rfl rfl ?_;intro w hw
  repeat (first|refine Td ?_|(refine Tm ?_;intro _)|refine WO.acall (hc:=hE) (k:=?_)|refine Tc ?_|exact Tz)
  refine WC.adraw 8 (k:=?_)
  repeat (first|refine DQ.decT (k:=?_)|refine DQ.decF (k:=?_)|refine Da ?_|refine DQ.acall (hc:=vS) (k:=?_)|refine Dc ?_)
  refine DQ.anil (k:=?_);intro sx _
  repeat (first|refine Td ?_|(refine Tm ?_;intro _)|refine Tc ?_|exact Tz)
end
end Sx
end
section
open Go Go.RowKit Go.BigFrame
namespace Sx
theorem iS (a q:Nat):Nat.gcd (a%q) q=Nat.gcd a q:=by
 rw[Nat.gcd_comm a q,Nat.gcd_rec q a]
def prM (q:Nat) (a:Nat) (ds:List Nat):Nat:=ds.foldl (fun a d=>a*d%q) a
def et (q:Nat) (ds:List Nat):Bool:=ds.all fun d=>decide (Nat.gcd d q=1)
theorem pq (q a:Nat) (ds:List Nat) (d:Nat):prM q a (ds++[d])=prM q a ds*d%q:=by unfold prM;rw[List.foldl_append];rfl
theorem oF {q a:Nat} (hq:0<q) (ha:a<q) (ds:List Nat):prM q a ds<q:=by
 rcases List.eq_nil_or_concat ds with rfl|⟨r,d,rfl⟩
 ·exact ha
 ·rw[List.concat_eq_append,pq];exact Nat.mod_lt _ hq
theorem dN {a b q:Nat}:Nat.gcd (a*b) q=1↔Nat.gcd a q=1∧Nat.gcd b q=1 :=
 ⟨fun h=>⟨Nat.Coprime.coprime_mul_right h,Nat.Coprime.coprime_mul_left h⟩,fun ⟨h1,h2⟩=>Nat.Coprime.mul_left h1 h2⟩
theorem pX (q:Nat):∀ (ds:List Nat) (a:Nat),Nat.gcd (prM q a ds) q=1↔(Nat.gcd a q=1∧et q ds=true)
 | [],a=>by simp[prM,et]
 | d::r,a=>by
  have ih:=pX q r (a*d%q);rw[iS,dN] at ih;show Nat.gcd (prM q (a*d%q) r) q=1↔_;rw[ih];simp[et,and_assoc]
def dif (q:Nat) (l:List Nat) (i x k:Nat):List Nat:=(List.range k).flatMap fun j=>if j=i then [] else [(x+q - l.getD j 0)%q]
theorem pN {q i x k:Nat} {l:List Nat} (h:k=i):dif q l i x (k+1)=dif q l i x k:=by unfold dif;rw[List.range_succ,List.flatMap_append];simp[h]
theorem q5 {q i x k v:Nat} {l:List Nat} (h:k≠i) (hv:l[k]?=some v):dif q l i x (k+1)=dif q l i x k++[(x+q - v)%q]:=by unfold dif;rw[List.range_succ,List.flatMap_append];simp[h,List.getD,hv]
theorem bS {q i x k:Nat} {l:List Nat} (hq:0<q):∀ d∈dif q l i x k,d<q:=by
 intro d hd;unfold dif at hd;obtain⟨j,_,hj⟩:=List.mem_flatMap.1 hd
 by_cases e:j=i
 ·rw[if_pos e] at hj;cases hj
 ·rw[if_neg e] at hj;rw[List.mem_singleton.1 hj];exact Nat.mod_lt _ hq
theorem mE {q i x k:Nat} {l:List Nat}:(dif q l i x k).length≤k:=by
 induction k with
 | zero=>simp[dif]
 | succ k ih =>
  unfold dif at *;rw[List.range_succ,List.flatMap_append,List.length_append];have:([k].flatMap fun j=>if j=i then [] else [(x+q - l.getD j 0)%q]).length≤1:=by
   simp only[List.flatMap_cons,List.flatMap_nil,List.append_nil]
   split<;>simp
  omega
structure rl (q:Nat) (l:List Nat):Prop where
 ne:l≠[]
 lt:∀ y∈l,y<q
 nd:l.Nodup
 len:l.length≤7
theorem dm {a q:Nat} (h1:1<q) (ha:a<q):vU a q<q:=by
 by_cases hg:Nat.gcd a q=1
 ·exact (uy h1 ha hg).2
 ·unfold vU;rw[if_neg hg];omega
def wtI (q:Nat) (l:List Nat) (i:Nat):Nat:=vU (prM q 1 (dif q l i (l.getD i 0) l.length)) q
def wtN (q:Nat) (l:List Nat) (x i:Nat):Nat:=prM q (wtI q l i) (dif q l i x l.length)
theorem ad {q:Nat} {l:List Nat} {i:Nat} (h1:1<q):wtI q l i<q:=dm h1 (oF (by omega) h1 _)
theorem abF {q:Nat} {l:List Nat} {x i:Nat} (h1:1<q):wtN q l x i<q:=oF (by omega) (ad h1) _
def wts (q:Nat) (l:List Nat) (x:Nat):List Nat:=(List.range l.length).map (wtN q l x)
end Sx
end
end Go.Proofs.YtbhblpnjhkddbaaGreat
