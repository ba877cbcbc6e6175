/- Part 23 of the proof. -/
import Derived.Test.YtiaibpcaloigkaaGreatDoorC17
set_option linter.unusedSimpArgs false
set_option linter.unusedVariables false
set_option maxHeartbeats 8000000
namespace Go.Proofs.YtiaibpcaloigkaaGreatDoor
section
open Go Go.RowKit
namespace Sx
attribute [local irreducible] DQ WC WO WX wd
theorem eX {a b:Nat} (h:a<b):uT a b = -1:=by unfold uT;rw[if_neg Om,if_pos h]
theorem jh {a b:Nat} (h:b<a):uT a b=1:=by unfold uT;rw[if_neg Om,if_neg Om]
theorem bf {a b:Nat} (h:a=b):uT a b=0:=by unfold uT;rw[if_pos h]
theorem fv {a b m:Nat} (ha:a<m) (hb:b<m) (hm:m<zd) :
  ((a+b) / zd=0∧bw ((a+b)%zd) m 0=1∧(a+b)%m=(a+b)%zd) ∨
  ((a+b) / zd=1∧(a+b)%m=((a+b)%zd+zd - m)%zd) ∨
  ((a+b) / zd=0∧bw ((a+b)%zd) m 0=0∧(a+b)%m=((a+b)%zd+zd - m)%zd):=by
 by_cases hc:a+b<zd
 ·have e:(a+b)%zd=a+b:=Nat.mod_eq_of_lt hc;rw[e];have e0:(a+b) / zd=0:=Nat.div_eq_of_lt hc
  by_cases h:a+b<m
  ·exact .inl ⟨e0,by simp[bw];omega,Nat.mod_eq_of_lt h⟩
  ·refine .inr (.inr ⟨e0,by simp[bw];omega,?_⟩);rw[Nat.mod_eq_sub_mod Om,Nat.mod_eq_of_lt Om,show a+b+zd - m=(a+b - m)+zd by omega,Nat.add_mod_right,Nat.mod_eq_of_lt Om]
 ·have e:(a+b)%zd=a+b - zd:=by rw[Nat.mod_eq_sub_mod Om,Nat.mod_eq_of_lt Om]
  refine .inr (.inl ⟨?_,?_⟩)
  ·rw[Nat.div_eq_iff zG];omega
  ·rw[e,Nat.mod_eq_sub_mod Om,Nat.mod_eq_of_lt Om,show a+b - zd+zd - m=a+b - m by omega,Nat.mod_eq_of_lt Om]
theorem eu {a b m:Nat} (ha:a<m) (hb:b<m) (hm:m<zd) :
  (bw a b 0=0∧(a+m - b)%m=(a+zd - b)%zd)∨(bw a b 0=1∧(a+m - b)%m=((a+zd - b)%zd+m)%zd):=by
 by_cases h:a<b
 ·refine .inr ⟨by simp[bw];omega,?_⟩;rw[Nat.mod_eq_of_lt (by omega:a+m - b<m),Nat.mod_eq_of_lt (by omega:a+zd - b<zd),show a+zd - b+m=(a+m - b)+zd by omega,Nat.add_mod_right,Nat.mod_eq_of_lt Om]
 ·refine .inl ⟨by simp[bw];omega,?_⟩;rw[show a+m - b=(a - b)+m by omega,Nat.add_mod_right,Nat.mod_eq_of_lt Om,show a+zd - b=(a - b)+zd by omega,Nat.add_mod_right,Nat.mod_eq_of_lt Om]
theorem agA (a b c:Nat):bw a b c=0∨bw a b c=1:=by unfold bw;split<;>simp
theorem afY (a b m:Nat) (ha:a<m) (hb:b<m) (hm:m<zd):Fn Tryz.prog 236 [zj a,zj b,zj m] Tr (Is (zj ((a+b)%m))):=by
 have hc:=fv ha hb hm;have hA:=ac1 a b Om Om;have hS:=acV ((a+b)%zd) m (Nat.mod_lt _ zG) hm;have hl:=agA ((a+b)%zd) m 0;generalize (a+b)%m=R at *;generalize (a+b) / zd=c at *;generalize ((a+b)%zd+zd - m)%zd=y at *;generalize bw ((a+b)%zd) m 0=l at *;generalize (a+b)%zd=X at *
 rcases hc with ⟨rfl,rfl,rfl⟩|⟨rfl,rfl⟩|⟨rfl,rfl,rfl⟩
 ·refine Fn.enter Tryz.func236 rfl rfl rfl ?_;intro w hw
  repeat (first|refine Tj ?_|intro _|refine WO.acall (hc:=hA) (k:=?_)|refine WO.acall (hc:=hS) (k:=?_)|refine Tc ?_|exact Tz)
 ·rcases hl with rfl|rfl
  all_goals
   refine Fn.enter Tryz.func236 rfl rfl rfl ?_;intro w hw
   repeat (first|refine Tj ?_|intro _|refine WO.acall (hc:=hA) (k:=?_)|refine WO.acall (hc:=hS) (k:=?_)|refine Tc ?_|exact Tz)
 ·refine Fn.enter Tryz.func236 rfl rfl rfl ?_;intro w hw
  repeat (first|refine Tj ?_|intro _|refine WO.acall (hc:=hA) (k:=?_)|refine WO.acall (hc:=hS) (k:=?_)|refine Tc ?_|exact Tz)
theorem agt (a b m:Nat) (ha:a<m) (hb:b<m) (hm:m<zd):Fn Tryz.prog 238 [zj a,zj b,zj m] Tr (Is (zj ((a+m - b)%m))):=by
 have hc:=eu ha hb hm;have hS:=acV a b Om Om;have hA:=ac1 ((a+zd - b)%zd) m (Nat.mod_lt _ zG) hm;generalize (a+m - b)%m=R at *;generalize ((a+zd - b)%zd+m) / zd=c at *;generalize ((a+zd - b)%zd+m)%zd=y at *;generalize bw a b 0=l at *;generalize (a+zd - b)%zd=X at *
 rcases hc with ⟨rfl,rfl⟩|⟨rfl,rfl⟩
 all_goals
  refine Fn.enter Tryz.func238 rfl rfl rfl ?_;intro w hw
  repeat (first|refine Tj ?_|intro _|refine WO.acall (hc:=hA) (k:=?_)|refine WO.acall (hc:=hS) (k:=?_)|refine Tc ?_|exact Tz)
def okE (c:Bool):Int:=if c then 0 else 1
def okV (c:Bool) (r:Nat):Nat:=if c then r else 0
def zR (a b m:Nat):Bool:=decide (1<m) && decide (a<m) && decide (b<m)
theorem fC (a b m:Nat):(1<m∧a<m∧b<m∧zR a b m=true∧uT m 1=1∧uT a m = -1∧uT b m = -1) ∨
  (zR a b m=false∧((uT m 1=0∨uT m 1 = -1)∨(uT m 1=1∧(uT a m=0∨uT a m=1))∨(uT m 1=1∧uT a m = -1∧(uT b m=0∨uT b m=1)))):=by
 unfold zR uT
 by_cases h1:1<m
 ·by_cases h2:a<m
  ·by_cases h3:b<m
   ·refine .inl ⟨h1,h2,h3,by simp[h1,h2,h3],?_,?_,?_⟩
    ·rw[if_neg Om,if_neg Om]
    ·rw[if_neg Om,if_pos h2]
    ·rw[if_neg Om,if_pos h3]
   ·refine .inr ⟨by simp[h3],.inr (.inr ⟨?_,?_,?_⟩)⟩
    ·rw[if_neg Om,if_neg Om]
    ·rw[if_neg Om,if_pos h2]
    ·by_cases e:b=m
     ·exact .inl (if_pos e)
     ·exact .inr (by rw[if_neg e,if_neg h3])
  ·refine .inr ⟨by simp[h2],.inr (.inl ⟨?_,?_⟩)⟩
   ·rw[if_neg Om,if_neg Om]
   ·by_cases e:a=m
    ·exact .inl (if_pos e)
    ·exact .inr (by rw[if_neg e,if_neg h2])
 ·refine .inr ⟨by simp[h1],.inl ?_⟩
  by_cases e:m=1
  ·exact .inl (if_pos e)
  ·exact .inr (by rw[if_neg e,if_pos Om])
theorem agT {f:Nat} [Cal Tryz.prog f] (caps:LV) (a b m r:Nat) (ha:a<zd) (hb:b<zd) (hm:m<zd) (R:World→Prop) (hst:zM R)
  (hf:zR a b m=true→Fn Tryz.prog f ([zj a,zj b,zj m]++caps) R (Is (zj r))) :
  Fn Tryz.prog 138 [.agg #[.func (.func f) #[] caps.toArray],zj a,zj b,zj m] R (Is (.tuple #[zj (okV (zR a b m) r),.int .i64 (okE (zR a b m))])):=by
 have hC1:=kh m 1 hm vb;have hC2:=kh a m ha hm;have hC3:=kh b m hb hm
 rcases fC a b m with ⟨h1,h2,h3,hy,e1,e2,e3⟩|⟨hn,hc⟩
 ·have hF:=hf hy;rw[hy];rw[e1] at hC1;rw[e2] at hC2;rw[e3] at hC3;refine Fn.enter Tryz.func138 rfl rfl rfl ?_;intro w hw
  repeat (first|refine Tk ?_|intro _|exact Tz)
  refine WC.adraw 16 (k:=?_)
  repeat (first|refine Da ?_|refine DQ.acall (hc:=ud) (k:=?_)|refine DQ.acall (hc:=hC1) (k:=?_)|refine DQ.acall (hc:=hC2) (k:=?_)|refine DQ.acall (hc:=hC3) (k:=?_)|refine Dc ?_)
  refine DQ.anil (k:=?_);intro sx _
  repeat (first|refine Tj ?_|intro _|refine WO.acallV (hc:=hF) (hR:=fun w' hm=>hst _ _ hw hm.mod.below) (k:=?_)|refine Tc ?_|exact Tz)
 ·rw[hn]
  rcases hc with (e1|e1)|⟨e1,e2|e2⟩|⟨e1,e2,e3|e3⟩
  ·rw[e1] at hC1;refine Fn.enter Tryz.func138 rfl rfl rfl ?_;intro w hw
   repeat (first|refine Tk ?_|intro _|exact Tz)
   refine WC.adraw 16 (k:=?_)
   repeat (first|refine Da ?_|refine DQ.acall (hc:=ud) (k:=?_)|refine DQ.acall (hc:=hC1) (k:=?_)|refine DQ.acall (hc:=hC2) (k:=?_)|refine DQ.acall (hc:=hC3) (k:=?_)|refine Dc ?_)
   refine DQ.anil (k:=?_);intro sx _
   repeat (first|refine Tk ?_|intro _|exact Tz)
  ·rw[e1] at hC1;refine Fn.enter Tryz.func138 rfl rfl rfl ?_;intro w hw
   repeat (first|refine Tk ?_|intro _|exact Tz)
   refine WC.adraw 16 (k:=?_)
   repeat (first|refine Da ?_|refine DQ.acall (hc:=ud) (k:=?_)|refine DQ.acall (hc:=hC1) (k:=?_)|refine DQ.acall (hc:=hC2) (k:=?_)|refine DQ.acall (hc:=hC3) (k:=?_)|refine Dc ?_)
   refine DQ.anil (k:=?_);intro sx _
   repeat (first|refine Tk ?_|intro _|exact Tz)
  ·rw[e1] at hC1;rw[e2] at hC2;refine Fn.enter Tryz.func138 rfl rfl rfl ?_;intro w hw
   repeat (first|refine Tk ?_|intro _|exact Tz)
   refine WC.adraw 16 (k:=?_)
   repeat (first|refine Da ?_|refine DQ.acall (hc:=ud) (k:=?_)|refine DQ.acall (hc:=hC1) (k:=?_)|refine DQ.acall (hc:=hC2) (k:=?_)|refine DQ.acall (hc:=hC3) (k:=?_)|refine Dc ?_)
   refine DQ.anil (k:=?_);intro sx _
   repeat (first|refine Tk ?_|intro _|exact Tz)
  ·rw[e1] at hC1;rw[e2] at hC2;refine Fn.enter Tryz.func138 rfl rfl rfl ?_;intro w hw
   repeat (first|refine Tk ?_|intro _|exact Tz)
   refine WC.adraw 16 (k:=?_)
   repeat (first|refine Da ?_|refine DQ.acall (hc:=ud) (k:=?_)|refine DQ.acall (hc:=hC1) (k:=?_)|refine DQ.acall (hc:=hC2) (k:=?_)|refine DQ.acall (hc:=hC3) (k:=?_)|refine Dc ?_)
   refine DQ.anil (k:=?_);intro sx _
   repeat (first|refine Tk ?_|intro _|exact Tz)
  ·rw[e1] at hC1;rw[e2] at hC2;rw[e3] at hC3;refine Fn.enter Tryz.func138 rfl rfl rfl ?_;intro w hw
   repeat (first|refine Tk ?_|intro _|exact Tz)
   refine WC.adraw 16 (k:=?_)
   repeat (first|refine Da ?_|refine DQ.acall (hc:=ud) (k:=?_)|refine DQ.acall (hc:=hC1) (k:=?_)|refine DQ.acall (hc:=hC2) (k:=?_)|refine DQ.acall (hc:=hC3) (k:=?_)|refine Dc ?_)
   refine DQ.anil (k:=?_);intro sx _
   repeat (first|refine Tk ?_|intro _|exact Tz)
  ·rw[e1] at hC1;rw[e2] at hC2;rw[e3] at hC3;refine Fn.enter Tryz.func138 rfl rfl rfl ?_;intro w hw
   repeat (first|refine Tk ?_|intro _|exact Tz)
   refine WC.adraw 16 (k:=?_)
   repeat (first|refine Da ?_|refine DQ.acall (hc:=ud) (k:=?_)|refine DQ.acall (hc:=hC1) (k:=?_)|refine DQ.acall (hc:=hC2) (k:=?_)|refine DQ.acall (hc:=hC3) (k:=?_)|refine Dc ?_)
   refine DQ.anil (k:=?_);intro sx _
   repeat (first|refine Tk ?_|intro _|exact Tz)
theorem zN {a b m:Nat} (h:zR a b m=true):1<m∧a<m∧b<m:=by
 unfold zR at h;simp at h;exact⟨h.1.1,h.1.2,h.2⟩
abbrev rE (c:Bool) (r:Nat):Value:=.tuple #[zj (okV c r),.int .i64 (okE c)]
theorem af2 (a b m:Nat) (ha:a<zd) (hb:b<zd) (hm:m<zd):Fn Tryz.prog 197 [zj a,zj b,zj m] Tr (Is (rE (zR a b m) ((a+b)%m))):=by
 have hO:=agT (f:=236) [] a b m ((a+b)%m) ha hb hm Tr zM.tr (fun h=>afY a b m (zN h).2.1 (zN h).2.2 hm);refine Fn.enter Tryz.func197 rfl rfl rfl ?_;intro w hw
 repeat (first|refine Tj ?_|intro _|refine WO.acall (hc:=hO) (k:=?_)|refine Tc ?_|exact Tz)
theorem ael (a b m:Nat) (ha:a<zd) (hb:b<zd) (hm:m<zd):Fn Tryz.prog 198 [zj a,zj b,zj m] Tr (Is (rE (zR a b m) ((a+m - b)%m))):=by
 have hO:=agT (f:=238) [] a b m ((a+m - b)%m) ha hb hm Tr zM.tr (fun h=>agt a b m (zN h).2.1 (zN h).2.2 hm);refine Fn.enter Tryz.func198 rfl rfl rfl ?_;intro w hw
 repeat (first|refine Tj ?_|intro _|refine WO.acall (hc:=hO) (k:=?_)|refine Tc ?_|exact Tz)
theorem aev (a b m:Nat) (ha:a<zd) (hb:b<zd) (hm:m<zd):Fn Tryz.prog 202 [zj a,zj b,zj m] Tr (Is (rE (zR a b m) (a*b%m))):=by
 have hO:=agT (f:=137) [] a b m (a*b%m) ha hb hm Tr zM.tr (fun h=>kU a b m (zN h).2.1 (zN h).2.2 hm);refine Fn.enter Tryz.func202 rfl rfl rfl ?_;intro w hw
 repeat (first|refine Tj ?_|intro _|refine WO.acall (hc:=hO) (k:=?_)|refine Tc ?_|exact Tz)
def aam (n N k:Nat):Nat:=n / 2 ^ (N - k)
theorem qQ {n N:Nat} (h:n<2 ^ N):aam n N 0=0:=Nat.div_eq_of_lt (by simpa using h)
theorem ic (n N:Nat):aam n N N=n:=by unfold aam;simp
theorem mD (n:Nat) {N k:Nat} (h:k<N):aam n N (k+1)=2*aam n N k+v6 n (N - 1 - k):=by
 unfold aam v6;have e:N - k=(N - 1 - k)+1:=by omega
 have e2:N - (k+1)=N - 1 - k:=by omega
 rw[e2,e,Nat.pow_succ,← Nat.div_div_eq_div_mul];omega
theorem mo (a m t b:Nat) (hb:b=0∨b=1):a ^ (2*t+b)%m=if b=1 then (a ^ t%m*(a ^ t%m)%m)*a%m else a ^ t%m*(a ^ t%m)%m:=by
 have h1:a ^ (2*t)%m=a ^ t%m*(a ^ t%m)%m:=by rw[Nat.two_mul,Nat.pow_add,Nat.mul_mod]
 rcases hb with rfl|rfl
 ·simpa using h1
 ·rw[if_pos rfl,Nat.pow_succ,Nat.mul_mod,h1,Nat.mul_mod_mod]
theorem rh (a i:Nat):v6 a i=0∨v6 a i=1:=by unfold v6;omega
theorem uJ (n:Nat):n<2 ^ zK n:=tw n
theorem lw {n:Nat} (h:n<zd):zK n≤256:=vc (by simpa [zd] using h)
theorem abd {f:Nat} [Cal Tryz.prog f] (caps:LV) (a n m:Nat) (h1:1<m) (ha:a<m) (hn:n<zd) (hm:m<18446744073709551616) (R:World→Prop) (hst:zM R)
  (hf:∀ x y:Nat,x<m→y<m→Fn Tryz.prog f ([.int .u64 (x:Int),.int .u64 (y:Int)]++caps) R (Is (.int .u64 ((x*y%m:Nat):Int)))) :
  Fn Tryz.prog 132 [.int .u64 (a:Int),.int .u64 1,zj n,.func (.func f) #[] caps.toArray] R (Is (.int .u64 ((a ^ n%m:Nat):Int))):=by
 have hB:=nS n hn;have hlt:=uJ n;have hN:=lw hn;have hbit:∀ i:Int,0≤i→i≤1000000→Fn Tryz.prog 182 [zj n,.int .i64 i] Tr (Is (.int .u64 (v6 n i.toNat:Nat))):=fun i h0 h1=>afO n i hn h0 h1;have hend:=ic n (zK n);have hst0:=qQ hlt;have hstep:=fun k (h:k<zK n)=>mD n h;generalize zK n=N at *;refine Fn.enter Tryz.func132 rfl rfl rfl ?_;intro w hw
 repeat (first|refine Tj ?_|intro _|refine WO.acall (hc:=hB) (k:=?_)|refine Tc ?_|exact Tz)
 rename_i g6;refine WC.loopI (σ:=Nat × Nat) (fun s=>s.1≤N∧s.2=a ^ aam n N s.1%m) (fun s=>[(0,.int .u64 (a:Int)),(3,.func (.func f) #[] caps.toArray),(6,pt g6),(9,.int .u64 (s.2:Int)),(13,.int .i64 (N:Int)),(14,.int .i64 (s.1:Int))]) (fun s=>[⟨g6,24,zc n⟩]) (fun s=>N - s.1) (0,1) (fun s hs=>?_) ⟨Nat.zero_le _,by rw[hst0,Nat.pow_zero,Nat.mod_eq_of_lt h1]⟩;obtain⟨k,x⟩:=s;obtain⟨hk,hx⟩:=hs;dsimp only at hk hx ⊢;have hxm:x<m:=by rw[hx];exact Nat.mod_lt _ Om
 by_cases hlt:(k:Int)<(N:Int)
 ·have hkN:k<N:=by omega
  have hsq:=hf x x hxm hxm;have hma:=hf (x*x%m) a (Nat.mod_lt _ Om) ha;have hbt:=hbit ((N:Int) - 1 - (k:Int)) Om Om;rw[show ((N:Int) - 1 - (k:Int)).toNat=N - 1 - k by omega] at hbt;have hp:=mo a m (aam n N k) (v6 n (N - 1 - k)) (rh _ _);rw[← hstep k hkN,← hx] at hp
  repeat (first|refine Tk ?_|intro _|exact Tz)
  refine WC.dT rfl hlt ?_
  repeat (first|refine Tj ?_|intro _|refine WO.acallV (hc:=hsq) (hR:=fun w' hm=>hst _ _ hw hm.mod.below) (k:=?_)|refine Tc ?_|exact Tz)
  rcases rh n (N - 1 - k) with e|e
  ·rw[e] at hbt hp;refine WC.adraw 8 (k:=?_)
   repeat (first|refine Da ?_|refine DQ.acall (hc:=hB) (k:=?_)|refine DQ.acall (hc:=hbt) (k:=?_)|refine Dc ?_)
   refine DQ.anil (k:=?_);intro sx _
   repeat (first|refine Tk ?_|intro _|exact Tz)
   refine WX.metI (k+1,x*x%m) (hs:=⟨⟨by omega,by simpa using hp.symm⟩,by simp only;omega⟩)
  ·rw[e] at hbt hp;refine WC.adraw 8 (k:=?_)
   repeat (first|refine Da ?_|refine DQ.acall (hc:=hB) (k:=?_)|refine DQ.acall (hc:=hbt) (k:=?_)|refine Dc ?_)
   refine DQ.anil (k:=?_);intro sx _
   repeat (first|refine Tj ?_|intro _|refine WO.acallV (hc:=hma) (hR:=fun w' hm=>hst _ _ hw hm.mod.below) (k:=?_)|refine Tc ?_|exact Tz)
   refine WX.metI (k+1,x*x%m*a%m) (hs:=⟨⟨by omega,by simpa using hp.symm⟩,by simp only;omega⟩)
 ·have hkN:k=N:=by omega
  subst hkN;rw[hend] at hx;subst hx
  repeat (first|refine Tk ?_|intro _|exact Tz)
  refine WC.dF rfl hlt ?_
  repeat (first|refine Tk ?_|intro _|exact Tz)
end Sx
end
section
open Go Go.RowKit
namespace Sx
attribute [local irreducible] DQ WC WO WX
theorem aaF {f:Nat} [Cal Tryz.prog f] (caps:LV) (a n m:Nat) (h1:1<m) (ha:a<m) (hn:n<zd) (R:World→Prop) (hst:zM R)
  (hf:∀ x y:Nat,x<m→y<m→Fn Tryz.prog f ([zj x,zj y]++caps) R (Is (zj (x*y%m)))) :
  Fn Tryz.prog 135 [zj a,zj 1,zj n,.func (.func f) #[] caps.toArray] R (Is (zj (a ^ n%m))):=by
 have hB:=nS n hn;have hlt:=uJ n;have hN:=lw hn;have hbit:∀ i:Int,0≤i→i≤1000000→Fn Tryz.prog 182 [zj n,.int .i64 i] Tr (Is (.int .u64 (v6 n i.toNat:Nat))):=fun i h0 h1=>afO n i hn h0 h1;have hend:=ic n (zK n);have hst0:=qQ hlt;have hstep:=fun k (h:k<zK n)=>mD n h;generalize zK n=N at *;refine Fn.enter Tryz.func135 rfl rfl rfl ?_;intro w hw
 repeat (first|refine Tj ?_|intro _|refine WO.acall (hc:=hB) (k:=?_)|refine Tc ?_|exact Tz)
 rename_i g4 g5 g6 g8 g9
 refine WC.loopI (σ:=Nat × Nat) (fun s=>s.1≤N∧s.2=a ^ aam n N s.1%m) (fun s=>[(3,.func (.func f) #[] caps.toArray),(4,pt g4),(6,pt g6),(8,pt g8),(9,pt g9),(13,.int .i64 (N:Int)),(14,.int .i64 (s.1:Int))])
  (fun s=>[⟨g4,24,zc a⟩,⟨g6,24,zc n⟩,⟨g8,24,zc 0⟩,⟨g9,24,zc s.2⟩]) (fun s=>N - s.1) (0,1) (fun s hs=>?_) ⟨Nat.zero_le _,by rw[hst0,Nat.pow_zero,Nat.mod_eq_of_lt h1]⟩
 obtain⟨k,x⟩:=s;obtain⟨hk,hx⟩:=hs;dsimp only at hk hx ⊢;have hxm:x<m:=by rw[hx];exact Nat.mod_lt _ Om
 by_cases hlt:(k:Int)<(N:Int)
 ·have hkN:k<N:=by omega
  have hsq:=hf x x hxm hxm;have hma:=hf (x*x%m) a (Nat.mod_lt _ Om) ha;have hbt:=hbit ((N:Int) - 1 - (k:Int)) Om Om;rw[show ((N:Int) - 1 - (k:Int)).toNat=N - 1 - k by omega] at hbt;have hp:=mo a m (aam n N k) (v6 n (N - 1 - k)) (rh _ _);rw[← hstep k hkN,← hx] at hp
  repeat (first|refine Tk ?_|intro _|exact Tz)
  refine WC.dT rfl hlt ?_
  repeat (first|refine Tj ?_|intro _|refine WO.acallV (hc:=hsq) (hR:=fun w' hm=>hst _ _ hw hm.mod.below) (k:=?_)|refine Tc ?_|exact Tz)
  rcases rh n (N - 1 - k) with e|e
  ·rw[e] at hbt hp;refine WC.adraw 8 (k:=?_)
   repeat (first|refine Da ?_|refine DQ.acall (hc:=hB) (k:=?_)|refine DQ.acall (hc:=hbt) (k:=?_)|refine Dc ?_)
   refine DQ.anil (k:=?_);intro sx _
   repeat (first|refine Tk ?_|intro _|exact Tz)
   refine WX.metI (k+1,x*x%m) (hs:=⟨⟨by omega,by simpa using hp.symm⟩,by simp only;omega⟩)
  ·rw[e] at hbt hp;refine WC.adraw 8 (k:=?_)
   repeat (first|refine Da ?_|refine DQ.acall (hc:=hB) (k:=?_)|refine DQ.acall (hc:=hbt) (k:=?_)|refine Dc ?_)
   refine DQ.anil (k:=?_);intro sx _
   repeat (first|refine Tj ?_|intro _|refine WO.acallV (hc:=hma) (hR:=fun w' hm=>hst _ _ hw hm.mod.below) (k:=?_)|refine Tc ?_|exact Tz)
   refine WX.metI (k+1,x*x%m*a%m) (hs:=⟨⟨by omega,by simpa using hp.symm⟩,by simp only;omega⟩)
 ·have hkN:k=N:=by omega
  subst hkN;rw[hend] at hx;subst hx
  repeat (first|refine Tk ?_|intro _|exact Tz)
  refine WC.dF rfl hlt ?_
  repeat (first|refine Tk ?_|intro _|exact Tz)
theorem afj (a b m g:Nat) (ha:a<m) (hb:b<m) (hm:m<18446744073709551616):Fn Tryz.prog 133 [.int .u64 (a:Int),.int .u64 (b:Int),pt g] (fun w=>Seg w g 0 (zc m)) (Is (.int .u64 ((a*b%m:Nat):Int))):=by
 have hW:=agr a b m ha hb hm;have e:wd 0 m=m:=Nat.mod_eq_of_lt hm;rw[← e] at hW;refine Fn.enter Tryz.func133 rfl rfl rfl ?_;intro w hw;rw[← e]
 repeat (first|refine Tj ?_|intro _|refine WO.acall (hc:=hW) (k:=?_)|refine Tc ?_|exact Tz)
theorem afp (a b m g:Nat) (ha:a<m) (hb:b<m) (hm:m<zd):Fn Tryz.prog 136 [zj a,zj b,pt g] (fun w=>Seg w g 0 (zc m)) (Is (zj (a*b%m))):=by
 have hW:=kU a b m ha hb hm;refine Fn.enter Tryz.func136 rfl rfl rfl ?_;intro w hw
 repeat (first|refine Tj ?_|intro _|refine WO.acall (hc:=hW) (k:=?_)|refine Tc ?_|exact Tz)
theorem agz (a n m g:Nat) (h1:1<m) (ha:a<m) (hm:m<zd) (hn:n<zd):Fn Tryz.prog 130 [zj a,zj a,zj m,pt g] (fun w=>Seg w g 0 (zc n)) (Is (zj (a ^ n%m))):=by
 have hB:=nS m hm
 by_cases hs:m<18446744073709551616
 ·have hle:((zK m:Nat):Int)≤64:=by have:zK m≤64:=vc (by simpa using hs);omega
  have ea:wd 0 a=a:=Nat.mod_eq_of_lt Om
  have hP:∀ g,Fn Tryz.prog 132 [.int .u64 ((wd 0 a:Nat):Int),.int .u64 1,zj n,.func (.func 133) #[] #[pt g]] (fun w=>Seg w g 0 (zc m)) (Is (.int .u64 ((a ^ n%m:Nat):Int))) :=
   fun g=>by rw[ea];exact abd [pt g] a n m h1 ha hn hs _ zM.seg (fun x y hx hy=>afj x y m g hx hy hs)
  have hO:=abR (a ^ n%m) (Nat.lt_trans (Nat.mod_lt _ Om) hs);generalize zK m=N at *;refine Fn.enter Tryz.func130 rfl rfl rfl ?_;intro w hw
  repeat (first|refine Tj ?_|intro _|refine WO.acall (hc:=hB) (k:=?_)|refine Tc ?_|exact Tz)
  refine WC.dT rfl hle ?_
  repeat (first|refine Tj ?_|intro _|refine WO.acall (hc:=hO) (k:=?_)|refine WO.acallR (hc:=hP _) (hR:=fun w' hm=>Hs.sg hm) (k:=?_)|refine Tc ?_|exact Tz)
 ·have hle:¬ ((zK m:Nat):Int)≤64:=by
   intro h;have:zK m≤64:=by omega
   rw[y6] at this;exact hs (by simpa using this)
  have hP:∀ g,Fn Tryz.prog 135 [zj a,zj 1,zj n,.func (.func 136) #[] #[pt g]] (fun w=>Seg w g 0 (zc m)) (Is (zj (a ^ n%m))) :=
   fun g=>aaF [pt g] a n m h1 ha hn _ zM.seg (fun x y hx hy=>afp x y m g hx hy hm)
  generalize zK m=N at *;refine Fn.enter Tryz.func130 rfl rfl rfl ?_;intro w hw
  repeat (first|refine Tj ?_|intro _|refine WO.acall (hc:=hB) (k:=?_)|refine Tc ?_|exact Tz)
  refine WC.dF rfl hle ?_
  repeat (first|refine Tk ?_|intro _|exact Tz)
  refine WC.adraw 5 (k:=?_)
  repeat (first|refine Da ?_|refine DQ.acall (hc:=ud) (k:=?_)|refine DQ.acallR (hc:=hP _) (hR:=fun w' hm=>Hs.sg hm) (k:=?_)|refine Dc ?_)
  refine DQ.anil (k:=?_);intro sx _
  repeat (first|refine Tk ?_|intro _|exact Tz)
theorem ahZ (a n m:Nat) (ha:a<zd) (hn:n<zd) (hm:m<zd):Fn Tryz.prog 62 [zj a,zj n,zj m] Tr (Is (rE (zR a a m) (a ^ n%m))):=by
 have hO:=fun g=>agT (f:=130) [pt g] a a m (a ^ n%m) ha ha hm _ zM.seg (fun h=>agz a n m g (zN h).1 (zN h).2.1 hm hn);refine Fn.enter Tryz.func62 rfl rfl rfl ?_;intro w hw
 repeat (first|refine Tj ?_|intro _|refine WO.acallR (hc:=hO _) (hR:=fun w' hm=>Hs.sg hm) (k:=?_)|refine Tc ?_|exact Tz)
end Sx
end
section
namespace Sx
def eA (m r s x y:Nat):Nat:=if h:s≤1 then y else eA m s (r%s) y ((x+m - r / s*y%m)%m)
termination_by s
decreasing_by exact Nat.mod_lt _ Om
def y7 (a m:Nat):Nat:=if Nat.gcd a m=1 then eA m m a 0 1 else 0
theorem ku {a b m:Int} (h:m ∣ a - b):a%m=b%m:=by
 obtain⟨c,hc⟩:=h;have:a=b+m*c:=by omega
 rw[this,Int.add_mul_emod_self_left]
theorem lY {a b m:Int} (h:a%m=b%m):m ∣ a - b:=Int.dvd_of_emod_eq_zero (by rw[Int.sub_emod,h,Int.sub_self,Int.zero_emod])
theorem fQ {a b m:Nat} (h:(m:Int) ∣ (a:Int) - (b:Int)):a%m=b%m:=by
 have:=ku h;rw[← Int.natCast_emod,← Int.natCast_emod] at this;exact Int.ofNat.inj this
theorem qO {a b m:Nat} (h:a%m=b%m):(m:Int) ∣ (a:Int) - (b:Int):=by
 apply lY;rw[← Int.natCast_emod,← Int.natCast_emod,h]
theorem acf {a m r s x y:Nat} (hm:0<m) (h1:x*a%m=r%m) (h2:y*a%m=s%m):(x+m - r / s*y%m)%m*a%m=r%s%m:=by
 have ht:r / s*y%m<m:=Nat.mod_lt _ hm;have e1:r=s*(r / s)+r%s:=(Nat.div_add_mod r s).symm;have e2:r / s*y=m*(r / s*y / m)+r / s*y%m:=(Nat.div_add_mod _ m).symm;have e3:x+m - r / s*y%m=m*((x+m - r / s*y%m) / m)+(x+m - r / s*y%m)%m:=(Nat.div_add_mod _ m).symm;have d1:=qO h1;have d2:=qO h2;apply fQ;generalize hz:(x+m - r / s*y%m)%m=z at *;generalize (x+m - r / s*y%m) / m=k at *;generalize hu:r / s*y%m=u at *;generalize r / s*y / m=l at *;generalize r / s=q at *;generalize r%s=p at *;obtain⟨c1,hc1⟩:=d1;obtain⟨c2,hc2⟩:=d2;have f3:(x:Int)+m - u=m*k+z:=by
  have:((x+m - u:Nat):Int)=((m*k+z:Nat):Int):=by rw[e3]
  rw[Int.ofNat_sub Om] at this;push_cast at this;exact this
 have f2:(q:Int)*y=m*l+u:=by exact_mod_cast e2
 have f1:(r:Int)=s*q+p:=by exact_mod_cast e1
 push_cast at hc1 hc2 ⊢;refine⟨c1 - q*c2+a - k*a+l*a,?_⟩;have hz' : (z:Int)=x+m - (q*y - m*l) - m*k:=by omega
 have:(z:Int)*a - p=(x*a - r) - q*(y*a - s)+m*a+m*(l*a) - m*(k*a):=by
  rw[hz',f1];simp only[Int.sub_mul,Int.add_mul,Int.mul_sub,Int.mul_add,Int.mul_assoc,Int.mul_comm,Int.mul_left_comm];omega
 rw[this,hc1,hc2];simp only[Int.sub_mul,Int.add_mul,Int.mul_sub,Int.mul_add,Int.mul_assoc,Int.mul_comm,Int.mul_left_comm];omega
theorem jK {m r x y:Nat}:eA m r 1 x y=y:=by unfold eA;simp
theorem lD {m r s x y:Nat} (h:1<s):eA m r s x y=eA m s (r%s) y ((x+m - r / s*y%m)%m):=by
 rw[eA];rw[dif_neg Om]
theorem ig {r s:Nat} (hs:1<s) (hg:Nat.gcd r s=1):0<r%s:=by
 rcases Nat.eq_zero_or_pos (r%s) with h|h
 ·exfalso;have h1:s ∣ r:=Nat.dvd_of_mod_eq_zero h;have:Nat.gcd r s=s:=Nat.gcd_eq_right h1;omega
 ·exact h
theorem jB {r s:Nat} (hg:Nat.gcd r s=1):Nat.gcd s (r%s)=1:=by
 rw[Nat.gcd_comm s,← Nat.gcd_rec,Nat.gcd_comm];exact hg
theorem cG (m a:Nat) (hm:1<m):∀ (s r x y:Nat),0<s→Nat.gcd r s=1→x*a%m=r%m→y*a%m=s%m→y<m→eA m r s x y*a%m=1∧eA m r s x y<m:=by
 intro s
 induction s using Nat.strongRecOn with
 | _ s ih =>
  intro r x y hs hg h1 h2 hy
  by_cases e:s=1
  ·subst e;rw[jK,h2,Nat.mod_eq_of_lt hm];exact⟨rfl,hy⟩
  ·rw[lD Om];exact ih (r%s) (Nat.mod_lt _ hs) s y _ (ig Om hg) (jB hg) h2 (acf Om h1 h2) (Nat.mod_lt _ Om)
theorem vP {m a:Nat} (hm:1<m) (ha:a<m) (hg:Nat.gcd a m=1):y7 a m*a%m=1∧y7 a m<m:=by
 unfold y7;rw[if_pos hg];have h0:0<a:=by
  rcases Nat.eq_zero_or_pos a with h|h
  ·subst h;rw[Nat.gcd_zero_left] at hg;omega
  ·exact h
 exact cG m a hm a m 0 1 h0 (by rw[Nat.gcd_comm];exact hg) Sm Sm hm
theorem ad7 {m a:Nat} (hm:1<m) (ha:a<m) (hg:Nat.gcd a m=1):y7 a m≠0:=by
 intro h;have:=(vP hm ha hg).1;rw[h] at this;simp at this
theorem kF {m a:Nat} (hg:Nat.gcd a m≠1):y7 a m=0:=by unfold y7;rw[if_neg hg]
def qk (a m:Nat):Int:=if zR a a m then (if Nat.gcd a m=1 then 0 else 7) else 1
end Sx
end
section
open Go Go.RowKit
namespace Sx
attribute [local irreducible] DQ WC WO WT WX wd
theorem ail {r s m:Nat} (hs:1<s) (hr:r≤m) (hm:1<m):r / s<m:=Nat.lt_of_le_of_lt (Nat.div_le_div_right hr) (Nat.div_lt_self Om hs)
theorem afK (a m:Nat) (h1:1<m) (ha:a<m) (hm:m<zd):Fn Tryz.prog 213 [zj a,zj a,zj m] Tr (Is (zj (y7 a m))):=by
 have haB:a<zd:=by omega
 have hG:=abM a m haB hm;have hgB:Nat.gcd a m<zd:=Nat.lt_of_le_of_lt (Nat.gcd_le_right _ Om) hm
 by_cases hg:Nat.gcd a m=1
 ·have hne:¬ (Nat.gcd a m≠1):=fun h=>h hg;have hinv:y7 a m=eA m m a 0 1:=by unfold y7;rw[if_pos hg]
  have h0:0<a:=by
   rcases Nat.eq_zero_or_pos a with h|h
   ·subst h;rw[Nat.gcd_zero_left] at hg;omega
   ·exact h
  have hgm:Nat.gcd m a=1:=by rw[Nat.gcd_comm];exact hg
  rw[hinv];refine Fn.enter Tryz.func213 rfl rfl rfl ?_;intro w hw
  repeat (first|refine Tj ?_|intro _|refine WO.acall (hc:=hG) (k:=?_)|refine WO.acall (hc:=ud) (k:=?_)|refine Tc ?_|exact Tz)
  refine WC.dF rfl hne ?_
  repeat (first|refine Tk ?_|intro _|exact Tz)
  rename_i g3 g4 g5 g6;refine WC.mainA [4,5,6,7,8,9,10,11] [(0,zj m),(1,zj a),(2,zj 0),(3,zj 1)] Dt (fun A hA=>?_);refine WT.given [(3,pt g3),(5,pt g5),(6,pt g6)] [⟨g3,24,zc a⟩,⟨g5,24,zc m⟩] Kr (Tlv.a (Tlv.a (Tlv.call nT (fun _ _=>trivial) (Tlv.call ud (fun _ _=>trivial) (Tlv.nil))))) (fun hc hT=>?_)
  suffices hS4080:∀ q4 q5 q6 q7,A [11,10,9,8,7,6,5,4] [(7,pt q4),(8,pt q5),(9,pt q6),(10,pt q7),(3,pt g3),(5,pt g5),(6,pt g6)] [⟨q4,24,zc m⟩,⟨q5,24,zc a⟩,⟨q6,24,zc 0⟩,⟨q7,24,zc 1⟩,⟨g3,24,zc a⟩,⟨g5,24,zc m⟩,⟨g6,24,zc 0⟩] by
   have hS2032:∀ q4 q5 q6 q7,A [10,9,8,7,6,5,4] [(7,pt q4),(8,pt q5),(9,pt q6),(10,pt q7),(3,pt g3),(5,pt g5),(6,pt g6)] [⟨q4,24,zc m⟩,⟨q5,24,zc a⟩,⟨q6,24,zc 0⟩,⟨q7,24,zc 0⟩,⟨g3,24,zc a⟩,⟨g5,24,zc m⟩,⟨g6,24,zc 0⟩]:=by
    intro q4 q5 q6 q7;refine (hA _ _ _).2 (WT.step [11] Dt hc hT ⟨⟨_,rfl,?_⟩,trivial⟩)
    ·refine Tw ?_;exact WT.go [] hA (hS4080 q4 q5 q6 q7)
   have hS1008:∀ q4 q5 q6 q7,A [9,8,7,6,5,4] [(7,pt q4),(8,pt q5),(9,pt q6),(10,pt q7),(3,pt g3),(5,pt g5),(6,pt g6)] [⟨q4,24,zc m⟩,⟨q5,24,zc a⟩,⟨q6,24,zc 0⟩,⟨q7,24,zc 0⟩,⟨g3,24,zc a⟩,⟨g5,24,zc m⟩,⟨g6,24,zc 0⟩]:=by
    intro q4 q5 q6 q7;refine (hA _ _ _).2 (WT.step [10] Dt hc hT ⟨⟨_,rfl,?_⟩,trivial⟩)
    ·refine Tw ?_;exact WT.go [] hA (hS2032 q4 q5 q6 q7)
   have hS496:∀ q4 q5 q6 q7,A [8,7,6,5,4] [(7,pt q4),(8,pt q5),(9,pt q6),(10,pt q7),(3,pt g3),(5,pt g5),(6,pt g6)] [⟨q4,24,zc m⟩,⟨q5,24,zc 0⟩,⟨q6,24,zc 0⟩,⟨q7,24,zc 0⟩,⟨g3,24,zc a⟩,⟨g5,24,zc m⟩,⟨g6,24,zc 0⟩]:=by
    intro q4 q5 q6 q7;refine (hA _ _ _).2 (WT.step [9] Dt hc hT ⟨⟨_,rfl,?_⟩,trivial⟩)
    ·refine Tw ?_;exact WT.go [] hA (hS1008 q4 q5 q6 q7)
   have hS240:∀ q4 q5 q6 q7,A [7,6,5,4] [(7,pt q4),(8,pt q5),(9,pt q6),(10,pt q7),(3,pt g3),(5,pt g5),(6,pt g6)] [⟨q4,24,zc 0⟩,⟨q5,24,zc 0⟩,⟨q6,24,zc 0⟩,⟨q7,24,zc 0⟩,⟨g3,24,zc a⟩,⟨g5,24,zc m⟩,⟨g6,24,zc 0⟩]:=by
    intro q4 q5 q6 q7;refine (hA _ _ _).2 (WT.step [8] Dt hc hT ⟨⟨_,rfl,?_⟩,trivial⟩)
    ·refine Tw ?_;exact WT.go [] hA (hS496 q4 q5 q6 q7)
   have hS112:∀ q4 q5 q6,A [6,5,4] [(7,pt q4),(8,pt q5),(9,pt q6),(3,pt g3),(5,pt g5),(6,pt g6)] [⟨q4,24,zc 0⟩,⟨q5,24,zc 0⟩,⟨q6,24,zc 0⟩,⟨g3,24,zc a⟩,⟨g5,24,zc m⟩,⟨g6,24,zc 0⟩]:=by
    intro q4 q5 q6;refine (hA _ _ _).2 (WT.step [7] Dt hc hT ⟨⟨_,rfl,?_⟩,trivial⟩)
    ·(refine WO.autoM (k:=?_);intro q7);exact WT.go [(10,pt q7)] hA (hS240 q4 q5 q6 q7)
   have hS176:∀ q4 q5 q7,A [7,5,4] [(7,pt q4),(8,pt q5),(10,pt q7),(3,pt g3),(5,pt g5),(6,pt g6)] [⟨q4,24,zc 0⟩,⟨q5,24,zc 0⟩,⟨q7,24,zc 0⟩,⟨g3,24,zc a⟩,⟨g5,24,zc m⟩,⟨g6,24,zc 0⟩]:=by
    intro q4 q5 q7;refine (hA _ _ _).2 (WT.step [6] Dt hc hT ⟨⟨_,rfl,?_⟩,trivial⟩)
    ·(refine WO.autoM (k:=?_);intro q6);exact WT.go [(9,pt q6)] hA (hS240 q4 q5 q6 q7)
   have hS208:∀ q4 q6 q7,A [7,6,4] [(7,pt q4),(9,pt q6),(10,pt q7),(3,pt g3),(5,pt g5),(6,pt g6)] [⟨q4,24,zc 0⟩,⟨q6,24,zc 0⟩,⟨q7,24,zc 0⟩,⟨g3,24,zc a⟩,⟨g5,24,zc m⟩,⟨g6,24,zc 0⟩]:=by
    intro q4 q6 q7;refine (hA _ _ _).2 (WT.step [5] Dt hc hT ⟨⟨_,rfl,?_⟩,trivial⟩)
    ·(refine WO.autoM (k:=?_);intro q5);exact WT.go [(8,pt q5)] hA (hS240 q4 q5 q6 q7)
   have hS224:∀ q5 q6 q7,A [7,6,5] [(8,pt q5),(9,pt q6),(10,pt q7),(3,pt g3),(5,pt g5),(6,pt g6)] [⟨q5,24,zc 0⟩,⟨q6,24,zc 0⟩,⟨q7,24,zc 0⟩,⟨g3,24,zc a⟩,⟨g5,24,zc m⟩,⟨g6,24,zc 0⟩]:=by
    intro q5 q6 q7;refine (hA _ _ _).2 (WT.step [4] Dt hc hT ⟨⟨_,rfl,?_⟩,trivial⟩)
    ·(refine WO.autoM (k:=?_);intro q4);exact WT.go [(7,pt q4)] hA (hS240 q4 q5 q6 q7)
   have hS48:∀ q4 q5,A [5,4] [(7,pt q4),(8,pt q5),(3,pt g3),(5,pt g5),(6,pt g6)] [⟨q4,24,zc 0⟩,⟨q5,24,zc 0⟩,⟨g3,24,zc a⟩,⟨g5,24,zc m⟩,⟨g6,24,zc 0⟩]:=by
    intro q4 q5;refine (hA _ _ _).2 (WT.step [6,7] Dt hc hT ⟨⟨_,rfl,?_⟩,⟨_,rfl,?_⟩,trivial⟩)
    ·(refine WO.autoM (k:=?_);intro q6);exact WT.go [(9,pt q6)] hA (hS112 q4 q5 q6)
    ·(refine WO.autoM (k:=?_);intro q7);exact WT.go [(10,pt q7)] hA (hS176 q4 q5 q7)
   have hS80:∀ q4 q6,A [6,4] [(7,pt q4),(9,pt q6),(3,pt g3),(5,pt g5),(6,pt g6)] [⟨q4,24,zc 0⟩,⟨q6,24,zc 0⟩,⟨g3,24,zc a⟩,⟨g5,24,zc m⟩,⟨g6,24,zc 0⟩]:=by
    intro q4 q6;refine (hA _ _ _).2 (WT.step [5,7] Dt hc hT ⟨⟨_,rfl,?_⟩,⟨_,rfl,?_⟩,trivial⟩)
    ·(refine WO.autoM (k:=?_);intro q5);exact WT.go [(8,pt q5)] hA (hS112 q4 q5 q6)
    ·(refine WO.autoM (k:=?_);intro q7);exact WT.go [(10,pt q7)] hA (hS208 q4 q6 q7)
   have hS144:∀ q4 q7,A [7,4] [(7,pt q4),(10,pt q7),(3,pt g3),(5,pt g5),(6,pt g6)] [⟨q4,24,zc 0⟩,⟨q7,24,zc 0⟩,⟨g3,24,zc a⟩,⟨g5,24,zc m⟩,⟨g6,24,zc 0⟩]:=by
    intro q4 q7;refine (hA _ _ _).2 (WT.step [5,6] Dt hc hT ⟨⟨_,rfl,?_⟩,⟨_,rfl,?_⟩,trivial⟩)
    ·(refine WO.autoM (k:=?_);intro q5);exact WT.go [(8,pt q5)] hA (hS176 q4 q5 q7)
    ·(refine WO.autoM (k:=?_);intro q6);exact WT.go [(9,pt q6)] hA (hS208 q4 q6 q7)
   have hS96:∀ q5 q6,A [6,5] [(8,pt q5),(9,pt q6),(3,pt g3),(5,pt g5),(6,pt g6)] [⟨q5,24,zc 0⟩,⟨q6,24,zc 0⟩,⟨g3,24,zc a⟩,⟨g5,24,zc m⟩,⟨g6,24,zc 0⟩]:=by
    intro q5 q6;refine (hA _ _ _).2 (WT.step [4,7] Dt hc hT ⟨⟨_,rfl,?_⟩,⟨_,rfl,?_⟩,trivial⟩)
    ·(refine WO.autoM (k:=?_);intro q4);exact WT.go [(7,pt q4)] hA (hS112 q4 q5 q6)
    ·(refine WO.autoM (k:=?_);intro q7);exact WT.go [(10,pt q7)] hA (hS224 q5 q6 q7)
   have hS160:∀ q5 q7,A [7,5] [(8,pt q5),(10,pt q7),(3,pt g3),(5,pt g5),(6,pt g6)] [⟨q5,24,zc 0⟩,⟨q7,24,zc 0⟩,⟨g3,24,zc a⟩,⟨g5,24,zc m⟩,⟨g6,24,zc 0⟩]:=by
    intro q5 q7;refine (hA _ _ _).2 (WT.step [4,6] Dt hc hT ⟨⟨_,rfl,?_⟩,⟨_,rfl,?_⟩,trivial⟩)
    ·(refine WO.autoM (k:=?_);intro q4);exact WT.go [(7,pt q4)] hA (hS176 q4 q5 q7)
    ·(refine WO.autoM (k:=?_);intro q6);exact WT.go [(9,pt q6)] hA (hS224 q5 q6 q7)
   have hS192:∀ q6 q7,A [7,6] [(9,pt q6),(10,pt q7),(3,pt g3),(5,pt g5),(6,pt g6)] [⟨q6,24,zc 0⟩,⟨q7,24,zc 0⟩,⟨g3,24,zc a⟩,⟨g5,24,zc m⟩,⟨g6,24,zc 0⟩]:=by
    intro q6 q7;refine (hA _ _ _).2 (WT.step [4,5] Dt hc hT ⟨⟨_,rfl,?_⟩,⟨_,rfl,?_⟩,trivial⟩)
    ·(refine WO.autoM (k:=?_);intro q4);exact WT.go [(7,pt q4)] hA (hS208 q4 q6 q7)
    ·(refine WO.autoM (k:=?_);intro q5);exact WT.go [(8,pt q5)] hA (hS224 q5 q6 q7)
   have hS16:∀ q4,A [4] [(7,pt q4),(3,pt g3),(5,pt g5),(6,pt g6)] [⟨q4,24,zc 0⟩,⟨g3,24,zc a⟩,⟨g5,24,zc m⟩,⟨g6,24,zc 0⟩]:=by
    intro q4;refine (hA _ _ _).2 (WT.step [5,6,7] Dt hc hT ⟨⟨_,rfl,?_⟩,⟨_,rfl,?_⟩,⟨_,rfl,?_⟩,trivial⟩)
    ·(refine WO.autoM (k:=?_);intro q5);exact WT.go [(8,pt q5)] hA (hS48 q4 q5)
    ·(refine WO.autoM (k:=?_);intro q6);exact WT.go [(9,pt q6)] hA (hS80 q4 q6)
    ·(refine WO.autoM (k:=?_);intro q7);exact WT.go [(10,pt q7)] hA (hS144 q4 q7)
   have hS32:∀ q5,A [5] [(8,pt q5),(3,pt g3),(5,pt g5),(6,pt g6)] [⟨q5,24,zc 0⟩,⟨g3,24,zc a⟩,⟨g5,24,zc m⟩,⟨g6,24,zc 0⟩]:=by
    intro q5;refine (hA _ _ _).2 (WT.step [4,6,7] Dt hc hT ⟨⟨_,rfl,?_⟩,⟨_,rfl,?_⟩,⟨_,rfl,?_⟩,trivial⟩)
    ·(refine WO.autoM (k:=?_);intro q4);exact WT.go [(7,pt q4)] hA (hS48 q4 q5)
    ·(refine WO.autoM (k:=?_);intro q6);exact WT.go [(9,pt q6)] hA (hS96 q5 q6)
    ·(refine WO.autoM (k:=?_);intro q7);exact WT.go [(10,pt q7)] hA (hS160 q5 q7)
   have hS64:∀ q6,A [6] [(9,pt q6),(3,pt g3),(5,pt g5),(6,pt g6)] [⟨q6,24,zc 0⟩,⟨g3,24,zc a⟩,⟨g5,24,zc m⟩,⟨g6,24,zc 0⟩]:=by
    intro q6;refine (hA _ _ _).2 (WT.step [4,5,7] Dt hc hT ⟨⟨_,rfl,?_⟩,⟨_,rfl,?_⟩,⟨_,rfl,?_⟩,trivial⟩)
    ·(refine WO.autoM (k:=?_);intro q4);exact WT.go [(7,pt q4)] hA (hS80 q4 q6)
    ·(refine WO.autoM (k:=?_);intro q5);exact WT.go [(8,pt q5)] hA (hS96 q5 q6)
    ·(refine WO.autoM (k:=?_);intro q7);exact WT.go [(10,pt q7)] hA (hS192 q6 q7)
   have hS128:∀ q7,A [7] [(10,pt q7),(3,pt g3),(5,pt g5),(6,pt g6)] [⟨q7,24,zc 0⟩,⟨g3,24,zc a⟩,⟨g5,24,zc m⟩,⟨g6,24,zc 0⟩]:=by
    intro q7;refine (hA _ _ _).2 (WT.step [4,5,6] Dt hc hT ⟨⟨_,rfl,?_⟩,⟨_,rfl,?_⟩,⟨_,rfl,?_⟩,trivial⟩)
    ·(refine WO.autoM (k:=?_);intro q4);exact WT.go [(7,pt q4)] hA (hS144 q4 q7)
    ·(refine WO.autoM (k:=?_);intro q5);exact WT.go [(8,pt q5)] hA (hS160 q5 q7)
    ·(refine WO.autoM (k:=?_);intro q6);exact WT.go [(9,pt q6)] hA (hS192 q6 q7)
   have hS0:A [] [(3,pt g3),(5,pt g5),(6,pt g6)] [⟨g3,24,zc a⟩,⟨g5,24,zc m⟩,⟨g6,24,zc 0⟩]:=by
    refine (hA _ _ _).2 (WT.step [4,5,6,7] Dt hc hT ⟨⟨_,rfl,?_⟩,⟨_,rfl,?_⟩,⟨_,rfl,?_⟩,⟨_,rfl,?_⟩,trivial⟩)
    ·(refine WO.autoM (k:=?_);intro q4);exact WT.go [(7,pt q4)] hA (hS16 q4)
    ·(refine WO.autoM (k:=?_);intro q5);exact WT.go [(8,pt q5)] hA (hS32 q5)
    ·(refine WO.autoM (k:=?_);intro q6);exact WT.go [(9,pt q6)] hA (hS64 q6)
    ·(refine WO.autoM (k:=?_);intro q7);exact WT.go [(10,pt q7)] hA (hS128 q7)
   exact WT.less ((hA _ _ _).1 hS0) Dt Kle.a (by repeat (first|exact Lle.nil|exact Lle.same|refine Lle.c ?_))
  intro q4 q5 q6 q7;refine (hA _ _ _).2 (WT.fin [4,5,6,7,8,9,10,11] 6 hc rfl Kr ?_);clear hc hT hA
  repeat (first|refine Tk ?_|intro _|exact Tz)
  refine WC.loopI (σ:=Nat × Nat × Nat × Nat) (fun s=>0<s.2.1∧s.2.1<s.1∧s.1≤m∧Nat.gcd s.1 s.2.1=1∧s.2.2.1<m∧s.2.2.2<m∧eA m s.1 s.2.1 s.2.2.1 s.2.2.2=eA m m a 0 1)
   (fun s=>[(5,pt g5),(6,pt g6),(7,pt q4),(8,pt q5),(9,pt q6),(10,pt q7)])
   (fun s=>[⟨g5,24,zc m⟩,⟨g6,24,zc 0⟩,⟨q4,24,zc s.1⟩,⟨q5,24,zc s.2.1⟩,⟨q6,24,zc s.2.2.1⟩,⟨q7,24,zc s.2.2.2⟩]) (fun s=>s.2.1) (m,a,0,1) (fun s hs=>?_) ⟨h0,ha,Nat.le_refl _,hgm,by show 0<m;omega,h1,rfl⟩
  obtain⟨r,s,x,y⟩:=s;obtain⟨hs0,hsr,hrm,hgc,hx,hy,heq⟩:=hs;dsimp only at hs0 hsr hrm hgc hx hy heq ⊢;have hsB:s<zd:=by omega
  by_cases hs1:s=1
  ·have hno:¬ (s≠1):=fun h=>h hs1;subst hs1;rw[jK] at heq;rw[← heq]
   repeat (first|refine Tk ?_|intro _|exact Tz)
   refine WC.adraw 3 (k:=?_)
   repeat (first|refine Da ?_|refine DQ.acall (hc:=ud) (k:=?_)|refine Dc ?_)
   refine DQ.anil (k:=?_);intro sx _
   repeat (first|refine Tk ?_|intro _|exact Tz)
  ·have hD:=ahh r s Om hsB hs0;have hq:=ail (r:=r) (s:=s) (m:=m) Om hrm h1;have hT:=kU (r / s) y m hq hy hm;have hS:=ael x (r / s*y%m) m Om (Nat.lt_trans (Nat.mod_lt _ Om) hm) hm;have hmay:zR x (r / s*y%m) m=true:=by unfold zR;simp[h1,hx,Nat.mod_lt _ (show 0<m by omega)]
   rw[hmay] at hS;have hnext:=lD (m:=m) (r:=r) (x:=x) (y:=y) (show 1<s by omega);have hpos:=ig (show 1<s by omega) hgc;have hlt:=Nat.mod_lt r hs0;have hgn:=jB hgc;have hz:(x+m - r / s*y%m)%m<m:=Nat.mod_lt _ Om;rw[heq] at hnext;generalize (x+m - r / s*y%m)%m=z at *;generalize r / s*y%m=u at *;generalize r / s=q at *;generalize r%s=p at *
   repeat (first|refine Tk ?_|intro _|exact Tz)
   refine WC.adraw 3 (k:=?_)
   repeat (first|refine Da ?_|refine DQ.acall (hc:=ud) (k:=?_)|refine Dc ?_)
   refine DQ.anil (k:=?_);intro sx _
   repeat (first|refine Tk ?_|intro _|exact Tz)
   refine WC.dT rfl hs1 ?_
   repeat (first|refine Tj ?_|intro _|refine WO.acall (hc:=hD) (k:=?_)|refine Tc ?_|exact Tz)
   rename_i g11 g12;refine WC.adrawF [9] 11 (k:=?_)
   repeat (first|refine Da ?_|refine DQ.acall (hc:=hT) (k:=?_)|refine DQ.acall (hc:=hS) (k:=?_)|refine Df ?_)
   refine DQ.anil (k:=?_);intro sx _
   repeat (first|refine Tk ?_|intro _|exact Tz)
   generalize sx 10 0=g14;refine WC.mainA [0,4,5,6,7] [(1,zj p),(2,zj y),(3,zj z)] Dt (fun A hA=>?_);refine WT.given [(5,pt g5),(6,pt g6),(7,pt q4),(8,pt q5),(9,pt q6),(10,pt q7),(12,pt g12),(14,pt g14)] [⟨g12,24,zc p⟩,⟨q7,24,zc y⟩,⟨g14,24,zc z⟩] Kr (Tlv.a (Tlv.a (Tlv.a (Tlv.nil)))) (fun hc hT=>?_)
   suffices hS241:A [7,6,5,4,0] [(46,zj s),(5,pt g5),(6,pt g6),(7,pt q4),(8,pt q5),(9,pt q6),(10,pt q7),(12,pt g12),(14,pt g14)] [⟨g5,24,zc m⟩,⟨g6,24,zc 0⟩,⟨q4,24,zc s⟩,⟨q5,24,zc p⟩,⟨q6,24,zc y⟩,⟨q7,24,zc z⟩,⟨g12,24,zc p⟩,⟨g14,24,zc z⟩] by
    have hS113:A [6,5,4,0] [(46,zj s),(5,pt g5),(6,pt g6),(7,pt q4),(8,pt q5),(9,pt q6),(10,pt q7),(12,pt g12),(14,pt g14)] [⟨g5,24,zc m⟩,⟨g6,24,zc 0⟩,⟨q4,24,zc s⟩,⟨q5,24,zc p⟩,⟨q6,24,zc y⟩,⟨q7,24,zc y⟩,⟨g12,24,zc p⟩,⟨g14,24,zc z⟩]:=by
     refine (hA _ _ _).2 (WT.step [7] Dt hc hT ⟨⟨_,rfl,?_⟩,trivial⟩)
     ·refine Tw ?_;exact WT.go [] hA (hS241)
    have hS49:A [5,4,0] [(46,zj s),(5,pt g5),(6,pt g6),(7,pt q4),(8,pt q5),(9,pt q6),(10,pt q7),(12,pt g12),(14,pt g14)] [⟨g5,24,zc m⟩,⟨g6,24,zc 0⟩,⟨q4,24,zc s⟩,⟨q5,24,zc p⟩,⟨q6,24,zc x⟩,⟨q7,24,zc y⟩,⟨g12,24,zc p⟩,⟨g14,24,zc z⟩]:=by
     refine (hA _ _ _).2 (WT.step [6] Dt hc hT ⟨⟨_,rfl,?_⟩,trivial⟩)
     ·refine Tw ?_;exact WT.go [] hA (hS113)
    have hS17:A [4,0] [(46,zj s),(5,pt g5),(6,pt g6),(7,pt q4),(8,pt q5),(9,pt q6),(10,pt q7),(12,pt g12),(14,pt g14)] [⟨g5,24,zc m⟩,⟨g6,24,zc 0⟩,⟨q4,24,zc s⟩,⟨q5,24,zc s⟩,⟨q6,24,zc x⟩,⟨q7,24,zc y⟩,⟨g12,24,zc p⟩,⟨g14,24,zc z⟩]:=by
     refine (hA _ _ _).2 (WT.step [5] Dt hc hT ⟨⟨_,rfl,?_⟩,trivial⟩)
     ·refine Tw ?_;exact WT.go [] hA (hS49)
    have hS1:A [0] [(46,zj s),(5,pt g5),(6,pt g6),(7,pt q4),(8,pt q5),(9,pt q6),(10,pt q7),(12,pt g12),(14,pt g14)] [⟨g5,24,zc m⟩,⟨g6,24,zc 0⟩,⟨q4,24,zc r⟩,⟨q5,24,zc s⟩,⟨q6,24,zc x⟩,⟨q7,24,zc y⟩,⟨g12,24,zc p⟩,⟨g14,24,zc z⟩]:=by
     refine (hA _ _ _).2 (WT.step [4] Dt hc hT ⟨⟨_,rfl,?_⟩,trivial⟩)
     ·refine Tw ?_;exact WT.go [] hA (hS17)
    have hS0:A [] [(5,pt g5),(6,pt g6),(7,pt q4),(8,pt q5),(9,pt q6),(10,pt q7),(12,pt g12),(14,pt g14)] [⟨g5,24,zc m⟩,⟨g6,24,zc 0⟩,⟨q4,24,zc r⟩,⟨q5,24,zc s⟩,⟨q6,24,zc x⟩,⟨q7,24,zc y⟩,⟨g12,24,zc p⟩,⟨g14,24,zc z⟩]:=by
     refine (hA _ _ _).2 (WT.step [0] Dt hc hT ⟨⟨_,rfl,?_⟩,trivial⟩)
     ·refine Tw ?_;exact WT.go [(46,zj s)] hA (hS1)
    exact WT.less ((hA _ _ _).1 hS0) Dt Kle.a (by repeat (first|exact Lle.nil|exact Lle.same|refine Lle.c ?_))
   refine (hA _ _ _).2 (WT.fin [0,4,5,6,7] 6 hc rfl Kr ?_);clear hc hT hA
   repeat (first|refine Tk ?_|intro _|exact Tz)
   refine WX.metI (s,p,y,z) (hs:=⟨⟨hpos,hlt,by omega,hgn,hy,hz,hnext.symm⟩,hlt⟩)
 ·have hinv:y7 a m=0:=kF hg;rw[hinv];refine Fn.enter Tryz.func213 rfl rfl rfl ?_;intro w hw
  repeat (first|refine Tj ?_|intro _|refine WO.acall (hc:=hG) (k:=?_)|refine WO.acall (hc:=ud) (k:=?_)|refine Tc ?_|exact Tz)
  refine WC.dT rfl hg ?_
  repeat (first|refine Tk ?_|intro _|exact Tz)
theorem lZ {a m:Nat} (h1:1<m) (ha:a<m):y7 a m<m:=by
 by_cases hg:Nat.gcd a m=1
 ·exact (vP h1 ha hg).2
 ·rw[kF hg];omega
theorem ahO (a m:Nat) (ha:a<zd) (hm:m<zd):Fn Tryz.prog 170 [zj a,zj m] Tr (Is (.tuple #[zj (okV (zR a a m) (y7 a m)),.int .i64 (qk a m)])):=by
 have hO:=agT (f:=213) [] a a m (y7 a m) ha ha hm Tr zM.tr (fun h=>afK a m (zN h).1 (zN h).2.1 hm);cases hy:zR a a m with
 | false =>
  have he:qk a m=1:=by unfold qk;rw[hy];rfl
  rw[hy] at hO;rw[he];refine Fn.enter Tryz.func170 rfl rfl rfl ?_;intro w hw
  repeat (first|refine Tj ?_|intro _|refine WO.acall (hc:=hO) (k:=?_)|refine Tc ?_|exact Tz)
  refine WC.adraw 7 (k:=?_)
  repeat (first|refine Da ?_|refine DQ.acall (hc:=nT) (k:=?_)|refine Dc ?_)
  refine DQ.anil (k:=?_);intro sx _
  repeat (first|refine Tk ?_|intro _|exact Tz)
 | true =>
  obtain⟨h1,h2,_⟩:=zN hy;have hB:y7 a m<zd:=Nat.lt_trans (lZ h1 h2) hm;rw[hy] at hO
  by_cases hg:Nat.gcd a m=1
  ·have he:qk a m=0:=by unfold qk;rw[hy,if_pos hg];rfl
   have hz:¬ y7 a m=0:=ad7 h1 h2 hg;rw[he];generalize y7 a m=v at *;refine Fn.enter Tryz.func170 rfl rfl rfl ?_;intro w hw
   repeat (first|refine Tj ?_|intro _|refine WO.acall (hc:=hO) (k:=?_)|refine Tc ?_|exact Tz)
   refine WC.adraw 7 (k:=?_)
   repeat (first|refine Da ?_|refine DQ.acall (hc:=nT) (k:=?_)|refine Dc ?_)
   refine DQ.anil (k:=?_);intro sx _
   repeat (first|refine Tk ?_|intro _|exact Tz)
   refine WC.dF rfl hz ?_
   repeat (first|refine Tk ?_|intro _|exact Tz)
  ·have he:qk a m=7:=by unfold qk;rw[hy,if_neg hg];rfl
   rw[he];rw[kF hg] at hO ⊢;refine Fn.enter Tryz.func170 rfl rfl rfl ?_;intro w hw
   repeat (first|refine Tj ?_|intro _|refine WO.acall (hc:=hO) (k:=?_)|refine Tc ?_|exact Tz)
   refine WC.adraw 7 (k:=?_)
   repeat (first|refine Da ?_|refine DQ.acall (hc:=nT) (k:=?_)|refine Dc ?_)
   refine DQ.anil (k:=?_);intro sx _
   repeat (first|refine Tk ?_|intro _|exact Tz)
end Sx
end
section
open Go Go.RowKit
namespace Sx
attribute [local irreducible] DQ WC WO WX wd
abbrev yu (p q g h:Nat):List Value:=[.int .u64 ((wd 0 p:Nat):Int),.int .u64 ((wd 1 p:Nat):Int),.int .u64 ((wd 2 p:Nat):Int),.int .u64 ((wd 3 p:Nat):Int),.int .u64 ((wd 0 q:Nat):Int),.int .u64 ((wd 1 q:Nat):Int),.int .u64 ((wd 2 q:Nat):Int),.int .u64 ((wd 3 q:Nat):Int),.int .u64 ((wd 0 g:Nat):Int),.int .u64 ((wd 1 g:Nat):Int),.int .u64 ((wd 2 g:Nat):Int),.int .u64 ((wd 3 g:Nat):Int),.int .u64 ((wd 0 h:Nat):Int),.int .u64 ((wd 1 h:Nat):Int),.int .u64 ((wd 2 h:Nat):Int),.int .u64 ((wd 3 h:Nat):Int)]
abbrev vg (p q g h:Nat):Value:=.agg #[.int .u64 ((wd 0 p:Nat):Int),.int .u64 ((wd 1 p:Nat):Int),.int .u64 ((wd 2 p:Nat):Int),.int .u64 ((wd 3 p:Nat):Int),.int .u64 ((wd 0 q:Nat):Int),.int .u64 ((wd 1 q:Nat):Int),.int .u64 ((wd 2 q:Nat):Int),.int .u64 ((wd 3 q:Nat):Int),.int .u64 ((wd 0 g:Nat):Int),.int .u64 ((wd 1 g:Nat):Int),.int .u64 ((wd 2 g:Nat):Int),.int .u64 ((wd 3 g:Nat):Int),.int .u64 ((wd 0 h:Nat):Int),.int .u64 ((wd 1 h:Nat):Int),.int .u64 ((wd 2 h:Nat):Int),.int .u64 ((wd 3 h:Nat):Int)]
def yw (p a:Nat):Bool:=decide (1<p) && decide (a≠0) && decide (a<p)
theorem yX {p a:Nat} (h:yw p a=true):1<p∧a≠0∧a<p:=by
 unfold yw at h;simp at h;exact⟨h.1.1,h.1.2,h.2⟩
theorem ce {p a:Nat} (h:yw p a=true):zR a a p=true:=by
 obtain⟨h1,_,h3⟩:=yX h;simp[zR,h1,h3]
section
variable (p q g h:Nat)
theorem qI (a b:Nat) (ha:a<zd) (hb:b<zd) (hq:q<zd):Fn Tryz.prog 169 [vg p q g h,zj a,zj b] Tr (Is (rE (zR a b q) ((a+b)%q))):=by
 have hO:=af2 a b q ha hb hq;refine Fn.enter Tryz.func169 rfl rfl rfl ?_;intro w hw
 repeat (first|refine Td ?_|(refine Tm ?_;intro _)|refine WO.acall (hc:=hO) (k:=?_)|refine Tc ?_|exact Tz)
theorem dp (a b:Nat) (ha:a<zd) (hb:b<zd) (hq:q<zd):Fn Tryz.prog 156 [vg p q g h,zj a,zj b] Tr (Is (rE (zR a b q) ((a+q - b)%q))):=by
 have hO:=ael a b q ha hb hq;refine Fn.enter Tryz.func156 rfl rfl rfl ?_;intro w hw
 repeat (first|refine Td ?_|(refine Tm ?_;intro _)|refine WO.acall (hc:=hO) (k:=?_)|refine Tc ?_|exact Tz)
theorem iy (a b:Nat) (ha:a<zd) (hb:b<zd) (hq:q<zd):Fn Tryz.prog 173 [vg p q g h,zj a,zj b] Tr (Is (rE (zR a b q) (a*b%q))):=by
 have hO:=aev a b q ha hb hq;refine Fn.enter Tryz.func173 rfl rfl rfl ?_;intro w hw
 repeat (first|refine Td ?_|(refine Tm ?_;intro _)|refine WO.acall (hc:=hO) (k:=?_)|refine Tc ?_|exact Tz)
theorem j1 (a:Nat) (ha:a<zd) (hq:q<zd):Fn Tryz.prog 98 [vg p q g h,zj a] Tr (Is (.tuple #[zj (okV (zR a a q) (y7 a q)),.int .i64 (qk a q)])):=by
 have hO:=ahO a q ha hq;refine Fn.enter Tryz.func98 rfl rfl rfl ?_;intro w hw
 repeat (first|refine Td ?_|(refine Tm ?_;intro _)|refine WO.acall (hc:=hO) (k:=?_)|refine Tc ?_|exact Tz)
theorem aft (a:Nat) (ha:a<zd) (hp:p<zd):Fn Tryz.prog 61 [vg p q g h,zj a] Tr (Is (.bool (yw p a))):=by
 have hC1:=kh p 1 hp vb;have hC2:=kh a p ha hp
 by_cases h1:1<p
 ·rw[jh h1] at hC1
  by_cases h2:a=0
  ·have e:yw p a=false:=by simp[yw,h2]
   rw[e];refine Fn.enter Tryz.func61 rfl rfl rfl ?_;intro w hw
   repeat (first|refine Td ?_|(refine Tm ?_;intro _)|refine Tc ?_|exact Tz)
   refine WC.adraw 18 (k:=?_)
   repeat (first|refine DQ.decT (k:=?_)|refine DQ.decF (k:=?_)|refine Da ?_|refine DQ.acall (hc:=ud) (k:=?_)|refine DQ.acall (hc:=nT) (k:=?_)|refine DQ.acall (hc:=hC1) (k:=?_)|refine DQ.acall (hc:=hC2) (k:=?_)|refine Dc ?_)
   refine DQ.anil (k:=?_);intro sx _
   repeat (first|refine Td ?_|(refine Tm ?_;intro _)|refine Tc ?_|exact Tz)
  ·by_cases h3:a<p
   ·have e:yw p a=true:=by simp[yw,h1,h2,h3]
    rw[eX h3] at hC2;rw[e];refine Fn.enter Tryz.func61 rfl rfl rfl ?_;intro w hw
    repeat (first|refine Td ?_|(refine Tm ?_;intro _)|refine Tc ?_|exact Tz)
    refine WC.adraw 18 (k:=?_)
    repeat (first|refine DQ.decT (k:=?_)|refine DQ.decF (k:=?_)|refine Da ?_|refine DQ.acall (hc:=ud) (k:=?_)|refine DQ.acall (hc:=nT) (k:=?_)|refine DQ.acall (hc:=hC1) (k:=?_)|refine DQ.acall (hc:=hC2) (k:=?_)|refine Dc ?_)
    refine DQ.anil (k:=?_);intro sx _
    repeat (first|refine Td ?_|(refine Tm ?_;intro _)|refine Tc ?_|exact Tz)
   ·have e:yw p a=false:=by simp[yw,h3]
    have e2:uT a p=0∨uT a p=1:=by
     rcases Nat.lt_or_ge p a with h4|h4
     ·exact .inr (jh h4)
     ·exact .inl (bf Om)
    rw[e]
    rcases e2 with e2|e2
    all_goals
     rw[e2] at hC2;refine Fn.enter Tryz.func61 rfl rfl rfl ?_;intro w hw
     repeat (first|refine Td ?_|(refine Tm ?_;intro _)|refine Tc ?_|exact Tz)
     refine WC.adraw 18 (k:=?_)
     repeat (first|refine DQ.decT (k:=?_)|refine DQ.decF (k:=?_)|refine Da ?_|refine DQ.acall (hc:=ud) (k:=?_)|refine DQ.acall (hc:=nT) (k:=?_)|refine DQ.acall (hc:=hC1) (k:=?_)|refine DQ.acall (hc:=hC2) (k:=?_)|refine Dc ?_)
     refine DQ.anil (k:=?_);intro sx _
     repeat (first|refine Td ?_|(refine Tm ?_;intro _)|refine Tc ?_|exact Tz)
 ·have e:yw p a=false:=by simp[yw,h1]
  have e2:uT p 1=0∨uT p 1 = -1:=by
   rcases Nat.lt_or_ge p 1 with h4|h4
   ·exact .inr (eX h4)
   ·exact .inl (bf Om)
  rw[e]
  rcases e2 with e2|e2
  all_goals
   rw[e2] at hC1;refine Fn.enter Tryz.func61 rfl rfl rfl ?_;intro w hw
   repeat (first|refine Td ?_|(refine Tm ?_;intro _)|refine Tc ?_|exact Tz)
   refine WC.adraw 18 (k:=?_)
   repeat (first|refine DQ.decT (k:=?_)|refine DQ.decF (k:=?_)|refine Da ?_|refine DQ.acall (hc:=ud) (k:=?_)|refine DQ.acall (hc:=nT) (k:=?_)|refine DQ.acall (hc:=hC1) (k:=?_)|refine DQ.acall (hc:=hC2) (k:=?_)|refine Dc ?_)
   refine DQ.anil (k:=?_);intro sx _
   repeat (first|refine Td ?_|(refine Tm ?_;intro _)|refine Tc ?_|exact Tz)
theorem vd (a n:Nat) (ha:a<zd) (hn:n<zd) (hp:p<zd):Fn Tryz.prog 26 [vg p q g h,zj a,zj n] Tr (Is (rE (yw p a) (a ^ n%p))):=by
 have hM:=aft p q g h a ha hp;cases hy:yw p a with
 | true =>
  have hE:=ahZ a n p ha hn hp;rw[ce hy] at hE;rw[hy] at hM;refine Fn.enter Tryz.func26 rfl rfl rfl ?_;intro w hw
  repeat (first|refine Td ?_|(refine Tm ?_;intro _)|refine WO.acall (hc:=hM) (k:=?_)|refine WO.acall (hc:=hE) (k:=?_)|refine Tc ?_|exact Tz)
 | false =>
  rw[hy] at hM;refine Fn.enter Tryz.func26 rfl rfl rfl ?_;intro w hw
  repeat (first|refine Td ?_|(refine Tm ?_;intro _)|refine WO.acall (hc:=hM) (k:=?_)|refine Tc ?_|exact Tz)
theorem adq (a b:Nat) (ha:a<zd) (hb:b<zd) (hp:p<zd):Fn Tryz.prog 171 [vg p q g h,zj a,zj b] Tr (Is (rE (yw p a && yw p b) (a*b%p))):=by
 have hM1:=aft p q g h a ha hp;have hM2:=aft p q g h b hb hp;cases hy:yw p a with
 | true =>
  rw[hy] at hM1;cases hz:yw p b with
  | true =>
   rw[hz] at hM2;have hE:=aev a b p ha hb hp;have hm:zR a b p=true:=by
    obtain⟨h1,_,h3⟩:=yX hy;obtain⟨_,_,h4⟩:=yX hz;simp[zR,h1,h3,h4]
   rw[hm] at hE;refine Fn.enter Tryz.func171 rfl rfl rfl ?_;intro w hw
   repeat (first|refine Td ?_|(refine Tm ?_;intro _)|refine WO.acall (hc:=hM1) (k:=?_)|refine WO.acall (hc:=hM2) (k:=?_)|refine WO.acall (hc:=hE) (k:=?_)|refine Tc ?_|exact Tz)
  | false =>
   rw[hz] at hM2;refine Fn.enter Tryz.func171 rfl rfl rfl ?_;intro w hw
   repeat (first|refine Td ?_|(refine Tm ?_;intro _)|refine WO.acall (hc:=hM1) (k:=?_)|refine WO.acall (hc:=hM2) (k:=?_)|refine Tc ?_|exact Tz)
 | false =>
  rw[hy] at hM1;refine Fn.enter Tryz.func171 rfl rfl rfl ?_;intro w hw
  repeat (first|refine Td ?_|(refine Tm ?_;intro _)|refine WO.acall (hc:=hM1) (k:=?_)|refine WO.acall (hc:=hM2) (k:=?_)|refine Tc ?_|exact Tz)
def gIn (p q a:Nat):Bool:=yw p a && decide (a ^ q%p=1)
theorem tR (a:Nat) (ha:a<zd) (hp:p<zd) (hq:q<zd):Fn Tryz.prog 75 [vg p q g h,zj a] Tr (Is (.bool (gIn p q a))):=by
 have hE:=vd p q g h a q ha hq hp;cases hy:yw p a with
 | true =>
  rw[hy] at hE;have hB:a ^ q%p<zd:=Nat.lt_trans (Nat.mod_lt _ (by have:=yX hy;omega)) hp;have e:gIn p q a=decide (a ^ q%p=1):=by simp[gIn,hy]
  rw[e];generalize a ^ q%p=v at *;refine Fn.enter Tryz.func75 rfl rfl rfl ?_;intro w hw
  repeat (first|refine Td ?_|(refine Tm ?_;intro _)|refine WO.acall (hc:=hE) (k:=?_)|refine Tc ?_|exact Tz)
  by_cases hv:v=1
  ·rw[decide_eq_true hv];refine WC.adraw 8 (k:=?_)
   repeat (first|refine DQ.decT (k:=?_)|refine DQ.decF (k:=?_)|refine Da ?_|refine DQ.acall (hc:=ud) (k:=?_)|refine Dc ?_)
   refine DQ.anil (k:=?_);intro sx _
   repeat (first|refine Td ?_|(refine Tm ?_;intro _)|refine Tc ?_|exact Tz)
  ·rw[decide_eq_false hv];refine WC.adraw 8 (k:=?_)
   repeat (first|refine DQ.decT (k:=?_)|refine DQ.decF (k:=?_)|refine Da ?_|refine DQ.acall (hc:=ud) (k:=?_)|refine Dc ?_)
   refine DQ.anil (k:=?_);intro sx _
   repeat (first|refine Td ?_|(refine Tm ?_;intro _)|refine Tc ?_|exact Tz)
 | false =>
  have e:gIn p q a=false:=by simp[gIn,hy]
  rw[hy] at hE;rw[e];refine Fn.enter Tryz.func75 rfl rfl rfl ?_;intro w hw
  repeat (first|refine Td ?_|(refine Tm ?_;intro _)|refine WO.acall (hc:=hE) (k:=?_)|refine Tc ?_|exact Tz)
  refine WC.adraw 8 (k:=?_)
  repeat (first|refine DQ.decT (k:=?_)|refine DQ.decF (k:=?_)|refine Da ?_|refine DQ.acall (hc:=ud) (k:=?_)|refine Dc ?_)
  refine DQ.anil (k:=?_);intro sx _
  repeat (first|refine Td ?_|(refine Tm ?_;intro _)|refine Tc ?_|exact Tz)
end
end Sx
end
section
open Go Go.RowKit Go.BigFrame
namespace Sx
attribute [local irreducible] DQ WC WO WX wd
theorem yh {α:Type} {f:α→List Value} {k:Nat} (hk:∀ x,(f x).length=k):∀ {xs:List α} {i:Nat} {x:α},xs[i]?=some x→cut (xs.flatMap f) (i*k) k=f x
 | [],i,x,h=>by simp at h
 | y::r,0,x,h=>by
  simp at h;subst h;simp[cut,← hk y]
 | y::r,i+1,x,h=>by
  have:=yh hk (xs:=r) (i:=i) (x:=x) (by simpa using h);rw[← this];unfold cut;rw[List.flatMap_cons,show (i+1)*k=(f y).length+i*k by rw[hk,Nat.succ_mul];omega,← List.drop_drop,List.drop_left]
abbrev fdC (p q g h:Nat) (e:Int):List Value:=[.int .u64 ((wd 0 p:Nat):Int),.int .u64 ((wd 1 p:Nat):Int),.int .u64 ((wd 2 p:Nat):Int),.int .u64 ((wd 3 p:Nat):Int),.int .u64 ((wd 0 q:Nat):Int),.int .u64 ((wd 1 q:Nat):Int),.int .u64 ((wd 2 q:Nat):Int),.int .u64 ((wd 3 q:Nat):Int),.int .u64 ((wd 0 g:Nat):Int),.int .u64 ((wd 1 g:Nat):Int),.int .u64 ((wd 2 g:Nat):Int),.int .u64 ((wd 3 g:Nat):Int),.int .u64 ((wd 0 h:Nat):Int),.int .u64 ((wd 1 h:Nat):Int),.int .u64 ((wd 2 h:Nat):Int),.int .u64 ((wd 3 h:Nat):Int),.int .i64 e]
def kE (e e' : Int):Int:=if e=0 then e' else e
section
variable (p q g h gF:Nat)
theorem iL (a:Nat) (e0 e:Int):FnM Tryz.prog 265 [pt gF,zj a,.int .i64 e] gF 336 (fdC p q g h e0) (fdC p q g h (kE e0 e)) Tr (zj a):=by
 refine FnM.enter Tryz.func265 rfl rfl rfl ?_;intro w hw
 by_cases he:e0=0
 ·rw[show kE e0 e=e from if_pos he]
  repeat (first|refine Tj ?_|intro _|refine WO.does (zP rfl rfl he) ?_|refine Tc ?_|exact Tz)
  exact WX.retM_of (d7 rfl (by first|exact zU rfl|exact v7)) Hs.a
 ·rw[show kE e0 e=e0 from if_neg he]
  repeat (first|refine Tj ?_|intro _|refine WO.does (zQ rfl rfl he) ?_|refine Tc ?_|exact Tz)
  exact WX.retM_of (d7 rfl (by first|exact zU rfl|exact v7)) Hs.a
theorem kA (a b:Nat) (e0:Int) (ha:a<zd) (hb:b<zd) (hq:q<zd):FnM Tryz.prog 229 [pt gF,zj a,zj b] gF 336 (fdC p q g h e0) (fdC p q g h (kE e0 (okE (zR a b q)))) Tr (zj (okV (zR a b q) ((a+b)%q))):=by
 have hO:=qI p q g h a b ha hb hq;have hK:=iL p q g h gF (okV (zR a b q) ((a+b)%q)) e0 (okE (zR a b q));simp only[rE] at hO;generalize okV (zR a b q) ((a+b)%q)=R at *;generalize okE (zR a b q)=E at *;refine FnM.enter Tryz.func229 rfl rfl rfl ?_;intro w hw
 repeat (first|refine Tk ?_|intro _|exact Tz)
 refine WC.adraw 10 (k:=?_)
 repeat (first|refine Da ?_|refine DQ.acall (hc:=hO) (k:=?_)|refine Dc ?_)
 refine DQ.anil (k:=?_);intro sx _
 repeat (first|refine Tj ?_|intro _|refine WO.callM rfl hK (by repeat (first|exact Rp.here|apply Rp.there)) (fun _ _=>trivial) Dt ?_ rfl rfl|refine Tc ?_|exact Tz)
 exact WX.retM_of (d7 rfl (by first|exact zU rfl|exact v7)) Hs.a
theorem iW (a b:Nat) (e0:Int) (ha:a<zd) (hb:b<zd) (hq:q<zd):FnM Tryz.prog 230 [pt gF,zj a,zj b] gF 336 (fdC p q g h e0) (fdC p q g h (kE e0 (okE (zR a b q)))) Tr (zj (okV (zR a b q) (a*b%q))):=by
 have hO:=iy p q g h a b ha hb hq;have hK:=iL p q g h gF (okV (zR a b q) (a*b%q)) e0 (okE (zR a b q));simp only[rE] at hO;generalize okV (zR a b q) (a*b%q)=R at *;generalize okE (zR a b q)=E at *;refine FnM.enter Tryz.func230 rfl rfl rfl ?_;intro w hw
 repeat (first|refine Tk ?_|intro _|exact Tz)
 refine WC.adraw 10 (k:=?_)
 repeat (first|refine Da ?_|refine DQ.acall (hc:=hO) (k:=?_)|refine Dc ?_)
 refine DQ.anil (k:=?_);intro sx _
 repeat (first|refine Tj ?_|intro _|refine WO.callM rfl hK (by repeat (first|exact Rp.here|apply Rp.there)) (fun _ _=>trivial) Dt ?_ rfl rfl|refine Tc ?_|exact Tz)
 exact WX.retM_of (d7 rfl (by first|exact zU rfl|exact v7)) Hs.a
def gaS (q:Nat) (l:LN) (a:Nat) (e:Int):Nat × Int:=l.foldl (fun s x=>(okV (zR s.1 x q) ((s.1+x)%q),kE s.2 (okE (zR s.1 x q)))) (a,e)
theorem i4 (q:Nat) (l:LN) (x a:Nat) (e:Int):gaS q (l++[x]) a e=(okV (zR (gaS q l a e).1 x q) (((gaS q l a e).1+x)%q),kE (gaS q l a e).2 (okE (zR (gaS q l a e).1 x q))):=by
 unfold gaS;rw[List.foldl_append];rfl
theorem afQ {q:Nat} {l:LN} {a:Nat} {e:Int} (hq:q<zd) (ha:a<zd):(gaS q l a e).1<zd:=by
 rcases List.eq_nil_or_concat l with rfl|⟨l,x,rfl⟩
 ·exact ha
 ·rw[List.concat_eq_append,i4];cases h:zR (gaS q l a e).1 x q with
  | false=>exact zG
  | true=>exact Nat.lt_trans (Nat.mod_lt _ (by have:=(zN h).1;omega)) hq
theorem aaN (l:LN) (pt:Option Addr) (c a:Nat) (e0:Int) (ha:a<zd) (hl:∀ x∈l,x<zd) (hn:l.length≤1099511627776) (hq:q<zd) :
  FnM Tryz.prog 254 [zj a,.slice pt l.length c,.func (.func 229) #[Sx.pt gF] #[]] gF 336 (fdC p q g h e0) (fdC p q g h (gaS q l a e0).2) (fun w=>RdF zc (.slice pt l.length c) l w∧∀ b o,pt=some ⟨b,o,none⟩→l≠[]→b ∉ [gF]) (zj (gaS q l a e0).1):=by
 have hP:=fun u x e (hu:u<zd) (hx:x<zd)=>(kA p q g h gF u x e hu hx hq).toL;refine FnM.enter Tryz.func254 rfl rfl rfl ?_;intro w hw;obtain⟨⟨pt',c',e,hpc⟩,hout⟩:=hw;cases e
 repeat (first|refine Tk ?_|intro _|exact Tz)
 rename_i g3 g6
 refine WC.loopI (σ:=Nat) (fun i=>i≤l.length) (fun i=>[(2,.func (.func 229) #[Sx.pt gF] #[]),(3,Sx.pt g3),(6,Sx.pt g6),(9,.slice pt l.length c),(10,.int .i64 (l.length:Int)),(11,.int .i64 (i:Int))])
  (fun i=>[⟨g6,24,zc 0⟩,⟨g3,24,zc (gaS q (l.take i) a e0).1⟩,⟨gF,336,fdC p q g h (gaS q (l.take i) a e0).2⟩]) (fun i=>l.length - i) 0 (fun i hi=>?_) (Nat.zero_le _)
 try dsimp only at hi ⊢
 by_cases hlt:i<l.length
 ·obtain⟨x,hx⟩ : ∃ x,l[i]?=some x:=⟨_,List.getElem?_eq_getElem hlt⟩
  rcases hpc with ⟨_,h0⟩|⟨b,o,rfl,hs⟩
  ·rw[h0] at hlt;simp at hlt
  have hb:b ∉ [gF]:=hout b o rfl (by rintro rfl;simp at hlt);have hadd2:IntKind.i64.wrap ((i:Int)+1)=((i+1:Nat):Int):=zo Om Om Om;have hcx:cut (l.flatMap zc) (o+i*4 - o) 4=zc x:=by rw[Nat.add_sub_cancel_left];exact yh (f:=zc) (k:=4) (fun _=>rfl) hx
  have hPx:=hP (gaS q (l.take i) a e0).1 x (gaS q (l.take i) a e0).2 (afQ hq ha) (hl x (List.mem_of_getElem? hx));have hst:=i4 q (l.take i) x a e0;rw[show l.take i++[x]=l.take (i+1) by rw[List.take_add_one,hx];rfl] at hst;rw[show okV (zR (gaS q (l.take i) a e0).1 x q) (((gaS q (l.take i) a e0).1+x)%q)=(gaS q (l.take (i+1)) a e0).1 by rw[hst],show kE (gaS q (l.take i) a e0).2 (okE (zR (gaS q (l.take i) a e0).1 x q))=(gaS q (l.take (i+1)) a e0).2 by rw[hst]] at hPx;clear hst hP hl
  repeat (first|refine Tk ?_|intro _|exact Tz)
  refine WC.dT rfl Om ?_
  repeat (first|refine Tj ?_|intro _|refine WO.does (zb (o':=o+i*4) rfl rfl hlt rfl) ?_|refine WO.does (zk (vs:=zc x) (hs:=hs) (hle:=Nat.le_add_right _ _) (hb:=hb) (hc:=hcx)) ?_|refine Tc ?_|exact Tz)
  refine WO.callsLV hPx rfl rfl rfl (Pks.cons (Pk.there (Pk.there (Pk.there Pk.here))) Pks.nil) (fun _ _=>trivial) (fun v N hv=>?_);obtain⟨rfl,rfl⟩:=hv;simp only[List.cons_append,List.nil_append]
  repeat (first|refine Tj ?_|intro _|refine WO.does (ze rfl rfl hadd2) ?_|refine Tc ?_|exact Tz)
  exact WX.metI (i+1) (hs:=⟨by show i+1≤l.length;omega,by show l.length - (i+1)<l.length - i;omega⟩)
 ·have hi2:i=l.length:=by omega
  subst hi2;rw[List.take_length]
  repeat (first|refine Tk ?_|intro _|exact Tz)
  refine WC.dF rfl Om ?_
  repeat (first|refine Tk ?_|intro _|exact Tz)
  exact WX.retM_of (d7 rfl (by first|exact zU rfl|exact v7)) Hs.a
end
theorem kJ (q:Nat):∀ (l:LN) (a:Nat),(gaS q l a 1).2=1
 | [],_=>rfl
 | x::l,a=>by
  show (gaS q l _ (kE 1 _)).2=1;rw[show kE 1 (okE (zR a x q))=1 from rfl];exact kJ q l _
theorem acX {q:Nat} (h1:1<q):∀ (l:LN) (a:Nat),a<q→(gaS q l a 0).2=if l.all (fun x=>decide (x<q))=true then 0 else 1
 | [],_,_=>rfl
 | x::l,a,ha=>by
  show (gaS q l (okV (zR a x q) ((a+x)%q)) (kE 0 (okE (zR a x q)))).2=_;rw[show kE 0 (okE (zR a x q))=okE (zR a x q) from rfl]
  by_cases hx:x<q
  ·rw[show zR a x q=true by simp[zR,h1,ha,hx]];show (gaS q l ((a+x)%q) 0).2=_;rw[acX h1 l _ (Nat.mod_lt _ Om)];simp[hx]
  ·rw[show zR a x q=false by simp[zR,hx]];show (gaS q l 0 1).2=_;rw[kJ];simp[hx]
theorem ag0 (q:Nat) (l:LN):decide (kE (gaS q l 0 0).2 (okE (zR 0 0 q))=0)=v8 q l:=by
 unfold v8
 by_cases h1:1<q
 ·rw[acX h1 l 0 Om,show zR 0 0 q=true by simp[zR,h1];omega,decide_eq_true h1,Bool.true_and];cases l.all (fun x=>decide (x<q))<;>rfl
 ·rw[decide_eq_false h1,Bool.false_and,show zR 0 0 q=false by simp[zR,h1]];cases l with
  | nil=>rfl
  | cons x l =>
   have:(gaS q (x::l) 0 0).2=1:=by
    show (gaS q l _ (kE 0 (okE (zR 0 x q)))).2=1;rw[show zR 0 x q=false by simp[zR,h1]];exact kJ q l _
   rw[this];rfl
section
variable (p q g h:Nat)
theorem qE (l:LN) (pt:Option Addr) (c:Nat) (hl:∀ x∈l,x<zd) (hn:l.length≤1099511627776) (hq:q<zd) :
  Fn Tryz.prog 227 [vg p q g h,.slice pt l.length c] (RdF zc (.slice pt l.length c) l) (Is (.bool (v8 q l))):=by
 have hG:=fun gF=>aaN p q g h gF l pt c 0 0 zG hl hn hq;have hP:=fun gF=>kA p q g h gF 0 0 (gaS q l 0 0).2 zG zG hq;have hm:=ag0 q l;rw[← hm];generalize (gaS q l 0 0).2=E at *;generalize (gaS q l 0 0).1=A at *;generalize okV (zR 0 0 q) ((0+0)%q)=R at *;generalize kE E (okE (zR 0 0 q))=E2 at *;refine Fn.enter Tryz.func227 rfl rfl rfl ?_;intro w hw
 repeat (first|refine Tk ?_|intro _|exact Tz)
 rename_i g2 gF;refine WO.mine (fun hmn=>?_);have hgF:w.heap.size≤gF:=(hmn _ (List.Mem.head _)).resolve_right Sm;refine WO.callM rfl (hG gF) (by repeat (first|exact Rp.here|apply Rp.there)) (fun w1 hm1=>⟨hw.mod hm1.mod,fun b o e hne=>by
  subst e;have:=RdF.lt (k:=3) (f:=zc) (fun _=>rfl) hw hne;simp;omega⟩) Dt ?_ rfl rfl
 repeat (first|refine Tj ?_|intro _|refine WO.callM rfl (hP gF) (by repeat (first|exact Rp.here|apply Rp.there)) (fun _ _=>trivial) Dt ?_ rfl rfl|refine Tc ?_|exact Tz)
 done
end
end Sx
end
section
open Go Go.RowKit Go.BigFrame
namespace Sx
theorem eR (a q:Nat):Nat.gcd (a%q) q=Nat.gcd a q:=by
 rw[Nat.gcd_comm a q,Nat.gcd_rec q a]
def prM (q:Nat) (a:Nat) (ds:LN):Nat:=ds.foldl (fun a d=>a*d%q) a
def aak (q:Nat) (ds:LN):Bool:=ds.all fun d=>decide (Nat.gcd d q=1)
theorem ng (q a:Nat) (ds:LN) (d:Nat):prM q a (ds++[d])=prM q a ds*d%q:=by unfold prM;rw[List.foldl_append];rfl
theorem mY {q a:Nat} (hq:0<q) (ha:a<q) (ds:LN):prM q a ds<q:=by
 rcases List.eq_nil_or_concat ds with rfl|⟨r,d,rfl⟩
 ·exact ha
 ·rw[List.concat_eq_append,ng];exact Nat.mod_lt _ hq
theorem abb {a b q:Nat}:Nat.gcd (a*b) q=1↔Nat.gcd a q=1∧Nat.gcd b q=1 :=
 ⟨fun h=>⟨Nat.Coprime.coprime_mul_right h,Nat.Coprime.coprime_mul_left h⟩,fun ⟨h1,h2⟩=>Nat.Coprime.mul_left h1 h2⟩
theorem ol (q:Nat):∀ (ds:LN) (a:Nat),Nat.gcd (prM q a ds) q=1↔(Nat.gcd a q=1∧aak q ds=true)
 | [],a=>by simp[prM,aak]
 | d::r,a=>by
  have ih:=ol q r (a*d%q);rw[eR,abb] at ih;show Nat.gcd (prM q (a*d%q) r) q=1↔_;rw[ih];simp[aak,and_assoc]
def dif (q:Nat) (l:LN) (i x k:Nat):List Nat:=(List.range k).flatMap fun j=>if j=i then [] else [(x+q - l.getD j 0)%q]
theorem o6 {q i x k:Nat} {l:LN} (h:k=i):dif q l i x (k+1)=dif q l i x k:=by unfold dif;rw[List.range_succ,List.flatMap_append];simp[h]
theorem pU {q i x k v:Nat} {l:LN} (h:k≠i) (hv:l[k]?=some v):dif q l i x (k+1)=dif q l i x k++[(x+q - v)%q]:=by unfold dif;rw[List.range_succ,List.flatMap_append];simp[h,List.getD,hv]
theorem adb {q i x k:Nat} {l:LN} (hq:0<q):∀ d∈dif q l i x k,d<q:=by
 intro d hd;unfold dif at hd;obtain⟨j,_,hj⟩:=List.mem_flatMap.1 hd
 by_cases e:j=i
 ·rw[if_pos e] at hj;cases hj
 ·rw[if_neg e] at hj;rw[List.mem_singleton.1 hj];exact Nat.mod_lt _ hq
theorem kf {q i x k:Nat} {l:LN}:(dif q l i x k).length≤k:=by
 induction k with
 | zero=>simp[dif]
 | succ k ih =>
  unfold dif at *;rw[List.range_succ,List.flatMap_append,List.length_append];have:([k].flatMap fun j=>if j=i then [] else [(x+q - l.getD j 0)%q]).length≤1:=by
   simp only[List.flatMap_cons,List.flatMap_nil,List.append_nil]
   split<;>simp
  omega
structure qj (q:Nat) (l:LN):Prop where
 ne:l≠[]
 lt:∀ y∈l,y<q
 nd:l.Nodup
 len:l.length≤7
theorem aaG {a q:Nat} (h1:1<q) (ha:a<q):y7 a q<q:=by
 by_cases hg:Nat.gcd a q=1
 ·exact (vP h1 ha hg).2
 ·unfold y7;rw[if_neg hg];omega
def wtI (q:Nat) (l:LN) (i:Nat):Nat:=y7 (prM q 1 (dif q l i (l.getD i 0) l.length)) q
def wtN (q:Nat) (l:LN) (x i:Nat):Nat:=prM q (wtI q l i) (dif q l i x l.length)
theorem acZ {q:Nat} {l:LN} {i:Nat} (h1:1<q):wtI q l i<q:=aaG h1 (mY Om h1 _)
theorem afX {q:Nat} {l:LN} {x i:Nat} (h1:1<q):wtN q l x i<q:=mY Om (acZ h1) _
def wts (q:Nat) (l:LN) (x:Nat):List Nat:=(List.range l.length).map (wtN q l x)
end Sx
end
section
open Go Go.RowKit Go.BigFrame
namespace Sx
attribute [local irreducible] DQ WC WO WX wd
theorem af5 (e:Int):kE e (okE true)=e:=by
 unfold kE
 split<;>simp_all [okE]
section
variable (p q g h gF:Nat)
theorem abm {a b q:Nat} (h1:1<q) (ha:a<q) (hb:b<q):zR a b q=true:=by simp[zR,h1,ha,hb]
theorem aaK (a b:Nat) (e:Int) (h1:1<q) (ha:a<q) (hb:b<q) (hq:q<zd):FnM Tryz.prog 230 [pt gF,zj a,zj b] gF 336 (fdC p q g h e) (fdC p q g h e) Tr (zj (a*b%q)):=by
 have:=iW p q g h gF a b e (Nat.lt_trans ha hq) (Nat.lt_trans hb hq) hq;rw[abm h1 ha hb,af5] at this;exact this
theorem adX (a b:Nat) (e:Int) (h1:1<q) (ha:a<q) (hb:b<q) (hq:q<zd):FnM Tryz.prog 273 [pt gF,zj a,zj b] gF 336 (fdC p q g h e) (fdC p q g h e) Tr (zj ((a+q - b)%q)):=by
 have hO:=dp p q g h a b (Nat.lt_trans ha hq) (Nat.lt_trans hb hq) hq;have hK:=iL p q g h gF ((a+q - b)%q) e 0;rw[abm h1 ha hb] at hO;rw[show kE e 0=e from af5 e] at hK;generalize (a+q - b)%q=R at *;refine FnM.enter Tryz.func273 rfl rfl rfl ?_;intro w hw
 repeat (first|refine Tk ?_|intro _|exact Tz)
 refine WC.adraw 10 (k:=?_)
 repeat (first|refine Da ?_|refine DQ.acall (hc:=hO) (k:=?_)|refine Dc ?_)
 refine DQ.anil (k:=?_);intro sx _
 repeat (first|refine Tj ?_|intro _|refine WO.callM rfl hK (by repeat (first|exact Rp.here|apply Rp.there)) (fun _ _=>trivial) Dt ?_ rfl rfl|refine Tc ?_|exact Tz)
 exact WX.retM_of (d7 rfl (by first|exact zU rfl|exact v7)) Hs.a
def iE (a q:Nat):Int:=if Nat.gcd a q=1 then 0 else 7
theorem aaI (a:Nat) (e:Int) (h1:1<q) (ha:a<q) (hq:q<zd):FnM Tryz.prog 272 [pt gF,zj a] gF 336 (fdC p q g h e) (fdC p q g h (kE e (iE a q))) Tr (zj (y7 a q)):=by
 have hO:=j1 p q g h a (Nat.lt_trans ha hq) hq;have hK:=iL p q g h gF (y7 a q) e (iE a q);rw[show qk a q=iE a q by unfold qk iE;rw[abm h1 ha ha];rfl,abm h1 ha ha] at hO;rw[show okV true (y7 a q)=y7 a q from rfl] at hO;generalize y7 a q=R at *;generalize iE a q=E at *;refine FnM.enter Tryz.func272 rfl rfl rfl ?_;intro w hw
 repeat (first|refine Tk ?_|intro _|exact Tz)
 refine WC.adraw 9 (k:=?_)
 repeat (first|refine Da ?_|refine DQ.acall (hc:=hO) (k:=?_)|refine Dc ?_)
 refine DQ.anil (k:=?_);intro sx _
 repeat (first|refine Tj ?_|intro _|refine WO.callM rfl hK (by repeat (first|exact Rp.here|apply Rp.there)) (fun _ _=>trivial) Dt ?_ rfl rfl|refine Tc ?_|exact Tz)
 exact WX.retM_of (d7 rfl (by first|exact zU rfl|exact v7)) Hs.a
theorem mP (l:LN) (pt:Option Addr) (c a:Nat) (e:Int) (h1:1<q) (ha:a<q) (hl:∀ x∈l,x<q) (hn:l.length≤1099511627776) (hq:q<zd) :
  FnM Tryz.prog 254 [zj a,.slice pt l.length c,.func (.func 230) #[Sx.pt gF] #[]] gF 336 (fdC p q g h e) (fdC p q g h e) (fun w=>RdF zc (.slice pt l.length c) l w∧∀ b o,pt=some ⟨b,o,none⟩→l≠[]→b ∉ [gF]) (zj (prM q a l)):=by
 have hP:=fun u x (hu:u<q) (hx:x<q)=>(aaK p q g h gF u x e h1 hu hx hq).toL;refine FnM.enter Tryz.func254 rfl rfl rfl ?_;intro w hw;obtain⟨⟨pt',c',e,hpc⟩,hout⟩:=hw;cases e
 repeat (first|refine Tk ?_|intro _|exact Tz)
 rename_i g3 g6
 refine WC.loopI (σ:=Nat) (fun i=>i≤l.length) (fun i=>[(2,.func (.func 230) #[Sx.pt gF] #[]),(3,Sx.pt g3),(6,Sx.pt g6),(9,.slice pt l.length c),(10,.int .i64 (l.length:Int)),(11,.int .i64 (i:Int))])
  (fun i=>[⟨g6,24,zc 0⟩,⟨g3,24,zc (prM q a (l.take i))⟩,⟨gF,336,fdC p q g h e⟩]) (fun i=>l.length - i) 0 (fun i hi=>?_) (Nat.zero_le _)
 try dsimp only at hi ⊢
 by_cases hlt:i<l.length
 ·obtain⟨x,hx⟩ : ∃ x,l[i]?=some x:=⟨_,List.getElem?_eq_getElem hlt⟩
  rcases hpc with ⟨_,h0⟩|⟨b,o,rfl,hs⟩
  ·rw[h0] at hlt;simp at hlt
  have hb:b ∉ [gF]:=hout b o rfl (by rintro rfl;simp at hlt);have hadd2:IntKind.i64.wrap ((i:Int)+1)=((i+1:Nat):Int):=zo Om Om Om;have hcx:cut (l.flatMap zc) (o+i*4 - o) 4=zc x:=by rw[Nat.add_sub_cancel_left];exact yh (f:=zc) (k:=4) (fun _=>rfl) hx
  have hPx:=hP (prM q a (l.take i)) x (mY Om ha _) (hl x (List.mem_of_getElem? hx));have hst:=ng q a (l.take i) x;rw[show l.take i++[x]=l.take (i+1) by rw[List.take_add_one,hx];rfl] at hst;rw[← hst] at hPx;clear hst hP hl
  repeat (first|refine Tk ?_|intro _|exact Tz)
  refine WC.dT rfl Om ?_
  repeat (first|refine Tj ?_|intro _|refine WO.does (zb (o':=o+i*4) rfl rfl hlt rfl) ?_|refine WO.does (zk (vs:=zc x) (hs:=hs) (hle:=Nat.le_add_right _ _) (hb:=hb) (hc:=hcx)) ?_|refine Tc ?_|exact Tz)
  refine WO.callsLV hPx rfl rfl rfl (Pks.cons (Pk.there (Pk.there (Pk.there Pk.here))) Pks.nil) (fun _ _=>trivial) (fun v N hv=>?_);obtain⟨rfl,rfl⟩:=hv;simp only[List.cons_append,List.nil_append]
  repeat (first|refine Tj ?_|intro _|refine WO.does (ze rfl rfl hadd2) ?_|refine Tc ?_|exact Tz)
  exact WX.metI (i+1) (hs:=⟨by show i+1≤l.length;omega,by show l.length - (i+1)<l.length - i;omega⟩)
 ·have hi2:i=l.length:=by omega
  subst hi2;rw[List.take_length]
  repeat (first|refine Tk ?_|intro _|exact Tz)
  refine WC.dF rfl Om ?_
  repeat (first|refine Tk ?_|intro _|exact Tz)
  exact WX.retM_of (d7 rfl (by first|exact zU rfl|exact v7)) Hs.a
end
end Sx
end
end Go.Proofs.YtiaibpcaloigkaaGreatDoor
