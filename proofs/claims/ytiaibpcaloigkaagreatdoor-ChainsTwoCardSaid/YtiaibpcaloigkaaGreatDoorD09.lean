/- Part 9 of the proof. -/
import Derived.Test.YtiaibpcaloigkaaGreatDoorD02
import Derived.Lib.ItoaNum
import Derived.Laws.BitsAllLaws
set_option linter.unusedSimpArgs false
set_option linter.unusedVariables false
namespace Go.Proofs.YtiaibpcaloigkaaGreatDoor
section
def zF (a:Nat):Nat:=if a=0 then 0 else a.log2+1
theorem tY {x k:Nat} (hk:1≤k) (h1:2 ^ (k - 1)≤x) (h2:x<2 ^ k):zF x=k:=by
 have hx:x≠0:=by have:=Nat.two_pow_pos (k - 1);omega
 unfold zF;rw[if_neg hx];have a:=(Nat.log2_lt hx).2 h2;have b:=(Nat.le_log2 hx).2 h1;omega
theorem uK {x:Nat} (hx:x≠0):1≤zF x∧2 ^ (zF x - 1)≤x∧x<2 ^ zF x:=by
 unfold zF;rw[if_neg hx];exact⟨by omega,by simpa using Nat.log2_self_le hx,Nat.lt_log2_self⟩
theorem tj (x:Nat):x<2 ^ zF x:=by
 by_cases hx:x=0
 ·subst hx;simp[zF]
 ·exact (uK hx).2.2
theorem yU {x k:Nat} (h:x<2 ^ k):zF x≤k:=by
 by_cases hx:x=0
 ·subst hx;simp[zF]
 ·unfold zF;rw[if_neg hx];have:=(Nat.log2_lt hx).2 h;omega
theorem yQ {x k:Nat}:zF x≤k↔x<2 ^ k :=
 ⟨fun h=>Nat.lt_of_lt_of_le (tj x) (Nat.pow_le_pow_right Om h),yU⟩
theorem bitLen_eq {x:Nat} (h:x<18446744073709551616):Lib.bitLen x=zF x:=by
 by_cases hx:x=0
 ·subst hx;rfl
 ·obtain⟨h1,h2,h3⟩:=Lib.bitLenAux_bounds 64 x h hx;exact (tY h1 h2 h3).symm
theorem tb {x lo s:Nat} (hx:x≠0) (hl:lo<2 ^ s):zF (lo+2 ^ s*x)=s+zF x:=by
 obtain⟨h1,h2,h3⟩:=uK hx;refine tY Om ?_ ?_
 ·rw[show s+zF x - 1=s+(zF x - 1) by omega,Nat.pow_add];have:=Nat.mul_le_mul_left (2 ^ s) h2;omega
 ·rw[Nat.pow_add];have:=Nat.mul_le_mul_left (2 ^ s) h3;rw[Nat.mul_succ] at this;omega
theorem qA {a:Nat} (ha:a<ze) {i:Nat} (hi:i<4) (hz:∀ j,i<j→j<4→wd j a=0) (hx:wd i a≠0):zF a=64*i+zF (wd i a):=by
 have hv:=vC ha;have l0:=z8 0 a;have l1:=z8 1 a;have l2:=z8 2 a;have:i=0∨i=1∨i=2∨i=3:=by omega
 rcases this with rfl|rfl|rfl|rfl
 ·have z1:=hz 1 Om Om;have z2:=hz 2 Om Om;have z3:=hz 3 Om Om;rw[z1,z2,z3] at hv;have e:wd 0 a=a:=by simp only[uW] at hv;omega
  rw[e];omega
 ·have z2:=hz 2 Om Om;have z3:=hz 3 Om Om;rw[z2,z3] at hv;have e:a=wd 0 a+2 ^ 64*wd 1 a:=by simp only[uW] at hv;omega
  have:=tb (s:=64) hx (show wd 0 a<2 ^ 64 by omega);rw[← e] at this;omega
 ·have z3:=hz 3 Om Om;rw[z3] at hv;have e:a=(wd 0 a+18446744073709551616*wd 1 a)+2 ^ 128*wd 2 a:=by simp only[uW] at hv;omega
  have:=tb (s:=128) hx (show wd 0 a+18446744073709551616*wd 1 a<2 ^ 128 by omega);rw[← e] at this;omega
 ·have e:a=(wd 0 a+18446744073709551616*wd 1 a+340282366920938463463374607431768211456*wd 2 a)+2 ^ 192*wd 3 a:=by simp only[uW] at hv;omega
  have:=tb (s:=192) hx (show wd 0 a+18446744073709551616*wd 1 a+340282366920938463463374607431768211456*wd 2 a<2 ^ 192 by omega);rw[← e] at this;omega
theorem mu {a:Nat} (ha:a<ze) (hz:∀ j,j<4→wd j a=0):a=0:=by
 have hv:=vC ha;rw[hz 0 Om,hz 1 Om,hz 2 Om,hz 3 Om] at hv;simp[uW] at hv;omega
def vK (a i:Nat):Nat:=a / 2 ^ i%2
theorem re (a i:Nat):vK a i≤1:=by unfold vK;omega
theorem kq {a:Nat} (ha:a<ze) (i r:Nat) (hi:i<4) (hr:r<64):wd i a / 2 ^ r%2=vK a (64*i+r):=by
 unfold vK;rw[Nat.pow_add,← Nat.div_div_eq_div_mul];have:i=0∨i=1∨i=2∨i=3:=by omega
 have gen:∀ n:Nat,n%18446744073709551616 / 2 ^ r%2=n / 2 ^ r%2:=by
  intro n;have e:(18446744073709551616:Nat)=2 ^ r*(2*2 ^ (63 - r)):=by
   rw[← Nat.pow_succ',← Nat.pow_add,show r+(63 - r+1)=64 by omega]
  rw[e,Nat.mod_mul_right_div_self,Nat.mod_mul_right_mod]
 rcases this with rfl|rfl|rfl|rfl<;>simp only[wd,gen]<;>simp
theorem ef {a:Nat} (ha:a<ze) {i:Nat} (hi:256≤i):vK a i=0:=by
 unfold vK;have:a / 2 ^ i=0:=Nat.div_eq_of_lt (Nat.lt_of_lt_of_le (show a<2 ^ 256 by unfold ze at ha;omega) (Nat.pow_le_pow_right Om hi));rw[this]
theorem aby (n:Nat) {i:Nat} (h:i<4):wd i n=n / 2 ^ (64*i)%2 ^ 64:=by
 have:i=0∨i=1∨i=2∨i=3:=by omega
 rcases this with rfl|rfl|rfl|rfl<;>simp[wd]
theorem dL (a i:Nat) (h:i<4):a / 2 ^ (64*i)=a / 2 ^ (64*(i+1))*18446744073709551616+wd i a:=by
 rw[aby a h,show 64*(i+1)=64*i+64 by omega,Nat.pow_add,← Nat.div_div_eq_div_mul,show (2:Nat) ^ 64=18446744073709551616 by decide];generalize a / 2 ^ (64*i)=x;omega
def u9 (a b k:Nat):Nat:=a / 2 ^ (64*k)%b
theorem ja (a k:Nat) {b:Nat} (hb:0<b):u9 a b k<b:=Nat.mod_lt _ hb
theorem fH (a b i:Nat) (h:i<4) (hb:0<b):(u9 a b (i+1)*18446744073709551616+wd i a) / b=wd i (a / b)∧(u9 a b (i+1)*18446744073709551616+wd i a)%b=u9 a b i:=by
 have hs:=dL a i h;have hq:a / b / 2 ^ (64*i)=a / 2 ^ (64*i) / b:=by rw[Nat.div_div_eq_div_mul,Nat.div_div_eq_div_mul,Nat.mul_comm]
 have hw:=z8 i a;unfold u9;rw[aby (a / b) h,hq,hs];generalize a / 2 ^ (64*(i+1))=x at *;generalize wd i a=d at *;have e:x*18446744073709551616+d=x%b*18446744073709551616+d+b*(x / b*18446744073709551616):=by
  have:=Nat.div_add_mod x b;have h2:b*(x / b*18446744073709551616)=(b*(x / b))*18446744073709551616:=by rw[Nat.mul_assoc]
  rw[h2];generalize b*(x / b)=y at *;omega
 have hlt:(x%b*18446744073709551616+d) / b<18446744073709551616:=by
  rw[Nat.div_lt_iff_lt_mul hb];have:=Nat.mod_lt x hb;generalize x%b=y at *;have:(y+1)*18446744073709551616≤b*18446744073709551616:=Nat.mul_le_mul_right _ this;rw[Nat.mul_comm b] at this;omega
 rw[e,Nat.add_mul_div_left _ _ hb,Nat.add_mul_mod_self_left];refine⟨?_,rfl⟩;rw[show (2:Nat) ^ 64=18446744073709551616 by decide,Nat.add_mul_mod_self_right,Nat.mod_eq_of_lt hlt]
theorem ei {a b:Nat} (ha:a<ze):u9 a b 4=0:=by
 unfold u9;rw[Nat.div_eq_of_lt (by simpa [ze] using ha)];simp
theorem iw (a b:Nat):u9 a b 0=a%b:=by simp[u9]
def qc (D k j:Nat):Nat:=if j<k then 0 else wd j D
def yY (D m:Nat):Nat:=D / 2 ^ m*2 ^ m
theorem tn (D:Nat):yY D 0=D:=by simp[yY]
theorem eT {D m:Nat} (h:D<2 ^ m):yY D m=0:=by simp[yY,Nat.div_eq_of_lt h]
theorem kd (n:Nat) {i:Nat} (h:i<4) (t:Nat):(wd i n).testBit t=(decide (t<64) && n.testBit (64*i+t)):=by
 rw[aby n h,Nat.testBit_mod_two_pow,Nat.testBit_div_two_pow,Nat.add_comm t]
theorem sy (D m t:Nat):(yY D m).testBit t=(decide (m≤t) && D.testBit t):=by
 unfold yY;rw[Nat.mul_comm,Nat.testBit_two_pow_mul,Nat.testBit_div_two_pow]
 by_cases h:m≤t
 ·simp[h,show t - m+m=t by omega]
 ·simp[h]
theorem fJ (D m:Nat):vK D m=(D.testBit m).toNat:=by
 unfold vK;rw[Nat.testBit_eq_decide_div_mod_eq];have:=Nat.mod_two_eq_zero_or_one (D / 2 ^ m)
 rcases this with h|h<;>simp[h]
theorem j3 (D m:Nat) {j:Nat} (h:j<4) (hj:j≠m / 64):wd j (yY D (m+1))=wd j (yY D m):=by
 apply Nat.eq_of_testBit_eq;intro t;rw[kd _ h,kd _ h,sy,sy]
 by_cases ht:t<64
 ·have:decide (m+1≤64*j+t)=decide (m≤64*j+t):=by
   rw[decide_eq_decide];omega
  rw[this]
 ·simp[ht]
theorem iQ (s:Nat):Nat.testBit 1 (s+1)=false:=by simp[Nat.testBit_succ]
theorem iZ (D m:Nat) (h:m<256):wd (m / 64) (yY D (m+1)) ||| vK D m*2 ^ (m%64)=wd (m / 64) (yY D m):=by
 apply Nat.eq_of_testBit_eq;intro t;rw[Nat.testBit_or,kd _ Om,kd _ Om,sy,sy,Nat.mul_comm (vK D m),Nat.testBit_two_pow_mul,fJ]
 by_cases ht:t<64
 ·by_cases h1:m%64=t
  ·have e:64*(m / 64)+t=m:=by omega
   subst h1;rw[e];cases D.testBit m<;>simp<;>omega
  ·have e1:decide (m+1≤64*(m / 64)+t)=decide (m≤64*(m / 64)+t):=by rw[decide_eq_decide];omega
   rw[e1]
   by_cases h2:m%64≤t
   ·obtain⟨s,hs⟩ : ∃ s,t - m%64=s+1:=⟨t - m%64 - 1,by omega⟩;rw[hs];cases D.testBit m<;>simp[iQ]
   ·simp[h2]
 ·rcases Nat.lt_or_ge t (m%64) with h2|h2
  ·omega
  ·obtain⟨s,hs⟩ : ∃ s,t - m%64=s+1:=⟨t - m%64 - 1,by omega⟩;rw[hs];cases D.testBit m<;>simp[ht,iQ]
theorem jt (a m:Nat):a / 2 ^ m=a / 2 ^ (m+1)+a / 2 ^ (m+1)+vK a m:=by
 unfold vK;rw[Nat.pow_succ,← Nat.div_div_eq_div_mul];omega
theorem km {a b:Nat} (m:Nat) (hb:0<b):(a / 2 ^ (m+1)%b+a / 2 ^ (m+1)%b+vK a m)%b=a / 2 ^ m%b ∧
  (a / 2 ^ (m+1)%b+a / 2 ^ (m+1)%b+vK a m) / b=vK (a / b) m:=by
 have hs:=jt a m;have hle:=re a m;have hq:vK (a / b) m=a / 2 ^ m / b%2:=by
  unfold vK;rw[Nat.div_div_eq_div_mul,Nat.div_div_eq_div_mul,Nat.mul_comm]
 rw[hq,hs];generalize a / 2 ^ (m+1)=x at *;generalize vK a m=d at *;have e:x+x+d=x%b+x%b+d+b*(2*(x / b)):=by
  have:=Nat.div_add_mod x b;have h2:b*(2*(x / b))=2*(b*(x / b)):=by rw[Nat.mul_left_comm]
  rw[h2];generalize b*(x / b)=y at *;omega
 have hlt:(x%b+x%b+d) / b<2:=by
  rw[Nat.div_lt_iff_lt_mul hb];have:=Nat.mod_lt x hb;omega
 rw[e,Nat.add_mul_div_left _ _ hb,Nat.add_mul_mod_self_left];refine⟨rfl,?_⟩;rw[Nat.add_mul_mod_self_left,Nat.mod_eq_of_lt hlt]
def Dig (u d h l q r:Nat):Prop:=q*h+r=u∧(u*4294967296+d) / (h*4294967296+l)≤q
theorem Dig.start {u d h l:Nat} (hh:2147483648≤h) (hd:d<4294967296):Dig u d h l (u / h) (u%h):=by
 refine⟨by rw[Nat.mul_comm];exact Nat.div_add_mod u h,?_⟩;have hp:0<h*4294967296+l:=by omega
 have hhp:0<h:=by omega
 rw[Nat.div_le_iff_le_mul_add_pred hp];have h1:=Nat.div_add_mod u h;have h2:=Nat.mod_lt u hhp;generalize u / h=q at *;generalize u%h=r at *;subst h1;have:(h*4294967296+l)*q=(h*q)*4294967296+l*q:=by rw[Nat.add_mul,Nat.mul_right_comm]
 rw[this];have:(h*q+r)*4294967296+d=(h*q)*4294967296+r*4294967296+d:=by omega
 omega
theorem Dig.down {u d h l q r:Nat} (hD:Dig u d h l q r) (hu:u<h*4294967296+l) (hd:d<4294967296) (hh:2147483648≤h)
  (hc:4294967296≤q∨4294967296*r+d<q*l):1≤q∧Dig u d h l (q - 1) (r+h):=by
 obtain⟨h1,h2⟩:=hD;have hp:0<h*4294967296+l:=by omega
 have hlt:(u*4294967296+d) / (h*4294967296+l)<q:=by
  rw[Nat.div_lt_iff_lt_mul hp]
  rcases hc with hc|hc
  ·have:4294967296*(h*4294967296+l)≤q*(h*4294967296+l):=Nat.mul_le_mul_right _ hc;generalize q*(h*4294967296+l)=z at *;omega
  ·have:q*(h*4294967296+l)=(q*h)*4294967296+q*l:=by rw[Nat.mul_add,Nat.mul_assoc]
   rw[this];omega
 have hq0:=Nat.lt_of_le_of_lt (Nat.zero_le _) hlt;obtain⟨q',rfl⟩ : ∃ q',q=q' + 1:=⟨q - 1,by omega⟩;refine⟨by omega,?_,Nat.le_of_lt_succ hlt⟩;simp only[Nat.add_sub_cancel];rw[Nat.add_mul,Nat.one_mul] at h1;omega
theorem Dig.stop {u d h l q r:Nat} (hD:Dig u d h l q r) (hq:q*l≤4294967296*r+d) (hh:2147483648≤h):q=(u*4294967296+d) / (h*4294967296+l):=by
 obtain⟨h1,h2⟩:=hD;have hp:0<h*4294967296+l:=by omega
 refine Nat.le_antisymm ?_ h2;rw[Nat.le_div_iff_mul_le hp];have:q*(h*4294967296+l)=(q*h)*4294967296+q*l:=by rw[Nat.mul_add,Nat.mul_assoc]
 rw[this];omega
theorem Dig.break_ {u d h l q r:Nat} (hD:Dig u d h l q r) (hr:4294967296≤r) (hu:u<h*4294967296+l) (hl:l<4294967296) (hh:2147483648≤h):q=(u*4294967296+d) / (h*4294967296+l):=by
 refine hD.stop ?_ hh;obtain⟨h1,h2⟩:=hD;have hq:q<4294967296:=by
  rcases Nat.lt_or_ge q 4294967296 with h3|h3
  ·exact h3
  ·have:4294967296*h≤q*h:=Nat.mul_le_mul_right _ h3;omega
 have:q*l≤4294967295*4294967295:=Nat.mul_le_mul Om Om;omega
theorem Dig.le {u d h l q r:Nat} (hD:Dig u d h l q r) (hu:u<18446744073709551616) (hh:2147483648≤h):q<8589934592∧r≤u:=by
 obtain⟨h1,_⟩:=hD;refine⟨?_,by omega⟩
 rcases Nat.lt_or_ge q 8589934592 with h3|h3
 ·exact h3
 ·have:8589934592*2147483648≤q*h:=Nat.mul_le_mul h3 hh;omega
theorem ai {u d Y:Nat} (hu:u<Y) (hd:d<4294967296):(u*4294967296+d) / Y<4294967296:=by
 rw[Nat.div_lt_iff_lt_mul Om];omega
theorem ie {hi lo y s:Nat} (hs:s<64) (hy:y*2 ^ s<18446744073709551616) (hhi:hi<y) (hlo:lo<18446744073709551616) :
  hi*2 ^ s+lo / 2 ^ (64 - s)<y*2 ^ s ∧
  (hi*2 ^ s+lo / 2 ^ (64 - s))*18446744073709551616+lo*2 ^ s%18446744073709551616=(hi*18446744073709551616+lo)*2 ^ s:=by
 have hp:0<2 ^ (64 - s):=Nat.two_pow_pos _;have e:(18446744073709551616:Nat)=2 ^ s*2 ^ (64 - s):=by rw[← Nat.pow_add,show s+(64 - s)=64 by omega]
 have h1:lo / 2 ^ (64 - s)<2 ^ s:=by
  rw[Nat.div_lt_iff_lt_mul hp,← e];exact hlo
 have h2:(hi+1)*2 ^ s≤y*2 ^ s:=Nat.mul_le_mul_right _ hhi;rw[Nat.add_mul] at h2;refine⟨by omega,?_⟩;have h3:lo*2 ^ s / 18446744073709551616=lo / 2 ^ (64 - s):=by
  rw[e,Nat.mul_comm (2 ^ s) (2 ^ (64 - s)),← Nat.div_div_eq_div_mul,Nat.mul_comm lo,Nat.div_div_eq_div_mul,Nat.mul_comm (2 ^ (64 - s)),← Nat.div_div_eq_div_mul,Nat.mul_div_cancel_left _ (Nat.two_pow_pos _)]
 have h4:=Nat.div_add_mod (lo*2 ^ s) 18446744073709551616;rw[h3] at h4;rw[Nat.add_mul,Nat.add_mul,Nat.mul_right_comm];omega
theorem bs {hi lo s:Nat} (hs:s<64) (hlo:lo<18446744073709551616):(hi*2 ^ s) ||| (lo / 2 ^ (64 - s))=hi*2 ^ s+lo / 2 ^ (64 - s):=by
 refine nat_join s _ _ (Nat.mul_mod_left _ _) ?_;rw[Nat.div_lt_iff_lt_mul (Nat.two_pow_pos _),← Nat.pow_add,show s+(64 - s)=64 by omega];exact hlo
theorem jN {u d1 d0 Y q1 r1:Nat} (hY:0<Y) (e1:q1=(u*4294967296+d1) / Y) (e2:r1=(u*4294967296+d1)%Y) :
  q1*4294967296+(r1*4294967296+d0) / Y=(u*18446744073709551616+(d1*4294967296+d0)) / Y ∧
  (r1*4294967296+d0)%Y=(u*18446744073709551616+(d1*4294967296+d0))%Y:=by
 have h1:Y*q1+r1=u*4294967296+d1:=by rw[e1,e2];exact Nat.div_add_mod _ _
 clear e1 e2;have h2:Y*(q1*4294967296)=(Y*q1)*4294967296:=by rw[Nat.mul_assoc]
 have e:u*18446744073709551616+(d1*4294967296+d0)=(r1*4294967296+d0)+Y*(q1*4294967296):=by
  rw[h2];generalize Y*q1=z at h1;omega
 rw[e,Nat.add_mul_div_left _ _ hY,Nat.add_mul_mod_self_left];exact⟨Nat.add_comm _ _,rfl⟩
theorem aat {U y p:Nat} (hp:0<p):U*p / (y*p)=U / y∧U*p%(y*p) / p=U%y:=by
 refine⟨Nat.mul_div_mul_right _ _ hp,?_⟩;rw[Nat.mul_mod_mul_right,Nat.mul_div_cancel _ hp]
theorem cX {y:Nat} (h0:y≠0) (h:y<18446744073709551616):zF y≤64∧1≤zF y∧9223372036854775808≤y*2 ^ (64 - zF y)∧y*2 ^ (64 - zF y)<18446744073709551616:=by
 obtain⟨h1,h2,h3⟩:=uK h0;have h4:zF y≤64:=yU h;refine⟨h4,h1,?_,?_⟩
 ·have:=Nat.mul_le_mul_right (2 ^ (64 - zF y)) h2;rw[← Nat.pow_add,show zF y - 1+(64 - zF y)=63 by omega] at this;exact this
 ·have:=Nat.mul_lt_mul_of_pos_right h3 (Nat.two_pow_pos (64 - zF y));rw[← Nat.pow_add,show zF y+(64 - zF y)=64 by omega] at this;exact this
def WB:Nat:=18446744073709551616
def iu:List Nat→Nat
 | []=>0
 | x::l=>x+WB*iu l
theorem oq:∀ (l:LN) (j v:Nat),j<l.length→iu (l.set j v)+l.getD j 0*WB ^ j=iu l+v*WB ^ j
 | [],_,_,h=>by simp at h
 | x::l,0,v,_=>by simp[iu];omega
 | x::l,j+1,v,h=>by
  have ih:=oq l j v (by simpa using h);simp only[List.set_cons_succ,iu,List.getD_cons_succ,Nat.pow_succ'];have h1:WB*(iu (l.set j v)+l.getD j 0*WB ^ j)=WB*(iu l+v*WB ^ j):=by rw[ih]
  rw[Nat.mul_add,Nat.mul_add] at h1;rw[show l.getD j 0*(WB*WB ^ j)=WB*(l.getD j 0*WB ^ j) by rw[Nat.mul_left_comm],show v*(WB*WB ^ j)=WB*(v*WB ^ j) by rw[Nat.mul_left_comm]];omega
theorem j1 (n:Nat):iu (List.replicate n 0)=0:=by
 induction n with
 | zero=>rfl
 | succ n ih=>simp[List.replicate_succ,iu,ih]
def rK (a:Nat):Nat→Nat
 | 0=>0
 | k+1=>rK a k+wd k a*WB ^ k
theorem mz {a:Nat} (h:a<ze):rK a 4=a:=by
 have:=vC h;simp only[rK,uW,WB] at *;omega
def uz (a b i k more:Nat) (l:LN):Prop :=
 l.length=8∧(∀ x∈l,x<18446744073709551616)∧more<18446744073709551616∧(∀ j,i+4≤j→l.getD j 0=0) ∧
 iu l+more*WB ^ (i+k)=rK a i*b+wd i a*rK b k*WB ^ i
theorem uz.step {a b i k more:Nat} {l:LN} (h:uz a b i k more l) (hi:i<4) (hk:k<4) :
  uz a b i (k+1) ((wd i a*wd k b+l.getD (i+k) 0+more) / 18446744073709551616) (l.set (i+k) ((wd i a*wd k b+l.getD (i+k) 0+more)%18446744073709551616)):=by
 obtain⟨h1,h2,h3,h4,h5⟩:=h;have hx:=z8 i a;have hy:=z8 k b;have hl:l.getD (i+k) 0<18446744073709551616:=by
  rw[List.getD_eq_getElem?_getD,List.getElem?_eq_getElem Om,Option.getD_some];exact h2 _ (List.getElem_mem _)
 have hm:wd i a*wd k b≤18446744073709551615*18446744073709551615:=Nat.mul_le_mul Om Om;have hdm:=Nat.div_add_mod (wd i a*wd k b+l.getD (i+k) 0+more) 18446744073709551616;refine⟨by simp[h1],fun x hx'=>?_,?_,fun j hj=>?_,?_⟩
 ·rcases List.mem_or_eq_of_mem_set hx' with h|h
  ·exact h2 x h
  ·rw[h];exact Nat.mod_lt _ Om
 ·generalize wd i a*wd k b=p at *;omega
 ·rw[List.getD_eq_getElem?_getD,List.getElem?_set_ne Om,← List.getD_eq_getElem?_getD];exact h4 j hj
 ·have hs:=oq l (i+k) ((wd i a*wd k b+l.getD (i+k) 0+more)%18446744073709551616) Om;generalize (wd i a*wd k b+l.getD (i+k) 0+more) / 18446744073709551616=H at *;generalize (wd i a*wd k b+l.getD (i+k) 0+more)%18446744073709551616=L at *;generalize iu (l.set (i+k) L)=V' at *;generalize l.getD (i+k) 0=c at *;have e1:H*WB ^ (i+(k+1))=(WB*H)*WB ^ (i+k):=by
   rw[show i+(k+1)=(i+k)+1 by omega,Nat.pow_succ',← Nat.mul_assoc,Nat.mul_comm H WB]
  have e2:(18446744073709551616*H+L)*WB ^ (i+k)=(wd i a*wd k b+c+more)*WB ^ (i+k):=by rw[hdm]
  rw[Nat.add_mul,Nat.add_mul,Nat.add_mul] at e2;have e3:wd i a*rK b (k+1)*WB ^ i=wd i a*rK b k*WB ^ i+wd i a*wd k b*WB ^ (i+k):=by
   simp only[rK];rw[Nat.mul_add,Nat.add_mul];congr 1;rw[Nat.pow_add,Nat.mul_assoc,Nat.mul_assoc,Nat.mul_assoc,Nat.mul_comm (WB ^ k) (WB ^ i)]
  rw[e1,e3];have e4:WB*H=18446744073709551616*H:=rfl;rw[e4];omega
theorem uz.next {a b i more:Nat} {l:LN} (h:uz a b i 4 more l) (hb:b<ze) (hi:i<4):uz a b (i+1) 0 0 (l.set (i+4) more):=by
 obtain⟨h1,h2,h3,h4,h5⟩:=h;have hs:=oq l (i+4) more Om;rw[h4 (i+4) Om] at hs;refine⟨by simp[h1],fun x hx=>?_,by omega,fun j hj=>?_,?_⟩
 ·rcases List.mem_or_eq_of_mem_set hx with h|h
  ·exact h2 x h
  ·rw[h];exact h3
 ·rw[List.getD_eq_getElem?_getD,List.getElem?_set_ne Om,← List.getD_eq_getElem?_getD];exact h4 j Om
 ·rw[mz hb] at h5;simp only[rK,Nat.zero_mul,Nat.mul_zero,Nat.add_zero] at hs ⊢;rw[Nat.add_mul,hs,h5,Nat.mul_assoc,Nat.mul_comm b,← Nat.mul_assoc]
theorem uz.start (a b:Nat):uz a b 0 0 0 (List.replicate 8 0):=by
 refine⟨rfl,fun x hx=>?_,by omega,fun j _=>?_,?_⟩
 ·rw[List.eq_of_mem_replicate hx];omega
 ·have:∀ (n j:Nat),(List.replicate n 0).getD j 0=0:=by
   intro n j;rw[List.getD_eq_getElem?_getD,List.getElem?_replicate]
   split<;>rfl
  exact this 8 j
 ·rw[j1];simp[rK]
theorem acv {a b:Nat} {l:LN} (h:uz a b 4 0 0 l) (ha:a<ze) :
  uW (l.getD 0 0) (l.getD 1 0) (l.getD 2 0) (l.getD 3 0)=a*b%ze∧uW (l.getD 4 0) (l.getD 5 0) (l.getD 6 0) (l.getD 7 0)=a*b / ze:=by
 obtain⟨h1,h2,_,_,h5⟩:=h;rw[mz ha] at h5
 match l,h1 with
 | [x0,x1,x2,x3,x4,x5,x6,x7],_ =>
  have b0:=h2 x0 (by simp);have b1:=h2 x1 (by simp);have b2:=h2 x2 (by simp);have b3:=h2 x3 (by simp);simp only[rK,Nat.zero_mul,Nat.mul_zero,Nat.add_zero] at h5;rw[← h5];have hlo:=mS b0 b1 b2 b3;have e:iu [x0,x1,x2,x3,x4,x5,x6,x7]=uW x0 x1 x2 x3+ze*uW x4 x5 x6 x7:=by
   simp only[iu,WB,uW,ze];omega
  rw[e];show uW x0 x1 x2 x3=_∧uW x4 x5 x6 x7=_;have hp:0<ze:=by unfold ze;omega
  rw[Nat.add_mul_mod_self_left,Nat.mod_eq_of_lt hlo,Nat.add_mul_div_left _ _ hp,Nat.div_eq_of_lt hlo];exact⟨rfl,by omega⟩
end
section
namespace Sx
def uf (q:Nat) (l:LN):Bool:=decide (1<q) && l.all (fun x=>decide (x<q))
theorem vH {q:Nat} {l:LN} (h:uf q l=true):1<q∧∀ x∈l,x<q:=by
 unfold uf at h;simpa using h
def ya:List Nat→Nat→Nat
 | [],_=>0
 | c::r,x=>c+x*ya r x
theorem jL (p:LN) (c x:Nat):ya (p++[c]) x=ya p x+c*x ^ p.length:=by
 induction p with
 | nil=>simp[ya]
 | cons a r ih =>
  simp only[List.cons_append,ya,ih,List.length_cons,Nat.pow_succ,Nat.mul_add];rw[Nat.add_assoc,Nat.mul_left_comm x c,Nat.mul_comm x (x ^ r.length)]
def j6 (q x:Nat):List Nat→Nat
 | []=>0
 | c::r=>(j6 q x r*x%q+c)%q
theorem cG (q x:Nat) (p:LN):j6 q x p=ya p x%q:=by
 induction p with
 | nil=>simp[j6,ya]
 | cons c r ih =>
  simp only[j6,ya,ih];rw[Nat.mod_mul_mod,Nat.mod_add_mod,Nat.add_comm,Nat.mul_comm]
def ofZ (q:Nat) (n:Int):Nat:=if q<2 then 0 else (n%(q:Int)).toNat
theorem fD (q m:Nat) (h:0<q):ofZ q (m:Int)=m%q:=by
 unfold ofZ;split
 ·have:q=1:=by omega
  subst this;rw[Nat.mod_one]
 ·rw[← Int.natCast_emod,Int.toNat_natCast]
end Sx
end
end Go.Proofs.YtiaibpcaloigkaaGreatDoor
