/- Part 12 of the proof. -/
import Derived.Test.YtiiefkchpicncaaGreatDoorB05
import Derived.Test.YtiiefkchpicncaaGreatDoorB11
set_option linter.unusedSimpArgs false
set_option linter.unusedVariables false
set_option maxHeartbeats 8000000
namespace Go.Proofs.YtiiefkchpicncaaGreatDoor
section
open Go Go.RowKit
namespace Sx
theorem Fn.of {P:Program} {f:FuncId} {args:List Value} {v:Value} (h:∀ w,Calls P f args.toArray w fun e w'=>e=.returned v∧Below w.heap.size w w'):Fn P f args Tr (Is v) :=
 fun w _=>(h w).mono fun _ _ ⟨h1,h2⟩=>⟨v,[],h1,h2,.nil _ _,rfl⟩
theorem y7 : 1<zd:=by unfold zd;omega
theorem sj {n:Nat} (h:n<18446744073709551616):n<zd:=by unfold zd;omega
theorem ab4 (n:Nat) (h:n<18446744073709551616:=by omega):Fn Tryz.prog 52 [.int .u64 (n:Int)] Tr (Is (zk n)):=.of fun w=>j5 n h w
theorem ud:Fn Tryz.prog 52 [.int .u64 1] Tr (Is (zk 1)):=ab4 1
theorem mo:Fn Tryz.prog 52 [.int .u64 0] Tr (Is (zk 0)):=ab4 0
theorem kY (a b:Nat) (ha:a<zd) (hb:b<zd):Fn Tryz.prog 25 [zk a,zk b] Tr (Is (.int .i64 (uQ a b))):=.of fun w=>cn a b ha hb w
theorem mG (a:Nat) (ha:a<zd):Fn Tryz.prog 106 [zk a] Tr (Is (.int .i64 (zK a:Nat))):=.of fun w=>te a ha w
theorem agY (a:Nat) (i:Int) (ha:a<zd) (h0:0≤i) (h1:i≤1000000):Fn Tryz.prog 152 [zk a,.int .i64 i] Tr (Is (.int .u64 (uE a i.toNat:Nat))):=.of fun w=>qk a i ha h0 h1 w
theorem adc (a b:Nat) (ha:a<zd) (hb:b<zd):Fn Tryz.prog 203 [zk a,zk b] Tr (Is (.tuple #[zk ((a+b)%zd),.int .u64 (((a+b) / zd:Nat):Int)])):=.of fun w=>lL a b ha hb w
theorem ac2 (a b:Nat) (ha:a<zd) (hb:b<zd):Fn Tryz.prog 54 [zk a,zk b] Tr (Is (.tuple #[zk ((a+zd - b)%zd),.int .u64 ((bw a b 0:Nat):Int)])):=.of fun w=>tX a b ha hb w
theorem ahO (a b:Nat) (ha:a<zd) (hb:b<zd) (h0:0<b):Fn Tryz.prog 192 [zk a,zk b] Tr (Is (.tuple #[zk (a / b),zk (a%b),.int .i64 0])):=.of fun w=>qj a b ha hb h0 w
theorem abY (a b:Nat) (ha:a<zd) (hb:b<zd):Fn Tryz.prog 191 [zk a,zk b] Tr (Is (zk (Nat.gcd a b))):=.of fun w=>qL a b ha hb w
theorem ag9 (lo hi m:Nat) (hlo:lo<zd) (hhi:hi<zd) (hm:m<zd) (h0:0<m):Fn Tryz.prog 156 [zk lo,zk hi,zk m] Tr (Is (.tuple #[zk ((hi*zd+lo)%m),.int .i64 0])):=.of fun w=>sL lo hi m hlo hhi hm h0 w
theorem jL (a b m:Nat) (ha:a<m) (hb:b<m) (hm:m<zd):Fn Tryz.prog 112 [zk a,zk b,zk m] Tr (Is (zk (a*b%m))):=.of fun w=>fk a b m ha hb hm w
theorem ag6 (a b m:Nat) (ha:a<m) (hb:b<m) (hm:m<18446744073709551616):Fn Tryz.prog 109 [.int .u64 (a:Int),.int .u64 (b:Int),.int .u64 (m:Int)] Tr (Is (.int .u64 ((a*b%m:Nat):Int))):=.of fun w=>lX a b m ha hb hm w
section
variable {w0:World} {gs:List Nat} {K:List (Nat × Value)} {L:List Ent}
theorem vW (op:BinOp) (x y:Operand) (a b:Array Value) (w:World):(eqGuard op 24 x y (.agg a) (.agg b)).run Tryz.prog w=.ok () w:=by
 cases op<;>kernel_rfl
theorem yK {x y:Operand} {yt ty:TypeId} {a b:Nat} (hx:ev K x=some (zk a):=by rfl) (hy:ev K y=some (zk b):=by rfl) (ha:a<zd:=by first|assumption|omega|exact y7|exact zF) (hb:b<zd:=by first|assumption|omega|exact y7|exact zF) :
  Does Tryz.prog w0 gs K L (.binOp .eql 24 x y yt) ty (.bool (decide (a=b))):=by
 intro ac w hk _ o ho _;have h1:=pm ha hb w;simp only[execOp,ho,hk.eval hx,hk.eval hy,Sem.run_bind,vW,Result.andThen_ok,h1,Sem.run_pure];rfl
theorem u7 {x y:Operand} {yt ty:TypeId} {a b:Nat} (hx:ev K x=some (zk a):=by rfl) (hy:ev K y=some (zk b):=by rfl) (ha:a<zd:=by first|assumption|omega|exact y7|exact zF) (hb:b<zd:=by first|assumption|omega|exact y7|exact zF) :
  Does Tryz.prog w0 gs K L (.binOp .neq 24 x y yt) ty (.bool (decide (a≠b))):=by
 intro ac w hk _ o ho _;have h1:=yf ha hb w;have h2:(binOp .neq 24 (zk a) (zk b)).run Tryz.prog w=.ok (.bool (!eqN a b)) w:=by
  show ((do pure (.bool (!(← Op.equal 24 (zk a) (zk b)))):Sem Value)).run Tryz.prog w=_;simp only[Sem.run_bind];show ((Op.equalIn 10000 24 (zk a) (zk b)).run Tryz.prog w).andThen _=_;rw[h1];rfl
 simp only[execOp,ho,hk.eval hx,hk.eval hy,Sem.run_bind,vW,Result.andThen_ok,h2,Sem.run_pure];simp[eqN]
end
section
variable {p q:Prop}
theorem Tc (k:p) (h:p→q:=by first|exact fun k=>Tb k|exact fun k=>WO.does yK k|exact fun k=>WO.does u7 k):q:=h k
theorem Tw (k:p) (h:p→q:=by first|exact fun k=>Ta k|exact fun k=>Tc k):q:=h k
theorem Df (k:p) (h:p→q:=by first|exact fun k=>DQ.auto (k:=k)|exact fun k=>DQ.autoF (k:=k)|exact fun k=>DQ.does (fun s _=>yK) Dp.const k|exact fun k=>DQ.does (fun s _=>u7) Dp.const k):q:=h k
theorem Dc (k:p) (h:p→q:=by first|exact fun k=>DQ.auto (k:=k)|exact fun k=>DQ.does (fun s _=>yK) Dp.const k|exact fun k=>DQ.does (fun s _=>u7) Dp.const k):q:=h k
theorem Dx (k:p) (h:p→q:=by first|exact fun k=>Da k|exact fun k=>Dc k):q:=h k
end
end Sx
end
section
open Go Go.RowKit
namespace Sx
attribute [local irreducible] DQ WC WO WX wd
theorem bW {a b:Nat} (h:a<b):uQ a b = -1:=by unfold uQ;rw[if_neg Om,if_pos h]
theorem jn {a b:Nat} (h:b<a):uQ a b=1:=by unfold uQ;rw[if_neg Om,if_neg Om]
theorem cI {a b:Nat} (h:a=b):uQ a b=0:=by unfold uQ;rw[if_pos h]
theorem fq {a b m:Nat} (ha:a<m) (hb:b<m) (hm:m<zd) :
  ((a+b) / zd=0∧bw ((a+b)%zd) m 0=1∧(a+b)%m=(a+b)%zd) ∨
  ((a+b) / zd=1∧(a+b)%m=((a+b)%zd+zd - m)%zd) ∨
  ((a+b) / zd=0∧bw ((a+b)%zd) m 0=0∧(a+b)%m=((a+b)%zd+zd - m)%zd):=by
 by_cases hc:a+b<zd
 ·have e:(a+b)%zd=a+b:=Nat.mod_eq_of_lt hc;rw[e];have e0:(a+b) / zd=0:=Nat.div_eq_of_lt hc
  by_cases h:a+b<m
  ·exact .inl ⟨e0,by simp[bw];omega,Nat.mod_eq_of_lt h⟩
  ·refine .inr (.inr ⟨e0,by simp[bw];omega,?_⟩);rw[Nat.mod_eq_sub_mod Om,Nat.mod_eq_of_lt Om,show a+b+zd - m=(a+b - m)+zd by omega,Nat.add_mod_right,Nat.mod_eq_of_lt Om]
 ·have e:(a+b)%zd=a+b - zd:=by rw[Nat.mod_eq_sub_mod Om,Nat.mod_eq_of_lt Om]
  refine .inr (.inl ⟨?_,?_⟩)
  ·rw[Nat.div_eq_iff zF];omega
  ·rw[e,Nat.mod_eq_sub_mod Om,Nat.mod_eq_of_lt Om,show a+b - zd+zd - m=a+b - m by omega,Nat.mod_eq_of_lt Om]
theorem fT {a b m:Nat} (ha:a<m) (hb:b<m) (hm:m<zd) :
  (bw a b 0=0∧(a+m - b)%m=(a+zd - b)%zd)∨(bw a b 0=1∧(a+m - b)%m=((a+zd - b)%zd+m)%zd):=by
 by_cases h:a<b
 ·refine .inr ⟨by simp[bw];omega,?_⟩;rw[Nat.mod_eq_of_lt (by omega:a+m - b<m),Nat.mod_eq_of_lt (by omega:a+zd - b<zd),show a+zd - b+m=(a+m - b)+zd by omega,Nat.add_mod_right,Nat.mod_eq_of_lt Om]
 ·refine .inl ⟨by simp[bw];omega,?_⟩;rw[show a+m - b=(a - b)+m by omega,Nat.add_mod_right,Nat.mod_eq_of_lt Om,show a+zd - b=(a - b)+zd by omega,Nat.add_mod_right,Nat.mod_eq_of_lt Om]
theorem agO (a b c:Nat):bw a b c=0∨bw a b c=1:=by unfold bw;split<;>simp
theorem agA (a b m:Nat) (ha:a<m) (hb:b<m) (hm:m<zd):Fn Tryz.prog 202 [zk a,zk b,zk m] Tr (Is (zk ((a+b)%m))):=by
 have hc:=fq ha hb hm;have hA:=adc a b Om Om;have hS:=ac2 ((a+b)%zd) m (Nat.mod_lt _ zF) hm;have hl:=agO ((a+b)%zd) m 0;generalize (a+b)%m=R at *;generalize (a+b) / zd=c at *;generalize ((a+b)%zd+zd - m)%zd=y at *;generalize bw ((a+b)%zd) m 0=l at *;generalize (a+b)%zd=X at *
 rcases hc with ⟨rfl,rfl,rfl⟩|⟨rfl,rfl⟩|⟨rfl,rfl,rfl⟩
 ·refine Fn.enter Tryz.func202 rfl rfl rfl ?_;intro w hw
  repeat (first|refine Ta ?_|(refine Tm ?_;intro _)|refine WO.acall (hc:=hA) (k:=?_)|refine WO.acall (hc:=hS) (k:=?_)|refine Tc ?_|exact Tz)
 ·rcases hl with rfl|rfl
  all_goals
   refine Fn.enter Tryz.func202 rfl rfl rfl ?_;intro w hw
   repeat (first|refine Ta ?_|(refine Tm ?_;intro _)|refine WO.acall (hc:=hA) (k:=?_)|refine WO.acall (hc:=hS) (k:=?_)|refine Tc ?_|exact Tz)
 ·refine Fn.enter Tryz.func202 rfl rfl rfl ?_;intro w hw
  repeat (first|refine Ta ?_|(refine Tm ?_;intro _)|refine WO.acall (hc:=hA) (k:=?_)|refine WO.acall (hc:=hS) (k:=?_)|refine Tc ?_|exact Tz)
theorem afU (a b m:Nat) (ha:a<m) (hb:b<m) (hm:m<zd):Fn Tryz.prog 210 [zk a,zk b,zk m] Tr (Is (zk ((a+m - b)%m))):=by
 have hc:=fT ha hb hm;have hS:=ac2 a b Om Om;have hA:=adc ((a+zd - b)%zd) m (Nat.mod_lt _ zF) hm;generalize (a+m - b)%m=R at *;generalize ((a+zd - b)%zd+m) / zd=c at *;generalize ((a+zd - b)%zd+m)%zd=y at *;generalize bw a b 0=l at *;generalize (a+zd - b)%zd=X at *
 rcases hc with ⟨rfl,rfl⟩|⟨rfl,rfl⟩
 all_goals
  refine Fn.enter Tryz.func210 rfl rfl rfl ?_;intro w hw
  repeat (first|refine Ta ?_|(refine Tm ?_;intro _)|refine WO.acall (hc:=hA) (k:=?_)|refine WO.acall (hc:=hS) (k:=?_)|refine Tc ?_|exact Tz)
def okE (c:Bool):Int:=if c then 0 else 1
def okV (c:Bool) (r:Nat):Nat:=if c then r else 0
def zQ (a b m:Nat):Bool:=decide (1<m) && decide (a<m) && decide (b<m)
theorem fU (a b m:Nat):(1<m∧a<m∧b<m∧zQ a b m=true∧uQ m 1=1∧uQ a m = -1∧uQ b m = -1) ∨
  (zQ a b m=false∧((uQ m 1=0∨uQ m 1 = -1)∨(uQ m 1=1∧(uQ a m=0∨uQ a m=1))∨(uQ m 1=1∧uQ a m = -1∧(uQ b m=0∨uQ b m=1)))):=by
 unfold zQ uQ
 by_cases h1:1<m
 ·by_cases h2:a<m
  ·by_cases h3:b<m
   ·refine .inl ⟨h1,h2,h3,by simp[h1,h2,h3],?_,?_,?_⟩
    ·rw[if_neg Om,if_neg Om]
    ·rw[if_neg Om,if_pos h2]
    ·rw[if_neg Om,if_pos h3]
   ·refine .inr ⟨by simp[h3],.inr (.inr ⟨?_,?_,?_⟩)⟩
    ·rw[if_neg Om,if_neg Om]
    ·rw[if_neg Om,if_pos h2]
    ·by_cases e:b=m
     ·exact .inl (if_pos e)
     ·exact .inr (by rw[if_neg e,if_neg h3])
  ·refine .inr ⟨by simp[h2],.inr (.inl ⟨?_,?_⟩)⟩
   ·rw[if_neg Om,if_neg Om]
   ·by_cases e:a=m
    ·exact .inl (if_pos e)
    ·exact .inr (by rw[if_neg e,if_neg h2])
 ·refine .inr ⟨by simp[h1],.inl ?_⟩
  by_cases e:m=1
  ·exact .inl (if_pos e)
  ·exact .inr (by rw[if_neg e,if_pos Om])
theorem agz {f:Nat} [Cal Tryz.prog f] (caps:List Value) (a b m r:Nat) (ha:a<zd) (hb:b<zd) (hm:m<zd) (R:World→Prop) (hst:zP R)
  (hf:zQ a b m=true→Fn Tryz.prog f ([zk a,zk b,zk m]++caps) R (Is (zk r))) :
  Fn Tryz.prog 113 [.agg #[.func (.func f) #[] caps.toArray],zk a,zk b,zk m] R (Is (.tuple #[zk (okV (zQ a b m) r),.int .i64 (okE (zQ a b m))])):=by
 have hC1:=kY m 1 hm y7;have hC2:=kY a m ha hm;have hC3:=kY b m hb hm
 rcases fU a b m with ⟨h1,h2,h3,hy,e1,e2,e3⟩|⟨hn,hc⟩
 ·have hF:=hf hy;rw[hy];rw[e1] at hC1;rw[e2] at hC2;rw[e3] at hC3;refine Fn.enter Tryz.func113 rfl rfl rfl ?_;intro w hw
  repeat (first|refine Tw ?_|(refine Tm ?_;intro _)|exact Tz)
  refine WC.adraw 16 (k:=?_)
  repeat (first|refine Da ?_|refine DQ.acall (hc:=ud) (k:=?_)|refine DQ.acall (hc:=hC1) (k:=?_)|refine DQ.acall (hc:=hC2) (k:=?_)|refine DQ.acall (hc:=hC3) (k:=?_)|refine Dc ?_)
  refine DQ.anil (k:=?_);intro sx _
  repeat (first|refine Ta ?_|(refine Tm ?_;intro _)|refine WO.acallV (hc:=hF) (hR:=fun w' hm=>hst _ _ hw hm.mod.below) (k:=?_)|refine Tc ?_|exact Tz)
 ·rw[hn]
  rcases hc with (e1|e1)|⟨e1,e2|e2⟩|⟨e1,e2,e3|e3⟩
  ·rw[e1] at hC1;refine Fn.enter Tryz.func113 rfl rfl rfl ?_;intro w hw
   repeat (first|refine Tw ?_|(refine Tm ?_;intro _)|exact Tz)
   refine WC.adraw 16 (k:=?_)
   repeat (first|refine Da ?_|refine DQ.acall (hc:=ud) (k:=?_)|refine DQ.acall (hc:=hC1) (k:=?_)|refine DQ.acall (hc:=hC2) (k:=?_)|refine DQ.acall (hc:=hC3) (k:=?_)|refine Dc ?_)
   refine DQ.anil (k:=?_);intro sx _
   repeat (first|refine Tw ?_|(refine Tm ?_;intro _)|exact Tz)
  ·rw[e1] at hC1;refine Fn.enter Tryz.func113 rfl rfl rfl ?_;intro w hw
   repeat (first|refine Tw ?_|(refine Tm ?_;intro _)|exact Tz)
   refine WC.adraw 16 (k:=?_)
   repeat (first|refine Da ?_|refine DQ.acall (hc:=ud) (k:=?_)|refine DQ.acall (hc:=hC1) (k:=?_)|refine DQ.acall (hc:=hC2) (k:=?_)|refine DQ.acall (hc:=hC3) (k:=?_)|refine Dc ?_)
   refine DQ.anil (k:=?_);intro sx _
   repeat (first|refine Tw ?_|(refine Tm ?_;intro _)|exact Tz)
  ·rw[e1] at hC1;rw[e2] at hC2;refine Fn.enter Tryz.func113 rfl rfl rfl ?_;intro w hw
   repeat (first|refine Tw ?_|(refine Tm ?_;intro _)|exact Tz)
   refine WC.adraw 16 (k:=?_)
   repeat (first|refine Da ?_|refine DQ.acall (hc:=ud) (k:=?_)|refine DQ.acall (hc:=hC1) (k:=?_)|refine DQ.acall (hc:=hC2) (k:=?_)|refine DQ.acall (hc:=hC3) (k:=?_)|refine Dc ?_)
   refine DQ.anil (k:=?_);intro sx _
   repeat (first|refine Tw ?_|(refine Tm ?_;intro _)|exact Tz)
  ·rw[e1] at hC1;rw[e2] at hC2;refine Fn.enter Tryz.func113 rfl rfl rfl ?_;intro w hw
   repeat (first|refine Tw ?_|(refine Tm ?_;intro _)|exact Tz)
   refine WC.adraw 16 (k:=?_)
   repeat (first|refine Da ?_|refine DQ.acall (hc:=ud) (k:=?_)|refine DQ.acall (hc:=hC1) (k:=?_)|refine DQ.acall (hc:=hC2) (k:=?_)|refine DQ.acall (hc:=hC3) (k:=?_)|refine Dc ?_)
   refine DQ.anil (k:=?_);intro sx _
   repeat (first|refine Tw ?_|(refine Tm ?_;intro _)|exact Tz)
  ·rw[e1] at hC1;rw[e2] at hC2;rw[e3] at hC3;refine Fn.enter Tryz.func113 rfl rfl rfl ?_;intro w hw
   repeat (first|refine Tw ?_|(refine Tm ?_;intro _)|exact Tz)
   refine WC.adraw 16 (k:=?_)
   repeat (first|refine Da ?_|refine DQ.acall (hc:=ud) (k:=?_)|refine DQ.acall (hc:=hC1) (k:=?_)|refine DQ.acall (hc:=hC2) (k:=?_)|refine DQ.acall (hc:=hC3) (k:=?_)|refine Dc ?_)
   refine DQ.anil (k:=?_);intro sx _
   repeat (first|refine Tw ?_|(refine Tm ?_;intro _)|exact Tz)
  ·rw[e1] at hC1;rw[e2] at hC2;rw[e3] at hC3;refine Fn.enter Tryz.func113 rfl rfl rfl ?_;intro w hw
   repeat (first|refine Tw ?_|(refine Tm ?_;intro _)|exact Tz)
   refine WC.adraw 16 (k:=?_)
   repeat (first|refine Da ?_|refine DQ.acall (hc:=ud) (k:=?_)|refine DQ.acall (hc:=hC1) (k:=?_)|refine DQ.acall (hc:=hC2) (k:=?_)|refine DQ.acall (hc:=hC3) (k:=?_)|refine Dc ?_)
   refine DQ.anil (k:=?_);intro sx _
   repeat (first|refine Tw ?_|(refine Tm ?_;intro _)|exact Tz)
theorem zN {a b m:Nat} (h:zQ a b m=true):1<m∧a<m∧b<m:=by
 unfold zQ at h;simp at h;exact⟨h.1.1,h.1.2,h.2⟩
abbrev rE (c:Bool) (r:Nat):Value:=.tuple #[zk (okV c r),.int .i64 (okE c)]
theorem ags (a b m:Nat) (ha:a<zd) (hb:b<zd) (hm:m<zd):Fn Tryz.prog 165 [zk a,zk b,zk m] Tr (Is (rE (zQ a b m) ((a+b)%m))):=by
 have hO:=agz (f:=202) [] a b m ((a+b)%m) ha hb hm Tr zP.tr (fun h=>agA a b m (zN h).2.1 (zN h).2.2 hm);refine Fn.enter Tryz.func165 rfl rfl rfl ?_;intro w hw
 repeat (first|refine Ta ?_|(refine Tm ?_;intro _)|refine WO.acall (hc:=hO) (k:=?_)|refine Tc ?_|exact Tz)
theorem aec (a b m:Nat) (ha:a<zd) (hb:b<zd) (hm:m<zd):Fn Tryz.prog 178 [zk a,zk b,zk m] Tr (Is (rE (zQ a b m) ((a+m - b)%m))):=by
 have hO:=agz (f:=210) [] a b m ((a+m - b)%m) ha hb hm Tr zP.tr (fun h=>afU a b m (zN h).2.1 (zN h).2.2 hm);refine Fn.enter Tryz.func178 rfl rfl rfl ?_;intro w hw
 repeat (first|refine Ta ?_|(refine Tm ?_;intro _)|refine WO.acall (hc:=hO) (k:=?_)|refine Tc ?_|exact Tz)
theorem afd (a b m:Nat) (ha:a<zd) (hb:b<zd) (hm:m<zd):Fn Tryz.prog 164 [zk a,zk b,zk m] Tr (Is (rE (zQ a b m) (a*b%m))):=by
 have hO:=agz (f:=112) [] a b m (a*b%m) ha hb hm Tr zP.tr (fun h=>jL a b m (zN h).2.1 (zN h).2.2 hm);refine Fn.enter Tryz.func164 rfl rfl rfl ?_;intro w hw
 repeat (first|refine Ta ?_|(refine Tm ?_;intro _)|refine WO.acall (hc:=hO) (k:=?_)|refine Tc ?_|exact Tz)
def aaw (n N k:Nat):Nat:=n / 2 ^ (N - k)
theorem pZ {n N:Nat} (h:n<2 ^ N):aaw n N 0=0:=Nat.div_eq_of_lt (by simpa using h)
theorem iO (n N:Nat):aaw n N N=n:=by unfold aaw;simp
theorem lj (n:Nat) {N k:Nat} (h:k<N):aaw n N (k+1)=2*aaw n N k+uE n (N - 1 - k):=by
 unfold aaw uE;have e:N - k=(N - 1 - k)+1:=by omega
 have e2:N - (k+1)=N - 1 - k:=by omega
 rw[e2,e,Nat.pow_succ,← Nat.div_div_eq_div_mul];omega
theorem m4 (a m t b:Nat) (hb:b=0∨b=1):a ^ (2*t+b)%m=if b=1 then (a ^ t%m*(a ^ t%m)%m)*a%m else a ^ t%m*(a ^ t%m)%m:=by
 have h1:a ^ (2*t)%m=a ^ t%m*(a ^ t%m)%m:=by rw[Nat.two_mul,Nat.pow_add,Nat.mul_mod]
 rcases hb with rfl|rfl
 ·simpa using h1
 ·rw[if_pos rfl,Nat.pow_succ,Nat.mul_mod,h1,Nat.mul_mod_mod]
theorem rl (a i:Nat):uE a i=0∨uE a i=1:=by unfold uE;omega
theorem uH (n:Nat):n<2 ^ zK n:=tE n
theorem lh {n:Nat} (h:n<zd):zK n≤256:=vm (by simpa [zd] using h)
theorem abE {f:Nat} [Cal Tryz.prog f] (caps:List Value) (a n m:Nat) (h1:1<m) (ha:a<m) (hn:n<zd) (hm:m<18446744073709551616) (R:World→Prop) (hst:zP R)
  (hf:∀ x y:Nat,x<m→y<m→Fn Tryz.prog f ([.int .u64 (x:Int),.int .u64 (y:Int)]++caps) R (Is (.int .u64 ((x*y%m:Nat):Int)))) :
  Fn Tryz.prog 107 [.int .u64 (a:Int),.int .u64 1,zk n,.func (.func f) #[] caps.toArray] R (Is (.int .u64 ((a ^ n%m:Nat):Int))):=by
 have hB:=mG n hn;have hlt:=uH n;have hN:=lh hn;have hbit:∀ i:Int,0≤i→i≤1000000→Fn Tryz.prog 152 [zk n,.int .i64 i] Tr (Is (.int .u64 (uE n i.toNat:Nat))):=fun i h0 h1=>agY n i hn h0 h1;have hend:=iO n (zK n);have hst0:=pZ hlt;have hstep:=fun k (h:k<zK n)=>lj n h;generalize zK n=N at *;refine Fn.enter Tryz.func107 rfl rfl rfl ?_;intro w hw
 repeat (first|refine Ta ?_|(refine Tm ?_;intro _)|refine WO.acall (hc:=hB) (k:=?_)|refine Tc ?_|exact Tz)
 rename_i g6;refine WC.loopI (σ:=Nat × Nat) (fun s=>s.1≤N∧s.2=a ^ aaw n N s.1%m) (fun s=>[(0,.int .u64 (a:Int)),(3,.func (.func f) #[] caps.toArray),(6,pt g6),(9,.int .u64 (s.2:Int)),(13,.int .i64 (N:Int)),(14,.int .i64 (s.1:Int))]) (fun s=>[⟨g6,24,zc n⟩]) (fun s=>N - s.1) (0,1) (fun s hs=>?_) ⟨Nat.zero_le _,by rw[hst0,Nat.pow_zero,Nat.mod_eq_of_lt h1]⟩;obtain⟨k,x⟩:=s;obtain⟨hk,hx⟩:=hs;dsimp only at hk hx ⊢;have hxm:x<m:=by rw[hx];exact Nat.mod_lt _ Om
 by_cases hlt:(k:Int)<(N:Int)
 ·have hkN:k<N:=by omega
  have hsq:=hf x x hxm hxm;have hma:=hf (x*x%m) a (Nat.mod_lt _ Om) ha;have hbt:=hbit ((N:Int) - 1 - (k:Int)) Om Om;rw[show ((N:Int) - 1 - (k:Int)).toNat=N - 1 - k by omega] at hbt;have hp:=m4 a m (aaw n N k) (uE n (N - 1 - k)) (rl _ _);rw[← hstep k hkN,← hx] at hp
  repeat (first|refine Tw ?_|(refine Tm ?_;intro _)|exact Tz)
  refine WC.dT rfl hlt ?_
  repeat (first|refine Ta ?_|(refine Tm ?_;intro _)|refine WO.acallV (hc:=hsq) (hR:=fun w' hm=>hst _ _ hw hm.mod.below) (k:=?_)|refine Tc ?_|exact Tz)
  rcases rl n (N - 1 - k) with e|e
  ·rw[e] at hbt hp;refine WC.adraw 8 (k:=?_)
   repeat (first|refine Da ?_|refine DQ.acall (hc:=hB) (k:=?_)|refine DQ.acall (hc:=hbt) (k:=?_)|refine Dc ?_)
   refine DQ.anil (k:=?_);intro sx _
   repeat (first|refine Tw ?_|(refine Tm ?_;intro _)|exact Tz)
   refine WX.metI (k+1,x*x%m) (hs:=⟨⟨by omega,by simpa using hp.symm⟩,by simp only;omega⟩)
  ·rw[e] at hbt hp;refine WC.adraw 8 (k:=?_)
   repeat (first|refine Da ?_|refine DQ.acall (hc:=hB) (k:=?_)|refine DQ.acall (hc:=hbt) (k:=?_)|refine Dc ?_)
   refine DQ.anil (k:=?_);intro sx _
   repeat (first|refine Ta ?_|(refine Tm ?_;intro _)|refine WO.acallV (hc:=hma) (hR:=fun w' hm=>hst _ _ hw hm.mod.below) (k:=?_)|refine Tc ?_|exact Tz)
   refine WX.metI (k+1,x*x%m*a%m) (hs:=⟨⟨by omega,by simpa using hp.symm⟩,by simp only;omega⟩)
 ·have hkN:k=N:=by omega
  subst hkN;rw[hend] at hx;subst hx
  repeat (first|refine Tw ?_|(refine Tm ?_;intro _)|exact Tz)
  refine WC.dF rfl hlt ?_
  repeat (first|refine Tw ?_|(refine Tm ?_;intro _)|exact Tz)
end Sx
end
section
open Go Go.RowKit
namespace Sx
attribute [local irreducible] DQ WC WO WX
theorem aaI {f:Nat} [Cal Tryz.prog f] (caps:List Value) (a n m:Nat) (h1:1<m) (ha:a<m) (hn:n<zd) (R:World→Prop) (hst:zP R)
  (hf:∀ x y:Nat,x<m→y<m→Fn Tryz.prog f ([zk x,zk y]++caps) R (Is (zk (x*y%m)))) :
  Fn Tryz.prog 110 [zk a,zk 1,zk n,.func (.func f) #[] caps.toArray] R (Is (zk (a ^ n%m))):=by
 have hB:=mG n hn;have hlt:=uH n;have hN:=lh hn;have hbit:∀ i:Int,0≤i→i≤1000000→Fn Tryz.prog 152 [zk n,.int .i64 i] Tr (Is (.int .u64 (uE n i.toNat:Nat))):=fun i h0 h1=>agY n i hn h0 h1;have hend:=iO n (zK n);have hst0:=pZ hlt;have hstep:=fun k (h:k<zK n)=>lj n h;generalize zK n=N at *;refine Fn.enter Tryz.func110 rfl rfl rfl ?_;intro w hw
 repeat (first|refine Ta ?_|(refine Tm ?_;intro _)|refine WO.acall (hc:=hB) (k:=?_)|refine Tc ?_|exact Tz)
 rename_i g4 g5 g6 g8 g9
 refine WC.loopI (σ:=Nat × Nat) (fun s=>s.1≤N∧s.2=a ^ aaw n N s.1%m) (fun s=>[(3,.func (.func f) #[] caps.toArray),(4,pt g4),(6,pt g6),(8,pt g8),(9,pt g9),(13,.int .i64 (N:Int)),(14,.int .i64 (s.1:Int))])
  (fun s=>[⟨g4,24,zc a⟩,⟨g6,24,zc n⟩,⟨g8,24,zc 0⟩,⟨g9,24,zc s.2⟩]) (fun s=>N - s.1) (0,1) (fun s hs=>?_) ⟨Nat.zero_le _,by rw[hst0,Nat.pow_zero,Nat.mod_eq_of_lt h1]⟩
 obtain⟨k,x⟩:=s;obtain⟨hk,hx⟩:=hs;dsimp only at hk hx ⊢;have hxm:x<m:=by rw[hx];exact Nat.mod_lt _ Om
 by_cases hlt:(k:Int)<(N:Int)
 ·have hkN:k<N:=by omega
  have hsq:=hf x x hxm hxm;have hma:=hf (x*x%m) a (Nat.mod_lt _ Om) ha;have hbt:=hbit ((N:Int) - 1 - (k:Int)) Om Om;rw[show ((N:Int) - 1 - (k:Int)).toNat=N - 1 - k by omega] at hbt;have hp:=m4 a m (aaw n N k) (uE n (N - 1 - k)) (rl _ _);rw[← hstep k hkN,← hx] at hp
  repeat (first|refine Tw ?_|(refine Tm ?_;intro _)|exact Tz)
  refine WC.dT rfl hlt ?_
  repeat (first|refine Ta ?_|(refine Tm ?_;intro _)|refine WO.acallV (hc:=hsq) (hR:=fun w' hm=>hst _ _ hw hm.mod.below) (k:=?_)|refine Tc ?_|exact Tz)
  rcases rl n (N - 1 - k) with e|e
  ·rw[e] at hbt hp;refine WC.adraw 8 (k:=?_)
   repeat (first|refine Da ?_|refine DQ.acall (hc:=hB) (k:=?_)|refine DQ.acall (hc:=hbt) (k:=?_)|refine Dc ?_)
   refine DQ.anil (k:=?_);intro sx _
   repeat (first|refine Tw ?_|(refine Tm ?_;intro _)|exact Tz)
   refine WX.metI (k+1,x*x%m) (hs:=⟨⟨by omega,by simpa using hp.symm⟩,by simp only;omega⟩)
  ·rw[e] at hbt hp;refine WC.adraw 8 (k:=?_)
   repeat (first|refine Da ?_|refine DQ.acall (hc:=hB) (k:=?_)|refine DQ.acall (hc:=hbt) (k:=?_)|refine Dc ?_)
   refine DQ.anil (k:=?_);intro sx _
   repeat (first|refine Ta ?_|(refine Tm ?_;intro _)|refine WO.acallV (hc:=hma) (hR:=fun w' hm=>hst _ _ hw hm.mod.below) (k:=?_)|refine Tc ?_|exact Tz)
   refine WX.metI (k+1,x*x%m*a%m) (hs:=⟨⟨by omega,by simpa using hp.symm⟩,by simp only;omega⟩)
 ·have hkN:k=N:=by omega
  subst hkN;rw[hend] at hx;subst hx
  repeat (first|refine Tw ?_|(refine Tm ?_;intro _)|exact Tz)
  refine WC.dF rfl hlt ?_
  repeat (first|refine Tw ?_|(refine Tm ?_;intro _)|exact Tz)
theorem aei (a b m g:Nat) (ha:a<m) (hb:b<m) (hm:m<18446744073709551616):Fn Tryz.prog 108 [.int .u64 (a:Int),.int .u64 (b:Int),pt g] (fun w=>Seg w g 0 (zc m)) (Is (.int .u64 ((a*b%m:Nat):Int))):=by
 have hW:=ag6 a b m ha hb hm;have e:wd 0 m=m:=Nat.mod_eq_of_lt hm;rw[← e] at hW;refine Fn.enter Tryz.func108 rfl rfl rfl ?_;intro w hw;rw[← e]
 repeat (first|refine Ta ?_|(refine Tm ?_;intro _)|refine WO.acall (hc:=hW) (k:=?_)|refine Tc ?_|exact Tz)
theorem aeb (a b m g:Nat) (ha:a<m) (hb:b<m) (hm:m<zd):Fn Tryz.prog 111 [zk a,zk b,pt g] (fun w=>Seg w g 0 (zc m)) (Is (zk (a*b%m))):=by
 have hW:=jL a b m ha hb hm;refine Fn.enter Tryz.func111 rfl rfl rfl ?_;intro w hw
 repeat (first|refine Ta ?_|(refine Tm ?_;intro _)|refine WO.acall (hc:=hW) (k:=?_)|refine Tc ?_|exact Tz)
theorem af2 (a n m g:Nat) (h1:1<m) (ha:a<m) (hm:m<zd) (hn:n<zd):Fn Tryz.prog 105 [zk a,zk a,zk m,pt g] (fun w=>Seg w g 0 (zc n)) (Is (zk (a ^ n%m))):=by
 have hB:=mG m hm
 by_cases hs:m<18446744073709551616
 ·have hle:((zK m:Nat):Int)≤64:=by have:zK m≤64:=vm (by simpa using hs);omega
  have ea:wd 0 a=a:=Nat.mod_eq_of_lt Om
  have hP:∀ g,Fn Tryz.prog 107 [.int .u64 ((wd 0 a:Nat):Int),.int .u64 1,zk n,.func (.func 108) #[] #[pt g]] (fun w=>Seg w g 0 (zc m)) (Is (.int .u64 ((a ^ n%m:Nat):Int))) :=
   fun g=>by rw[ea];exact abE [pt g] a n m h1 ha hn hs _ zP.seg (fun x y hx hy=>aei x y m g hx hy hs)
  have hO:=ab4 (a ^ n%m) (Nat.lt_trans (Nat.mod_lt _ Om) hs);generalize zK m=N at *;refine Fn.enter Tryz.func105 rfl rfl rfl ?_;intro w hw
  repeat (first|refine Ta ?_|(refine Tm ?_;intro _)|refine WO.acall (hc:=hB) (k:=?_)|refine Tc ?_|exact Tz)
  refine WC.dT rfl hle ?_
  repeat (first|refine Ta ?_|(refine Tm ?_;intro _)|refine WO.acall (hc:=hO) (k:=?_)|refine WO.acallR (hc:=hP _) (hR:=fun w' hm=>Hs.sg hm) (k:=?_)|refine Tc ?_|exact Tz)
 ·have hle:¬ ((zK m:Nat):Int)≤64:=by
   intro h;have:zK m≤64:=by omega
   rw[yW] at this;exact hs (by simpa using this)
  have hP:∀ g,Fn Tryz.prog 110 [zk a,zk 1,zk n,.func (.func 111) #[] #[pt g]] (fun w=>Seg w g 0 (zc m)) (Is (zk (a ^ n%m))) :=
   fun g=>aaI [pt g] a n m h1 ha hn _ zP.seg (fun x y hx hy=>aeb x y m g hx hy hm)
  generalize zK m=N at *;refine Fn.enter Tryz.func105 rfl rfl rfl ?_;intro w hw
  repeat (first|refine Ta ?_|(refine Tm ?_;intro _)|refine WO.acall (hc:=hB) (k:=?_)|refine Tc ?_|exact Tz)
  refine WC.dF rfl hle ?_
  repeat (first|refine Tw ?_|(refine Tm ?_;intro _)|exact Tz)
  refine WC.adraw 5 (k:=?_)
  repeat (first|refine Da ?_|refine DQ.acall (hc:=ud) (k:=?_)|refine DQ.acallR (hc:=hP _) (hR:=fun w' hm=>Hs.sg hm) (k:=?_)|refine Dc ?_)
  refine DQ.anil (k:=?_);intro sx _
  repeat (first|refine Tw ?_|(refine Tm ?_;intro _)|exact Tz)
theorem ahD (a n m:Nat) (ha:a<zd) (hn:n<zd) (hm:m<zd):Fn Tryz.prog 51 [zk a,zk n,zk m] Tr (Is (rE (zQ a a m) (a ^ n%m))):=by
 have hO:=fun g=>agz (f:=105) [pt g] a a m (a ^ n%m) ha ha hm _ zP.seg (fun h=>af2 a n m g (zN h).1 (zN h).2.1 hm hn);refine Fn.enter Tryz.func51 rfl rfl rfl ?_;intro w hw
 repeat (first|refine Ta ?_|(refine Tm ?_;intro _)|refine WO.acallR (hc:=hO _) (hR:=fun w' hm=>Hs.sg hm) (k:=?_)|refine Tc ?_|exact Tz)
end Sx
end
section
namespace Sx
def eS (m r s x y:Nat):Nat:=if h:s≤1 then y else eS m s (r%s) y ((x+m - r / s*y%m)%m)
termination_by s
decreasing_by exact Nat.mod_lt _ Om
def yX (a m:Nat):Nat:=if Nat.gcd a m=1 then eS m m a 0 1 else 0
theorem jt {a b m:Int} (h:m ∣ a - b):a%m=b%m:=by
 obtain⟨c,hc⟩:=h;have:a=b+m*c:=by omega
 rw[this,Int.add_mul_emod_self_left]
theorem kw {a b m:Int} (h:a%m=b%m):m ∣ a - b:=Int.dvd_of_emod_eq_zero (by rw[Int.sub_emod,h,Int.sub_self,Int.zero_emod])
theorem fj {a b m:Nat} (h:(m:Int) ∣ (a:Int) - (b:Int)):a%m=b%m:=by
 have:=jt h;rw[← Int.natCast_emod,← Int.natCast_emod] at this;exact Int.ofNat.inj this
theorem oq {a b m:Nat} (h:a%m=b%m):(m:Int) ∣ (a:Int) - (b:Int):=by
 apply kw;rw[← Int.natCast_emod,← Int.natCast_emod,h]
theorem abc {a m r s x y:Nat} (hm:0<m) (h1:x*a%m=r%m) (h2:y*a%m=s%m):(x+m - r / s*y%m)%m*a%m=r%s%m:=by
 have ht:r / s*y%m<m:=Nat.mod_lt _ hm;have e1:r=s*(r / s)+r%s:=(Nat.div_add_mod r s).symm;have e2:r / s*y=m*(r / s*y / m)+r / s*y%m:=(Nat.div_add_mod _ m).symm;have e3:x+m - r / s*y%m=m*((x+m - r / s*y%m) / m)+(x+m - r / s*y%m)%m:=(Nat.div_add_mod _ m).symm;have d1:=oq h1;have d2:=oq h2;apply fj;generalize hz:(x+m - r / s*y%m)%m=z at *;generalize (x+m - r / s*y%m) / m=k at *;generalize hu:r / s*y%m=u at *;generalize r / s*y / m=l at *;generalize r / s=q at *;generalize r%s=p at *;obtain⟨c1,hc1⟩:=d1;obtain⟨c2,hc2⟩:=d2;have f3:(x:Int)+m - u=m*k+z:=by
  have:((x+m - u:Nat):Int)=((m*k+z:Nat):Int):=by rw[e3]
  rw[Int.ofNat_sub Om] at this;push_cast at this;exact this
 have f2:(q:Int)*y=m*l+u:=by exact_mod_cast e2
 have f1:(r:Int)=s*q+p:=by exact_mod_cast e1
 push_cast at hc1 hc2 ⊢;refine⟨c1 - q*c2+a - k*a+l*a,?_⟩;have hz' : (z:Int)=x+m - (q*y - m*l) - m*k:=by omega
 have:(z:Int)*a - p=(x*a - r) - q*(y*a - s)+m*a+m*(l*a) - m*(k*a):=by
  rw[hz',f1];simp only[Int.sub_mul,Int.add_mul,Int.mul_sub,Int.mul_add,Int.mul_assoc,Int.mul_comm,Int.mul_left_comm];omega
 rw[this,hc1,hc2];simp only[Int.sub_mul,Int.add_mul,Int.mul_sub,Int.mul_add,Int.mul_assoc,Int.mul_comm,Int.mul_left_comm];omega
theorem gr {m r x y:Nat}:eS m r 1 x y=y:=by unfold eS;simp
theorem lW {m r s x y:Nat} (h:1<s):eS m r s x y=eS m s (r%s) y ((x+m - r / s*y%m)%m):=by
 rw[eS];rw[dif_neg Om]
theorem gQ {r s:Nat} (hs:1<s) (hg:Nat.gcd r s=1):0<r%s:=by
 rcases Nat.eq_zero_or_pos (r%s) with h|h
 ·exfalso;have h1:s ∣ r:=Nat.dvd_of_mod_eq_zero h;have:Nat.gcd r s=s:=Nat.gcd_eq_right h1;omega
 ·exact h
theorem iZ {r s:Nat} (hg:Nat.gcd r s=1):Nat.gcd s (r%s)=1:=by
 rw[Nat.gcd_comm s,← Nat.gcd_rec,Nat.gcd_comm];exact hg
theorem ci (m a:Nat) (hm:1<m):∀ (s r x y:Nat),0<s→Nat.gcd r s=1→x*a%m=r%m→y*a%m=s%m→y<m→eS m r s x y*a%m=1∧eS m r s x y<m:=by
 intro s
 induction s using Nat.strongRecOn with
 | _ s ih =>
  intro r x y hs hg h1 h2 hy
  by_cases e:s=1
  ·subst e;rw[gr,h2,Nat.mod_eq_of_lt hm];exact⟨rfl,hy⟩
  ·rw[lW Om];exact ih (r%s) (Nat.mod_lt _ hs) s y _ (gQ Om hg) (iZ hg) h2 (abc Om h1 h2) (Nat.mod_lt _ Om)
theorem vT {m a:Nat} (hm:1<m) (ha:a<m) (hg:Nat.gcd a m=1):yX a m*a%m=1∧yX a m<m:=by
 unfold yX;rw[if_pos hg];have h0:0<a:=by
  rcases Nat.eq_zero_or_pos a with h|h
  ·subst h;rw[Nat.gcd_zero_left] at hg;omega
  ·exact h
 exact ci m a hm a m 0 1 h0 (by rw[Nat.gcd_comm];exact hg) (by simp) (by simp) hm
theorem aeW {m a:Nat} (hm:1<m) (ha:a<m) (hg:Nat.gcd a m=1):yX a m≠0:=by
 intro h;have:=(vT hm ha hg).1;rw[h] at this;simp at this
theorem jl {m a:Nat} (hg:Nat.gcd a m≠1):yX a m=0:=by unfold yX;rw[if_neg hg]
def qz (a m:Nat):Int:=if zQ a a m then (if Nat.gcd a m=1 then 0 else 7) else 1
end Sx
end
section
open Go Go.RowKit Go.BigFrame
namespace Sx
theorem aal (a q:Nat):Nat.gcd (a%q) q=Nat.gcd a q:=by
 rw[Nat.gcd_comm a q,Nat.gcd_rec q a]
def prM (q:Nat) (a:Nat) (ds:List Nat):Nat:=ds.foldl (fun a d=>a*d%q) a
def aaz (q:Nat) (ds:List Nat):Bool:=ds.all fun d=>decide (Nat.gcd d q=1)
theorem nN (q a:Nat) (ds:List Nat) (d:Nat):prM q a (ds++[d])=prM q a ds*d%q:=by unfold prM;rw[List.foldl_append];rfl
theorem mp {q a:Nat} (hq:0<q) (ha:a<q) (ds:List Nat):prM q a ds<q:=by
 rcases List.eq_nil_or_concat ds with rfl|⟨r,d,rfl⟩
 ·exact ha
 ·rw[List.concat_eq_append,nN];exact Nat.mod_lt _ hq
theorem ab0 {a b q:Nat}:Nat.gcd (a*b) q=1↔Nat.gcd a q=1∧Nat.gcd b q=1 :=
 ⟨fun h=>⟨Nat.Coprime.coprime_mul_right h,Nat.Coprime.coprime_mul_left h⟩,fun ⟨h1,h2⟩=>Nat.Coprime.mul_left h1 h2⟩
theorem nQ (q:Nat):∀ (ds:List Nat) (a:Nat),Nat.gcd (prM q a ds) q=1↔(Nat.gcd a q=1∧aaz q ds=true)
 | [],a=>by simp[prM,aaz]
 | d::r,a=>by
  have ih:=nQ q r (a*d%q);rw[aal,ab0] at ih;show Nat.gcd (prM q (a*d%q) r) q=1↔_;rw[ih];simp[aaz,and_assoc]
def dif (q:Nat) (l:List Nat) (i x k:Nat):List Nat:=(List.range k).flatMap fun j=>if j=i then [] else [(x+q - l.getD j 0)%q]
theorem ny {q i x k:Nat} {l:List Nat} (h:k=i):dif q l i x (k+1)=dif q l i x k:=by unfold dif;rw[List.range_succ,List.flatMap_append];simp[h]
theorem oE {q i x k v:Nat} {l:List Nat} (h:k≠i) (hv:l[k]?=some v):dif q l i x (k+1)=dif q l i x k++[(x+q - v)%q]:=by unfold dif;rw[List.range_succ,List.flatMap_append];simp[h,List.getD,hv]
theorem ada {q i x k:Nat} {l:List Nat} (hq:0<q):∀ d∈dif q l i x k,d<q:=by
 intro d hd;unfold dif at hd;obtain⟨j,_,hj⟩:=List.mem_flatMap.1 hd
 by_cases e:j=i
 ·rw[if_pos e] at hj;cases hj
 ·rw[if_neg e] at hj;rw[List.mem_singleton.1 hj];exact Nat.mod_lt _ hq
theorem jj {q i x k:Nat} {l:List Nat}:(dif q l i x k).length≤k:=by
 induction k with
 | zero=>simp[dif]
 | succ k ih =>
  unfold dif at *;rw[List.range_succ,List.flatMap_append,List.length_append];have:([k].flatMap fun j=>if j=i then [] else [(x+q - l.getD j 0)%q]).length≤1:=by
   simp only[List.flatMap_cons,List.flatMap_nil,List.append_nil]
   split<;>simp
  omega
structure qt (q:Nat) (l:List Nat):Prop where
 ne:l≠[]
 lt:∀ y∈l,y<q
 nd:l.Nodup
 len:l.length≤7
theorem aby {a q:Nat} (h1:1<q) (ha:a<q):yX a q<q:=by
 by_cases hg:Nat.gcd a q=1
 ·exact (vT h1 ha hg).2
 ·unfold yX;rw[if_neg hg];omega
def wtI (q:Nat) (l:List Nat) (i:Nat):Nat:=yX (prM q 1 (dif q l i (l.getD i 0) l.length)) q
def wtN (q:Nat) (l:List Nat) (x i:Nat):Nat:=prM q (wtI q l i) (dif q l i x l.length)
theorem adx {q:Nat} {l:List Nat} {i:Nat} (h1:1<q):wtI q l i<q:=aby h1 (mp Om h1 _)
theorem agw {q:Nat} {l:List Nat} {x i:Nat} (h1:1<q):wtN q l x i<q:=mp Om (adx h1) _
def wts (q:Nat) (l:List Nat) (x:Nat):List Nat:=(List.range l.length).map (wtN q l x)
end Sx
end
end Go.Proofs.YtiiefkchpicncaaGreatDoor
