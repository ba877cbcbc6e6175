/- Part 12 of the proof. -/
import Derived.Test.YtbhblpnjhkddbaaGreatM07
import Derived.Test.YtbhblpnjhkddbaaGreatM11
set_option linter.unusedSimpArgs false
set_option linter.unusedVariables false
set_option maxHeartbeats 8000000
namespace Go.Proofs.YtbhblpnjhkddbaaGreat
section
open Go Go.RowKit
namespace Sx
theorem Fn.of {P:Program} {f:FuncId} {args:List Value} {v:Value} (h:∀ w,Calls P f args.toArray w fun e w'=>e=.returned v∧Below w.heap.size w w'):Fn P f args Tr (Is v) :=
 fun w _=>(h w).mono fun _ _ ⟨h1,h2⟩=>⟨v,[],h1,h2,.nil _ _,rfl⟩
theorem yD : 1<zc:=by unfold zc;omega
theorem qp {n:Nat} (h:n<18446744073709551616):n<zc:=by unfold zc;omega
theorem aO (n:Nat) (h:n<18446744073709551616:=by omega):Fn Tryz.prog 52 [.int .u64 (n:Int)] Tr (Is (ze n)):=.of fun w=>kF n h w
theorem ud:Fn Tryz.prog 52 [.int .u64 1] Tr (Is (ze 1)):=aO 1
theorem mx:Fn Tryz.prog 52 [.int .u64 0] Tr (Is (ze 0)):=aO 0
theorem ma (a b:Nat) (ha:a<zc) (hb:b<zc):Fn Tryz.prog 22 [ze a,ze b] Tr (Is (.int .i64 (uH a b))):=.of fun w=>ew a b ha hb w
theorem qw (a:Nat) (ha:a<zc):Fn Tryz.prog 90 [ze a] Tr (Is (.int .i64 (zB a:Nat))):=.of fun w=>u5 a ha w
theorem ab6 (a:Nat) (i:Int) (ha:a<zc) (h0:0≤i) (h1:i≤1000000):Fn Tryz.prog 152 [ze a,.int .i64 i] Tr (Is (.int .u64 (ut a i.toNat:Nat))):=.of fun w=>qF a i ha h0 h1 w
theorem aR (a b:Nat) (ha:a<zc) (hb:b<zc):Fn Tryz.prog 146 [ze a,ze b] Tr (Is (.tuple #[ze ((a+b)%zc),.int .u64 (((a+b) / zc:Nat):Int)])):=.of fun w=>mw a b ha hb w
theorem aN (a b:Nat) (ha:a<zc) (hb:b<zc):Fn Tryz.prog 53 [ze a,ze b] Tr (Is (.tuple #[ze ((a+zc - b)%zc),.int .u64 ((bw a b 0:Nat):Int)])):=.of fun w=>sc a b ha hb w
theorem ac2 (a b:Nat) (ha:a<zc) (hb:b<zc) (h0:0<b):Fn Tryz.prog 112 [ze a,ze b] Tr (Is (.tuple #[ze (a / b),ze (a%b),.int .i64 0])):=.of fun w=>rU a b ha hb h0 w
theorem cj (a b:Nat) (ha:a<zc) (hb:b<zc):Fn Tryz.prog 111 [ze a,ze b] Tr (Is (ze (Nat.gcd a b))):=.of fun w=>qL a b ha hb w
theorem abY (lo hi m:Nat) (hlo:lo<zc) (hhi:hi<zc) (hm:m<zc) (h0:0<m):Fn Tryz.prog 124 [ze lo,ze hi,ze m] Tr (Is (.tuple #[ze ((hi*zc+lo)%m),.int .i64 0])):=.of fun w=>rh lo hi m hlo hhi hm h0 w
theorem lv (a b m:Nat) (ha:a<m) (hb:b<m) (hm:m<zc):Fn Tryz.prog 95 [ze a,ze b,ze m] Tr (Is (ze (a*b%m))):=.of fun w=>im a b m ha hb hm w
theorem abV (a b m:Nat) (ha:a<m) (hb:b<m) (hm:m<18446744073709551616):Fn Tryz.prog 116 [.int .u64 (a:Int),.int .u64 (b:Int),.int .u64 (m:Int)] Tr (Is (.int .u64 ((a*b%m:Nat):Int))):=.of fun w=>nS a b m ha hb hm w
section
variable {w0:World} {gs:List Nat} {K:List (Nat × Value)} {L:List Ent}
theorem vU (op:BinOp) (x y:Operand) (a b:Array Value) (w:World):(eqGuard op 24 x y (.agg a) (.agg b)).run Tryz.prog w=.ok () w:=by
 cases op<;>kernel_rfl
theorem yq {x y:Operand} {yt ty:TypeId} {a b:Nat} (hx:ev K x=some (ze a):=by rfl) (hy:ev K y=some (ze b):=by rfl) (ha:a<zc:=by first|assumption|omega|exact yD|exact zC) (hb:b<zc:=by first|assumption|omega|exact yD|exact zC) :
  Does Tryz.prog w0 gs K L (.binOp .eql 24 x y yt) ty (.bool (decide (a=b))):=by
 intro ac w hk _ o ho _;have h1:=pJ ha hb w;simp only[execOp,ho,hk.eval hx,hk.eval hy,Sem.run_bind,vU,Result.andThen_ok,h1,Sem.run_pure];rfl
theorem vH {x y:Operand} {yt ty:TypeId} {a b:Nat} (hx:ev K x=some (ze a):=by rfl) (hy:ev K y=some (ze b):=by rfl) (ha:a<zc:=by first|assumption|omega|exact yD|exact zC) (hb:b<zc:=by first|assumption|omega|exact yD|exact zC) :
  Does Tryz.prog w0 gs K L (.binOp .neq 24 x y yt) ty (.bool (decide (a≠b))):=by
 intro ac w hk _ o ho _;have h1:=zZ ha hb w;have h2:(binOp .neq 24 (ze a) (ze b)).run Tryz.prog w=.ok (.bool (!eqN a b)) w:=by
  show ((do pure (.bool (!(← Op.equal 24 (ze a) (ze b)))):Sem Value)).run Tryz.prog w=_;simp only[Sem.run_bind];show ((Op.equalIn 10000 24 (ze a) (ze b)).run Tryz.prog w).andThen _=_;rw[h1];rfl
 simp only[execOp,ho,hk.eval hx,hk.eval hy,Sem.run_bind,vU,Result.andThen_ok,h2,Sem.run_pure];simp[eqN]
end
section
variable {p q:Prop}
theorem Tc (k:p) (h:p→q:=by first|exact fun k=>Tb k|exact fun k=>WO.does yq k|exact fun k=>WO.does vH k):q:=h k
theorem Tw (k:p) (h:p→q:=by first|exact fun k=>Ta k|exact fun k=>Tc k):q:=h k
theorem Df (k:p) (h:p→q:=by first|exact fun k=>DQ.auto (k:=k)|exact fun k=>DQ.autoF (k:=k)|exact fun k=>DQ.does (fun s _=>yq) Dp.const k|exact fun k=>DQ.does (fun s _=>vH) Dp.const k):q:=h k
theorem Dc (k:p) (h:p→q:=by first|exact fun k=>DQ.auto (k:=k)|exact fun k=>DQ.does (fun s _=>yq) Dp.const k|exact fun k=>DQ.does (fun s _=>vH) Dp.const k):q:=h k
end
end Sx
end
section
open Go Go.RowKit
namespace Sx
attribute [local irreducible] DQ DQS WC WO WX wd
theorem fg {a b:Nat} (h:a<b):uH a b = -1:=by unfold uH;rw[if_neg (by omega),if_pos h]
theorem lP {a b:Nat} (h:b<a):uH a b=1:=by unfold uH;rw[if_neg (by omega),if_neg (by omega)]
theorem fu {a b:Nat} (h:a=b):uH a b=0:=by unfold uH;rw[if_pos h]
theorem jA {a b m:Nat} (ha:a<m) (hb:b<m) (hm:m<zc) :
  ((a+b) / zc=0∧bw ((a+b)%zc) m 0=1∧(a+b)%m=(a+b)%zc) ∨
  ((a+b) / zc=1∧(a+b)%m=((a+b)%zc+zc - m)%zc) ∨
  ((a+b) / zc=0∧bw ((a+b)%zc) m 0=0∧(a+b)%m=((a+b)%zc+zc - m)%zc):=by
 by_cases hc:a+b<zc
 ·have e:(a+b)%zc=a+b:=Nat.mod_eq_of_lt hc;rw[e];have e0:(a+b) / zc=0:=Nat.div_eq_of_lt hc
  by_cases h:a+b<m
  ·exact .inl ⟨e0,by simp[bw];omega,Nat.mod_eq_of_lt h⟩
  ·refine .inr (.inr ⟨e0,by simp[bw];omega,?_⟩);rw[Nat.mod_eq_sub_mod (by omega),Nat.mod_eq_of_lt (by omega),show a+b+zc - m=(a+b - m)+zc by omega,Nat.add_mod_right,Nat.mod_eq_of_lt (by omega)]
 ·have e:(a+b)%zc=a+b - zc:=by rw[Nat.mod_eq_sub_mod (by omega),Nat.mod_eq_of_lt (by omega)]
  refine .inr (.inl ⟨?_,?_⟩)
  ·rw[Nat.div_eq_iff zC];omega
  ·rw[e,Nat.mod_eq_sub_mod (by omega),Nat.mod_eq_of_lt (by omega),show a+b - zc+zc - m=a+b - m by omega,Nat.mod_eq_of_lt (by omega)]
theorem jY {a b m:Nat} (ha:a<m) (hb:b<m) (hm:m<zc) :
  (bw a b 0=0∧(a+m - b)%m=(a+zc - b)%zc)∨(bw a b 0=1∧(a+m - b)%m=((a+zc - b)%zc+m)%zc):=by
 by_cases h:a<b
 ·refine .inr ⟨by simp[bw];omega,?_⟩;rw[Nat.mod_eq_of_lt (by omega:a+m - b<m),Nat.mod_eq_of_lt (by omega:a+zc - b<zc),show a+zc - b+m=(a+m - b)+zc by omega,Nat.add_mod_right,Nat.mod_eq_of_lt (by omega)]
 ·refine .inl ⟨by simp[bw];omega,?_⟩;rw[show a+m - b=(a - b)+m by omega,Nat.add_mod_right,Nat.mod_eq_of_lt (by omega),show a+zc - b=(a - b)+zc by omega,Nat.add_mod_right,Nat.mod_eq_of_lt (by omega)]
theorem aca (a b c:Nat):bw a b c=0∨bw a b c=1:=by unfold bw;split<;>simp
theorem ach (a b m:Nat) (ha:a<m) (hb:b<m) (hm:m<zc):Fn Tryz.prog 145 [ze a,ze b,ze m] Tr (Is (ze ((a+b)%m))):=by
 have hc:=jA ha hb hm;have hA:=aR a b (by omega) (by omega);have hS:=aN ((a+b)%zc) m (Nat.mod_lt _ zC) hm;have hl:=aca ((a+b)%zc) m 0;generalize (a+b)%m=R at *;generalize (a+b) / zc=c at *;generalize ((a+b)%zc+zc - m)%zc=y at *;generalize bw ((a+b)%zc) m 0=l at *;generalize (a+b)%zc=X at *
 rcases hc with ⟨rfl,rfl,rfl⟩|⟨rfl,rfl⟩|⟨rfl,rfl,rfl⟩
 ·refine Fn.enter Tryz.func145 rfl rfl rfl ?_;intro w hw
  repeat (first|refine Ta ?_|(refine Tm ?_;intro _)|refine WO.acall (hc:=hA) (k:=?_)|refine WO.acall (hc:=hS) (k:=?_)|refine Tc ?_|exact Tz)
 ·rcases hl with rfl|rfl
  all_goals
   refine Fn.enter Tryz.func145 rfl rfl rfl ?_;intro w hw
   repeat (first|refine Ta ?_|(refine Tm ?_;intro _)|refine WO.acall (hc:=hA) (k:=?_)|refine WO.acall (hc:=hS) (k:=?_)|refine Tc ?_|exact Tz)
 ·refine Fn.enter Tryz.func145 rfl rfl rfl ?_;intro w hw
  repeat (first|refine Ta ?_|(refine Tm ?_;intro _)|refine WO.acall (hc:=hA) (k:=?_)|refine WO.acall (hc:=hS) (k:=?_)|refine Tc ?_|exact Tz)
theorem aco (a b m:Nat) (ha:a<m) (hb:b<m) (hm:m<zc):Fn Tryz.prog 147 [ze a,ze b,ze m] Tr (Is (ze ((a+m - b)%m))):=by
 have hc:=jY ha hb hm;have hS:=aN a b (by omega) (by omega);have hA:=aR ((a+zc - b)%zc) m (Nat.mod_lt _ zC) hm;generalize (a+m - b)%m=R at *;generalize ((a+zc - b)%zc+m) / zc=c at *;generalize ((a+zc - b)%zc+m)%zc=y at *;generalize bw a b 0=l at *;generalize (a+zc - b)%zc=X at *
 rcases hc with ⟨rfl,rfl⟩|⟨rfl,rfl⟩
 all_goals
  refine Fn.enter Tryz.func147 rfl rfl rfl ?_;intro w hw
  repeat (first|refine Ta ?_|(refine Tm ?_;intro _)|refine WO.acall (hc:=hA) (k:=?_)|refine WO.acall (hc:=hS) (k:=?_)|refine Tc ?_|exact Tz)
def okE (c:Bool):Int:=if c then 0 else 1
def okV (c:Bool) (r:Nat):Nat:=if c then r else 0
def zN (a b m:Nat):Bool:=decide (1<m) && decide (a<m) && decide (b<m)
theorem iu (a b m:Nat):(1<m∧a<m∧b<m∧zN a b m=true∧uH m 1=1∧uH a m = -1∧uH b m = -1) ∨
  (zN a b m=false∧((uH m 1=0∨uH m 1 = -1)∨(uH m 1=1∧(uH a m=0∨uH a m=1))∨(uH m 1=1∧uH a m = -1∧(uH b m=0∨uH b m=1)))):=by
 unfold zN uH
 by_cases h1:1<m
 ·by_cases h2:a<m
  ·by_cases h3:b<m
   ·refine .inl ⟨h1,h2,h3,by simp[h1,h2,h3],?_,?_,?_⟩
    ·rw[if_neg (by omega),if_neg (by omega)]
    ·rw[if_neg (by omega),if_pos h2]
    ·rw[if_neg (by omega),if_pos h3]
   ·refine .inr ⟨by simp[h3],.inr (.inr ⟨?_,?_,?_⟩)⟩
    ·rw[if_neg (by omega),if_neg (by omega)]
    ·rw[if_neg (by omega),if_pos h2]
    ·by_cases e:b=m
     ·exact .inl (if_pos e)
     ·exact .inr (by rw[if_neg e,if_neg h3])
  ·refine .inr ⟨by simp[h2],.inr (.inl ⟨?_,?_⟩)⟩
   ·rw[if_neg (by omega),if_neg (by omega)]
   ·by_cases e:a=m
    ·exact .inl (if_pos e)
    ·exact .inr (by rw[if_neg e,if_neg h2])
 ·refine .inr ⟨by simp[h1],.inl ?_⟩
  by_cases e:m=1
  ·exact .inl (if_pos e)
  ·exact .inr (by rw[if_neg e,if_pos (by omega)])
theorem acS {f:Nat} [Cal Tryz.prog f] (caps:List Value) (a b m r:Nat) (ha:a<zc) (hb:b<zc) (hm:m<zc) (R:World→Prop) (hst:zO R)
  (hf:zN a b m=true→Fn Tryz.prog f ([ze a,ze b,ze m]++caps) R (Is (ze r))) :
  Fn Tryz.prog 96 [.agg #[.func (.func f) #[] caps.toArray],ze a,ze b,ze m] R (Is (.tuple #[ze (okV (zN a b m) r),.int .i64 (okE (zN a b m))])):=by
 have hC1:=ma m 1 hm yD;have hC2:=ma a m ha hm;have hC3:=ma b m hb hm
 rcases iu a b m with ⟨h1,h2,h3,hy,e1,e2,e3⟩|⟨hn,hc⟩
 ·have hF:=hf hy;rw[hy];rw[e1] at hC1;rw[e2] at hC2;rw[e3] at hC3;refine Fn.enter Tryz.func96 rfl rfl rfl ?_;intro w hw
  repeat (first|refine Tw ?_|(refine Tm ?_;intro _)|exact Tz)
  refine WC.adraw 16 (k:=?_)
  repeat (first|refine Da ?_|refine DQ.acall (hc:=ud) (k:=?_)|refine DQ.acall (hc:=hC1) (k:=?_)|refine DQ.acall (hc:=hC2) (k:=?_)|refine DQ.acall (hc:=hC3) (k:=?_)|refine Dc ?_)
  refine DQ.anil (k:=?_);intro sx _
  repeat (first|refine Ta ?_|(refine Tm ?_;intro _)|refine WO.acallV (hc:=hF) (hR:=fun w' hm=>hst _ _ hw hm.mod.below) (k:=?_)|refine Tc ?_|exact Tz)
 ·rw[hn]
  rcases hc with (e1|e1)|⟨e1,e2|e2⟩|⟨e1,e2,e3|e3⟩
  ·rw[e1] at hC1;refine Fn.enter Tryz.func96 rfl rfl rfl ?_;intro w hw
   repeat (first|refine Tw ?_|(refine Tm ?_;intro _)|exact Tz)
   refine WC.adraw 16 (k:=?_)
   repeat (first|refine Da ?_|refine DQ.acall (hc:=ud) (k:=?_)|refine DQ.acall (hc:=hC1) (k:=?_)|refine DQ.acall (hc:=hC2) (k:=?_)|refine DQ.acall (hc:=hC3) (k:=?_)|refine Dc ?_)
   refine DQ.anil (k:=?_);intro sx _
   repeat (first|refine Tw ?_|(refine Tm ?_;intro _)|exact Tz)
  ·rw[e1] at hC1;refine Fn.enter Tryz.func96 rfl rfl rfl ?_;intro w hw
   repeat (first|refine Tw ?_|(refine Tm ?_;intro _)|exact Tz)
   refine WC.adraw 16 (k:=?_)
   repeat (first|refine Da ?_|refine DQ.acall (hc:=ud) (k:=?_)|refine DQ.acall (hc:=hC1) (k:=?_)|refine DQ.acall (hc:=hC2) (k:=?_)|refine DQ.acall (hc:=hC3) (k:=?_)|refine Dc ?_)
   refine DQ.anil (k:=?_);intro sx _
   repeat (first|refine Tw ?_|(refine Tm ?_;intro _)|exact Tz)
  ·rw[e1] at hC1;rw[e2] at hC2;refine Fn.enter Tryz.func96 rfl rfl rfl ?_;intro w hw
   repeat (first|refine Tw ?_|(refine Tm ?_;intro _)|exact Tz)
   refine WC.adraw 16 (k:=?_)
   repeat (first|refine Da ?_|refine DQ.acall (hc:=ud) (k:=?_)|refine DQ.acall (hc:=hC1) (k:=?_)|refine DQ.acall (hc:=hC2) (k:=?_)|refine DQ.acall (hc:=hC3) (k:=?_)|refine Dc ?_)
   refine DQ.anil (k:=?_);intro sx _
   repeat (first|refine Tw ?_|(refine Tm ?_;intro _)|exact Tz)
  ·rw[e1] at hC1;rw[e2] at hC2;refine Fn.enter Tryz.func96 rfl rfl rfl ?_;intro w hw
   repeat (first|refine Tw ?_|(refine Tm ?_;intro _)|exact Tz)
   refine WC.adraw 16 (k:=?_)
   repeat (first|refine Da ?_|refine DQ.acall (hc:=ud) (k:=?_)|refine DQ.acall (hc:=hC1) (k:=?_)|refine DQ.acall (hc:=hC2) (k:=?_)|refine DQ.acall (hc:=hC3) (k:=?_)|refine Dc ?_)
   refine DQ.anil (k:=?_);intro sx _
   repeat (first|refine Tw ?_|(refine Tm ?_;intro _)|exact Tz)
  ·rw[e1] at hC1;rw[e2] at hC2;rw[e3] at hC3;refine Fn.enter Tryz.func96 rfl rfl rfl ?_;intro w hw
   repeat (first|refine Tw ?_|(refine Tm ?_;intro _)|exact Tz)
   refine WC.adraw 16 (k:=?_)
   repeat (first|refine Da ?_|refine DQ.acall (hc:=ud) (k:=?_)|refine DQ.acall (hc:=hC1) (k:=?_)|refine DQ.acall (hc:=hC2) (k:=?_)|refine DQ.acall (hc:=hC3) (k:=?_)|refine Dc ?_)
   refine DQ.anil (k:=?_);intro sx _
   repeat (first|refine Tw ?_|(refine Tm ?_;intro _)|exact Tz)
  ·rw[e1] at hC1;rw[e2] at hC2;rw[e3] at hC3;refine Fn.enter Tryz.func96 rfl rfl rfl ?_;intro w hw
   repeat (first|refine Tw ?_|(refine Tm ?_;intro _)|exact Tz)
   refine WC.adraw 16 (k:=?_)
   repeat (first|refine Da ?_|refine DQ.acall (hc:=ud) (k:=?_)|refine DQ.acall (hc:=hC1) (k:=?_)|refine DQ.acall (hc:=hC2) (k:=?_)|refine DQ.acall (hc:=hC3) (k:=?_)|refine Dc ?_)
   refine DQ.anil (k:=?_);intro sx _
   repeat (first|refine Tw ?_|(refine Tm ?_;intro _)|exact Tz)
theorem zJ {a b m:Nat} (h:zN a b m=true):1<m∧a<m∧b<m:=by
 unfold zN at h;simp at h;exact⟨h.1.1,h.1.2,h.2⟩
abbrev rE (c:Bool) (r:Nat):Value:=.tuple #[ze (okV c r),.int .i64 (okE c)]
theorem acu (a b m:Nat) (ha:a<zc) (hb:b<zc) (hm:m<zc):Fn Tryz.prog 104 [ze a,ze b,ze m] Tr (Is (rE (zN a b m) ((a+b)%m))):=by
 have hO:=acS (f:=145) [] a b m ((a+b)%m) ha hb hm Tr zO.tr (fun h=>ach a b m (zJ h).2.1 (zJ h).2.2 hm);refine Fn.enter Tryz.func104 rfl rfl rfl ?_;intro w hw
 repeat (first|refine Ta ?_|(refine Tm ?_;intro _)|refine WO.acall (hc:=hO) (k:=?_)|refine Tc ?_|exact Tz)
theorem aai (a b m:Nat) (ha:a<zc) (hb:b<zc) (hm:m<zc):Fn Tryz.prog 106 [ze a,ze b,ze m] Tr (Is (rE (zN a b m) ((a+m - b)%m))):=by
 have hO:=acS (f:=147) [] a b m ((a+m - b)%m) ha hb hm Tr zO.tr (fun h=>aco a b m (zJ h).2.1 (zJ h).2.2 hm);refine Fn.enter Tryz.func106 rfl rfl rfl ?_;intro w hw
 repeat (first|refine Ta ?_|(refine Tm ?_;intro _)|refine WO.acall (hc:=hO) (k:=?_)|refine Tc ?_|exact Tz)
theorem aaf (a b m:Nat) (ha:a<zc) (hb:b<zc) (hm:m<zc):Fn Tryz.prog 51 [ze a,ze b,ze m] Tr (Is (rE (zN a b m) (a*b%m))):=by
 have hO:=acS (f:=95) [] a b m (a*b%m) ha hb hm Tr zO.tr (fun h=>lv a b m (zJ h).2.1 (zJ h).2.2 hm);refine Fn.enter Tryz.func51 rfl rfl rfl ?_;intro w hw
 repeat (first|refine Ta ?_|(refine Tm ?_;intro _)|refine WO.acall (hc:=hO) (k:=?_)|refine Tc ?_|exact Tz)
def eZ (n N k:Nat):Nat:=n / 2 ^ (N - k)
theorem pO {n N:Nat} (h:n<2 ^ N):eZ n N 0=0:=Nat.div_eq_of_lt (by simpa using h)
theorem jj (n N:Nat):eZ n N N=n:=by unfold eZ;simp
theorem nY (n:Nat) {N k:Nat} (h:k<N):eZ n N (k+1)=2*eZ n N k+ut n (N - 1 - k):=by
 unfold eZ ut;have e:N - k=(N - 1 - k)+1:=by omega
 have e2:N - (k+1)=N - 1 - k:=by omega
 rw[e2,e,Nat.pow_succ,← Nat.div_div_eq_div_mul];omega
theorem nM (a m t b:Nat) (hb:b=0∨b=1):a ^ (2*t+b)%m=if b=1 then (a ^ t%m*(a ^ t%m)%m)*a%m else a ^ t%m*(a ^ t%m)%m:=by
 have h1:a ^ (2*t)%m=a ^ t%m*(a ^ t%m)%m:=by rw[Nat.two_mul,Nat.pow_add,Nat.mul_mod]
 rcases hb with rfl|rfl
 ·simpa using h1
 ·rw[if_pos rfl,Nat.pow_succ,Nat.mul_mod,h1,Nat.mul_mod_mod]
theorem rI (a i:Nat):ut a i=0∨ut a i=1:=by unfold ut;omega
theorem uB (n:Nat):n<2 ^ zB n:=tK n
theorem np {n:Nat} (h:n<zc):zB n≤256:=vn (by simpa [zc] using h)
theorem dN {f:Nat} [Cal Tryz.prog f] (caps:List Value) (a n m:Nat) (h1:1<m) (ha:a<m) (hn:n<zc) (hm:m<18446744073709551616) (R:World→Prop) (hst:zO R)
  (hf:∀ x y:Nat,x<m→y<m→Fn Tryz.prog f ([.int .u64 (x:Int),.int .u64 (y:Int)]++caps) R (Is (.int .u64 ((x*y%m:Nat):Int)))) :
  Fn Tryz.prog 114 [.int .u64 (a:Int),.int .u64 1,ze n,.func (.func f) #[] caps.toArray] R (Is (.int .u64 ((a ^ n%m:Nat):Int))):=by
 have hB:=qw n hn;have hlt:=uB n;have hN:=np hn;have hbit:∀ i:Int,0≤i→i≤1000000→Fn Tryz.prog 152 [ze n,.int .i64 i] Tr (Is (.int .u64 (ut n i.toNat:Nat))):=fun i h0 h1=>ab6 n i hn h0 h1;have hend:=jj n (zB n);have hst0:=pO hlt;have hstep:=fun k (h:k<zB n)=>nY n h;generalize zB n=N at *;refine Fn.enter Tryz.func114 rfl rfl rfl ?_;intro w hw
 repeat (first|refine Ta ?_|(refine Tm ?_;intro _)|refine WO.acall (hc:=hB) (k:=?_)|refine Tc ?_|exact Tz)
 rename_i g6;refine WC.loopI (σ:=Nat × Nat) (fun s=>s.1≤N∧s.2=a ^ eZ n N s.1%m) (fun s=>[(0,.int .u64 (a:Int)),(3,.func (.func f) #[] caps.toArray),(6,pt g6),(9,.int .u64 (s.2:Int)),(13,.int .i64 (N:Int)),(14,.int .i64 (s.1:Int))]) (fun s=>[⟨g6,24,zb n⟩]) (fun s=>N - s.1) (0,1) (fun s hs=>?_) ⟨Nat.zero_le _,by rw[hst0,Nat.pow_zero,Nat.mod_eq_of_lt h1]⟩;obtain⟨k,x⟩:=s;obtain⟨hk,hx⟩:=hs;dsimp only at hk hx ⊢;have hxm:x<m:=by rw[hx];exact Nat.mod_lt _ (by omega)
 by_cases hlt:(k:Int)<(N:Int)
 ·have hkN:k<N:=by omega
  have hsq:=hf x x hxm hxm;have hma:=hf (x*x%m) a (Nat.mod_lt _ (by omega)) ha;have hbt:=hbit ((N:Int) - 1 - (k:Int)) (by omega) (by omega);rw[show ((N:Int) - 1 - (k:Int)).toNat=N - 1 - k by omega] at hbt;have hp:=nM a m (eZ n N k) (ut n (N - 1 - k)) (rI _ _);rw[← hstep k hkN,← hx] at hp
  repeat (first|refine Tw ?_|(refine Tm ?_;intro _)|exact Tz)
  refine WC.dT rfl hlt ?_
  repeat (first|refine Ta ?_|(refine Tm ?_;intro _)|refine WO.acallV (hc:=hsq) (hR:=fun w' hm=>hst _ _ hw hm.mod.below) (k:=?_)|refine Tc ?_|exact Tz)
  rcases rI n (N - 1 - k) with e|e
  ·rw[e] at hbt hp;refine WC.adraw 8 (k:=?_)
   repeat (first|refine Da ?_|refine DQ.acall (hc:=hB) (k:=?_)|refine DQ.acall (hc:=hbt) (k:=?_)|refine Dc ?_)
   refine DQ.anil (k:=?_);intro sx _
   repeat (first|refine Tw ?_|(refine Tm ?_;intro _)|exact Tz)
   refine WX.metI (k+1,x*x%m) (hs:=⟨⟨by omega,by simpa using hp.symm⟩,by simp only;omega⟩)
  ·rw[e] at hbt hp;refine WC.adraw 8 (k:=?_)
   repeat (first|refine Da ?_|refine DQ.acall (hc:=hB) (k:=?_)|refine DQ.acall (hc:=hbt) (k:=?_)|refine Dc ?_)
   refine DQ.anil (k:=?_);intro sx _
   repeat (first|refine Ta ?_|(refine Tm ?_;intro _)|refine WO.acallV (hc:=hma) (hR:=fun w' hm=>hst _ _ hw hm.mod.below) (k:=?_)|refine Tc ?_|exact Tz)
   refine WX.metI (k+1,x*x%m*a%m) (hs:=⟨⟨by omega,by simpa using hp.symm⟩,by simp only;omega⟩)
 ·have hkN:k=N:=by omega
  subst hkN;rw[hend] at hx;subst hx
  repeat (first|refine Tw ?_|(refine Tm ?_;intro _)|exact Tz)
  refine WC.dF rfl hlt ?_
  repeat (first|refine Tw ?_|(refine Tm ?_;intro _)|exact Tz)
end Sx
end
section
open Go Go.RowKit
namespace Sx
attribute [local irreducible] DQ DQS WC WO WX
theorem dO {f:Nat} [Cal Tryz.prog f] (caps:List Value) (a n m:Nat) (h1:1<m) (ha:a<m) (hn:n<zc) (R:World→Prop) (hst:zO R)
  (hf:∀ x y:Nat,x<m→y<m→Fn Tryz.prog f ([ze x,ze y]++caps) R (Is (ze (x*y%m)))) :
  Fn Tryz.prog 117 [ze a,ze 1,ze n,.func (.func f) #[] caps.toArray] R (Is (ze (a ^ n%m))):=by
 have hB:=qw n hn;have hlt:=uB n;have hN:=np hn;have hbit:∀ i:Int,0≤i→i≤1000000→Fn Tryz.prog 152 [ze n,.int .i64 i] Tr (Is (.int .u64 (ut n i.toNat:Nat))):=fun i h0 h1=>ab6 n i hn h0 h1;have hend:=jj n (zB n);have hst0:=pO hlt;have hstep:=fun k (h:k<zB n)=>nY n h;generalize zB n=N at *;refine Fn.enter Tryz.func117 rfl rfl rfl ?_;intro w hw
 repeat (first|refine Ta ?_|(refine Tm ?_;intro _)|refine WO.acall (hc:=hB) (k:=?_)|refine Tc ?_|exact Tz)
 rename_i g4 g5 g6 g8 g9
 refine WC.loopI (σ:=Nat × Nat) (fun s=>s.1≤N∧s.2=a ^ eZ n N s.1%m) (fun s=>[(3,.func (.func f) #[] caps.toArray),(4,pt g4),(6,pt g6),(8,pt g8),(9,pt g9),(13,.int .i64 (N:Int)),(14,.int .i64 (s.1:Int))])
  (fun s=>[⟨g4,24,zb a⟩,⟨g6,24,zb n⟩,⟨g8,24,zb 0⟩,⟨g9,24,zb s.2⟩]) (fun s=>N - s.1) (0,1) (fun s hs=>?_) ⟨Nat.zero_le _,by rw[hst0,Nat.pow_zero,Nat.mod_eq_of_lt h1]⟩
 obtain⟨k,x⟩:=s;obtain⟨hk,hx⟩:=hs;dsimp only at hk hx ⊢;have hxm:x<m:=by rw[hx];exact Nat.mod_lt _ (by omega)
 by_cases hlt:(k:Int)<(N:Int)
 ·have hkN:k<N:=by omega
  have hsq:=hf x x hxm hxm;have hma:=hf (x*x%m) a (Nat.mod_lt _ (by omega)) ha;have hbt:=hbit ((N:Int) - 1 - (k:Int)) (by omega) (by omega);rw[show ((N:Int) - 1 - (k:Int)).toNat=N - 1 - k by omega] at hbt;have hp:=nM a m (eZ n N k) (ut n (N - 1 - k)) (rI _ _);rw[← hstep k hkN,← hx] at hp
  repeat (first|refine Tw ?_|(refine Tm ?_;intro _)|exact Tz)
  refine WC.dT rfl hlt ?_
  repeat (first|refine Ta ?_|(refine Tm ?_;intro _)|refine WO.acallV (hc:=hsq) (hR:=fun w' hm=>hst _ _ hw hm.mod.below) (k:=?_)|refine Tc ?_|exact Tz)
  rcases rI n (N - 1 - k) with e|e
  ·rw[e] at hbt hp;refine WC.adraw 8 (k:=?_)
   repeat (first|refine Da ?_|refine DQ.acall (hc:=hB) (k:=?_)|refine DQ.acall (hc:=hbt) (k:=?_)|refine Dc ?_)
   refine DQ.anil (k:=?_);intro sx _
   repeat (first|refine Tw ?_|(refine Tm ?_;intro _)|exact Tz)
   refine WX.metI (k+1,x*x%m) (hs:=⟨⟨by omega,by simpa using hp.symm⟩,by simp only;omega⟩)
  ·rw[e] at hbt hp;refine WC.adraw 8 (k:=?_)
   repeat (first|refine Da ?_|refine DQ.acall (hc:=hB) (k:=?_)|refine DQ.acall (hc:=hbt) (k:=?_)|refine Dc ?_)
   refine DQ.anil (k:=?_);intro sx _
   repeat (first|refine Ta ?_|(refine Tm ?_;intro _)|refine WO.acallV (hc:=hma) (hR:=fun w' hm=>hst _ _ hw hm.mod.below) (k:=?_)|refine Tc ?_|exact Tz)
   refine WX.metI (k+1,x*x%m*a%m) (hs:=⟨⟨by omega,by simpa using hp.symm⟩,by simp only;omega⟩)
 ·have hkN:k=N:=by omega
  subst hkN;rw[hend] at hx;subst hx
  repeat (first|refine Tw ?_|(refine Tm ?_;intro _)|exact Tz)
  refine WC.dF rfl hlt ?_
  repeat (first|refine Tw ?_|(refine Tm ?_;intro _)|exact Tz)
theorem abt (a b m g:Nat) (ha:a<m) (hb:b<m) (hm:m<18446744073709551616):Fn Tryz.prog 115 [.int .u64 (a:Int),.int .u64 (b:Int),pt g] (fun w=>Seg w g 0 (zb m)) (Is (.int .u64 ((a*b%m:Nat):Int))):=by
 have hW:=abV a b m ha hb hm;have e:wd 0 m=m:=Nat.mod_eq_of_lt hm;rw[← e] at hW;refine Fn.enter Tryz.func115 rfl rfl rfl ?_;intro w hw;rw[← e]
 repeat (first|refine Ta ?_|(refine Tm ?_;intro _)|refine WO.acall (hc:=hW) (k:=?_)|refine Tc ?_|exact Tz)
theorem abe (a b m g:Nat) (ha:a<m) (hb:b<m) (hm:m<zc):Fn Tryz.prog 118 [ze a,ze b,pt g] (fun w=>Seg w g 0 (zb m)) (Is (ze (a*b%m))):=by
 have hW:=lv a b m ha hb hm;refine Fn.enter Tryz.func118 rfl rfl rfl ?_;intro w hw
 repeat (first|refine Ta ?_|(refine Tm ?_;intro _)|refine WO.acall (hc:=hW) (k:=?_)|refine Tc ?_|exact Tz)
theorem abT (a n m g:Nat) (h1:1<m) (ha:a<m) (hm:m<zc) (hn:n<zc):Fn Tryz.prog 113 [ze a,ze a,ze m,pt g] (fun w=>Seg w g 0 (zb n)) (Is (ze (a ^ n%m))):=by
 have hB:=qw m hm
 by_cases hs:m<18446744073709551616
 ·have hle:((zB m:Nat):Int)≤64:=by have:zB m≤64:=vn (by simpa using hs);omega
  have ea:wd 0 a=a:=Nat.mod_eq_of_lt (by omega)
  have hP:∀ g,Fn Tryz.prog 114 [.int .u64 ((wd 0 a:Nat):Int),.int .u64 1,ze n,.func (.func 115) #[] #[pt g]] (fun w=>Seg w g 0 (zb m)) (Is (.int .u64 ((a ^ n%m:Nat):Int))) :=
   fun g=>by rw[ea];exact dN [pt g] a n m h1 ha hn hs _ zO.seg (fun x y hx hy=>abt x y m g hx hy hs)
  have hO:=aO (a ^ n%m) (Nat.lt_trans (Nat.mod_lt _ (by omega)) hs);generalize zB m=N at *;refine Fn.enter Tryz.func113 rfl rfl rfl ?_;intro w hw
  repeat (first|refine Ta ?_|(refine Tm ?_;intro _)|refine WO.acall (hc:=hB) (k:=?_)|refine Tc ?_|exact Tz)
  refine WC.dT rfl hle ?_
  repeat (first|refine Ta ?_|(refine Tm ?_;intro _)|refine WO.acall (hc:=hO) (k:=?_)|refine WO.acallR (hc:=hP _) (hR:=fun w' hm=>Hs.sg hm) (k:=?_)|refine Tc ?_|exact Tz)
 ·have hle:¬ ((zB m:Nat):Int)≤64:=by
   intro h;have:zB m≤64:=by omega
   rw[yo] at this;exact hs (by simpa using this)
  have hP:∀ g,Fn Tryz.prog 117 [ze a,ze 1,ze n,.func (.func 118) #[] #[pt g]] (fun w=>Seg w g 0 (zb m)) (Is (ze (a ^ n%m))) :=
   fun g=>dO [pt g] a n m h1 ha hn _ zO.seg (fun x y hx hy=>abe x y m g hx hy hm)
  generalize zB m=N at *;refine Fn.enter Tryz.func113 rfl rfl rfl ?_;intro w hw
  repeat (first|refine Ta ?_|(refine Tm ?_;intro _)|refine WO.acall (hc:=hB) (k:=?_)|refine Tc ?_|exact Tz)
  refine WC.dF rfl hle ?_
  repeat (first|refine Tw ?_|(refine Tm ?_;intro _)|exact Tz)
  refine WC.adraw 5 (k:=?_)
  repeat (first|refine Da ?_|refine DQ.acall (hc:=ud) (k:=?_)|refine DQ.acallR (hc:=hP _) (hR:=fun w' hm=>Hs.sg hm) (k:=?_)|refine Dc ?_)
  refine DQ.anil (k:=?_);intro sx _
  repeat (first|refine Tw ?_|(refine Tm ?_;intro _)|exact Tz)
theorem ac7 (a n m:Nat) (ha:a<zc) (hn:n<zc) (hm:m<zc):Fn Tryz.prog 67 [ze a,ze n,ze m] Tr (Is (rE (zN a a m) (a ^ n%m))):=by
 have hO:=fun g=>acS (f:=113) [pt g] a a m (a ^ n%m) ha ha hm _ zO.seg (fun h=>abT a n m g (zJ h).1 (zJ h).2.1 hm hn);refine Fn.enter Tryz.func67 rfl rfl rfl ?_;intro w hw
 repeat (first|refine Ta ?_|(refine Tm ?_;intro _)|refine WO.acallR (hc:=hO _) (hR:=fun w' hm=>Hs.sg hm) (k:=?_)|refine Tc ?_|exact Tz)
end Sx
end
section
namespace Sx
def iz (m r s x y:Nat):Nat:=if h:s≤1 then y else iz m s (r%s) y ((x+m - r / s*y%m)%m)
termination_by s
decreasing_by exact Nat.mod_lt _ (by omega)
def v7 (a m:Nat):Nat:=if Nat.gcd a m=1 then iz m m a 0 1 else 0
theorem lx {a b m:Int} (h:m ∣ a - b):a%m=b%m:=by
 obtain⟨c,hc⟩:=h;have:a=b+m*c:=by omega
 rw[this,Int.add_mul_emod_self_left]
theorem lu {a b m:Int} (h:a%m=b%m):m ∣ a - b:=Int.dvd_of_emod_eq_zero (by rw[Int.sub_emod,h,Int.sub_self,Int.zero_emod])
theorem jU {a b m:Nat} (h:(m:Int) ∣ (a:Int) - (b:Int)):a%m=b%m:=by
 have:=lx h;rw[← Int.natCast_emod,← Int.natCast_emod] at this;exact Int.ofNat.inj this
theorem pq {a b m:Nat} (h:a%m=b%m):(m:Int) ∣ (a:Int) - (b:Int):=by
 apply lu;rw[← Int.natCast_emod,← Int.natCast_emod,h]
theorem ct {a m r s x y:Nat} (hm:0<m) (h1:x*a%m=r%m) (h2:y*a%m=s%m):(x+m - r / s*y%m)%m*a%m=r%s%m:=by
 have ht:r / s*y%m<m:=Nat.mod_lt _ hm;have e1:r=s*(r / s)+r%s:=(Nat.div_add_mod r s).symm;have e2:r / s*y=m*(r / s*y / m)+r / s*y%m:=(Nat.div_add_mod _ m).symm;have e3:x+m - r / s*y%m=m*((x+m - r / s*y%m) / m)+(x+m - r / s*y%m)%m:=(Nat.div_add_mod _ m).symm;have d1:=pq h1;have d2:=pq h2;apply jU;generalize hz:(x+m - r / s*y%m)%m=z at *;generalize (x+m - r / s*y%m) / m=k at *;generalize hu:r / s*y%m=u at *;generalize r / s*y / m=l at *;generalize r / s=q at *;generalize r%s=p at *;obtain⟨c1,hc1⟩:=d1;obtain⟨c2,hc2⟩:=d2;have f3:(x:Int)+m - u=m*k+z:=by
  have:((x+m - u:Nat):Int)=((m*k+z:Nat):Int):=by rw[e3]
  rw[Int.ofNat_sub (by omega)] at this;push_cast at this;exact this
 have f2:(q:Int)*y=m*l+u:=by exact_mod_cast e2
 have f1:(r:Int)=s*q+p:=by exact_mod_cast e1
 push_cast at hc1 hc2 ⊢;refine⟨c1 - q*c2+a - k*a+l*a,?_⟩;have hz' : (z:Int)=x+m - (q*y - m*l) - m*k:=by omega
 have:(z:Int)*a - p=(x*a - r) - q*(y*a - s)+m*a+m*(l*a) - m*(k*a):=by
  rw[hz',f1];simp only[Int.sub_mul,Int.add_mul,Int.mul_sub,Int.mul_add,Int.mul_assoc,Int.mul_comm,Int.mul_left_comm];omega
 rw[this,hc1,hc2];simp only[Int.sub_mul,Int.add_mul,Int.mul_sub,Int.mul_add,Int.mul_assoc,Int.mul_comm,Int.mul_left_comm];omega
theorem jn {m r x y:Nat}:iz m r 1 x y=y:=by unfold iz;simp
theorem nT {m r s x y:Nat} (h:1<s):iz m r s x y=iz m s (r%s) y ((x+m - r / s*y%m)%m):=by
 rw[iz];rw[dif_neg (by omega)]
theorem lV {r s:Nat} (hs:1<s) (hg:Nat.gcd r s=1):0<r%s:=by
 rcases Nat.eq_zero_or_pos (r%s) with h|h
 ·exfalso;have h1:s ∣ r:=Nat.dvd_of_mod_eq_zero h;have:Nat.gcd r s=s:=Nat.gcd_eq_right h1;omega
 ·exact h
theorem kt {r s:Nat} (hg:Nat.gcd r s=1):Nat.gcd s (r%s)=1:=by
 rw[Nat.gcd_comm s,← Nat.gcd_rec,Nat.gcd_comm];exact hg
theorem fD (m a:Nat) (hm:1<m):∀ (s r x y:Nat),0<s→Nat.gcd r s=1→x*a%m=r%m→y*a%m=s%m→y<m→iz m r s x y*a%m=1∧iz m r s x y<m:=by
 intro s
 induction s using Nat.strongRecOn with
 | _ s ih =>
  intro r x y hs hg h1 h2 hy
  by_cases e:s=1
  ·subst e;rw[jn,h2,Nat.mod_eq_of_lt hm];exact⟨rfl,hy⟩
  ·rw[nT (by omega)];exact ih (r%s) (Nat.mod_lt _ hs) s y _ (lV (by omega) hg) (kt hg) h2 (ct (by omega) h1 h2) (Nat.mod_lt _ (by omega))
theorem vw {m a:Nat} (hm:1<m) (ha:a<m) (hg:Nat.gcd a m=1):v7 a m*a%m=1∧v7 a m<m:=by
 unfold v7;rw[if_pos hg];have h0:0<a:=by
  rcases Nat.eq_zero_or_pos a with h|h
  ·subst h;rw[Nat.gcd_zero_left] at hg;omega
  ·exact h
 exact fD m a hm a m 0 1 h0 (by rw[Nat.gcd_comm];exact hg) (by simp) (by simp) hm
theorem aaL {m a:Nat} (hm:1<m) (ha:a<m) (hg:Nat.gcd a m=1):v7 a m≠0:=by
 intro h;have:=(vw hm ha hg).1;rw[h] at this;simp at this
theorem mN {m a:Nat} (hg:Nat.gcd a m≠1):v7 a m=0:=by unfold v7;rw[if_neg hg]
def nj (a m:Nat):Int:=if zN a a m then (if Nat.gcd a m=1 then 0 else 7) else 1
end Sx
end
section
open Go Go.RowKit
namespace Sx
attribute [local irreducible] DQ DQS WC WO WX wd
theorem adG {r s m:Nat} (hs:1<s) (hr:r≤m) (hm:1<m):r / s<m:=Nat.lt_of_le_of_lt (Nat.div_le_div_right hr) (Nat.div_lt_self (by omega) hs)
theorem ab1 (a m:Nat) (h1:1<m) (ha:a<m) (hm:m<zc):Fn Tryz.prog 110 [ze a,ze a,ze m] Tr (Is (ze (v7 a m))):=by
 have haB:a<zc:=by omega
 have hG:=cj a m haB hm;have hgB:Nat.gcd a m<zc:=Nat.lt_of_le_of_lt (Nat.gcd_le_right _ (by omega)) hm
 by_cases hg:Nat.gcd a m=1
 ·have hne:¬ (Nat.gcd a m≠1):=fun h=>h hg;have hinv:v7 a m=iz m m a 0 1:=by unfold v7;rw[if_pos hg]
  have h0:0<a:=by
   rcases Nat.eq_zero_or_pos a with h|h
   ·subst h;rw[Nat.gcd_zero_left] at hg;omega
   ·exact h
  have hgm:Nat.gcd m a=1:=by rw[Nat.gcd_comm];exact hg
  rw[hinv];refine Fn.enter Tryz.func110 rfl rfl rfl ?_;intro w hw
  repeat (first|refine Ta ?_|(refine Tm ?_;intro _)|refine WO.acall (hc:=hG) (k:=?_)|refine WO.acall (hc:=ud) (k:=?_)|refine Tc ?_|exact Tz)
  refine WC.dF rfl hne ?_
  repeat (first|refine Tw ?_|(refine Tm ?_;intro _)|exact Tz)
  rename_i g3 g4 g5 g6;refine WC.adrawS [1] [(1,[⟨g3,24,zb a⟩])] 8 (k:=?_)
  repeat (first|refine DQS.skip ?_|refine DQS.autoM (k:=?_)|refine DQS.acall (hc:=ud) (k:=?_)|refine DQS.acall (hc:=mx) (k:=?_)|refine DQS.autoH (k:=?_)|refine DQS.auto (k:=?_)|refine DQS.autoF (k:=?_)|refine DQS.does (fun s _=>yq) Dp.const ?_|refine DQS.does (fun s _=>vH) Dp.const ?_)
  refine DQS.anil (k:=?_);intro sx _
  repeat (first|refine WOS.autoS (kk:=?_)|refine WOS.auto (kk:=?_))
  refine WOS.nil ?_;refine WX.noPanic ?_;generalize sx 4 0=g7;generalize sx 5 0=g8;generalize sx 6 0=g9;generalize sx 7 0=g10
  repeat (first|refine Tw ?_|(refine Tm ?_;intro _)|exact Tz)
  refine WC.loopI (σ:=Nat × Nat × Nat × Nat) (fun s=>0<s.2.1∧s.2.1<s.1∧s.1≤m∧Nat.gcd s.1 s.2.1=1∧s.2.2.1<m∧s.2.2.2<m∧iz m s.1 s.2.1 s.2.2.1 s.2.2.2=iz m m a 0 1)
   (fun s=>[(5,pt g5),(6,pt g6),(7,pt g7),(8,pt g8),(9,pt g9),(10,pt g10)])
   (fun s=>[⟨g5,24,zb m⟩,⟨g6,24,zb 0⟩,⟨g7,24,zb s.1⟩,⟨g8,24,zb s.2.1⟩,⟨g9,24,zb s.2.2.1⟩,⟨g10,24,zb s.2.2.2⟩]) (fun s=>s.2.1) (m,a,0,1) (fun s hs=>?_) ⟨h0,ha,Nat.le_refl _,hgm,by show 0<m;omega,h1,rfl⟩
  obtain⟨r,s,x,y⟩:=s;obtain⟨hs0,hsr,hrm,hgc,hx,hy,heq⟩:=hs;dsimp only at hs0 hsr hrm hgc hx hy heq ⊢;have hsB:s<zc:=by omega
  by_cases hs1:s=1
  ·have hno:¬ (s≠1):=fun h=>h hs1;subst hs1;rw[jn] at heq;rw[← heq]
   repeat (first|refine Tw ?_|(refine Tm ?_;intro _)|exact Tz)
   refine WC.adraw 3 (k:=?_)
   repeat (first|refine Da ?_|refine DQ.acall (hc:=ud) (k:=?_)|refine Dc ?_)
   refine DQ.anil (k:=?_);intro sx _
   repeat (first|refine Tw ?_|(refine Tm ?_;intro _)|exact Tz)
  ·have hD:=ac2 r s (by omega) hsB hs0;have hq:=adG (r:=r) (s:=s) (m:=m) (by omega) hrm h1;have hT:=lv (r / s) y m hq hy hm;have hS:=aai x (r / s*y%m) m (by omega) (Nat.lt_trans (Nat.mod_lt _ (by omega)) hm) hm;have hmay:zN x (r / s*y%m) m=true:=by unfold zN;simp[h1,hx,Nat.mod_lt _ (show 0<m by omega)]
   rw[hmay] at hS;have hnext:=nT (m:=m) (r:=r) (x:=x) (y:=y) (show 1<s by omega);have hpos:=lV (show 1<s by omega) hgc;have hlt:=Nat.mod_lt r hs0;have hgn:=kt hgc;have hz:(x+m - r / s*y%m)%m<m:=Nat.mod_lt _ (by omega);rw[heq] at hnext;generalize (x+m - r / s*y%m)%m=z at *;generalize r / s*y%m=u at *;generalize r / s=q at *;generalize r%s=p at *
   repeat (first|refine Tw ?_|(refine Tm ?_;intro _)|exact Tz)
   refine WC.adraw 3 (k:=?_)
   repeat (first|refine Da ?_|refine DQ.acall (hc:=ud) (k:=?_)|refine Dc ?_)
   refine DQ.anil (k:=?_);intro sx _
   repeat (first|refine Tw ?_|(refine Tm ?_;intro _)|exact Tz)
   refine WC.dT rfl hs1 ?_
   repeat (first|refine Ta ?_|(refine Tm ?_;intro _)|refine WO.acall (hc:=hD) (k:=?_)|refine Tc ?_|exact Tz)
   rename_i g11 g12;refine WC.adrawF [9] 11 (k:=?_)
   repeat (first|refine Da ?_|refine DQ.acall (hc:=hT) (k:=?_)|refine DQ.acall (hc:=hS) (k:=?_)|refine Df ?_)
   refine DQ.anil (k:=?_);intro sx _
   repeat (first|refine Tw ?_|(refine Tm ?_;intro _)|exact Tz)
   generalize sx 10 0=g14;refine WC.adrawS [1,2,3] [(1,[⟨g12,24,zb p⟩]),(2,[⟨g10,24,zb y⟩]),(3,[⟨g14,24,zb z⟩])] 4 (k:=?_)
   repeat (first|refine DQS.skip ?_|refine DQS.autoM (k:=?_)|refine DQS.autoH (k:=?_)|refine DQS.auto (k:=?_)|refine DQS.autoF (k:=?_)|refine DQS.does (fun s _=>yq) Dp.const ?_|refine DQS.does (fun s _=>vH) Dp.const ?_)
   refine DQS.anil (k:=?_);intro sx _
   repeat (first|refine WOS.autoS (kk:=?_)|refine WOS.auto (kk:=?_))
   refine WOS.nil ?_;refine WX.noPanic ?_
   repeat (first|refine Tw ?_|(refine Tm ?_;intro _)|exact Tz)
   refine WX.metI (s,p,y,z) (hs:=⟨⟨hpos,hlt,by omega,hgn,hy,hz,hnext.symm⟩,hlt⟩)
 ·have hinv:v7 a m=0:=mN hg;rw[hinv];refine Fn.enter Tryz.func110 rfl rfl rfl ?_;intro w hw
  repeat (first|refine Ta ?_|(refine Tm ?_;intro _)|refine WO.acall (hc:=hG) (k:=?_)|refine WO.acall (hc:=ud) (k:=?_)|refine Tc ?_|exact Tz)
  refine WC.dT rfl hg ?_
  repeat (first|refine Tw ?_|(refine Tm ?_;intro _)|exact Tz)
theorem fT {a m:Nat} (h1:1<m) (ha:a<m):v7 a m<m:=by
 by_cases hg:Nat.gcd a m=1
 ·exact (vw h1 ha hg).2
 ·rw[mN hg];omega
theorem adr (a m:Nat) (ha:a<zc) (hm:m<zc):Fn Tryz.prog 66 [ze a,ze m] Tr (Is (.tuple #[ze (okV (zN a a m) (v7 a m)),.int .i64 (nj a m)])):=by
 have hO:=acS (f:=110) [] a a m (v7 a m) ha ha hm Tr zO.tr (fun h=>ab1 a m (zJ h).1 (zJ h).2.1 hm);cases hy:zN a a m with
 | false =>
  have he:nj a m=1:=by unfold nj;rw[hy];rfl
  rw[hy] at hO;rw[he];refine Fn.enter Tryz.func66 rfl rfl rfl ?_;intro w hw
  repeat (first|refine Ta ?_|(refine Tm ?_;intro _)|refine WO.acall (hc:=hO) (k:=?_)|refine Tc ?_|exact Tz)
  refine WC.adraw 7 (k:=?_)
  repeat (first|refine Da ?_|refine DQ.acall (hc:=mx) (k:=?_)|refine Dc ?_)
  refine DQ.anil (k:=?_);intro sx _
  repeat (first|refine Tw ?_|(refine Tm ?_;intro _)|exact Tz)
 | true =>
  obtain⟨h1,h2,_⟩:=zJ hy;have hB:v7 a m<zc:=Nat.lt_trans (fT h1 h2) hm;rw[hy] at hO
  by_cases hg:Nat.gcd a m=1
  ·have he:nj a m=0:=by unfold nj;rw[hy,if_pos hg];rfl
   have hz:¬ v7 a m=0:=aaL h1 h2 hg;rw[he];generalize v7 a m=v at *;refine Fn.enter Tryz.func66 rfl rfl rfl ?_;intro w hw
   repeat (first|refine Ta ?_|(refine Tm ?_;intro _)|refine WO.acall (hc:=hO) (k:=?_)|refine Tc ?_|exact Tz)
   refine WC.adraw 7 (k:=?_)
   repeat (first|refine Da ?_|refine DQ.acall (hc:=mx) (k:=?_)|refine Dc ?_)
   refine DQ.anil (k:=?_);intro sx _
   repeat (first|refine Tw ?_|(refine Tm ?_;intro _)|exact Tz)
   refine WC.dF rfl hz ?_
   repeat (first|refine Tw ?_|(refine Tm ?_;intro _)|exact Tz)
  ·have he:nj a m=7:=by unfold nj;rw[hy,if_neg hg];rfl
   rw[he];rw[mN hg] at hO ⊢;refine Fn.enter Tryz.func66 rfl rfl rfl ?_;intro w hw
   repeat (first|refine Ta ?_|(refine Tm ?_;intro _)|refine WO.acall (hc:=hO) (k:=?_)|refine Tc ?_|exact Tz)
   refine WC.adraw 7 (k:=?_)
   repeat (first|refine Da ?_|refine DQ.acall (hc:=mx) (k:=?_)|refine Dc ?_)
   refine DQ.anil (k:=?_);intro sx _
   repeat (first|refine Tw ?_|(refine Tm ?_;intro _)|exact Tz)
abbrev vu (p q g h:Nat):List Value:=[.int .u64 ((wd 0 p:Nat):Int),.int .u64 ((wd 1 p:Nat):Int),.int .u64 ((wd 2 p:Nat):Int),.int .u64 ((wd 3 p:Nat):Int),.int .u64 ((wd 0 q:Nat):Int),.int .u64 ((wd 1 q:Nat):Int),.int .u64 ((wd 2 q:Nat):Int),.int .u64 ((wd 3 q:Nat):Int),.int .u64 ((wd 0 g:Nat):Int),.int .u64 ((wd 1 g:Nat):Int),.int .u64 ((wd 2 g:Nat):Int),.int .u64 ((wd 3 g:Nat):Int),.int .u64 ((wd 0 h:Nat):Int),.int .u64 ((wd 1 h:Nat):Int),.int .u64 ((wd 2 h:Nat):Int),.int .u64 ((wd 3 h:Nat):Int)]
abbrev yR (p q g h:Nat):Value:=.agg #[.int .u64 ((wd 0 p:Nat):Int),.int .u64 ((wd 1 p:Nat):Int),.int .u64 ((wd 2 p:Nat):Int),.int .u64 ((wd 3 p:Nat):Int),.int .u64 ((wd 0 q:Nat):Int),.int .u64 ((wd 1 q:Nat):Int),.int .u64 ((wd 2 q:Nat):Int),.int .u64 ((wd 3 q:Nat):Int),.int .u64 ((wd 0 g:Nat):Int),.int .u64 ((wd 1 g:Nat):Int),.int .u64 ((wd 2 g:Nat):Int),.int .u64 ((wd 3 g:Nat):Int),.int .u64 ((wd 0 h:Nat):Int),.int .u64 ((wd 1 h:Nat):Int),.int .u64 ((wd 2 h:Nat):Int),.int .u64 ((wd 3 h:Nat):Int)]
def yB (p a:Nat):Bool:=decide (1<p) && decide (a≠0) && decide (a<p)
theorem vx {p a:Nat} (h:yB p a=true):1<p∧a≠0∧a<p:=by
 unfold yB at h;simp at h;exact⟨h.1.1,h.1.2,h.2⟩
theorem eU {p a:Nat} (h:yB p a=true):zN a a p=true:=by
 obtain⟨h1,_,h3⟩:=vx h;simp[zN,h1,h3]
section
variable (p q g h:Nat)
theorem pH (a b:Nat) (ha:a<zc) (hb:b<zc) (hq:q<zc):Fn Tryz.prog 65 [yR p q g h,ze a,ze b] Tr (Is (rE (zN a b q) ((a+b)%q))):=by
 have hO:=acu a b q ha hb hq;refine Fn.enter Tryz.func65 rfl rfl rfl ?_;intro w hw
 repeat (first|refine Td ?_|(refine Tm ?_;intro _)|refine WO.acall (hc:=hO) (k:=?_)|refine Tc ?_|exact Tz)
theorem aw (a b:Nat) (ha:a<zc) (hb:b<zc) (hq:q<zc):Fn Tryz.prog 79 [yR p q g h,ze a,ze b] Tr (Is (rE (zN a b q) ((a+q - b)%q))):=by
 have hO:=aai a b q ha hb hq;refine Fn.enter Tryz.func79 rfl rfl rfl ?_;intro w hw
 repeat (first|refine Td ?_|(refine Tm ?_;intro _)|refine WO.acall (hc:=hO) (k:=?_)|refine Tc ?_|exact Tz)
theorem eX (a b:Nat) (ha:a<zc) (hb:b<zc) (hq:q<zc):Fn Tryz.prog 77 [yR p q g h,ze a,ze b] Tr (Is (rE (zN a b q) (a*b%q))):=by
 have hO:=aaf a b q ha hb hq;refine Fn.enter Tryz.func77 rfl rfl rfl ?_;intro w hw
 repeat (first|refine Td ?_|(refine Tm ?_;intro _)|refine WO.acall (hc:=hO) (k:=?_)|refine Tc ?_|exact Tz)
theorem el (a:Nat) (ha:a<zc) (hq:q<zc):Fn Tryz.prog 29 [yR p q g h,ze a] Tr (Is (.tuple #[ze (okV (zN a a q) (v7 a q)),.int .i64 (nj a q)])):=by
 have hO:=adr a q ha hq;refine Fn.enter Tryz.func29 rfl rfl rfl ?_;intro w hw
 repeat (first|refine Td ?_|(refine Tm ?_;intro _)|refine WO.acall (hc:=hO) (k:=?_)|refine Tc ?_|exact Tz)
theorem aar (a:Nat) (ha:a<zc) (hp:p<zc):Fn Tryz.prog 50 [yR p q g h,ze a] Tr (Is (.bool (yB p a))):=by
 have hC1:=ma p 1 hp yD;have hC2:=ma a p ha hp
 by_cases h1:1<p
 ·rw[lP h1] at hC1
  by_cases h2:a=0
  ·have e:yB p a=false:=by simp[yB,h2]
   rw[e];refine Fn.enter Tryz.func50 rfl rfl rfl ?_;intro w hw
   repeat (first|refine Td ?_|(refine Tm ?_;intro _)|refine Tc ?_|exact Tz)
   refine WC.adraw 18 (k:=?_)
   repeat (first|refine DQ.decT (k:=?_)|refine DQ.decF (k:=?_)|refine Da ?_|refine DQ.acall (hc:=ud) (k:=?_)|refine DQ.acall (hc:=mx) (k:=?_)|refine DQ.acall (hc:=hC1) (k:=?_)|refine DQ.acall (hc:=hC2) (k:=?_)|refine Dc ?_)
   refine DQ.anil (k:=?_);intro sx _
   repeat (first|refine Td ?_|(refine Tm ?_;intro _)|refine Tc ?_|exact Tz)
  ·by_cases h3:a<p
   ·have e:yB p a=true:=by simp[yB,h1,h2,h3]
    rw[fg h3] at hC2;rw[e];refine Fn.enter Tryz.func50 rfl rfl rfl ?_;intro w hw
    repeat (first|refine Td ?_|(refine Tm ?_;intro _)|refine Tc ?_|exact Tz)
    refine WC.adraw 18 (k:=?_)
    repeat (first|refine DQ.decT (k:=?_)|refine DQ.decF (k:=?_)|refine Da ?_|refine DQ.acall (hc:=ud) (k:=?_)|refine DQ.acall (hc:=mx) (k:=?_)|refine DQ.acall (hc:=hC1) (k:=?_)|refine DQ.acall (hc:=hC2) (k:=?_)|refine Dc ?_)
    refine DQ.anil (k:=?_);intro sx _
    repeat (first|refine Td ?_|(refine Tm ?_;intro _)|refine Tc ?_|exact Tz)
   ·have e:yB p a=false:=by simp[yB,h3]
    have e2:uH a p=0∨uH a p=1:=by
     rcases Nat.lt_or_ge p a with h4|h4
     ·exact .inr (lP h4)
     ·exact .inl (fu (by omega))
    rw[e]
    rcases e2 with e2|e2
    all_goals
     rw[e2] at hC2;refine Fn.enter Tryz.func50 rfl rfl rfl ?_;intro w hw
     repeat (first|refine Td ?_|(refine Tm ?_;intro _)|refine Tc ?_|exact Tz)
     refine WC.adraw 18 (k:=?_)
     repeat (first|refine DQ.decT (k:=?_)|refine DQ.decF (k:=?_)|refine Da ?_|refine DQ.acall (hc:=ud) (k:=?_)|refine DQ.acall (hc:=mx) (k:=?_)|refine DQ.acall (hc:=hC1) (k:=?_)|refine DQ.acall (hc:=hC2) (k:=?_)|refine Dc ?_)
     refine DQ.anil (k:=?_);intro sx _
     repeat (first|refine Td ?_|(refine Tm ?_;intro _)|refine Tc ?_|exact Tz)
 ·have e:yB p a=false:=by simp[yB,h1]
  have e2:uH p 1=0∨uH p 1 = -1:=by
   rcases Nat.lt_or_ge p 1 with h4|h4
   ·exact .inr (fg h4)
   ·exact .inl (fu (by omega))
  rw[e]
  rcases e2 with e2|e2
  all_goals
   rw[e2] at hC1;refine Fn.enter Tryz.func50 rfl rfl rfl ?_;intro w hw
   repeat (first|refine Td ?_|(refine Tm ?_;intro _)|refine Tc ?_|exact Tz)
   refine WC.adraw 18 (k:=?_)
   repeat (first|refine DQ.decT (k:=?_)|refine DQ.decF (k:=?_)|refine Da ?_|refine DQ.acall (hc:=ud) (k:=?_)|refine DQ.acall (hc:=mx) (k:=?_)|refine DQ.acall (hc:=hC1) (k:=?_)|refine DQ.acall (hc:=hC2) (k:=?_)|refine Dc ?_)
   refine DQ.anil (k:=?_);intro sx _
   repeat (first|refine Td ?_|(refine Tm ?_;intro _)|refine Tc ?_|exact Tz)
theorem vD (a n:Nat) (ha:a<zc) (hn:n<zc) (hp:p<zc):Fn Tryz.prog 30 [yR p q g h,ze a,ze n] Tr (Is (rE (yB p a) (a ^ n%p))):=by
 have hM:=aar p q g h a ha hp;cases hy:yB p a with
 | true =>
  have hE:=ac7 a n p ha hn hp;rw[eU hy] at hE;rw[hy] at hM;refine Fn.enter Tryz.func30 rfl rfl rfl ?_;intro w hw
  repeat (first|refine Td ?_|(refine Tm ?_;intro _)|refine WO.acall (hc:=hM) (k:=?_)|refine WO.acall (hc:=hE) (k:=?_)|refine Tc ?_|exact Tz)
 | false =>
  rw[hy] at hM;refine Fn.enter Tryz.func30 rfl rfl rfl ?_;intro w hw
  repeat (first|refine Td ?_|(refine Tm ?_;intro _)|refine WO.acall (hc:=hM) (k:=?_)|refine Tc ?_|exact Tz)
theorem nu (a b:Nat) (ha:a<zc) (hb:b<zc) (hp:p<zc):Fn Tryz.prog 20 [yR p q g h,ze a,ze b] Tr (Is (rE (yB p a && yB p b) (a*b%p))):=by
 have hM1:=aar p q g h a ha hp;have hM2:=aar p q g h b hb hp;cases hy:yB p a with
 | true =>
  rw[hy] at hM1;cases hz:yB p b with
  | true =>
   rw[hz] at hM2;have hE:=aaf a b p ha hb hp;have hm:zN a b p=true:=by
    obtain⟨h1,_,h3⟩:=vx hy;obtain⟨_,_,h4⟩:=vx hz;simp[zN,h1,h3,h4]
   rw[hm] at hE;refine Fn.enter Tryz.func20 rfl rfl rfl ?_;intro w hw
   repeat (first|refine Td ?_|(refine Tm ?_;intro _)|refine WO.acall (hc:=hM1) (k:=?_)|refine WO.acall (hc:=hM2) (k:=?_)|refine WO.acall (hc:=hE) (k:=?_)|refine Tc ?_|exact Tz)
  | false =>
   rw[hz] at hM2;refine Fn.enter Tryz.func20 rfl rfl rfl ?_;intro w hw
   repeat (first|refine Td ?_|(refine Tm ?_;intro _)|refine WO.acall (hc:=hM1) (k:=?_)|refine WO.acall (hc:=hM2) (k:=?_)|refine Tc ?_|exact Tz)
 | false =>
  rw[hy] at hM1;refine Fn.enter Tryz.func20 rfl rfl rfl ?_;intro w hw
  repeat (first|refine Td ?_|(refine Tm ?_;intro _)|refine WO.acall (hc:=hM1) (k:=?_)|refine WO.acall (hc:=hM2) (k:=?_)|refine Tc ?_|exact Tz)
def gIn (p q a:Nat):Bool:=yB p a && decide (a ^ q%p=1)
theorem tv (a:Nat) (ha:a<zc) (hp:p<zc) (hq:q<zc):Fn Tryz.prog 21 [yR p q g h,ze a] Tr (Is (.bool (gIn p q a))):=by
 have hE:=vD p q g h a q ha hq hp;cases hy:yB p a with
 | true =>
  rw[hy] at hE;have hB:a ^ q%p<zc:=Nat.lt_trans (Nat.mod_lt _ (by have:=vx hy;omega)) hp;have e:gIn p q a=decide (a ^ q%p=1):=by simp[gIn,hy]
  rw[e];generalize a ^ q%p=v at *;refine Fn.enter Tryz.func21 rfl rfl rfl ?_;intro w hw
  repeat (first|refine Td ?_|(refine Tm ?_;intro _)|refine WO.acall (hc:=hE) (k:=?_)|refine Tc ?_|exact Tz)
  by_cases hv:v=1
  ·rw[decide_eq_true hv];refine WC.adraw 8 (k:=?_)
   repeat (first|refine DQ.decT (k:=?_)|refine DQ.decF (k:=?_)|refine Da ?_|refine DQ.acall (hc:=ud) (k:=?_)|refine Dc ?_)
   refine DQ.anil (k:=?_);intro sx _
   repeat (first|refine Td ?_|(refine Tm ?_;intro _)|refine Tc ?_|exact Tz)
  ·rw[decide_eq_false hv];refine WC.adraw 8 (k:=?_)
   repeat (first|refine DQ.decT (k:=?_)|refine DQ.decF (k:=?_)|refine Da ?_|refine DQ.acall (hc:=ud) (k:=?_)|refine Dc ?_)
   refine DQ.anil (k:=?_);intro sx _
   repeat (first|refine Td ?_|(refine Tm ?_;intro _)|refine Tc ?_|exact Tz)
 | false =>
  have e:gIn p q a=false:=by simp[gIn,hy]
  rw[hy] at hE;rw[e];refine Fn.enter Tryz.func21 rfl rfl rfl ?_;intro w hw
  repeat (first|refine Td ?_|(refine Tm ?_;intro _)|refine WO.acall (hc:=hE) (k:=?_)|refine Tc ?_|exact Tz)
  refine WC.adraw 8 (k:=?_)
  repeat (first|refine DQ.decT (k:=?_)|refine DQ.decF (k:=?_)|refine Da ?_|refine DQ.acall (hc:=ud) (k:=?_)|refine Dc ?_)
  refine DQ.anil (k:=?_);intro sx _
  repeat (first|refine Td ?_|(refine Tm ?_;intro _)|refine Tc ?_|exact Tz)
end
end Sx
end
section
open Go Go.RowKit Go.BigFrame
namespace Sx
theorem gn (a q:Nat):Nat.gcd (a%q) q=Nat.gcd a q:=by
 rw[Nat.gcd_comm a q,Nat.gcd_rec q a]
def prM (q:Nat) (a:Nat) (ds:List Nat):Nat:=ds.foldl (fun a d=>a*d%q) a
def iC (q:Nat) (ds:List Nat):Bool:=ds.all fun d=>decide (Nat.gcd d q=1)
theorem oO (q a:Nat) (ds:List Nat) (d:Nat):prM q a (ds++[d])=prM q a ds*d%q:=by unfold prM;rw[List.foldl_append];rfl
theorem pc {q a:Nat} (hq:0<q) (ha:a<q) (ds:List Nat):prM q a ds<q:=by
 rcases List.eq_nil_or_concat ds with rfl|⟨r,d,rfl⟩
 ·exact ha
 ·rw[List.concat_eq_append,oO];exact Nat.mod_lt _ hq
theorem bf {a b q:Nat}:Nat.gcd (a*b) q=1↔Nat.gcd a q=1∧Nat.gcd b q=1 :=
 ⟨fun h=>⟨Nat.Coprime.coprime_mul_right h,Nat.Coprime.coprime_mul_left h⟩,fun ⟨h1,h2⟩=>Nat.Coprime.mul_left h1 h2⟩
theorem sr (q:Nat):∀ (ds:List Nat) (a:Nat),Nat.gcd (prM q a ds) q=1↔(Nat.gcd a q=1∧iC q ds=true)
 | [],a=>by simp[prM,iC]
 | d::r,a=>by
  have ih:=sr q r (a*d%q);rw[gn,bf] at ih;show Nat.gcd (prM q (a*d%q) r) q=1↔_;rw[ih];simp[iC,and_assoc]
def dif (q:Nat) (l:List Nat) (i x k:Nat):List Nat:=(List.range k).flatMap fun j=>if j=i then [] else [(x+q - l.getD j 0)%q]
theorem ou {q i x k:Nat} {l:List Nat} (h:k=i):dif q l i x (k+1)=dif q l i x k:=by unfold dif;rw[List.range_succ,List.flatMap_append];simp[h]
theorem oR {q i x k v:Nat} {l:List Nat} (h:k≠i) (hv:l[k]?=some v):dif q l i x (k+1)=dif q l i x k++[(x+q - v)%q]:=by unfold dif;rw[List.range_succ,List.flatMap_append];simp[h,List.getD,hv]
theorem aQ {q i x k:Nat} {l:List Nat} (hq:0<q):∀ d∈dif q l i x k,d<q:=by
 intro d hd;unfold dif at hd;obtain⟨j,_,hj⟩:=List.mem_flatMap.1 hd
 by_cases e:j=i
 ·rw[if_pos e] at hj;cases hj
 ·rw[if_neg e] at hj;rw[List.mem_singleton.1 hj];exact Nat.mod_lt _ hq
theorem ly {q i x k:Nat} {l:List Nat}:(dif q l i x k).length≤k:=by
 induction k with
 | zero=>simp[dif]
 | succ k ih =>
  unfold dif at *;rw[List.range_succ,List.flatMap_append,List.length_append];have:([k].flatMap fun j=>if j=i then [] else [(x+q - l.getD j 0)%q]).length≤1:=by
   simp only[List.flatMap_cons,List.flatMap_nil,List.append_nil]
   split<;>simp
  omega
structure tX (q:Nat) (l:List Nat):Prop where
 ne:l≠[]
 lt:∀ y∈l,y<q
 nd:l.Nodup
 len:l.length≤7
theorem dU {a q:Nat} (h1:1<q) (ha:a<q):v7 a q<q:=by
 by_cases hg:Nat.gcd a q=1
 ·exact (vw h1 ha hg).2
 ·unfold v7;rw[if_neg hg];omega
def wtI (q:Nat) (l:List Nat) (i:Nat):Nat:=v7 (prM q 1 (dif q l i (l.getD i 0) l.length)) q
def wtN (q:Nat) (l:List Nat) (x i:Nat):Nat:=prM q (wtI q l i) (dif q l i x l.length)
theorem iN {q:Nat} {l:List Nat} {i:Nat} (h1:1<q):wtI q l i<q:=dU h1 (pc (by omega) h1 _)
theorem am {q:Nat} {l:List Nat} {x i:Nat} (h1:1<q):wtN q l x i<q:=pc (by omega) (iN h1) _
def wts (q:Nat) (l:List Nat) (x:Nat):List Nat:=(List.range l.length).map (wtN q l x)
end Sx
end
end Go.Proofs.YtbhblpnjhkddbaaGreat
