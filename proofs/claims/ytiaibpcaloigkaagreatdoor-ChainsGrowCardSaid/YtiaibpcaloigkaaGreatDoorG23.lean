/- Part 23 of the proof. -/
import Derived.Test.YtiaibpcaloigkaaGreatDoorG19
import Derived.Test.YtiaibpcaloigkaaGreatDoorG21
import Derived.Test.YtiaibpcaloigkaaGreatDoorG22
set_option linter.unusedSimpArgs false
set_option linter.unusedVariables false
set_option maxHeartbeats 8000000
namespace Go.Proofs.YtiaibpcaloigkaaGreatDoor
section
open Go Go.RowKit Go.BigFrame
namespace Sx
attribute [local irreducible] DQ WC WO WX wd
end Sx
end
section
open Go Go.RowKit Go.BigFrame
namespace Sx
attribute [local irreducible] DQ WC WO WX
theorem ab6 {a b:Nat} (ha:a<18446744073709551616) (hb:b<18446744073709551616):IntKind.u64.wrap (((BitVec.ofInt IntKind.u64.bits ((a:Nat):Int) ||| BitVec.ofInt IntKind.u64.bits ((b:Nat):Int)).toNat:Nat):Int)=((a ||| b:Nat):Int):=by
 have e:(BitVec.ofInt IntKind.u64.bits ((a:Nat):Int) ||| BitVec.ofInt IntKind.u64.bits ((b:Nat):Int)).toNat=a ||| b:=by
  rw[BitVec.toNat_or,BitVec.toNat_ofInt,BitVec.toNat_ofInt];have e1:(((a:Nat):Int)%((2 ^ IntKind.u64.bits:Nat):Int)).toNat=a:=by show (((a:Nat):Int)%18446744073709551616).toNat=a;omega
  have e2:(((b:Nat):Int)%((2 ^ IntKind.u64.bits:Nat):Int)).toNat=b:=by show (((b:Nat):Int)%18446744073709551616).toNat=b;omega
  rw[e1,e2]
 rw[e];have:=Nat.or_lt_two_pow (n:=64) ha hb;exact u64_in Om Om
theorem aey {a b:Nat} (ha:a<18446744073709551616) (hb:b<18446744073709551616):a ||| b<18446744073709551616:=Nat.or_lt_two_pow (n:=64) ha hb
theorem aN {a b c:Nat}:a ||| b ||| c=0↔a=0∧b=0∧c=0:=by
 refine⟨fun h=>?_,fun ⟨h1,h2,h3⟩=>by rw[h1,h2,h3];rfl⟩;have h1:=Nat.left_le_or (n:=a) (m:=b);have h2:=Nat.right_le_or (n:=a) (m:=b);have h3:=Nat.left_le_or (n:=a ||| b) (m:=c);have h4:=Nat.right_le_or (n:=a ||| b) (m:=c);omega
theorem acP (a m:Nat) (ha:a<ze) (hm:m<9223372036854775808):Fn Tryz.prog 66 [zk a,.int .i64 (m:Int)] Tr (Is (.bool (decide (m<a)))):=by
 have hp:=fm ha;have o1:=ab6 (yd 1 a) (yd 2 a);have o2:=ab6 (aey (yd 1 a) (yd 2 a)) (yd 3 a);have oz:=aN (a:=wd 1 a) (b:=wd 2 a) (c:=wd 3 a);have hcv:IntKind.u64.wrap (m:Int)=(m:Int):=u64_in Om Om
 by_cases hz:wd 1 a ||| wd 2 a ||| wd 3 a=0
 ·have hlt:=hp.2 (oz.1 hz);have w0:wd 0 a=a:=Nat.mod_eq_of_lt hlt;have d1:decide (((wd 1 a ||| wd 2 a ||| wd 3 a:Nat):Int)≠0)=false:=decide_eq_false (fun h=>h Om);have d2:decide ((m:Int)<((wd 0 a:Nat):Int))=decide (m<a):=by rw[w0];simp
  generalize wd 1 a ||| wd 2 a ||| wd 3 a=Z at *
  generalize wd 1 a ||| wd 2 a=Y at *
  refine Fn.enter Tryz.func66 rfl rfl rfl ?_;intro w hw
  repeat (first|refine Tj ?_|intro _|refine WO.does (uK rfl rfl o1) ?_|refine WO.does (uK rfl rfl o2) ?_|refine Tc ?_|exact Tz)
  rw[d1]
  repeat (first|refine Tj ?_|intro _|refine WO.does (zr rfl hcv) ?_|refine Tc ?_|exact Tz)
  rw[d2]
  repeat (first|refine Tk ?_|intro _|exact Tz)
 ·have hge:¬ a<18446744073709551616:=fun h=>hz (oz.2 (hp.1 h));have d1:decide (((wd 1 a ||| wd 2 a ||| wd 3 a:Nat):Int)≠0)=true:=decide_eq_true (fun h=>hz Om);rw[show decide (m<a)=true from decide_eq_true Om];generalize wd 1 a ||| wd 2 a ||| wd 3 a=Z at *
  generalize wd 1 a ||| wd 2 a=Y at *
  refine Fn.enter Tryz.func66 rfl rfl rfl ?_;intro w hw
  repeat (first|refine Tj ?_|intro _|refine WO.does (uK rfl rfl o1) ?_|refine WO.does (uK rfl rfl o2) ?_|refine Tc ?_|exact Tz)
  rw[d1]
  repeat (first|refine Tk ?_|intro _|exact Tz)
theorem zL {α:Type} {f:α→List Value} {k:Nat} (hk:∀ x,(f x).length=k):∀ {xs:List α} {i:Nat} {x:α},xs[i]?=some x→cut (xs.flatMap f) (i*k) k=f x
 | [],i,x,h=>by simp at h
 | y::r,0,x,h=>by
  simp at h;subst h;simp[cut,← hk y]
 | y::r,i+1,x,h=>by
  have:=zL hk (xs:=r) (i:=i) (x:=x) (by simpa using h);rw[← this];unfold cut;rw[List.flatMap_cons,show (i+1)*k=(f y).length+i*k by rw[hk,Nat.succ_mul];omega,← List.drop_drop,List.drop_left]
def ixI {α:Type} (P:α→Bool):List α→Int
 | []=>-1
 | x::r=>if P x then 0 else if ixI P r<0 then -1 else ixI P r+1
theorem cL {α:Type} (P:α→Bool):∀ xs:List α,0≤ixI P xs↔xs.any P=true
 | []=>by simp[ixI]
 | x::r=>by
  have ih:=cL P r;have e:ixI P (x::r)=if P x then 0 else if ixI P r<0 then -1 else ixI P r+1:=rfl
  by_cases h:P x=true
  ·have e2:ixI P (x::r)=0:=by rw[e,if_pos h]
   rw[e2,List.any_cons,h];simp
  ·have e2:ixI P (x::r)=if ixI P r<0 then -1 else ixI P r+1:=by rw[e,if_neg h]
   rw[e2,List.any_cons,show P x=false by simpa using h,Bool.false_or,← ih]
   split<;>omega
theorem kL {α:Type} (P:α→Bool) (xs:List α):decide (0≤ixI P xs)=xs.any P :=
 Bool.eq_iff_iff.2 (by rw[decide_eq_true_iff];exact cL P xs)
theorem oa {α:Type} (P:α→Bool):∀ (xs:List α) (i:Nat),(∀ j,j<i→∀ x,xs[j]?=some x→P x=false)→ixI P xs=(if ixI P (xs.drop i)<0 then -1 else ixI P (xs.drop i)+i)
 | xs,0,_=>by
  simp only[List.drop_zero];have:ixI P xs = -1∨0≤ixI P xs:=by
   cases xs with
   | nil=>exact .inl rfl
   | cons x r => simp only [ixI]; split; · exact .inr Dtt
                 split
                 ·exact .inl rfl
                 ·right;omega
  split<;>omega
 | [],i+1,_=>by simp[ixI]
 | x::r,i+1,h=>by
  have hx:=h 0 Om x rfl;have ih:=oa P r i (fun j hj y hy=>h (j+1) Om y (by simpa using hy));simp only[ixI,hx,List.drop_succ_cons,Bool.false_eq_true,if_false];rw[ih]
  split<;>split<;>omega
theorem bi {α:Type} (P:α→Bool) {xs:List α} {i:Nat} {x:α} (h0:∀ j,j<i→∀ x,xs[j]?=some x→P x=false) (hx:xs[i]?=some x) (hp:P x=true):ixI P xs=i:=by
 rw[oa P xs i h0];have hlt:i<xs.length:=by
  rcases Nat.lt_or_ge i xs.length with h|h
  ·exact h
  ·rw[List.getElem?_eq_none h] at hx;cases hx
 have:xs.drop i=x::xs.drop (i+1):=by
  rw[List.drop_eq_getElem_cons hlt];rw[List.getElem?_eq_getElem hlt] at hx;cases hx;rfl
 rw[this];simp[ixI,hp]
theorem nm {α:Type} (P:α→Bool) {xs:List α} (h0:∀ j,j<xs.length→∀ x,xs[j]?=some x→P x=false):ixI P xs = -1:=by
 rw[oa P xs xs.length h0];simp[ixI]
abbrev ya (k:Nat × Nat):List Value:=[.int .u64 ((wd 0 k.1:Nat):Int),.int .u64 ((wd 1 k.1:Nat):Int),.int .u64 ((wd 2 k.1:Nat):Int),.int .u64 ((wd 3 k.1:Nat):Int),.int .u64 ((wd 0 k.2:Nat):Int),.int .u64 ((wd 1 k.2:Nat):Int),.int .u64 ((wd 2 k.2:Nat):Int),.int .u64 ((wd 3 k.2:Nat):Int)]
abbrev ahv (k:Nat × Nat):Value:=.agg #[.int .u64 ((wd 0 k.1:Nat):Int),.int .u64 ((wd 1 k.1:Nat):Int),.int .u64 ((wd 2 k.1:Nat):Int),.int .u64 ((wd 3 k.1:Nat):Int),.int .u64 ((wd 0 k.2:Nat):Int),.int .u64 ((wd 1 k.2:Nat):Int),.int .u64 ((wd 2 k.2:Nat):Int),.int .u64 ((wd 3 k.2:Nat):Int)]
theorem zU (x:Nat):(zc x).length=4:=rfl
theorem v7 (k:Nat × Nat):(ya k).length=8:=rfl
theorem fC {f:Nat} [Cal Tryz.prog f] (caps:LV) (Pb:Nat→Bool) (xs:List (Nat)) (b o c:Nat) (R:World→Prop) (hst:zX R) (hn:xs.length≤1099511627776)
  (hf:∀ x∈xs,Fn Tryz.prog f ([zk x]++caps) R (Is (.bool (Pb x)))) :
  Fn Tryz.prog 147 [.slice (some ⟨b,o,none⟩) xs.length c,.func (.func f) #[] caps.toArray] (fun w=>Seg w b o (xs.flatMap zc)∧R w) (Is (.int .i64 (ixI Pb xs))):=by
 refine Fn.enter Tryz.func147 rfl rfl rfl ?_;intro w hw;obtain⟨hw,hwR⟩:=hw
 repeat (first|refine Tk ?_|intro _|exact Tz)
 refine WC.loopI (σ:=Nat) (fun i=>i≤xs.length∧∀ j,j<i→∀ x,xs[j]?=some x→Pb x=false) (fun i=>[(0,.slice (some ⟨b,o,none⟩) xs.length c),(1,.func (.func f) #[] caps.toArray),(7,.int .i64 (xs.length:Int)),(8,.int .i64 (i:Int))]) (fun _=>[]) (fun i=>xs.length - i) 0 (fun i hi=>?_) ⟨Nat.zero_le _,fun j hj=>by omega⟩
 try dsimp only at hi ⊢
 obtain⟨hi,h0⟩:=hi
 by_cases hlt:i<xs.length
 ·obtain⟨x,hx⟩ : ∃ x,xs[i]?=some x:=⟨_,List.getElem?_eq_getElem hlt⟩;have hcx:cut (xs.flatMap zc) (o+i*4 - o) 4=zc x:=by rw[Nat.add_sub_cancel_left];exact zL zU hx
  have hcall:=hf x (List.mem_of_getElem? hx);cases hp:Pb x with
  | true =>
   rw[bi Pb h0 hx hp];rw[hp] at hcall
   repeat (first|refine Tk ?_|intro _|exact Tz)
   refine WC.dT rfl Om ?_
   repeat (first|refine Tj ?_|intro _|refine WO.does (zb (o':=o+i*4) rfl rfl hlt rfl) ?_|refine WO.does (zn (vs:=zc x) (hs:=hw) (hle:=Nat.le_add_right _ _) (hc:=hcx)) ?_|refine WO.acallV (hc:=hcall) (hR:=fun w' hm=>hst _ _ hwR hm.mod.below) (k:=?_)|refine Tc ?_|exact Tz)
  | false =>
   rw[hp] at hcall
   repeat (first|refine Tk ?_|intro _|exact Tz)
   refine WC.dT rfl Om ?_
   repeat (first|refine Tj ?_|intro _|refine WO.does (zb (o':=o+i*4) rfl rfl hlt rfl) ?_|refine WO.does (zn (vs:=zc x) (hs:=hw) (hle:=Nat.le_add_right _ _) (hc:=hcx)) ?_|refine WO.acallV (hc:=hcall) (hR:=fun w' hm=>hst _ _ hwR hm.mod.below) (k:=?_)|refine Tc ?_|exact Tz)
   refine WX.metI (i+1) (hs:=⟨⟨by show i+1≤xs.length;omega,fun j hj y hy=>by
    rcases Nat.lt_or_ge j i with h|h
    ·exact h0 j h y hy
    ·have:j=i:=by omega
     subst this;rw[hx] at hy;cases hy;exact hp⟩,by show xs.length - (i+1)<xs.length - i;omega⟩)
 ·have hi2:i=xs.length:=by omega
  rw[nm Pb (by rw[← hi2];exact h0)]
  repeat (first|refine Tk ?_|intro _|exact Tz)
  refine WC.dF rfl Om ?_
  repeat (first|refine Tk ?_|intro _|exact Tz)
theorem tF {f:Nat} [Cal Tryz.prog f] (caps:LV) (Pb:Nat→Bool) (xs:List (Nat)) (b o c:Nat) (R:World→Prop) (hst:zX R) (hn:xs.length≤1099511627776)
  (hf:∀ x∈xs,Fn Tryz.prog f ([zk x]++caps) R (Is (.bool (Pb x)))) :
  Fn Tryz.prog 73 [.slice (some ⟨b,o,none⟩) xs.length c,.func (.func f) #[] caps.toArray] (fun w=>Seg w b o (xs.flatMap zc)∧R w) (Is (.bool (xs.any Pb))):=by
 have hI:=fC caps Pb xs b o c R hst hn hf;rw[← kL];generalize ixI Pb xs=r at *;refine Fn.enter Tryz.func73 rfl rfl rfl ?_;intro w hw;obtain⟨hw,hwR⟩:=hw
 repeat (first|refine Tj ?_|intro _|refine WO.acallR (hc:=hI) (hR:=fun w' hm=>⟨hw.mod hm.mod Sm,hst _ _ hwR hm.mod.below⟩) (k:=?_)|refine Tc ?_|exact Tz)
theorem gj {f:Nat} [Cal Tryz.prog f] (caps:LV) (Pb:Nat × Nat→Bool) (xs:LP) (b o c:Nat) (R:World→Prop) (hst:zX R) (hn:xs.length≤1099511627776)
  (hf:∀ x∈xs,Fn Tryz.prog f ([ahv x]++caps) R (Is (.bool (Pb x)))) :
  Fn Tryz.prog 141 [.slice (some ⟨b,o,none⟩) xs.length c,.func (.func f) #[] caps.toArray] (fun w=>Seg w b o (xs.flatMap ya)∧R w) (Is (.int .i64 (ixI Pb xs))):=by
 refine Fn.enter Tryz.func141 rfl rfl rfl ?_;intro w hw;obtain⟨hw,hwR⟩:=hw
 repeat (first|refine Tk ?_|intro _|exact Tz)
 refine WC.loopI (σ:=Nat) (fun i=>i≤xs.length∧∀ j,j<i→∀ x,xs[j]?=some x→Pb x=false) (fun i=>[(0,.slice (some ⟨b,o,none⟩) xs.length c),(1,.func (.func f) #[] caps.toArray),(7,.int .i64 (xs.length:Int)),(8,.int .i64 (i:Int))]) (fun _=>[]) (fun i=>xs.length - i) 0 (fun i hi=>?_) ⟨Nat.zero_le _,fun j hj=>by omega⟩
 try dsimp only at hi ⊢
 obtain⟨hi,h0⟩:=hi
 by_cases hlt:i<xs.length
 ·obtain⟨x,hx⟩ : ∃ x,xs[i]?=some x:=⟨_,List.getElem?_eq_getElem hlt⟩;have hcx:cut (xs.flatMap ya) (o+i*8 - o) 8=ya x:=by rw[Nat.add_sub_cancel_left];exact zL v7 hx
  have hcall:=hf x (List.mem_of_getElem? hx);cases hp:Pb x with
  | true =>
   rw[bi Pb h0 hx hp];rw[hp] at hcall
   repeat (first|refine Tk ?_|intro _|exact Tz)
   refine WC.dT rfl Om ?_
   repeat (first|refine Tj ?_|intro _|refine WO.does (zb (o':=o+i*8) rfl rfl hlt rfl) ?_|refine WO.does (zn (vs:=ya x) (hs:=hw) (hle:=Nat.le_add_right _ _) (hc:=hcx)) ?_|refine WO.acallV (hc:=hcall) (hR:=fun w' hm=>hst _ _ hwR hm.mod.below) (k:=?_)|refine Tc ?_|exact Tz)
  | false =>
   rw[hp] at hcall
   repeat (first|refine Tk ?_|intro _|exact Tz)
   refine WC.dT rfl Om ?_
   repeat (first|refine Tj ?_|intro _|refine WO.does (zb (o':=o+i*8) rfl rfl hlt rfl) ?_|refine WO.does (zn (vs:=ya x) (hs:=hw) (hle:=Nat.le_add_right _ _) (hc:=hcx)) ?_|refine WO.acallV (hc:=hcall) (hR:=fun w' hm=>hst _ _ hwR hm.mod.below) (k:=?_)|refine Tc ?_|exact Tz)
   refine WX.metI (i+1) (hs:=⟨⟨by show i+1≤xs.length;omega,fun j hj y hy=>by
    rcases Nat.lt_or_ge j i with h|h
    ·exact h0 j h y hy
    ·have:j=i:=by omega
     subst this;rw[hx] at hy;cases hy;exact hp⟩,by show xs.length - (i+1)<xs.length - i;omega⟩)
 ·have hi2:i=xs.length:=by omega
  rw[nm Pb (by rw[← hi2];exact h0)]
  repeat (first|refine Tk ?_|intro _|exact Tz)
  refine WC.dF rfl Om ?_
  repeat (first|refine Tk ?_|intro _|exact Tz)
theorem oM {f:Nat} [Cal Tryz.prog f] (caps:LV) (Pb:Nat × Nat→Bool) (xs:LP) (b o c:Nat) (R:World→Prop) (hst:zX R) (hn:xs.length≤1099511627776)
  (hf:∀ x∈xs,Fn Tryz.prog f ([ahv x]++caps) R (Is (.bool (Pb x)))) :
  Fn Tryz.prog 68 [.slice (some ⟨b,o,none⟩) xs.length c,.func (.func f) #[] caps.toArray] (fun w=>Seg w b o (xs.flatMap ya)∧R w) (Is (.bool (xs.any Pb))):=by
 have hI:=gj caps Pb xs b o c R hst hn hf;rw[← kL];generalize ixI Pb xs=r at *;refine Fn.enter Tryz.func68 rfl rfl rfl ?_;intro w hw;obtain⟨hw,hwR⟩:=hw
 repeat (first|refine Tj ?_|intro _|refine WO.acallR (hc:=hI) (hR:=fun w' hm=>⟨hw.mod hm.mod Sm,hst _ _ hwR hm.mod.below⟩) (k:=?_)|refine Tc ?_|exact Tz)
def kB (p q a:Nat):Bool:=gIn p q a && decide (a≠1)
abbrev stC (p q g h:Nat) (f sec:Int) (ns:Value):List Value:=[.int .u64 ((wd 0 p:Nat):Int),.int .u64 ((wd 1 p:Nat):Int),.int .u64 ((wd 2 p:Nat):Int),.int .u64 ((wd 3 p:Nat):Int),.int .u64 ((wd 0 q:Nat):Int),.int .u64 ((wd 1 q:Nat):Int),.int .u64 ((wd 2 q:Nat):Int),.int .u64 ((wd 3 q:Nat):Int),.int .u64 ((wd 0 g:Nat):Int),.int .u64 ((wd 1 g:Nat):Int),.int .u64 ((wd 2 g:Nat):Int),.int .u64 ((wd 3 g:Nat):Int),.int .u64 ((wd 0 h:Nat):Int),.int .u64 ((wd 1 h:Nat):Int),.int .u64 ((wd 2 h:Nat):Int),.int .u64 ((wd 3 h:Nat):Int),.int .i64 f,.int .i64 sec,ns]
abbrev stV (p q g h:Nat) (f sec:Int) (ns:Value):Value:=.agg #[.int .u64 ((wd 0 p:Nat):Int),.int .u64 ((wd 1 p:Nat):Int),.int .u64 ((wd 2 p:Nat):Int),.int .u64 ((wd 3 p:Nat):Int),.int .u64 ((wd 0 q:Nat):Int),.int .u64 ((wd 1 q:Nat):Int),.int .u64 ((wd 2 q:Nat):Int),.int .u64 ((wd 3 q:Nat):Int),.int .u64 ((wd 0 g:Nat):Int),.int .u64 ((wd 1 g:Nat):Int),.int .u64 ((wd 2 g:Nat):Int),.int .u64 ((wd 3 g:Nat):Int),.int .u64 ((wd 0 h:Nat):Int),.int .u64 ((wd 1 h:Nat):Int),.int .u64 ((wd 2 h:Nat):Int),.int .u64 ((wd 3 h:Nat):Int),.int .i64 f,.int .i64 sec,ns]
section
variable (p q g h:Nat)
theorem dy (a gG:Nat) (ha:a<ze) (hp:p<ze) (hq:q<ze):Fn Tryz.prog 140 ([zk a]++[pt gG]) (fun w=>Seg w gG 0 (yI p q g h)) (Is (.bool (!kB p q a))):=by
 have hI:=r9 p q g h a ha hp hq;unfold kB;cases e:gIn p q a with
 | false =>
  rw[e] at hI;refine Fn.enter Tryz.func140 rfl rfl rfl ?_;intro w hw
  repeat (first|refine Tj ?_|intro _|refine WO.acall (hc:=hI) (k:=?_)|refine Tc ?_|exact Tz)
 | true =>
  rw[e] at hI
  by_cases h1:a=1
  ·have d1:decide (a=1)=true:=decide_eq_true h1;rw[show (!(true && decide (a≠1)))=true by simp[h1]];refine Fn.enter Tryz.func140 rfl rfl rfl ?_;intro w hw
   repeat (first|refine Tj ?_|intro _|refine WO.acall (hc:=hI) (k:=?_)|refine WO.does (zz (cs:=zc 1) rfl rfl rfl) ?_|refine WO.does yO ?_|refine Tc ?_|exact Tz)
   rw[d1]
   repeat (first|refine Tk ?_|intro _|exact Tz)
  ·have d1:decide (a=1)=false:=decide_eq_false h1;rw[show (!(true && decide (a≠1)))=false by simp[h1]];refine Fn.enter Tryz.func140 rfl rfl rfl ?_;intro w hw
   repeat (first|refine Tj ?_|intro _|refine WO.acall (hc:=hI) (k:=?_)|refine WO.does (zz (cs:=zc 1) rfl rfl rfl) ?_|refine WO.does yO ?_|refine Tc ?_|exact Tz)
   rw[d1]
   repeat (first|refine Tk ?_|intro _|exact Tz)
theorem ach (a c b:Nat) (ha:a<ze) (hc:c<ze) (hp:p<ze) (hq:q<ze):Fn Tryz.prog 67 [vV p q g h,AQ b 2 2] (fun w=>Seg w b 0 (zc a++zc c)) (Is (.bool (kB p q a && kB p q c))):=by
 have hC:=fun gG=>tF [pt gG] (fun x=>!kB p q x) [a,c] b 0 2 (fun w=>Seg w gG 0 (yI p q g h)) zX.seg Sm (f:=140) (fun x hx=>by
  simp only[List.mem_cons,List.not_mem_nil,or_false] at hx
  rcases hx with rfl|rfl
  ·exact dy p q g h _ gG ha hp hq
  ·exact dy p q g h _ gG hc hp hq)
 have e:[a,c].any (fun x=>!kB p q x) = !(kB p q a && kB p q c):=by simp[Bool.not_and]
 have e2:[a,c].flatMap zc=zc a++zc c:=rfl;rw[e,e2] at hC;generalize (kB p q a && kB p q c)=r at *;refine Fn.enter Tryz.func67 rfl rfl rfl ?_;intro w hw
 repeat (first|refine Tj ?_|intro _|refine WO.acallR (hc:=hC _) (hR:=fun w' hm=>⟨hw.mod hm.mod Sm,Hs.sg hm⟩) (k:=?_)|refine Tc ?_|exact Tz)
 rw[Bool.not_not]
 repeat (first|refine Tk ?_|intro _|exact Tz)
theorem iK (f sec:Int) (ns:Value) (k:Nat × Nat) (gS:Nat) (h1:k.1<ze) (h2:k.2<ze) (hp:p<ze) (hq:q<ze):Fn Tryz.prog 69 ([ahv k]++[pt gS]) (fun w=>Seg w gS 0 (stC p q g h f sec ns)) (Is (.bool (!(kB p q k.1 && kB p q k.2)))):=by
 have hK:=fun b=>ach p q g h k.1 k.2 b h1 h2 hp hq;generalize (kB p q k.1 && kB p q k.2)=r at *;obtain⟨k1,k2⟩:=k;dsimp only at hK;refine Fn.enter Tryz.func69 rfl rfl rfl ?_;intro w hw
 repeat (first|refine Tj ?_|intro _|(refine WO.makes (zh (cs:=zc k1++zc k2) rfl Dtt rfl) ?_;intro _)|refine WO.acallR (hc:=hK _) (hR:=fun w' hm=>Hs.sg hm) (k:=?_)|refine Tc ?_|exact Tz)
end
def y5 (p q g h:Nat) (f sec:Int) (N:LP):Bool :=
 decide (0≤f) && decide (f≤2) && decide (1≤sec) && decide (sec≤3) && decide (sec≤f+1) && decide (3*f+1≤(N.length:Int)) && decide ((N.length:Int)≤7) && decide ((N.length:Int)+sec<(q:Int)) && kB p q g && kB p q h && N.all (fun k=>kB p q k.1 && kB p q k.2)
def RdK (v:Value) (N:LP) (w:World):Prop :=
 ∃ pt c,v=.slice pt N.length c∧((pt=none∧N=[])∨∃ b o,pt=some ⟨b,o,none⟩∧Seg w b o (N.flatMap ya))
def zZ (N:LP):Prop:=∀ k∈N,k.1<ze∧k.2<ze
theorem yh (p q g h:Nat) (f sec:Int) (pt:Option Addr) (c:Nat) (N:LP) (hp:p<ze) (hq:q<ze) (hg:g<ze) (hh:h<ze) (hN:zZ N) (hNl:N.length≤1099511627776)
  (hf1 : -9223372036854775808≤f) (hf2:f≤9223372036854775807) (hs1 : -9223372036854775808≤sec) (hs2:sec≤9223372036854775807) :
  Fn Tryz.prog 29 [stV p q g h f sec (.slice pt N.length c)] (RdK (.slice pt N.length c) N) (Is (.bool (y5 p q g h f sec N))):=by
 by_cases t1:f<0
 ·rw[show y5 p q g h f sec N=false by simp[y5];omega];refine Fn.enter Tryz.func29 rfl rfl rfl ?_;intro w hw
  repeat (first|refine Td ?_|(refine Tm ?_;intro _)|refine Tc ?_|exact Tz)
 by_cases t2:2<f
 ·rw[show y5 p q g h f sec N=false by simp[y5];omega];refine Fn.enter Tryz.func29 rfl rfl rfl ?_;intro w hw
  repeat (first|refine Td ?_|(refine Tm ?_;intro _)|refine Tc ?_|exact Tz)
 by_cases t3:sec<1
 ·rw[show y5 p q g h f sec N=false by simp[y5];omega];refine Fn.enter Tryz.func29 rfl rfl rfl ?_;intro w hw
  repeat (first|refine Td ?_|(refine Tm ?_;intro _)|refine Tc ?_|exact Tz)
 obtain⟨M,hM⟩ : ∃ M:Int,(if f+1<3 then f+1 else 3)=M:=⟨_,rfl⟩;have hM2:M≤3∧M≤f+1∧(M=3∨M=f+1):=by split at hM<;>omega
 by_cases t4:M<sec
 ·rw[show y5 p q g h f sec N=false by simp[y5];omega];refine Fn.enter Tryz.func29 rfl rfl rfl ?_;intro w hw
  repeat (first|refine Td ?_|(refine Tm ?_;intro _)|refine WO.does (vD rfl rfl hM) ?_|refine Tc ?_|exact Tz)
 by_cases t5:(N.length:Int)<3*f+1
 ·rw[show y5 p q g h f sec N=false by simp[y5];omega];refine Fn.enter Tryz.func29 rfl rfl rfl ?_;intro w hw
  repeat (first|refine Td ?_|(refine Tm ?_;intro _)|refine WO.does (vD rfl rfl hM) ?_|refine Tc ?_|exact Tz)
 by_cases t6:7<(N.length:Int)
 ·rw[show y5 p q g h f sec N=false by simp[y5];omega];refine Fn.enter Tryz.func29 rfl rfl rfl ?_;intro w hw
  repeat (first|refine Td ?_|(refine Tm ?_;intro _)|refine WO.does (vD rfl rfl hM) ?_|refine Tc ?_|exact Tz)
 obtain⟨m,hm⟩ : ∃ m:Nat,(m:Int)=(N.length:Int)+sec:=⟨((N.length:Int)+sec).toNat,by omega⟩;have hadd:IntKind.i64.wrap ((N.length:Int)+sec)=(m:Int):=zl Om Om Om;have hA:=acP q m hq Om;have hSB:y5 p q g h f sec N=(decide (m<q) && (kB p q g && kB p q h) && N.all (fun k=>kB p q k.1 && kB p q k.2)):=by
  have e1:decide ((N.length:Int)+sec<(q:Int))=decide (m<q):=by rw[← hm];simp
  unfold y5;rw[e1,decide_eq_true (by omega:0≤f),decide_eq_true (by omega:f≤2),decide_eq_true (by omega:1≤sec),decide_eq_true (by omega:sec≤3),decide_eq_true (by omega:sec≤f+1),decide_eq_true (by omega:3*f+1≤(N.length:Int)),decide_eq_true (by omega:(N.length:Int)≤7)];simp only[Bool.true_and,Bool.and_assoc]
 rw[hSB];clear hSB;cases t7:decide (m<q) with
 | false =>
  rw[t7] at hA;clear t7;refine Fn.enter Tryz.func29 rfl rfl rfl ?_;intro w hw
  repeat (first|refine Td ?_|(refine Tm ?_;intro _)|refine WO.does (vD rfl rfl hM) ?_|refine WO.does (zi rfl rfl hadd) ?_|refine WO.acall (hc:=hA) (k:=?_)|refine Tc ?_|exact Tz)
 | true =>
 rw[t7] at hA;clear t7;have hK:=fun b=>ach p q g h g h b hg hh hp hq;cases t8:(kB p q g && kB p q h) with
 | false =>
  rw[t8] at hK;clear t8;refine Fn.enter Tryz.func29 rfl rfl rfl ?_;intro w hw
  repeat (first|refine Td ?_|(refine Tm ?_;intro _)|refine WO.does (vD rfl rfl hM) ?_|refine WO.does (zi rfl rfl hadd) ?_|refine WO.acall (hc:=hA) (k:=?_)|(refine WO.makes (zh (cs:=zc g++zc h) rfl Dtt rfl) ?_;intro _)|refine WO.acallR (hc:=hK _) (hR:=fun w' hm=>Hs.sg hm) (k:=?_)|refine Tc ?_|exact Tz)
 | true =>
 rw[t8] at hK;clear t8;have hC:=fun gS b o=>oM [Sx.pt gS] (fun k=>!(kB p q k.1 && kB p q k.2)) N b o c (fun w=>Seg w gS 0 (stC p q g h f sec (.slice (some ⟨b,o,none⟩) N.length c))) zX.seg hNl (f:=69) (fun k hk=>iK p q g h f sec _ k gS (hN k hk).1 (hN k hk).2 hp hq);have hall:N.any (fun k=>!(kB p q k.1 && kB p q k.2)) = !N.all (fun k=>kB p q k.1 && kB p q k.2):=List.not_all_eq_any_not .. |>.symm
 rw[hall] at hC;clear hall;generalize (N.all fun k=>kB p q k.1 && kB p q k.2)=r at *;refine Fn.enter Tryz.func29 rfl rfl rfl ?_;intro w hw;obtain⟨pt',c',e,hpc⟩:=hw;cases e
 rcases hpc with ⟨_,h0⟩|⟨b,o,rfl,hs⟩
 ·rw[h0] at t5;simp at t5;omega
 repeat (first|refine Td ?_|(refine Tm ?_;intro _)|refine WO.does (vD rfl rfl hM) ?_|refine WO.does (zi rfl rfl hadd) ?_|refine WO.acall (hc:=hA) (k:=?_)|(refine WO.makes (zh (cs:=zc g++zc h) rfl Dtt rfl) ?_;intro _)|refine WO.acallR (hc:=hK _) (hR:=fun w' hm=>Hs.sg hm) (k:=?_)|refine WO.acallR (hc:=hC _ b o) (hR:=fun w' hm=>⟨hs.mod hm.mod Sm,Hs.sg hm⟩) (k:=?_)|refine Tc ?_|exact Tz)
 rw[Bool.not_not]
 repeat (first|refine Td ?_|(refine Tm ?_;intro _)|refine Tc ?_|exact Tz)
end Sx
end
section
open Go Go.RowKit Go.BigFrame
namespace Sx
theorem c9 {n:Nat} (h:n<18446744073709551616):wd 0 n=n:=Nat.mod_eq_of_lt h
attribute [local irreducible] wd DQ WO WC WX
theorem sY {N:LP} {o i:Nat} {k:Nat × Nat} (h:N[i]?=some k):cut (N.flatMap ya) (o+i*8 - o) 4=zc k.1:=by
 have:=zL v7 h;rw[Nat.add_sub_cancel_left];unfold cut at *;rw[show (4:Nat)=min 4 8 by decide,← List.take_take,this];rfl
theorem aJ {N:LP} {o i:Nat} {k:Nat × Nat} (h:N[i]?=some k):cut (N.flatMap ya) (o+i*8+4 - o) 4=zc k.2:=by
 have:=zL v7 h;rw[show o+i*8+4 - o=i*8+4 by omega];unfold cut at *;rw[← List.drop_drop];have h2:(List.drop 4 (List.drop (i*8) (N.flatMap ya))).take 4=(List.take 8 (List.drop (i*8) (N.flatMap ya))).drop 4:=by
  rw[List.drop_take]
 rw[h2,this];rfl
theorem eI {α:Type} {P:α→Bool} {xs:List α} {i:Nat} {x:α} (hx:xs[i]?=some x) (h:P x=false):xs.all P=false:=by
 rw[List.all_eq_false];exact⟨x,List.mem_of_getElem? hx,by simp[h]⟩
theorem aaO {α:Type} {P:α→Bool} {xs:List α} (h:∀ j,j<xs.length→∀ x,xs[j]?=some x→P x=true):xs.all P=true:=by
 rw[List.all_eq_true];intro x hx;obtain⟨j,hj⟩:=List.mem_iff_getElem?.1 hx;exact h j (by rcases Nat.lt_or_ge j xs.length with h1|h1;exact h1;rw[List.getElem?_eq_none h1] at hj;cases hj) x hj
end Sx
end
section
open Go Go.RowKit Go.BigFrame
namespace Sx
attribute [local irreducible] DQ WC WO WX wd
end Sx
end
end Go.Proofs.YtiaibpcaloigkaaGreatDoor
