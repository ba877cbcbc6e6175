/- Part 32 of the proof. -/
import Derived.Test.YtiiefkchpicncaaGreatDoorB27
import Derived.Test.YtiiefkchpicncaaGreatDoorB31
set_option linter.unusedSimpArgs false
set_option linter.unusedVariables false
set_option maxHeartbeats 8000000
namespace Go.Proofs.YtiiefkchpicncaaGreatDoor
section
open Go Go.RowKit Go.BigFrame
namespace Sx
attribute [local irreducible] DQ WC WO WX wd
end Sx
end
section
open Go Go.RowKit Go.BigFrame
namespace Sx
attribute [local irreducible] DQ WC WO WX
theorem ac7 {a b:Nat} (ha:a<18446744073709551616) (hb:b<18446744073709551616):IntKind.u64.wrap (((BitVec.ofInt IntKind.u64.bits ((a:Nat):Int) ||| BitVec.ofInt IntKind.u64.bits ((b:Nat):Int)).toNat:Nat):Int)=((a ||| b:Nat):Int):=by
 have e:(BitVec.ofInt IntKind.u64.bits ((a:Nat):Int) ||| BitVec.ofInt IntKind.u64.bits ((b:Nat):Int)).toNat=a ||| b:=by
  rw[BitVec.toNat_or,BitVec.toNat_ofInt,BitVec.toNat_ofInt];have e1:(((a:Nat):Int)%((2 ^ IntKind.u64.bits:Nat):Int)).toNat=a:=by show (((a:Nat):Int)%18446744073709551616).toNat=a;omega
  have e2:(((b:Nat):Int)%((2 ^ IntKind.u64.bits:Nat):Int)).toNat=b:=by show (((b:Nat):Int)%18446744073709551616).toNat=b;omega
  rw[e1,e2]
 rw[e];have:=Nat.or_lt_two_pow (n:=64) ha hb;exact u64_in Om Om
theorem aeK {a b:Nat} (ha:a<18446744073709551616) (hb:b<18446744073709551616):a ||| b<18446744073709551616:=Nat.or_lt_two_pow (n:=64) ha hb
theorem abH {a b c:Nat}:a ||| b ||| c=0↔a=0∧b=0∧c=0:=by
 refine⟨fun h=>?_,fun ⟨h1,h2,h3⟩=>by rw[h1,h2,h3];rfl⟩;have h1:=Nat.left_le_or (n:=a) (m:=b);have h2:=Nat.right_le_or (n:=a) (m:=b);have h3:=Nat.left_le_or (n:=a ||| b) (m:=c);have h4:=Nat.right_le_or (n:=a ||| b) (m:=c);omega
theorem aeu (a m:Nat) (ha:a<zd) (hm:m<9223372036854775808):Fn Tryz.prog 55 [zk a,.int .i64 (m:Int)] Tr (Is (.bool (decide (m<a)))):=by
 have hp:=fu ha;have o1:=ac7 (yj 1 a) (yj 2 a);have o2:=ac7 (aeK (yj 1 a) (yj 2 a)) (yj 3 a);have oz:=abH (a:=wd 1 a) (b:=wd 2 a) (c:=wd 3 a);have hcv:IntKind.u64.wrap (m:Int)=(m:Int):=u64_in Om Om
 by_cases hz:wd 1 a ||| wd 2 a ||| wd 3 a=0
 ·have hlt:=hp.2 (oz.1 hz);have w0:wd 0 a=a:=Nat.mod_eq_of_lt hlt;have d1:decide (((wd 1 a ||| wd 2 a ||| wd 3 a:Nat):Int)≠0)=false:=decide_eq_false (fun h=>h Om);have d2:decide ((m:Int)<((wd 0 a:Nat):Int))=decide (m<a):=by rw[w0];simp
  generalize wd 1 a ||| wd 2 a ||| wd 3 a=Z at *
  generalize wd 1 a ||| wd 2 a=Y at *
  refine Fn.enter Tryz.func55 rfl rfl rfl ?_;intro w hw
  repeat (first|refine Ta ?_|(refine Tm ?_;intro _)|refine WO.does (tu rfl rfl o1) ?_|refine WO.does (tu rfl rfl o2) ?_|refine Tc ?_|exact Tz)
  rw[d1]
  repeat (first|refine Ta ?_|(refine Tm ?_;intro _)|refine WO.does (zB rfl hcv) ?_|refine Tc ?_|exact Tz)
  rw[d2]
  repeat (first|refine Tw ?_|(refine Tm ?_;intro _)|exact Tz)
 ·have hge:¬ a<18446744073709551616:=fun h=>hz (oz.2 (hp.1 h));have d1:decide (((wd 1 a ||| wd 2 a ||| wd 3 a:Nat):Int)≠0)=true:=decide_eq_true (fun h=>hz Om);rw[show decide (m<a)=true from decide_eq_true Om];generalize wd 1 a ||| wd 2 a ||| wd 3 a=Z at *
  generalize wd 1 a ||| wd 2 a=Y at *
  refine Fn.enter Tryz.func55 rfl rfl rfl ?_;intro w hw
  repeat (first|refine Ta ?_|(refine Tm ?_;intro _)|refine WO.does (tu rfl rfl o1) ?_|refine WO.does (tu rfl rfl o2) ?_|refine Tc ?_|exact Tz)
  rw[d1]
  repeat (first|refine Tw ?_|(refine Tm ?_;intro _)|exact Tz)
theorem zC {α:Type} {f:α→List Value} {k:Nat} (hk:∀ x,(f x).length=k):∀ {xs:List α} {i:Nat} {x:α},xs[i]?=some x→cut (xs.flatMap f) (i*k) k=f x
 | [],i,x,h=>by simp at h
 | y::r,0,x,h=>by
  simp at h;subst h;simp[cut,← hk y]
 | y::r,i+1,x,h=>by
  have:=zC hk (xs:=r) (i:=i) (x:=x) (by simpa using h);rw[← this];unfold cut;rw[List.flatMap_cons,show (i+1)*k=(f y).length+i*k by rw[hk,Nat.succ_mul];omega,← List.drop_drop,List.drop_left]
def ixI {α:Type} (P:α→Bool):List α→Int
 | []=>-1
 | x::r=>if P x then 0 else if ixI P r<0 then -1 else ixI P r+1
theorem dL {α:Type} (P:α→Bool):∀ xs:List α,0≤ixI P xs↔xs.any P=true
 | []=>by simp[ixI]
 | x::r=>by
  have ih:=dL P r;have e:ixI P (x::r)=if P x then 0 else if ixI P r<0 then -1 else ixI P r+1:=rfl
  by_cases h:P x=true
  ·have e2:ixI P (x::r)=0:=by rw[e,if_pos h]
   rw[e2,List.any_cons,h];simp
  ·have e2:ixI P (x::r)=if ixI P r<0 then -1 else ixI P r+1:=by rw[e,if_neg h]
   rw[e2,List.any_cons,show P x=false by simpa using h,Bool.false_or,← ih]
   split<;>omega
theorem kL {α:Type} (P:α→Bool) (xs:List α):decide (0≤ixI P xs)=xs.any P :=
 Bool.eq_iff_iff.2 (by rw[decide_eq_true_iff];exact dL P xs)
theorem ou {α:Type} (P:α→Bool):∀ (xs:List α) (i:Nat),(∀ j,j<i→∀ x,xs[j]?=some x→P x=false)→ixI P xs=(if ixI P (xs.drop i)<0 then -1 else ixI P (xs.drop i)+i)
 | xs,0,_=>by
  simp only[List.drop_zero];have:ixI P xs = -1∨0≤ixI P xs:=by
   cases xs with
   | nil=>exact .inl rfl
   | cons x r => simp only [ixI]; split; · exact .inr (by decide)
                 split
                 ·exact .inl rfl
                 ·right;omega
  split<;>omega
 | [],i+1,_=>by simp[ixI]
 | x::r,i+1,h=>by
  have hx:=h 0 Om x rfl;have ih:=ou P r i (fun j hj y hy=>h (j+1) Om y (by simpa using hy));simp only[ixI,hx,List.drop_succ_cons,Bool.false_eq_true,if_false];rw[ih]
  split<;>split<;>omega
theorem aI {α:Type} (P:α→Bool) {xs:List α} {i:Nat} {x:α} (h0:∀ j,j<i→∀ x,xs[j]?=some x→P x=false) (hx:xs[i]?=some x) (hp:P x=true):ixI P xs=i:=by
 rw[ou P xs i h0];have hlt:i<xs.length:=by
  rcases Nat.lt_or_ge i xs.length with h|h
  ·exact h
  ·rw[List.getElem?_eq_none h] at hx;cases hx
 have:xs.drop i=x::xs.drop (i+1):=by
  rw[List.drop_eq_getElem_cons hlt];rw[List.getElem?_eq_getElem hlt] at hx;cases hx;rfl
 rw[this];simp[ixI,hp]
theorem o7 {α:Type} (P:α→Bool) {xs:List α} (h0:∀ j,j<xs.length→∀ x,xs[j]?=some x→P x=false):ixI P xs = -1:=by
 rw[ou P xs xs.length h0];simp[ixI]
abbrev yw (k:Nat × Nat):List Value:=[.int .u64 ((wd 0 k.1:Nat):Int),.int .u64 ((wd 1 k.1:Nat):Int),.int .u64 ((wd 2 k.1:Nat):Int),.int .u64 ((wd 3 k.1:Nat):Int),.int .u64 ((wd 0 k.2:Nat):Int),.int .u64 ((wd 1 k.2:Nat):Int),.int .u64 ((wd 2 k.2:Nat):Int),.int .u64 ((wd 3 k.2:Nat):Int)]
abbrev ahT (k:Nat × Nat):Value:=.agg #[.int .u64 ((wd 0 k.1:Nat):Int),.int .u64 ((wd 1 k.1:Nat):Int),.int .u64 ((wd 2 k.1:Nat):Int),.int .u64 ((wd 3 k.1:Nat):Int),.int .u64 ((wd 0 k.2:Nat):Int),.int .u64 ((wd 1 k.2:Nat):Int),.int .u64 ((wd 2 k.2:Nat):Int),.int .u64 ((wd 3 k.2:Nat):Int)]
theorem zO (x:Nat):(zc x).length=4:=rfl
theorem vF (k:Nat × Nat):(yw k).length=8:=rfl
theorem eF {f:Nat} [Cal Tryz.prog f] (caps:List Value) (Pb:Nat→Bool) (xs:List (Nat)) (b o c:Nat) (R:World→Prop) (hst:zP R) (hn:xs.length≤1099511627776)
  (hf:∀ x∈xs,Fn Tryz.prog f ([zk x]++caps) R (Is (.bool (Pb x)))) :
  Fn Tryz.prog 132 [.slice (some ⟨b,o,none⟩) xs.length c,.func (.func f) #[] caps.toArray] (fun w=>Seg w b o (xs.flatMap zc)∧R w) (Is (.int .i64 (ixI Pb xs))):=by
 refine Fn.enter Tryz.func132 rfl rfl rfl ?_;intro w hw;obtain⟨hw,hwR⟩:=hw
 repeat (first|refine Tw ?_|(refine Tm ?_;intro _)|exact Tz)
 refine WC.loopI (σ:=Nat) (fun i=>i≤xs.length∧∀ j,j<i→∀ x,xs[j]?=some x→Pb x=false) (fun i=>[(0,.slice (some ⟨b,o,none⟩) xs.length c),(1,.func (.func f) #[] caps.toArray),(7,.int .i64 (xs.length:Int)),(8,.int .i64 (i:Int))]) (fun _=>[]) (fun i=>xs.length - i) 0 (fun i hi=>?_) ⟨Nat.zero_le _,fun j hj=>by omega⟩
 try dsimp only at hi ⊢
 obtain⟨hi,h0⟩:=hi
 by_cases hlt:i<xs.length
 ·obtain⟨x,hx⟩ : ∃ x,xs[i]?=some x:=⟨_,List.getElem?_eq_getElem hlt⟩;have hcx:cut (xs.flatMap zc) (o+i*4 - o) 4=zc x:=by rw[Nat.add_sub_cancel_left];exact zC zO hx
  have hcall:=hf x (List.mem_of_getElem? hx);cases hp:Pb x with
  | true =>
   rw[aI Pb h0 hx hp];rw[hp] at hcall
   repeat (first|refine Tw ?_|(refine Tm ?_;intro _)|exact Tz)
   refine WC.dT rfl Om ?_
   repeat (first|refine Ta ?_|(refine Tm ?_;intro _)|refine WO.does (zb (o':=o+i*4) rfl rfl hlt rfl) ?_|refine WO.does (zj (vs:=zc x) (hs:=hw) (hle:=Nat.le_add_right _ _) (hc:=hcx)) ?_|refine WO.acallV (hc:=hcall) (hR:=fun w' hm=>hst _ _ hwR hm.mod.below) (k:=?_)|refine Tc ?_|exact Tz)
  | false =>
   rw[hp] at hcall
   repeat (first|refine Tw ?_|(refine Tm ?_;intro _)|exact Tz)
   refine WC.dT rfl Om ?_
   repeat (first|refine Ta ?_|(refine Tm ?_;intro _)|refine WO.does (zb (o':=o+i*4) rfl rfl hlt rfl) ?_|refine WO.does (zj (vs:=zc x) (hs:=hw) (hle:=Nat.le_add_right _ _) (hc:=hcx)) ?_|refine WO.acallV (hc:=hcall) (hR:=fun w' hm=>hst _ _ hwR hm.mod.below) (k:=?_)|refine Tc ?_|exact Tz)
   refine WX.metI (i+1) (hs:=⟨⟨by show i+1≤xs.length;omega,fun j hj y hy=>by
    rcases Nat.lt_or_ge j i with h|h
    ·exact h0 j h y hy
    ·have:j=i:=by omega
     subst this;rw[hx] at hy;cases hy;exact hp⟩,by show xs.length - (i+1)<xs.length - i;omega⟩)
 ·have hi2:i=xs.length:=by omega
  rw[o7 Pb (by rw[← hi2];exact h0)]
  repeat (first|refine Tw ?_|(refine Tm ?_;intro _)|exact Tz)
  refine WC.dF rfl Om ?_
  repeat (first|refine Tw ?_|(refine Tm ?_;intro _)|exact Tz)
theorem tG {f:Nat} [Cal Tryz.prog f] (caps:List Value) (Pb:Nat→Bool) (xs:List (Nat)) (b o c:Nat) (R:World→Prop) (hst:zP R) (hn:xs.length≤1099511627776)
  (hf:∀ x∈xs,Fn Tryz.prog f ([zk x]++caps) R (Is (.bool (Pb x)))) :
  Fn Tryz.prog 72 [.slice (some ⟨b,o,none⟩) xs.length c,.func (.func f) #[] caps.toArray] (fun w=>Seg w b o (xs.flatMap zc)∧R w) (Is (.bool (xs.any Pb))):=by
 have hI:=eF caps Pb xs b o c R hst hn hf;rw[← kL];generalize ixI Pb xs=r at *;refine Fn.enter Tryz.func72 rfl rfl rfl ?_;intro w hw;obtain⟨hw,hwR⟩:=hw
 repeat (first|refine Ta ?_|(refine Tm ?_;intro _)|refine WO.acallR (hc:=hI) (hR:=fun w' hm=>⟨hw.mod hm.mod (by simp),hst _ _ hwR hm.mod.below⟩) (k:=?_)|refine Tc ?_|exact Tz)
theorem ed {f:Nat} [Cal Tryz.prog f] (caps:List Value) (Pb:Nat × Nat→Bool) (xs:List (Nat × Nat)) (b o c:Nat) (R:World→Prop) (hst:zP R) (hn:xs.length≤1099511627776)
  (hf:∀ x∈xs,Fn Tryz.prog f ([ahT x]++caps) R (Is (.bool (Pb x)))) :
  Fn Tryz.prog 116 [.slice (some ⟨b,o,none⟩) xs.length c,.func (.func f) #[] caps.toArray] (fun w=>Seg w b o (xs.flatMap yw)∧R w) (Is (.int .i64 (ixI Pb xs))):=by
 refine Fn.enter Tryz.func116 rfl rfl rfl ?_;intro w hw;obtain⟨hw,hwR⟩:=hw
 repeat (first|refine Tw ?_|(refine Tm ?_;intro _)|exact Tz)
 refine WC.loopI (σ:=Nat) (fun i=>i≤xs.length∧∀ j,j<i→∀ x,xs[j]?=some x→Pb x=false) (fun i=>[(0,.slice (some ⟨b,o,none⟩) xs.length c),(1,.func (.func f) #[] caps.toArray),(7,.int .i64 (xs.length:Int)),(8,.int .i64 (i:Int))]) (fun _=>[]) (fun i=>xs.length - i) 0 (fun i hi=>?_) ⟨Nat.zero_le _,fun j hj=>by omega⟩
 try dsimp only at hi ⊢
 obtain⟨hi,h0⟩:=hi
 by_cases hlt:i<xs.length
 ·obtain⟨x,hx⟩ : ∃ x,xs[i]?=some x:=⟨_,List.getElem?_eq_getElem hlt⟩;have hcx:cut (xs.flatMap yw) (o+i*8 - o) 8=yw x:=by rw[Nat.add_sub_cancel_left];exact zC vF hx
  have hcall:=hf x (List.mem_of_getElem? hx);cases hp:Pb x with
  | true =>
   rw[aI Pb h0 hx hp];rw[hp] at hcall
   repeat (first|refine Tw ?_|(refine Tm ?_;intro _)|exact Tz)
   refine WC.dT rfl Om ?_
   repeat (first|refine Ta ?_|(refine Tm ?_;intro _)|refine WO.does (zb (o':=o+i*8) rfl rfl hlt rfl) ?_|refine WO.does (zj (vs:=yw x) (hs:=hw) (hle:=Nat.le_add_right _ _) (hc:=hcx)) ?_|refine WO.acallV (hc:=hcall) (hR:=fun w' hm=>hst _ _ hwR hm.mod.below) (k:=?_)|refine Tc ?_|exact Tz)
  | false =>
   rw[hp] at hcall
   repeat (first|refine Tw ?_|(refine Tm ?_;intro _)|exact Tz)
   refine WC.dT rfl Om ?_
   repeat (first|refine Ta ?_|(refine Tm ?_;intro _)|refine WO.does (zb (o':=o+i*8) rfl rfl hlt rfl) ?_|refine WO.does (zj (vs:=yw x) (hs:=hw) (hle:=Nat.le_add_right _ _) (hc:=hcx)) ?_|refine WO.acallV (hc:=hcall) (hR:=fun w' hm=>hst _ _ hwR hm.mod.below) (k:=?_)|refine Tc ?_|exact Tz)
   refine WX.metI (i+1) (hs:=⟨⟨by show i+1≤xs.length;omega,fun j hj y hy=>by
    rcases Nat.lt_or_ge j i with h|h
    ·exact h0 j h y hy
    ·have:j=i:=by omega
     subst this;rw[hx] at hy;cases hy;exact hp⟩,by show xs.length - (i+1)<xs.length - i;omega⟩)
 ·have hi2:i=xs.length:=by omega
  rw[o7 Pb (by rw[← hi2];exact h0)]
  repeat (first|refine Tw ?_|(refine Tm ?_;intro _)|exact Tz)
  refine WC.dF rfl Om ?_
  repeat (first|refine Tw ?_|(refine Tm ?_;intro _)|exact Tz)
theorem nl {f:Nat} [Cal Tryz.prog f] (caps:List Value) (Pb:Nat × Nat→Bool) (xs:List (Nat × Nat)) (b o c:Nat) (R:World→Prop) (hst:zP R) (hn:xs.length≤1099511627776)
  (hf:∀ x∈xs,Fn Tryz.prog f ([ahT x]++caps) R (Is (.bool (Pb x)))) :
  Fn Tryz.prog 57 [.slice (some ⟨b,o,none⟩) xs.length c,.func (.func f) #[] caps.toArray] (fun w=>Seg w b o (xs.flatMap yw)∧R w) (Is (.bool (xs.any Pb))):=by
 have hI:=ed caps Pb xs b o c R hst hn hf;rw[← kL];generalize ixI Pb xs=r at *;refine Fn.enter Tryz.func57 rfl rfl rfl ?_;intro w hw;obtain⟨hw,hwR⟩:=hw
 repeat (first|refine Ta ?_|(refine Tm ?_;intro _)|refine WO.acallR (hc:=hI) (hR:=fun w' hm=>⟨hw.mod hm.mod (by simp),hst _ _ hwR hm.mod.below⟩) (k:=?_)|refine Tc ?_|exact Tz)
def kB (p q a:Nat):Bool:=gIn p q a && decide (a≠1)
abbrev stC (p q g h:Nat) (f sec:Int) (ns:Value):List Value:=[.int .u64 ((wd 0 p:Nat):Int),.int .u64 ((wd 1 p:Nat):Int),.int .u64 ((wd 2 p:Nat):Int),.int .u64 ((wd 3 p:Nat):Int),.int .u64 ((wd 0 q:Nat):Int),.int .u64 ((wd 1 q:Nat):Int),.int .u64 ((wd 2 q:Nat):Int),.int .u64 ((wd 3 q:Nat):Int),.int .u64 ((wd 0 g:Nat):Int),.int .u64 ((wd 1 g:Nat):Int),.int .u64 ((wd 2 g:Nat):Int),.int .u64 ((wd 3 g:Nat):Int),.int .u64 ((wd 0 h:Nat):Int),.int .u64 ((wd 1 h:Nat):Int),.int .u64 ((wd 2 h:Nat):Int),.int .u64 ((wd 3 h:Nat):Int),.int .i64 f,.int .i64 sec,ns]
abbrev stV (p q g h:Nat) (f sec:Int) (ns:Value):Value:=.agg #[.int .u64 ((wd 0 p:Nat):Int),.int .u64 ((wd 1 p:Nat):Int),.int .u64 ((wd 2 p:Nat):Int),.int .u64 ((wd 3 p:Nat):Int),.int .u64 ((wd 0 q:Nat):Int),.int .u64 ((wd 1 q:Nat):Int),.int .u64 ((wd 2 q:Nat):Int),.int .u64 ((wd 3 q:Nat):Int),.int .u64 ((wd 0 g:Nat):Int),.int .u64 ((wd 1 g:Nat):Int),.int .u64 ((wd 2 g:Nat):Int),.int .u64 ((wd 3 g:Nat):Int),.int .u64 ((wd 0 h:Nat):Int),.int .u64 ((wd 1 h:Nat):Int),.int .u64 ((wd 2 h:Nat):Int),.int .u64 ((wd 3 h:Nat):Int),.int .i64 f,.int .i64 sec,ns]
section
variable (p q g h:Nat)
theorem dn (a gG:Nat) (ha:a<zd) (hp:p<zd) (hq:q<zd):Fn Tryz.prog 115 ([zk a]++[pt gG]) (fun w=>Seg w gG 0 (yr p q g h)) (Is (.bool (!kB p q a))):=by
 have hI:=tK p q g h a ha hp hq;unfold kB;cases e:gIn p q a with
 | false =>
  rw[e] at hI;refine Fn.enter Tryz.func115 rfl rfl rfl ?_;intro w hw
  repeat (first|refine Ta ?_|(refine Tm ?_;intro _)|refine WO.acall (hc:=hI) (k:=?_)|refine Tc ?_|exact Tz)
 | true =>
  rw[e] at hI
  by_cases h1:a=1
  ·have d1:decide (a=1)=true:=decide_eq_true h1;rw[show (!(true && decide (a≠1)))=true by simp[h1]];refine Fn.enter Tryz.func115 rfl rfl rfl ?_;intro w hw
   repeat (first|refine Ta ?_|(refine Tm ?_;intro _)|refine WO.acall (hc:=hI) (k:=?_)|refine WO.does (zz (cs:=zc 1) rfl rfl rfl) ?_|refine WO.does yK ?_|refine Tc ?_|exact Tz)
   rw[d1]
   repeat (first|refine Tw ?_|(refine Tm ?_;intro _)|exact Tz)
  ·have d1:decide (a=1)=false:=decide_eq_false h1;rw[show (!(true && decide (a≠1)))=false by simp[h1]];refine Fn.enter Tryz.func115 rfl rfl rfl ?_;intro w hw
   repeat (first|refine Ta ?_|(refine Tm ?_;intro _)|refine WO.acall (hc:=hI) (k:=?_)|refine WO.does (zz (cs:=zc 1) rfl rfl rfl) ?_|refine WO.does yK ?_|refine Tc ?_|exact Tz)
   rw[d1]
   repeat (first|refine Tw ?_|(refine Tm ?_;intro _)|exact Tz)
theorem adb (a c b:Nat) (ha:a<zd) (hc:c<zd) (hp:p<zd) (hq:q<zd):Fn Tryz.prog 56 [y9 p q g h,.slice (some ⟨b,0,none⟩) 2 2] (fun w=>Seg w b 0 (zc a++zc c)) (Is (.bool (kB p q a && kB p q c))):=by
 have hC:=fun gG=>tG [pt gG] (fun x=>!kB p q x) [a,c] b 0 2 (fun w=>Seg w gG 0 (yr p q g h)) zP.seg (by simp) (f:=115) (fun x hx=>by
  simp only[List.mem_cons,List.not_mem_nil,or_false] at hx
  rcases hx with rfl|rfl
  ·exact dn p q g h _ gG ha hp hq
  ·exact dn p q g h _ gG hc hp hq)
 have e:[a,c].any (fun x=>!kB p q x) = !(kB p q a && kB p q c):=by simp[Bool.not_and]
 have e2:[a,c].flatMap zc=zc a++zc c:=rfl;rw[e,e2] at hC;generalize (kB p q a && kB p q c)=r at *;refine Fn.enter Tryz.func56 rfl rfl rfl ?_;intro w hw
 repeat (first|refine Ta ?_|(refine Tm ?_;intro _)|refine WO.acallR (hc:=hC _) (hR:=fun w' hm=>⟨hw.mod hm.mod (by simp),Hs.sg hm⟩) (k:=?_)|refine Tc ?_|exact Tz)
 rw[Bool.not_not]
 repeat (first|refine Tw ?_|(refine Tm ?_;intro _)|exact Tz)
theorem fP (f sec:Int) (ns:Value) (k:Nat × Nat) (gS:Nat) (h1:k.1<zd) (h2:k.2<zd) (hp:p<zd) (hq:q<zd):Fn Tryz.prog 58 ([ahT k]++[pt gS]) (fun w=>Seg w gS 0 (stC p q g h f sec ns)) (Is (.bool (!(kB p q k.1 && kB p q k.2)))):=by
 have hK:=fun b=>adb p q g h k.1 k.2 b h1 h2 hp hq;generalize (kB p q k.1 && kB p q k.2)=r at *;obtain⟨k1,k2⟩:=k;dsimp only at hK;refine Fn.enter Tryz.func58 rfl rfl rfl ?_;intro w hw
 repeat (first|refine Ta ?_|(refine Tm ?_;intro _)|(refine WO.makes (zh (cs:=zc k1++zc k2) rfl (by decide) rfl) ?_;intro _)|refine WO.acallR (hc:=hK _) (hR:=fun w' hm=>Hs.sg hm) (k:=?_)|refine Tc ?_|exact Tz)
end
def yR (p q g h:Nat) (f sec:Int) (N:List (Nat × Nat)):Bool :=
 decide (0≤f) && decide (f≤2) && decide (1≤sec) && decide (sec≤3) && decide (sec≤f+1) && decide (3*f+1≤(N.length:Int)) && decide ((N.length:Int)≤7) && decide ((N.length:Int)+sec<(q:Int)) && kB p q g && kB p q h && N.all (fun k=>kB p q k.1 && kB p q k.2)
def RdK (v:Value) (N:List (Nat × Nat)) (w:World):Prop :=
 ∃ pt c,v=.slice pt N.length c∧((pt=none∧N=[])∨∃ b o,pt=some ⟨b,o,none⟩∧Seg w b o (N.flatMap yw))
theorem RdK.mod {v:Value} {N:List (Nat × Nat)} {w w' : World} (h:RdK v N w) (hm:Mod [] w w'):RdK v N w':=by
 obtain⟨pt,c,e,h⟩:=h;exact⟨pt,c,e,h.imp id (fun ⟨b,o,e2,hs⟩=>⟨b,o,e2,hs.mod hm (by simp)⟩)⟩
def zT (N:List (Nat × Nat)):Prop:=∀ k∈N,k.1<zd∧k.2<zd
theorem z8 (p q g h:Nat) (f sec:Int) (pt:Option Addr) (c:Nat) (N:List (Nat × Nat)) (hp:p<zd) (hq:q<zd) (hg:g<zd) (hh:h<zd) (hN:zT N) (hNl:N.length≤1099511627776)
  (hf1 : -9223372036854775808≤f) (hf2:f≤9223372036854775807) (hs1 : -9223372036854775808≤sec) (hs2:sec≤9223372036854775807) :
  Fn Tryz.prog 26 [stV p q g h f sec (.slice pt N.length c)] (RdK (.slice pt N.length c) N) (Is (.bool (yR p q g h f sec N))):=by
 by_cases t1:f<0
 ·rw[show yR p q g h f sec N=false by simp[yR];omega];refine Fn.enter Tryz.func26 rfl rfl rfl ?_;intro w hw
  repeat (first|refine Td ?_|(refine Tm ?_;intro _)|refine Tc ?_|exact Tz)
 by_cases t2:2<f
 ·rw[show yR p q g h f sec N=false by simp[yR];omega];refine Fn.enter Tryz.func26 rfl rfl rfl ?_;intro w hw
  repeat (first|refine Td ?_|(refine Tm ?_;intro _)|refine Tc ?_|exact Tz)
 by_cases t3:sec<1
 ·rw[show yR p q g h f sec N=false by simp[yR];omega];refine Fn.enter Tryz.func26 rfl rfl rfl ?_;intro w hw
  repeat (first|refine Td ?_|(refine Tm ?_;intro _)|refine Tc ?_|exact Tz)
 obtain⟨M,hM⟩ : ∃ M:Int,(if f+1<3 then f+1 else 3)=M:=⟨_,rfl⟩;have hM2:M≤3∧M≤f+1∧(M=3∨M=f+1):=by split at hM<;>omega
 by_cases t4:M<sec
 ·rw[show yR p q g h f sec N=false by simp[yR];omega];refine Fn.enter Tryz.func26 rfl rfl rfl ?_;intro w hw
  repeat (first|refine Td ?_|(refine Tm ?_;intro _)|refine WO.does (uv rfl rfl hM) ?_|refine Tc ?_|exact Tz)
 by_cases t5:(N.length:Int)<3*f+1
 ·rw[show yR p q g h f sec N=false by simp[yR];omega];refine Fn.enter Tryz.func26 rfl rfl rfl ?_;intro w hw
  repeat (first|refine Td ?_|(refine Tm ?_;intro _)|refine WO.does (uv rfl rfl hM) ?_|refine Tc ?_|exact Tz)
 by_cases t6:7<(N.length:Int)
 ·rw[show yR p q g h f sec N=false by simp[yR];omega];refine Fn.enter Tryz.func26 rfl rfl rfl ?_;intro w hw
  repeat (first|refine Td ?_|(refine Tm ?_;intro _)|refine WO.does (uv rfl rfl hM) ?_|refine Tc ?_|exact Tz)
 obtain⟨m,hm⟩ : ∃ m:Nat,(m:Int)=(N.length:Int)+sec:=⟨((N.length:Int)+sec).toNat,by omega⟩;have hadd:IntKind.i64.wrap ((N.length:Int)+sec)=(m:Int):=zo Om Om Om;have hA:=aeu q m hq Om;have hSB:yR p q g h f sec N=(decide (m<q) && (kB p q g && kB p q h) && N.all (fun k=>kB p q k.1 && kB p q k.2)):=by
  have e1:decide ((N.length:Int)+sec<(q:Int))=decide (m<q):=by rw[← hm];simp
  unfold yR;rw[e1,decide_eq_true (by omega:0≤f),decide_eq_true (by omega:f≤2),decide_eq_true (by omega:1≤sec),decide_eq_true (by omega:sec≤3),decide_eq_true (by omega:sec≤f+1),decide_eq_true (by omega:3*f+1≤(N.length:Int)),decide_eq_true (by omega:(N.length:Int)≤7)];simp only[Bool.true_and,Bool.and_assoc]
 rw[hSB];clear hSB;cases t7:decide (m<q) with
 | false =>
  rw[t7] at hA;clear t7;refine Fn.enter Tryz.func26 rfl rfl rfl ?_;intro w hw
  repeat (first|refine Td ?_|(refine Tm ?_;intro _)|refine WO.does (uv rfl rfl hM) ?_|refine WO.does (ze rfl rfl hadd) ?_|refine WO.acall (hc:=hA) (k:=?_)|refine Tc ?_|exact Tz)
 | true =>
 rw[t7] at hA;clear t7;have hK:=fun b=>adb p q g h g h b hg hh hp hq;cases t8:(kB p q g && kB p q h) with
 | false =>
  rw[t8] at hK;clear t8;refine Fn.enter Tryz.func26 rfl rfl rfl ?_;intro w hw
  repeat (first|refine Td ?_|(refine Tm ?_;intro _)|refine WO.does (uv rfl rfl hM) ?_|refine WO.does (ze rfl rfl hadd) ?_|refine WO.acall (hc:=hA) (k:=?_)|(refine WO.makes (zh (cs:=zc g++zc h) rfl (by decide) rfl) ?_;intro _)|refine WO.acallR (hc:=hK _) (hR:=fun w' hm=>Hs.sg hm) (k:=?_)|refine Tc ?_|exact Tz)
 | true =>
 rw[t8] at hK;clear t8;have hC:=fun gS b o=>nl [Sx.pt gS] (fun k=>!(kB p q k.1 && kB p q k.2)) N b o c (fun w=>Seg w gS 0 (stC p q g h f sec (.slice (some ⟨b,o,none⟩) N.length c))) zP.seg hNl (f:=58) (fun k hk=>fP p q g h f sec _ k gS (hN k hk).1 (hN k hk).2 hp hq);have hall:N.any (fun k=>!(kB p q k.1 && kB p q k.2)) = !N.all (fun k=>kB p q k.1 && kB p q k.2):=List.not_all_eq_any_not .. |>.symm
 rw[hall] at hC;clear hall;generalize (N.all fun k=>kB p q k.1 && kB p q k.2)=r at *;refine Fn.enter Tryz.func26 rfl rfl rfl ?_;intro w hw;obtain⟨pt',c',e,hpc⟩:=hw;cases e
 rcases hpc with ⟨_,h0⟩|⟨b,o,rfl,hs⟩
 ·rw[h0] at t5;simp at t5;omega
 repeat (first|refine Td ?_|(refine Tm ?_;intro _)|refine WO.does (uv rfl rfl hM) ?_|refine WO.does (ze rfl rfl hadd) ?_|refine WO.acall (hc:=hA) (k:=?_)|(refine WO.makes (zh (cs:=zc g++zc h) rfl (by decide) rfl) ?_;intro _)|refine WO.acallR (hc:=hK _) (hR:=fun w' hm=>Hs.sg hm) (k:=?_)|refine WO.acallR (hc:=hC _ b o) (hR:=fun w' hm=>⟨hs.mod hm.mod (by simp),Hs.sg hm⟩) (k:=?_)|refine Tc ?_|exact Tz)
 rw[Bool.not_not]
 repeat (first|refine Td ?_|(refine Tm ?_;intro _)|refine Tc ?_|exact Tz)
end Sx
end
section
open Go Go.RowKit Go.BigFrame
namespace Sx
theorem cv {n:Nat} (h:n<18446744073709551616):wd 0 n=n:=Nat.mod_eq_of_lt h
attribute [local irreducible] wd DQ WO WC WX
theorem jP {N:List (Nat × Nat)} {o i:Nat} {k:Nat × Nat} (h:N[i]?=some k):cut (N.flatMap yw) (o+i*8 - o) 4=zc k.1:=by
 have:=zC vF h;rw[Nat.add_sub_cancel_left];unfold cut at *;rw[show (4:Nat)=min 4 8 by decide,← List.take_take,this];rfl
theorem uz {N:List (Nat × Nat)} {o i:Nat} {k:Nat × Nat} (h:N[i]?=some k):cut (N.flatMap yw) (o+i*8+4 - o) 4=zc k.2:=by
 have:=zC vF h;rw[show o+i*8+4 - o=i*8+4 by omega];unfold cut at *;rw[← List.drop_drop];have h2:(List.drop 4 (List.drop (i*8) (N.flatMap yw))).take 4=(List.take 8 (List.drop (i*8) (N.flatMap yw))).drop 4:=by
  rw[List.drop_take]
 rw[h2,this];rfl
theorem aZ {α:Type} {P:α→Bool} {xs:List α} {i:Nat} {x:α} (hx:xs[i]?=some x) (h:P x=false):xs.all P=false:=by
 rw[List.all_eq_false];exact⟨x,List.mem_of_getElem? hx,by simp[h]⟩
theorem aa5 {α:Type} {P:α→Bool} {xs:List α} (h:∀ j,j<xs.length→∀ x,xs[j]?=some x→P x=true):xs.all P=true:=by
 rw[List.all_eq_true];intro x hx;obtain⟨j,hj⟩:=List.mem_iff_getElem?.1 hx;exact h j (by rcases Nat.lt_or_ge j xs.length with h1|h1;exact h1;rw[List.getElem?_eq_none h1] at hj;cases hj) x hj
end Sx
end
section
open Go Go.RowKit Go.BigFrame
namespace Sx
attribute [local irreducible] DQ WC WO WX wd
abbrev pfC (k:Nat × Nat):List Value:=sP k.1 k.2
theorem nu (k:Nat × Nat):(pfC k).length=8:=rfl
set_option maxHeartbeats 2000000
def uk (n:Nat) (N:List (Nat × Nat)):Bool:=decide (1≤n) && decide (n≤N.length)
theorem yq {n:Nat} {N:List (Nat × Nat)} (h:uk n N=true):1≤n∧n≤N.length:=by
 unfold uk at h;simp at h;exact h
section
variable (p q g h:Nat) (f sec:Int) (pt:Option Addr) (c:Nat) (N:List (Nat × Nat))
theorem adv (n:Nat) (hn:n<256) (hNl:N.length≤1099511627776):Fn Tryz.prog 59 [stV p q g h f sec (.slice pt N.length c),.int .u8 (n:Int)] Tr (Is (.bool (uk n N))):=by
 have hcv:IntKind.i64.wrap (n:Int)=(n:Int):=i64_in Om Om;unfold uk
 by_cases h1:1≤n
 ·rw[decide_eq_true h1,Bool.true_and];have d1:decide ((1:Int)≤(n:Int))=true:=decide_eq_true Om;have d2:decide ((n:Int)≤(N.length:Int))=decide (n≤N.length):=by simp
  refine Fn.enter Tryz.func59 rfl rfl rfl ?_;intro w hw
  repeat (first|refine Tw ?_|(refine Tm ?_;intro _)|exact Tz)
  rw[d1]
  repeat (first|refine Ta ?_|(refine Tm ?_;intro _)|refine WO.does (zB rfl hcv) ?_|refine Tc ?_|exact Tz)
  rw[d2]
  repeat (first|refine Tw ?_|(refine Tm ?_;intro _)|exact Tz)
 ·rw[decide_eq_false h1,Bool.false_and];have d1:decide ((1:Int)≤(n:Int))=false:=decide_eq_false Om;refine Fn.enter Tryz.func59 rfl rfl rfl ?_;intro w hw
  repeat (first|refine Tw ?_|(refine Tm ?_;intro _)|exact Tz)
  rw[d1]
  repeat (first|refine Tw ?_|(refine Tm ?_;intro _)|exact Tz)
end
def abL (ep d n:Nat):List Nat:=be 8 ep++be 1 d++be 1 n
theorem vJ (ep d n:Nat):(abL ep d n).length=10:=by unfold abL;simp only[List.length_append,zn]
def jT (p q h x key:Nat):Bool:=zQ x x q && yv p h && decide (h ^ x%p=key)
theorem vo (r:Nat):okV true r=r:=rfl
theorem bc {p h x:Nat} (hm:yv p h=true):h ^ x%p<p:=Nat.mod_lt _ (by have:=(yP hm).1;omega)
def mN:ByteArray:=⟨#[100,114,97,119]⟩
def y8 (q x:Nat) (H:List Nat):Nat:=if ma q (ya mN) [be 32 x,H]=0 then 1 else ma q (ya mN) [be 32 x,H]
theorem acq {p q g h:Nat} {f sec:Int} {N:List (Nat × Nat)} (hs:yR p q g h f sec N=true):yv p h=true:=by
 unfold yR at hs;simp only[Bool.and_eq_true] at hs;have hk:=hs.1.2;unfold kB at hk;rw[Bool.and_eq_true] at hk;exact yC hk.1
theorem il {p q h x key:Nat} (hs:jT p q h x key=true):zQ x x q=true:=by
 unfold jT at hs;simp only[Bool.and_eq_true] at hs;exact hs.1.1
theorem nE {q x:Nat} {H:List Nat} (h0:0<q) (hq:q<zd):y8 q x H<zd:=by
 unfold y8;split
 ·exact y7
 ·exact Nat.lt_trans (vx h0 _ _) hq
theorem aX {n:Nat} (h:n<256):be 1 n=[n]:=by
 simp[be,List.range,List.range.loop];omega
theorem lQ {ep d n:Nat} (hd:d<256) (hn:n<256):byC (be 8 ep)++[.int .u8 (d:Int),.int .u8 (n:Int)]=byC (abL ep d n):=by
 unfold abL;rw[aX hd,aX hn,yp,yp];simp[byC]
theorem ac5 {ep d n:Nat}:∀ b∈abL ep d n,b<256:=by
 intro b hb;unfold abL at hb
 rcases List.mem_append.1 hb with hb|hb
 ·rcases List.mem_append.1 hb with hb|hb<;>exact uK b hb
 ·exact uK b hb
abbrev dlV (ep d:Nat) (v y pr:Value) (c s:Nat):Value:=.agg #[.int .u64 (ep:Int),.int .u8 (d:Int),v,y,pr,.int .u64 ((wd 0 c:Nat):Int),.int .u64 ((wd 1 c:Nat):Int),.int .u64 ((wd 2 c:Nat):Int),.int .u64 ((wd 3 c:Nat):Int),.int .u64 ((wd 0 s:Nat):Int),.int .u64 ((wd 1 s:Nat):Int),.int .u64 ((wd 2 s:Nat):Int),.int .u64 ((wd 3 s:Nat):Int)]
abbrev dlC (ep d:Nat) (v y pr:Value) (c s:Nat):List Value:=[.int .u64 (ep:Int),.int .u8 (d:Int),v,y,pr,.int .u64 ((wd 0 c:Nat):Int),.int .u64 ((wd 1 c:Nat):Int),.int .u64 ((wd 2 c:Nat):Int),.int .u64 ((wd 3 c:Nat):Int),.int .u64 ((wd 0 s:Nat):Int),.int .u64 ((wd 1 s:Nat):Int),.int .u64 ((wd 2 s:Nat):Int),.int .u64 ((wd 3 s:Nat):Int)]
end Sx
end
section
open Go Go.RowKit Go.BigFrame
namespace Sx
attribute [local irreducible] wd
def uP:ByteArray:=⟨#[115,104,97,114,101]⟩
def tR:ByteArray:=⟨#[100,101,97,108,105,110,103]⟩
def abD:ByteArray:=⟨#[115,105,103,110]⟩
def exN (p a n:Nat):Nat:=okV (yv p a) (a ^ n%p)
def shN (q:Nat) (l:List Nat) (i:Nat):Nat:=zD l (i+1)%q
def shL (q:Nat) (l:List Nat) (n:Nat):List Nat:=(List.range n).map (shN q l)
def ky (N:List (Nat × Nat)) (i:Nat):Nat:=(N.getD i (0,0)).2
def dV (p q g:Nat) (l:List Nat) (i:Nat):Nat:=exN p g (shN q l i)
def dY (p q:Nat) (l:List Nat) (N:List (Nat × Nat)) (i:Nat):Nat:=exN p (ky N i) (shN q l i)
def dH (ep d v y i:Nat):List Nat:=hOf (ya uP) [abL ep d (i+1),be 32 v,be 32 y]
def pfN (p q g x k draw:Nat):Nat × Nat:=(okV (prB p q x g k draw) (prC p q (ya uP) x g k draw),okV (prB p q x g k draw) ((draw+x*prC p q (ya uP) x g k draw%q)%q))
def dP (p q g:Nat) (l:List Nat) (N:List (Nat × Nat)) (ep d x i:Nat):Nat × Nat :=
 pfN p q g (shN q l i) (ky N i) (y8 q x (dH ep d (dV p q g l i) (dY p q l N i) i))
def uc (ep d:Nat) (V Y:List Nat) (Pr:List (Nat × Nat)):List Nat:=hOf (ya tR) [be 8 ep++be 1 d,V.flatMap (be 32),Y.flatMap (be 32),Pr.flatMap fun k=>be 32 k.1++be 32 k.2]
def sgB (p q g x draw:Nat):Bool:=yv p g && zQ x x q && zQ draw draw q && decide (x≠0) && decide (draw≠0)
def sgC (p q g x draw:Nat) (H:List Nat):Nat:=ma q (ya abD) [be 32 (g ^ x%p),be 32 (g ^ draw%p),H]
def sgN (p q g x draw:Nat) (H:List Nat):Nat × Nat:=(okV (sgB p q g x draw) (sgC p q g x draw H),okV (sgB p q g x draw) ((draw+x*sgC p q g x draw H%q)%q))
def dVs (p q g:Nat) (l:List Nat) (n:Nat):List Nat:=(List.range n).map (dV p q g l)
def dYs (p q:Nat) (l:List Nat) (N:List (Nat × Nat)) (n:Nat):List Nat:=(List.range n).map (dY p q l N)
def dPs (p q g:Nat) (l:List Nat) (N:List (Nat × Nat)) (ep d x n:Nat):List (Nat × Nat):=(List.range n).map (dP p q g l N ep d x)
def dHs (p q g:Nat) (l:List Nat) (N:List (Nat × Nat)) (ep d x n:Nat):List Nat:=uc ep d (dVs p q g l n) (dYs p q l N n) (dPs p q g l N ep d x n)
def dSg (p q g:Nat) (l:List Nat) (N:List (Nat × Nat)) (ep d x n:Nat):Nat × Nat:=sgN p q g x (y8 q x (dHs p q g l N ep d x n)) (dHs p q g l N ep d x n)
def sgK (N:List (Nat × Nat)) (d:Nat):Nat:=(N.getD (d - 1) (0,0)).1
def fS (p q g h:Nat) (f sec:Int) (N:List (Nat × Nat)) (d:Nat) (l:List Nat) (x:Nat):Bool :=
 yR p q g h f sec N && uk d N && (decide ((l.length:Int)=f+sec) && vZ q l) && jT p q g x (sgK N d)
theorem y5 {α:Type} (f:Nat→α) {i:Nat}:(List.range (i+1)).map f=(List.range i).map f++[f i]:=by
 rw[List.range_succ,List.map_append];rfl
theorem uR {p a n:Nat} (hp:p<zd):exN p a n<zd:=by
 unfold exN;cases h:yv p a with
 | false=>exact zF
 | true=>exact Nat.lt_trans (bc h) hp
theorem agf {q i:Nat} {l:List Nat} (h:0<q):shN q l i<q:=Nat.mod_lt _ h
theorem pW {b:Bool} {x:Nat} (h:x<zd):okV b x<zd:=by
 cases b with
 | false=>exact zF
 | true=>exact h
theorem agG {p q g x k draw:Nat} (h0:0<q) (hq:q<zd):(pfN p q g x k draw).1<zd∧(pfN p q g x k draw).2<zd :=
 ⟨pW (Nat.lt_trans (vx h0 _ _) hq),pW (Nat.lt_trans (Nat.mod_lt _ h0) hq)⟩
theorem afV {p q g x draw:Nat} {H:List Nat} (h0:0<q) (hq:q<zd):(sgN p q g x draw H).1<zd∧(sgN p q g x draw H).2<zd :=
 ⟨pW (Nat.lt_trans (vx h0 _ _) hq),pW (Nat.lt_trans (Nat.mod_lt _ h0) hq)⟩
theorem z6 {p q g h:Nat} {f sec:Int} {N:List (Nat × Nat)} (hs:yR p q g h f sec N=true):1≤N.length∧N.length≤7∧N.length<q∧0≤f∧1≤sec∧f+sec≤5∧yv p g=true∧yv p h=true:=by
 have hm:=acq hs;unfold yR at hs;simp only[Bool.and_eq_true,decide_eq_true_eq] at hs;obtain⟨⟨⟨⟨⟨⟨⟨⟨⟨⟨h1,h2⟩,h3⟩,h4⟩,h5⟩,h6⟩,h7⟩,h8⟩,h9⟩,_⟩,_⟩:=hs;unfold kB at h9;rw[Bool.and_eq_true] at h9;exact⟨by omega,by omega,by omega,h1,h3,by omega,yC h9.1,hm⟩
theorem aha {N:List (Nat × Nat)} {i:Nat} {k:Nat × Nat} (h:N[i]?=some k):ky N i=k.2:=by
 simp[ky,List.getD,h]
theorem adY {d:Nat} {N:List (Nat × Nat)} {k:Nat × Nat} (h:N[d - 1]?=some k):sgK N d=k.1:=by
 simp[sgK,List.getD,h]
theorem adH {q n i:Nat} {l:List Nat} (h:i<n):(shL q l n)[i]?=some (shN q l i):=by
 simp[shL,h]
theorem jg {ep d:Nat} {V Y:List Nat} {Pr:List (Nat × Nat)}:∀ X∈[be 8 ep++be 1 d,V.flatMap (be 32),Y.flatMap (be 32),Pr.flatMap fun k=>be 32 k.1++be 32 k.2],∀ x∈X,x<256:=by
 intro X hX x hx;simp only[List.mem_cons,List.not_mem_nil,or_false] at hX
 rcases hX with rfl|rfl|rfl|rfl
 ·rcases List.mem_append.1 hx with h|h<;>exact uK _ h
 ·obtain⟨_,_,h⟩:=List.mem_flatMap.1 hx;exact uK _ h
 ·obtain⟨_,_,h⟩:=List.mem_flatMap.1 hx;exact uK _ h
 ·obtain⟨_,_,h⟩:=List.mem_flatMap.1 hx
  rcases List.mem_append.1 h with h|h<;>exact uK _ h
theorem sG (l:List Nat):(l.flatMap (be 32)).length=l.length*32:=by
 induction l with
 | nil=>rfl
 | cons a r ih=>rw[List.flatMap_cons,List.length_append,zn,ih,List.length_cons];omega
theorem nO (l:List (Nat × Nat)):(l.flatMap fun k=>be 32 k.1++be 32 k.2).length=l.length*64:=by
 induction l with
 | nil=>rfl
 | cons a r ih=>rw[List.flatMap_cons,List.length_append,List.length_append,zn,zn,ih,List.length_cons];omega
theorem ae0 {p q g x key:Nat}:jT p q g x key=(zQ x x q && yv p g && decide (exN p g x=key)):=by
 unfold jT exN;cases yv p g with
 | false=>simp
 | true=>rfl
end Sx
end
section
open Go Go.RowKit Go.BigFrame
namespace Sx
attribute [local irreducible] DQ WC WO WX wd
theorem aU {α:Type} {f:α→List Value} {k:Nat} (hk:∀ x,(f x).length=k) {xs:List α} {r:List Value} {i:Nat} {x:α} (h:xs[i]?=some x):cut (xs.flatMap f++r) (i*k) k=f x:=by
 have hi:i<xs.length:=by
  rcases Nat.lt_or_ge i xs.length with h1|h1
  ·exact h1
  ·rw[List.getElem?_eq_none h1] at h;cases h
 have h1:=zC hk h;have hl:=zy hk xs;have h2:i*k+k≤xs.length*k:=by rw[← Nat.succ_mul];exact Nat.mul_le_mul_right _ hi
 unfold cut at *;rw[List.drop_append,List.take_append,List.length_drop];rw[h1,show k - ((xs.flatMap f).length - i*k)=0 by omega];simp
set_option maxHeartbeats 2000000
abbrev opC (ep d n z c s:Nat):List Value:=[.int .u64 (ep:Int),.int .u8 (d:Int),.int .u8 (n:Int),.int .u64 ((wd 0 z:Nat):Int),.int .u64 ((wd 1 z:Nat):Int),.int .u64 ((wd 2 z:Nat):Int),.int .u64 ((wd 3 z:Nat):Int),.int .u64 ((wd 0 c:Nat):Int),.int .u64 ((wd 1 c:Nat):Int),.int .u64 ((wd 2 c:Nat):Int),.int .u64 ((wd 3 c:Nat):Int),.int .u64 ((wd 0 s:Nat):Int),.int .u64 ((wd 1 s:Nat):Int),.int .u64 ((wd 2 s:Nat):Int),.int .u64 ((wd 3 s:Nat):Int)]
structure Od where
 e:Nat
 d:Nat
 n:Nat
 z:Nat
 c:Nat
 s:Nat
structure f9 (o:Od):Prop where
 e:o.e<18446744073709551616
 d:o.d<256
 n:o.n<256
 z:o.z<zd
 c:o.c<zd
 s:o.s<zd
abbrev odC (o:Od):List Value:=opC o.e o.d o.n o.z o.c o.s
theorem yB (o:Od):(odC o).length=15:=rfl
end Sx
end
section
open Go Go.RowKit Go.BigFrame
namespace Sx
def byN (n:Nat) (l:List Od):List Od:=(List.range n).flatMap fun k=>l.filter fun o=>o.n=k+1
theorem jH {n:Nat} {l:List Od} {o:Od} (h:∀ o∈l,1≤o.n∧o.n≤n):o∈byN n l↔o∈l:=by
 unfold byN;simp only[List.mem_flatMap,List.mem_range,List.mem_filter,decide_eq_true_eq];constructor
 ·rintro ⟨k,_,h1,_⟩;exact h1
 ·intro h1;have:=h o h1;exact⟨o.n - 1,by omega,h1,by omega⟩
theorem cj {α:Type} {R:α→α→Prop} {f:Nat→List α}:∀ (n:Nat),(∀ k,k<n→(f k).Pairwise R)→(∀ i j,i<j→j<n→∀ a∈f i,∀ b∈f j,R a b)→((List.range n).flatMap f).Pairwise R
 | 0,_,_=>by simp
 | n+1,h1,h2=>by
  rw[List.range_succ,List.flatMap_append,List.pairwise_append];refine⟨cj n (fun k hk=>h1 k Om) (fun i j hi hj=>h2 i j hi Om),by simpa using h1 n Om,fun a ha b hb=>?_⟩;obtain⟨i,hi,ha⟩:=List.mem_flatMap.1 ha;have hb:b∈f n:=by simpa using hb
  exact h2 i n (List.mem_range.1 hi) Om a ha b hb
theorem pI {n:Nat} {l:List Od} (hn:(l.map Od.n).Nodup):(byN n l).Pairwise (fun a b=>a.n<b.n):=by
 refine cj n (fun k _=>?_) (fun i j hi hj a ha b hb=>?_)
 ·have h1:l.Pairwise (fun a b=>a.n≠b.n):=by
   rw[List.Nodup,List.pairwise_map] at hn;exact hn
  refine (h1.filter (fun o=>o.n=k+1)).imp_of_mem ?_;intro a b ha hb hne;have ea:=(List.mem_filter.1 ha).2;have eb:=(List.mem_filter.1 hb).2;simp only[decide_eq_true_eq] at ea eb;omega
 ·have ea:=(List.mem_filter.1 ha).2;have eb:=(List.mem_filter.1 hb).2;simp only[decide_eq_true_eq] at ea eb;omega
theorem lf:∀ (l r:List Od),l.Pairwise (fun a b=>a.n<b.n)→r.Pairwise (fun a b=>a.n<b.n)→(∀ o,o∈l↔o∈r)→l=r
 | [],[],_,_,_=>rfl
 | [],b::r,_,_,h=>by have:=(h b).2 (by simp);simp at this
 | a::l,[],_,_,h=>by have:=(h a).1 (by simp);simp at this
 | a::l,b::r,h1,h2,h=>by
  rw[List.pairwise_cons] at h1 h2;have e:a=b:=by
   rcases List.mem_cons.1 ((h a).1 (by simp)) with e|e
   ·exact e
   rcases List.mem_cons.1 ((h b).2 (by simp)) with e'|e'
   ·exact e'.symm
   have:=h2.1 a e;have:=h1.1 b e';omega
  subst e;rw[lf l r h1.2 h2.2 (fun o=>?_)];constructor
  ·intro ho
   rcases List.mem_cons.1 ((h o).1 (by simp[ho])) with e|e
   ·subst e;have:=h1.1 o ho;omega
   ·exact e
  ·intro ho
   rcases List.mem_cons.1 ((h o).2 (by simp[ho])) with e|e
   ·subst e;have:=h2.1 o ho;omega
   ·exact e
theorem gk {n:Nat} {l arr:List Od} (hp:arr.Perm l) (hs:arr.Pairwise (fun a b=>a.n≤b.n)) (hd:(l.map Od.n).Nodup) (hn:∀ o∈l,1≤o.n∧o.n≤n):arr=byN n l:=by
 have hd2:arr.Pairwise (fun a b=>a.n≠b.n):=by
  have:=(hp.map Od.n).nodup_iff.2 hd;rw[List.Nodup,List.pairwise_map] at this;exact this
 refine lf _ _ ?_ (pI hd) (fun o=>?_)
 ·refine (hs.and hd2).imp ?_;intro a b ⟨h1,h2⟩;omega
 ·rw[hp.mem_iff,jH hn]
theorem sU:∀ {arr:List Od},arr.Pairwise (fun a b=>a.n≤b.n)→(∀ i a b,arr[i]?=some a→arr[i+1]?=some b→a.n≠b.n)→(arr.map Od.n).Nodup
 | [],_,_=>by simp
 | [a],_,_=>by simp
 | a::b::r,h,hd=>by
  rw[List.pairwise_cons] at h;have ih:=sU h.2 (fun i x y h1 h2=>hd (i+1) x y h1 h2);rw[List.map_cons,List.nodup_cons];refine⟨fun hm=>?_,ih⟩;obtain⟨o,ho,e⟩:=List.mem_map.1 hm;have h0:=hd 0 a b rfl rfl;have h1:=h.1 b (by simp);have hb:=List.pairwise_cons.1 h.2
  rcases List.mem_cons.1 ho with e2|e2
  ·subst e2;omega
  ·have:=hb.1 o e2;omega
def lC (l:List Od) (i:Nat):Nat:=((l[i]?).map Od.n).getD 0
def Ins (l:List Od) (i j:Nat):Prop:=∀ a b,a<b→b≤i→b≠j→lC l a≤lC l b
def Srt (l:List Od) (k:Nat):Prop:=∀ a b,a<b→b<k→lC l a≤lC l b
theorem ss {l:List Od} {i:Nat} {o:Od} (h:l[i]?=some o):lC l i=o.n:=by unfold lC;rw[h];rfl
theorem Srt.ins {l:List Od} {i:Nat} (h:Srt l i):Ins l i i:=fun a b h1 h2 h3=>h a b h1 Om
theorem Ins.done {l:List Od} {i j:Nat} (h:Ins l i j) (hj:j≤i) (h0:j=0∨∃ k,j=k+1∧lC l k≤lC l j):Srt l (i+1):=fun a b h1 h2=>by
 by_cases hb:b=j
 ·subst hb
  rcases h0 with h0|⟨k,rfl,hk⟩
  ·omega
  ·by_cases ha:a=k
   ·subst ha;exact hk
   ·exact Nat.le_trans (h a k Om Om Om) hk
 ·exact h a b h1 Om hb
theorem j4 {l:List Od} {i k:Nat} {o:Od} (h:i<l.length):lC (l.set i o) k=if i=k then o.n else lC l k:=by
 unfold lC;rw[List.getElem?_set];split
 ·rename_i e;subst e;rfl
 ·rfl
theorem Ins.swap {l:List Od} {i j:Nat} {x y:Od} (h:Ins l i (j+1)) (hj:j+1≤i) (hx:l[j]?=some x) (hy:l[j+1]?=some y) (hlt:y.n<x.n):Ins ((l.set (j+1) x).set j y) i j:=fun a b h1 h2 h3=>by
 have e1:=(List.getElem?_eq_some_iff.1 hx).1;have e2:=(List.getElem?_eq_some_iff.1 hy).1;have kx:=ss hx;have ky:=ss hy;have hk:∀ k,lC ((l.set (j+1) x).set j y) k=if j=k then y.n else if j+1=k then x.n else lC l k:=fun k=>by
  rw[j4 (by rw[List.length_set];exact e1),j4 e2]
 have k0:lC ((l.set (j+1) x).set j y) j=y.n:=by rw[hk,if_pos rfl]
 have k1:lC ((l.set (j+1) x).set j y) (j+1)=x.n:=by rw[hk,if_neg Om,if_pos rfl]
 have k2:∀ k,k≠j→k≠j+1→lC ((l.set (j+1) x).set j y) k=lC l k:=fun k n1 n2=>by rw[hk,if_neg (fun e=>n1 e.symm),if_neg (fun e=>n2 e.symm)]
 generalize (l.set (j+1) x).set j y=l' at *
 by_cases hb:b=j+1
 ·subst hb;rw[k1]
  by_cases ha:a=j
  ·subst ha;rw[k0];omega
  ·rw[k2 a ha Om,← kx];exact h a j Om Om Om
 ·rw[k2 b h3 hb]
  by_cases ha:a=j
  ·subst ha;rw[k0,← ky];exact h (a+1) b Om h2 Om
  ·by_cases ha2:a=j+1
   ·subst ha2;rw[k1,← kx];exact h j b Om h2 Om
   ·rw[k2 a ha ha2];exact h a b h1 h2 Om
theorem cJ {l:List Od} {j:Nat} {x y:Od} (hx:l[j]?=some x) (hy:l[j+1]?=some y):((l.set (j+1) x).set j y).Perm l:=by
 obtain⟨e1,e2⟩:=List.getElem?_eq_some_iff.1 hx;obtain⟨e3,e4⟩:=List.getElem?_eq_some_iff.1 hy;subst e2 e4;exact List.set_set_perm e3 e1
theorem Srt.pw {l:List Od} (h:Srt l l.length):l.Pairwise (fun a b=>a.n≤b.n):=by
 rw[List.pairwise_iff_getElem];intro i j hi hj hij;have:=h i j hij hj;rw[ss (List.getElem?_eq_getElem hi),ss (List.getElem?_eq_getElem hj)] at this;exact this
theorem iB {α:Type} {f:α→List Value} {k:Nat} (hk:∀ x,(f x).length=k) {l:List α} {i:Nat} {x:α} (hi:i<l.length):over (l.flatMap f) (i*k) (f x)=(l.set i x).flatMap f:=by
 have e:l.flatMap f=(l.take i).flatMap f++(l.drop i).flatMap f:=by rw[← List.flatMap_append,List.take_append_drop]
 have hl:((l.take i).flatMap f).length=i*k:=by rw[zy hk,List.length_take];congr 1;omega
 rw[List.drop_eq_getElem_cons hi,List.flatMap_cons] at e;rw[e,← hl,tg,List.set_eq_take_append_cons_drop,if_pos hi,List.flatMap_append,List.flatMap_cons,hk x,← hk l[i],List.drop_left,List.append_assoc]
def nX (a b:Nat):Int:=if a<b then -1 else if b<a then 1 else 0
theorem iu {a b:Nat}:nX a b<0↔a<b:=by
 unfold nX;split
 ·omega
 ·split<;>omega
theorem m6 {a b:Nat}:nX a b=0↔a=b:=by
 unfold nX;split
 ·omega
 ·split<;>omega
end Sx
end
end Go.Proofs.YtiiefkchpicncaaGreatDoor
