/- Part 49 of the proof. -/
import Derived.Test.YtbhblpnjhkddbaaGreatE39
import Derived.Test.YtbhblpnjhkddbaaGreatE44
set_option linter.unusedSimpArgs false
set_option linter.unusedVariables false
set_option maxHeartbeats 8000000
namespace Go.Proofs.YtbhblpnjhkddbaaGreat
section
open Go Go.RowKit Go.BigFrame
namespace Sx
attribute [local irreducible] DQ DQS WC WO WX wd
theorem lI {m:Nat} (h:m<18446744073709551616):zb m=[.int .u64 (m:Int),.int .u64 ((wd 1 0:Nat):Int),.int .u64 ((wd 2 0:Nat):Int),.int .u64 ((wd 3 0:Nat):Int)]:=by
 have h0:wd 0 m=m:=fJ h;have h1:wd 1 m=wd 1 0:=by unfold wd;simp only;rw[Nat.div_eq_of_lt h]
 have h2:wd 2 m=wd 2 0:=by unfold wd;simp only;rw[Nat.div_eq_of_lt (by omega)]
 have h3:wd 3 m=wd 3 0:=by unfold wd;simp only;rw[Nat.div_eq_of_lt (by omega)]
 unfold zb;rw[h0,h1,h2,h3]
theorem oB (n:Nat) (h:n<18446744073709551616):Fn Tryz.prog 92 [.int .u64 (n:Int)] Tr (Is (ze n)):=by
 have hO:=ab n h;refine Fn.enter Tryz.func92 rfl rfl rfl ?_;intro w hw
 repeat (first|refine Ta ?_|(refine Tm ?_;intro _)|refine WO.acall (hc:=hO) (k:=?_)|refine Tc ?_|exact Tz)
 done
theorem j0:Fn Tryz.prog 54 [] Tr (Is (yR 23 11 4 9)):=by
 have h1:Fn Tryz.prog 92 [.int .u64 23] Tr (Is (ze 23)):=oB 23 (by decide);have h2:Fn Tryz.prog 92 [.int .u64 11] Tr (Is (ze 11)):=oB 11 (by decide);have h3:Fn Tryz.prog 92 [.int .u64 4] Tr (Is (ze 4)):=oB 4 (by decide);have h4:Fn Tryz.prog 92 [.int .u64 9] Tr (Is (ze 9)):=oB 9 (by decide);refine Fn.enter Tryz.func54 rfl rfl rfl ?_;intro w hw
 repeat (first|refine Ta ?_|(refine Tm ?_;intro _)|refine WO.acall (hc:=h1) (k:=?_)|refine WO.acall (hc:=h2) (k:=?_)|refine WO.acall (hc:=h3) (k:=?_)|refine WO.acall (hc:=h4) (k:=?_)|refine Tc ?_|exact Tz)
 done
section
variable (p q g h:Nat)
theorem oU (a n:Nat) (ha:a<zc) (hn:n<zc) (hp:p<zc):Fn Tryz.prog 55 [yR p q g h,ze a,ze n] Tr (Is (ze (exN p a n))):=by
 have hE:=vo p q g h a n ha hn hp;rw[show Is (rE (yD p a) (a ^ n%p))=Is (.tuple #[ze (exN p a n),.int .i64 (okE (yD p a))]) from rfl] at hE;generalize exN p a n=r at *;generalize okE (yD p a)=e at *;refine Fn.enter Tryz.func55 rfl rfl rfl ?_;intro w hw
 repeat (first|refine Ta ?_|(refine Tm ?_;intro _)|refine WO.acall (hc:=hE) (k:=?_)|refine Tc ?_|exact Tz)
 done
end
def knK (i:Nat):Nat × Nat:=(exN 23 4 (i+4),exN 23 9 (i+5))
def knX (i:Nat):Nat × Nat:=(i+4,i+5)
def knS:List (Nat × Nat):=[(4,5),(5,6),(6,7),(7,8)]
theorem abV:(List.range 4).map knK=knN:=by decide +kernel
theorem abz:(List.range 4).map knX=knS:=by decide +kernel
def rwL (t g:Nat) (B r:List Value):Nat→List Ent
 | 0=>[]
 | _+1=>[⟨g,t,B++r⟩]
theorem oW {f:Nat→Nat × Nat} {i:Nat}:((List.range i).map f).flatMap y7++y7 (f i)=((List.range (i+1)).map f).flatMap y7:=by
 rw[uF,List.flatMap_append];simp
theorem oH {f:Nat→Nat × Nat} {i:Nat}:(((List.range i).map f).flatMap y7).length=i*8:=by rw[zB uG];simp
theorem iK:Fn Tryz.prog 23 [] Tr
  (Ex (fun s=>.tuple #[stV 23 11 4 9 1 2 (.slice (some ⟨s 0,0,none⟩) 4 (s 1)),.slice (some ⟨s 2,0,none⟩) 4 (s 3)])
   (fun s=>[⟨s 2,76,knS.flatMap y7++mkz (s 3 - 4) (tI 0 0)⟩,⟨s 0,72,knN.flatMap y7++mkz (s 1 - 4) (tI 0 0)⟩]) (fun s=>4≤s 1∧4≤s 3)):=by
 have hK:=j0;have h23:(23:Nat)<zc:=by decide
 refine Fn.enter Tryz.func23 rfl rfl rfl ?_;intro w hw
 repeat (first|refine Ta ?_|(refine Tm ?_;intro _)|refine WO.acall (hc:=hK) (k:=?_)|refine Tc ?_|exact Tz)
 rename_i g0 gS
 refine WC.loopI (σ:=Nat × Nat × Nat × Nat × Nat) (fun s=>s.1≤4∧(0<s.1→s.2.2.1<9223372036854775808∧s.1≤s.2.2.1∧s.2.2.2.2<9223372036854775808∧s.1≤s.2.2.2.2)) (fun s=>[(0,pt g0),(2,pt gS),(3,agV s.2.2.2.1 s.2.2.2.2 s.1 s.1),(4,.int .u64 ((s.1+4:Nat):Int))])
  (fun s=>⟨gS,29,stC 23 11 4 9 1 2 (agV s.2.1 s.2.2.1 s.1 s.1)⟩::⟨g0,29,stC 0 0 0 0 0 0 (.slice none 0 0)⟩::(rwL 72 s.2.1 (((List.range s.1).map knK).flatMap y7) (mkz (s.2.2.1 - s.1) (tI 0 0)) s.1++rwL 76 s.2.2.2.1 (((List.range s.1).map knX).flatMap y7) (mkz (s.2.2.2.2 - s.1) (tI 0 0)) s.1)) (fun s=>4 - s.1) (0,0,0,0,0) (fun s hi=>?_) ⟨Nat.zero_le _,fun h=>absurd h (by decide)⟩
 obtain⟨i,gN,cN,gL,cL⟩:=s
 try dsimp only at hi ⊢
 obtain⟨hi,hr⟩:=hi
 by_cases hlt:i<4
 ·have hadd:IntKind.u64.wrap (((i+4:Nat):Int)+1)=((i+5:Nat):Int):=yW (by omega) (by omega) (by omega);have hadd2:IntKind.u64.wrap (((i+4:Nat):Int)+1)=((i+1+4:Nat):Int):=yW (by omega) (by omega) (by omega);have e4:=lI (m:=i+4) (by omega);have e5:=lI (m:=i+5) (by omega);have hP1:=oU 23 11 4 9 4 (i+4) (by decide) (Nat.lt_trans (by omega) (show 100<zc by decide)) h23;have hP2:=oU 23 11 4 9 9 (i+5) (by decide) (Nat.lt_trans (by omega) (show 100<zc by decide)) h23;rw[show ze (exN 23 4 (i+4))=ze (knK i).1 from rfl] at hP1;rw[show ze (exN 23 9 (i+5))=ze (knK i).2 from rfl] at hP2;have sK:=oW (f:=knK) (i:=i);have sX:=oW (f:=knX) (i:=i);have lK:=oH (f:=knK) (i:=i);have lX:=oH (f:=knX) (i:=i);rw[show y7 (knX i)=tI (i+4) (i+5) from rfl] at sX;generalize hK2:((List.range (i+1)).map knK).flatMap y7=K2 at *;generalize hX2:((List.range (i+1)).map knX).flatMap y7=X2 at *;generalize hK1:((List.range i).map knK).flatMap y7=K1 at *;generalize hX1:((List.range i).map knX).flatMap y7=X1 at *;generalize knK i=kk at *
  rcases i with _|i
  ·have ek:K1=[]:=List.length_eq_zero_iff.1 (by omega);have ex:X1=[]:=List.length_eq_zero_iff.1 (by omega);subst ek ex;rw[List.nil_append] at sK sX
   try dsimp only[agV,rwL]
   repeat (first|refine WO.does (zg rfl rfl hadd) ?_|refine WO.does (zJ (cs:=zb (0+4)) rfl rfl (by rw[e4];first|done|rfl)) ?_|refine WO.does (zJ (cs:=zb (0+5)) rfl rfl (by rw[e5];first|done|rfl)) ?_|refine Ta ?_|(refine Tm ?_;intro _)|refine Tc ?_|exact Tz)
   refine WC.adraw 20 (k:=?_)
   repeat (first|refine Da ?_|refine DQ.acall (hc:=hP1) (k:=?_)|refine DQ.acall (hc:=hP2) (k:=?_)|refine DQ.makes (vf:=fun _ g=>.slice (some ⟨g,0,none⟩) 1 1) (t:=72) (cs:=fun _=>y7 kk) (fun s _=>zd rfl (by decide) rfl) Dp.const Dp.const ?_|refine Dc ?_)
   refine DQ.anil (k:=?_);intro sx _;generalize sx 19 0=gB
   repeat (first|refine Tw ?_|(refine Tm ?_;intro _)|exact Tz)
   refine WO.appNZ (z:=tI 0 0) (ys:=y7 kk) (m:=1) rfl rfl rfl (Rds.own (m:=8) Hs.here rfl) rfl (by decide) (by decide) (by decide) (by decide) (fun g1 c1 a2 a3=>?_);rw[sK]
   repeat (first|refine Ta ?_|(refine Tm ?_;intro _)|(refine WO.makes (zd (cs:=tI (0+4) (0+5)) rfl (by decide) rfl) ?_;intro _)|refine Tc ?_|exact Tz)
   refine WO.appNZ (z:=tI 0 0) (ys:=tI (0+4) (0+5)) (m:=1) rfl rfl rfl (Rds.own (m:=8) Hs.here rfl) rfl (by decide) (by decide) (by decide) (by decide) (fun g2 c2 b2 b3=>?_);rw[sX]
   repeat (first|refine WO.does (zg rfl rfl hadd2) ?_|refine Ta ?_|(refine Tm ?_;intro _)|refine Tc ?_|exact Tz)
   subst hK2 hX2;exact WX.metI (1,g1,c1,g2,c2) (hs:=⟨⟨by show 0+1≤4;omega,fun _=>⟨a2,a3,b2,b3⟩⟩,by show 4 - (0+1)<4 - 0;omega⟩)
  ·obtain⟨r1,r2,r3,r4⟩:=hr (by omega)
   try dsimp only[agV,rwL]
   repeat (first|refine Tw ?_|(refine Tm ?_;intro _)|exact Tz)
   refine WC.dT rfl (by omega) ?_
   repeat (first|refine WO.does (zg rfl rfl hadd) ?_|refine WO.does (zJ (cs:=zb (i+1+4)) rfl rfl (by rw[e4];first|done|rfl)) ?_|refine WO.does (zJ (cs:=zb (i+1+5)) rfl rfl (by rw[e5];first|done|rfl)) ?_|refine Ta ?_|(refine Tm ?_;intro _)|refine Tc ?_|exact Tz)
   refine WC.adraw 20 (k:=?_)
   repeat (first|refine Da ?_|refine DQ.acall (hc:=hP1) (k:=?_)|refine DQ.acall (hc:=hP2) (k:=?_)|refine DQ.makes (vf:=fun _ g=>.slice (some ⟨g,0,none⟩) 1 1) (t:=72) (cs:=fun _=>y7 kk) (fun s _=>zd rfl (by decide) rfl) Dp.const Dp.const ?_|refine Dc ?_)
   refine DQ.anil (k:=?_);intro sx _;generalize sx 19 0=gB
   repeat (first|refine Tw ?_|(refine Tm ?_;intro _)|exact Tz)
   refine WO.appKZ (z:=tI 0 0) (m:=1) (l:=i+1+1) rfl rfl rfl (xs:=K1) (ys:=y7 kk) lK r2 Pk.a (Rds.own (m:=8) Hs.here rfl) rfl rfl rfl (by omega) r1 (by omega) (by decide) (by decide) (fun g1 c1 a2 a3=>?_);rw[sK]
   repeat (first|refine Ta ?_|(refine Tm ?_;intro _)|(refine WO.makes (zd (cs:=tI (i+1+4) (i+1+5)) rfl (by decide) rfl) ?_;intro _)|refine Tc ?_|exact Tz)
   refine WO.appKZ (z:=tI 0 0) (m:=1) (l:=i+1+1) rfl rfl rfl (xs:=X1) (ys:=tI (i+1+4) (i+1+5)) lX r4 Pk.a (Rds.own (m:=8) Hs.here rfl) rfl rfl rfl (by omega) r3 (by omega) (by decide) (by decide) (fun g2 c2 b2 b3=>?_);rw[sX]
   repeat (first|refine WO.does (zg rfl rfl hadd2) ?_|refine Ta ?_|(refine Tm ?_;intro _)|refine Tc ?_|exact Tz)
   subst hK2 hX2;exact WX.metI (i+1+1,g1,c1,g2,c2) (hs:=⟨⟨by show i+1+1≤4;omega,fun _=>⟨a2,a3,b2,b3⟩⟩,by show 4 - (i+1+1)<4 - (i+1);omega⟩)
 ·have hi4:i=4:=by omega
  subst hi4;obtain⟨r1,r2,r3,r4⟩:=hr (by omega);rw[abV,abz]
  try dsimp only[agV,rwL]
  repeat (first|refine Tw ?_|(refine Tm ?_;intro _)|exact Tz)
  exact WX.ret2 rfl (by exact yU) (by exact zr rfl) [⟨gL,76,knS.flatMap y7++mkz (cL - 4) (tI 0 0)⟩,⟨gN,72,knN.flatMap y7++mkz (cN - 4) (tI 0 0)⟩] (by repeat (first|exact Lle.nil|refine Lle.c ?_)) ⟨fun i=>if i=0 then gN else if i=1 then cN else if i=2 then gL else cL,rfl,rfl,r2,r4⟩
theorem nx {P:Program} {w0:World} {gs:List Nat} {K:List (Nat × Value)} {L:List Ent} {x y:Operand} {t yt ty:TypeId} {k:IntKind} {m n:Nat} (hx:ev K x=some (.int k (m:Int))) (hy:ev K y=some (.int k (n:Int))) (hn:0<n):Does P w0 gs K L (.binOp .rem t x y yt) ty (.int k ((m%n:Nat):Int)) :=
 uO hx hy (by omega) rfl
theorem nA (n:Nat) (hn:n<18446744073709551616):Fn Tryz.prog 91 [.int .u64 (n:Int)] Tr (Is (.bool (vJ n))):=by
 by_cases t1:n<2
 ·rw[nI (.inl t1)];refine Fn.enter Tryz.func91 rfl rfl rfl ?_;intro w hw
  repeat (first|refine WO.does (v7 rfl rfl (by omega)) ?_|refine Ta ?_|(refine Tm ?_;intro _)|refine Tc ?_|exact Tz)
  done
 have hsh:((n:Nat):Int).fdiv (2 ^ (min (32:Int).toNat IntKind.u64.bits))=((n / 4294967296:Nat):Int):=by
  show Int.fdiv (n:Int) 4294967296=_;rw[Int.fdiv_eq_ediv_of_nonneg _ (by decide)];omega
 by_cases t2:4294967296≤n
 ·rw[nI (.inr t2)];have h1:1≤n / 4294967296:=by omega
  generalize n / 4294967296=m at *;refine Fn.enter Tryz.func91 rfl rfl rfl ?_;intro w hw
  repeat (first|refine WO.does (zT rfl rfl (by omega)) ?_|refine WO.does (vx rfl rfl (by decide) hsh) ?_|refine WO.does (zY rfl rfl (by omega)) ?_|refine Ta ?_|(refine Tm ?_;intro _)|refine Tc ?_|exact Tz)
  done
 have h0:n / 4294967296=0:=by omega
 rw[h0] at hsh;refine Fn.enter Tryz.func91 rfl rfl rfl ?_;intro w hw
 repeat (first|refine WO.does (zT rfl rfl (by omega)) ?_|refine WO.does (vx rfl rfl (by decide) hsh) ?_|refine WO.does (zx rfl rfl (by omega)) ?_|refine Ta ?_|(refine Tm ?_;intro _)|refine Tc ?_|exact Tz)
 refine WC.loopI (σ:=Nat) (fun d=>2≤d∧d≤65536∧∀ e,2≤e→e<d→n%e≠0) (fun d=>[(0,.int .u64 (n:Int)),(3,.bool true),(4,.int .u64 (d:Int))]) (fun _=>[]) (fun d=>65537 - d) 2 (fun d hi=>?_) ⟨Nat.le_refl _,by decide,fun e h1 h2=>by omega⟩
 try dsimp only at hi ⊢
 obtain⟨hd2,hd,hno⟩:=hi;have hdd:d*d≤65536*65536:=Nat.mul_le_mul hd hd;have hmul:IntKind.u64.wrap ((d:Int)*(d:Int))=((d*d:Nat):Int):=by rw[Int.natCast_mul];exact u64_in (by rw[← Int.natCast_mul];omega) (by rw[← Int.natCast_mul];omega)
 by_cases hle:d*d≤n
 ·have hne:d≠65536:=by rintro rfl;omega
  have hadd:IntKind.u64.wrap ((d:Int)+1)=((d+1:Nat):Int):=yW (by omega) (by omega) (by omega)
  by_cases hz:n%d=0
  ·rw[eR hd2 hle hz]
   repeat (first|refine WO.does (zU rfl rfl hmul) ?_|refine Ta ?_|(refine Tm ?_;intro _)|refine Tc ?_|exact Tz)
   refine WC.dT rfl (by omega) ?_
   repeat (first|refine WO.does (nx rfl rfl (by omega)) ?_|refine WO.does (yQ rfl rfl (by omega)) ?_|refine Ta ?_|(refine Tm ?_;intro _)|refine Tc ?_|exact Tz)
   done
  ·repeat (first|refine WO.does (zU rfl rfl hmul) ?_|refine Ta ?_|(refine Tm ?_;intro _)|refine Tc ?_|exact Tz)
   refine WC.dT rfl (by omega) ?_
   repeat (first|refine WO.does (nx rfl rfl (by omega)) ?_|refine WO.does (vk rfl rfl (by omega)) ?_|refine WO.does (zg rfl rfl hadd) ?_|refine Ta ?_|(refine Tm ?_;intro _)|refine Tc ?_|exact Tz)
   exact WX.metI (d+1) (hs:=⟨⟨by show 2≤d+1;omega,by show d+1≤65536;omega,fun e h1 h2=>by
    rcases Nat.lt_or_ge e d with h3|h3
    ·exact hno e h1 h3
    ·rw[show e=d by omega];exact hz⟩,by show 65537 - (d+1)<65537 - d;omega⟩)
 ·rw[iT (by omega) (by omega) (Nat.lt_of_not_le hle) hno]
  repeat (first|refine WO.does (zU rfl rfl hmul) ?_|refine Ta ?_|(refine Tm ?_;intro _)|refine Tc ?_|exact Tz)
  refine WC.dF rfl (by omega) ?_
  repeat (first|refine Tw ?_|(refine Tm ?_;intro _)|exact Tz)
section
variable (p q g h:Nat)
theorem e9 (hp:p<zc) (hq:q<zc) (hg:g<zc) (hh:h<zc):Fn Tryz.prog 42 [yR p q g h] Tr (Is (.bool (js p q g h))):=by
 have hBp:=rT p hp;have hBq:=rT q hq;unfold js
 by_cases t1:32<zy p
 ·rw[decide_eq_false (show ¬ zy p≤32 by omega)];simp only[Bool.false_and];refine Fn.enter Tryz.func42 rfl rfl rfl ?_;intro w hw
  repeat (first|refine WO.does (zY rfl rfl (by omega)) ?_|refine Ta ?_|(refine Tm ?_;intro _)|refine WO.acall (hc:=hBp) (k:=?_)|refine Tc ?_|exact Tz)
  done
 have p32:=yg.1 (Nat.le_of_not_lt t1);rw[decide_eq_true (Nat.le_of_not_lt t1)]
 by_cases t2:31<zy q
 ·rw[decide_eq_false (show ¬ zy q≤31 by omega)];simp only[Bool.false_and,Bool.and_false];refine Fn.enter Tryz.func42 rfl rfl rfl ?_;intro w hw
  repeat (first|refine WO.does (zx rfl rfl (by omega)) ?_|refine WO.does (zY rfl rfl (by omega)) ?_|refine Ta ?_|(refine Tm ?_;intro _)|refine WO.acall (hc:=hBp) (k:=?_)|refine WO.acall (hc:=hBq) (k:=?_)|refine Tc ?_|exact Tz)
  done
 have q31:=yg.1 (Nat.le_of_not_lt t2);rw[decide_eq_true (Nat.le_of_not_lt t2)];have wp:wd 0 p=p:=fJ (by omega);have wq:wd 0 q=q:=fJ (by omega);have hmul:IntKind.u64.wrap ((2:Int)*((wd 0 q:Nat):Int))=((2*q:Nat):Int):=by rw[wq];exact yW (by omega) (by omega) (by omega)
 have hadd:IntKind.u64.wrap (((2*q:Nat):Int)+1)=((2*q+1:Nat):Int):=yW (by omega) (by omega) (by omega)
 by_cases t3:p=2*q+1
 case neg =>
  rw[decide_eq_false t3];simp only[Bool.false_and,Bool.and_false];have hne:((wd 0 p:Nat):Int)≠((2*q+1:Nat):Int):=by rw[wp];omega
  refine Fn.enter Tryz.func42 rfl rfl rfl ?_;intro w hw
  repeat (first|refine WO.does (zx rfl rfl (by omega)) ?_|refine WO.does (zU rfl rfl hmul) ?_|refine WO.does (zg rfl rfl hadd) ?_|refine WO.does (ym rfl rfl hne) ?_|refine Ta ?_|(refine Tm ?_;intro _)|refine WO.acall (hc:=hBp) (k:=?_)|refine WO.acall (hc:=hBq) (k:=?_)|refine Tc ?_|exact Tz)
  done
 rw[decide_eq_true t3];have hne:((wd 0 p:Nat):Int)=((2*q+1:Nat):Int):=by rw[wp];omega
 have hS1:=nA (wd 0 p) (by rw[wp];omega);have hS2:=nA (wd 0 q) (by rw[wq];omega);rw[wp] at hS1;rw[wq] at hS2;rw[show ((p:Nat):Int)=((wd 0 p:Nat):Int) by rw[wp]] at hS1;rw[show ((q:Nat):Int)=((wd 0 q:Nat):Int) by rw[wq]] at hS2;have hG1:=tq p q g h g hg hp hq;have hG2:=tq p q g h h hh hp hq;have hOne:Fn Tryz.prog 92 [.int .u64 1] Tr (Is (ze 1)):=oB 1 (by decide);have h1:(1:Nat)<zc:=by decide
 obtain⟨e1,he1⟩ : ∃ b,decide (g≠1)=b:=⟨_,rfl⟩;obtain⟨e2,he2⟩ : ∃ b,decide (h≠1)=b:=⟨_,rfl⟩;rw[he1,he2];have hN1:=fun {w0:World} {gs:List Nat} {K:List (Nat × Value)} {L:List Ent} {x y:Operand} {yt ty:TypeId} hx hy=>rM (w0:=w0) (gs:=gs) (K:=K) (L:=L) (x:=x) (y:=y) (yt:=yt) (ty:=ty) hx hy hg h1 he1;have hN2:=fun {w0:World} {gs:List Nat} {K:List (Nat × Value)} {L:List Ent} {x y:Operand} {yt ty:TypeId} hx hy=>rM (w0:=w0) (gs:=gs) (K:=K) (L:=L) (x:=x) (y:=y) (yt:=yt) (ty:=ty) hx hy hh h1 he2;generalize vJ p=b1 at *;generalize vJ q=b2 at *;generalize gIn p q g=b3 at *;generalize gIn p q h=b4 at *;simp only[Bool.true_and];clear he1 he2;cases b1 with
 | false =>
  simp only[Bool.true_and,Bool.false_and,Bool.and_false];refine Fn.enter Tryz.func42 rfl rfl rfl ?_;intro w hw
  repeat (first|refine WO.does (zx rfl rfl (by omega)) ?_|refine WO.does (zU rfl rfl hmul) ?_|refine WO.does (zg rfl rfl hadd) ?_|refine WO.does (zu rfl rfl hne) ?_|refine Ta ?_|(refine Tm ?_;intro _)|refine WO.acall (hc:=hBp) (k:=?_)|refine WO.acall (hc:=hBq) (k:=?_)|refine Tc ?_|exact Tz)
  refine WC.adraw 35 (k:=?_)
  iterate 35 (first|refine DQ.does (fun s _=>hN1 rfl rfl) Dp.const ?_|refine DQ.does (fun s _=>hN2 rfl rfl) Dp.const ?_|refine Da ?_|refine DQ.acall (hc:=hS1) (k:=?_)|refine DQ.acall (hc:=hS2) (k:=?_)|refine DQ.acall (hc:=hG1) (k:=?_)|refine DQ.acall (hc:=hG2) (k:=?_)|refine DQ.acall (hc:=hOne) (k:=?_)|refine Dc ?_)
  refine DQ.anil (k:=?_);intro sx _
  repeat (first|refine Tw ?_|(refine Tm ?_;intro _)|exact Tz)
  done
 | true =>
 cases b2 with
 | false =>
  simp only[Bool.true_and,Bool.false_and,Bool.and_false];refine Fn.enter Tryz.func42 rfl rfl rfl ?_;intro w hw
  repeat (first|refine WO.does (zx rfl rfl (by omega)) ?_|refine WO.does (zU rfl rfl hmul) ?_|refine WO.does (zg rfl rfl hadd) ?_|refine WO.does (zu rfl rfl hne) ?_|refine Ta ?_|(refine Tm ?_;intro _)|refine WO.acall (hc:=hBp) (k:=?_)|refine WO.acall (hc:=hBq) (k:=?_)|refine Tc ?_|exact Tz)
  refine WC.adraw 35 (k:=?_)
  iterate 35 (first|refine DQ.does (fun s _=>hN1 rfl rfl) Dp.const ?_|refine DQ.does (fun s _=>hN2 rfl rfl) Dp.const ?_|refine Da ?_|refine DQ.acall (hc:=hS1) (k:=?_)|refine DQ.acall (hc:=hS2) (k:=?_)|refine DQ.acall (hc:=hG1) (k:=?_)|refine DQ.acall (hc:=hG2) (k:=?_)|refine DQ.acall (hc:=hOne) (k:=?_)|refine Dc ?_)
  refine DQ.anil (k:=?_);intro sx _
  repeat (first|refine Tw ?_|(refine Tm ?_;intro _)|exact Tz)
  done
 | true =>
 cases b3 with
 | false =>
  simp only[Bool.true_and,Bool.false_and,Bool.and_false];refine Fn.enter Tryz.func42 rfl rfl rfl ?_;intro w hw
  repeat (first|refine WO.does (zx rfl rfl (by omega)) ?_|refine WO.does (zU rfl rfl hmul) ?_|refine WO.does (zg rfl rfl hadd) ?_|refine WO.does (zu rfl rfl hne) ?_|refine Ta ?_|(refine Tm ?_;intro _)|refine WO.acall (hc:=hBp) (k:=?_)|refine WO.acall (hc:=hBq) (k:=?_)|refine Tc ?_|exact Tz)
  refine WC.adraw 35 (k:=?_)
  iterate 35 (first|refine DQ.does (fun s _=>hN1 rfl rfl) Dp.const ?_|refine DQ.does (fun s _=>hN2 rfl rfl) Dp.const ?_|refine Da ?_|refine DQ.acall (hc:=hS1) (k:=?_)|refine DQ.acall (hc:=hS2) (k:=?_)|refine DQ.acall (hc:=hG1) (k:=?_)|refine DQ.acall (hc:=hG2) (k:=?_)|refine DQ.acall (hc:=hOne) (k:=?_)|refine Dc ?_)
  refine DQ.anil (k:=?_);intro sx _
  repeat (first|refine Tw ?_|(refine Tm ?_;intro _)|exact Tz)
  done
 | true =>
 cases b4 with
 | false =>
  simp only[Bool.true_and,Bool.false_and,Bool.and_false];refine Fn.enter Tryz.func42 rfl rfl rfl ?_;intro w hw
  repeat (first|refine WO.does (zx rfl rfl (by omega)) ?_|refine WO.does (zU rfl rfl hmul) ?_|refine WO.does (zg rfl rfl hadd) ?_|refine WO.does (zu rfl rfl hne) ?_|refine Ta ?_|(refine Tm ?_;intro _)|refine WO.acall (hc:=hBp) (k:=?_)|refine WO.acall (hc:=hBq) (k:=?_)|refine Tc ?_|exact Tz)
  refine WC.adraw 35 (k:=?_)
  iterate 35 (first|refine DQ.does (fun s _=>hN1 rfl rfl) Dp.const ?_|refine DQ.does (fun s _=>hN2 rfl rfl) Dp.const ?_|refine Da ?_|refine DQ.acall (hc:=hS1) (k:=?_)|refine DQ.acall (hc:=hS2) (k:=?_)|refine DQ.acall (hc:=hG1) (k:=?_)|refine DQ.acall (hc:=hG2) (k:=?_)|refine DQ.acall (hc:=hOne) (k:=?_)|refine Dc ?_)
  refine DQ.anil (k:=?_);intro sx _
  repeat (first|refine Tw ?_|(refine Tm ?_;intro _)|exact Tz)
  done
 | true =>
 cases e1 with
 | false =>
  simp only[Bool.true_and,Bool.false_and,Bool.and_false];refine Fn.enter Tryz.func42 rfl rfl rfl ?_;intro w hw
  repeat (first|refine WO.does (zx rfl rfl (by omega)) ?_|refine WO.does (zU rfl rfl hmul) ?_|refine WO.does (zg rfl rfl hadd) ?_|refine WO.does (zu rfl rfl hne) ?_|refine Ta ?_|(refine Tm ?_;intro _)|refine WO.acall (hc:=hBp) (k:=?_)|refine WO.acall (hc:=hBq) (k:=?_)|refine Tc ?_|exact Tz)
  refine WC.adraw 35 (k:=?_)
  iterate 35 (first|refine DQ.does (fun s _=>hN1 rfl rfl) Dp.const ?_|refine DQ.does (fun s _=>hN2 rfl rfl) Dp.const ?_|refine Da ?_|refine DQ.acall (hc:=hS1) (k:=?_)|refine DQ.acall (hc:=hS2) (k:=?_)|refine DQ.acall (hc:=hG1) (k:=?_)|refine DQ.acall (hc:=hG2) (k:=?_)|refine DQ.acall (hc:=hOne) (k:=?_)|refine Dc ?_)
  refine DQ.anil (k:=?_);intro sx _
  repeat (first|refine Tw ?_|(refine Tm ?_;intro _)|exact Tz)
  done
 | true =>
 cases e2 with
 | false =>
  simp only[Bool.true_and,Bool.false_and,Bool.and_false];refine Fn.enter Tryz.func42 rfl rfl rfl ?_;intro w hw
  repeat (first|refine WO.does (zx rfl rfl (by omega)) ?_|refine WO.does (zU rfl rfl hmul) ?_|refine WO.does (zg rfl rfl hadd) ?_|refine WO.does (zu rfl rfl hne) ?_|refine Ta ?_|(refine Tm ?_;intro _)|refine WO.acall (hc:=hBp) (k:=?_)|refine WO.acall (hc:=hBq) (k:=?_)|refine Tc ?_|exact Tz)
  refine WC.adraw 35 (k:=?_)
  iterate 35 (first|refine DQ.does (fun s _=>hN1 rfl rfl) Dp.const ?_|refine DQ.does (fun s _=>hN2 rfl rfl) Dp.const ?_|refine Da ?_|refine DQ.acall (hc:=hS1) (k:=?_)|refine DQ.acall (hc:=hS2) (k:=?_)|refine DQ.acall (hc:=hG1) (k:=?_)|refine DQ.acall (hc:=hG2) (k:=?_)|refine DQ.acall (hc:=hOne) (k:=?_)|refine Dc ?_)
  refine DQ.anil (k:=?_);intro sx _
  repeat (first|refine Tw ?_|(refine Tm ?_;intro _)|exact Tz)
  done
 | true =>
 simp only[Bool.true_and,Bool.false_and,Bool.and_false];refine Fn.enter Tryz.func42 rfl rfl rfl ?_;intro w hw
 repeat (first|refine WO.does (zx rfl rfl (by omega)) ?_|refine WO.does (zU rfl rfl hmul) ?_|refine WO.does (zg rfl rfl hadd) ?_|refine WO.does (zu rfl rfl hne) ?_|refine Ta ?_|(refine Tm ?_;intro _)|refine WO.acall (hc:=hBp) (k:=?_)|refine WO.acall (hc:=hBq) (k:=?_)|refine Tc ?_|exact Tz)
 refine WC.adraw 35 (k:=?_)
 iterate 35 (first|refine DQ.does (fun s _=>hN1 rfl rfl) Dp.const ?_|refine DQ.does (fun s _=>hN2 rfl rfl) Dp.const ?_|refine Da ?_|refine DQ.acall (hc:=hS1) (k:=?_)|refine DQ.acall (hc:=hS2) (k:=?_)|refine DQ.acall (hc:=hG1) (k:=?_)|refine DQ.acall (hc:=hG2) (k:=?_)|refine DQ.acall (hc:=hOne) (k:=?_)|refine Dc ?_)
 refine DQ.anil (k:=?_);intro sx _
 repeat (first|refine Tw ?_|(refine Tm ?_;intro _)|exact Tz)
 done
end
section
variable (p q g h:Nat) (f sec:Int) (pt:Option Addr) (c:Nat) (N:List (Nat × Nat)) (pz:Option Addr) (cz:Nat) (l:List Nat)
theorem pg {a q:Nat}:(0≤uo a q)↔¬ a<q:=by
 unfold uo;split
 ·rename_i h;subst h;simp
 ·split
  ·rename_i h;simp[h]
  ·rename_i h;simp[h]
theorem eE (hp:p<zc) (hq:q<zc) (hg:g<zc) (hh:h<zc) (hN:yC N) (hl:∀ a∈l,a<zc)
  (hf1 : -9223372036854775808≤f) (hf2:f≤9223372036854775807) (hs1 : -9223372036854775808≤sec) (hs2:sec≤9223372036854775807) :
  Fn Tryz.prog 18 [stV p q g h f sec (.slice pt N.length c),.slice pz l.length cz] (fun w=>RdF y7 (.slice pt N.length c) N w∧RdF zb (.slice pz l.length cz) l w) (Is (.bool (nP p q g h f sec N l))):=by
 unfold nP
 by_cases t1:100<N.length
 ·rw[decide_eq_false (show ¬ N.length≤100 by omega)];simp only[Bool.false_and];refine Fn.enter Tryz.func18 rfl rfl rfl ?_;intro w hw;obtain⟨wN,wl⟩:=hw
  repeat (first|refine WO.does (zY rfl rfl (by omega)) ?_|refine Ta ?_|(refine Tm ?_;intro _)|refine Tc ?_|exact Tz)
  done
 rw[decide_eq_true (show N.length≤100 by omega)]
 by_cases t2:100<l.length
 ·rw[decide_eq_false (show ¬ l.length≤100 by omega)];simp only[Bool.false_and,Bool.and_false];refine Fn.enter Tryz.func18 rfl rfl rfl ?_;intro w hw;obtain⟨wN,wl⟩:=hw
  repeat (first|refine WO.does (zx rfl rfl (by omega)) ?_|refine WO.does (zY rfl rfl (by omega)) ?_|refine Ta ?_|(refine Tm ?_;intro _)|refine Tc ?_|exact Tz)
  done
 rw[decide_eq_true (show l.length≤100 by omega)];have hG:=e9 p q g h hp hq hg hh;have hS:=yr p q g h f sec pt c N hp hq hg hh hN (by omega) hf1 hf2 hs1 hs2;generalize js p q g h=b1 at *;simp only[Bool.true_and];cases b1 with
 | false =>
  simp only[Bool.false_and];refine Fn.enter Tryz.func18 rfl rfl rfl ?_;intro w hw;obtain⟨wN,wl⟩:=hw
  repeat (first|refine WO.does (zx rfl rfl (by omega)) ?_|refine Ta ?_|(refine Tm ?_;intro _)|refine WO.acall (hc:=hG) (k:=?_)|refine Tc ?_|exact Tz)
  done
 | true =>
 cases e2:vl p q g h f sec N with
 | false =>
  rw[e2] at hS;simp only[Bool.false_and,Bool.and_false];refine Fn.enter Tryz.func18 rfl rfl rfl ?_;intro w hw;obtain⟨wN,wl⟩:=hw
  repeat (first|refine WO.does (zx rfl rfl (by omega)) ?_|refine Ta ?_|(refine Tm ?_;intro _)|refine WO.acall (hc:=hG) (k:=?_)|refine WO.acallR (hc:=hS) (hR:=fun w hm=>(wN.mod hm.mod).rdK) (k:=?_)|refine Tc ?_|exact Tz)
  done
 | true =>
 rw[e2] at hS;have hsp:=yo e2;have hadd:IntKind.i64.wrap (f+sec)=f+sec:=i64_in (by omega) (by omega)
 by_cases t5:(l.length:Int)=f+sec
 case neg =>
  rw[decide_eq_false t5];simp only[Bool.false_and,Bool.and_false];refine Fn.enter Tryz.func18 rfl rfl rfl ?_;intro w hw;obtain⟨wN,wl⟩:=hw
  repeat (first|refine WO.does (zx rfl rfl (by omega)) ?_|refine WO.does (ym rfl rfl t5) ?_|refine WO.does (zg rfl rfl hadd) ?_|refine Ta ?_|(refine Tm ?_;intro _)|refine WO.acall (hc:=hG) (k:=?_)|refine WO.acallR (hc:=hS) (hR:=fun w hm=>(wN.mod hm.mod).rdK) (k:=?_)|refine Tc ?_|exact Tz)
  done
 rw[decide_eq_true t5];simp only[Bool.true_and];have hq1:1<q:=by omega
 refine Fn.enter Tryz.func18 rfl rfl rfl ?_;intro w hw;obtain⟨wN,wl⟩:=hw
 repeat (first|refine WO.does (zx rfl rfl (by omega)) ?_|refine WO.does (zu rfl rfl t5) ?_|refine WO.does (zg rfl rfl hadd) ?_|refine Ta ?_|(refine Tm ?_;intro _)|refine WO.acall (hc:=hG) (k:=?_)|refine WO.acallR (hc:=hS) (hR:=fun w hm=>(wN.mod hm.mod).rdK) (k:=?_)|refine Tc ?_|exact Tz)
 rename_i gS;refine WC.loopI (σ:=Nat) (fun i=>i≤l.length∧∀ a∈l.take i,a<q) (fun i=>[(1,.slice pz l.length cz),(2,Sx.pt gS),(5,.int .i64 (i:Int))]) (fun _=>[⟨gS,29,stC p q g h f sec (.slice pt N.length c)⟩]) (fun i=>l.length - i) 0 (fun i hi=>?_) ⟨Nat.zero_le _,by simp⟩
 try dsimp only at hi ⊢
 obtain⟨hi,ha⟩:=hi
 by_cases hlt:i<l.length
 ·obtain⟨x,hx⟩ : ∃ x,l[i]?=some x:=⟨_,List.getElem?_eq_getElem hlt⟩;have hxb:=hl x (List.mem_of_getElem? hx);obtain⟨b,o,rfl,_,hs⟩:=wl.get hx;have hadd2:IntKind.i64.wrap ((i:Int)+1)=((i+1:Nat):Int):=zn (by omega) (by omega) (by omega);have hcx:cut (l.flatMap zb) (o+i*4 - o) 4=zb x:=by rw[Nat.add_sub_cancel_left];exact zN zH hx
  have hC:=ng x q hxb hq
  repeat (first|refine Tw ?_|(refine Tm ?_;intro _)|exact Tz)
  refine WC.dT rfl (by omega) ?_
  repeat (first|refine Tw ?_|(refine Tm ?_;intro _)|exact Tz)
  by_cases hxq:x<q
  ·have hge:¬ 0≤uo x q:=fun h=>pg.1 h hxq;refine WC.adraw 9 (k:=?_)
   iterate 9 (first|refine DQ.does (fun s _=>za (o':=o+i*4) rfl rfl hlt rfl) Dp.const ?_|refine DQ.does (fun s _=>zk (vs:=zb x) (hs:=hs) (hle:=Nat.le_add_right _ _) (hc:=hcx)) Dp.const ?_|refine DQ.does (fun s _=>vT rfl rfl hge) Dp.const ?_|refine Da ?_|refine DQ.acall (hc:=hC) (k:=?_)|refine Dc ?_)
   refine DQ.anil (k:=?_);intro sx _
   repeat (first|refine WO.does (zg rfl rfl hadd2) ?_|refine Ta ?_|(refine Tm ?_;intro _)|refine Tc ?_|exact Tz)
   exact WX.metI (i+1) (hs:=⟨⟨by show i+1≤l.length;omega,fun a h=>by
    rw[List.take_add_one,hx,List.mem_append] at h
    rcases h with h|h
    ·exact ha a h
    ·simp at h;rw[h];exact hxq⟩,by show l.length - (i+1)<l.length - i;omega⟩)
  ·have hge:0≤uo x q:=pg.2 hxq
   rw[show uk q l=false by
    unfold uk;rw[Bool.and_eq_false_iff,List.all_eq_false];exact .inr ⟨x,List.mem_of_getElem? hx,by simpa using hxq⟩]
   refine WC.adraw 9 (k:=?_)
   iterate 9 (first|refine DQ.does (fun s _=>za (o':=o+i*4) rfl rfl hlt rfl) Dp.const ?_|refine DQ.does (fun s _=>zk (vs:=zb x) (hs:=hs) (hle:=Nat.le_add_right _ _) (hc:=hcx)) Dp.const ?_|refine DQ.does (fun s _=>rH rfl rfl hge) Dp.const ?_|refine Da ?_|refine DQ.acall (hc:=hC) (k:=?_)|refine Dc ?_)
   refine DQ.anil (k:=?_);intro sx _
   repeat (first|refine Tw ?_|(refine Tm ?_;intro _)|exact Tz)
   done
 ·have hi2:i=l.length:=by omega
  subst hi2;rw[List.take_length] at ha
  rw[show uk q l=true by
   unfold uk;rw[Bool.and_eq_true,List.all_eq_true];exact⟨decide_eq_true hq1,fun a h=>decide_eq_true (ha a h)⟩]
  repeat (first|refine Tw ?_|(refine Tm ?_;intro _)|exact Tz)
  refine WC.dF rfl (by omega) ?_
  repeat (first|refine Tw ?_|(refine Tm ?_;intro _)|exact Tz)
end
end Sx
end
end Go.Proofs.YtbhblpnjhkddbaaGreat
