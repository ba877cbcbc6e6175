/- Part 11 of the proof. -/
import Derived.Test.YteibfbjpkjkejaaGreatDoorS10
import Derived.Test.YteibfbjpkjkejaaGreatDoorS02
import Derived.Laws.BitsAllLaws
import Derived.Deep.DeepCutAuto
import Derived.Deep.CutBlock
set_option linter.unusedSimpArgs false
set_option linter.unusedVariables false
set_option maxHeartbeats 8000000
namespace Go.Proofs.YteibfbjpkjkejaaGreatDoor
section
open Go.RowKit
theorem gy {a k:Nat} (hx:wd k a=0) (hz:∀ j,k<j→j<4→wd j a=0) (j:Nat) (h1:k≤j) (h2:j<4):wd j a=0:=by
 rcases Nat.lt_or_eq_of_le h1 with h|h
 ·exact hz j h h2
 ·subst h;exact hx
theorem u4 (a:Nat) (ha:a<zd) (w:World) :
  Calls Tryz.prog 78 #[zj a] w fun e w'=>e=.returned (.int .i64 (zF a:Nat))∧Below w.heap.size w w':=by
 go_enter Tryz.func78,Tryz.ntmps78
 go_wp2;generalize hW:w.alloc _=W;have hg0:Blk W w.heap.size 24 (zc a):=by subst hW;exact Blk.new _ _ _
 have hb:Below w.heap.size w W:=by subst hW;exact (Ext.rfl' w).alloc' _
 clear hW
 go_loop [3] (fun i=>(i=.int .i64 (-1)∧∀ j,j<4→wd j a=0)∨∃ k:Nat,k<4∧i=.int .i64 k∧∀ j,k<j→j<4→wd j a=0) (fun i=>(intOf i+1).toNat)
 case atStart=>exact .inr ⟨3,by omega,rfl,fun j h1 h2=>by omega⟩
 case round =>
  rcases hrel with ⟨rfl,hz⟩|⟨k,hk,rfl,hz⟩
  ·have hres:=fe ha hz;subst hres;clear hz;go_wp2
   go_ret
   exact⟨by simp[zF],hb⟩
  ·have c0:=hg0.cell_at (vb a hk)
   by_cases hx:wd k a=0
   ·have Hz:=Lib.hid hz;clear hz;go_wp2
    go_round
    case rel =>
     by_cases h0:k=0
     ·subst h0;exact .inl ⟨rfl,fun j hj=>gy hx Hz.out j (by omega) hj⟩
     ·exact .inr ⟨k - 1,by omega,by rw[show ((k - 1:Nat):Int)=(k:Int) - 1 by omega],fun j h1 h2=>gy hx Hz.out j (by omega) h2⟩
    case measure=>first|(simp[intOf];done)|(simp[intOf];omega)
   ·have hres:=iB ha hk hz hx;have Hr:=Lib.hid hres;clear hres hz;have hpos:0<wd k a:=by omega
    have hle:=ac7 k a;have hlb:=y9 (k:=64) (yh k a);have hbl:=bitLen_eq (yh k a)
    go_wp2_with (go_at_call 115;refine (Tryz.bits_Len64 _ _ (by omega) (by omega)).mono ?_;rintro e w1 ⟨rfl,rfl⟩)
    go_ret
    refine⟨?_,hb⟩;rw[Hr.out];exact congrArg (fun z:Int=>Ending.returned (.int .i64 z)) (by simp)
theorem and_one (n:Nat) (h:n<18446744073709551616):bits .and .u64 (n:Int) 1=((n%2:Nat):Int):=by
 have:=u64_and_nat n 1 h (by omega);rw[nat_mask1] at this;exact this
theorem rQ (a:Nat) (i:Int) (ha:a<zd) (hi0:0≤i) (hi1:i≤1000000) (w:World) :
  Calls Tryz.prog 116 #[zj a,.int .i64 i] w fun e w'=>e=.returned (.int .u64 (uk a i.toNat:Nat))∧Below w.heap.size w w':=by
 obtain⟨n,rfl⟩:=Int.eq_ofNat_of_zero_le hi0;rw[Int.toNat_natCast]
 by_cases h:n<256
 ·have hq:n / 64<4:=by omega
  have hb:=kT ha (n / 64) (n%64) hq (Nat.mod_lt _ (by omega));rw[show 64*(n / 64)+n%64=n by omega] at hb;have hw:=yh (n / 64) a;have hw2:wd (n / 64) a / 2 ^ (n%64)<18446744073709551616:=Nat.lt_of_le_of_lt (Nat.div_le_self _ _) hw;have ho:=and_one _ hw2;have Hb:=Lib.hid hb;clear hb;have c0:=(Blk.new w 24 (zc a)).cell_at (vb a hq);have hd1:decide ((n:Int)<0)=false:=by simp
  have hd2:decide (256≤(n:Int))=false:=by simp;omega
  go_enter Tryz.func116,Tryz.ntmps116
  go_wp2
  go_ret
  refine⟨congrArg (fun z:Int=>Ending.returned (.int .u64 z)) ?_,(Ext.rfl' w).alloc' _⟩;show bits .and .u64 ((wd (n / 64) a:Nat) / 2 ^ (n%64):Int) 1=_;rw[show ((wd (n / 64) a:Nat) / 2 ^ (n%64):Int)=((wd (n / 64) a / 2 ^ (n%64):Nat):Int) by simp,ho,Hb.out]
 ·have hb:=dE ha (i:=n) (by omega);have hd1:decide ((n:Int)<0)=false:=by simp
  have hd2:decide (256≤(n:Int))=true:=by simp;omega
  go_enter Tryz.func116,Tryz.ntmps116
  go_wp2
  go_ret
  exact⟨by simp[hb],(Ext.rfl' w).alloc' _⟩
theorem lX (a b c d:Nat) (ha:a<18446744073709551616) (hb:b<18446744073709551616) (hc:c<18446744073709551616) (hd:d<18446744073709551616) :
  a*b / 18446744073709551616≤18446744073709551614∧a*b%18446744073709551616<18446744073709551616 ∧
  (a*b%18446744073709551616+c) / 18446744073709551616≤1∧((a*b%18446744073709551616+c)%18446744073709551616+d) / 18446744073709551616≤1 ∧
  a*b / 18446744073709551616+(a*b%18446744073709551616+c) / 18446744073709551616+((a*b%18446744073709551616+c)%18446744073709551616+d) / 18446744073709551616≤18446744073709551615 ∧
  (a*b+c+d)%18446744073709551616=((a*b%18446744073709551616+c)%18446744073709551616+d)%18446744073709551616 ∧
  (a*b+c+d) / 18446744073709551616=a*b / 18446744073709551616+(a*b%18446744073709551616+c) / 18446744073709551616+((a*b%18446744073709551616+c)%18446744073709551616+d) / 18446744073709551616:=by
 have hm:a*b≤18446744073709551615*18446744073709551615:=Nat.mul_le_mul (by omega) (by omega);generalize a*b=p at *;omega
theorem mW (a b c d:Nat) (ha:a<18446744073709551616) (hb:b<18446744073709551616) (hc:c<18446744073709551616) (hd:d<18446744073709551616) (w:World) :
  Calls Tryz.prog 148 #[.int .u64 (a:Int),.int .u64 (b:Int),.int .u64 (c:Int),.int .u64 (d:Int)] w fun e w' =>
   e=.returned (.tuple #[.int .u64 (((a*b+c+d)%18446744073709551616:Nat):Int),.int .u64 (((a*b+c+d) / 18446744073709551616:Nat):Int)])∧w=w':=by
 have hA0:∀ (x y:Nat) (w:World),(callFunc 168 #[.int .u64 x,.int .u64 y,.int .u64 0]).run Tryz.prog w =
   .ok (.value (.tuple #[.int .u64 (((x+y)%18446744073709551616:Nat):Int),.int .u64 (((x+y) / 18446744073709551616:Nat):Int)])) w:=fun x y w=>mu x y 0 (by omega) w
 have hM:=Tryz.bits_Mul64 a b ha hb;obtain⟨h1,h2,h3,h4,h5,e1,e2⟩:=lX a b c d ha hb hc hd;rw[e1,e2];clear e1 e2;generalize a*b / 18446744073709551616=H at *;generalize a*b%18446744073709551616=L at *;have A1:=hA0 L c;generalize (L+c)%18446744073709551616=S1 at *;generalize (L+c) / 18446744073709551616=C1 at *;have A2:=hA0 S1 d;generalize (S1+d)%18446744073709551616=S2 at *;generalize (S1+d) / 18446744073709551616=C2 at *;clear hA0;have HM:=Lib.hid hM;clear hM
 go_enter Tryz.func148,Tryz.ntmps148
 go_wp2_with (go_at_call 117;refine (HM.out _).mono ?_;rintro e w1 ⟨rfl,rfl⟩)
 go_ret2
 exact⟨by simp,rfl⟩
def uH (a:Nat):Bool:=decide (a<18446744073709551616)
theorem j7 (a:Nat):decide (((zF a:Nat):Int)≤64)=uH a:=by
 unfold uH;have:=yO (x:=a) (k:=64);rw[show (2:Nat) ^ 64=18446744073709551616 by decide] at this
 by_cases h:a<18446744073709551616<;>simp[h]<;>omega
theorem vC (a:Nat) (ha:a<zd) (w:World) :
  Calls Tryz.prog 149 #[zj a] w fun e w'=>e=.returned (.bool (uH a))∧Below w.heap.size w w':=by
 have hs:=j7 a
 go_enter Tryz.func149,Tryz.ntmps149
 go_wp2_with (go_at_call 78;refine (u4 a ha _).mono ?_;rintro e w1 ⟨rfl,hb1⟩)
 go_ret
 exact⟨by simp,((Ext.rfl' w).alloc' _).trans' hb1⟩
abbrev ti:List Value:=[.int .u64 0,.int .u64 0,.int .u64 0,.int .u64 0]
theorem or_bit (r b:Nat) (hr:r<zd) (hb:b≤1) :
  bits .or .u64 ((wd 0 ((r+r)%zd):Nat):Int) (b:Int)=((wd 0 ((r+r)%zd+b):Nat):Int) ∧
  wd 1 ((r+r)%zd)=wd 1 ((r+r)%zd+b)∧wd 2 ((r+r)%zd)=wd 2 ((r+r)%zd+b)∧wd 3 ((r+r)%zd)=wd 3 ((r+r)%zd+b)∧(r+r)%zd+b<zd:=by
 have hev:∃ k,(r+r)%zd=2*k∧2*k+b<zd:=by
  refine⟨r%57896044618658097711785492504343953926634992332820282019728792003956564819968,?_,?_⟩
  ·rw[← Nat.two_mul,show zd=2*57896044618658097711785492504343953926634992332820282019728792003956564819968 by decide,Nat.mul_mod_mul_left]
  ·have:=Nat.mod_lt r (show 0<57896044618658097711785492504343953926634992332820282019728792003956564819968 by omega);have h:2*(r%57896044618658097711785492504343953926634992332820282019728792003956564819968)+b<115792089237316195423570985008687907853269984665640564039457584007913129639936:=by omega
   exact h
 obtain⟨k,hk,hlt⟩:=hev;rw[hk];have hev2:∃ j,wd 0 (2*k)=2*j∧wd 0 (2*k+b)=2*j+b:=⟨wd 0 (2*k) / 2,by simp only[wd];omega,by simp only[wd];omega⟩;obtain⟨j,hj,hj2⟩:=hev2;have hjl:=yh 0 (2*k);refine⟨?_,?_,?_,?_,hlt⟩
 ·rw[u64_or_nat _ _ (yh _ _) (by omega),hj,hj2];have:=Nat.two_pow_add_eq_or_of_lt (i:=1) (b:=b) (by omega) j;rw[← this]
 all_goals (simp only[wd];omega)
def fv (r b m:Nat):Nat:=(r+r+b)%m
def cd (r b m:Nat):Nat:=(r+r+b) / m
theorem abA {r b m:Nat} (hr:r<m) (hm:m<zd) (hb:b≤1) (h:r+r+b<m) :
  (r+r) / zd=0∧bw ((r+r)%zd+b) m 0=1∧fv r b m=(r+r)%zd+b∧cd r b m=0:=by
 have e:(r+r)%zd=r+r:=Nat.mod_eq_of_lt (by omega);refine⟨Nat.div_eq_of_lt (by omega),?_,?_,Nat.div_eq_of_lt h⟩
 ·rw[e];simp[bw];omega
 ·rw[e];exact Nat.mod_eq_of_lt h
theorem bI {r b m:Nat} (hr:r<m) (hm:m<zd) (hb:b≤1) (h:m≤r+r+b) :
  ((r+r) / zd=1∨((r+r) / zd=0∧bw ((r+r)%zd+b) m 0=0))∧fv r b m=((r+r)%zd+b+zd - m)%zd∧cd r b m=1:=by
 have hq:cd r b m=1:=by
  unfold cd;rw[Nat.div_eq_iff (by omega)];omega
 have hrm:fv r b m=r+r+b - m:=by
  unfold fv;rw[Nat.mod_eq_sub_mod h,Nat.mod_eq_of_lt (by omega)]
 rw[hrm,hq]
 by_cases hc:r+r<zd
 ·have e:(r+r)%zd=r+r:=Nat.mod_eq_of_lt hc;refine⟨.inr ⟨Nat.div_eq_of_lt hc,by rw[e];simp[bw];omega⟩,?_,rfl⟩;rw[e,show r+r+b+zd - m=(r+r+b - m)+zd by omega,Nat.add_mod_right,Nat.mod_eq_of_lt (by omega)]
 ·have e:(r+r)%zd=r+r - zd:=by rw[Nat.mod_eq_sub_mod (by omega),Nat.mod_eq_of_lt (by omega)]
  refine⟨.inl ?_,?_,rfl⟩
  ·rw[Nat.div_eq_iff (by unfold zd;omega)];omega
  ·rw[e,show r+r - zd+b+zd - m=r+r+b - m by omega,Nat.mod_eq_of_lt (by omega)]
theorem sV (r b m:Nat) (hr:r<m) (hm:m<zd) (hb:b≤1) (w:World) :
  Calls Tryz.prog 152 #[zj r,.int .u64 (b:Int),zj m] w fun e w' =>
   e=.returned (.tuple #[zj (fv r b m),.int .u64 (cd r b m:Nat)])∧Below w.heap.size w w':=by
 have hrB:r<zd:=by omega
 obtain⟨o0,o1,o2,o3,hlt⟩:=or_bit r b hrB hb;have hA:=fun w=>mP r r hrB hrB w;have hS:=fun w=>tQ ((r+r)%zd+b) m hlt hm w
 have hcase:((r+r) / zd=0∧bw ((r+r)%zd+b) m 0=1∧fv r b m=(r+r)%zd+b∧cd r b m=0) ∨
   ((r+r) / zd=1∧bw ((r+r)%zd+b) m 0=bw ((r+r)%zd+b) m 0∧fv r b m=((r+r)%zd+b+zd - m)%zd∧cd r b m=1) ∨
   ((r+r) / zd=0∧bw ((r+r)%zd+b) m 0=0∧fv r b m=((r+r)%zd+b+zd - m)%zd∧cd r b m=1):=by
  by_cases h:r+r+b<m
  ·exact .inl (abA hr hm hb h)
  ·obtain⟨e1|⟨e1,e1'⟩,e2,e3⟩:=bI hr hm hb (by omega)
   ·exact .inr (.inl ⟨e1,rfl,e2,e3⟩)
   ·exact .inr (.inr ⟨e1,e1',e2,e3⟩)
 generalize (r+r) / zd=c at *;generalize bw ((r+r)%zd+b) m 0=l at *;generalize ((r+r)%zd+b+zd - m)%zd=y at *;generalize (r+r)%zd+b=X1 at *;generalize (r+r)%zd=X at *
 rcases hcase with ⟨rfl,rfl,e3,e4⟩|⟨rfl,-,e3,e4⟩|⟨rfl,rfl,e3,e4⟩
 all_goals
  rw[e3,e4];clear e3 e4
  go_enter Tryz.func152,Tryz.ntmps152
  go_wp2_with (first|(go_at_call 157;refine (hA _).mono ?_;rintro e w1 ⟨rfl,hb1⟩;have hbw:Ext w w1:=((((Ext.rfl' w).alloc' _).alloc' _).alloc' _).trans' hb1;have g5:Blk w1 (w.heap.size+1) 24 (zc m):=((Blk.new' (by simp)).alloc _).below hb1 (by simp);have g6:Blk w1 (w.heap.size+1+1) 24 ti:=(Blk.new' (by simp)).below hb1 (by simp);have g6_l:=g6.lt;have g5_0:=g5.cell_at (i:=0) rfl;have g5_1:=g5.cell_at (i:=1) rfl;have g5_2:=g5.cell_at (i:=2) rfl;have g5_3:=g5.cell_at (i:=3) rfl;have g5_f:=g5.frozen;have g5_l:=g5.lt;have g5_m:=Nat.lt_succ_of_lt g5_l;have g5_n:=Nat.lt_succ_of_lt g5_m)|(go_at_call 39;refine (hS _).mono ?_;rintro e w2 ⟨rfl,hb2⟩;have hbw2:Ext w w2:=(hbw.alloc' _).trans' hb2;have g8:Blk w2 w1.heap.size 24 (zc X1):=(Blk.new w1 _ (zc X1)).below hb2 (by simp);have g8_0:=g8.cell_at (i:=0) rfl;have g8_1:=g8.cell_at (i:=1) rfl;have g8_2:=g8.cell_at (i:=2) rfl;have g8_3:=g8.cell_at (i:=3) rfl;have g8_f:=g8.frozen;have g8_l:=g8.lt;have g8_m:=Nat.lt_succ_of_lt g8_l;have g8_n:=Nat.lt_succ_of_lt g8_m;have g6' : Blk w2 (w.heap.size+1+1) 24 ti:=(g6.alloc _).below hb2 (by simp;omega);have g6'_0:=g6'.cell_at (i:=0) rfl;have g6'_1:=g6'.cell_at (i:=1) rfl;have g6'_2:=g6'.cell_at (i:=2) rfl;have g6'_3:=g6'.cell_at (i:=3) rfl;have g6'_f:=g6'.frozen;have g6'_l:=g6'.lt;have g6'_m:=Nat.lt_succ_of_lt g6'_l;have g6'_n:=Nat.lt_succ_of_lt g6'_m))
  have hsz:=hbw2.size;refine bodyPost_ret (v:=.tuple #[zj _,.int .u64 _]) ?_ rfl ⟨rfl,?_⟩
  ·simp[results,Tryz.results152,go_sem,g6'_0,g6'_1,g6'_2,g6'_3,g6'_l]
  ·((repeat' (with_reducible first|exact hbw2|refine Below.drew ?_|refine Below.drewN' ?_ _|refine Below.setCell ?_ ?_ _|refine Below.alloc ?_ ?_ _))<;>(first|omega|(simp;done)|(simp;omega)))
theorem wrapN (n:Nat):IntKind.u64.wrap (n:Int)=((n%18446744073709551616:Nat):Int):=by rw[IntKind.wrap_u64];omega
theorem jc {n:Nat} (h:n<18446744073709551616):IntKind.u64.wrap (n:Int)=(n:Int):=by rw[wrapN,Nat.mod_eq_of_lt h]
theorem divN (a b:Nat) (ha:a<18446744073709551616) (hb:0<b):IntKind.u64.wrap ((a:Int) / (b:Int))=(a:Int) / (b:Int):=by
 have:((a:Int) / (b:Int))=((a / b:Nat):Int):=by simp
 rw[this,jc (Nat.lt_of_le_of_lt (Nat.div_le_self _ _) ha)]
theorem adN (a b:Nat):IntKind.u64.wrap ((a:Int)*(b:Int))=((a*b%18446744073709551616:Nat):Int):=by rw[← wrapN];simp
theorem aak (a:Nat):IntKind.u64.wrap ((a:Int)*4294967296)=((a*4294967296%18446744073709551616:Nat):Int):=adN a 4294967296
theorem acm (a:Nat) (h:a<4294967296):IntKind.u64.wrap (4294967296*(a:Int))=((4294967296*a:Nat):Int):=by
 have:=adN 4294967296 a;rw[Nat.mod_eq_of_lt (by omega)] at this;exact this
theorem addW (a b:Nat):IntKind.u64.wrap ((a:Int)+(b:Int))=(((a+b)%18446744073709551616:Nat):Int):=by rw[← wrapN];simp
theorem afa {a b n:Nat} (hn:n<18446744073709551616) (h:(b+n)%18446744073709551616=a%18446744073709551616):IntKind.u64.wrap ((a:Int) - (b:Int))=(n:Int):=by
 rw[IntKind.wrap_u64];omega
theorem cL (z r u d:Nat) (h:z+r=u*4294967296+d):(z%18446744073709551616+r)%18446744073709551616=(u*4294967296%18446744073709551616+d)%18446744073709551616%18446744073709551616:=by omega
theorem aet {u d Y:Nat} (hu:u<Y) (hY:Y<18446744073709551616) :
  (((u*4294967296+d) / Y)*Y%18446744073709551616+(u*4294967296+d)%Y)%18446744073709551616=(u*4294967296%18446744073709551616+d)%18446744073709551616%18446744073709551616:=by
 have h:=Nat.div_add_mod (u*4294967296+d) Y;rw[Nat.mul_comm] at h;exact cL _ _ _ _ h
theorem afg (a b:Nat):(a:Int).tmod (b:Int)=(a:Int)%(b:Int):=Int.tmod_eq_emod_of_nonneg (by omega)
set_option maxRecDepth 100000 in
theorem qU (lo y:Nat) (h1:lo<18446744073709551616) (h2:y<18446744073709551616) (h0:0<y) (w:World) :
  Calls Tryz.prog 118 #[.int .u64 0,.int .u64 (lo:Int),.int .u64 (y:Int)] w fun e w'=>e=.returned (.tuple #[.int .u64 ((lo / y:Nat):Int),.int .u64 ((lo%y:Nat):Int)])∧Below w.heap.size w w':=by
 have hy1:((y:Int) == 0)=false:=by simp;omega
 have hy2:decide ((y:Int)≤0)=false:=by simp;omega
 have hy3:1≤(y:Int):=by omega
 go_enter Tryz.func118,Tryz.ntmps118
 go_wp2;refine Kp.wp_region_kpl 8 (by kernel_rfl) (by kernel_rfl) (fun L Fin hL hFin=>?_);have HL:=Lib.hid hL;clear hL;have HF:=Lib.hid hFin;clear hFin;simp only[List.take_succ_cons,List.take_zero,List.drop_succ_cons,List.drop_zero];apply Exists.intro
 repeat ((first|(apply Kp.kp_free;(first|rfl|(rw[HL.out];rfl));(intro w1;go_simp;rfl))|(apply Kp.kp_now;rfl;(first|rfl|(rw[HL.out];rfl));(intro w1 hb1;obtain⟨hcw,hfw⟩:=uA hb1;clear hb1;go_simp;rfl)));simp only[Act.put,List.setIfInBounds_toArray,List.set_cons_succ,List.set_cons_zero])
 apply Kp.kp_nil;refine HF.out _ _ (fun w1 hb1 _=>?_);clear HL HF;simp only[List.drop_succ_cons,List.drop_zero];go_wp2
 go_ret2
 refine⟨?_,hb1⟩;show Ending.returned (.tuple #[.int .u64 (IntKind.u64.wrap ((lo:Int) / (y:Int))),.int .u64 ((lo:Int).tmod (y:Int))])=_;rw[divN lo y h1 h0,afg lo y];simp
theorem afj (D E:Nat) (hD:D<4294967296) (hE:E<4294967296):∃ z1:Nat,IntKind.u64.wrap ((D:Int)*4294967296)=(z1:Int)∧IntKind.u64.wrap ((z1:Int)+(E:Int))=((D*4294967296+E:Nat):Int) :=
 ⟨D*4294967296,by rw[aak,Nat.mod_eq_of_lt (by omega)],by rw[addW,Nat.mod_eq_of_lt (by omega)]⟩
def afi (u d h l Y q0 p0 r0 D R x1 x2 x3:Nat):Prop :=
 IntKind.u64.wrap (q0:Int)=(q0:Int)∧(u:Int) / (h:Int)=(q0:Int)∧IntKind.u64.wrap ((q0:Int)*(h:Int))=(p0:Int)∧IntKind.u64.wrap ((u:Int) - (p0:Int))=(r0:Int) ∧
 r0<4294967296∧Dig u d h l q0 r0∧D<4294967296∧R<Y∧IntKind.u64.wrap ((u:Int)*4294967296)=(x1:Int)∧IntKind.u64.wrap ((x1:Int)+(d:Int))=(x2:Int) ∧
 IntKind.u64.wrap ((D:Int)*(Y:Int))=(x3:Int)∧IntKind.u64.wrap ((x2:Int) - (x3:Int))=(R:Int)∧D=(u*4294967296+d) / (h*4294967296+l)∧R=(u*4294967296+d)%(h*4294967296+l)
theorem pack (u d h l Y:Nat) (hYe:Y=h*4294967296+l) (hu:u<Y) (hY:Y<18446744073709551616) (hh1:2147483648≤h) (hh2:h<4294967296) (hl:l<4294967296) (hd2:d<4294967296) :
  ∃ q0 p0 r0 D R x1 x2 x3,afi u d h l Y q0 p0 r0 D R x1 x2 x3:=by
 have hu64:u<18446744073709551616:=by omega
 have hpos:0<h*4294967296+l:=by omega
 have P1:=divN u h hu64 (by omega);have P1' : (u:Int) / (h:Int)=((u / h:Nat):Int):=by simp
 rw[P1'] at P1;have P2:=adN (u / h) h;have hle1:u / h*h≤u:=Nat.div_mul_le_self u h;rw[Nat.mod_eq_of_lt (by omega)] at P2;have P3:IntKind.u64.wrap ((u:Int) - ((u / h*h:Nat):Int))=((u%h:Nat):Int):=afa (Nat.lt_of_le_of_lt (Nat.mod_le _ _) hu64) (by rw[Nat.mul_comm,Nat.div_add_mod]);have hr1:u%h<4294967296:=Nat.lt_of_lt_of_le (Nat.mod_lt _ (by omega)) (by omega);have hlt1:=Nat.mod_lt (u*4294967296+d) hpos;have P7:=afa (by omega) (aet (u:=u) (d:=d) (Y:=h*4294967296+l) (by omega) (by omega))
 exact⟨_,_,_,(u*4294967296+d) / (h*4294967296+l),(u*4294967296+d)%(h*4294967296+l),_,_,_,P1,P1',P2,P3,hr1,Dig.start hh1 hd2,
  bO (by omega) hd2,by rw[hYe];exact hlt1,aak u,addW _ d,adN _ Y,by rw[hYe];exact P7,rfl,rfl⟩
theorem testW {q l r d:Nat} (hq:q<4294967296) (hl:l<4294967296) (hr:r<4294967296) (hd:d<4294967296) :
  IntKind.u64.wrap ((q:Int)*(l:Int))=((q*l:Nat):Int)∧IntKind.u64.wrap (4294967296*(r:Int))=((4294967296*r:Nat):Int) ∧
  IntKind.u64.wrap (((4294967296*r:Nat):Int)+(d:Int))=((4294967296*r+d:Nat):Int):=by
 have h1:q*l≤4294967295*4294967295:=Nat.mul_le_mul (by omega) (by omega);refine⟨?_,acm r hr,?_⟩
 ·rw[adN,Nat.mod_eq_of_lt (by omega)]
 ·rw[addW,Nat.mod_eq_of_lt (by omega)]
set_option maxRecDepth 100000 in
theorem rR (hi lo y:Nat) (h1:lo<18446744073709551616) (h2:y<18446744073709551616) (h0:0<hi) (h3:hi<y) (w:World) :
  Calls Tryz.prog 118 #[.int .u64 (hi:Int),.int .u64 (lo:Int),.int .u64 (y:Int)] w fun e w' =>
   e=.returned (.tuple #[.int .u64 (((hi*18446744073709551616+lo) / y:Nat):Int),.int .u64 (((hi*18446744073709551616+lo)%y:Nat):Int)])∧Below w.heap.size w w':=by
 have hy1:((y:Int) == 0)=false:=by simp;omega
 have hy2:decide (y≤hi)=false:=by simp;omega
 have hy3:1≤(y:Int):=by omega
 have hh1:((hi:Int) == 0)=false:=by simp;omega
 have hbl:=bitLen_eq h2;have hb64:=y9 (k:=64) h2;obtain⟨_,k1,k2,k3⟩:=bs (by omega) h2;obtain⟨S,hS⟩ : ∃ S,S=64 - zF y:=⟨_,rfl⟩
 have hlz:∀ w,Calls Tryz.prog 147 #[.int .u64 (y:Int)] w fun e w'=>e=.returned (.int .i64 (S:Nat))∧w=w':=fun w =>
  (Tryz.bits_LeadingZeros64 _ w (by omega) (by omega)).mono fun e w' h=>⟨by rw[h.1,hS];congr 2;simp[hbl];omega,h.2.symm⟩
 rw[← hS] at k2 k3;have hS63:S<64:=by omega
 obtain⟨n1,n2⟩:=iw hS63 k3 h3 h1;have hor:=cm (hi:=hi) hS63 h1;have nd:=c9 (U:=hi*18446744073709551616+lo) (y:=y) (Nat.two_pow_pos S);have hA:hi*2 ^ S<18446744073709551616:=Nat.lt_of_le_of_lt (Nat.mul_le_mul_right _ (Nat.le_of_lt h3)) k3;have hL:lo / 2 ^ (64 - S)<18446744073709551616:=Nat.lt_of_le_of_lt (Nat.div_le_self _ _) h1;have E1:IntKind.u64.wrap ((y:Int)*2 ^ S)=((y*2 ^ S:Nat):Int):=by rw[← Nat.mod_eq_of_lt k3,← wrapN];simp
 have E4:IntKind.u64.wrap ((hi:Int)*2 ^ S)=((hi*2 ^ S:Nat):Int):=by rw[← Nat.mod_eq_of_lt hA,← wrapN];simp
 have E5:bits .or .u64 ((hi*2 ^ S:Nat):Int) ((lo:Int) / 2 ^ (64 - S))=((hi*2 ^ S+lo / 2 ^ (64 - S):Nat):Int):=by
  rw[← hor,← u64_or_nat _ _ hA hL];simp
 have E6:IntKind.u64.wrap ((lo:Int)*2 ^ S)=((lo*2 ^ S%18446744073709551616:Nat):Int):=by rw[← wrapN];simp
 rw[← nd.1,← nd.2,← n2];have HP:Hid (0<2 ^ S):=Nat.two_pow_pos S;have hV:lo*2 ^ S%18446744073709551616<18446744073709551616:=Nat.mod_lt _ (by omega);clear nd hor n2 hbl hb64 h3 hy3;generalize hi*2 ^ S+lo / 2 ^ (64 - S)=u at *;generalize lo*2 ^ S%18446744073709551616=V at *;generalize hi*2 ^ S=A at *;generalize y*2 ^ S=Y at *;have E3:bits .and .u64 (Y:Int) 4294967295=((Y%4294967296:Nat):Int):=by have:=u64_and_nat Y 4294967295 k3 (by omega);rw[nat_mask32] at this;exact this
 have E8:bits .and .u64 (V:Int) 4294967295=((V%4294967296:Nat):Int):=by have:=u64_and_nat V 4294967295 hV (by omega);rw[nat_mask32] at this;exact this
 obtain⟨h,hh⟩ : ∃ h,h=Y / 4294967296:=⟨_,rfl⟩;obtain⟨d1,hd1⟩ : ∃ h,h=V / 4294967296:=⟨_,rfl⟩;have E2:(Y:Int) / 4294967296=(h:Int):=by omega
 have E7:(V:Int) / 4294967296=(d1:Int):=by omega
 have hh1' : 2147483648≤h:=by omega
 have hh2:h<4294967296:=by omega
 have hd2:d1<4294967296:=by omega
 have hYe:Y=h*4294967296+Y%4294967296:=by omega
 have hVe:V=d1*4294967296+V%4294967296:=by omega
 have hl:Y%4294967296<4294967296:=by omega
 have hd0:V%4294967296<4294967296:=by omega
 generalize Y%4294967296=l at *;generalize V%4294967296=d0 at *;rw[hYe,hVe,← hYe];obtain⟨q0,p0,r0,D,R,x1,x2,x3,a1,a2,a3,a4,a5,a6,a7,a8,a9,a10,a11,a12,a13,a14⟩:=pack u d1 h l Y hYe n1 k3 hh1' hh2 hl hd2;obtain⟨q0',p0',r0',D',R',y1,y2,y3,b1,b2,b3,b4,b5,b6,b7,b8,b9,b10,b11,b12,b13,b14⟩:=pack R d0 h l Y hYe a8 k3 hh1' hh2 hl hd0;have two:=jP (u:=u) (d1:=d1) (d0:=d0) (Y:=Y) (by omega) rfl rfl;rw[← hYe] at a13 a14 b13 b14;rw[← a13,← a14,← b13,← b14] at two;rw[← two.1,← two.2];obtain⟨z1,c1,c2⟩:=afj D D' (by omega) (by omega);obtain⟨z2,hz2⟩ : ∃ z,z=D*4294967296+D':=⟨_,rfl⟩;rw[← hz2] at c2 ⊢;clear hz2;have HY:=Lib.hid hYe;have HDE1:Hid (D=(u*4294967296+d1) / (h*4294967296+l)):=by rw[← hYe];exact a13
 have HDE2:Hid (D'=(R*4294967296+d0) / (h*4294967296+l)):=by rw[← hYe];exact b13
 have hYlo:h*4294967296≤Y:=by omega
 have hYhi:Y≤h*4294967296+l:=by omega
 have HDIG1:=Lib.hid a6;have HDIG2:=Lib.hid b6;clear hYe hVe a13 a14 b13 b14 two a6 b6 hh hd1 hS k2;have HZ:=Lib.hid hlz;clear hlz
 go_enter Tryz.func118,Tryz.ntmps118
 go_upto_block 0 with (go_at_call 147;refine (HZ.out _).mono ?_;rintro e w1 ⟨rfl,rfl⟩)
 go_cut [15,16] (fun q r w'=>q=.int .u64 (D:Int)∧w'=w)
 case first =>
  have HDE:=HDE1;have HDIG:=HDIG1;clear HDE1 HDE2 HDIG1 HDIG2 b1 b2 b3 b4 b5 b7 b8 b9 b10 b11 b12 c1 c2;go_wp2
  go_loop [16,15] (fun r q=>∃ qn rn:Nat,q=.int .u64 (qn:Nat)∧r=.int .u64 (rn:Nat)∧Hid (Dig u d1 h l qn rn)∧rn<4294967296) (fun _ q=>(intOf q).toNat)
  case atStart=>exact⟨q0,r0,rfl,rfl,HDIG,by assumption⟩
  case round =>
   obtain⟨q,r,rfl,rfl,HQ,hr⟩:=hrel;have hle:=HQ.out.le (by omega) hh1';have hq33:=hle.1;clear hle;have down:(4294967296≤q∨4294967296*r+d1<q*l)→1≤q∧Hid (Dig u d1 h l (q - 1) (r+h)):=fun hc=>HQ.out.down (by omega) (by omega) hh1' hc
   by_cases cA:4294967296≤q
   ·obtain⟨g1,g2⟩:=down (.inl cA);clear down;have tA:decide ((4294967296:Int)≤(q:Int))=true:=by simp;omega
    by_cases cB:4294967296≤r+h
    ·have tB:decide ((4294967296:Int)≤(r:Int)+(h:Int))=true:=by simp;omega
     have fin:=g2.out.break_ cB (by omega) (by omega) hh1';have FIN:Hid (q - 1=D):=by rw[HDE.out];exact fin
     clear fin;go_wp2
     go_meet
     case rel=>exact⟨by rw[← FIN.out,Int.ofNat_sub g1];rfl,rfl⟩
    ·have tB:decide ((4294967296:Int)≤(r:Int)+(h:Int))=false:=by simp;omega
     go_wp2
     go_round
     case rel=>exact⟨q - 1,r+h,by rw[Int.ofNat_sub g1];rfl,by go_num,g2,by omega⟩
     case measure=>simp[intOf];omega
   ·have tA:decide ((4294967296:Int)≤(q:Int))=false:=by simp;omega
    obtain⟨w1,w2,w3⟩:=testW (q:=q) (l:=l) (r:=r) (d:=d1) (by omega) (by omega) hr (by omega);have stop:q*l≤4294967296*r+d1→Hid (q=D):=fun hc=>by rw[HDE.out];exact HQ.out.stop hc hh1'
    generalize 4294967296*r+d1=m2 at *;generalize 4294967296*r=m3 at *;generalize q*l=m1 at *
    by_cases cC:m2<m1
    ·have tC:decide (m2<m1)=true:=by simp;omega
     obtain⟨g1,g2⟩:=down (.inr cC);clear down stop
     by_cases cB:4294967296≤r+h
     ·have tB:decide ((4294967296:Int)≤(r:Int)+(h:Int))=true:=by simp;omega
      have fin:=g2.out.break_ cB (by omega) (by omega) hh1';have FIN:Hid (q - 1=D):=by rw[HDE.out];exact fin
      clear fin;go_wp2
      go_meet
      case rel=>exact⟨by rw[← FIN.out,Int.ofNat_sub g1];rfl,rfl⟩
     ·have tB:decide ((4294967296:Int)≤(r:Int)+(h:Int))=false:=by simp;omega
      go_wp2
      go_round
      case rel=>exact⟨q - 1,r+h,by rw[Int.ofNat_sub g1];rfl,by go_num,g2,by omega⟩
      case measure=>simp[intOf];omega
    ·have tC:decide (m2<m1)=false:=by simp;omega
     have FIN:=stop (by omega);clear down stop;go_wp2
     go_meet
     case rel=>exact⟨by rw[← FIN.out],rfl⟩
 case rest =>
  obtain⟨rfl,rfl⟩:=hcut;clear HDE1 HDIG1
  go_upto_block 2 with (fail)
  go_cut [16,18] (fun r q w'=>q=.int .u64 (D' : Int)∧w'=wc)
  case first =>
   have HDE:=HDE2;have HDIG:=HDIG2;clear HDE2 HDIG2;go_wp2
   go_loop [16,18] (fun r q=>∃ qn rn:Nat,q=.int .u64 (qn:Nat)∧r=.int .u64 (rn:Nat)∧Hid (Dig R d0 h l qn rn)∧rn<4294967296) (fun _ q=>(intOf q).toNat)
   case atStart=>exact⟨q0',r0',rfl,rfl,HDIG,by assumption⟩
   case round =>
    obtain⟨q,r,rfl,rfl,HQ,hr⟩:=hrel;have hle:=HQ.out.le (by omega) hh1';have hq33:=hle.1;clear hle;have down:(4294967296≤q∨4294967296*r+d0<q*l)→1≤q∧Hid (Dig R d0 h l (q - 1) (r+h)):=fun hc=>HQ.out.down (by omega) (by omega) hh1' hc
    by_cases cA:4294967296≤q
    ·obtain⟨g1,g2⟩:=down (.inl cA);clear down;have tA:decide ((4294967296:Int)≤(q:Int))=true:=by simp;omega
     by_cases cB:4294967296≤r+h
     ·have tB:decide ((4294967296:Int)≤(r:Int)+(h:Int))=true:=by simp;omega
      have fin:=g2.out.break_ cB (by omega) (by omega) hh1';have FIN:Hid (q - 1=D'):=by rw[HDE.out];exact fin
      clear fin;go_wp2
      go_meet
      case rel=>exact⟨by rw[← FIN.out,Int.ofNat_sub g1];rfl,rfl⟩
     ·have tB:decide ((4294967296:Int)≤(r:Int)+(h:Int))=false:=by simp;omega
      go_wp2
      go_round
      case rel=>exact⟨q - 1,r+h,by rw[Int.ofNat_sub g1];rfl,by go_num,g2,by omega⟩
      case measure=>simp[intOf];omega
    ·have tA:decide ((4294967296:Int)≤(q:Int))=false:=by simp;omega
     obtain⟨w1,w2,w3⟩:=testW (q:=q) (l:=l) (r:=r) (d:=d0) (by omega) (by omega) hr (by omega);have stop:q*l≤4294967296*r+d0→Hid (q=D'):=fun hc=>by rw[HDE.out];exact HQ.out.stop hc hh1'
     generalize 4294967296*r+d0=m2 at *;generalize 4294967296*r=m3 at *;generalize q*l=m1 at *
     by_cases cC:m2<m1
     ·have tC:decide (m2<m1)=true:=by simp;omega
      obtain⟨g1,g2⟩:=down (.inr cC);clear down stop
      by_cases cB:4294967296≤r+h
      ·have tB:decide ((4294967296:Int)≤(r:Int)+(h:Int))=true:=by simp;omega
       have fin:=g2.out.break_ cB (by omega) (by omega) hh1';have FIN:Hid (q - 1=D'):=by rw[HDE.out];exact fin
       clear fin;go_wp2
       go_meet
       case rel=>exact⟨by rw[← FIN.out,Int.ofNat_sub g1];rfl,rfl⟩
      ·have tB:decide ((4294967296:Int)≤(r:Int)+(h:Int))=false:=by simp;omega
       go_wp2
       go_round
       case rel=>exact⟨q - 1,r+h,by rw[Int.ofNat_sub g1];rfl,by go_num,g2,by omega⟩
       case measure=>simp[intOf];omega
     ·have tC:decide (m2<m1)=false:=by simp;omega
      have FIN:=stop (by omega);clear down stop;go_wp2
      go_meet
      case rel=>exact⟨by rw[← FIN.out],rfl⟩
  case rest =>
   obtain⟨rfl,rfl⟩:=hcut;go_wp2
   go_ret2
   exact⟨by simp,Below.refl _ _⟩
def aam (l:List Nat):List Value:=l.map fun n=>.int .u64 ((n:Nat):Int)
theorem oL {l:List Nat} {j:Nat} (h:j<l.length):(aam l)[j]?=some (.int .u64 ((l.getD j 0:Nat):Int)):=by
 unfold aam;rw[List.getElem?_map,List.getD_eq_getElem?_getD,List.getElem?_eq_getElem h];rfl
theorem jD (l:List Nat) (j v:Nat):(aam l).set j (.int .u64 ((v:Nat):Int))=aam (l.set j v):=by
 unfold aam;rw[← List.map_set]
theorem qS (a:Nat) (w:World):(Instr.index 24 (zj a) (.int .i64 0)).run Tryz.prog w=.ok (.int .u64 ((wd 0 a:Nat):Int)) w:=by kernel_rfl
theorem qE (a:Nat) (w:World):(Instr.index 24 (zj a) (.int .i64 1)).run Tryz.prog w=.ok (.int .u64 ((wd 1 a:Nat):Int)) w:=by kernel_rfl
theorem qM (a:Nat) (w:World):(Instr.index 24 (zj a) (.int .i64 2)).run Tryz.prog w=.ok (.int .u64 ((wd 2 a:Nat):Int)) w:=by kernel_rfl
theorem qH (a:Nat) (w:World):(Instr.index 24 (zj a) (.int .i64 3)).run Tryz.prog w=.ok (.int .u64 ((wd 3 a:Nat):Int)) w:=by kernel_rfl
theorem tH (a:Nat) {i:Nat} (h:i<4) (w:World):(Instr.index 24 (zj a) (.int .i64 (i:Int))).run Tryz.prog w=.ok (.int .u64 ((wd i a:Nat):Int)) w:=by
 have:i=0∨i=1∨i=2∨i=3:=by omega
 rcases this with rfl|rfl|rfl|rfl
 ·exact qS a w
 ·exact qE a w
 ·exact qM a w
 ·exact qH a w
theorem run_arrayAt (g o c:Nat) (w:World):(Instr.arrayAt 24 (.slice (some ⟨g,o,none⟩) 4 c)).run Tryz.prog w=.ok (.pointer (some ⟨g,o,none⟩)) w:=by
 simp[Instr.arrayAt,go_sem,Tryz.underlying24]
set_option maxRecDepth 100000 in
theorem fX (a b:Nat) (ha:a<zd) (hb:b<zd) (w:World) :
  Calls Tryz.prog 119 #[zj a,zj b] w fun e w'=>e=.returned (.tuple #[zj (a*b%zd),zj (a*b / zd)])∧Below w.heap.size w w':=by
 go_enter Tryz.func119,Tryz.ntmps119
 go_wp2;generalize hW:((((w.alloc _).alloc _).alloc _).alloc _).alloc _=W;have g6:Blk W (w.heap.size+1+1+1+1) 231 (aam (List.replicate 8 0)):=by subst hW;exact Blk.new' (by simp)
 have g3:Blk W (w.heap.size+1) 24 (zc b):=by subst hW;exact (((Blk.new' (by simp)).alloc _).alloc _).alloc _
 have g4:∃ cs,Blk W (w.heap.size+1+1) 24 cs∧cs.length=4:=by subst hW;exact⟨_,((Blk.new' (by simp)).alloc _).alloc _,rfl⟩
 have g5:∃ cs,Blk W (w.heap.size+1+1+1) 24 cs∧cs.length=4:=by subst hW;exact⟨_,(Blk.new' (by simp)).alloc _,rfl⟩
 have hbw:Below w.heap.size w W:=by subst hW;exact (((((Ext.rfl' w).alloc' _).alloc' _).alloc' _).alloc' _).alloc' _
 clear hW
 go_loopw [13] (fun i wr=>∃ (n:Nat) (l:List Nat),n≤4∧i=.int .i64 n∧uy a b n 0 0 l∧Blk wr (w.heap.size+1+1+1+1) 231 (aam l)∧Blk wr (w.heap.size+1) 24 (zc b) ∧
   (∃ cs,Blk wr (w.heap.size+1+1) 24 cs∧cs.length=4)∧(∃ cs,Blk wr (w.heap.size+1+1+1) 24 cs∧cs.length=4)∧Below w.heap.size w wr) (fun i _=>4 - (intOf i).toNat)
 case atStart=>exact⟨0,_,by omega,rfl,uy.start a b,g6,g3,g4,g5,hbw⟩
 case round =>
  clear g6 g3 g4 g5 hbw;obtain⟨n,l,hn,rfl,hI,g6,g3,g4,g5,hbw⟩:=hrel;have HI:=Lib.hid hI;clear hI;have G4:=Lib.hid g4;have G5:=Lib.hid g5;clear g4 g5
  by_cases hlt:n<4
  ·have hix:=tH a hlt;have hdec:decide ((n:Int)<4)=true:=by simp;omega
   have d0:=g3.cell_at (i:=0) rfl;have d1:=g3.cell_at (i:=1) rfl;have d2:=g3.cell_at (i:=2) rfl;have d3:=g3.cell_at (i:=3) rfl;obtain⟨wo,rfl⟩ : ∃ wo:World,wo=wr:=⟨_,rfl⟩;go_wp2
   go_loopw [9,18] (fun m i wr=>∃ (k mm:Nat) (l2:List Nat),k≤4∧i=.int .i64 k∧m=.int .u64 (mm:Nat)∧uy a b n k mm l2∧Blk wr (w.heap.size+1+1+1+1) 231 (aam l2)∧Blk wr (w.heap.size+1) 24 (zc b) ∧
    (∃ cs,Blk wr (w.heap.size+1+1) 24 cs∧cs.length=4)∧(∃ cs,Blk wr (w.heap.size+1+1+1) 24 cs∧cs.length=4)∧Below w.heap.size w wr) (fun _ i _=>4 - (intOf i).toNat)
   case atStart=>exact⟨0,0,l,by omega,rfl,rfl,HI.out,g6,g3,G4.out,G5.out,hbw⟩
   case round =>
    clear d0 d1 d2 d3 g6 g3 G4 G5 hbw HI hix hdec;obtain⟨k,mm,l2,hk,rfl,rfl,hI,g6,g3,g4,g5,hbw⟩:=hrel;have hmm:mm≤18446744073709551615:=by have:=hI.2.2.1;omega
    have hlen:=hI.1
    by_cases hkt:k<4
    ·have hix:=tH b hkt;have hdec:decide ((k:Int)<4)=true:=by simp;omega
     have hstep:=hI.step hlt hkt;have hc:=g6.cell_at (oL (l:=l2) (j:=n+k) (by omega));have hf:=g6.frozen (n+k);have hlx:l2.getD (n+k) 0<18446744073709551616:=by
      rw[List.getD_eq_getElem?_getD,List.getElem?_eq_getElem (by omega),Option.getD_some];exact hI.2.1 _ (List.getElem_mem _)
     have hct:=mW (wd n a) (wd k b) (l2.getD (n+k) 0) mm (yh n a) (yh k b) hlx (by omega);generalize hX:l2.getD (n+k) 0=X at *;have HX:=Lib.hid hX;clear hX;generalize hR:(wd n a*wd k b+X+mm)%18446744073709551616=R at *;generalize hH:(wd n a*wd k b+X+mm) / 18446744073709551616=H at *;have HI:=Lib.hid hI;have HS:=Lib.hid hstep;have HL:=Lib.hid hlen;have G4:=Lib.hid g4;have G5:=Lib.hid g5;have HC:=Lib.hid hct;clear hI hstep hlen g4 g5 hct hR hH
     go_wp2_with (go_at_call 148;refine (HC.out _).mono ?_;rintro e w1 ⟨rfl,rfl⟩)
     go_roundw
     case rel =>
      refine⟨k+1,H,l2.set (n+k) R,by omega,by go_num,rfl,HS.out,?_,g3.far (by simp) _,?_,?_,hbw.setCell (by simp;omega) _⟩
      ·have:=g6.set_ (n+k) (.int .u64 ((R:Nat):Int));rw[jD] at this;exact this
      ·obtain⟨cs,h1,h2⟩:=G4.out;exact⟨cs,h1.far (by simp) _,h2⟩
      ·obtain⟨cs,h1,h2⟩:=G5.out;exact⟨cs,h1.far (by simp) _,h2⟩
     case measure=>simp[intOf];omega
    ·obtain rfl:k=4:=by omega
     have hc:=g6.cell_at (oL (l:=l2) (j:=n+4) (by omega));have hf:=g6.frozen (n+4);have hnx:=hI.next hb hlt
     have HS:=Lib.hid hnx;have G4:=Lib.hid g4;have G5:=Lib.hid g5;clear hI hlen g4 g5 hnx;go_wp2
     go_roundw
     case rel =>
      refine⟨n+1,l2.set (n+4) mm,by omega,by go_num,HS.out,?_,g3.far (by simp) _,?_,?_,hbw.setCell (by simp;omega) _⟩
      ·have:=g6.set_ (n+4) (.int .u64 ((mm:Nat):Int));rw[jD] at this;exact this
      ·obtain⟨cs,h1,h2⟩:=G4.out;exact⟨cs,h1.far (by simp) _,h2⟩
      ·obtain⟨cs,h1,h2⟩:=G5.out;exact⟨cs,h1.far (by simp) _,h2⟩
     case measure=>simp[intOf];omega
  ·obtain rfl:n=4:=by omega
   have hI:=HI.out;have hend:=abo hI ha;have hlen:=hI.1;have hbl:∀ j,j<8→l.getD j 0<18446744073709551616:=fun j hj=>by
    rw[List.getD_eq_getElem?_getD,List.getElem?_eq_getElem (by omega),Option.getD_some];exact hI.2.1 _ (List.getElem_mem _)
   have q:=fun j (hj:j<8)=>g6.cell_at (oL (l:=l) (j:=j) (by omega));have e1:=so (hbl 0 (by omega)) (hbl 1 (by omega)) (hbl 2 (by omega)) (hbl 3 (by omega));have e2:=so (hbl 4 (by omega)) (hbl 5 (by omega)) (hbl 6 (by omega)) (hbl 7 (by omega));rw[hend.1] at e1;rw[hend.2] at e2;have c0:=q 0 (by omega);have c1:=q 1 (by omega);have c2:=q 2 (by omega);have c3:=q 3 (by omega);have c4:=q 4 (by omega);have c5:=q 5 (by omega);have c6:=q 6 (by omega);have c7:=q 7 (by omega);have E1:=Lib.hid e1;have E2:=Lib.hid e2;obtain⟨cs4,k4,l4⟩:=G4.out;obtain⟨cs5,k5,l5⟩:=G5.out
   match cs4,l4,cs5,l5 with
   | [p0,p1,p2,p3],_,[r0,r1,r2,r3],_ =>
   have a0:=k4.cell_at (i:=0) rfl;have a1:=k4.cell_at (i:=1) rfl;have a2:=k4.cell_at (i:=2) rfl;have a3:=k4.cell_at (i:=3) rfl;have b0:=k5.cell_at (i:=0) rfl;have b1:=k5.cell_at (i:=1) rfl;have b2:=k5.cell_at (i:=2) rfl;have b3:=k5.cell_at (i:=3) rfl;have ff4:=k4.frozen;have ff5:=k5.frozen;clear hend hlen hbl q e1 e2 G4 G5 HI hI;generalize l.getD 0 0=x0 at *;generalize l.getD 1 0=x1 at *;generalize l.getD 2 0=x2 at *;generalize l.getD 3 0=x3 at *;generalize l.getD 4 0=x4 at *;generalize l.getD 5 0=x5 at *;generalize l.getD 6 0=x6 at *;generalize l.getD 7 0=x7 at *;have hat1:=fun w'=>run_arrayAt (w.heap.size+1+1+1+1) 0 8 w';have hat2:=fun w'=>run_arrayAt (w.heap.size+1+1+1+1) 4 4 w';go_wp2;go_region;go_wp2;refine bodyPost_ret (v:=.tuple #[zj (a*b%zd),zj (a*b / zd)]) ?_ rfl ⟨rfl,?_⟩
   ·rw[← E1.out,← E2.out];simp[results,Tryz.results119,go_sem,a0,a1,a2,a3,b0,b1,b2,b3]
   ·((repeat' (with_reducible first|exact hbw|refine Below.drew ?_|refine Below.drewN' ?_ _|refine Below.setCell ?_ ?_ _|refine Below.alloc ?_ ?_ _))<;>(first|omega|(simp;done)|(simp;omega)))
end
end Go.Proofs.YteibfbjpkjkejaaGreatDoor
