/- Part 10 of the proof. -/
import Derived.Test.YtiiefkchpicncaaGreatDoorB03
import Derived.Test.YtiiefkchpicncaaGreatDoorB09
import Derived.Laws.BitsAllLaws
import Derived.Deep.DeepCutAuto
import Derived.Deep.CutBlock
import Derived.Deep.LoopGhost
import Derived.WalkMore
set_option linter.unusedSimpArgs false
set_option linter.unusedVariables false
set_option maxHeartbeats 8000000
namespace Go.Proofs.YtiiefkchpicncaaGreatDoor
section
open Go.RowKit
theorem bv {a k:Nat} (hx:wd k a=0) (hz:∀ j,k<j→j<4→wd j a=0) (j:Nat) (h1:k≤j) (h2:j<4):wd j a=0:=by
 rcases Nat.lt_or_eq_of_le h1 with h|h
 ·exact hz j h h2
 ·subst h;exact hx
theorem te (a:Nat) (ha:a<zd) (w:World) :
  Calls Tryz.prog 106 #[zk a] w fun e w'=>e=.returned (.int .i64 (zK a:Nat))∧Below w.heap.size w w':=by
 go_enter Tryz.func106,Tryz.ntmps106
 go_wp2;generalize hW:w.alloc _=W;have hg0:Blk W w.heap.size 24 (zc a):=by subst hW;exact Blk.new _ _ _
 have hb:Below w.heap.size w W:=by subst hW;exact (Ext.rfl' w).alloc' _
 clear hW
 go_loop [3] (fun i=>(i=.int .i64 (-1)∧∀ j,j<4→wd j a=0)∨∃ k:Nat,k<4∧i=.int .i64 k∧∀ j,k<j→j<4→wd j a=0) (fun i=>(intOf i+1).toNat)
 case atStart=>exact .inr ⟨3,by omega,rfl,fun j h1 h2=>by omega⟩
 case round =>
  rcases hrel with ⟨rfl,hz⟩|⟨k,hk,rfl,hz⟩
  ·have hres:=ai ha hz;subst hres;clear hz;go_wp2
   go_ret
   exact⟨by simp[zK],hb⟩
  ·have c0:=hg0.cell_at (vj a hk)
   by_cases hx:wd k a=0
   ·have Hz:=Lib.hid hz;clear hz;go_wp2
    go_round
    case rel =>
     by_cases h0:k=0
     ·subst h0;exact .inl ⟨rfl,fun j hj=>bv hx Hz.out j Om hj⟩
     ·exact .inr ⟨k - 1,by omega,by rw[show ((k - 1:Nat):Int)=(k:Int) - 1 by omega],fun j h1 h2=>bv hx Hz.out j Om h2⟩
    case measure=>first|(simp[intOf];done)|(simp[intOf];omega)
   ·have hres:=fI ha hk hz hx;have Hr:=Lib.hid hres;clear hres hz;have hpos:0<wd k a:=by omega
    have hle:=agF k a;have hlb:=vm (k:=64) (yj k a);have hbl:=bitLen_eq (yj k a)
    go_wp2_with (go_at_call 151;refine (Tryz.bits_Len64 _ _ Om Om).mono ?_;rintro e w1 ⟨rfl,rfl⟩)
    go_ret
    refine⟨?_,hb⟩;rw[Hr.out];exact congrArg (fun z:Int=>Ending.returned (.int .i64 z)) (by simp)
theorem and_one (n:Nat) (h:n<18446744073709551616):bits .and .u64 (n:Int) 1=((n%2:Nat):Int):=by
 have:=u64_and_nat n 1 h Om;rw[nat_mask1] at this;exact this
theorem qk (a:Nat) (i:Int) (ha:a<zd) (hi0:0≤i) (hi1:i≤1000000) (w:World) :
  Calls Tryz.prog 152 #[zk a,.int .i64 i] w fun e w'=>e=.returned (.int .u64 (uE a i.toNat:Nat))∧Below w.heap.size w w':=by
 obtain⟨n,rfl⟩:=Int.eq_ofNat_of_zero_le hi0;rw[Int.toNat_natCast]
 by_cases h:n<256
 ·have hq:n / 64<4:=by omega
  have hb:=iY ha (n / 64) (n%64) hq (Nat.mod_lt _ Om);rw[show 64*(n / 64)+n%64=n by omega] at hb;have hw:=yj (n / 64) a;have hw2:wd (n / 64) a / 2 ^ (n%64)<18446744073709551616:=Nat.lt_of_le_of_lt (Nat.div_le_self _ _) hw;have ho:=and_one _ hw2;have Hb:=Lib.hid hb;clear hb;have c0:=(Blk.new w 24 (zc a)).cell_at (vj a hq);have hd1:decide ((n:Int)<0)=false:=by simp
  have hd2:decide (256≤(n:Int))=false:=by simp;omega
  go_enter Tryz.func152,Tryz.ntmps152
  go_wp2
  go_ret
  refine⟨congrArg (fun z:Int=>Ending.returned (.int .u64 z)) ?_,(Ext.rfl' w).alloc' _⟩;show bits .and .u64 ((wd (n / 64) a:Nat) / 2 ^ (n%64):Int) 1=_;rw[show ((wd (n / 64) a:Nat) / 2 ^ (n%64):Int)=((wd (n / 64) a / 2 ^ (n%64):Nat):Int) by simp,ho,Hb.out]
 ·have hb:=bh ha (i:=n) Om;have hd1:decide ((n:Int)<0)=false:=by simp
  have hd2:decide (256≤(n:Int))=true:=by simp;omega
  go_enter Tryz.func152,Tryz.ntmps152
  go_wp2
  go_ret
  exact⟨by simp[hb],(Ext.rfl' w).alloc' _⟩
theorem kC (a b c d:Nat) (ha:a<18446744073709551616) (hb:b<18446744073709551616) (hc:c<18446744073709551616) (hd:d<18446744073709551616) :
  a*b / 18446744073709551616≤18446744073709551614∧a*b%18446744073709551616<18446744073709551616 ∧
  (a*b%18446744073709551616+c) / 18446744073709551616≤1∧((a*b%18446744073709551616+c)%18446744073709551616+d) / 18446744073709551616≤1 ∧
  a*b / 18446744073709551616+(a*b%18446744073709551616+c) / 18446744073709551616+((a*b%18446744073709551616+c)%18446744073709551616+d) / 18446744073709551616≤18446744073709551615 ∧
  (a*b+c+d)%18446744073709551616=((a*b%18446744073709551616+c)%18446744073709551616+d)%18446744073709551616 ∧
  (a*b+c+d) / 18446744073709551616=a*b / 18446744073709551616+(a*b%18446744073709551616+c) / 18446744073709551616+((a*b%18446744073709551616+c)%18446744073709551616+d) / 18446744073709551616:=by
 have hm:a*b≤18446744073709551615*18446744073709551615:=Nat.mul_le_mul Om Om;generalize a*b=p at *;omega
theorem jB (a b c d:Nat) (ha:a<18446744073709551616) (hb:b<18446744073709551616) (hc:c<18446744073709551616) (hd:d<18446744073709551616) (w:World) :
  Calls Tryz.prog 194 #[.int .u64 (a:Int),.int .u64 (b:Int),.int .u64 (c:Int),.int .u64 (d:Int)] w fun e w' =>
   e=.returned (.tuple #[.int .u64 (((a*b+c+d)%18446744073709551616:Nat):Int),.int .u64 (((a*b+c+d) / 18446744073709551616:Nat):Int)])∧w=w':=by
 have hA0:∀ (x y:Nat) (w:World),(callFunc 228 #[.int .u64 x,.int .u64 y,.int .u64 0]).run Tryz.prog w =
   .ok (.value (.tuple #[.int .u64 (((x+y)%18446744073709551616:Nat):Int),.int .u64 (((x+y) / 18446744073709551616:Nat):Int)])) w:=fun x y w=>kf x y 0 Om w
 have hM:=Tryz.bits_Mul64 a b ha hb;obtain⟨h1,h2,h3,h4,h5,e1,e2⟩:=kC a b c d ha hb hc hd;rw[e1,e2];clear e1 e2;generalize a*b / 18446744073709551616=H at *;generalize a*b%18446744073709551616=L at *;have A1:=hA0 L c;generalize (L+c)%18446744073709551616=S1 at *;generalize (L+c) / 18446744073709551616=C1 at *;have A2:=hA0 S1 d;generalize (S1+d)%18446744073709551616=S2 at *;generalize (S1+d) / 18446744073709551616=C2 at *;clear hA0;have HM:=Lib.hid hM;clear hM
 go_enter Tryz.func194,Tryz.ntmps194
 go_wp2_with (go_at_call 153;refine (HM.out _).mono ?_;rintro e w1 ⟨rfl,rfl⟩)
 go_ret2
 exact⟨by simp,rfl⟩
def uS (a:Nat):Bool:=decide (a<18446744073709551616)
theorem em (a:Nat):decide (((zK a:Nat):Int)≤64)=uS a:=by
 unfold uS;have:=yW (x:=a) (k:=64);rw[show (2:Nat) ^ 64=18446744073709551616 by decide] at this
 by_cases h:a<18446744073709551616<;>simp[h]<;>omega
theorem vB (a:Nat) (ha:a<zd) (w:World) :
  Calls Tryz.prog 195 #[zk a] w fun e w'=>e=.returned (.bool (uS a))∧Below w.heap.size w w':=by
 have hs:=em a
 go_enter Tryz.func195,Tryz.ntmps195
 go_wp2_with (go_at_call 106;refine (te a ha _).mono ?_;rintro e w1 ⟨rfl,hb1⟩)
 go_ret
 exact⟨by simp,((Ext.rfl' w).alloc' _).trans' hb1⟩
abbrev tz:List Value:=[.int .u64 0,.int .u64 0,.int .u64 0,.int .u64 0]
theorem or_bit (r b:Nat) (hr:r<zd) (hb:b≤1) :
  bits .or .u64 ((wd 0 ((r+r)%zd):Nat):Int) (b:Int)=((wd 0 ((r+r)%zd+b):Nat):Int) ∧
  wd 1 ((r+r)%zd)=wd 1 ((r+r)%zd+b)∧wd 2 ((r+r)%zd)=wd 2 ((r+r)%zd+b)∧wd 3 ((r+r)%zd)=wd 3 ((r+r)%zd+b)∧(r+r)%zd+b<zd:=by
 have hev:∃ k,(r+r)%zd=2*k∧2*k+b<zd:=by
  refine⟨r%57896044618658097711785492504343953926634992332820282019728792003956564819968,?_,?_⟩
  ·rw[← Nat.two_mul,show zd=2*57896044618658097711785492504343953926634992332820282019728792003956564819968 by decide,Nat.mul_mod_mul_left]
  ·have:=Nat.mod_lt r (show 0<57896044618658097711785492504343953926634992332820282019728792003956564819968 by omega);have h:2*(r%57896044618658097711785492504343953926634992332820282019728792003956564819968)+b<115792089237316195423570985008687907853269984665640564039457584007913129639936:=by omega
   exact h
 obtain⟨k,hk,hlt⟩:=hev;rw[hk];have hev2:∃ j,wd 0 (2*k)=2*j∧wd 0 (2*k+b)=2*j+b:=⟨wd 0 (2*k) / 2,by simp only[wd];omega,by simp only[wd];omega⟩;obtain⟨j,hj,hj2⟩:=hev2;have hjl:=yj 0 (2*k);refine⟨?_,?_,?_,?_,hlt⟩
 ·rw[u64_or_nat _ _ (yj _ _) Om,hj,hj2];have:=Nat.two_pow_add_eq_or_of_lt (i:=1) (b:=b) Om j;rw[← this]
 all_goals (simp only[wd];omega)
def aH (r b m:Nat):Nat:=(r+r+b)%m
def aax (r b m:Nat):Nat:=(r+r+b) / m
theorem aeA {r b m:Nat} (hr:r<m) (hm:m<zd) (hb:b≤1) (h:r+r+b<m) :
  (r+r) / zd=0∧bw ((r+r)%zd+b) m 0=1∧aH r b m=(r+r)%zd+b∧aax r b m=0:=by
 have e:(r+r)%zd=r+r:=Nat.mod_eq_of_lt Om;refine⟨Nat.div_eq_of_lt Om,?_,?_,Nat.div_eq_of_lt h⟩
 ·rw[e];simp[bw];omega
 ·rw[e];exact Nat.mod_eq_of_lt h
theorem acf {r b m:Nat} (hr:r<m) (hm:m<zd) (hb:b≤1) (h:m≤r+r+b) :
  ((r+r) / zd=1∨((r+r) / zd=0∧bw ((r+r)%zd+b) m 0=0))∧aH r b m=((r+r)%zd+b+zd - m)%zd∧aax r b m=1:=by
 have hq:aax r b m=1:=by
  unfold aax;rw[Nat.div_eq_iff Om];omega
 have hrm:aH r b m=r+r+b - m:=by
  unfold aH;rw[Nat.mod_eq_sub_mod h,Nat.mod_eq_of_lt Om]
 rw[hrm,hq]
 by_cases hc:r+r<zd
 ·have e:(r+r)%zd=r+r:=Nat.mod_eq_of_lt hc;refine⟨.inr ⟨Nat.div_eq_of_lt hc,by rw[e];simp[bw];omega⟩,?_,rfl⟩;rw[e,show r+r+b+zd - m=(r+r+b - m)+zd by omega,Nat.add_mod_right,Nat.mod_eq_of_lt Om]
 ·have e:(r+r)%zd=r+r - zd:=by rw[Nat.mod_eq_sub_mod Om,Nat.mod_eq_of_lt Om]
  refine⟨.inl ?_,?_,rfl⟩
  ·rw[Nat.div_eq_iff (by unfold zd;omega)];omega
  ·rw[e,show r+r - zd+b+zd - m=r+r+b - m by omega,Nat.mod_eq_of_lt Om]
theorem sW (r b m:Nat) (hr:r<m) (hm:m<zd) (hb:b≤1) (w:World) :
  Calls Tryz.prog 198 #[zk r,.int .u64 (b:Int),zk m] w fun e w' =>
   e=.returned (.tuple #[zk (aH r b m),.int .u64 (aax r b m:Nat)])∧Below w.heap.size w w':=by
 have hrB:r<zd:=by omega
 obtain⟨o0,o1,o2,o3,hlt⟩:=or_bit r b hrB hb;have hA:=fun w=>lL r r hrB hrB w;have hS:=fun w=>tX ((r+r)%zd+b) m hlt hm w
 have hcase:((r+r) / zd=0∧bw ((r+r)%zd+b) m 0=1∧aH r b m=(r+r)%zd+b∧aax r b m=0) ∨
   ((r+r) / zd=1∧bw ((r+r)%zd+b) m 0=bw ((r+r)%zd+b) m 0∧aH r b m=((r+r)%zd+b+zd - m)%zd∧aax r b m=1) ∨
   ((r+r) / zd=0∧bw ((r+r)%zd+b) m 0=0∧aH r b m=((r+r)%zd+b+zd - m)%zd∧aax r b m=1):=by
  by_cases h:r+r+b<m
  ·exact .inl (aeA hr hm hb h)
  ·obtain⟨e1|⟨e1,e1'⟩,e2,e3⟩:=acf hr hm hb Om
   ·exact .inr (.inl ⟨e1,rfl,e2,e3⟩)
   ·exact .inr (.inr ⟨e1,e1',e2,e3⟩)
 generalize (r+r) / zd=c at *;generalize bw ((r+r)%zd+b) m 0=l at *;generalize ((r+r)%zd+b+zd - m)%zd=y at *;generalize (r+r)%zd+b=X1 at *;generalize (r+r)%zd=X at *
 rcases hcase with ⟨rfl,rfl,e3,e4⟩|⟨rfl,-,e3,e4⟩|⟨rfl,rfl,e3,e4⟩
 all_goals
  rw[e3,e4];clear e3 e4
  go_enter Tryz.func198,Tryz.ntmps198
  go_wp2_with (first|(go_at_call 203;refine (hA _).mono ?_;rintro e w1 ⟨rfl,hb1⟩;have hbw:Ext w w1:=((((Ext.rfl' w).alloc' _).alloc' _).alloc' _).trans' hb1;have g5:Blk w1 (w.heap.size+1) 24 (zc m):=((Blk.new' (by simp)).alloc _).below hb1 (by simp);have g6:Blk w1 (w.heap.size+1+1) 24 tz:=(Blk.new' (by simp)).below hb1 (by simp);have g6_l:=g6.lt;have g5_0:=g5.cell_at (i:=0) rfl;have g5_1:=g5.cell_at (i:=1) rfl;have g5_2:=g5.cell_at (i:=2) rfl;have g5_3:=g5.cell_at (i:=3) rfl;have g5_f:=g5.frozen;have g5_l:=g5.lt;have g5_m:=Nat.lt_succ_of_lt g5_l;have g5_n:=Nat.lt_succ_of_lt g5_m)|(go_at_call 54;refine (hS _).mono ?_;rintro e w2 ⟨rfl,hb2⟩;have hbw2:Ext w w2:=(hbw.alloc' _).trans' hb2;have g8:Blk w2 w1.heap.size 24 (zc X1):=(Blk.new w1 _ (zc X1)).below hb2 (by simp);have g8_0:=g8.cell_at (i:=0) rfl;have g8_1:=g8.cell_at (i:=1) rfl;have g8_2:=g8.cell_at (i:=2) rfl;have g8_3:=g8.cell_at (i:=3) rfl;have g8_f:=g8.frozen;have g8_l:=g8.lt;have g8_m:=Nat.lt_succ_of_lt g8_l;have g8_n:=Nat.lt_succ_of_lt g8_m;have g6' : Blk w2 (w.heap.size+1+1) 24 tz:=(g6.alloc _).below hb2 (by simp;omega);have g6'_0:=g6'.cell_at (i:=0) rfl;have g6'_1:=g6'.cell_at (i:=1) rfl;have g6'_2:=g6'.cell_at (i:=2) rfl;have g6'_3:=g6'.cell_at (i:=3) rfl;have g6'_f:=g6'.frozen;have g6'_l:=g6'.lt;have g6'_m:=Nat.lt_succ_of_lt g6'_l;have g6'_n:=Nat.lt_succ_of_lt g6'_m))
  have hsz:=hbw2.size;refine bodyPost_ret (v:=.tuple #[zk _,.int .u64 _]) ?_ rfl ⟨rfl,?_⟩
  ·simp[results,Tryz.results198,go_sem,g6'_0,g6'_1,g6'_2,g6'_3,g6'_l]
  ·((repeat' (with_reducible first|exact hbw2|refine Below.drew ?_|refine Below.drewN' ?_ _|refine Below.setCell ?_ ?_ _|refine Below.alloc ?_ ?_ _))<;>(first|omega|(simp;done)|(simp;omega)))
theorem wrapN (n:Nat):IntKind.u64.wrap (n:Int)=((n%18446744073709551616:Nat):Int):=by rw[IntKind.wrap_u64];omega
theorem fe {n:Nat} (h:n<18446744073709551616):IntKind.u64.wrap (n:Int)=(n:Int):=by rw[wrapN,Nat.mod_eq_of_lt h]
theorem divN (a b:Nat) (ha:a<18446744073709551616) (hb:0<b):IntKind.u64.wrap ((a:Int) / (b:Int))=(a:Int) / (b:Int):=by
 have:((a:Int) / (b:Int))=((a / b:Nat):Int):=by simp
 rw[this,fe (Nat.lt_of_le_of_lt (Nat.div_le_self _ _) ha)]
theorem af1 (a b:Nat):IntKind.u64.wrap ((a:Int)*(b:Int))=((a*b%18446744073709551616:Nat):Int):=by rw[← wrapN];simp
theorem adn (a:Nat):IntKind.u64.wrap ((a:Int)*4294967296)=((a*4294967296%18446744073709551616:Nat):Int):=af1 a 4294967296
theorem aeI (a:Nat) (h:a<4294967296):IntKind.u64.wrap (4294967296*(a:Int))=((4294967296*a:Nat):Int):=by
 have:=af1 4294967296 a;rw[Nat.mod_eq_of_lt Om] at this;exact this
theorem addW (a b:Nat):IntKind.u64.wrap ((a:Int)+(b:Int))=(((a+b)%18446744073709551616:Nat):Int):=by rw[← wrapN];simp
theorem ah7 {a b n:Nat} (hn:n<18446744073709551616) (h:(b+n)%18446744073709551616=a%18446744073709551616):IntKind.u64.wrap ((a:Int) - (b:Int))=(n:Int):=by
 rw[IntKind.wrap_u64];omega
theorem abv (z r u d:Nat) (h:z+r=u*4294967296+d):(z%18446744073709551616+r)%18446744073709551616=(u*4294967296%18446744073709551616+d)%18446744073709551616%18446744073709551616:=by omega
theorem ahv {u d Y:Nat} (hu:u<Y) (hY:Y<18446744073709551616) :
  (((u*4294967296+d) / Y)*Y%18446744073709551616+(u*4294967296+d)%Y)%18446744073709551616=(u*4294967296%18446744073709551616+d)%18446744073709551616%18446744073709551616:=by
 have h:=Nat.div_add_mod (u*4294967296+d) Y;rw[Nat.mul_comm] at h;exact abv _ _ _ _ h
theorem aig (a b:Nat):(a:Int).tmod (b:Int)=(a:Int)%(b:Int):=Int.tmod_eq_emod_of_nonneg Om
set_option maxRecDepth 100000 in
theorem qI (lo y:Nat) (h1:lo<18446744073709551616) (h2:y<18446744073709551616) (h0:0<y) (w:World) :
  Calls Tryz.prog 154 #[.int .u64 0,.int .u64 (lo:Int),.int .u64 (y:Int)] w fun e w'=>e=.returned (.tuple #[.int .u64 ((lo / y:Nat):Int),.int .u64 ((lo%y:Nat):Int)])∧Below w.heap.size w w':=by
 have hy1:((y:Int) == 0)=false:=by simp;omega
 have hy2:decide ((y:Int)≤0)=false:=by simp;omega
 have hy3:1≤(y:Int):=by omega
 go_enter Tryz.func154,Tryz.ntmps154
 go_wp2;refine Kp.wp_region_kpl 8 (by kernel_rfl) (by kernel_rfl) (fun L Fin hL hFin=>?_);have HL:=Lib.hid hL;clear hL;have HF:=Lib.hid hFin;clear hFin;simp only[List.take_succ_cons,List.take_zero,List.drop_succ_cons,List.drop_zero];apply Exists.intro
 repeat ((first|(apply Kp.kp_free;(first|rfl|(rw[HL.out];rfl));(intro w1;go_simp;rfl))|(apply Kp.kp_now;rfl;(first|rfl|(rw[HL.out];rfl));(intro w1 hb1;obtain⟨hcw,hfw⟩:=uJ hb1;clear hb1;go_simp;rfl)));simp only[Act.put,List.setIfInBounds_toArray,List.set_cons_succ,List.set_cons_zero])
 apply Kp.kp_nil;refine HF.out _ _ (fun w1 hb1 _=>?_);clear HL HF;simp only[List.drop_succ_cons,List.drop_zero];go_wp2
 go_ret2
 refine⟨?_,hb1⟩;show Ending.returned (.tuple #[.int .u64 (IntKind.u64.wrap ((lo:Int) / (y:Int))),.int .u64 ((lo:Int).tmod (y:Int))])=_;rw[divN lo y h1 h0,aig lo y];simp
theorem aii (D E:Nat) (hD:D<4294967296) (hE:E<4294967296):∃ z1:Nat,IntKind.u64.wrap ((D:Int)*4294967296)=(z1:Int)∧IntKind.u64.wrap ((z1:Int)+(E:Int))=((D*4294967296+E:Nat):Int) :=
 ⟨D*4294967296,by rw[adn,Nat.mod_eq_of_lt Om],by rw[addW,Nat.mod_eq_of_lt Om]⟩
def aid (u d h l Y q0 p0 r0 D R x1 x2 x3:Nat):Prop :=
 IntKind.u64.wrap (q0:Int)=(q0:Int)∧(u:Int) / (h:Int)=(q0:Int)∧IntKind.u64.wrap ((q0:Int)*(h:Int))=(p0:Int)∧IntKind.u64.wrap ((u:Int) - (p0:Int))=(r0:Int) ∧
 r0<4294967296∧Dig u d h l q0 r0∧D<4294967296∧R<Y∧IntKind.u64.wrap ((u:Int)*4294967296)=(x1:Int)∧IntKind.u64.wrap ((x1:Int)+(d:Int))=(x2:Int) ∧
 IntKind.u64.wrap ((D:Int)*(Y:Int))=(x3:Int)∧IntKind.u64.wrap ((x2:Int) - (x3:Int))=(R:Int)∧D=(u*4294967296+d) / (h*4294967296+l)∧R=(u*4294967296+d)%(h*4294967296+l)
theorem pack (u d h l Y:Nat) (hYe:Y=h*4294967296+l) (hu:u<Y) (hY:Y<18446744073709551616) (hh1:2147483648≤h) (hh2:h<4294967296) (hl:l<4294967296) (hd2:d<4294967296) :
  ∃ q0 p0 r0 D R x1 x2 x3,aid u d h l Y q0 p0 r0 D R x1 x2 x3:=by
 have hu64:u<18446744073709551616:=by omega
 have hpos:0<h*4294967296+l:=by omega
 have P1:=divN u h hu64 Om;have P1' : (u:Int) / (h:Int)=((u / h:Nat):Int):=by simp
 rw[P1'] at P1;have P2:=af1 (u / h) h;have hle1:u / h*h≤u:=Nat.div_mul_le_self u h;rw[Nat.mod_eq_of_lt Om] at P2;have P3:IntKind.u64.wrap ((u:Int) - ((u / h*h:Nat):Int))=((u%h:Nat):Int):=ah7 (Nat.lt_of_le_of_lt (Nat.mod_le _ _) hu64) (by rw[Nat.mul_comm,Nat.div_add_mod]);have hr1:u%h<4294967296:=Nat.lt_of_lt_of_le (Nat.mod_lt _ Om) Om;have hlt1:=Nat.mod_lt (u*4294967296+d) hpos;have P7:=ah7 Om (ahv (u:=u) (d:=d) (Y:=h*4294967296+l) Om Om)
 exact⟨_,_,_,(u*4294967296+d) / (h*4294967296+l),(u*4294967296+d)%(h*4294967296+l),_,_,_,P1,P1',P2,P3,hr1,Dig.start hh1 hd2,
  abS Om hd2,by rw[hYe];exact hlt1,adn u,addW _ d,af1 _ Y,by rw[hYe];exact P7,rfl,rfl⟩
theorem testW {q l r d:Nat} (hq:q<4294967296) (hl:l<4294967296) (hr:r<4294967296) (hd:d<4294967296) :
  IntKind.u64.wrap ((q:Int)*(l:Int))=((q*l:Nat):Int)∧IntKind.u64.wrap (4294967296*(r:Int))=((4294967296*r:Nat):Int) ∧
  IntKind.u64.wrap (((4294967296*r:Nat):Int)+(d:Int))=((4294967296*r+d:Nat):Int):=by
 have h1:q*l≤4294967295*4294967295:=Nat.mul_le_mul Om Om;refine⟨?_,aeI r hr,?_⟩
 ·rw[af1,Nat.mod_eq_of_lt Om]
 ·rw[addW,Nat.mod_eq_of_lt Om]
set_option maxRecDepth 100000 in
theorem rZ (hi lo y:Nat) (h1:lo<18446744073709551616) (h2:y<18446744073709551616) (h0:0<hi) (h3:hi<y) (w:World) :
  Calls Tryz.prog 154 #[.int .u64 (hi:Int),.int .u64 (lo:Int),.int .u64 (y:Int)] w fun e w' =>
   e=.returned (.tuple #[.int .u64 (((hi*18446744073709551616+lo) / y:Nat):Int),.int .u64 (((hi*18446744073709551616+lo)%y:Nat):Int)])∧Below w.heap.size w w':=by
 have hy1:((y:Int) == 0)=false:=by simp;omega
 have hy2:decide (y≤hi)=false:=by simp;omega
 have hy3:1≤(y:Int):=by omega
 have hh1:((hi:Int) == 0)=false:=by simp;omega
 have hbl:=bitLen_eq h2;have hb64:=vm (k:=64) h2;obtain⟨_,k1,k2,k3⟩:=aaU Om h2;obtain⟨S,hS⟩ : ∃ S,S=64 - zK y:=⟨_,rfl⟩
 have hlz:∀ w,Calls Tryz.prog 193 #[.int .u64 (y:Int)] w fun e w'=>e=.returned (.int .i64 (S:Nat))∧w=w':=fun w =>
  (Tryz.bits_LeadingZeros64 _ w Om Om).mono fun e w' h=>⟨by rw[h.1,hS];congr 2;simp[hbl];omega,h.2.symm⟩
 rw[← hS] at k2 k3;have hS63:S<64:=by omega
 obtain⟨n1,n2⟩:=fW hS63 k3 h3 h1;have hor:=acz (hi:=hi) hS63 h1;have nd:=aa4 (U:=hi*18446744073709551616+lo) (y:=y) (Nat.two_pow_pos S);have hA:hi*2 ^ S<18446744073709551616:=Nat.lt_of_le_of_lt (Nat.mul_le_mul_right _ (Nat.le_of_lt h3)) k3;have hL:lo / 2 ^ (64 - S)<18446744073709551616:=Nat.lt_of_le_of_lt (Nat.div_le_self _ _) h1;have E1:IntKind.u64.wrap ((y:Int)*2 ^ S)=((y*2 ^ S:Nat):Int):=by rw[← Nat.mod_eq_of_lt k3,← wrapN];simp
 have E4:IntKind.u64.wrap ((hi:Int)*2 ^ S)=((hi*2 ^ S:Nat):Int):=by rw[← Nat.mod_eq_of_lt hA,← wrapN];simp
 have E5:bits .or .u64 ((hi*2 ^ S:Nat):Int) ((lo:Int) / 2 ^ (64 - S))=((hi*2 ^ S+lo / 2 ^ (64 - S):Nat):Int):=by
  rw[← hor,← u64_or_nat _ _ hA hL];simp
 have E6:IntKind.u64.wrap ((lo:Int)*2 ^ S)=((lo*2 ^ S%18446744073709551616:Nat):Int):=by rw[← wrapN];simp
 rw[← nd.1,← nd.2,← n2];have HP:Hid (0<2 ^ S):=Nat.two_pow_pos S;have hV:lo*2 ^ S%18446744073709551616<18446744073709551616:=Nat.mod_lt _ Om;clear nd hor n2 hbl hb64 h3 hy3;generalize hi*2 ^ S+lo / 2 ^ (64 - S)=u at *;generalize lo*2 ^ S%18446744073709551616=V at *;generalize hi*2 ^ S=A at *;generalize y*2 ^ S=Y at *;have E3:bits .and .u64 (Y:Int) 4294967295=((Y%4294967296:Nat):Int):=by have:=u64_and_nat Y 4294967295 k3 Om;rw[nat_mask32] at this;exact this
 have E8:bits .and .u64 (V:Int) 4294967295=((V%4294967296:Nat):Int):=by have:=u64_and_nat V 4294967295 hV Om;rw[nat_mask32] at this;exact this
 obtain⟨h,hh⟩ : ∃ h,h=Y / 4294967296:=⟨_,rfl⟩;obtain⟨d1,hd1⟩ : ∃ h,h=V / 4294967296:=⟨_,rfl⟩;have E2:(Y:Int) / 4294967296=(h:Int):=by omega
 have E7:(V:Int) / 4294967296=(d1:Int):=by omega
 have hh1' : 2147483648≤h:=by omega
 have hh2:h<4294967296:=by omega
 have hd2:d1<4294967296:=by omega
 have hYe:Y=h*4294967296+Y%4294967296:=by omega
 have hVe:V=d1*4294967296+V%4294967296:=by omega
 have hl:Y%4294967296<4294967296:=by omega
 have hd0:V%4294967296<4294967296:=by omega
 generalize Y%4294967296=l at *;generalize V%4294967296=d0 at *;rw[hYe,hVe,← hYe];obtain⟨q0,p0,r0,D,R,x1,x2,x3,a1,a2,a3,a4,a5,a6,a7,a8,a9,a10,a11,a12,a13,a14⟩:=pack u d1 h l Y hYe n1 k3 hh1' hh2 hl hd2;obtain⟨q0',p0',r0',D',R',y1,y2,y3,b1,b2,b3,b4,b5,b6,b7,b8,b9,b10,b11,b12,b13,b14⟩:=pack R d0 h l Y hYe a8 k3 hh1' hh2 hl hd0;have two:=fx (u:=u) (d1:=d1) (d0:=d0) (Y:=Y) Om rfl rfl;rw[← hYe] at a13 a14 b13 b14;rw[← a13,← a14,← b13,← b14] at two;rw[← two.1,← two.2];obtain⟨z1,c1,c2⟩:=aii D D' Om Om;obtain⟨z2,hz2⟩ : ∃ z,z=D*4294967296+D':=⟨_,rfl⟩;rw[← hz2] at c2 ⊢;clear hz2;have HY:=Lib.hid hYe;have HDE1:Hid (D=(u*4294967296+d1) / (h*4294967296+l)):=by rw[← hYe];exact a13
 have HDE2:Hid (D'=(R*4294967296+d0) / (h*4294967296+l)):=by rw[← hYe];exact b13
 have hYlo:h*4294967296≤Y:=by omega
 have hYhi:Y≤h*4294967296+l:=by omega
 have HDIG1:=Lib.hid a6;have HDIG2:=Lib.hid b6;clear hYe hVe a13 a14 b13 b14 two a6 b6 hh hd1 hS k2;have HZ:=Lib.hid hlz;clear hlz
 go_enter Tryz.func154,Tryz.ntmps154
 go_upto_block 0 with (go_at_call 193;refine (HZ.out _).mono ?_;rintro e w1 ⟨rfl,rfl⟩)
 go_cut [15,16] (fun q r w'=>q=.int .u64 (D:Int)∧w'=w)
 case first =>
  have HDE:=HDE1;have HDIG:=HDIG1;clear HDE1 HDE2 HDIG1 HDIG2 b1 b2 b3 b4 b5 b7 b8 b9 b10 b11 b12 c1 c2;go_wp2
  go_loop [16,15] (fun r q=>∃ qn rn:Nat,q=.int .u64 (qn:Nat)∧r=.int .u64 (rn:Nat)∧Hid (Dig u d1 h l qn rn)∧rn<4294967296) (fun _ q=>(intOf q).toNat)
  case atStart=>exact⟨q0,r0,rfl,rfl,HDIG,by assumption⟩
  case round =>
   obtain⟨q,r,rfl,rfl,HQ,hr⟩:=hrel;have hle:=HQ.out.le Om hh1';have hq33:=hle.1;clear hle;have down:(4294967296≤q∨4294967296*r+d1<q*l)→1≤q∧Hid (Dig u d1 h l (q - 1) (r+h)):=fun hc=>HQ.out.down Om Om hh1' hc
   by_cases cA:4294967296≤q
   ·obtain⟨g1,g2⟩:=down (.inl cA);clear down;have tA:decide ((4294967296:Int)≤(q:Int))=true:=by simp;omega
    by_cases cB:4294967296≤r+h
    ·have tB:decide ((4294967296:Int)≤(r:Int)+(h:Int))=true:=by simp;omega
     have fin:=g2.out.break_ cB Om Om hh1';have FIN:Hid (q - 1=D):=by rw[HDE.out];exact fin
     clear fin;go_wp2
     go_meet
     case rel=>exact⟨by rw[← FIN.out,Int.ofNat_sub g1];rfl,rfl⟩
    ·have tB:decide ((4294967296:Int)≤(r:Int)+(h:Int))=false:=by simp;omega
     go_wp2
     go_round
     case rel=>exact⟨q - 1,r+h,by rw[Int.ofNat_sub g1];rfl,by go_num,g2,by omega⟩
     case measure=>simp[intOf];omega
   ·have tA:decide ((4294967296:Int)≤(q:Int))=false:=by simp;omega
    obtain⟨w1,w2,w3⟩:=testW (q:=q) (l:=l) (r:=r) (d:=d1) Om Om hr Om;have stop:q*l≤4294967296*r+d1→Hid (q=D):=fun hc=>by rw[HDE.out];exact HQ.out.stop hc hh1'
    generalize 4294967296*r+d1=m2 at *;generalize 4294967296*r=m3 at *;generalize q*l=m1 at *
    by_cases cC:m2<m1
    ·have tC:decide (m2<m1)=true:=by simp;omega
     obtain⟨g1,g2⟩:=down (.inr cC);clear down stop
     by_cases cB:4294967296≤r+h
     ·have tB:decide ((4294967296:Int)≤(r:Int)+(h:Int))=true:=by simp;omega
      have fin:=g2.out.break_ cB Om Om hh1';have FIN:Hid (q - 1=D):=by rw[HDE.out];exact fin
      clear fin;go_wp2
      go_meet
      case rel=>exact⟨by rw[← FIN.out,Int.ofNat_sub g1];rfl,rfl⟩
     ·have tB:decide ((4294967296:Int)≤(r:Int)+(h:Int))=false:=by simp;omega
      go_wp2
      go_round
      case rel=>exact⟨q - 1,r+h,by rw[Int.ofNat_sub g1];rfl,by go_num,g2,by omega⟩
      case measure=>simp[intOf];omega
    ·have tC:decide (m2<m1)=false:=by simp;omega
     have FIN:=stop Om;clear down stop;go_wp2
     go_meet
     case rel=>exact⟨by rw[← FIN.out],rfl⟩
 case rest =>
  obtain⟨rfl,rfl⟩:=hcut;clear HDE1 HDIG1
  go_upto_block 2 with (fail)
  go_cut [16,18] (fun r q w'=>q=.int .u64 (D' : Int)∧w'=wc)
  case first =>
   have HDE:=HDE2;have HDIG:=HDIG2;clear HDE2 HDIG2;go_wp2
   go_loop [16,18] (fun r q=>∃ qn rn:Nat,q=.int .u64 (qn:Nat)∧r=.int .u64 (rn:Nat)∧Hid (Dig R d0 h l qn rn)∧rn<4294967296) (fun _ q=>(intOf q).toNat)
   case atStart=>exact⟨q0',r0',rfl,rfl,HDIG,by assumption⟩
   case round =>
    obtain⟨q,r,rfl,rfl,HQ,hr⟩:=hrel;have hle:=HQ.out.le Om hh1';have hq33:=hle.1;clear hle;have down:(4294967296≤q∨4294967296*r+d0<q*l)→1≤q∧Hid (Dig R d0 h l (q - 1) (r+h)):=fun hc=>HQ.out.down Om Om hh1' hc
    by_cases cA:4294967296≤q
    ·obtain⟨g1,g2⟩:=down (.inl cA);clear down;have tA:decide ((4294967296:Int)≤(q:Int))=true:=by simp;omega
     by_cases cB:4294967296≤r+h
     ·have tB:decide ((4294967296:Int)≤(r:Int)+(h:Int))=true:=by simp;omega
      have fin:=g2.out.break_ cB Om Om hh1';have FIN:Hid (q - 1=D'):=by rw[HDE.out];exact fin
      clear fin;go_wp2
      go_meet
      case rel=>exact⟨by rw[← FIN.out,Int.ofNat_sub g1];rfl,rfl⟩
     ·have tB:decide ((4294967296:Int)≤(r:Int)+(h:Int))=false:=by simp;omega
      go_wp2
      go_round
      case rel=>exact⟨q - 1,r+h,by rw[Int.ofNat_sub g1];rfl,by go_num,g2,by omega⟩
      case measure=>simp[intOf];omega
    ·have tA:decide ((4294967296:Int)≤(q:Int))=false:=by simp;omega
     obtain⟨w1,w2,w3⟩:=testW (q:=q) (l:=l) (r:=r) (d:=d0) Om Om hr Om;have stop:q*l≤4294967296*r+d0→Hid (q=D'):=fun hc=>by rw[HDE.out];exact HQ.out.stop hc hh1'
     generalize 4294967296*r+d0=m2 at *;generalize 4294967296*r=m3 at *;generalize q*l=m1 at *
     by_cases cC:m2<m1
     ·have tC:decide (m2<m1)=true:=by simp;omega
      obtain⟨g1,g2⟩:=down (.inr cC);clear down stop
      by_cases cB:4294967296≤r+h
      ·have tB:decide ((4294967296:Int)≤(r:Int)+(h:Int))=true:=by simp;omega
       have fin:=g2.out.break_ cB Om Om hh1';have FIN:Hid (q - 1=D'):=by rw[HDE.out];exact fin
       clear fin;go_wp2
       go_meet
       case rel=>exact⟨by rw[← FIN.out,Int.ofNat_sub g1];rfl,rfl⟩
      ·have tB:decide ((4294967296:Int)≤(r:Int)+(h:Int))=false:=by simp;omega
       go_wp2
       go_round
       case rel=>exact⟨q - 1,r+h,by rw[Int.ofNat_sub g1];rfl,by go_num,g2,by omega⟩
       case measure=>simp[intOf];omega
     ·have tC:decide (m2<m1)=false:=by simp;omega
      have FIN:=stop Om;clear down stop;go_wp2
      go_meet
      case rel=>exact⟨by rw[← FIN.out],rfl⟩
  case rest =>
   obtain⟨rfl,rfl⟩:=hcut;go_wp2
   go_ret2
   exact⟨by simp,Below.refl _ _⟩
end
section
open Go.RowKit
attribute [local go_sem] yf
theorem bQ:Value.agg #[.int .u64 0,.int .u64 0,.int .u64 0,.int .u64 0]=zk 0:=sk 0 Om
theorem yM {a:Nat} (ha:a<zd) (w:World) :
  (Op.equalIn 10000 24 (zk a) (.agg #[.int .u64 0,.int .u64 0,.int .u64 0,.int .u64 0])).run Tryz.prog w=.ok (eqN a 0) w:=by
 rw[bQ];exact yf ha (by unfold zd;omega) w
attribute [local go_sem] yM
theorem sy (hi lo y:Nat) (h1:lo<18446744073709551616) (h2:y<18446744073709551616) (h3:hi<y) (w:World) :
  Calls Tryz.prog 154 #[.int .u64 (hi:Int),.int .u64 (lo:Int),.int .u64 (y:Int)] w fun e w' =>
   e=.returned (.tuple #[.int .u64 (((hi*18446744073709551616+lo) / y:Nat):Int),.int .u64 (((hi*18446744073709551616+lo)%y:Nat):Int)])∧Below w.heap.size w w':=by
 rcases Nat.eq_zero_or_pos hi with rfl|h
 ·rw[Nat.zero_mul,Nat.zero_add];exact qI lo y h1 h2 Om w
 ·exact rZ hi lo y h1 h2 h h3 w
abbrev qC (D k:Nat):List Value:=[.int .u64 ((qc D k 0:Nat):Int),.int .u64 ((qc D k 1:Nat):Int),.int .u64 ((qc D k 2:Nat):Int),.int .u64 ((qc D k 3:Nat):Int)]
theorem afZ (D k:Nat) {i:Nat} (h:i<4):(qC D k)[i]?=some (.int .u64 ((qc D k i:Nat):Int)):=by
 have:i=0∨i=1∨i=2∨i=3:=by omega
 rcases this with rfl|rfl|rfl|rfl<;>rfl
theorem agQ (D:Nat) {k:Nat} (h:k<4):(qC D (k+1)).set k (.int .u64 ((wd k D:Nat):Int))=qC D k:=by
 have:k=0∨k=1∨k=2∨k=3:=by omega
 rcases this with rfl|rfl|rfl|rfl<;>simp[qC,qc]
theorem adX (D:Nat):qC D 0=zc D:=by simp[qC,qc]
theorem aeL (D:Nat):qC D 4=tz:=by simp[qC,qc]
abbrev ahf (r:Nat):List Value:=[.int .u64 ((r:Nat):Int),.int .u64 0,.int .u64 0,.int .u64 0]
theorem iQ {r:Nat} (h:r<18446744073709551616):ahf r=zc r:=by
 have:=sk r h;simpa [zk] using this
set_option maxRecDepth 100000 in
theorem sc (a b:Nat) (ha:a<zd) (h0:0<b) (hs:b<18446744073709551616) (w:World) :
  Calls Tryz.prog 192 #[zk a,zk b] w fun e w'=>e=.returned (.tuple #[zk (a / b),zk (a%b),.int .i64 0])∧Below w.heap.size w w':=by
 have hbB:b<zd:=acY b hs;have he:=om (a:=b) (b:=0) Om;have hsh:uS b=true:=by simp[uS,hs]
 go_enter Tryz.func192,Tryz.ntmps192
 go_wp2_with (go_at_call 195;refine (vB b hbB _).mono ?_;rw[hsh];rintro e W ⟨rfl,hb1⟩;have hg2:Blk W w.heap.size 24 (zc a):=((((Blk.new _ _ _).alloc _).alloc _).alloc _).below hb1 (by simp;omega);have hg3:Blk W (w.heap.size+1) 24 (zc b):=(((Blk.new' (by simp)).alloc _).alloc _).below hb1 (by simp);have hg4:Blk W (w.heap.size+1+1) 24 tz:=((Blk.new' (by simp)).alloc _).below hb1 (by simp);have hg5:Blk W (w.heap.size+1+1+1) 24 tz:=(Blk.new' (by simp)).below hb1 (by simp);have hb:Ext w W:=(((((Ext.rfl' w).alloc' _).alloc' _).alloc' _).alloc' _).trans' hb1;clear hb1)
 go_loopw [7] (fun i wr=>∃ k:Nat,k≤4∧i=.int .i64 ((k:Int) - 1)∧Blk wr w.heap.size 24 (zc a)∧Blk wr (w.heap.size+1) 24 (zc b)∧Blk wr (w.heap.size+1+1) 24 (qC (a / b) k)∧Blk wr (w.heap.size+1+1+1) 24 (ahf (sr a b k))∧Ext w wr) (fun i _=>(intOf i+1).toNat)
 case atStart=>exact⟨4,by omega,rfl,hg2,hg3,by rw[aeL];exact hg4,by rw[eT ha];exact hg5,hb⟩
 case round =>
  clear hg2 hg3 hg4 hg5 hb;obtain⟨k,hk,hi,hg2,hg3,hg4,hg5,hb⟩:=hrel
  rcases k with _|k
  ·obtain rfl:=hi;have hsz:=hb.size;rw[adX] at hg4;rw[iQ (Nat.lt_trans (j7 a 0 h0) hs),eh] at hg5;have hg4_0:=hg4.cell_at (i:=0) rfl;have hg4_1:=hg4.cell_at (i:=1) rfl;have hg4_2:=hg4.cell_at (i:=2) rfl;have hg4_3:=hg4.cell_at (i:=3) rfl;have hg4_f:=hg4.frozen;have hg4_l:=hg4.lt;have hg4_m:=Nat.lt_succ_of_lt hg4_l;have hg4_n:=Nat.lt_succ_of_lt hg4_m;have hg5_0:=hg5.cell_at (i:=0) rfl;have hg5_1:=hg5.cell_at (i:=1) rfl;have hg5_2:=hg5.cell_at (i:=2) rfl;have hg5_3:=hg5.cell_at (i:=3) rfl;have hg5_f:=hg5.frozen;have hg5_l:=hg5.lt;have hg5_m:=Nat.lt_succ_of_lt hg5_l;have hg5_n:=Nat.lt_succ_of_lt hg5_m;clear hg2 hg3;go_wp2;go_region;go_wp2;refine bodyPost_ret (v:=.tuple #[zk (a / b),zk (a%b),.int .i64 0]) ?_ rfl ⟨rfl,?_⟩
   ·simp[results,Tryz.results192,go_sem,hg4_0,hg4_1,hg4_2,hg4_3,hg5_0,hg5_1,hg5_2,hg5_3]
   ·((repeat' (with_reducible first|exact hb|refine Below.drew ?_|refine Below.drewN' ?_ _|refine Below.setCell ?_ ?_ _|refine Below.alloc ?_ ?_ _))<;>(first|omega|(simp;done)|(simp;omega)))
  ·have hk4:k<4:=by omega
   rw[show ((k+1:Nat):Int) - 1=(k:Int) by omega] at hi;subst hi;have hlo:=j7 a (k+1) h0;have hD:=sy (sr a b (k+1)) (wd k a) b (yj k a) hs hlo;rw[(kb a b k hk4 h0).1,(kb a b k hk4 h0).2] at hD;have hb0:wd 0 b=b:=Nat.mod_eq_of_lt hs;have c3:=hg3.cell_at (i:=0) rfl;rw[hb0] at c3;clear hb0;have c2:=hg2.cell_at (vj a hk4);have c5:=hg5.cell_at (i:=0) rfl;have hle:sr a b (k+1)≤18446744073709551615:=by omega
   have hle2:=agF k a;generalize hL:sr a b (k+1)=H at *;have HD:=Lib.hid hD;clear hD hL hlo;have hki:(k:Int)<4:=by omega
   have lt2:=hg2.lt;have lt3:=hg3.lt;have lt4:=hg4.lt;have lt5:=hg5.lt;go_wp2;refine Kp.wp_region_kpf [11] 12 (by kernel_rfl) (by kernel_rfl) (fun L Fin hL hFin=>?_);have HL:=Lib.hid hL;clear hL;have HF:=Lib.hid hFin;clear hFin;simp only[List.take_succ_cons,List.take_zero,List.drop_succ_cons,List.drop_zero];apply Exists.intro
   repeat ((first|(apply Kp.kp_free;(first|rfl|(rw[HL.out];rfl));(intro w1;go_simp;rfl))|(apply Kp.kp_now;rfl;(first|rfl|(rw[HL.out];rfl));(intro w1 hb1;obtain⟨hcw,hfw⟩:=uJ hb1;clear hb1;go_simp;rfl)));simp only[Act.put,List.setIfInBounds_toArray,List.set_cons_succ,List.set_cons_zero])
   apply Kp.kp_val;rfl;(first|rfl|(rw[HL.out];rfl));(intro w1 hb1 _;obtain⟨hcw,hfw⟩:=uJ hb1;refine Kp.kyp_call (by go_simp;first|rfl|exact⟨rfl,rfl⟩) ?_;refine (HD.out w1).mono ?_;rintro e w2 ⟨rfl,hb2⟩;exact⟨_,rfl,rfl,hb2⟩);simp only[Act.put,List.setIfInBounds_toArray,List.set_cons_succ,List.set_cons_zero]
   repeat ((first|(apply Kp.kp_free;(first|rfl|(rw[HL.out];rfl));(intro w1;go_simp;rfl))|(apply Kp.kp_now;rfl;(first|rfl|(rw[HL.out];rfl));(intro w1 hb1;obtain⟨hcw,hfw⟩:=uJ hb1;clear hb1;go_simp;rfl)));simp only[Act.put,List.setIfInBounds_toArray,List.set_cons_succ,List.set_cons_zero])
   apply Kp.kp_nil;refine HF.out _ _ (fun w1 hb1 _=>?_);clear HL HF;simp only[List.drop_succ_cons,List.drop_zero];have g2:=hg2.below hb1 lt2;have g3:=hg3.below hb1 lt3;have hb2:=hb.trans' hb1;have g4:=hg4.below hb1 lt4;have g5:=hg5.below hb1 lt5;have c4:=g4.cell_at (afZ (a / b) (k+1) hk4);have f4:=g4.frozen k;have c5:=g5.cell_at (i:=0) rfl;have f5:=g5.frozen 0;go_wp2;refine NoPanic.normal ?_;go_wp2
   go_roundw
   case rel =>
    refine⟨k,by omega,by go_num,(by ((repeat' (with_reducible first|exact g2|refine Blk.drew ?_|refine Blk.drewN ?_ _|refine Blk.far ?_ ?_ _|refine Blk.alloc ?_ _))<;>(first|omega|(simp;done)|(simp;omega)))),(by ((repeat' (with_reducible first|exact g3|refine Blk.drew ?_|refine Blk.drewN ?_ _|refine Blk.far ?_ ?_ _|refine Blk.alloc ?_ _))<;>(first|omega|(simp;done)|(simp;omega)))),?_,?_,(by ((repeat' (with_reducible first|exact hb2|refine Below.drew ?_|refine Below.drewN' ?_ _|refine Below.setCell ?_ ?_ _|refine Below.alloc ?_ ?_ _))<;>(first|omega|(simp;done)|(simp;omega))))⟩
    ·have:=(g4.set_ k (.int .u64 ((wd k (a / b):Nat):Int)));rw[agQ (a / b) hk4] at this;exact this.far (by simp) _
    ·exact (g5.far (by simp) _).set_ 0 _
   case measure=>first|(simp[intOf];done)|(simp[intOf];omega)
end
section
open Go.RowKit
attribute [local go_sem] yf yM
theorem acv (D m:Nat) (h:m<256):(zc (vy D (m+1))).set (m / 64) (.int .u64 ((wd (m / 64) (vy D m):Nat):Int))=zc (vy D m):=by
 have:m / 64=0∨m / 64=1∨m / 64=2∨m / 64=3:=by omega
 have ho:=fun j (h1:j<4) (h2:j≠m / 64)=>fo D m h1 h2
 rcases this with e|e|e|e<;>rw[e] at ho ⊢<;>simp[zc,ho]
theorem afz (x Q m:Nat) (hx:x<18446744073709551616) (hQ:Q≤1):bits .or .u64 (x:Int) (IntKind.u64.wrap ((Q:Int)*2 ^ min (m%64) 64))=((x ||| Q*2 ^ (m%64):Nat):Int):=by
 have h1:m%64<64:=Nat.mod_lt _ Om;have h2:Q*2 ^ (m%64)<18446744073709551616:=by
  have:2 ^ (m%64)≤2 ^ 63:=Nat.pow_le_pow_right Om Om;have h3:Q*2 ^ (m%64)≤1*2 ^ (m%64):=Nat.mul_le_mul_right _ hQ;have h4:(2:Nat) ^ 63=9223372036854775808:=by decide
  omega
 rw[Nat.min_eq_left Om,show ((Q:Int)*2 ^ (m%64))=((Q*2 ^ (m%64):Nat):Int) by simp,fe h2,u64_or_nat _ _ hx h2]
set_option maxRecDepth 100000 in
theorem sY (a b:Nat) (ha:a<zd) (hbB:b<zd) (h0:0<b) (hs:¬ b<18446744073709551616) (w:World) :
  Calls Tryz.prog 192 #[zk a,zk b] w fun e w'=>e=.returned (.tuple #[zk (a / b),zk (a%b),.int .i64 0])∧Below w.heap.size w w':=by
 have he:=om (a:=b) (b:=0) Om;have hsh:uS b=false:=by simp[uS,hs]
 have hN:zK a≤256:=vm (by simpa [zd] using ha);have hlt:=tE a;have hBits:=fun w=>te a ha w;generalize zK a=N at *
 go_enter Tryz.func192,Tryz.ntmps192
 go_wp2_with (first|(go_at_call 195;refine (vB b hbB _).mono ?_;rw[hsh];rintro e W ⟨rfl,hb1⟩;have hg2:Blk W w.heap.size 24 (zc a):=((((Blk.new _ _ _).alloc _).alloc _).alloc _).below hb1 (by simp;omega);have hg3:Blk W (w.heap.size+1) 24 (zc b):=(((Blk.new' (by simp)).alloc _).alloc _).below hb1 (by simp);have hg4:Blk W (w.heap.size+1+1) 24 tz:=((Blk.new' (by simp)).alloc _).below hb1 (by simp);have hg5:Blk W (w.heap.size+1+1+1) 24 tz:=(Blk.new' (by simp)).below hb1 (by simp);have hb:Ext w W:=(((((Ext.rfl' w).alloc' _).alloc' _).alloc' _).alloc' _).trans' hb1;clear hb1;have hg2_0:=hg2.cell_at (i:=0) rfl;have hg2_1:=hg2.cell_at (i:=1) rfl;have hg2_2:=hg2.cell_at (i:=2) rfl;have hg2_3:=hg2.cell_at (i:=3) rfl;have hg2_f:=hg2.frozen;have hg2_l:=hg2.lt;have hg2_m:=Nat.lt_succ_of_lt hg2_l;have hg2_n:=Nat.lt_succ_of_lt hg2_m)|(go_at_call 106;refine (hBits _).mono ?_;rintro e W2 ⟨rfl,hb1⟩;replace hg2:=hg2.below hb1 hg2.lt;replace hg3:=hg3.below hb1 hg3.lt;replace hg4:=hg4.below hb1 hg4.lt;replace hg5:=hg5.below hb1 hg5.lt;replace hb:=hb.trans' hb1;clear hb1 hg2_0 hg2_1 hg2_2 hg2_3 hg2_f hg2_l))
 go_loopw [44] (fun i wr=>∃ k m:Nat,k+m=N∧i=.int .i64 (k:Int)∧Blk wr w.heap.size 24 (zc a)∧Blk wr (w.heap.size+1) 24 (zc b)∧Blk wr (w.heap.size+1+1) 24 (zc (vy (a / b) m))∧Blk wr (w.heap.size+1+1+1) 24 (zc (a / 2 ^ m%b))∧Ext w wr) (fun i _=>N - (intOf i).toNat)
 case atStart=>exact⟨0,N,by omega,rfl,hg2,hg3,by rw[eX (Nat.lt_of_le_of_lt (Nat.div_le_self _ _) hlt)];exact hg4,by rw[Nat.div_eq_of_lt hlt,Nat.zero_mod];exact hg5,hb⟩
 case round =>
  clear hg2 hg3 hg4 hg5 hb;obtain⟨k,m,hkm,rfl,hg2,hg3,hg4,hg5,hb⟩:=hrel
  rcases m with _|m
  ·obtain rfl:k=N:=by omega
   have hsz:=hb.size;rw[tT] at hg4;rw[Nat.pow_zero,Nat.div_one] at hg5;have hg4_0:=hg4.cell_at (i:=0) rfl;have hg4_1:=hg4.cell_at (i:=1) rfl;have hg4_2:=hg4.cell_at (i:=2) rfl;have hg4_3:=hg4.cell_at (i:=3) rfl;have hg4_f:=hg4.frozen;have hg4_l:=hg4.lt;have hg4_m:=Nat.lt_succ_of_lt hg4_l;have hg4_n:=Nat.lt_succ_of_lt hg4_m;have hg5_0:=hg5.cell_at (i:=0) rfl;have hg5_1:=hg5.cell_at (i:=1) rfl;have hg5_2:=hg5.cell_at (i:=2) rfl;have hg5_3:=hg5.cell_at (i:=3) rfl;have hg5_f:=hg5.frozen;have hg5_l:=hg5.lt;have hg5_m:=Nat.lt_succ_of_lt hg5_l;have hg5_n:=Nat.lt_succ_of_lt hg5_m;clear hg2 hg3;go_wp2;go_region;go_wp2;refine bodyPost_ret (v:=.tuple #[zk (a / b),zk (a%b),.int .i64 0]) ?_ rfl ⟨rfl,?_⟩
   ·simp[results,Tryz.results192,go_sem,hg4_0,hg4_1,hg4_2,hg4_3,hg5_0,hg5_1,hg5_2,hg5_3]
   ·((repeat' (with_reducible first|exact hb|refine Below.drew ?_|refine Below.drewN' ?_ _|refine Below.setCell ?_ ?_ _|refine Below.alloc ?_ ?_ _))<;>(first|omega|(simp;done)|(simp;omega)))
  ·have hkN:(k:Int)<(N:Int):=by omega
   have hi:(N:Int) - 1 - (k:Int)=(m:Int):=by omega
   have hm:m<256:=by omega
   have hB:=fun w=>qk a (m:Int) ha Om Om w;rw[Int.toNat_natCast] at hB;have hb1:=qy a m;have hX:=sW (a / 2 ^ (m+1)%b) (uE a m) b (Nat.mod_lt _ h0) hbB hb1;unfold aH aax at hX;rw[(gj (a:=a) m h0).1,(gj (a:=a) m h0).2] at hX;have hq1:=qy (a / b) m;have hor:=aS (a / b) m hm;have hset:=acv (a / b) m hm;generalize uE a m=B at *;generalize uE (a / b) m=Q at *;generalize a / 2 ^ (m+1)%b=r0 at *;generalize hr1:a / 2 ^ m%b=r1 at *;generalize vy (a / b) (m+1)=T0 at *;generalize hT1:vy (a / b) m=T1 at *;have hval:=afz (wd (m / 64) T0) Q m (yj _ _) hq1;rw[hor] at hval;have HO:=Lib.hid hval;have HS:=Lib.hid hset;have HR:=Lib.hid hr1;have HT:=Lib.hid hT1;clear hor hset hval hr1 hT1;have hg2_0:=hg2.cell_at (i:=0) rfl;have hg2_1:=hg2.cell_at (i:=1) rfl;have hg2_2:=hg2.cell_at (i:=2) rfl;have hg2_3:=hg2.cell_at (i:=3) rfl;have hg2_f:=hg2.frozen;have hg2_l:=hg2.lt;have hg2_m:=Nat.lt_succ_of_lt hg2_l;have hg2_n:=Nat.lt_succ_of_lt hg2_m;have hg3_0:=hg3.cell_at (i:=0) rfl;have hg3_1:=hg3.cell_at (i:=1) rfl;have hg3_2:=hg3.cell_at (i:=2) rfl;have hg3_3:=hg3.cell_at (i:=3) rfl;have hg3_f:=hg3.frozen;have hg3_l:=hg3.lt;have hg3_m:=Nat.lt_succ_of_lt hg3_l;have hg3_n:=Nat.lt_succ_of_lt hg3_m;have hg5_0:=hg5.cell_at (i:=0) rfl;have hg5_1:=hg5.cell_at (i:=1) rfl;have hg5_2:=hg5.cell_at (i:=2) rfl;have hg5_3:=hg5.cell_at (i:=3) rfl;have hg5_f:=hg5.frozen;have hg5_l:=hg5.lt;have hg5_m:=Nat.lt_succ_of_lt hg5_l;have hg5_n:=Nat.lt_succ_of_lt hg5_m;have lt4:=hg4.lt;go_wp2;refine Kp.wp_region_kpf [8] 9 (by kernel_rfl) (by kernel_rfl) (fun L Fin hL hFin=>?_);have HL:=Lib.hid hL;clear hL;have HF:=Lib.hid hFin;clear hFin;simp only[List.take_succ_cons,List.take_zero,List.drop_succ_cons,List.drop_zero];apply Exists.intro
   repeat ((first|(apply Kp.kp_free;(first|rfl|(rw[HL.out];rfl));(intro w1;go_simp;rfl))|(apply Kp.kp_now;rfl;(first|rfl|(rw[HL.out];rfl));(intro w1 hb1;obtain⟨hcw,hfw⟩:=uJ hb1;clear hb1;go_simp;rfl)));simp only[Act.put,List.setIfInBounds_toArray,List.set_cons_succ,List.set_cons_zero])
   apply Kp.kp_val;rfl;(first|rfl|(rw[HL.out];rfl));(intro w1 hb1 _;obtain⟨hcw,hfw⟩:=uJ hb1;refine Kp.kyp_call (by go_simp;first|rfl|exact⟨rfl,rfl⟩) ?_;refine (hB w1).mono ?_;rintro e w2 ⟨rfl,hb2⟩;exact⟨_,rfl,rfl,hb2⟩);simp only[Act.put,List.setIfInBounds_toArray,List.set_cons_succ,List.set_cons_zero]
   repeat ((first|(apply Kp.kp_free;(first|rfl|(rw[HL.out];rfl));(intro w1;go_simp;rfl))|(apply Kp.kp_now;rfl;(first|rfl|(rw[HL.out];rfl));(intro w1 hb1;obtain⟨hcw,hfw⟩:=uJ hb1;clear hb1;go_simp;rfl)));simp only[Act.put,List.setIfInBounds_toArray,List.set_cons_succ,List.set_cons_zero])
   apply Kp.kp_val;rfl;(first|rfl|(rw[HL.out];rfl));(intro w1 hb1 _;obtain⟨hcw,hfw⟩:=uJ hb1;refine Kp.kyp_call (by go_simp;first|rfl|exact⟨rfl,rfl⟩) ?_;refine (hX w1).mono ?_;rintro e w2 ⟨rfl,hb2⟩;exact⟨_,rfl,rfl,hb2⟩);simp only[Act.put,List.setIfInBounds_toArray,List.set_cons_succ,List.set_cons_zero]
   repeat ((first|(apply Kp.kp_free;(first|rfl|(rw[HL.out];rfl));(intro w1;go_simp;rfl))|(apply Kp.kp_now;rfl;(first|rfl|(rw[HL.out];rfl));(intro w1 hb1;obtain⟨hcw,hfw⟩:=uJ hb1;clear hb1;go_simp;rfl)));simp only[Act.put,List.setIfInBounds_toArray,List.set_cons_succ,List.set_cons_zero])
   apply Kp.kp_nil;refine HF.out _ _ (fun w1 hb1 _=>?_);clear HL HF;simp only[List.drop_succ_cons,List.drop_zero];replace hg2:=hg2.below hb1 hg2_l;replace hg3:=hg3.below hb1 hg3_l;replace hg4:=hg4.below hb1 lt4;replace hg5:=hg5.below hb1 hg5_l;replace hb:=hb.trans' hb1;clear hb1 hg2_0 hg2_1 hg2_2 hg2_3 hg2_f hg2_l hg3_0 hg3_1 hg3_2 hg3_3 hg3_f hg3_l hg5_0 hg5_1 hg5_2 hg5_3 hg5_f hg5_l lt4;have hg5_0:=hg5.cell_at (i:=0) rfl;have hg5_1:=hg5.cell_at (i:=1) rfl;have hg5_2:=hg5.cell_at (i:=2) rfl;have hg5_3:=hg5.cell_at (i:=3) rfl;have hg5_f:=hg5.frozen;have hg5_l:=hg5.lt;have hg5_m:=Nat.lt_succ_of_lt hg5_l;have hg5_n:=Nat.lt_succ_of_lt hg5_m;go_wp2;refine NoPanic.normal ?_;go_wp2;generalize hw3:(((w1.setCell _ _).setCell _ _).setCell _ _).setCell _ _=w3;have k2:Blk w3 w.heap.size 24 (zc a):=by subst hw3;((repeat' (with_reducible first|exact hg2|refine Blk.drew ?_|refine Blk.drewN ?_ _|refine Blk.far ?_ ?_ _|refine Blk.alloc ?_ _))<;>(first|omega|(simp;done)|(simp;omega)))
   have k3:Blk w3 (w.heap.size+1) 24 (zc b):=by subst hw3;((repeat' (with_reducible first|exact hg3|refine Blk.drew ?_|refine Blk.drewN ?_ _|refine Blk.far ?_ ?_ _|refine Blk.alloc ?_ _))<;>(first|omega|(simp;done)|(simp;omega)))
   have k4:Blk w3 (w.heap.size+1+1) 24 (zc T0):=by subst hw3;((repeat' (with_reducible first|exact hg4|refine Blk.drew ?_|refine Blk.drewN ?_ _|refine Blk.far ?_ ?_ _|refine Blk.alloc ?_ _))<;>(first|omega|(simp;done)|(simp;omega)))
   have k5:Blk w3 (w.heap.size+1+1+1) 24 (zc r1):=by subst hw3;exact (((hg5.set_ 0 _).set_ 1 _).set_ 2 _).set_ 3 _
   have hb3:Ext w w3:=by subst hw3;have hsz:=hb.size;((repeat' (with_reducible first|exact hb|refine Below.drew ?_|refine Below.drewN' ?_ _|refine Below.setCell ?_ ?_ _|refine Below.alloc ?_ ?_ _))<;>(first|omega|(simp;done)|(simp;omega)))
   clear hw3 hg2 hg3 hg4 hg5 hb hg5_0 hg5_1 hg5_2 hg5_3 hg5_f hg5_l;have hq:m / 64<4:=by omega
   have c4:=k4.cell_at (vj T0 hq);have f4:=k4.frozen (m / 64);have l4:=k4.lt;have hq1:(m:Int) / 64<4:=by omega
   have hq0:0≤(m:Int) / 64:=by omega
   have hq2:IntKind.i64.wrap ((m:Int) / 64)=(m:Int) / 64:=by rw[IntKind.wrap_i64];omega
   have hq3:((m:Int) / 64).toNat=m / 64:=by omega
   refine Kp.wp_region_kpl 8 (by kernel_rfl) (by kernel_rfl) (fun L Fin hL hFin=>?_);have HL:=Lib.hid hL;clear hL;have HF:=Lib.hid hFin;clear hFin;simp only[List.take_succ_cons,List.take_zero,List.drop_succ_cons,List.drop_zero];apply Exists.intro
   repeat ((first|(apply Kp.kp_free;(first|rfl|(rw[HL.out];rfl));(intro w1;go_simp;rfl))|(apply Kp.kp_now;rfl;(first|rfl|(rw[HL.out];rfl));(intro w1 hb1;obtain⟨hcw,hfw⟩:=uJ hb1;clear hb1;go_simp;rfl)));simp only[Act.put,List.setIfInBounds_toArray,List.set_cons_succ,List.set_cons_zero])
   apply Kp.kp_nil;refine HF.out _ _ (fun w5 hb5 _=>?_);clear HL HF;simp only[List.drop_succ_cons,List.drop_zero];have c6:=(k4.below hb5 l4).cell_at (vj T0 hq);have f6:=(k4.below hb5 l4).frozen (m / 64);go_wp2
   go_roundw
   case rel =>
    replace k2:=k2.below hb5 k2.lt;replace k3:=k3.below hb5 k3.lt;replace k4:=k4.below hb5 k4.lt;replace k5:=k5.below hb5 k5.lt;replace hb3:=hb3.trans' hb5;rw[HO.out];refine⟨k+1,m,by omega,by go_num,(by ((repeat' (with_reducible first|exact k2|refine Blk.drew ?_|refine Blk.drewN ?_ _|refine Blk.far ?_ ?_ _|refine Blk.alloc ?_ _))<;>(first|omega|(simp;done)|(simp;omega)))),(by ((repeat' (with_reducible first|exact k3|refine Blk.drew ?_|refine Blk.drewN ?_ _|refine Blk.far ?_ ?_ _|refine Blk.alloc ?_ _))<;>(first|omega|(simp;done)|(simp;omega)))),?_,?_,(by ((repeat' (with_reducible first|exact hb3|refine Below.drew ?_|refine Below.drewN' ?_ _|refine Below.setCell ?_ ?_ _|refine Below.alloc ?_ ?_ _))<;>(first|omega|(simp;done)|(simp;omega))))⟩
    ·rw[HT.out,← HS.out];exact k4.set_ _ _
    ·rw[HR.out]
     ((repeat' (with_reducible first|exact k5|refine Blk.drew ?_|refine Blk.drewN ?_ _|refine Blk.far ?_ ?_ _|refine Blk.alloc ?_ _))<;>(first|omega|(simp;done)|(simp;omega)))
   case measure=>first|(simp[intOf];done)|(simp[intOf];omega)
theorem qj (a b:Nat) (ha:a<zd) (hb:b<zd) (h0:0<b) (w:World) :
  Calls Tryz.prog 192 #[zk a,zk b] w fun e w'=>e=.returned (.tuple #[zk (a / b),zk (a%b),.int .i64 0])∧Below w.heap.size w w':=by
 by_cases hs:b<18446744073709551616
 ·exact sc a b ha h0 hs w
 ·exact sY a b ha hb h0 hs w
end
section
open Go.RowKit
attribute [local go_sem] yf yM
theorem zF:0<zd:=by unfold zd;omega
set_option maxRecDepth 100000 in
theorem qL (a b:Nat) (ha:a<zd) (hb:b<zd) (w:World) :
  Calls Tryz.prog 191 #[zk a,zk b] w fun e w'=>e=.returned (zk (Nat.gcd a b))∧Below w.heap.size w w':=by
 have hz:=zF
 go_enter Tryz.func191,Tryz.ntmps191
 go_wp2;generalize hW:((w.alloc _).alloc _).alloc _=W;have g2:Blk W w.heap.size 24 (zc a):=by subst hW;exact ((Blk.new _ _ _).alloc _).alloc _
 have g3:Blk W (w.heap.size+1) 24 (zc b):=by subst hW;exact (Blk.new' (by simp)).alloc _
 have g4:Blk W (w.heap.size+1+1) 24 tz:=by subst hW;exact Blk.new' (by simp)
 have hbw:Ext w W:=by subst hW;exact (((Ext.rfl' w).alloc' _).alloc' _).alloc' _
 clear hW
 go_step3
 go_wp2
 go_step3
 go_wp2
 go_loopg [] b (fun g wr=>∃ x y:Nat,y=g∧x<zd∧y<zd∧Nat.gcd x y=Nat.gcd a b∧Blk wr w.heap.size 24 (zc x)∧Blk wr (w.heap.size+1) 24 (zc y)∧Blk wr (w.heap.size+1+1) 24 tz∧Ext w wr)
 case atStart=>exact⟨a,b,rfl,ha,hb,rfl,g2,g3,g4,hbw⟩
 case round =>
  clear g2 g3 g4 hbw;obtain⟨x,y,rfl,hx,hy,hg,g2,g3,g4,hbw⟩:=hrel;have g2_0:=g2.cell_at (i:=0) rfl;have g2_1:=g2.cell_at (i:=1) rfl;have g2_2:=g2.cell_at (i:=2) rfl;have g2_3:=g2.cell_at (i:=3) rfl;have g2_f:=g2.frozen;have g2_l:=g2.lt;have g2_m:=Nat.lt_succ_of_lt g2_l;have g2_n:=Nat.lt_succ_of_lt g2_m;have g3_0:=g3.cell_at (i:=0) rfl;have g3_1:=g3.cell_at (i:=1) rfl;have g3_2:=g3.cell_at (i:=2) rfl;have g3_3:=g3.cell_at (i:=3) rfl;have g3_f:=g3.frozen;have g3_l:=g3.lt;have g3_m:=Nat.lt_succ_of_lt g3_l;have g3_n:=Nat.lt_succ_of_lt g3_m
  by_cases h0:y=0
  ·subst h0;rw[Nat.gcd_zero_right] at hg;subst hg;have he:=av (a:=0) (b:=0) rfl;have g4_0:=g4.cell_at (i:=0) rfl;have g4_1:=g4.cell_at (i:=1) rfl;have g4_2:=g4.cell_at (i:=2) rfl;have g4_3:=g4.cell_at (i:=3) rfl;have g4_f:=g4.frozen;have g4_l:=g4.lt;have g4_m:=Nat.lt_succ_of_lt g4_l;have g4_n:=Nat.lt_succ_of_lt g4_m;go_wp2;rw[Exit.noGoto_ret];refine bodyPost_ret (v:=zk (a.gcd b)) ?_ rfl ⟨rfl,?_⟩
   ·simp[results,Tryz.results191,go_sem,g4_0,g4_1,g4_2,g4_3]
   ·have hsz:=hbw.size
    ((repeat' (with_reducible first|exact hbw|refine Below.drew ?_|refine Below.drewN' ?_ _|refine Below.setCell ?_ ?_ _|refine Below.alloc ?_ ?_ _))<;>(first|omega|(simp;done)|(simp;omega)))
  ·have he:=om h0;have hD:=fun w=>qj x y hx hy Om w;have hlt:x%y<y:=Nat.mod_lt _ Om;have hgg:Nat.gcd y (x%y)=Nat.gcd a b:=by rw[← hg,Nat.gcd_comm x y,Nat.gcd_rec y x,Nat.gcd_comm]
   clear hg;generalize x%y=r at *;generalize x / y=q at *
   go_wp2_with (go_at_call 192;refine (hD _).mono ?_;rintro e w1 ⟨rfl,hb1⟩;replace g2:=g2.below hb1 g2_l;replace g3:=g3.below hb1 g3_l;replace g4:=g4.below hb1 g4.lt;replace hbw:=hbw.trans' hb1;clear hb1 g2_0 g2_1 g2_2 g2_3 g2_f g2_l g3_0 g3_1 g3_2 g3_3 g3_f g3_l;have g2_0:=g2.cell_at (i:=0) rfl;have g2_1:=g2.cell_at (i:=1) rfl;have g2_2:=g2.cell_at (i:=2) rfl;have g2_3:=g2.cell_at (i:=3) rfl;have g2_f:=g2.frozen;have g2_l:=g2.lt;have g2_m:=Nat.lt_succ_of_lt g2_l;have g2_n:=Nat.lt_succ_of_lt g2_m;have g3_0:=g3.cell_at (i:=0) rfl;have g3_1:=g3.cell_at (i:=1) rfl;have g3_2:=g3.cell_at (i:=2) rfl;have g3_3:=g3.cell_at (i:=3) rfl;have g3_f:=g3.frozen;have g3_l:=g3.lt;have g3_m:=Nat.lt_succ_of_lt g3_l;have g3_n:=Nat.lt_succ_of_lt g3_m)
   go_region;have lt4:=g4.lt;go_wp2
   go_roundg r
   case measure=>exact hlt
   case rel =>
    refine⟨y,r,rfl,hy,by omega,hgg,(by ((repeat' (with_reducible first|exact g2|refine Blk.drew ?_|refine Blk.drewN ?_ _|apply Blk.put4|refine Blk.far ?_ ?_ _|refine Blk.alloc ?_ _))<;>(first|omega|(simp;done)|(simp;omega)))),(by ((repeat' (with_reducible first|exact g3|refine Blk.drew ?_|refine Blk.drewN ?_ _|apply Blk.put4|refine Blk.far ?_ ?_ _|refine Blk.alloc ?_ _))<;>(first|omega|(simp;done)|(simp;omega)))),(by ((repeat' (with_reducible first|exact g4|refine Blk.drew ?_|refine Blk.drewN ?_ _|refine Blk.far ?_ ?_ _|refine Blk.alloc ?_ _))<;>(first|omega|(simp;done)|(simp;omega)))),?_⟩;have hsz:=hbw.size
    ((repeat' (with_reducible first|exact hbw|refine Below.drew ?_|refine Below.drewN' ?_ _|refine Below.setCell ?_ ?_ _|refine Below.alloc ?_ ?_ _))<;>(first|omega|(simp;done)|(simp;omega)))
end
section
open Go.RowKit
attribute [local go_sem] yf yM
theorem aM {a r0 m j:Nat} (hj:j<256) :
  aH ((r0*2 ^ j+a / 2 ^ (256 - j))%m) (uE a (255 - j)) m=(r0*2 ^ (j+1)+a / 2 ^ (256 - (j+1)))%m:=by
 have hs:=ix a (255 - j);rw[show 255 - j+1=256 - j by omega] at hs;unfold aH;rw[show 256 - (j+1)=255 - j by omega,hs,Nat.pow_succ];generalize a / 2 ^ (256 - j)=x;generalize uE a (255 - j)=d;have e:r0*(2 ^ j*2)+(x+x+d)=(r0*2 ^ j+x)+(r0*2 ^ j+x)+d:=by rw[← Nat.mul_assoc];omega
 rw[e];generalize r0*2 ^ j+x=y;simp[Nat.add_mod]
theorem fH (r0 a m:Nat) (ha:a<zd) (hr:r0<m):(r0*2 ^ 0+a / 2 ^ (256 - 0))%m=r0:=by
 rw[Nat.div_eq_of_lt (by simpa [zd] using ha)];simp[Nat.mod_eq_of_lt hr]
theorem bo (r0 a m:Nat):(r0*2 ^ 256+a / 2 ^ (256 - 256))%m=(r0*zd+a)%m:=by simp[zd]
def kN (hi lo i:Nat):Nat:=if i=0 then hi else lo
theorem acD {hi lo:Nat} (i:Nat) (h1:hi<zd) (h2:lo<zd):kN hi lo i<zd:=by unfold kN;split<;>assumption
def aaO (hi lo m:Nat):Nat→Nat
 | 0=>0
 | i+1=>(aaO hi lo m i*zd+kN hi lo i)%m
theorem aen {hi lo m:Nat} (i:Nat) (h0:0<m):aaO hi lo m i<m:=by
 cases i with
 | zero=>exact h0
 | succ i=>exact Nat.mod_lt _ h0
theorem dK:zc 0=tz:=rfl
abbrev ah1 (hi lo:Nat):Value:=.agg #[.int .u64 ((wd 0 hi:Nat):Int),.int .u64 ((wd 1 hi:Nat):Int),.int .u64 ((wd 2 hi:Nat):Int),.int .u64 ((wd 3 hi:Nat):Int),.int .u64 ((wd 0 lo:Nat):Int),.int .u64 ((wd 1 lo:Nat):Int),.int .u64 ((wd 2 lo:Nat):Int),.int .u64 ((wd 3 lo:Nat):Int)]
theorem qG (hi lo:Nat) (w:World):(Instr.index 294 (ah1 hi lo) (.int .i64 0)).run Tryz.prog w=.ok (zk hi) w:=by kernel_rfl
theorem qB (hi lo:Nat) (w:World):(Instr.index 294 (ah1 hi lo) (.int .i64 1)).run Tryz.prog w=.ok (zk lo) w:=by kernel_rfl
theorem nw (hi lo:Nat) {i:Nat} (h:i<2) (w:World):(Instr.index 294 (ah1 hi lo) (.int .i64 (i:Int))).run Tryz.prog w=.ok (zk (kN hi lo i)) w:=by
 have:i=0∨i=1:=by omega
 rcases this with rfl|rfl
 ·exact qG hi lo w
 ·exact qB hi lo w
set_option maxRecDepth 100000 in
theorem so (lo hi m:Nat) (hlo:lo<zd) (hhi:hi<zd) (hmB:m<zd) (h0:0<m) (hs:¬ m<18446744073709551616) (w:World) :
  Calls Tryz.prog 156 #[zk lo,zk hi,zk m] w fun e w'=>e=.returned (.tuple #[zk ((hi*zd+lo)%m),.int .i64 0])∧Below w.heap.size w w':=by
 have he:=om (a:=m) (b:=0) Om;have hsh:uS m=false:=by simp[uS,hs]
 go_enter Tryz.func156,Tryz.ntmps156
 go_wp2_with (go_at_call 195;refine (vB m hmB _).mono ?_;rw[hsh];rintro e W ⟨rfl,hb1⟩;have g3:Blk W w.heap.size 24 (zc lo):=((((Blk.new _ _ _).alloc _).alloc _).alloc _).below hb1 (by simp;omega);have g4:Blk W (w.heap.size+1) 24 (zc hi):=(((Blk.new' (by simp)).alloc _).alloc _).below hb1 (by simp);have g5:Blk W (w.heap.size+1+1) 24 (zc m):=((Blk.new' (by simp)).alloc _).below hb1 (by simp);have g6:Blk W (w.heap.size+1+1+1) 24 tz:=(Blk.new' (by simp)).below hb1 (by simp);have hb:Ext w W:=(((((Ext.rfl' w).alloc' _).alloc' _).alloc' _).alloc' _).trans' hb1;clear hb1;have g3_0:=g3.cell_at (i:=0) rfl;have g3_1:=g3.cell_at (i:=1) rfl;have g3_2:=g3.cell_at (i:=2) rfl;have g3_3:=g3.cell_at (i:=3) rfl;have g3_f:=g3.frozen;have g3_l:=g3.lt;have g3_m:=Nat.lt_succ_of_lt g3_l;have g3_n:=Nat.lt_succ_of_lt g3_m;have g4_0:=g4.cell_at (i:=0) rfl;have g4_1:=g4.cell_at (i:=1) rfl;have g4_2:=g4.cell_at (i:=2) rfl;have g4_3:=g4.cell_at (i:=3) rfl;have g4_f:=g4.frozen;have g4_l:=g4.lt;have g4_m:=Nat.lt_succ_of_lt g4_l;have g4_n:=Nat.lt_succ_of_lt g4_m)
 clear g3 g4 g3_0 g3_1 g3_2 g3_3 g3_f g3_l g4_0 g4_1 g4_2 g4_3 g4_f g4_l
 go_loopw [44] (fun i wr=>∃ n:Nat,n≤2∧i=.int .i64 (n:Int)∧Blk wr (w.heap.size+1+1) 24 (zc m)∧Blk wr (w.heap.size+1+1+1) 24 (zc (aaO hi lo m n))∧Ext w wr) (fun i _=>2 - (intOf i).toNat)
 case atStart=>exact⟨0,by omega,rfl,g5,by rw[show aaO hi lo m 0=0 from rfl,dK];exact g6,hb⟩
 case round =>
  clear g5 g6 hb;obtain⟨n,hn,rfl,g5,g6,hb⟩:=hrel
  by_cases hlt:n<2
  ·have hix:=nw hi lo hlt;have hdec:decide ((n:Int)<2)=true:=by simp;omega
   have hpk:=acD n hhi hlo;have hst:=aen n (hi:=hi) (lo:=lo) h0;have hnx:(aaO hi lo m n*zd+kN hi lo n)%m=aaO hi lo m (n+1):=rfl;generalize kN hi lo n=a at *;generalize aaO hi lo m n=r0 at *;obtain⟨wo,rfl⟩ : ∃ wo:World,wo=wr:=⟨_,rfl⟩;have g6_l:=g6.lt;go_wp2
   go_loopw [47] (fun i wr=>∃ j:Nat,j≤256∧i=.int .i64 (j:Int)∧Blk wr (w.heap.size+1+1) 24 (zc m)∧Blk wr (w.heap.size+1+1+1) 24 (zc ((r0*2 ^ j+a / 2 ^ (256 - j))%m))∧Blk wr wo.heap.size 24 (zc a)∧Ext w wr) (fun i _=>256 - (intOf i).toNat)
   case atStart=>exact⟨0,by omega,rfl,(by ((repeat' (with_reducible first|exact g5|refine Blk.drew ?_|refine Blk.drewN ?_ _|refine Blk.far ?_ ?_ _|refine Blk.alloc ?_ _))<;>(first|omega|(simp;done)|(simp;omega)))),by rw[fH r0 a m hpk hst];((repeat' (with_reducible first|exact g6|refine Blk.drew ?_|refine Blk.drewN ?_ _|refine Blk.far ?_ ?_ _|refine Blk.alloc ?_ _))<;>(first|omega|(simp;done)|(simp;omega))),Blk.new' rfl,hb.alloc' _⟩
   case round =>
    clear hix g5 g6;obtain⟨j,hj,rfl,g5,g6,g12,hb2⟩:=hrel
    by_cases hjt:j<256
    ·have hjd:decide ((j:Int)<256)=true:=by simp;omega
     have hi:(255:Int) - (j:Int)=((255 - j:Nat):Int):=by omega
     have hB:=fun w=>qk a ((255:Int) - (j:Int)) hpk Om Om w;rw[show ((255:Int) - (j:Int)).toNat=255 - j by omega] at hB;have hb1:=qy a (255 - j);have hX:=sW ((r0*2 ^ j+a / 2 ^ (256 - j))%m) (uE a (255 - j)) m (Nat.mod_lt _ h0) hmB hb1;rw[aM hjt] at hX;have hwr:IntKind.i64.wrap ((255:Int) - (j:Int))=(255:Int) - (j:Int):=by rw[IntKind.wrap_i64];omega
     generalize aax _ _ _=Q at *;generalize uE a (255 - j)=B at *;generalize (r0*2 ^ j+a / 2 ^ (256 - j))%m=r1 at *;generalize hR:(r0*2 ^ (j+1)+a / 2 ^ (256 - (j+1)))%m=r2 at *;have HR:=Lib.hid hR;clear hR hi;have g5_0:=g5.cell_at (i:=0) rfl;have g5_1:=g5.cell_at (i:=1) rfl;have g5_2:=g5.cell_at (i:=2) rfl;have g5_3:=g5.cell_at (i:=3) rfl;have g5_f:=g5.frozen;have g5_l:=g5.lt;have g5_m:=Nat.lt_succ_of_lt g5_l;have g5_n:=Nat.lt_succ_of_lt g5_m;have g6_0:=g6.cell_at (i:=0) rfl;have g6_1:=g6.cell_at (i:=1) rfl;have g6_2:=g6.cell_at (i:=2) rfl;have g6_3:=g6.cell_at (i:=3) rfl;have g6_f:=g6.frozen;have g6_l:=g6.lt;have g6_m:=Nat.lt_succ_of_lt g6_l;have g6_n:=Nat.lt_succ_of_lt g6_m;have g12_0:=g12.cell_at (i:=0) rfl;have g12_1:=g12.cell_at (i:=1) rfl;have g12_2:=g12.cell_at (i:=2) rfl;have g12_3:=g12.cell_at (i:=3) rfl;have g12_f:=g12.frozen;have g12_l:=g12.lt;have g12_m:=Nat.lt_succ_of_lt g12_l;have g12_n:=Nat.lt_succ_of_lt g12_m;go_wp2;refine Kp.wp_region_kpf [9] 10 (by kernel_rfl) (by kernel_rfl) (fun L Fin hL hFin=>?_);have HL:=Lib.hid hL;clear hL;have HF:=Lib.hid hFin;clear hFin;simp only[List.take_succ_cons,List.take_zero,List.drop_succ_cons,List.drop_zero];apply Exists.intro
     repeat ((first|(apply Kp.kp_free;(first|rfl|(rw[HL.out];rfl));(intro w1;go_simp;rfl))|(apply Kp.kp_now;rfl;(first|rfl|(rw[HL.out];rfl));(intro w1 hb1;obtain⟨hcw,hfw⟩:=uJ hb1;clear hb1;go_simp;rfl)));simp only[Act.put,List.setIfInBounds_toArray,List.set_cons_succ,List.set_cons_zero])
     apply Kp.kp_val;rfl;(first|rfl|(rw[HL.out];rfl));(intro w1 hb1 _;obtain⟨hcw,hfw⟩:=uJ hb1;refine Kp.kyp_call (by go_simp;first|rfl|exact⟨rfl,rfl⟩) ?_;refine (hB w1).mono ?_;rintro e w2 ⟨rfl,hb2⟩;exact⟨_,rfl,rfl,hb2⟩);simp only[Act.put,List.setIfInBounds_toArray,List.set_cons_succ,List.set_cons_zero]
     repeat ((first|(apply Kp.kp_free;(first|rfl|(rw[HL.out];rfl));(intro w1;go_simp;rfl))|(apply Kp.kp_now;rfl;(first|rfl|(rw[HL.out];rfl));(intro w1 hb1;obtain⟨hcw,hfw⟩:=uJ hb1;clear hb1;go_simp;rfl)));simp only[Act.put,List.setIfInBounds_toArray,List.set_cons_succ,List.set_cons_zero])
     apply Kp.kp_val;rfl;(first|rfl|(rw[HL.out];rfl));(intro w1 hb1 _;obtain⟨hcw,hfw⟩:=uJ hb1;refine Kp.kyp_call (by go_simp;first|rfl|exact⟨rfl,rfl⟩) ?_;refine (hX w1).mono ?_;rintro e w2 ⟨rfl,hb2⟩;exact⟨_,rfl,rfl,hb2⟩);simp only[Act.put,List.setIfInBounds_toArray,List.set_cons_succ,List.set_cons_zero]
     repeat ((first|(apply Kp.kp_free;(first|rfl|(rw[HL.out];rfl));(intro w1;go_simp;rfl))|(apply Kp.kp_now;rfl;(first|rfl|(rw[HL.out];rfl));(intro w1 hb1;obtain⟨hcw,hfw⟩:=uJ hb1;clear hb1;go_simp;rfl)));simp only[Act.put,List.setIfInBounds_toArray,List.set_cons_succ,List.set_cons_zero])
     apply Kp.kp_nil;refine HF.out _ _ (fun w1 hb1 _=>?_);clear HL HF;simp only[List.drop_succ_cons,List.drop_zero];replace g5:=g5.below hb1 g5_l;replace g6:=g6.below hb1 g6_l;replace g12:=g12.below hb1 g12_l;replace hb2:=hb2.trans' hb1;clear hb1 g5_0 g5_1 g5_2 g5_3 g5_f g5_l g6_0 g6_1 g6_2 g6_3 g6_f g6_l g12_0 g12_1 g12_2 g12_3 g12_f g12_l;have g6_0:=g6.cell_at (i:=0) rfl;have g6_1:=g6.cell_at (i:=1) rfl;have g6_2:=g6.cell_at (i:=2) rfl;have g6_3:=g6.cell_at (i:=3) rfl;have g6_f:=g6.frozen;have g6_l:=g6.lt;have g6_m:=Nat.lt_succ_of_lt g6_l;have g6_n:=Nat.lt_succ_of_lt g6_m;go_wp2;refine NoPanic.normal ?_;go_wp2
     go_roundw
     case rel =>
      have hsz:=hb2.size;have hsw:=hb.size;have hne:w.heap.size+1+1+1<wo.heap.size:=by omega
      refine⟨j+1,by omega,by go_num,(by ((repeat' (with_reducible first|exact g5|refine Blk.drew ?_|refine Blk.drewN ?_ _|refine Blk.far ?_ ?_ _|refine Blk.alloc ?_ _))<;>(first|omega|(simp;done)|(simp;omega)))),?_,(by ((repeat' (with_reducible first|exact g12|refine Blk.drew ?_|refine Blk.drewN ?_ _|refine Blk.far ?_ ?_ _|refine Blk.alloc ?_ _))<;>(first|omega|(simp;done)|(simp;omega)))),(by ((repeat' (with_reducible first|exact hb2|refine Below.drew ?_|refine Below.drewN' ?_ _|refine Below.setCell ?_ ?_ _|refine Below.alloc ?_ ?_ _))<;>(first|omega|(simp;done)|(simp;omega))))⟩;rw[HR.out]
      ((repeat' (with_reducible first|exact g6|refine Blk.drew ?_|refine Blk.drewN ?_ _|apply Blk.put4|refine Blk.far ?_ ?_ _|refine Blk.alloc ?_ _))<;>(first|omega|(simp;done)|(simp;omega)))
     case measure=>first|(simp[intOf];done)|(simp[intOf];omega)
    ·obtain rfl:j=256:=by omega
     have hjd:decide (((256:Nat):Int)<256)=false:=by simp
     go_wp2
     go_roundw
     case rel =>
      refine⟨n+1,by omega,by go_num,g5,?_,hb2⟩;rw[bo,hnx] at g6;exact g6
     case measure=>first|(simp[intOf];done)|(simp[intOf];omega)
  ·obtain rfl:n=2:=by omega
   have hst:aaO hi lo m 2=(hi*zd+lo)%m:=by
    simp only[aaO,kN,if_true,Nat.zero_mul,Nat.zero_add,Nat.one_ne_zero,if_false];rw[Nat.add_mod,Nat.mul_mod,Nat.mod_mod,← Nat.mul_mod,← Nat.add_mod]
   rw[hst] at g6;have hdec:decide (((2:Nat):Int)<2)=false:=by simp
   have g6_0:=g6.cell_at (i:=0) rfl;have g6_1:=g6.cell_at (i:=1) rfl;have g6_2:=g6.cell_at (i:=2) rfl;have g6_3:=g6.cell_at (i:=3) rfl;have g6_f:=g6.frozen;have g6_l:=g6.lt;have g6_m:=Nat.lt_succ_of_lt g6_l;have g6_n:=Nat.lt_succ_of_lt g6_m;have hsz:=hb.size;go_wp2;refine bodyPost_ret (v:=.tuple #[zk ((hi*zd+lo)%m),.int .i64 0]) ?_ rfl ⟨rfl,?_⟩
   ·simp[results,Tryz.results156,go_sem,g6_0,g6_1,g6_2,g6_3]
   ·((repeat' (with_reducible first|exact hb|refine Below.drew ?_|refine Below.drewN' ?_ _|refine Below.setCell ?_ ?_ _|refine Below.alloc ?_ ?_ _))<;>(first|omega|(simp;done)|(simp;omega)))
end
section
open Go.RowKit
def adz (l:List Nat):List Value:=l.map fun n=>.int .u64 ((n:Nat):Int)
theorem oT {l:List Nat} {j:Nat} (h:j<l.length):(adz l)[j]?=some (.int .u64 ((l.getD j 0:Nat):Int)):=by
 unfold adz;rw[List.getElem?_map,List.getD_eq_getElem?_getD,List.getElem?_eq_getElem h];rfl
theorem gv (l:List Nat) (j v:Nat):(adz l).set j (.int .u64 ((v:Nat):Int))=adz (l.set j v):=by
 unfold adz;rw[← List.map_set]
theorem qE (a:Nat) (w:World):(Instr.index 24 (zk a) (.int .i64 0)).run Tryz.prog w=.ok (.int .u64 ((wd 0 a:Nat):Int)) w:=by kernel_rfl
theorem qK (a:Nat) (w:World):(Instr.index 24 (zk a) (.int .i64 1)).run Tryz.prog w=.ok (.int .u64 ((wd 1 a:Nat):Int)) w:=by kernel_rfl
theorem qD (a:Nat) (w:World):(Instr.index 24 (zk a) (.int .i64 2)).run Tryz.prog w=.ok (.int .u64 ((wd 2 a:Nat):Int)) w:=by kernel_rfl
theorem qQ (a:Nat) (w:World):(Instr.index 24 (zk a) (.int .i64 3)).run Tryz.prog w=.ok (.int .u64 ((wd 3 a:Nat):Int)) w:=by kernel_rfl
theorem tH (a:Nat) {i:Nat} (h:i<4) (w:World):(Instr.index 24 (zk a) (.int .i64 (i:Int))).run Tryz.prog w=.ok (.int .u64 ((wd i a:Nat):Int)) w:=by
 have:i=0∨i=1∨i=2∨i=3:=by omega
 rcases this with rfl|rfl|rfl|rfl
 ·exact qE a w
 ·exact qK a w
 ·exact qD a w
 ·exact qQ a w
theorem run_arrayAt (g o c:Nat) (w:World):(Instr.arrayAt 24 (.slice (some ⟨g,o,none⟩) 4 c)).run Tryz.prog w=.ok (.pointer (some ⟨g,o,none⟩)) w:=by
 simp[Instr.arrayAt,go_sem,Tryz.underlying24]
set_option maxRecDepth 100000 in
theorem cm (a b:Nat) (ha:a<zd) (hb:b<zd) (w:World) :
  Calls Tryz.prog 155 #[zk a,zk b] w fun e w'=>e=.returned (.tuple #[zk (a*b%zd),zk (a*b / zd)])∧Below w.heap.size w w':=by
 go_enter Tryz.func155,Tryz.ntmps155
 go_wp2;generalize hW:((((w.alloc _).alloc _).alloc _).alloc _).alloc _=W;have g6:Blk W (w.heap.size+1+1+1+1) 288 (adz (List.replicate 8 0)):=by subst hW;exact Blk.new' (by simp)
 have g3:Blk W (w.heap.size+1) 24 (zc b):=by subst hW;exact (((Blk.new' (by simp)).alloc _).alloc _).alloc _
 have g4:∃ cs,Blk W (w.heap.size+1+1) 24 cs∧cs.length=4:=by subst hW;exact⟨_,((Blk.new' (by simp)).alloc _).alloc _,rfl⟩
 have g5:∃ cs,Blk W (w.heap.size+1+1+1) 24 cs∧cs.length=4:=by subst hW;exact⟨_,(Blk.new' (by simp)).alloc _,rfl⟩
 have hbw:Below w.heap.size w W:=by subst hW;exact (((((Ext.rfl' w).alloc' _).alloc' _).alloc' _).alloc' _).alloc' _
 clear hW
 go_loopw [13] (fun i wr=>∃ (n:Nat) (l:List Nat),n≤4∧i=.int .i64 n∧uG a b n 0 0 l∧Blk wr (w.heap.size+1+1+1+1) 288 (adz l)∧Blk wr (w.heap.size+1) 24 (zc b) ∧
   (∃ cs,Blk wr (w.heap.size+1+1) 24 cs∧cs.length=4)∧(∃ cs,Blk wr (w.heap.size+1+1+1) 24 cs∧cs.length=4)∧Below w.heap.size w wr) (fun i _=>4 - (intOf i).toNat)
 case atStart=>exact⟨0,_,by omega,rfl,uG.start a b,g6,g3,g4,g5,hbw⟩
 case round =>
  clear g6 g3 g4 g5 hbw;obtain⟨n,l,hn,rfl,hI,g6,g3,g4,g5,hbw⟩:=hrel;have HI:=Lib.hid hI;clear hI;have G4:=Lib.hid g4;have G5:=Lib.hid g5;clear g4 g5
  by_cases hlt:n<4
  ·have hix:=tH a hlt;have hdec:decide ((n:Int)<4)=true:=by simp;omega
   have d0:=g3.cell_at (i:=0) rfl;have d1:=g3.cell_at (i:=1) rfl;have d2:=g3.cell_at (i:=2) rfl;have d3:=g3.cell_at (i:=3) rfl;obtain⟨wo,rfl⟩ : ∃ wo:World,wo=wr:=⟨_,rfl⟩;go_wp2
   go_loopw [9,18] (fun m i wr=>∃ (k mm:Nat) (l2:List Nat),k≤4∧i=.int .i64 k∧m=.int .u64 (mm:Nat)∧uG a b n k mm l2∧Blk wr (w.heap.size+1+1+1+1) 288 (adz l2)∧Blk wr (w.heap.size+1) 24 (zc b) ∧
    (∃ cs,Blk wr (w.heap.size+1+1) 24 cs∧cs.length=4)∧(∃ cs,Blk wr (w.heap.size+1+1+1) 24 cs∧cs.length=4)∧Below w.heap.size w wr) (fun _ i _=>4 - (intOf i).toNat)
   case atStart=>exact⟨0,0,l,by omega,rfl,rfl,HI.out,g6,g3,G4.out,G5.out,hbw⟩
   case round =>
    clear d0 d1 d2 d3 g6 g3 G4 G5 hbw HI hix hdec;obtain⟨k,mm,l2,hk,rfl,rfl,hI,g6,g3,g4,g5,hbw⟩:=hrel;have hmm:mm≤18446744073709551615:=by have:=hI.2.2.1;omega
    have hlen:=hI.1
    by_cases hkt:k<4
    ·have hix:=tH b hkt;have hdec:decide ((k:Int)<4)=true:=by simp;omega
     have hstep:=hI.step hlt hkt;have hc:=g6.cell_at (oT (l:=l2) (j:=n+k) Om);have hf:=g6.frozen (n+k);have hlx:l2.getD (n+k) 0<18446744073709551616:=by
      rw[List.getD_eq_getElem?_getD,List.getElem?_eq_getElem Om,Option.getD_some];exact hI.2.1 _ (List.getElem_mem _)
     have hct:=jB (wd n a) (wd k b) (l2.getD (n+k) 0) mm (yj n a) (yj k b) hlx Om;generalize hX:l2.getD (n+k) 0=X at *;have HX:=Lib.hid hX;clear hX;generalize hR:(wd n a*wd k b+X+mm)%18446744073709551616=R at *;generalize hH:(wd n a*wd k b+X+mm) / 18446744073709551616=H at *;have HI:=Lib.hid hI;have HS:=Lib.hid hstep;have HL:=Lib.hid hlen;have G4:=Lib.hid g4;have G5:=Lib.hid g5;have HC:=Lib.hid hct;clear hI hstep hlen g4 g5 hct hR hH
     go_wp2_with (go_at_call 194;refine (HC.out _).mono ?_;rintro e w1 ⟨rfl,rfl⟩)
     go_roundw
     case rel =>
      refine⟨k+1,H,l2.set (n+k) R,by omega,by go_num,rfl,HS.out,?_,g3.far (by simp) _,?_,?_,hbw.setCell (by simp;omega) _⟩
      ·have:=g6.set_ (n+k) (.int .u64 ((R:Nat):Int));rw[gv] at this;exact this
      ·obtain⟨cs,h1,h2⟩:=G4.out;exact⟨cs,h1.far (by simp) _,h2⟩
      ·obtain⟨cs,h1,h2⟩:=G5.out;exact⟨cs,h1.far (by simp) _,h2⟩
     case measure=>simp[intOf];omega
    ·obtain rfl:k=4:=by omega
     have hc:=g6.cell_at (oT (l:=l2) (j:=n+4) Om);have hf:=g6.frozen (n+4);have hnx:=hI.next hb hlt
     have HS:=Lib.hid hnx;have G4:=Lib.hid g4;have G5:=Lib.hid g5;clear hI hlen g4 g5 hnx;go_wp2
     go_roundw
     case rel =>
      refine⟨n+1,l2.set (n+4) mm,by omega,by go_num,HS.out,?_,g3.far (by simp) _,?_,?_,hbw.setCell (by simp;omega) _⟩
      ·have:=g6.set_ (n+4) (.int .u64 ((mm:Nat):Int));rw[gv] at this;exact this
      ·obtain⟨cs,h1,h2⟩:=G4.out;exact⟨cs,h1.far (by simp) _,h2⟩
      ·obtain⟨cs,h1,h2⟩:=G5.out;exact⟨cs,h1.far (by simp) _,h2⟩
     case measure=>simp[intOf];omega
  ·obtain rfl:n=4:=by omega
   have hI:=HI.out;have hend:=afc hI ha;have hlen:=hI.1;have hbl:∀ j,j<8→l.getD j 0<18446744073709551616:=fun j hj=>by
    rw[List.getD_eq_getElem?_getD,List.getElem?_eq_getElem Om,Option.getD_some];exact hI.2.1 _ (List.getElem_mem _)
   have q:=fun j (hj:j<8)=>g6.cell_at (oT (l:=l) (j:=j) Om);have e1:=tZ (hbl 0 Om) (hbl 1 Om) (hbl 2 Om) (hbl 3 Om);have e2:=tZ (hbl 4 Om) (hbl 5 Om) (hbl 6 Om) (hbl 7 Om);rw[hend.1] at e1;rw[hend.2] at e2;have c0:=q 0 Om;have c1:=q 1 Om;have c2:=q 2 Om;have c3:=q 3 Om;have c4:=q 4 Om;have c5:=q 5 Om;have c6:=q 6 Om;have c7:=q 7 Om;have E1:=Lib.hid e1;have E2:=Lib.hid e2;obtain⟨cs4,k4,l4⟩:=G4.out;obtain⟨cs5,k5,l5⟩:=G5.out
   match cs4,l4,cs5,l5 with
   | [p0,p1,p2,p3],_,[r0,r1,r2,r3],_ =>
   have a0:=k4.cell_at (i:=0) rfl;have a1:=k4.cell_at (i:=1) rfl;have a2:=k4.cell_at (i:=2) rfl;have a3:=k4.cell_at (i:=3) rfl;have b0:=k5.cell_at (i:=0) rfl;have b1:=k5.cell_at (i:=1) rfl;have b2:=k5.cell_at (i:=2) rfl;have b3:=k5.cell_at (i:=3) rfl;have ff4:=k4.frozen;have ff5:=k5.frozen;clear hend hlen hbl q e1 e2 G4 G5 HI hI;generalize l.getD 0 0=x0 at *;generalize l.getD 1 0=x1 at *;generalize l.getD 2 0=x2 at *;generalize l.getD 3 0=x3 at *;generalize l.getD 4 0=x4 at *;generalize l.getD 5 0=x5 at *;generalize l.getD 6 0=x6 at *;generalize l.getD 7 0=x7 at *;have hat1:=fun w'=>run_arrayAt (w.heap.size+1+1+1+1) 0 8 w';have hat2:=fun w'=>run_arrayAt (w.heap.size+1+1+1+1) 4 4 w';go_wp2;go_region;go_wp2;refine bodyPost_ret (v:=.tuple #[zk (a*b%zd),zk (a*b / zd)]) ?_ rfl ⟨rfl,?_⟩
   ·rw[← E1.out,← E2.out];simp[results,Tryz.results155,go_sem,a0,a1,a2,a3,b0,b1,b2,b3]
   ·((repeat' (with_reducible first|exact hbw|refine Below.drew ?_|refine Below.drewN' ?_ _|refine Below.setCell ?_ ?_ _|refine Below.alloc ?_ ?_ _))<;>(first|omega|(simp;done)|(simp;omega)))
end
end Go.Proofs.YtiiefkchpicncaaGreatDoor
