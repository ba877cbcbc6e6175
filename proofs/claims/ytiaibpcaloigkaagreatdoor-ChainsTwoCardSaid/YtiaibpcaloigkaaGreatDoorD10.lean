/- Part 10 of the proof. -/
import Derived.Test.YtiaibpcaloigkaaGreatDoorD08
import Derived.Test.YtiaibpcaloigkaaGreatDoorD09
import Derived.Laws.BitsAllLaws
import Derived.Deep.DeepCutAuto
import Derived.Deep.CutBlock
set_option linter.unusedSimpArgs false
set_option linter.unusedVariables false
namespace Go.Proofs.YtiaibpcaloigkaaGreatDoor
section
open Go.RowKit
theorem eF {a k:Nat} (hx:wd k a=0) (hz:∀ j,k<j→j<4→wd j a=0) (j:Nat) (h1:k≤j) (h2:j<4):wd j a=0:=by
 rcases Nat.lt_or_eq_of_le h1 with h|h
 ·exact hz j h h2
 ·subst h;exact hx
theorem ix (a:Nat) (ha:a<ze) (w:World) :
  Calls Tryz.prog 131 #[zi a] w fun e w'=>e=.returned (.int .i64 (zF a:Nat))∧Below w.heap.size w w':=by
 go_enter Tryz.func131,Tryz.ntmps131
 go_wp2;generalize hW:w.alloc _=W;have hg0:Blk W w.heap.size 24 (zc a):=by subst hW;exact Blk.new _ _ _
 have hb:Below w.heap.size w W:=by subst hW;exact (Ext.rfl' w).alloc' _
 clear hW
 go_loop [3] (fun i=>(i=.int .i64 (-1)∧∀ j,j<4→wd j a=0)∨∃ k:Nat,k<4∧i=.int .i64 k∧∀ j,k<j→j<4→wd j a=0) (fun i=>(intOf i+1).toNat)
 case atStart=>exact .inr ⟨3,by omega,rfl,fun j h1 h2=>by omega⟩
 case round =>
  rcases hrel with ⟨rfl,hz⟩|⟨k,hk,rfl,hz⟩
  ·have hres:=mu ha hz;subst hres;clear hz;go_wp2
   go_ret
   exact⟨by simp[zF],hb⟩
  ·have c0:=hg0.cell_at (vc a hk)
   by_cases hx:wd k a=0
   ·have Hz:=Lib.hid hz;clear hz;go_wp2
    go_round
    case rel =>
     by_cases h0:k=0
     ·subst h0;exact .inl ⟨rfl,fun j hj=>eF hx Hz.out j Om hj⟩
     ·exact .inr ⟨k - 1,by omega,by rw[show ((k - 1:Nat):Int)=(k:Int) - 1 by omega],fun j h1 h2=>eF hx Hz.out j Om h2⟩
    case measure=>first|(simp[intOf];done)|(simp[intOf];omega)
   ·have hres:=qA ha hk hz hx;have Hr:=Lib.hid hres;clear hres hz;have hpos:0<wd k a:=by omega
    have hle:=afy k a;have hlb:=yU (k:=64) (z8 k a);have hbl:=bitLen_eq (z8 k a)
    go_wp2_with (go_at_call 181;refine (Tryz.bits_Len64 _ _ Om Om).mono ?_;rintro e w1 ⟨rfl,rfl⟩)
    go_ret
    refine⟨?_,hb⟩;rw[Hr.out];exact congrArg (fun z:Int=>Ending.returned (.int .i64 z)) Sm
theorem and_one (n:Nat) (h:n<18446744073709551616):bits .and .u64 (n:Int) 1=((n%2:Nat):Int):=by
 have:=u64_and_nat n 1 h Om;rw[nat_mask1] at this;exact this
theorem mP (a b c d:Nat) (ha:a<18446744073709551616) (hb:b<18446744073709551616) (hc:c<18446744073709551616) (hd:d<18446744073709551616) :
  a*b / 18446744073709551616≤18446744073709551614∧a*b%18446744073709551616<18446744073709551616 ∧
  (a*b%18446744073709551616+c) / 18446744073709551616≤1∧((a*b%18446744073709551616+c)%18446744073709551616+d) / 18446744073709551616≤1 ∧
  a*b / 18446744073709551616+(a*b%18446744073709551616+c) / 18446744073709551616+((a*b%18446744073709551616+c)%18446744073709551616+d) / 18446744073709551616≤18446744073709551615 ∧
  (a*b+c+d)%18446744073709551616=((a*b%18446744073709551616+c)%18446744073709551616+d)%18446744073709551616 ∧
  (a*b+c+d) / 18446744073709551616=a*b / 18446744073709551616+(a*b%18446744073709551616+c) / 18446744073709551616+((a*b%18446744073709551616+c)%18446744073709551616+d) / 18446744073709551616:=by
 have hm:a*b≤18446744073709551615*18446744073709551615:=Nat.mul_le_mul Om Om;generalize a*b=p at *;omega
def uC (a:Nat):Bool:=decide (a<18446744073709551616)
theorem qx (a:Nat):decide (((zF a:Nat):Int)≤64)=uC a:=by
 unfold uC;have:=yQ (x:=a) (k:=64);rw[show (2:Nat) ^ 64=18446744073709551616 by decide] at this
 by_cases h:a<18446744073709551616<;>simp[h]<;>omega
theorem qW (a:Nat) (ha:a<ze) (w:World) :
  Calls Tryz.prog 223 #[zi a] w fun e w'=>e=.returned (.bool (uC a))∧Below w.heap.size w w':=by
 have hs:=qx a
 go_enter Tryz.func223,Tryz.ntmps223
 go_wp2_with (go_at_call 131;refine (ix a ha _).mono ?_;rintro e w1 ⟨rfl,hb1⟩)
 go_ret
 exact⟨by simp,((Ext.rfl' w).alloc' _).trans' hb1⟩
abbrev cM:List Value:=[.int .u64 0,.int .u64 0,.int .u64 0,.int .u64 0]
theorem or_bit (r b:Nat) (hr:r<ze) (hb:b≤1) :
  bits .or .u64 ((wd 0 ((r+r)%ze):Nat):Int) (b:Int)=((wd 0 ((r+r)%ze+b):Nat):Int) ∧
  wd 1 ((r+r)%ze)=wd 1 ((r+r)%ze+b)∧wd 2 ((r+r)%ze)=wd 2 ((r+r)%ze+b)∧wd 3 ((r+r)%ze)=wd 3 ((r+r)%ze+b)∧(r+r)%ze+b<ze:=by
 have hev:∃ k,(r+r)%ze=2*k∧2*k+b<ze:=by
  refine⟨r%57896044618658097711785492504343953926634992332820282019728792003956564819968,?_,?_⟩
  ·rw[← Nat.two_mul,show ze=2*57896044618658097711785492504343953926634992332820282019728792003956564819968 by decide,Nat.mul_mod_mul_left]
  ·have:=Nat.mod_lt r (show 0<57896044618658097711785492504343953926634992332820282019728792003956564819968 by omega);have h:2*(r%57896044618658097711785492504343953926634992332820282019728792003956564819968)+b<115792089237316195423570985008687907853269984665640564039457584007913129639936:=by omega
   exact h
 obtain⟨k,hk,hlt⟩:=hev;rw[hk];have hev2:∃ j,wd 0 (2*k)=2*j∧wd 0 (2*k+b)=2*j+b:=⟨wd 0 (2*k) / 2,by simp only[wd];omega,by simp only[wd];omega⟩;obtain⟨j,hj,hj2⟩:=hev2;have hjl:=z8 0 (2*k);refine⟨?_,?_,?_,?_,hlt⟩
 ·rw[u64_or_nat _ _ (z8 _ _) Om,hj,hj2];have:=Nat.two_pow_add_eq_or_of_lt (i:=1) (b:=b) Om j;rw[← this]
 all_goals (simp only[wd];omega)
def dI (r b m:Nat):Nat:=(r+r+b)%m
def cj (r b m:Nat):Nat:=(r+r+b) / m
theorem abq {r b m:Nat} (hr:r<m) (hm:m<ze) (hb:b≤1) (h:r+r+b<m) :
  (r+r) / ze=0∧bw ((r+r)%ze+b) m 0=1∧dI r b m=(r+r)%ze+b∧cj r b m=0:=by
 have e:(r+r)%ze=r+r:=Nat.mod_eq_of_lt Om;refine⟨Nat.div_eq_of_lt Om,?_,?_,Nat.div_eq_of_lt h⟩
 ·rw[e];simp[bw];omega
 ·rw[e];exact Nat.mod_eq_of_lt h
theorem bF {r b m:Nat} (hr:r<m) (hm:m<ze) (hb:b≤1) (h:m≤r+r+b) :
  ((r+r) / ze=1∨((r+r) / ze=0∧bw ((r+r)%ze+b) m 0=0))∧dI r b m=((r+r)%ze+b+ze - m)%ze∧cj r b m=1:=by
 have hq:cj r b m=1:=by
  unfold cj;rw[Nat.div_eq_iff Om];omega
 have hrm:dI r b m=r+r+b - m:=by
  unfold dI;rw[Nat.mod_eq_sub_mod h,Nat.mod_eq_of_lt Om]
 rw[hrm,hq]
 by_cases hc:r+r<ze
 ·have e:(r+r)%ze=r+r:=Nat.mod_eq_of_lt hc;refine⟨.inr ⟨Nat.div_eq_of_lt hc,by rw[e];simp[bw];omega⟩,?_,rfl⟩;rw[e,show r+r+b+ze - m=(r+r+b - m)+ze by omega,Nat.add_mod_right,Nat.mod_eq_of_lt Om]
 ·have e:(r+r)%ze=r+r - ze:=by rw[Nat.mod_eq_sub_mod Om,Nat.mod_eq_of_lt Om]
  refine⟨.inl ?_,?_,rfl⟩
  ·rw[Nat.div_eq_iff (by unfold ze;omega)];omega
  ·rw[e,show r+r - ze+b+ze - m=r+r+b - m by omega,Nat.mod_eq_of_lt Om]
theorem wrapN (n:Nat):IntKind.u64.wrap (n:Int)=((n%18446744073709551616:Nat):Int):=by rw[IntKind.wrap_u64];omega
theorem jD {n:Nat} (h:n<18446744073709551616):IntKind.u64.wrap (n:Int)=(n:Int):=by rw[wrapN,Nat.mod_eq_of_lt h]
theorem divN (a b:Nat) (ha:a<18446744073709551616) (hb:0<b):IntKind.u64.wrap ((a:Int) / (b:Int))=(a:Int) / (b:Int):=by
 have:((a:Int) / (b:Int))=((a / b:Nat):Int):=by simp
 rw[this,jD (Nat.lt_of_le_of_lt (Nat.div_le_self _ _) ha)]
theorem aeN (a b:Nat):IntKind.u64.wrap ((a:Int)*(b:Int))=((a*b%18446744073709551616:Nat):Int):=by rw[← wrapN];simp
theorem aa6 (a:Nat):IntKind.u64.wrap ((a:Int)*4294967296)=((a*4294967296%18446744073709551616:Nat):Int):=aeN a 4294967296
theorem abE (a:Nat) (h:a<4294967296):IntKind.u64.wrap (4294967296*(a:Int))=((4294967296*a:Nat):Int):=by
 have:=aeN 4294967296 a;rw[Nat.mod_eq_of_lt Om] at this;exact this
theorem addW (a b:Nat):IntKind.u64.wrap ((a:Int)+(b:Int))=(((a+b)%18446744073709551616:Nat):Int):=by rw[← wrapN];simp
theorem af2 {a b n:Nat} (hn:n<18446744073709551616) (h:(b+n)%18446744073709551616=a%18446744073709551616):IntKind.u64.wrap ((a:Int) - (b:Int))=(n:Int):=by
 rw[IntKind.wrap_u64];omega
theorem aj (z r u d:Nat) (h:z+r=u*4294967296+d):(z%18446744073709551616+r)%18446744073709551616=(u*4294967296%18446744073709551616+d)%18446744073709551616%18446744073709551616:=by omega
theorem afo {u d Y:Nat} (hu:u<Y) (hY:Y<18446744073709551616) :
  (((u*4294967296+d) / Y)*Y%18446744073709551616+(u*4294967296+d)%Y)%18446744073709551616=(u*4294967296%18446744073709551616+d)%18446744073709551616%18446744073709551616:=by
 have h:=Nat.div_add_mod (u*4294967296+d) Y;rw[Nat.mul_comm] at h;exact aj _ _ _ _ h
theorem agb (a b:Nat):(a:Int).tmod (b:Int)=(a:Int)%(b:Int):=Int.tmod_eq_emod_of_nonneg Om
set_option maxRecDepth 100000 in
theorem r7 (lo y:Nat) (h1:lo<18446744073709551616) (h2:y<18446744073709551616) (h0:0<y) (w:World) :
  Calls Tryz.prog 184 #[.int .u64 0,.int .u64 (lo:Int),.int .u64 (y:Int)] w fun e w'=>e=.returned (.tuple #[.int .u64 ((lo / y:Nat):Int),.int .u64 ((lo%y:Nat):Int)])∧Below w.heap.size w w':=by
 have hy1:((y:Int) == 0)=false:=by simp;omega
 have hy2:decide ((y:Int)≤0)=false:=by simp;omega
 have hy3:1≤(y:Int):=by omega
 go_enter Tryz.func184,Tryz.ntmps184
 go_wp2;refine Kp.wp_region_kpl 8 Kr Kr (fun L Fin hL hFin=>?_);have HL:=Lib.hid hL;clear hL;have HF:=Lib.hid hFin;clear hFin;simp only[List.take_succ_cons,List.take_zero,List.drop_succ_cons,List.drop_zero];apply Exists.intro
 repeat ((first|(apply Kp.kp_free;(first|rfl|(rw[HL.out];rfl));(intro w1;go_simp;rfl))|(apply Kp.kp_now;rfl;(first|rfl|(rw[HL.out];rfl));(intro w1 hb1;obtain⟨hcw,hfw⟩:=aeg hb1;clear hb1;go_simp;rfl)));simp only[Act.put,List.setIfInBounds_toArray,List.set_cons_succ,List.set_cons_zero])
 apply Kp.kp_nil;refine HF.out _ _ (fun w1 hb1 _=>?_);clear HL HF;simp only[List.drop_succ_cons,List.drop_zero];go_wp2
 go_ret2
 refine⟨?_,hb1⟩;show Ending.returned (.tuple #[.int .u64 (IntKind.u64.wrap ((lo:Int) / (y:Int))),.int .u64 ((lo:Int).tmod (y:Int))])=_;rw[divN lo y h1 h0,agb lo y];simp
theorem af7 (D E:Nat) (hD:D<4294967296) (hE:E<4294967296):∃ z1:Nat,IntKind.u64.wrap ((D:Int)*4294967296)=(z1:Int)∧IntKind.u64.wrap ((z1:Int)+(E:Int))=((D*4294967296+E:Nat):Int) :=
 ⟨D*4294967296,by rw[aa6,Nat.mod_eq_of_lt Om],by rw[addW,Nat.mod_eq_of_lt Om]⟩
def agc (u d h l Y q0 p0 r0 D R x1 x2 x3:Nat):Prop :=
 IntKind.u64.wrap (q0:Int)=(q0:Int)∧(u:Int) / (h:Int)=(q0:Int)∧IntKind.u64.wrap ((q0:Int)*(h:Int))=(p0:Int)∧IntKind.u64.wrap ((u:Int) - (p0:Int))=(r0:Int) ∧
 r0<4294967296∧Dig u d h l q0 r0∧D<4294967296∧R<Y∧IntKind.u64.wrap ((u:Int)*4294967296)=(x1:Int)∧IntKind.u64.wrap ((x1:Int)+(d:Int))=(x2:Int) ∧
 IntKind.u64.wrap ((D:Int)*(Y:Int))=(x3:Int)∧IntKind.u64.wrap ((x2:Int) - (x3:Int))=(R:Int)∧D=(u*4294967296+d) / (h*4294967296+l)∧R=(u*4294967296+d)%(h*4294967296+l)
theorem pack (u d h l Y:Nat) (hYe:Y=h*4294967296+l) (hu:u<Y) (hY:Y<18446744073709551616) (hh1:2147483648≤h) (hh2:h<4294967296) (hl:l<4294967296) (hd2:d<4294967296) :
  ∃ q0 p0 r0 D R x1 x2 x3,agc u d h l Y q0 p0 r0 D R x1 x2 x3:=by
 have hu64:u<18446744073709551616:=by omega
 have hpos:0<h*4294967296+l:=by omega
 have P1:=divN u h hu64 Om;have P1' : (u:Int) / (h:Int)=((u / h:Nat):Int):=by simp
 rw[P1'] at P1;have P2:=aeN (u / h) h;have hle1:u / h*h≤u:=Nat.div_mul_le_self u h;rw[Nat.mod_eq_of_lt Om] at P2;have P3:IntKind.u64.wrap ((u:Int) - ((u / h*h:Nat):Int))=((u%h:Nat):Int):=af2 (Nat.lt_of_le_of_lt (Nat.mod_le _ _) hu64) (by rw[Nat.mul_comm,Nat.div_add_mod]);have hr1:u%h<4294967296:=Nat.lt_of_lt_of_le (Nat.mod_lt _ Om) Om;have hlt1:=Nat.mod_lt (u*4294967296+d) hpos;have P7:=af2 Om (afo (u:=u) (d:=d) (Y:=h*4294967296+l) Om Om)
 exact⟨_,_,_,(u*4294967296+d) / (h*4294967296+l),(u*4294967296+d)%(h*4294967296+l),_,_,_,P1,P1',P2,P3,hr1,Dig.start hh1 hd2,
  ai Om hd2,by rw[hYe];exact hlt1,aa6 u,addW _ d,aeN _ Y,by rw[hYe];exact P7,rfl,rfl⟩
theorem testW {q l r d:Nat} (hq:q<4294967296) (hl:l<4294967296) (hr:r<4294967296) (hd:d<4294967296) :
  IntKind.u64.wrap ((q:Int)*(l:Int))=((q*l:Nat):Int)∧IntKind.u64.wrap (4294967296*(r:Int))=((4294967296*r:Nat):Int) ∧
  IntKind.u64.wrap (((4294967296*r:Nat):Int)+(d:Int))=((4294967296*r+d:Nat):Int):=by
 have h1:q*l≤4294967295*4294967295:=Nat.mul_le_mul Om Om;refine⟨?_,abE r hr,?_⟩
 ·rw[aeN,Nat.mod_eq_of_lt Om]
 ·rw[addW,Nat.mod_eq_of_lt Om]
set_option maxRecDepth 100000 in
theorem rJ (hi lo y:Nat) (h1:lo<18446744073709551616) (h2:y<18446744073709551616) (h0:0<hi) (h3:hi<y) (w:World) :
  Calls Tryz.prog 184 #[.int .u64 (hi:Int),.int .u64 (lo:Int),.int .u64 (y:Int)] w fun e w' =>
   e=.returned (.tuple #[.int .u64 (((hi*18446744073709551616+lo) / y:Nat):Int),.int .u64 (((hi*18446744073709551616+lo)%y:Nat):Int)])∧Below w.heap.size w w':=by
 have hy1:((y:Int) == 0)=false:=by simp;omega
 have hy2:decide (y≤hi)=false:=by simp;omega
 have hy3:1≤(y:Int):=by omega
 have hh1:((hi:Int) == 0)=false:=by simp;omega
 have hbl:=bitLen_eq h2;have hb64:=yU (k:=64) h2;obtain⟨_,k1,k2,k3⟩:=cX Om h2;obtain⟨S,hS⟩ : ∃ S,S=64 - zF y:=⟨_,rfl⟩
 have hlz:∀ w,Calls Tryz.prog 221 #[.int .u64 (y:Int)] w fun e w'=>e=.returned (.int .i64 (S:Nat))∧w=w':=fun w =>
  (Tryz.bits_LeadingZeros64 _ w Om Om).mono fun e w' h=>⟨by rw[h.1,hS];congr 2;simp[hbl];omega,h.2.symm⟩
 rw[← hS] at k2 k3;have hS63:S<64:=by omega
 obtain⟨n1,n2⟩:=ie hS63 k3 h3 h1;have hor:=bs (hi:=hi) hS63 h1;have nd:=aat (U:=hi*18446744073709551616+lo) (y:=y) (Nat.two_pow_pos S);have hA:hi*2 ^ S<18446744073709551616:=Nat.lt_of_le_of_lt (Nat.mul_le_mul_right _ (Nat.le_of_lt h3)) k3;have hL:lo / 2 ^ (64 - S)<18446744073709551616:=Nat.lt_of_le_of_lt (Nat.div_le_self _ _) h1;have E1:IntKind.u64.wrap ((y:Int)*2 ^ S)=((y*2 ^ S:Nat):Int):=by rw[← Nat.mod_eq_of_lt k3,← wrapN];simp
 have E4:IntKind.u64.wrap ((hi:Int)*2 ^ S)=((hi*2 ^ S:Nat):Int):=by rw[← Nat.mod_eq_of_lt hA,← wrapN];simp
 have E5:bits .or .u64 ((hi*2 ^ S:Nat):Int) ((lo:Int) / 2 ^ (64 - S))=((hi*2 ^ S+lo / 2 ^ (64 - S):Nat):Int):=by
  rw[← hor,← u64_or_nat _ _ hA hL];simp
 have E6:IntKind.u64.wrap ((lo:Int)*2 ^ S)=((lo*2 ^ S%18446744073709551616:Nat):Int):=by rw[← wrapN];simp
 rw[← nd.1,← nd.2,← n2];have HP:Hid (0<2 ^ S):=Nat.two_pow_pos S;have hV:lo*2 ^ S%18446744073709551616<18446744073709551616:=Nat.mod_lt _ Om;clear nd hor n2 hbl hb64 h3 hy3;generalize hi*2 ^ S+lo / 2 ^ (64 - S)=u at *;generalize lo*2 ^ S%18446744073709551616=V at *;generalize hi*2 ^ S=A at *;generalize y*2 ^ S=Y at *;have E3:bits .and .u64 (Y:Int) 4294967295=((Y%4294967296:Nat):Int):=by have:=u64_and_nat Y 4294967295 k3 Om;rw[nat_mask32] at this;exact this
 have E8:bits .and .u64 (V:Int) 4294967295=((V%4294967296:Nat):Int):=by have:=u64_and_nat V 4294967295 hV Om;rw[nat_mask32] at this;exact this
 obtain⟨h,hh⟩ : ∃ h,h=Y / 4294967296:=⟨_,rfl⟩;obtain⟨d1,hd1⟩ : ∃ h,h=V / 4294967296:=⟨_,rfl⟩;have E2:(Y:Int) / 4294967296=(h:Int):=by omega
 have E7:(V:Int) / 4294967296=(d1:Int):=by omega
 have hh1' : 2147483648≤h:=by omega
 have hh2:h<4294967296:=by omega
 have hd2:d1<4294967296:=by omega
 have hYe:Y=h*4294967296+Y%4294967296:=by omega
 have hVe:V=d1*4294967296+V%4294967296:=by omega
 have hl:Y%4294967296<4294967296:=by omega
 have hd0:V%4294967296<4294967296:=by omega
 generalize Y%4294967296=l at *;generalize V%4294967296=d0 at *;rw[hYe,hVe,← hYe];obtain⟨q0,p0,r0,D,R,x1,x2,x3,a1,a2,a3,a4,a5,a6,a7,a8,a9,a10,a11,a12,a13,a14⟩:=pack u d1 h l Y hYe n1 k3 hh1' hh2 hl hd2;obtain⟨q0',p0',r0',D',R',y1,y2,y3,b1,b2,b3,b4,b5,b6,b7,b8,b9,b10,b11,b12,b13,b14⟩:=pack R d0 h l Y hYe a8 k3 hh1' hh2 hl hd0;have two:=jN (u:=u) (d1:=d1) (d0:=d0) (Y:=Y) Om rfl rfl;rw[← hYe] at a13 a14 b13 b14;rw[← a13,← a14,← b13,← b14] at two;rw[← two.1,← two.2];obtain⟨z1,c1,c2⟩:=af7 D D' Om Om;obtain⟨z2,hz2⟩ : ∃ z,z=D*4294967296+D':=⟨_,rfl⟩;rw[← hz2] at c2 ⊢;clear hz2;have HY:=Lib.hid hYe;have HDE1:Hid (D=(u*4294967296+d1) / (h*4294967296+l)):=by rw[← hYe];exact a13
 have HDE2:Hid (D'=(R*4294967296+d0) / (h*4294967296+l)):=by rw[← hYe];exact b13
 have hYlo:h*4294967296≤Y:=by omega
 have hYhi:Y≤h*4294967296+l:=by omega
 have HDIG1:=Lib.hid a6;have HDIG2:=Lib.hid b6;clear hYe hVe a13 a14 b13 b14 two a6 b6 hh hd1 hS k2;have HZ:=Lib.hid hlz;clear hlz
 go_enter Tryz.func184,Tryz.ntmps184
 go_upto_block 0 with (go_at_call 221;refine (HZ.out _).mono ?_;rintro e w1 ⟨rfl,rfl⟩)
 go_cut [15,16] (fun q r w'=>q=.int .u64 (D:Int)∧w'=w)
 case first =>
  have HDE:=HDE1;have HDIG:=HDIG1;clear HDE1 HDE2 HDIG1 HDIG2 b1 b2 b3 b4 b5 b7 b8 b9 b10 b11 b12 c1 c2;go_wp2
  go_loop [16,15] (fun r q=>∃ qn rn:Nat,q=.int .u64 (qn:Nat)∧r=.int .u64 (rn:Nat)∧Hid (Dig u d1 h l qn rn)∧rn<4294967296) (fun _ q=>(intOf q).toNat)
  case atStart=>exact⟨q0,r0,rfl,rfl,HDIG,by assumption⟩
  case round =>
   obtain⟨q,r,rfl,rfl,HQ,hr⟩:=hrel;have hle:=HQ.out.le Om hh1';have hq33:=hle.1;clear hle;have down:(4294967296≤q∨4294967296*r+d1<q*l)→1≤q∧Hid (Dig u d1 h l (q - 1) (r+h)):=fun hc=>HQ.out.down Om Om hh1' hc
   by_cases cA:4294967296≤q
   ·obtain⟨g1,g2⟩:=down (.inl cA);clear down;have tA:decide ((4294967296:Int)≤(q:Int))=true:=by simp;omega
    by_cases cB:4294967296≤r+h
    ·have tB:decide ((4294967296:Int)≤(r:Int)+(h:Int))=true:=by simp;omega
     have fin:=g2.out.break_ cB Om Om hh1';have FIN:Hid (q - 1=D):=by rw[HDE.out];exact fin
     clear fin;go_wp2
     go_meet
     case rel=>exact⟨by rw[← FIN.out,Int.ofNat_sub g1];rfl,rfl⟩
    ·have tB:decide ((4294967296:Int)≤(r:Int)+(h:Int))=false:=by simp;omega
     go_wp2
     go_round
     case rel=>exact⟨q - 1,r+h,by rw[Int.ofNat_sub g1];rfl,by go_num,g2,by omega⟩
     case measure=>simp[intOf];omega
   ·have tA:decide ((4294967296:Int)≤(q:Int))=false:=by simp;omega
    obtain⟨w1,w2,w3⟩:=testW (q:=q) (l:=l) (r:=r) (d:=d1) Om Om hr Om;have stop:q*l≤4294967296*r+d1→Hid (q=D):=fun hc=>by rw[HDE.out];exact HQ.out.stop hc hh1'
    generalize 4294967296*r+d1=m2 at *;generalize 4294967296*r=m3 at *;generalize q*l=m1 at *
    by_cases cC:m2<m1
    ·have tC:decide (m2<m1)=true:=by simp;omega
     obtain⟨g1,g2⟩:=down (.inr cC);clear down stop
     by_cases cB:4294967296≤r+h
     ·have tB:decide ((4294967296:Int)≤(r:Int)+(h:Int))=true:=by simp;omega
      have fin:=g2.out.break_ cB Om Om hh1';have FIN:Hid (q - 1=D):=by rw[HDE.out];exact fin
      clear fin;go_wp2
      go_meet
      case rel=>exact⟨by rw[← FIN.out,Int.ofNat_sub g1];rfl,rfl⟩
     ·have tB:decide ((4294967296:Int)≤(r:Int)+(h:Int))=false:=by simp;omega
      go_wp2
      go_round
      case rel=>exact⟨q - 1,r+h,by rw[Int.ofNat_sub g1];rfl,by go_num,g2,by omega⟩
      case measure=>simp[intOf];omega
    ·have tC:decide (m2<m1)=false:=by simp;omega
     have FIN:=stop Om;clear down stop;go_wp2
     go_meet
     case rel=>exact⟨by rw[← FIN.out],rfl⟩
 case rest =>
  obtain⟨rfl,rfl⟩:=hcut;clear HDE1 HDIG1
  go_upto_block 2 with (fail)
  go_cut [16,18] (fun r q w'=>q=.int .u64 (D' : Int)∧w'=wc)
  case first =>
   have HDE:=HDE2;have HDIG:=HDIG2;clear HDE2 HDIG2;go_wp2
   go_loop [16,18] (fun r q=>∃ qn rn:Nat,q=.int .u64 (qn:Nat)∧r=.int .u64 (rn:Nat)∧Hid (Dig R d0 h l qn rn)∧rn<4294967296) (fun _ q=>(intOf q).toNat)
   case atStart=>exact⟨q0',r0',rfl,rfl,HDIG,by assumption⟩
   case round =>
    obtain⟨q,r,rfl,rfl,HQ,hr⟩:=hrel;have hle:=HQ.out.le Om hh1';have hq33:=hle.1;clear hle;have down:(4294967296≤q∨4294967296*r+d0<q*l)→1≤q∧Hid (Dig R d0 h l (q - 1) (r+h)):=fun hc=>HQ.out.down Om Om hh1' hc
    by_cases cA:4294967296≤q
    ·obtain⟨g1,g2⟩:=down (.inl cA);clear down;have tA:decide ((4294967296:Int)≤(q:Int))=true:=by simp;omega
     by_cases cB:4294967296≤r+h
     ·have tB:decide ((4294967296:Int)≤(r:Int)+(h:Int))=true:=by simp;omega
      have fin:=g2.out.break_ cB Om Om hh1';have FIN:Hid (q - 1=D'):=by rw[HDE.out];exact fin
      clear fin;go_wp2
      go_meet
      case rel=>exact⟨by rw[← FIN.out,Int.ofNat_sub g1];rfl,rfl⟩
     ·have tB:decide ((4294967296:Int)≤(r:Int)+(h:Int))=false:=by simp;omega
      go_wp2
      go_round
      case rel=>exact⟨q - 1,r+h,by rw[Int.ofNat_sub g1];rfl,by go_num,g2,by omega⟩
      case measure=>simp[intOf];omega
    ·have tA:decide ((4294967296:Int)≤(q:Int))=false:=by simp;omega
     obtain⟨w1,w2,w3⟩:=testW (q:=q) (l:=l) (r:=r) (d:=d0) Om Om hr Om;have stop:q*l≤4294967296*r+d0→Hid (q=D'):=fun hc=>by rw[HDE.out];exact HQ.out.stop hc hh1'
     generalize 4294967296*r+d0=m2 at *;generalize 4294967296*r=m3 at *;generalize q*l=m1 at *
     by_cases cC:m2<m1
     ·have tC:decide (m2<m1)=true:=by simp;omega
      obtain⟨g1,g2⟩:=down (.inr cC);clear down stop
      by_cases cB:4294967296≤r+h
      ·have tB:decide ((4294967296:Int)≤(r:Int)+(h:Int))=true:=by simp;omega
       have fin:=g2.out.break_ cB Om Om hh1';have FIN:Hid (q - 1=D'):=by rw[HDE.out];exact fin
       clear fin;go_wp2
       go_meet
       case rel=>exact⟨by rw[← FIN.out,Int.ofNat_sub g1];rfl,rfl⟩
      ·have tB:decide ((4294967296:Int)≤(r:Int)+(h:Int))=false:=by simp;omega
       go_wp2
       go_round
       case rel=>exact⟨q - 1,r+h,by rw[Int.ofNat_sub g1];rfl,by go_num,g2,by omega⟩
       case measure=>simp[intOf];omega
     ·have tC:decide (m2<m1)=false:=by simp;omega
      have FIN:=stop Om;clear down stop;go_wp2
      go_meet
      case rel=>exact⟨by rw[← FIN.out],rfl⟩
  case rest =>
   obtain⟨rfl,rfl⟩:=hcut;go_wp2
   go_ret2
   exact⟨by simp,Below.refl _ _⟩
def mD (l:LN):List Value:=l.map fun n=>.int .u64 ((n:Nat):Int)
theorem bB {l:LN} {j:Nat} (h:j<l.length):(mD l)[j]?=some (.int .u64 ((l.getD j 0:Nat):Int)):=by
 unfold mD;rw[List.getElem?_map,List.getD_eq_getElem?_getD,List.getElem?_eq_getElem h];rfl
theorem aX (l:LN) (j v:Nat):(mD l).set j (.int .u64 ((v:Nat):Int))=mD (l.set j v):=by
 unfold mD;rw[← List.map_set]
theorem qf (a:Nat) (w:World):(Instr.index 24 (zi a) (.int .i64 0)).run Tryz.prog w=.ok (.int .u64 ((wd 0 a:Nat):Int)) w:=Kr
theorem r9 (a:Nat) (w:World):(Instr.index 24 (zi a) (.int .i64 1)).run Tryz.prog w=.ok (.int .u64 ((wd 1 a:Nat):Int)) w:=Kr
theorem rX (a:Nat) (w:World):(Instr.index 24 (zi a) (.int .i64 2)).run Tryz.prog w=.ok (.int .u64 ((wd 2 a:Nat):Int)) w:=Kr
theorem rZ (a:Nat) (w:World):(Instr.index 24 (zi a) (.int .i64 3)).run Tryz.prog w=.ok (.int .u64 ((wd 3 a:Nat):Int)) w:=Kr
theorem pU (a:Nat) {i:Nat} (h:i<4) (w:World):(Instr.index 24 (zi a) (.int .i64 (i:Int))).run Tryz.prog w=.ok (.int .u64 ((wd i a:Nat):Int)) w:=by
 have:i=0∨i=1∨i=2∨i=3:=by omega
 rcases this with rfl|rfl|rfl|rfl
 ·exact qf a w
 ·exact r9 a w
 ·exact rX a w
 ·exact rZ a w
theorem run_arrayAt (g o c:Nat) (w:World):(Instr.arrayAt 24 (.slice (some ⟨g,o,none⟩) 4 c)).run Tryz.prog w=.ok (.pointer (some ⟨g,o,none⟩)) w:=by
 simp[Instr.arrayAt,go_sem,Tryz.underlying24]
end
end Go.Proofs.YtiaibpcaloigkaaGreatDoor
