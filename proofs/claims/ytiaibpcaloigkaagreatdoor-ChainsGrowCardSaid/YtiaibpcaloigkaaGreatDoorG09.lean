/- Part 9 of the proof. -/
import Derived.Test.YtiaibpcaloigkaaGreatDoorG08
import Derived.Laws.BitsAllLaws
import Derived.Deep.DeepCutAuto
import Derived.Deep.CutBlock
import Derived.Deep.LoopGhost
import Derived.WalkMore
set_option linter.unusedSimpArgs false
set_option linter.unusedVariables false
set_option maxHeartbeats 8000000
namespace Go.Proofs.YtiaibpcaloigkaaGreatDoor
section
open Go.RowKit
def uT (a:Nat):Bool:=decide (a<18446744073709551616)
theorem pC (a:Nat):decide (((zJ a:Nat):Int)≤64)=uT a:=by
 unfold uT;have:=yY (x:=a) (k:=64);rw[show (2:Nat) ^ 64=18446744073709551616 by decide] at this
 by_cases h:a<18446744073709551616<;>simp[h]<;>omega
theorem oG (a:Nat) (ha:a<ze) (w:World) :
  Calls Tryz.prog 223 #[zk a] w fun e w'=>e=.returned (.bool (uT a))∧Below w.heap.size w w':=by
 have hs:=pC a
 go_enter Tryz.func223,Tryz.ntmps223
 go_wp2_with (go_at_call 131;refine (fE a ha _).mono ?_;rintro e w1 ⟨rfl,hb1⟩)
 go_ret
 exact⟨by simp,((Ext.rfl' w).alloc' _).trans' hb1⟩
abbrev aat:List Value:=[.int .u64 0,.int .u64 0,.int .u64 0,.int .u64 0]
theorem or_bit (r b:Nat) (hr:r<ze) (hb:b≤1) :
  bits .or .u64 ((wd 0 ((r+r)%ze):Nat):Int) (b:Int)=((wd 0 ((r+r)%ze+b):Nat):Int) ∧
  wd 1 ((r+r)%ze)=wd 1 ((r+r)%ze+b)∧wd 2 ((r+r)%ze)=wd 2 ((r+r)%ze+b)∧wd 3 ((r+r)%ze)=wd 3 ((r+r)%ze+b)∧(r+r)%ze+b<ze:=by
 have hev:∃ k,(r+r)%ze=2*k∧2*k+b<ze:=by
  refine⟨r%57896044618658097711785492504343953926634992332820282019728792003956564819968,?_,?_⟩
  ·rw[← Nat.two_mul,show ze=2*57896044618658097711785492504343953926634992332820282019728792003956564819968 by decide,Nat.mul_mod_mul_left]
  ·have:=Nat.mod_lt r (show 0<57896044618658097711785492504343953926634992332820282019728792003956564819968 by omega);have h:2*(r%57896044618658097711785492504343953926634992332820282019728792003956564819968)+b<115792089237316195423570985008687907853269984665640564039457584007913129639936:=by omega
   exact h
 obtain⟨k,hk,hlt⟩:=hev;rw[hk];have hev2:∃ j,wd 0 (2*k)=2*j∧wd 0 (2*k+b)=2*j+b:=⟨wd 0 (2*k) / 2,by simp only[wd];omega,by simp only[wd];omega⟩;obtain⟨j,hj,hj2⟩:=hev2;have hjl:=yd 0 (2*k);refine⟨?_,?_,?_,?_,hlt⟩
 ·rw[u64_or_nat _ _ (yd _ _) Om,hj,hj2];have:=Nat.two_pow_add_eq_or_of_lt (i:=1) (b:=b) Om j;rw[← this]
 all_goals (simp only[wd];omega)
def bL (r b m:Nat):Nat:=(r+r+b)%m
def ay (r b m:Nat):Nat:=(r+r+b) / m
theorem aen {r b m:Nat} (hr:r<m) (hm:m<ze) (hb:b≤1) (h:r+r+b<m) :
  (r+r) / ze=0∧bw ((r+r)%ze+b) m 0=1∧bL r b m=(r+r)%ze+b∧ay r b m=0:=by
 have e:(r+r)%ze=r+r:=Nat.mod_eq_of_lt Om;refine⟨Nat.div_eq_of_lt Om,?_,?_,Nat.div_eq_of_lt h⟩
 ·rw[e];simp[bw];omega
 ·rw[e];exact Nat.mod_eq_of_lt h
theorem aI {r b m:Nat} (hr:r<m) (hm:m<ze) (hb:b≤1) (h:m≤r+r+b) :
  ((r+r) / ze=1∨((r+r) / ze=0∧bw ((r+r)%ze+b) m 0=0))∧bL r b m=((r+r)%ze+b+ze - m)%ze∧ay r b m=1:=by
 have hq:ay r b m=1:=by
  unfold ay;rw[Nat.div_eq_iff Om];omega
 have hrm:bL r b m=r+r+b - m:=by
  unfold bL;rw[Nat.mod_eq_sub_mod h,Nat.mod_eq_of_lt Om]
 rw[hrm,hq]
 by_cases hc:r+r<ze
 ·have e:(r+r)%ze=r+r:=Nat.mod_eq_of_lt hc;refine⟨.inr ⟨Nat.div_eq_of_lt hc,by rw[e];simp[bw];omega⟩,?_,rfl⟩;rw[e,show r+r+b+ze - m=(r+r+b - m)+ze by omega,Nat.add_mod_right,Nat.mod_eq_of_lt Om]
 ·have e:(r+r)%ze=r+r - ze:=by rw[Nat.mod_eq_sub_mod Om,Nat.mod_eq_of_lt Om]
  refine⟨.inl ?_,?_,rfl⟩
  ·rw[Nat.div_eq_iff (by unfold ze;omega)];omega
  ·rw[e,show r+r - ze+b+ze - m=r+r+b - m by omega,Nat.mod_eq_of_lt Om]
theorem wrapN (n:Nat):IntKind.u64.wrap (n:Int)=((n%18446744073709551616:Nat):Int):=by rw[IntKind.wrap_u64];omega
theorem jE {n:Nat} (h:n<18446744073709551616):IntKind.u64.wrap (n:Int)=(n:Int):=by rw[wrapN,Nat.mod_eq_of_lt h]
theorem divN (a b:Nat) (ha:a<18446744073709551616) (hb:0<b):IntKind.u64.wrap ((a:Int) / (b:Int))=(a:Int) / (b:Int):=by
 have:((a:Int) / (b:Int))=((a / b:Nat):Int):=by simp
 rw[this,jE (Nat.lt_of_le_of_lt (Nat.div_le_self _ _) ha)]
theorem afr (a b:Nat):IntKind.u64.wrap ((a:Int)*(b:Int))=((a*b%18446744073709551616:Nat):Int):=by rw[← wrapN];simp
theorem acG (a:Nat):IntKind.u64.wrap ((a:Int)*4294967296)=((a*4294967296%18446744073709551616:Nat):Int):=afr a 4294967296
theorem aeV (a:Nat) (h:a<4294967296):IntKind.u64.wrap (4294967296*(a:Int))=((4294967296*a:Nat):Int):=by
 have:=afr 4294967296 a;rw[Nat.mod_eq_of_lt Om] at this;exact this
theorem addW (a b:Nat):IntKind.u64.wrap ((a:Int)+(b:Int))=(((a+b)%18446744073709551616:Nat):Int):=by rw[← wrapN];simp
theorem ahN {a b n:Nat} (hn:n<18446744073709551616) (h:(b+n)%18446744073709551616=a%18446744073709551616):IntKind.u64.wrap ((a:Int) - (b:Int))=(n:Int):=by
 rw[IntKind.wrap_u64];omega
theorem aaC (z r u d:Nat) (h:z+r=u*4294967296+d):(z%18446744073709551616+r)%18446744073709551616=(u*4294967296%18446744073709551616+d)%18446744073709551616%18446744073709551616:=by omega
theorem ahi {u d Y:Nat} (hu:u<Y) (hY:Y<18446744073709551616) :
  (((u*4294967296+d) / Y)*Y%18446744073709551616+(u*4294967296+d)%Y)%18446744073709551616=(u*4294967296%18446744073709551616+d)%18446744073709551616%18446744073709551616:=by
 have h:=Nat.div_add_mod (u*4294967296+d) Y;rw[Nat.mul_comm] at h;exact aaC _ _ _ _ h
theorem ah2 (a b:Nat):(a:Int).tmod (b:Int)=(a:Int)%(b:Int):=Int.tmod_eq_emod_of_nonneg Om
set_option maxRecDepth 100000 in
theorem qB (lo y:Nat) (h1:lo<18446744073709551616) (h2:y<18446744073709551616) (h0:0<y) (w:World) :
  Calls Tryz.prog 184 #[.int .u64 0,.int .u64 (lo:Int),.int .u64 (y:Int)] w fun e w'=>e=.returned (.tuple #[.int .u64 ((lo / y:Nat):Int),.int .u64 ((lo%y:Nat):Int)])∧Below w.heap.size w w':=by
 have hy1:((y:Int) == 0)=false:=by simp;omega
 have hy2:decide ((y:Int)≤0)=false:=by simp;omega
 have hy3:1≤(y:Int):=by omega
 go_enter Tryz.func184,Tryz.ntmps184
 go_wp2;refine Kp.wp_region_kpl 8 Kr Kr (fun L Fin hL hFin=>?_);have HL:=Lib.hid hL;clear hL;have HF:=Lib.hid hFin;clear hFin;simp only[List.take_succ_cons,List.take_zero,List.drop_succ_cons,List.drop_zero];apply Exists.intro
 repeat ((first|(apply Kp.kp_free;(first|rfl|(rw[HL.out];rfl));(intro w1;go_simp;rfl))|(apply Kp.kp_now;rfl;(first|rfl|(rw[HL.out];rfl));(intro w1 hb1;obtain⟨hcw,hfw⟩:=afb hb1;clear hb1;go_simp;rfl)));simp only[Act.put,List.setIfInBounds_toArray,List.set_cons_succ,List.set_cons_zero])
 apply Kp.kp_nil;refine HF.out _ _ (fun w1 hb1 _=>?_);clear HL HF;simp only[List.drop_succ_cons,List.drop_zero];go_wp2
 go_ret2
 refine⟨?_,hb1⟩;show Ending.returned (.tuple #[.int .u64 (IntKind.u64.wrap ((lo:Int) / (y:Int))),.int .u64 ((lo:Int).tmod (y:Int))])=_;rw[divN lo y h1 h0,ah2 lo y];simp
theorem ahW (D E:Nat) (hD:D<4294967296) (hE:E<4294967296):∃ z1:Nat,IntKind.u64.wrap ((D:Int)*4294967296)=(z1:Int)∧IntKind.u64.wrap ((z1:Int)+(E:Int))=((D*4294967296+E:Nat):Int) :=
 ⟨D*4294967296,by rw[acG,Nat.mod_eq_of_lt Om],by rw[addW,Nat.mod_eq_of_lt Om]⟩
def ahU (u d h l Y q0 p0 r0 D R x1 x2 x3:Nat):Prop :=
 IntKind.u64.wrap (q0:Int)=(q0:Int)∧(u:Int) / (h:Int)=(q0:Int)∧IntKind.u64.wrap ((q0:Int)*(h:Int))=(p0:Int)∧IntKind.u64.wrap ((u:Int) - (p0:Int))=(r0:Int) ∧
 r0<4294967296∧Dig u d h l q0 r0∧D<4294967296∧R<Y∧IntKind.u64.wrap ((u:Int)*4294967296)=(x1:Int)∧IntKind.u64.wrap ((x1:Int)+(d:Int))=(x2:Int) ∧
 IntKind.u64.wrap ((D:Int)*(Y:Int))=(x3:Int)∧IntKind.u64.wrap ((x2:Int) - (x3:Int))=(R:Int)∧D=(u*4294967296+d) / (h*4294967296+l)∧R=(u*4294967296+d)%(h*4294967296+l)
theorem pack (u d h l Y:Nat) (hYe:Y=h*4294967296+l) (hu:u<Y) (hY:Y<18446744073709551616) (hh1:2147483648≤h) (hh2:h<4294967296) (hl:l<4294967296) (hd2:d<4294967296) :
  ∃ q0 p0 r0 D R x1 x2 x3,ahU u d h l Y q0 p0 r0 D R x1 x2 x3:=by
 have hu64:u<18446744073709551616:=by omega
 have hpos:0<h*4294967296+l:=by omega
 have P1:=divN u h hu64 Om;have P1' : (u:Int) / (h:Int)=((u / h:Nat):Int):=by simp
 rw[P1'] at P1;have P2:=afr (u / h) h;have hle1:u / h*h≤u:=Nat.div_mul_le_self u h;rw[Nat.mod_eq_of_lt Om] at P2;have P3:IntKind.u64.wrap ((u:Int) - ((u / h*h:Nat):Int))=((u%h:Nat):Int):=ahN (Nat.lt_of_le_of_lt (Nat.mod_le _ _) hu64) (by rw[Nat.mul_comm,Nat.div_add_mod]);have hr1:u%h<4294967296:=Nat.lt_of_lt_of_le (Nat.mod_lt _ Om) Om;have hlt1:=Nat.mod_lt (u*4294967296+d) hpos;have P7:=ahN Om (ahi (u:=u) (d:=d) (Y:=h*4294967296+l) Om Om)
 exact⟨_,_,_,(u*4294967296+d) / (h*4294967296+l),(u*4294967296+d)%(h*4294967296+l),_,_,_,P1,P1',P2,P3,hr1,Dig.start hh1 hd2,
  abS Om hd2,by rw[hYe];exact hlt1,acG u,addW _ d,afr _ Y,by rw[hYe];exact P7,rfl,rfl⟩
theorem testW {q l r d:Nat} (hq:q<4294967296) (hl:l<4294967296) (hr:r<4294967296) (hd:d<4294967296) :
  IntKind.u64.wrap ((q:Int)*(l:Int))=((q*l:Nat):Int)∧IntKind.u64.wrap (4294967296*(r:Int))=((4294967296*r:Nat):Int) ∧
  IntKind.u64.wrap (((4294967296*r:Nat):Int)+(d:Int))=((4294967296*r+d:Nat):Int):=by
 have h1:q*l≤4294967295*4294967295:=Nat.mul_le_mul Om Om;refine⟨?_,aeV r hr,?_⟩
 ·rw[afr,Nat.mod_eq_of_lt Om]
 ·rw[addW,Nat.mod_eq_of_lt Om]
set_option maxRecDepth 100000 in
theorem qb (hi lo y:Nat) (h1:lo<18446744073709551616) (h2:y<18446744073709551616) (h0:0<hi) (h3:hi<y) (w:World) :
  Calls Tryz.prog 184 #[.int .u64 (hi:Int),.int .u64 (lo:Int),.int .u64 (y:Int)] w fun e w' =>
   e=.returned (.tuple #[.int .u64 (((hi*18446744073709551616+lo) / y:Nat):Int),.int .u64 (((hi*18446744073709551616+lo)%y:Nat):Int)])∧Below w.heap.size w w':=by
 have hy1:((y:Int) == 0)=false:=by simp;omega
 have hy2:decide (y≤hi)=false:=by simp;omega
 have hy3:1≤(y:Int):=by omega
 have hh1:((hi:Int) == 0)=false:=by simp;omega
 have hbl:=bitLen_eq h2;have hb64:=vd (k:=64) h2;obtain⟨_,k1,k2,k3⟩:=aaH Om h2;obtain⟨S,hS⟩ : ∃ S,S=64 - zJ y:=⟨_,rfl⟩
 have hlz:∀ w,Calls Tryz.prog 221 #[.int .u64 (y:Int)] w fun e w'=>e=.returned (.int .i64 (S:Nat))∧w=w':=fun w =>
  (Tryz.bits_LeadingZeros64 _ w Om Om).mono fun e w' h=>⟨by rw[h.1,hS];congr 2;simp[hbl];omega,h.2.symm⟩
 rw[← hS] at k2 k3;have hS63:S<64:=by omega
 obtain⟨n1,n2⟩:=iT hS63 k3 h3 h1;have hor:=aaG (hi:=hi) hS63 h1;have nd:=abw (U:=hi*18446744073709551616+lo) (y:=y) (Nat.two_pow_pos S);have hA:hi*2 ^ S<18446744073709551616:=Nat.lt_of_le_of_lt (Nat.mul_le_mul_right _ (Nat.le_of_lt h3)) k3;have hL:lo / 2 ^ (64 - S)<18446744073709551616:=Nat.lt_of_le_of_lt (Nat.div_le_self _ _) h1;have E1:IntKind.u64.wrap ((y:Int)*2 ^ S)=((y*2 ^ S:Nat):Int):=by rw[← Nat.mod_eq_of_lt k3,← wrapN];simp
 have E4:IntKind.u64.wrap ((hi:Int)*2 ^ S)=((hi*2 ^ S:Nat):Int):=by rw[← Nat.mod_eq_of_lt hA,← wrapN];simp
 have E5:bits .or .u64 ((hi*2 ^ S:Nat):Int) ((lo:Int) / 2 ^ (64 - S))=((hi*2 ^ S+lo / 2 ^ (64 - S):Nat):Int):=by
  rw[← hor,← u64_or_nat _ _ hA hL];simp
 have E6:IntKind.u64.wrap ((lo:Int)*2 ^ S)=((lo*2 ^ S%18446744073709551616:Nat):Int):=by rw[← wrapN];simp
 rw[← nd.1,← nd.2,← n2];have HP:Hid (0<2 ^ S):=Nat.two_pow_pos S;have hV:lo*2 ^ S%18446744073709551616<18446744073709551616:=Nat.mod_lt _ Om;clear nd hor n2 hbl hb64 h3 hy3;generalize hi*2 ^ S+lo / 2 ^ (64 - S)=u at *;generalize lo*2 ^ S%18446744073709551616=V at *;generalize hi*2 ^ S=A at *;generalize y*2 ^ S=Y at *;have E3:bits .and .u64 (Y:Int) 4294967295=((Y%4294967296:Nat):Int):=by have:=u64_and_nat Y 4294967295 k3 Om;rw[nat_mask32] at this;exact this
 have E8:bits .and .u64 (V:Int) 4294967295=((V%4294967296:Nat):Int):=by have:=u64_and_nat V 4294967295 hV Om;rw[nat_mask32] at this;exact this
 obtain⟨h,hh⟩ : ∃ h,h=Y / 4294967296:=⟨_,rfl⟩;obtain⟨d1,hd1⟩ : ∃ h,h=V / 4294967296:=⟨_,rfl⟩;have E2:(Y:Int) / 4294967296=(h:Int):=by omega
 have E7:(V:Int) / 4294967296=(d1:Int):=by omega
 have hh1' : 2147483648≤h:=by omega
 have hh2:h<4294967296:=by omega
 have hd2:d1<4294967296:=by omega
 have hYe:Y=h*4294967296+Y%4294967296:=by omega
 have hVe:V=d1*4294967296+V%4294967296:=by omega
 have hl:Y%4294967296<4294967296:=by omega
 have hd0:V%4294967296<4294967296:=by omega
 generalize Y%4294967296=l at *;generalize V%4294967296=d0 at *;rw[hYe,hVe,← hYe];obtain⟨q0,p0,r0,D,R,x1,x2,x3,a1,a2,a3,a4,a5,a6,a7,a8,a9,a10,a11,a12,a13,a14⟩:=pack u d1 h l Y hYe n1 k3 hh1' hh2 hl hd2;obtain⟨q0',p0',r0',D',R',y1,y2,y3,b1,b2,b3,b4,b5,b6,b7,b8,b9,b10,b11,b12,b13,b14⟩:=pack R d0 h l Y hYe a8 k3 hh1' hh2 hl hd0;have two:=iO (u:=u) (d1:=d1) (d0:=d0) (Y:=Y) Om rfl rfl;rw[← hYe] at a13 a14 b13 b14;rw[← a13,← a14,← b13,← b14] at two;rw[← two.1,← two.2];obtain⟨z1,c1,c2⟩:=ahW D D' Om Om;obtain⟨z2,hz2⟩ : ∃ z,z=D*4294967296+D':=⟨_,rfl⟩;rw[← hz2] at c2 ⊢;clear hz2;have HY:=Lib.hid hYe;have HDE1:Hid (D=(u*4294967296+d1) / (h*4294967296+l)):=by rw[← hYe];exact a13
 have HDE2:Hid (D'=(R*4294967296+d0) / (h*4294967296+l)):=by rw[← hYe];exact b13
 have hYlo:h*4294967296≤Y:=by omega
 have hYhi:Y≤h*4294967296+l:=by omega
 have HDIG1:=Lib.hid a6;have HDIG2:=Lib.hid b6;clear hYe hVe a13 a14 b13 b14 two a6 b6 hh hd1 hS k2;have HZ:=Lib.hid hlz;clear hlz
 go_enter Tryz.func184,Tryz.ntmps184
 go_upto_block 0 with (go_at_call 221;refine (HZ.out _).mono ?_;rintro e w1 ⟨rfl,rfl⟩)
 go_cut [15,16] (fun q r w'=>q=.int .u64 (D:Int)∧w'=w)
 case first =>
  have HDE:=HDE1;have HDIG:=HDIG1;clear HDE1 HDE2 HDIG1 HDIG2 b1 b2 b3 b4 b5 b7 b8 b9 b10 b11 b12 c1 c2;go_wp2
  go_loop [16,15] (fun r q=>∃ qn rn:Nat,q=.int .u64 (qn:Nat)∧r=.int .u64 (rn:Nat)∧Hid (Dig u d1 h l qn rn)∧rn<4294967296) (fun _ q=>(intOf q).toNat)
  case atStart=>exact⟨q0,r0,rfl,rfl,HDIG,by assumption⟩
  case round =>
   obtain⟨q,r,rfl,rfl,HQ,hr⟩:=hrel;have hle:=HQ.out.le Om hh1';have hq33:=hle.1;clear hle;have down:(4294967296≤q∨4294967296*r+d1<q*l)→1≤q∧Hid (Dig u d1 h l (q - 1) (r+h)):=fun hc=>HQ.out.down Om Om hh1' hc
   by_cases cA:4294967296≤q
   ·obtain⟨g1,g2⟩:=down (.inl cA);clear down;have tA:decide ((4294967296:Int)≤(q:Int))=true:=by simp;omega
    by_cases cB:4294967296≤r+h
    ·have tB:decide ((4294967296:Int)≤(r:Int)+(h:Int))=true:=by simp;omega
     have fin:=g2.out.break_ cB Om Om hh1';have FIN:Hid (q - 1=D):=by rw[HDE.out];exact fin
     clear fin;go_wp2
     go_meet
     case rel=>exact⟨by rw[← FIN.out,Int.ofNat_sub g1];rfl,rfl⟩
    ·have tB:decide ((4294967296:Int)≤(r:Int)+(h:Int))=false:=by simp;omega
     go_wp2
     go_round
     case rel=>exact⟨q - 1,r+h,by rw[Int.ofNat_sub g1];rfl,by go_num,g2,by omega⟩
     case measure=>simp[intOf];omega
   ·have tA:decide ((4294967296:Int)≤(q:Int))=false:=by simp;omega
    obtain⟨w1,w2,w3⟩:=testW (q:=q) (l:=l) (r:=r) (d:=d1) Om Om hr Om;have stop:q*l≤4294967296*r+d1→Hid (q=D):=fun hc=>by rw[HDE.out];exact HQ.out.stop hc hh1'
    generalize 4294967296*r+d1=m2 at *;generalize 4294967296*r=m3 at *;generalize q*l=m1 at *
    by_cases cC:m2<m1
    ·have tC:decide (m2<m1)=true:=by simp;omega
     obtain⟨g1,g2⟩:=down (.inr cC);clear down stop
     by_cases cB:4294967296≤r+h
     ·have tB:decide ((4294967296:Int)≤(r:Int)+(h:Int))=true:=by simp;omega
      have fin:=g2.out.break_ cB Om Om hh1';have FIN:Hid (q - 1=D):=by rw[HDE.out];exact fin
      clear fin;go_wp2
      go_meet
      case rel=>exact⟨by rw[← FIN.out,Int.ofNat_sub g1];rfl,rfl⟩
     ·have tB:decide ((4294967296:Int)≤(r:Int)+(h:Int))=false:=by simp;omega
      go_wp2
      go_round
      case rel=>exact⟨q - 1,r+h,by rw[Int.ofNat_sub g1];rfl,by go_num,g2,by omega⟩
      case measure=>simp[intOf];omega
    ·have tC:decide (m2<m1)=false:=by simp;omega
     have FIN:=stop Om;clear down stop;go_wp2
     go_meet
     case rel=>exact⟨by rw[← FIN.out],rfl⟩
 case rest =>
  obtain⟨rfl,rfl⟩:=hcut;clear HDE1 HDIG1
  go_upto_block 2 with (fail)
  go_cut [16,18] (fun r q w'=>q=.int .u64 (D' : Int)∧w'=wc)
  case first =>
   have HDE:=HDE2;have HDIG:=HDIG2;clear HDE2 HDIG2;go_wp2
   go_loop [16,18] (fun r q=>∃ qn rn:Nat,q=.int .u64 (qn:Nat)∧r=.int .u64 (rn:Nat)∧Hid (Dig R d0 h l qn rn)∧rn<4294967296) (fun _ q=>(intOf q).toNat)
   case atStart=>exact⟨q0',r0',rfl,rfl,HDIG,by assumption⟩
   case round =>
    obtain⟨q,r,rfl,rfl,HQ,hr⟩:=hrel;have hle:=HQ.out.le Om hh1';have hq33:=hle.1;clear hle;have down:(4294967296≤q∨4294967296*r+d0<q*l)→1≤q∧Hid (Dig R d0 h l (q - 1) (r+h)):=fun hc=>HQ.out.down Om Om hh1' hc
    by_cases cA:4294967296≤q
    ·obtain⟨g1,g2⟩:=down (.inl cA);clear down;have tA:decide ((4294967296:Int)≤(q:Int))=true:=by simp;omega
     by_cases cB:4294967296≤r+h
     ·have tB:decide ((4294967296:Int)≤(r:Int)+(h:Int))=true:=by simp;omega
      have fin:=g2.out.break_ cB Om Om hh1';have FIN:Hid (q - 1=D'):=by rw[HDE.out];exact fin
      clear fin;go_wp2
      go_meet
      case rel=>exact⟨by rw[← FIN.out,Int.ofNat_sub g1];rfl,rfl⟩
     ·have tB:decide ((4294967296:Int)≤(r:Int)+(h:Int))=false:=by simp;omega
      go_wp2
      go_round
      case rel=>exact⟨q - 1,r+h,by rw[Int.ofNat_sub g1];rfl,by go_num,g2,by omega⟩
      case measure=>simp[intOf];omega
    ·have tA:decide ((4294967296:Int)≤(q:Int))=false:=by simp;omega
     obtain⟨w1,w2,w3⟩:=testW (q:=q) (l:=l) (r:=r) (d:=d0) Om Om hr Om;have stop:q*l≤4294967296*r+d0→Hid (q=D'):=fun hc=>by rw[HDE.out];exact HQ.out.stop hc hh1'
     generalize 4294967296*r+d0=m2 at *;generalize 4294967296*r=m3 at *;generalize q*l=m1 at *
     by_cases cC:m2<m1
     ·have tC:decide (m2<m1)=true:=by simp;omega
      obtain⟨g1,g2⟩:=down (.inr cC);clear down stop
      by_cases cB:4294967296≤r+h
      ·have tB:decide ((4294967296:Int)≤(r:Int)+(h:Int))=true:=by simp;omega
       have fin:=g2.out.break_ cB Om Om hh1';have FIN:Hid (q - 1=D'):=by rw[HDE.out];exact fin
       clear fin;go_wp2
       go_meet
       case rel=>exact⟨by rw[← FIN.out,Int.ofNat_sub g1];rfl,rfl⟩
      ·have tB:decide ((4294967296:Int)≤(r:Int)+(h:Int))=false:=by simp;omega
       go_wp2
       go_round
       case rel=>exact⟨q - 1,r+h,by rw[Int.ofNat_sub g1];rfl,by go_num,g2,by omega⟩
       case measure=>simp[intOf];omega
     ·have tC:decide (m2<m1)=false:=by simp;omega
      have FIN:=stop Om;clear down stop;go_wp2
      go_meet
      case rel=>exact⟨by rw[← FIN.out],rfl⟩
  case rest =>
   obtain⟨rfl,rfl⟩:=hcut;go_wp2
   go_ret2
   exact⟨by simp,Below.refl _ _⟩
end
section
open Go.RowKit
attribute [local go_sem] yj
theorem dq:Value.agg #[.int .u64 0,.int .u64 0,.int .u64 0,.int .u64 0]=zk 0:=sF 0 Om
theorem yJ {a:Nat} (ha:a<ze) (w:World) :
  (Op.equalIn 10000 24 (zk a) (.agg #[.int .u64 0,.int .u64 0,.int .u64 0,.int .u64 0])).run Tryz.prog w=.ok (eqN a 0) w:=by
 rw[dq];exact yj ha (by unfold ze;omega) w
attribute [local go_sem] yJ
theorem qJ (hi lo y:Nat) (h1:lo<18446744073709551616) (h2:y<18446744073709551616) (h3:hi<y) (w:World) :
  Calls Tryz.prog 184 #[.int .u64 (hi:Int),.int .u64 (lo:Int),.int .u64 (y:Int)] w fun e w' =>
   e=.returned (.tuple #[.int .u64 (((hi*18446744073709551616+lo) / y:Nat):Int),.int .u64 (((hi*18446744073709551616+lo)%y:Nat):Int)])∧Below w.heap.size w w':=by
 rcases Nat.eq_zero_or_pos hi with rfl|h
 ·rw[Nat.zero_mul,Nat.zero_add];exact qB lo y h1 h2 Om w
 ·exact qb hi lo y h1 h2 h h3 w
abbrev qC (D k:Nat):List Value:=[.int .u64 ((qc D k 0:Nat):Int),.int .u64 ((qc D k 1:Nat):Int),.int .u64 ((qc D k 2:Nat):Int),.int .u64 ((qc D k 3:Nat):Int)]
theorem aem (D:Nat):qC D 0=zc D:=by simp[qC,qc]
theorem aew (D:Nat):qC D 4=aat:=by simp[qC,qc]
abbrev jp (r:Nat):List Value:=[.int .u64 ((r:Nat):Int),.int .u64 0,.int .u64 0,.int .u64 0]
theorem oq {r:Nat} (h:r<18446744073709551616):jp r=zc r:=by
 have:=sF r h;simpa [zk] using this
end
section
open Go.RowKit
attribute [local go_sem] yj yJ
end
section
open Go.RowKit
attribute [local go_sem] yj yJ
theorem zE:0<ze:=by unfold ze;omega
end
section
open Go.RowKit
attribute [local go_sem] yj yJ
theorem dS {a r0 m j:Nat} (hj:j<256) :
  bL ((r0*2 ^ j+a / 2 ^ (256 - j))%m) (vZ a (255 - j)) m=(r0*2 ^ (j+1)+a / 2 ^ (256 - (j+1)))%m:=by
 have hs:=ix a (255 - j);rw[show 255 - j+1=256 - j by omega] at hs;unfold bL;rw[show 256 - (j+1)=255 - j by omega,hs,Nat.pow_succ];generalize a / 2 ^ (256 - j)=x;generalize vZ a (255 - j)=d;have e:r0*(2 ^ j*2)+(x+x+d)=(r0*2 ^ j+x)+(r0*2 ^ j+x)+d:=by rw[← Nat.mul_assoc];omega
 rw[e];generalize r0*2 ^ j+x=y;simp[Nat.add_mod]
theorem iW (r0 a m:Nat) (ha:a<ze) (hr:r0<m):(r0*2 ^ 0+a / 2 ^ (256 - 0))%m=r0:=by
 rw[Nat.div_eq_of_lt (by simpa [ze] using ha)];simp[Nat.mod_eq_of_lt hr]
theorem eQ (r0 a m:Nat):(r0*2 ^ 256+a / 2 ^ (256 - 256))%m=(r0*ze+a)%m:=by simp[ze]
def nJ (hi lo i:Nat):Nat:=if i=0 then hi else lo
theorem aa8 {hi lo:Nat} (i:Nat) (h1:hi<ze) (h2:lo<ze):nJ hi lo i<ze:=by unfold nJ;split<;>assumption
def ab0 (hi lo m:Nat):Nat→Nat
 | 0=>0
 | i+1=>(ab0 hi lo m i*ze+nJ hi lo i)%m
theorem adb {hi lo m:Nat} (i:Nat) (h0:0<m):ab0 hi lo m i<m:=by
 cases i with
 | zero=>exact h0
 | succ i=>exact Nat.mod_lt _ h0
theorem bG:zc 0=aat:=rfl
abbrev lw (hi lo:Nat):Value:=.agg #[.int .u64 ((wd 0 hi:Nat):Int),.int .u64 ((wd 1 hi:Nat):Int),.int .u64 ((wd 2 hi:Nat):Int),.int .u64 ((wd 3 hi:Nat):Int),.int .u64 ((wd 0 lo:Nat):Int),.int .u64 ((wd 1 lo:Nat):Int),.int .u64 ((wd 2 lo:Nat):Int),.int .u64 ((wd 3 lo:Nat):Int)]
theorem qx (hi lo:Nat) (w:World):(Instr.index 332 (lw hi lo) (.int .i64 0)).run Tryz.prog w=.ok (zk hi) w:=Kr
theorem qw (hi lo:Nat) (w:World):(Instr.index 332 (lw hi lo) (.int .i64 1)).run Tryz.prog w=.ok (zk lo) w:=Kr
theorem ov (hi lo:Nat) {i:Nat} (h:i<2) (w:World):(Instr.index 332 (lw hi lo) (.int .i64 (i:Int))).run Tryz.prog w=.ok (zk (nJ hi lo i)) w:=by
 have:i=0∨i=1:=by omega
 rcases this with rfl|rfl
 ·exact qx hi lo w
 ·exact qw hi lo w
end
section
open Go.RowKit Go.Shelf
attribute [local go_sem] yj yJ
attribute [local go_sem] Oper.semAt_some
theorem ab5 (g j:Nat):Addr.add ⟨g,0,none⟩ j=⟨g,j,none⟩:=by unfold Addr.add;split<;>simp_all
theorem aau (a b K m:Nat):(a%m*K+b)%m=(a*K+b)%m:=by rw[Nat.add_mod,Nat.mul_mod,Nat.mod_mod,← Nat.mul_mod,← Nat.add_mod]
def gM (K m:Nat) (l:List (Nat × U64)):Nat:=l.foldl (fun r x=>(r*K+x.2.1)%m) 0
theorem fI (K m:Nat) (l:List (Nat × U64)) (x:Nat × U64):gM K m (l++[x])=(gM K m l*K+x.2.1)%m:=by
 unfold gM;rw[List.foldl_append];rfl
theorem kh (K m:Nat) (x0 x1 x2 x3 x4 x5 x6 x7:Nat × U64):gM K m [x0,x1,x2,x3,x4,x5,x6,x7]=((((((((0*K+x0.2.1)*K+x1.2.1)*K+x2.2.1)*K+x3.2.1)*K+x4.2.1)*K+x5.2.1)*K+x6.2.1)*K+x7.2.1)%m:=by
 simp only[gM,List.foldl_cons,List.foldl_nil,aau]
def qu (m:Nat) (l:List (Nat × U64)):Nat:=gM 18446744073709551616 m l
theorem pj (m:Nat) (l:List (Nat × U64)) (x:Nat × U64):qu m (l++[x])=(qu m l*18446744073709551616+x.2.1)%m:=fI _ m l x
theorem k9 (m:Nat) (h0:0<m) (l:List (Nat × U64)):qu m l<m:=by
 rcases List.eq_nil_or_concat l with rfl|⟨l,x,rfl⟩
 ·exact h0
 ·rw[List.concat_eq_append,pj];exact Nat.mod_lt _ h0
def u9 (i n:Nat):U64:=⟨wd i n,yd i n⟩
def sM (lo hi:Nat):List U64:=[u9 0 lo,u9 1 lo,u9 2 lo,u9 3 lo,u9 0 hi,u9 1 hi,u9 2 hi,u9 3 hi]
theorem cG (lo hi m:Nat) (hlo:lo<ze) (hhi:hi<ze):qu m (upto (sT (sM lo hi)) 8)=(hi*ze+lo)%m:=by
 have e:upto (sT (sM lo hi)) 8=[(7,u9 3 hi),(6,u9 2 hi),(5,u9 1 hi),(4,u9 0 hi),(3,u9 3 lo),(2,u9 2 lo),(1,u9 1 lo),(0,u9 0 lo)]:=rfl;have h1:=vN hlo;have h2:=vN hhi;rw[e];unfold qu;rw[kh];simp only[u9];generalize wd 0 hi=a0 at *;generalize wd 1 hi=a1 at *;generalize wd 2 hi=a2 at *;generalize wd 3 hi=a3 at *;generalize wd 0 lo=b0 at *;generalize wd 1 lo=b1 at *;generalize wd 2 lo=b2 at *;generalize wd 3 lo=b3 at *;have e2:(((((((0*18446744073709551616+a3)*18446744073709551616+a2)*18446744073709551616+a1)*18446744073709551616+a0)*18446744073709551616+b3)*18446744073709551616+b2)*18446744073709551616+b1)*18446744073709551616+b0=hi*ze+lo:=by
  rw[← h1,← h2];simp only[tn,ze];omega
 rw[e2]
theorem Blk.far' {w:World} {g D:Nat} {t:TypeId} {cs:List Value} {o:Obj} (h:Blk w g t cs) (hD:D≠g):Blk (w.putObj D o) g t cs:=h.grown (grownBy_putObj' w D o) (fun e=>hD (by cases e;rfl))
theorem km {B:Nat} {w:World} {e:TypeId} {v:Value} {lo hi:Nat} (h:w.ownsRow B e 1 v ((zc lo).length+(zc hi).length) (zc lo++zc hi)) :
  ∃ g cap,v=.slice (some ⟨g,0,none⟩) 8 cap∧B≤g∧g<w.heap.size∧∀ j,j<8→w.cell? ⟨g,j,none⟩=some (.int .u64 (((sM lo hi)[j]?.getD default).1:Int)):=by
 rcases h.2 with ⟨_,h0⟩|⟨g,cap,cur,rfl,hB,hh,hnc,hcm,hcs,ht⟩
 ·simp at h0
 ·refine⟨g,cap,rfl,hB,(Array.getElem?_eq_some_iff.1 hh).1,fun j hj=>?_⟩;rw[cell_of_row w g j cur e (0,0) hh];have hq:cur.toList[j]?=(zc lo++zc hi)[j]?:=by
   rw[← ht,List.getElem?_take,if_pos (by simp;omega)]
  rw[← Array.getElem?_toList,hq];have:j=0∨j=1∨j=2∨j=3∨j=4∨j=5∨j=6∨j=7:=by omega
  rcases this with rfl|rfl|rfl|rfl|rfl|rfl|rfl|rfl<;>rfl
set_option maxRecDepth 100000 in
theorem tM (lo hi m:Nat) (hlo:lo<ze) (hhi:hi<ze) (h0:0<m) (hs:m<18446744073709551616) (w:World) :
  Calls Tryz.prog 186 #[zk lo,zk hi,zk m] w fun e w'=>e=.returned (.tuple #[zk ((hi*ze+lo)%m),.int .i64 0])∧Below w.heap.size w w':=by
 have hmB:m<ze:=ab8 m hs;have he:=afl (a:=m) (b:=0) Om;have hsh:uT m=true:=by simp[uT,hs]
 refine (callsIn_wide (n:=3)).1 ?_;refine callsIn_of_wp_marks Tryz.func186 rfl trivial ?_ rfl;simp only[Tryz.ntmps186,List.size_toArray,List.length_cons,List.length_nil,Nat.reduceAdd,Nat.reduceSub,Array.replicate_succ,Array.replicate_zero,List.push_toArray,List.append_toArray,List.nil_append,List.cons_append];refine wpIn_wide.2 ?_
 go_wp2_with (go_at_call 223;refine (oG m hmB _).mono ?_;rw[hsh];rintro e W ⟨rfl,hb1⟩;have g3:Blk W w.heap.size 24 (zc lo):=((((Blk.new _ _ _).alloc _).alloc _).alloc _).below hb1 (by simp;omega);have g4:Blk W (w.heap.size+1) 24 (zc hi):=(((Blk.new' Sm).alloc _).alloc _).below hb1 Sm;have g5:Blk W (w.heap.size+1+1) 24 (zc m):=((Blk.new' Sm).alloc _).below hb1 Sm;have g6:Blk W (w.heap.size+1+1+1) 24 aat:=(Blk.new' Sm).below hb1 Sm;have hb:Ext w W:=(((((Ext.rfl' w).alloc' _).alloc' _).alloc' _).alloc' _).trans' hb1;clear hb1)
 have lt3:=g3.lt;have lt4:=g4.lt;refine Kp.wp_region_kpl 2 Kr Kr (fun L Fin hL hFin=>?_);have HL:=Lib.hid hL;clear hL;have HF:=Lib.hid hFin;clear hFin;simp only[List.take_succ_cons,List.take_zero,List.drop_succ_cons,List.drop_zero];apply Exists.intro
 repeat ((first|(apply Kp.kp_free;(first|rfl|(rw[HL.out];rfl));(intro w1;go_simp;rfl))|(apply Kp.kp_now;rfl;(first|rfl|(rw[HL.out];rfl));(intro w1 hb1;obtain⟨hcw,hfw⟩:=afb hb1;clear hb1;go_simp;rfl)));simp only[Act.put,List.setIfInBounds_toArray,List.set_cons_succ,List.set_cons_zero])
 apply Kp.kp_nil;refine HF.out _ _ (fun w1 hb1 _=>?_);clear HL HF;simp only[List.drop_succ_cons,List.drop_zero];replace g3:=g3.below hb1 lt3;replace g4:=g4.below hb1 lt4;replace g5:=g5.below hb1 g5.lt;replace g6:=g6.below hb1 g6.lt;replace hb:=hb.trans' hb1;clear hb1 lt3 lt4;have l6:=g6.lt;have r3:Rd w1 (.slice (some ⟨w.heap.size,0,none⟩) 4 4) (zc lo):=⟨by simp[Value.oneCell'],.inr ⟨_,_,rfl,g3.lt,fun j u hj=>by rw[ab5];exact g3.cell_at hj⟩⟩;have r4:Rd w1 (.slice (some ⟨w.heap.size+1,0,none⟩) 4 4) (zc hi):=⟨by simp[Value.oneCell'],.inr ⟨_,_,rfl,g4.lt,fun j u hj=>by rw[ab5];exact g4.cell_at hj⟩⟩
 go_wp2_with (first|(go_at_call 224;refine (sE _ _ _ _ w1.heap.size 2 _ (r3.below rfl ((Below.refl _ _).alloc (Nat.le_refl _) _)) (r4.below rfl ((Below.refl _ _).alloc (Nat.le_refl _) _)) (Blk.new' rfl) Sm Sm).mono ?_;rintro e W2 ⟨v,rfl,hown,hb2⟩;obtain⟨g,cap,rfl,hgB,hgl,hcells⟩:=km hown;replace g5:Blk W2 (w.heap.size+1+1) 24 (zc m):=(g5.alloc _).below hb2 (by have:=g5.lt;simp;omega);replace g6:Blk W2 (w.heap.size+1+1+1) 24 aat:=(g6.alloc _).below hb2 (by have:=g6.lt;simp;omega);replace hb:Ext w W2:=(hb.alloc' _).trans' hb2;clear hb2 hown r3 r4 g3 g4)|(go_at_call 225;refine (rM _ _ _ _).mono ?_;rintro e W3 ⟨rfl,rfl⟩))
 have hbx:(W2.alloc (.cells #[.slice (some ⟨g,0,none⟩) 8 cap] 201)).cell? ⟨W2.heap.size,0,none⟩=some (.slice (some ⟨g,0,none⟩) 8 cap):=(Blk.new W2 201 [.slice (some ⟨g,0,none⟩) 8 cap]).cell_at (i:=0) rfl;have hcx:∀ j,j<(sM lo hi).length→(W2.alloc (.cells #[.slice (some ⟨g,0,none⟩) 8 cap] 201)).cell? ⟨g,j,none⟩=some (.int .u64 (((sM lo hi)[j]?.getD default).1:Int)):=fun j hj=>(((Ext.rfl' W2).alloc' _).cell (p:=⟨g,j,none⟩) hgl).trans (hcells j hj);generalize hW3:W2.alloc (.cells #[.slice (some ⟨g,0,none⟩) 8 cap] 201)=W3 at *;have g5' : Blk W3 (w.heap.size+1+1) 24 (zc m):=by subst hW3;exact g5.alloc _
 have g6' : Blk W3 (w.heap.size+1+1+1) 24 (jp (qu m [])):=by subst hW3;exact g6.alloc _
 have hb' : Ext w W3:=by subst hW3;exact hb.alloc' _
 have hs3:W3.heap.size=W2.heap.size+1:=by subst hW3;simp
 have h6l:=g6.lt;have hg6:w.heap.size+1+1+1<g:=by simp at hgB;omega
 clear hW3 g5 g6 hb hcells;refine (wpIn_wide (n:=3)).1 ?_
 refine wpIn_rangeFunc_ownF (F:=Fence.wide) rfl Om (gf:=263) (lb:=#[.pointer (some ⟨W2.heap.size,0,none⟩)]) rfl trivial (enters_of Tryz.func263 Kr rfl)
  (qy (3 - 1) Om W2.heap.size g cap (sM lo hi) (by simp[sM]) W3 Om Om hbx hcx) uU.trans (uU.put Om Om) (Below.refl _ _) (fun _=>rfl)
  (fun pre W=>((Blk W (w.heap.size+1+1) 24 (zc m)∧Blk W (w.heap.size+1+1+1) 24 (jp (qu m pre)))∧W3.heap.size≤W.heap.size)∧Below w.heap.size w W)
  (fun _ _ _=>False)
  (OwnFrom.and (Own.from (fun s A B row hs hg hr=>⟨⟨hs.1.1.own hg hr,hs.1.2.own hg hr⟩,Nat.le_trans hs.2 hg.size⟩) _) (ownFrom_below (Nat.le_refl _) Om))
  (fun _ _ _ _ _ hs _ _=>hs)
  ⟨⟨⟨g5',g6'⟩,Nat.le_refl _⟩,hb'⟩
  ?a1 ?assign ?body ?done ?stop
 case assign =>
  intro l x W K hK
  gi_wp2
  exact hK
 case body =>
  rintro l pre x W ⟨⟨⟨g5,g6⟩,hW3⟩,hB⟩ _;have hD:=qJ (qu m pre) x.2.1 m x.2.2 hs (k9 m h0 pre);rw[← pj] at hD;have hle:=x.2.2;have hlf:=k9 m h0 pre;generalize hsn:qu m (pre++[x])=r' at *;generalize qu m pre=r at *;have hm0:wd 0 m=m:=Nat.mod_eq_of_lt hs;have c5:=g5.cell_at (i:=0) rfl;rw[hm0] at c5;have c6:=g6.cell_at (i:=0) rfl;have f6:=g6.frozen 0;have HS:=Lib.hid hsn;clear hm0 hsn;have l5:=g5.lt;have l6:=g6.lt
  gi_wp2_with (refine⟨trivial,?_⟩;gi_at_call 184;refine (CallsIn.inRound l (callsIn_wide.2 (hD _))).mono ?_;rintro e w2 ⟨rfl,hb2⟩;have c6':=(g6.below hb2 l6).cell_at (i:=0) rfl;have f6':=(g6.below hb2 l6).frozen 0)
  have hsz:=hB.size;refine⟨(mZ hb2).trans (KeepsOthers.setCell _ _ _),⟨?_,?_⟩,⟨⟨?_,?_⟩,?_⟩,?_⟩
  ·exact (Below.heap_setCell _ _ _ _ (by show g≠w.heap.size+1+1+1;omega)).trans (hb2.block _ Om)
  ·exact (Below.heap_setCell _ _ _ _ (by show W2.heap.size≠w.heap.size+1+1+1;omega)).trans (hb2.block _ Om)
  ·have:=g5.below hb2 l5
   ((repeat' (with_reducible first|exact this|refine Blk.drew ?_|refine Blk.drewN ?_ _|refine Blk.far ?_ ?_ _|refine Blk.alloc ?_ _))<;>(first|omega|(simp;done)|(simp;omega)))
  ·rw[HS.out];exact (g6.below hb2 l6).set_ 0 _
  ·have:=hb2.size;simp;omega
  ·exact (hB.trans (hb2.mono hB.size)).setCell (by show _≤w.heap.size+1+1+1;omega) _
 case done =>
  rintro D ys W hD rfl ⟨⟨⟨g5,g6⟩,hW3⟩,hB⟩ hK;rw[show (sM lo hi).length=8 from rfl,cG lo hi m hlo hhi] at g6;rw[oq (Nat.lt_trans (Nat.mod_lt _ h0) hs)] at g6;generalize hR:(hi*ze+lo)%m=R at *;have g6_0:=g6.cell_at (i:=0) rfl;have g6_1:=g6.cell_at (i:=1) rfl;have g6_2:=g6.cell_at (i:=2) rfl;have g6_3:=g6.cell_at (i:=3) rfl;have g6_f:=g6.frozen;have g6_l:=g6.lt;have g6_m:=Nat.lt_succ_of_lt g6_l;have g6_n:=Nat.lt_succ_of_lt g6_m;have HR:=Lib.hid hR;clear hR
  gi_wp2
  go_wp2;generalize hW4:(((W.setCell _ _).setCell _ _).setCell _ _).setCell _ _=W4;have k6:Blk W4 (w.heap.size+1+1+1) 24 (zc R):=by subst hW4;exact g6.put4 _ _ _ _
  have hD6:D≠w.heap.size+1+1+1:=by omega
  have hK4:W4.heap[D]?=some (.deferred (some [])):=by
   subst hW4;rw[Below.heap_setCell _ _ _ _ hD6,Below.heap_setCell _ _ _ _ hD6,Below.heap_setCell _ _ _ _ hD6,Below.heap_setCell _ _ _ _ hD6];exact hK
  have hB4:Below w.heap.size w W4:=by
   have hsz:=hB.size;subst hW4
   ((repeat' (with_reducible first|exact hB|refine Below.drew ?_|refine Below.drewN' ?_ _|refine Below.setCell ?_ ?_ _|refine Below.alloc ?_ ?_ _))<;>(first|omega|(simp;done)|(simp;omega)))
  clear hW4;refine⟨by simp,.inl ⟨_,_,rfl,run_takeDeferred hK4,?_⟩⟩;have k7:=k6.far' (o:=.deferred none) hD6;have k7_0:=k7.cell_at (i:=0) rfl;have k7_1:=k7.cell_at (i:=1) rfl;have k7_2:=k7.cell_at (i:=2) rfl;have k7_3:=k7.cell_at (i:=3) rfl;have k7_f:=k7.frozen;have k7_l:=k7.lt;have k7_m:=Nat.lt_succ_of_lt k7_l;have k7_n:=Nat.lt_succ_of_lt k7_m;refine⟨.tuple #[zk R,.int .i64 0],?_,by rw[HR.out],hB4.trans (belowK_b (w:=w) (Nat.le_refl _) W4 D _ _ Om hK4 rfl rfl)⟩;simp[results,Tryz.results186,go_sem,k7_0,k7_1,k7_2,k7_3]
 case stop =>
  rintro D c pre W _ _ h _;exact h.elim
end
section
open Go.RowKit
attribute [local go_sem] yj yJ
end
end Go.Proofs.YtiaibpcaloigkaaGreatDoor
