/- Part 14 of the proof: Div64, DivC -/
import Derived.Test.YtiiacjladnljhaaGreatDoorM13
import Derived.Deep.DeepCutAuto
import Derived.Deep.CutBlock
set_option linter.unusedSimpArgs false
set_option linter.unusedVariables false
namespace Go.Proofs.YtiiacjladnljhaaGreatDoor
open Go.RowKit
theorem wrapN (n:Nat):IntKind.u64.wrap (n:Int)=((n%18446744073709551616:Nat):Int):=by rw[IntKind.wrap_u64];omega
theorem wrapN_lt {n:Nat} (h:n<18446744073709551616):IntKind.u64.wrap (n:Int)=(n:Int):=by rw[wrapN,Nat.mod_eq_of_lt h]
theorem divN (a b:Nat) (ha:a<18446744073709551616) (hb:0<b):IntKind.u64.wrap ((a:Int) / (b:Int))=(a:Int) / (b:Int):=by
  have:((a:Int) / (b:Int))=((a / b:Nat):Int):=by simp
  rw[this,wrapN_lt (Nat.lt_of_le_of_lt (Nat.div_le_self _ _) ha)]
theorem mulW (a b:Nat):IntKind.u64.wrap ((a:Int)*(b:Int))=((a*b%18446744073709551616:Nat):Int):=by rw[← wrapN];simp
theorem mulW32 (a:Nat):IntKind.u64.wrap ((a:Int)*4294967296)=((a*4294967296%18446744073709551616:Nat):Int):=mulW a 4294967296
theorem mulW32' (a:Nat) (h:a<4294967296):IntKind.u64.wrap (4294967296*(a:Int))=((4294967296*a:Nat):Int):=by
  have:=mulW 4294967296 a
  rw[Nat.mod_eq_of_lt (by omega)] at this
  exact this
theorem addW (a b:Nat):IntKind.u64.wrap ((a:Int)+(b:Int))=(((a+b)%18446744073709551616:Nat):Int):=by rw[← wrapN];simp
theorem subW {a b n:Nat} (hn:n<18446744073709551616) (h:(b+n)%18446744073709551616=a%18446744073709551616):IntKind.u64.wrap ((a:Int) - (b:Int))=(n:Int):=by
  rw[IntKind.wrap_u64];omega
theorem left_aux (z r u d:Nat) (h:z+r=u*4294967296+d):(z%18446744073709551616+r)%18446744073709551616=(u*4294967296%18446744073709551616+d)%18446744073709551616%18446744073709551616:=by omega
theorem leftW {u d Y:Nat} (hu:u<Y) (hY:Y<18446744073709551616) :
    (((u*4294967296+d) / Y)*Y%18446744073709551616+(u*4294967296+d)%Y)%18446744073709551616=(u*4294967296%18446744073709551616+d)%18446744073709551616%18446744073709551616:=by
  have h:=Nat.div_add_mod (u*4294967296+d) Y
  rw[Nat.mul_comm] at h
  exact left_aux _ _ _ _ h
theorem modN (a b:Nat):(a:Int).tmod (b:Int)=(a:Int)%(b:Int):=Int.tmod_eq_emod_of_nonneg (by omega)
set_option maxRecDepth 100000 in
theorem bits_Div64_low (lo y:Nat) (h1:lo<18446744073709551616) (h2:y<18446744073709551616) (h0:0<y) (w:World) :
    Calls Tryz.prog 220 #[.int .u64 0,.int .u64 (lo:Int),.int .u64 (y:Int)] w fun e w'=>e=.returned (.tuple #[.int .u64 ((lo / y:Nat):Int),.int .u64 ((lo%y:Nat):Int)])∧Below w.heap.size w w':=by
  have hy1:((y:Int) == 0)=false:=by simp;omega
  have hy2:decide ((y:Int)≤0)=false:=by simp;omega
  have hy3:1≤(y:Int):=by omega
  go_enter Tryz.func220,Tryz.ntmps220
  go_wp2
  refine Kp.wp_region_kpl 8 (by kernel_rfl) (by kernel_rfl) (fun L Fin hL hFin=>?_)
  have HL:=Lib.hid hL;clear hL
  have HF:=Lib.hid hFin;clear hFin
  simp only[List.take_succ_cons,List.take_zero,List.drop_succ_cons,List.drop_zero]
  apply Exists.intro
  repeat ((first|(apply Kp.kp_free;(first|rfl|(rw[HL.out];rfl));(intro w1;go_simp;rfl))|(apply Kp.kp_now;rfl;(first|rfl|(rw[HL.out];rfl));(intro w1 hb1;obtain⟨hcw,hfw⟩:=bcell hb1;clear hb1;go_simp;rfl)));simp only[Act.put,List.setIfInBounds_toArray,List.set_cons_succ,List.set_cons_zero])
  apply Kp.kp_nil
  refine HF.out _ _ (fun w1 hb1 _=>?_)
  clear HL HF
  simp only[List.drop_succ_cons,List.drop_zero]
  go_wp2
  go_ret2
  refine⟨?_,hb1⟩
  show Ending.returned (.tuple #[.int .u64 (IntKind.u64.wrap ((lo:Int) / (y:Int))),.int .u64 ((lo:Int).tmod (y:Int))])=_
  rw[divN lo y h1 h0,modN lo y]
  simp
theorem finW (D E:Nat) (hD:D<4294967296) (hE:E<4294967296):∃ z1:Nat,IntKind.u64.wrap ((D:Int)*4294967296)=(z1:Int)∧IntKind.u64.wrap ((z1:Int)+(E:Int))=((D*4294967296+E:Nat):Int) :=
  ⟨D*4294967296,by rw[mulW32,Nat.mod_eq_of_lt (by omega)],by rw[addW,Nat.mod_eq_of_lt (by omega)]⟩
def Pack (u d h l Y q0 p0 r0 D R x1 x2 x3:Nat):Prop :=
  IntKind.u64.wrap (q0:Int)=(q0:Int)∧(u:Int) / (h:Int)=(q0:Int)∧IntKind.u64.wrap ((q0:Int)*(h:Int))=(p0:Int)∧IntKind.u64.wrap ((u:Int) - (p0:Int))=(r0:Int) ∧
  r0<4294967296∧Dig u d h l q0 r0∧D<4294967296∧R<Y∧IntKind.u64.wrap ((u:Int)*4294967296)=(x1:Int)∧IntKind.u64.wrap ((x1:Int)+(d:Int))=(x2:Int) ∧
  IntKind.u64.wrap ((D:Int)*(Y:Int))=(x3:Int)∧IntKind.u64.wrap ((x2:Int) - (x3:Int))=(R:Int)∧D=(u*4294967296+d) / (h*4294967296+l)∧R=(u*4294967296+d)%(h*4294967296+l)
theorem pack (u d h l Y:Nat) (hYe:Y=h*4294967296+l) (hu:u<Y) (hY:Y<18446744073709551616) (hh1:2147483648≤h) (hh2:h<4294967296) (hl:l<4294967296) (hd2:d<4294967296) :
    ∃ q0 p0 r0 D R x1 x2 x3,Pack u d h l Y q0 p0 r0 D R x1 x2 x3:=by
  have hu64:u<18446744073709551616:=by omega
  have hpos:0<h*4294967296+l:=by omega
  have P1:=divN u h hu64 (by omega)
  have P1' : (u:Int) / (h:Int)=((u / h:Nat):Int):=by simp
  rw[P1'] at P1
  have P2:=mulW (u / h) h
  have hle1:u / h*h≤u:=Nat.div_mul_le_self u h
  rw[Nat.mod_eq_of_lt (by omega)] at P2
  have P3:IntKind.u64.wrap ((u:Int) - ((u / h*h:Nat):Int))=((u%h:Nat):Int):=subW (Nat.lt_of_le_of_lt (Nat.mod_le _ _) hu64) (by rw[Nat.mul_comm,Nat.div_add_mod])
  have hr1:u%h<4294967296:=Nat.lt_of_lt_of_le (Nat.mod_lt _ (by omega)) (by omega)
  have hlt1:=Nat.mod_lt (u*4294967296+d) hpos
  have P7:=subW (by omega) (leftW (u:=u) (d:=d) (Y:=h*4294967296+l) (by omega) (by omega))
  exact⟨_,_,_,(u*4294967296+d) / (h*4294967296+l),(u*4294967296+d)%(h*4294967296+l),_,_,_,P1,P1',P2,P3,hr1,Dig.start hh1 hd2,
    digit_lt (by omega) hd2,by rw[hYe];exact hlt1,mulW32 u,addW _ d,mulW _ Y,by rw[hYe];exact P7,rfl,rfl⟩
theorem testW {q l r d:Nat} (hq:q<4294967296) (hl:l<4294967296) (hr:r<4294967296) (hd:d<4294967296) :
    IntKind.u64.wrap ((q:Int)*(l:Int))=((q*l:Nat):Int)∧IntKind.u64.wrap (4294967296*(r:Int))=((4294967296*r:Nat):Int) ∧
    IntKind.u64.wrap (((4294967296*r:Nat):Int)+(d:Int))=((4294967296*r+d:Nat):Int):=by
  have h1:q*l≤4294967295*4294967295:=Nat.mul_le_mul (by omega) (by omega)
  refine⟨?_,mulW32' r hr,?_⟩
  · rw[mulW,Nat.mod_eq_of_lt (by omega)]
  · rw[addW,Nat.mod_eq_of_lt (by omega)]
set_option maxRecDepth 100000 in
theorem bits_Div64_high (hi lo y:Nat) (h1:lo<18446744073709551616) (h2:y<18446744073709551616) (h0:0<hi) (h3:hi<y) (w:World) :
    Calls Tryz.prog 220 #[.int .u64 (hi:Int),.int .u64 (lo:Int),.int .u64 (y:Int)] w fun e w' =>
      e=.returned (.tuple #[.int .u64 (((hi*18446744073709551616+lo) / y:Nat):Int),.int .u64 (((hi*18446744073709551616+lo)%y:Nat):Int)])∧Below w.heap.size w w':=by
  have hy1:((y:Int) == 0)=false:=by simp;omega
  have hy2:decide (y≤hi)=false:=by simp;omega
  have hy3:1≤(y:Int):=by omega
  have hh1:((hi:Int) == 0)=false:=by simp;omega
  have hbl:=bitLen_eq h2
  have hb64:=bitsN_le (k:=64) h2
  obtain⟨_,k1,k2,k3⟩:=high_bit (by omega) h2
  obtain⟨S,hS⟩ : ∃ S,S=64 - bitsN y:=⟨_,rfl⟩
  have hlz:∀ w,Calls Tryz.prog 250 #[.int .u64 (y:Int)] w fun e w'=>e=.returned (.int .i64 (S:Nat))∧w=w':=fun w =>
    (Tryz.bits_LeadingZeros64 _ w (by omega) (by omega)).mono fun e w' h=>⟨by rw[h.1,hS];congr 2;simp[hbl];omega,h.2.symm⟩
  rw[← hS] at k2 k3
  have hS63:S<64:=by omega
  obtain⟨n1,n2⟩:=norm_words hS63 k3 h3 h1
  have hor:=or_words (hi:=hi) hS63 h1
  have nd:=norm_div (U:=hi*18446744073709551616+lo) (y:=y) (Nat.two_pow_pos S)
  have hA:hi*2 ^ S<18446744073709551616:=Nat.lt_of_le_of_lt (Nat.mul_le_mul_right _ (Nat.le_of_lt h3)) k3
  have hL:lo / 2 ^ (64 - S)<18446744073709551616:=Nat.lt_of_le_of_lt (Nat.div_le_self _ _) h1
  have E1:IntKind.u64.wrap ((y:Int)*2 ^ S)=((y*2 ^ S:Nat):Int):=by rw[← Nat.mod_eq_of_lt k3,← wrapN];simp
  have E4:IntKind.u64.wrap ((hi:Int)*2 ^ S)=((hi*2 ^ S:Nat):Int):=by rw[← Nat.mod_eq_of_lt hA,← wrapN];simp
  have E5:bits .or .u64 ((hi*2 ^ S:Nat):Int) ((lo:Int) / 2 ^ (64 - S))=((hi*2 ^ S+lo / 2 ^ (64 - S):Nat):Int):=by
    rw[← hor,← u64_or_nat _ _ hA hL];simp
  have E6:IntKind.u64.wrap ((lo:Int)*2 ^ S)=((lo*2 ^ S%18446744073709551616:Nat):Int):=by rw[← wrapN];simp
  rw[← nd.1,← nd.2,← n2]
  have HP:Hid (0<2 ^ S):=Nat.two_pow_pos S
  have hV:lo*2 ^ S%18446744073709551616<18446744073709551616:=Nat.mod_lt _ (by omega)
  clear nd hor n2 hbl hb64 h3 hy3
  generalize hi*2 ^ S+lo / 2 ^ (64 - S)=u at *
  generalize lo*2 ^ S%18446744073709551616=V at *
  generalize hi*2 ^ S=A at *
  generalize y*2 ^ S=Y at *
  have E3:bits .and .u64 (Y:Int) 4294967295=((Y%4294967296:Nat):Int):=by have:=u64_and_nat Y 4294967295 k3 (by omega);rw[nat_mask32] at this;exact this
  have E8:bits .and .u64 (V:Int) 4294967295=((V%4294967296:Nat):Int):=by have:=u64_and_nat V 4294967295 hV (by omega);rw[nat_mask32] at this;exact this
  obtain⟨h,hh⟩ : ∃ h,h=Y / 4294967296:=⟨_,rfl⟩
  obtain⟨d1,hd1⟩ : ∃ h,h=V / 4294967296:=⟨_,rfl⟩
  have E2:(Y:Int) / 4294967296=(h:Int):=by omega
  have E7:(V:Int) / 4294967296=(d1:Int):=by omega
  have hh1' : 2147483648≤h:=by omega
  have hh2:h<4294967296:=by omega
  have hd2:d1<4294967296:=by omega
  have hYe:Y=h*4294967296+Y%4294967296:=by omega
  have hVe:V=d1*4294967296+V%4294967296:=by omega
  have hl:Y%4294967296<4294967296:=by omega
  have hd0:V%4294967296<4294967296:=by omega
  generalize Y%4294967296=l at *
  generalize V%4294967296=d0 at *
  rw[hYe,hVe,← hYe]
  obtain⟨q0,p0,r0,D,R,x1,x2,x3,a1,a2,a3,a4,a5,a6,a7,a8,a9,a10,a11,a12,a13,a14⟩:=pack u d1 h l Y hYe n1 k3 hh1' hh2 hl hd2
  obtain⟨q0',p0',r0',D',R',y1,y2,y3,b1,b2,b3,b4,b5,b6,b7,b8,b9,b10,b11,b12,b13,b14⟩:=pack R d0 h l Y hYe a8 k3 hh1' hh2 hl hd0
  have two:=two_digits (u:=u) (d1:=d1) (d0:=d0) (Y:=Y) (by omega) rfl rfl
  rw[← hYe] at a13 a14 b13 b14
  rw[← a13,← a14,← b13,← b14] at two
  rw[← two.1,← two.2]
  obtain⟨z1,c1,c2⟩:=finW D D' (by omega) (by omega)
  obtain⟨z2,hz2⟩ : ∃ z,z=D*4294967296+D':=⟨_,rfl⟩
  rw[← hz2] at c2 ⊢
  clear hz2
  have HY:=Lib.hid hYe;have HDE1:Hid (D=(u*4294967296+d1) / (h*4294967296+l)):=by rw[← hYe];exact a13
  have HDE2:Hid (D'=(R*4294967296+d0) / (h*4294967296+l)):=by rw[← hYe];exact b13
  have hYlo:h*4294967296≤Y:=by omega
  have hYhi:Y≤h*4294967296+l:=by omega
  have HDIG1:=Lib.hid a6;have HDIG2:=Lib.hid b6
  clear hYe hVe a13 a14 b13 b14 two a6 b6 hh hd1 hS k2
  have HZ:=Lib.hid hlz;clear hlz
  go_enter Tryz.func220,Tryz.ntmps220
  go_upto_block 0 with (go_at_call 250;refine (HZ.out _).mono ?_;rintro e w1 ⟨rfl,rfl⟩)
  go_cut [15,16] (fun q r w'=>q=.int .u64 (D:Int)∧w'=w)
  case first =>
    have HDE:=HDE1;have HDIG:=HDIG1
    clear HDE1 HDE2 HDIG1 HDIG2 b1 b2 b3 b4 b5 b7 b8 b9 b10 b11 b12 c1 c2
    go_wp2
    go_loop [16,15] (fun r q=>∃ qn rn:Nat,q=.int .u64 (qn:Nat)∧r=.int .u64 (rn:Nat)∧Hid (Dig u d1 h l qn rn)∧rn<4294967296) (fun _ q=>(intOf q).toNat)
    case atStart=>exact⟨q0,r0,rfl,rfl,HDIG,by assumption⟩
    case round =>
      obtain⟨q,r,rfl,rfl,HQ,hr⟩:=hrel
      have hle:=HQ.out.le (by omega) hh1'
      have hq33:=hle.1
      clear hle
      have down:(4294967296≤q∨4294967296*r+d1<q*l)→1≤q∧Hid (Dig u d1 h l (q - 1) (r+h)):=fun hc=>HQ.out.down (by omega) (by omega) hh1' hc
      by_cases cA:4294967296≤q
      · obtain⟨g1,g2⟩:=down (.inl cA)
        clear down
        have tA:decide ((4294967296:Int)≤(q:Int))=true:=by simp;omega
        by_cases cB:4294967296≤r+h
        · have tB:decide ((4294967296:Int)≤(r:Int)+(h:Int))=true:=by simp;omega
          have fin:=g2.out.break_ cB (by omega) (by omega) hh1'
          have FIN:Hid (q - 1=D):=by rw[HDE.out];exact fin
          clear fin
          go_wp2
          go_meet
          case rel=>exact⟨by rw[← FIN.out,Int.ofNat_sub g1];rfl,rfl⟩
        · have tB:decide ((4294967296:Int)≤(r:Int)+(h:Int))=false:=by simp;omega
          go_wp2
          go_round
          case rel=>exact⟨q - 1,r+h,by rw[Int.ofNat_sub g1];rfl,by go_num,g2,by omega⟩
          case measure=>simp[intOf];omega
      · have tA:decide ((4294967296:Int)≤(q:Int))=false:=by simp;omega
        obtain⟨w1,w2,w3⟩:=testW (q:=q) (l:=l) (r:=r) (d:=d1) (by omega) (by omega) hr (by omega)
        have stop:q*l≤4294967296*r+d1→Hid (q=D):=fun hc=>by rw[HDE.out];exact HQ.out.stop hc hh1'
        generalize 4294967296*r+d1=m2 at *
        generalize 4294967296*r=m3 at *
        generalize q*l=m1 at *
        by_cases cC:m2<m1
        · have tC:decide (m2<m1)=true:=by simp;omega
          obtain⟨g1,g2⟩:=down (.inr cC)
          clear down stop
          by_cases cB:4294967296≤r+h
          · have tB:decide ((4294967296:Int)≤(r:Int)+(h:Int))=true:=by simp;omega
            have fin:=g2.out.break_ cB (by omega) (by omega) hh1'
            have FIN:Hid (q - 1=D):=by rw[HDE.out];exact fin
            clear fin
            go_wp2
            go_meet
            case rel=>exact⟨by rw[← FIN.out,Int.ofNat_sub g1];rfl,rfl⟩
          · have tB:decide ((4294967296:Int)≤(r:Int)+(h:Int))=false:=by simp;omega
            go_wp2
            go_round
            case rel=>exact⟨q - 1,r+h,by rw[Int.ofNat_sub g1];rfl,by go_num,g2,by omega⟩
            case measure=>simp[intOf];omega
        · have tC:decide (m2<m1)=false:=by simp;omega
          have FIN:=stop (by omega)
          clear down stop
          go_wp2
          go_meet
          case rel=>exact⟨by rw[← FIN.out],rfl⟩
  case rest =>
    obtain⟨rfl,rfl⟩:=hcut
    clear HDE1 HDIG1
    go_upto_block 2 with (fail)
    go_cut [16,18] (fun r q w'=>q=.int .u64 (D' : Int)∧w'=wc)
    case first =>
      have HDE:=HDE2;have HDIG:=HDIG2
      clear HDE2 HDIG2
      go_wp2
      go_loop [16,18] (fun r q=>∃ qn rn:Nat,q=.int .u64 (qn:Nat)∧r=.int .u64 (rn:Nat)∧Hid (Dig R d0 h l qn rn)∧rn<4294967296) (fun _ q=>(intOf q).toNat)
      case atStart=>exact⟨q0',r0',rfl,rfl,HDIG,by assumption⟩
      case round =>
        obtain⟨q,r,rfl,rfl,HQ,hr⟩:=hrel
        have hle:=HQ.out.le (by omega) hh1'
        have hq33:=hle.1
        clear hle
        have down:(4294967296≤q∨4294967296*r+d0<q*l)→1≤q∧Hid (Dig R d0 h l (q - 1) (r+h)):=fun hc=>HQ.out.down (by omega) (by omega) hh1' hc
        by_cases cA:4294967296≤q
        · obtain⟨g1,g2⟩:=down (.inl cA)
          clear down
          have tA:decide ((4294967296:Int)≤(q:Int))=true:=by simp;omega
          by_cases cB:4294967296≤r+h
          · have tB:decide ((4294967296:Int)≤(r:Int)+(h:Int))=true:=by simp;omega
            have fin:=g2.out.break_ cB (by omega) (by omega) hh1'
            have FIN:Hid (q - 1=D'):=by rw[HDE.out];exact fin
            clear fin
            go_wp2
            go_meet
            case rel=>exact⟨by rw[← FIN.out,Int.ofNat_sub g1];rfl,rfl⟩
          · have tB:decide ((4294967296:Int)≤(r:Int)+(h:Int))=false:=by simp;omega
            go_wp2
            go_round
            case rel=>exact⟨q - 1,r+h,by rw[Int.ofNat_sub g1];rfl,by go_num,g2,by omega⟩
            case measure=>simp[intOf];omega
        · have tA:decide ((4294967296:Int)≤(q:Int))=false:=by simp;omega
          obtain⟨w1,w2,w3⟩:=testW (q:=q) (l:=l) (r:=r) (d:=d0) (by omega) (by omega) hr (by omega)
          have stop:q*l≤4294967296*r+d0→Hid (q=D'):=fun hc=>by rw[HDE.out];exact HQ.out.stop hc hh1'
          generalize 4294967296*r+d0=m2 at *
          generalize 4294967296*r=m3 at *
          generalize q*l=m1 at *
          by_cases cC:m2<m1
          · have tC:decide (m2<m1)=true:=by simp;omega
            obtain⟨g1,g2⟩:=down (.inr cC)
            clear down stop
            by_cases cB:4294967296≤r+h
            · have tB:decide ((4294967296:Int)≤(r:Int)+(h:Int))=true:=by simp;omega
              have fin:=g2.out.break_ cB (by omega) (by omega) hh1'
              have FIN:Hid (q - 1=D'):=by rw[HDE.out];exact fin
              clear fin
              go_wp2
              go_meet
              case rel=>exact⟨by rw[← FIN.out,Int.ofNat_sub g1];rfl,rfl⟩
            · have tB:decide ((4294967296:Int)≤(r:Int)+(h:Int))=false:=by simp;omega
              go_wp2
              go_round
              case rel=>exact⟨q - 1,r+h,by rw[Int.ofNat_sub g1];rfl,by go_num,g2,by omega⟩
              case measure=>simp[intOf];omega
          · have tC:decide (m2<m1)=false:=by simp;omega
            have FIN:=stop (by omega)
            clear down stop
            go_wp2
            go_meet
            case rel=>exact⟨by rw[← FIN.out],rfl⟩
    case rest =>
      obtain⟨rfl,rfl⟩:=hcut
      go_wp2
      go_ret2
      exact⟨by simp,Below.refl _ _⟩
end Go.Proofs.YtiiacjladnljhaaGreatDoor
namespace Go.Proofs.YtiiacjladnljhaaGreatDoor
open Go.RowKit
attribute [local go_sem] run_eqin_num
theorem numV_zero:Value.agg #[.int .u64 0,.int .u64 0,.int .u64 0,.int .u64 0]=numV 0:=numV_small 0 (by omega)
theorem run_eqin_zero {a:Nat} (ha:a<B256) (w:World) :
    (Op.equalIn 10000 24 (numV a) (.agg #[.int .u64 0,.int .u64 0,.int .u64 0,.int .u64 0])).run Tryz.prog w=.ok (eqN a 0) w:=by
  rw[numV_zero];exact run_eqin_num ha (by unfold B256;omega) w
attribute [local go_sem] run_eqin_zero
theorem bits_Div64 (hi lo y:Nat) (h1:lo<18446744073709551616) (h2:y<18446744073709551616) (h3:hi<y) (w:World) :
    Calls Tryz.prog 220 #[.int .u64 (hi:Int),.int .u64 (lo:Int),.int .u64 (y:Int)] w fun e w' =>
      e=.returned (.tuple #[.int .u64 (((hi*18446744073709551616+lo) / y:Nat):Int),.int .u64 (((hi*18446744073709551616+lo)%y:Nat):Int)])∧Below w.heap.size w w':=by
  rcases Nat.eq_zero_or_pos hi with rfl|h
  · rw[Nat.zero_mul,Nat.zero_add]
    exact bits_Div64_low lo y h1 h2 (by omega) w
  · exact bits_Div64_high hi lo y h1 h2 h h3 w
abbrev qC (D k:Nat):List Value:=[.int .u64 ((qc D k 0:Nat):Int),.int .u64 ((qc D k 1:Nat):Int),.int .u64 ((qc D k 2:Nat):Int),.int .u64 ((qc D k 3:Nat):Int)]
theorem qC_get (D k:Nat) {i:Nat} (h:i<4):(qC D k)[i]?=some (.int .u64 ((qc D k i:Nat):Int)):=by
  have:i=0∨i=1∨i=2∨i=3:=by omega
  rcases this with rfl|rfl|rfl|rfl<;>rfl
theorem qC_set (D:Nat) {k:Nat} (h:k<4):(qC D (k+1)).set k (.int .u64 ((wd k D:Nat):Int))=qC D k:=by
  have:k=0∨k=1∨k=2∨k=3:=by omega
  rcases this with rfl|rfl|rfl|rfl<;>simp[qC,qc]
theorem qC_zero (D:Nat):qC D 0=numC D:=by simp[qC,qc]
theorem qC_four (D:Nat):qC D 4=zeroC:=by simp[qC,qc]
abbrev oneC (r:Nat):List Value:=[.int .u64 ((r:Nat):Int),.int .u64 0,.int .u64 0,.int .u64 0]
theorem oneC_num {r:Nat} (h:r<18446744073709551616):oneC r=numC r:=by
  have:=numV_small r h
  simpa [numV] using this
set_option maxRecDepth 100000 in
set_option maxHeartbeats 1000000 in
theorem divides_Div_short (a b:Nat) (ha:a<B256) (h0:0<b) (hs:b<18446744073709551616) (w:World) :
    Calls Tryz.prog 275 #[numV a,numV b] w fun e w'=>e=.returned (.tuple #[numV (a / b),numV (a%b),.int .i64 0])∧Below w.heap.size w w':=by
  have hbB:b<B256:=B64_lt b hs
  have he:=eqN_no (a:=b) (b:=0) (by omega)
  have hsh:shortN b=true:=by simp[shortN,hs]
  go_enter Tryz.func275,Tryz.ntmps275
  go_wp2_with (go_at_call 252;refine (divides_short b hbB _).mono ?_;rw[hsh];rintro e W ⟨rfl,hb1⟩;have hg2:Blk W w.heap.size 24 (numC a):=((((Blk.new _ _ _).alloc _).alloc _).alloc _).below hb1 (by simp;omega);have hg3:Blk W (w.heap.size+1) 24 (numC b):=(((Blk.new' (by simp)).alloc _).alloc _).below hb1 (by simp);have hg4:Blk W (w.heap.size+1+1) 24 zeroC:=((Blk.new' (by simp)).alloc _).below hb1 (by simp);have hg5:Blk W (w.heap.size+1+1+1) 24 zeroC:=(Blk.new' (by simp)).below hb1 (by simp);have hb:Ext w W:=(((((Ext.rfl' w).alloc' _).alloc' _).alloc' _).alloc' _).trans' hb1;clear hb1)
  go_loopw [7] (fun i wr=>∃ k:Nat,k≤4∧i=.int .i64 ((k:Int) - 1)∧Blk wr w.heap.size 24 (numC a)∧Blk wr (w.heap.size+1) 24 (numC b)∧Blk wr (w.heap.size+1+1) 24 (qC (a / b) k)∧Blk wr (w.heap.size+1+1+1) 24 (oneC (leftN a b k))∧Ext w wr) (fun i _=>(intOf i+1).toNat)
  case atStart=>exact⟨4,by omega,rfl,hg2,hg3,by rw[qC_four];exact hg4,by rw[leftN_top ha];exact hg5,hb⟩
  case round =>
    clear hg2 hg3 hg4 hg5 hb
    obtain⟨k,hk,hi,hg2,hg3,hg4,hg5,hb⟩:=hrel
    rcases k with _|k
    · obtain rfl:=hi
      have hsz:=hb.size
      rw[qC_zero] at hg4
      rw[oneC_num (Nat.lt_trans (leftN_lt a 0 h0) hs),leftN_zero] at hg5
      have hg4_0:=hg4.cell_at (i:=0) rfl;have hg4_1:=hg4.cell_at (i:=1) rfl;have hg4_2:=hg4.cell_at (i:=2) rfl;have hg4_3:=hg4.cell_at (i:=3) rfl;have hg4_f:=hg4.frozen;have hg4_l:=hg4.lt;have hg4_m:=Nat.lt_succ_of_lt hg4_l;have hg4_n:=Nat.lt_succ_of_lt hg4_m
      have hg5_0:=hg5.cell_at (i:=0) rfl;have hg5_1:=hg5.cell_at (i:=1) rfl;have hg5_2:=hg5.cell_at (i:=2) rfl;have hg5_3:=hg5.cell_at (i:=3) rfl;have hg5_f:=hg5.frozen;have hg5_l:=hg5.lt;have hg5_m:=Nat.lt_succ_of_lt hg5_l;have hg5_n:=Nat.lt_succ_of_lt hg5_m
      clear hg2 hg3
      go_wp2
      go_region
      go_wp2
      refine bodyPost_ret (v:=.tuple #[numV (a / b),numV (a%b),.int .i64 0]) ?_ rfl ⟨rfl,?_⟩
      · simp[results,Tryz.results275,go_sem,hg4_0,hg4_1,hg4_2,hg4_3,hg5_0,hg5_1,hg5_2,hg5_3]
      · ((repeat' (with_reducible first|exact hb|refine Below.drew ?_|refine Below.drewN' ?_ _|refine Below.setCell ?_ ?_ _|refine Below.alloc ?_ ?_ _))<;>(first|omega|(simp;done)|(simp;omega)))
    · have hk4:k<4:=by omega
      rw[show ((k+1:Nat):Int) - 1=(k:Int) by omega] at hi
      subst hi
      have hlo:=leftN_lt a (k+1) h0
      have hD:=bits_Div64 (leftN a b (k+1)) (wd k a) b (wd_lt k a) hs hlo
      rw[(left_word a b k hk4 h0).1,(left_word a b k hk4 h0).2] at hD
      have hb0:wd 0 b=b:=Nat.mod_eq_of_lt hs
      have c3:=hg3.cell_at (i:=0) rfl
      rw[hb0] at c3
      clear hb0
      have c2:=hg2.cell_at (numC_get a hk4)
      have c5:=hg5.cell_at (i:=0) rfl
      have hle:leftN a b (k+1)≤18446744073709551615:=by omega
      have hle2:=wd_le k a
      generalize hL:leftN a b (k+1)=H at *
      have HD:=Lib.hid hD;clear hD hL hlo
      have hki:(k:Int)<4:=by omega
      have lt2:=hg2.lt
      have lt3:=hg3.lt
      have lt4:=hg4.lt
      have lt5:=hg5.lt
      go_wp2
      refine Kp.wp_region_kpf [11] 12 (by kernel_rfl) (by kernel_rfl) (fun L Fin hL hFin=>?_)
      have HL:=Lib.hid hL;clear hL
      have HF:=Lib.hid hFin;clear hFin
      simp only[List.take_succ_cons,List.take_zero,List.drop_succ_cons,List.drop_zero]
      apply Exists.intro
      repeat ((first|(apply Kp.kp_free;(first|rfl|(rw[HL.out];rfl));(intro w1;go_simp;rfl))|(apply Kp.kp_now;rfl;(first|rfl|(rw[HL.out];rfl));(intro w1 hb1;obtain⟨hcw,hfw⟩:=bcell hb1;clear hb1;go_simp;rfl)));simp only[Act.put,List.setIfInBounds_toArray,List.set_cons_succ,List.set_cons_zero])
      apply Kp.kp_val
      rfl
      (first|rfl|(rw[HL.out];rfl))
      (intro w1 hb1 _;obtain⟨hcw,hfw⟩:=bcell hb1;refine Kp.kyp_call (by go_simp;first|rfl|exact⟨rfl,rfl⟩) ?_;refine (HD.out w1).mono ?_;rintro e w2 ⟨rfl,hb2⟩;exact⟨_,rfl,rfl,hb2⟩)
      simp only[Act.put,List.setIfInBounds_toArray,List.set_cons_succ,List.set_cons_zero]
      repeat ((first|(apply Kp.kp_free;(first|rfl|(rw[HL.out];rfl));(intro w1;go_simp;rfl))|(apply Kp.kp_now;rfl;(first|rfl|(rw[HL.out];rfl));(intro w1 hb1;obtain⟨hcw,hfw⟩:=bcell hb1;clear hb1;go_simp;rfl)));simp only[Act.put,List.setIfInBounds_toArray,List.set_cons_succ,List.set_cons_zero])
      apply Kp.kp_nil
      refine HF.out _ _ (fun w1 hb1 _=>?_)
      clear HL HF
      simp only[List.drop_succ_cons,List.drop_zero]
      have g2:=hg2.below hb1 lt2
      have g3:=hg3.below hb1 lt3
      have hb2:=hb.trans' hb1
      have g4:=hg4.below hb1 lt4
      have g5:=hg5.below hb1 lt5
      have c4:=g4.cell_at (qC_get (a / b) (k+1) hk4)
      have f4:=g4.frozen k
      have c5:=g5.cell_at (i:=0) rfl
      have f5:=g5.frozen 0
      go_wp2
      refine NoPanic.normal ?_
      go_wp2
      go_roundw
      case rel =>
        refine⟨k,by omega,by go_num,(by ((repeat' (with_reducible first|exact g2|refine Blk.drew ?_|refine Blk.drewN ?_ _|refine Blk.far ?_ ?_ _|refine Blk.alloc ?_ _))<;>(first|omega|(simp;done)|(simp;omega)))),(by ((repeat' (with_reducible first|exact g3|refine Blk.drew ?_|refine Blk.drewN ?_ _|refine Blk.far ?_ ?_ _|refine Blk.alloc ?_ _))<;>(first|omega|(simp;done)|(simp;omega)))),?_,?_,(by ((repeat' (with_reducible first|exact hb2|refine Below.drew ?_|refine Below.drewN' ?_ _|refine Below.setCell ?_ ?_ _|refine Below.alloc ?_ ?_ _))<;>(first|omega|(simp;done)|(simp;omega))))⟩
        · have:=(g4.set_ k (.int .u64 ((wd k (a / b):Nat):Int)))
          rw[qC_set (a / b) hk4] at this
          exact this.far (by simp) _
        · exact (g5.far (by simp) _).set_ 0 _
      case measure=>first|(simp[intOf];done)|(simp[intOf];omega)
end Go.Proofs.YtiiacjladnljhaaGreatDoor
