/- Part 32 of the proof. -/
import Derived.Test.YtbbppkkhidkjpaaGreatDoorM28
import Derived.Test.YtbbppkkhidkjpaaGreatDoorM16
set_option linter.unusedSimpArgs false
set_option linter.unusedVariables false
set_option maxHeartbeats 8000000
namespace Go.Proofs.YtbbppkkhidkjpaaGreatDoor
section
open Go Go.RowKit
namespace Sx
attribute [local irreducible] DQ DQS WC WO WX
theorem abY {x r:Nat} (h:r<64):x%18446744073709551616 / 2 ^ r%2=x / 2 ^ r%2:=by
 rw[show 18446744073709551616=2 ^ r*2 ^ (64 - r) by rw[← Nat.pow_add,show r+(64 - r)=64 by omega],Nat.mod_mul_right_div_self];refine Nat.mod_mod_of_dvd _ ?_;exact⟨2 ^ (63 - r),by rw[show 64 - r=(63 - r)+1 by omega,Nat.pow_succ,Nat.mul_comm]⟩
theorem mb {n i:Nat} (h:i<256):wd (i / 64) n / 2 ^ (i%64)%2=vb n i:=by
 have e:wd (i / 64) n=n / 2 ^ (64*(i / 64))%18446744073709551616:=by
  have hk:i / 64<4:=by omega
  generalize i / 64=k at *
  match k,hk with
  | 0,_|1,_|2,_|3,_=>simp[wd]
  | k+4,h=>omega
 rw[e,abY (Nat.mod_lt _ (by decide)),Nat.div_div_eq_div_mul,← Nat.pow_add,show 64*(i / 64)+i%64=i by omega];rfl
theorem and_one (x:Nat) (h:x<18446744073709551616):IntKind.u64.wrap (((BitVec.ofInt IntKind.u64.bits ((x:Nat):Int) &&& BitVec.ofInt IntKind.u64.bits (1:Int)).toNat:Nat):Int)=((x%2:Nat):Int):=by
 have e:(BitVec.ofInt IntKind.u64.bits ((x:Nat):Int) &&& BitVec.ofInt IntKind.u64.bits (1:Int)).toNat=x%2:=by
  rw[BitVec.toNat_and,BitVec.toNat_ofInt,BitVec.toNat_ofInt];have e1:(((x:Nat):Int)%((2 ^ IntKind.u64.bits:Nat):Int)).toNat=x:=by show (((x:Nat):Int)%18446744073709551616).toNat=x;omega
  have e2:((1:Int)%((2 ^ IntKind.u64.bits:Nat):Int)).toNat=1:=by decide
  rw[e1,e2,Nat.and_one_is_mod]
 rw[e];exact u64_in (by omega) (by omega)
theorem dU (a m n i:Nat):a ^ (n / 2 ^ i)%m=if vb n i=1 then (a ^ (n / 2 ^ (i+1))%m*(a ^ (n / 2 ^ (i+1))%m)%m)*a%m else a ^ (n / 2 ^ (i+1))%m*(a ^ (n / 2 ^ (i+1))%m)%m:=by
 rw[sO n i];exact qR a m _ _ (uk n i)
theorem al (x y m:Nat) (hx:x<m) (hy:y<m) (hm:m<18446744073709551616) :
  ∃ u v q,Fn Tryz.prog 185 [.int .u64 (x:Int),.int .u64 (y:Int)] Tr (Is (.tuple #[.int .u64 ((u:Nat):Int),.int .u64 ((v:Nat):Int)])) ∧
   Fn Tryz.prog 186 [.int .u64 (u:Int),.int .u64 (v:Int),.int .u64 (m:Int)] Tr (Is (.tuple #[.int .u64 ((q:Nat):Int),.int .u64 ((x*y%m:Nat):Int)])):=by
 have hM:=eb x y (by omega) (by omega);have hq:x*y / 18446744073709551616<m:=by
  rw[Nat.div_lt_iff_lt_mul (by decide)];have h1:x*y≤m*y:=Nat.mul_le_mul_right y (Nat.le_of_lt hx);have h2:m*y<m*18446744073709551616:=Nat.mul_lt_mul_of_pos_left (by omega) (by omega);exact Nat.lt_of_le_of_lt h1 h2
 have hD:=lY (x*y / 18446744073709551616) (x*y%18446744073709551616) m (Nat.mod_lt _ (by decide)) hm hq;rw[show x*y / 18446744073709551616*18446744073709551616+x*y%18446744073709551616=x*y by rw[Nat.mul_comm];exact Nat.div_add_mod _ _] at hD;exact⟨_,_,_,hM,hD⟩
theorem acN (a n m:Nat) (ha:a<m) (hn:n<zb) (hm:m<18446744073709551616) (h1:1<m):Fn Tryz.prog 135 [.int .u64 (a:Int),zf n,.int .u64 (m:Int)] Tr (Is (.int .u64 ((a ^ n%m:Nat):Int))):=by
 have hB:=aas n hn;have hN:=sq hn;have hlt:=yX n;have hP:=fun i=>dU a m n i;have hbw:=fun i (h:i<256)=>mb (n:=n) h;have hM:=fun x y hx hy=>al x y m hx hy hm;have hr:=yP 1 m;rw[Nat.mod_eq_of_lt h1] at hr;have hm0:((m:Nat):Int)≠0:=by omega
 have htop:n / 2 ^ zE n=0:=Nat.div_eq_of_lt hlt;generalize zE n=N at *;refine Fn.enter Tryz.func135 rfl rfl rfl ?_;intro w hw
 repeat (first|refine Ta ?_|(refine Tm ?_;intro _)|refine WO.acall (hc:=hB) (k:=?_)|refine WO.does (zP rfl rfl hm0 hr) ?_|refine Tc ?_|exact Tz)
 rename_i g4;refine WC.loopI (σ:=Nat) (fun j=>j≤N) (fun j=>[(0,.int .u64 (a:Int)),(2,.int .u64 (m:Int)),(4,pt g4),(7,.int .u64 ((a ^ (n / 2 ^ j)%m:Nat):Int)),(8,.int .i64 ((j:Int) - 1))]) (fun j=>[⟨g4,24,zc n⟩]) (fun j=>j) N (fun j hj=>?_) (Nat.le_refl _) (by
   rw[htop,Nat.pow_zero,Nat.mod_eq_of_lt h1]
   repeat (first|exact Kle.nil|refine Kle.cons rfl rfl ?_))
 try dsimp only at hj ⊢
 cases j with
 | zero =>
  rw[Nat.pow_zero,Nat.div_one];generalize a ^ n%m=R at *
  repeat (first|refine Tw ?_|(refine Tm ?_;intro _)|exact Tz)
 | succ i =>
  have hp:=hP i;have hb:=hbw i (by omega);have hxl:a ^ (n / 2 ^ (i+1))%m<m:=Nat.mod_lt _ (by omega);rw[show (((i+1:Nat):Int) - 1)=(i:Int) by omega];generalize hX' : a ^ (n / 2 ^ i)%m=X' at *;generalize hX:a ^ (n / 2 ^ (i+1))%m=X at *;obtain⟨u,v,q,hM1,hD1⟩:=hM X X hxl hxl;have hYl:X*X%m<m:=Nat.mod_lt _ (by omega);obtain⟨u2,v2,q2,hM2,hD2⟩:=hM (X*X%m) a hYl ha;have hq64:=ra i 64 (by omega);have hr64:=yP i 64;have hs:=nA (wd (i / 64) n) (i%64) (by omega);have han:=and_one (wd (i / 64) n / 2 ^ (i%64)) (Nat.lt_of_le_of_lt (Nat.div_le_self _ _) (yg _ _));rw[hb] at han;clear hP hbw hM hb htop hr;generalize X*X%m=Y at *;generalize Y*a%m=Z at *
  repeat (first|refine Ta ?_|(refine Tm ?_;intro _)|refine WO.acall (hc:=hM1) (k:=?_)|refine WO.acall (hc:=hD1) (k:=?_)|refine Tc ?_|exact Tz)
  refine WO.does (yy rfl rfl (by decide) hq64) ?_
  repeat (first|refine Ta ?_|(refine Tm ?_;intro _)|refine WO.does (ck (hj:=by omega)) ?_|refine Tc ?_|exact Tz)
  refine WO.does (zP rfl rfl (by decide) hr64) ?_;refine WO.does (yW rfl rfl (by omega) hs) ?_;refine WO.does (sR rfl rfl han) ?_
  rcases uk n i with e|e
  ·rw[e] at hp;rw[e]
   repeat (first|refine Tw ?_|(refine Tm ?_;intro _)|exact Tz)
   refine WX.metI i (hk:=(by repeat (first|exact Kle.nil|refine Kle.cons rfl (by first|rfl|(rw[hX',hp];rfl)) ?_))) (hs:=⟨by omega,by show i<i+1;omega⟩)
  ·rw[e] at hp;rw[e]
   repeat (first|refine Ta ?_|(refine Tm ?_;intro _)|refine WO.acall (hc:=hM2) (k:=?_)|refine WO.acall (hc:=hD2) (k:=?_)|refine Tc ?_|exact Tz)
   refine WX.metI i (hk:=(by repeat (first|exact Kle.nil|refine Kle.cons rfl (by first|rfl|(rw[hX',hp];rfl)) ?_))) (hs:=⟨by omega,by show i<i+1;omega⟩)
theorem abp (a n m:Nat) (ha:a<zb) (hn:n<zb) (hm:m<zb):Fn Tryz.prog 79 [zf a,zf n,zf m] Tr (Is (rE (zD a a m) (a ^ n%m))):=by
 have hY:=dt a a m ha ha hm;cases hy:zD a a m with
 | false =>
  rw[hy] at hY;generalize a ^ n%m=R at *;refine Fn.enter Tryz.func79 rfl rfl rfl ?_;intro w hw
  repeat (first|refine Ta ?_|(refine Tm ?_;intro _)|refine WO.acall (hc:=hY) (k:=?_)|refine Tc ?_|exact Tz)
 | true =>
 rw[hy] at hY;obtain⟨h1,h2,_⟩:=zK hy;clear hy;have hW:=rU m hm
 by_cases hs:m<18446744073709551616
 ·rw[decide_eq_true hs] at hW;have wa:wd 0 a=a:=Nat.mod_eq_of_lt (by omega);have wm:wd 0 m=m:=Nat.mod_eq_of_lt hs;have hR:=acN a n m h2 hn hs h1;have hO:=aaQ (a ^ n%m) (Nat.lt_trans (Nat.mod_lt _ (by omega)) hs);generalize a ^ n%m=R at *;have hR' : Fn Tryz.prog 135 [.int .u64 ((wd 0 a:Nat):Int),zf n,.int .u64 ((wd 0 m:Nat):Int)] Tr (Is (.int .u64 ((R:Nat):Int))):=by rw[wa,wm];exact hR
  refine Fn.enter Tryz.func79 rfl rfl rfl ?_;intro w hw
  repeat (first|refine Ta ?_|(refine Tm ?_;intro _)|refine WO.acall (hc:=hY) (k:=?_)|refine WO.acall (hc:=hW) (k:=?_)|refine WO.acall (hc:=hR') (k:=?_)|refine WO.acall (hc:=hO) (k:=?_)|refine Tc ?_|exact Tz)
 ·rw[decide_eq_false hs] at hW;have hB:=aas n hn;have hN:=sq hn;have hlt:=yX n;have hP:=fun i=>dU a m n i;have hBt:=fun i (h:i<256)=>dY n i hn h;have hT:=fun x y hx hy=>kt x y m hx hy hm;have htop:n / 2 ^ zE n=0:=Nat.div_eq_of_lt hlt;generalize zE n=N at *;refine Fn.enter Tryz.func79 rfl rfl rfl ?_;intro w hw
  repeat (first|refine Ta ?_|(refine Tm ?_;intro _)|refine WO.acall (hc:=hY) (k:=?_)|refine WO.acall (hc:=hW) (k:=?_)|refine WO.acall (hc:=sG) (k:=?_)|refine WO.acall (hc:=hB) (k:=?_)|refine Tc ?_|exact Tz)
  rename_i g3 g4 g5 g6 g8;refine WC.loopI (σ:=Nat) (fun j=>j≤N) (fun j=>[(3,pt g3),(4,pt g4),(5,pt g5),(6,pt g6),(7,.int .i64 0),(8,pt g8),(9,.int .i64 ((j:Int) - 1))]) (fun j=>[⟨g3,24,zc a⟩,⟨g4,24,zc n⟩,⟨g5,24,zc m⟩,⟨g6,24,zc 0⟩,⟨g8,24,zc (a ^ (n / 2 ^ j)%m)⟩]) (fun j=>j) N (fun j hj=>?_) (Nat.le_refl _) (by repeat (first|exact Kle.nil|refine Kle.cons rfl rfl ?_)) (by
    rw[htop,Nat.pow_zero,Nat.mod_eq_of_lt h1]
    repeat (first|exact Lle.nil|refine Lle.c ?_))
  try dsimp only at hj ⊢
  cases j with
  | zero =>
   rw[Nat.pow_zero,Nat.div_one];generalize a ^ n%m=R at *
   repeat (first|refine Tw ?_|(refine Tm ?_;intro _)|exact Tz)
  | succ i =>
   have hp:=hP i;have hb:=hBt i (by omega);have hxl:a ^ (n / 2 ^ (i+1))%m<m:=Nat.mod_lt _ (by omega);rw[show (((i+1:Nat):Int) - 1)=(i:Int) by omega];generalize hX' : a ^ (n / 2 ^ i)%m=X' at *;generalize hX:a ^ (n / 2 ^ (i+1))%m=X at *;have hT1:=hT X X hxl hxl;have hYl:X*X%m<m:=Nat.mod_lt _ (by omega);have hT2:=hT (X*X%m) a hYl h2;clear hP hBt hT htop;generalize X*X%m=Y at *;generalize Y*a%m=Z at *
   rcases uk n i with e|e
   ·rw[e] at hp hb
    repeat (first|refine Ta ?_|(refine Tm ?_;intro _)|refine WO.acall (hc:=hT1) (k:=?_)|refine WO.acall (hc:=hb) (k:=?_)|refine Tc ?_|exact Tz)
    refine WX.metI i (hl:=(by repeat (first|exact Lle.nil|refine Lle.cons Pk.a (by first|rfl|(rw[hX',hp];rfl)) ?_))) (hs:=⟨by omega,by show i<i+1;omega⟩)
   ·rw[e] at hp hb
    repeat (first|refine Ta ?_|(refine Tm ?_;intro _)|refine WO.acall (hc:=hT1) (k:=?_)|refine WO.acall (hc:=hb) (k:=?_)|refine Tc ?_|exact Tz)
    repeat (first|refine Ta ?_|(refine Tm ?_;intro _)|refine WO.acall (hc:=hT2) (k:=?_)|refine Tc ?_|exact Tz)
    refine WX.metI i (hl:=(by repeat (first|exact Lle.nil|refine Lle.cons Pk.a (by first|rfl|(rw[hX',hp];rfl)) ?_))) (hs:=⟨by omega,by show i<i+1;omega⟩)
theorem abL {q y m:Nat}:q%m*y%m=q*y%m:=by rw[Nat.mod_mul_mod]
theorem ad0 (a m:Nat) (ha:a<zb) (hm:m<zb):Fn Tryz.prog 193 [zf a,zf m] Tr (Is (.tuple #[zf (okV (zD a a m) (uf a m)),.int .i64 (kN a m)])):=by
 have hY:=dt a a m ha ha hm;unfold kN;cases hy:zD a a m with
 | false =>
  rw[hy] at hY;generalize uf a m=R at *;refine Fn.enter Tryz.func193 rfl rfl rfl ?_;intro w hw
  repeat (first|refine Ta ?_|(refine Tm ?_;intro _)|refine WO.acall (hc:=hY) (k:=?_)|refine Tc ?_|exact Tz)
 | true =>
 rw[hy] at hY;obtain⟨h1,h2,_⟩:=zK hy;clear hy;have hG:=bi a m ha hm;have hgl:Nat.gcd a m<zb:=Nat.lt_of_le_of_lt (Nat.gcd_le_right _ (by omega)) hm
 by_cases hg:Nat.gcd a m=1
 ·have hgd:decide (Nat.gcd a m≠1)=false:=by simpa using hg
  have hinv:uf a m=kQ m m a 0 1:=by unfold uf;rw[if_pos hg]
  have ha0:0<a:=by
   rcases Nat.eq_zero_or_pos a with h|h
   ·subst h;rw[Nat.gcd_zero_left] at hg;omega
   ·exact h
  rw[if_pos rfl,if_pos hg];have hg2:Nat.gcd m a=1:=by rw[Nat.gcd_comm];exact hg
  rw[hinv];generalize hR:kQ m m a 0 1=R at *;have hDv:=fun (x y:Nat) hx hy h0=>aZ x y hx hy h0;have hTm:=fun (x y:Nat) hx hy=>kt x y m hx hy hm;have hSb:=fun (x y:Nat) hx hy=>aaC x y m hx hy hm;refine Fn.enter Tryz.func193 rfl rfl rfl ?_;intro w hw
  repeat (first|refine Ta ?_|(refine Tm ?_;intro _)|refine WO.acall (hc:=hY) (k:=?_)|refine WO.acall (hc:=hG) (k:=?_)|refine WO.acall (hc:=sG) (k:=?_)|refine WO.does z7 ?_|refine Tc ?_|exact Tz)
  rw[hgd]
  repeat (first|refine Ta ?_|(refine Tm ?_;intro _)|refine WO.acall (hc:=sG) (k:=?_)|refine Tc ?_|exact Tz)
  rename_i g2 g3 g4 g6 g7 g8 g9
  refine WC.loopI (σ:=Nat × Nat × Nat × Nat) (fun s=>0<s.2.1∧s.2.1<m∧s.1≤m∧Nat.gcd s.1 s.2.1=1∧s.2.2.1<m∧s.2.2.2<m∧kQ m s.1 s.2.1 s.2.2.1 s.2.2.2=R) (fun s=>[(2,pt g2),(3,pt g3),(4,pt g4),(5,.int .i64 0),(6,pt g6),(7,pt g7),(8,pt g8),(9,pt g9)])
   (fun s=>[⟨g3,24,zc m⟩,⟨g4,24,zc 0⟩,⟨g6,24,zc s.1⟩,⟨g7,24,zc s.2.1⟩,⟨g8,24,zc s.2.2.1⟩,⟨g9,24,zc s.2.2.2⟩]) (fun s=>s.2.1) (m,a,0,1) (fun s hs=>?_) ⟨ha0,h2,Nat.le_refl _,hg2,by show 0<m;omega,h1,hR⟩
  obtain⟨r,s,x,y⟩:=s;obtain⟨hs0,hsm,hrm,hgc,hx,hy,heq⟩:=hs;dsimp only at hs0 hsm hrm hgc hx hy heq ⊢;have hsB:s<zb:=by omega
  by_cases hs1:s=1
  ·have hd:decide (s≠1)=false:=by simpa using hs1
   rw[hs1] at heq;rw[nL] at heq;rw[← heq]
   repeat (first|refine Tw ?_|(refine Tm ?_;intro _)|exact Tz)
   refine WC.adraw 3 (k:=?_)
   repeat (first|refine Da ?_|refine DQ.acall (hc:=sG) (k:=?_)|refine DQ.does (fun s _=>z7) Dp.const ?_|refine Dc ?_)
   refine DQ.anil (k:=?_);intro sx _;rw[hd]
   repeat (first|refine Tw ?_|(refine Tm ?_;intro _)|exact Tz)
  ·have hd:decide (s≠1)=true:=by simpa using hs1
   have hD:=hDv r s (by omega) hsB hs0;have hD2:=hDv (r / s) m (Nat.lt_of_le_of_lt (Nat.div_le_self _ _) (by omega)) hm (by omega);have hT:=hTm (r / s%m) y (Nat.mod_lt _ (by omega)) hy;rw[abL] at hT;have hS:=hSb x (r / s*y%m) (by omega) (Nat.lt_trans (Nat.mod_lt _ (by omega)) hm);have hmay:zD x (r / s*y%m) m=true:=by unfold zD;simp[h1,hx,Nat.mod_lt _ (show 0<m by omega)]
   rw[hmay] at hS;have hnext:=qV (m:=m) (r:=r) (x:=x) (y:=y) (show 1<s by omega);have hpos:=nT (show 1<s by omega) hgc;have hlt:=Nat.mod_lt r hs0;have hgn:=mp hgc;have hz:(x+m - r / s*y%m)%m<m:=Nat.mod_lt _ (by omega);rw[heq] at hnext;clear hDv hTm hSb hmay heq;generalize (x+m - r / s*y%m)%m=z at *;generalize r / s*y%m=u at *;generalize r / s / m=t at *;generalize r / s%m=q' at *;generalize r / s=q at *;generalize r%s=p at *
   repeat (first|refine Tw ?_|(refine Tm ?_;intro _)|exact Tz)
   refine WC.adraw 3 (k:=?_)
   repeat (first|refine Da ?_|refine DQ.acall (hc:=sG) (k:=?_)|refine DQ.does (fun s _=>z7) Dp.const ?_|refine Dc ?_)
   refine DQ.anil (k:=?_);intro sx _;rw[hd]
   repeat (first|refine Ta ?_|(refine Tm ?_;intro _)|refine WO.acall (hc:=hD) (k:=?_)|refine WO.acall (hc:=hD2) (k:=?_)|refine Tc ?_|exact Tz)
   refine WC.adrawF [9] 11 (k:=?_)
   repeat (first|refine Da ?_|refine DQ.acall (hc:=hT) (k:=?_)|refine DQ.acall (hc:=hS) (k:=?_)|refine Df ?_)
   refine DQ.anil (k:=?_);intro sx _
   repeat (first|refine Tw ?_|(refine Tm ?_;intro _)|exact Tz)
   refine WX.metI (s,p,y,z) (hs:=⟨⟨hpos,by show p<m;omega,by show s≤m;omega,hgn,hy,hz,hnext.symm⟩,hlt⟩)
 ·have hgd:decide (Nat.gcd a m≠1)=true:=by simpa using hg
  have hinv:uf a m=0:=mj hg;rw[if_pos rfl,if_neg hg,hinv];refine Fn.enter Tryz.func193 rfl rfl rfl ?_;intro w hw
  repeat (first|refine Ta ?_|(refine Tm ?_;intro _)|refine WO.acall (hc:=hY) (k:=?_)|refine WO.acall (hc:=hG) (k:=?_)|refine WO.acall (hc:=sG) (k:=?_)|refine WO.does z7 ?_|refine Tc ?_|exact Tz)
  rw[hgd]
  repeat (first|refine Tw ?_|(refine Tm ?_;intro _)|exact Tz)
section
variable (p q g h:Nat)
theorem jD (a b:Nat) (ha:a<zb) (hb:b<zb) (hq:q<zb):Fn Tryz.prog 145 [yd p q g h,zf a,zf b] Tr (Is (rE (zD a b q) ((a+b)%q))):=by
 have hO:=ada a b q ha hb hq;refine Fn.enter Tryz.func145 rfl rfl rfl ?_;intro w hw
 repeat (first|refine Td ?_|(refine Tm ?_;intro _)|refine WO.acall (hc:=hO) (k:=?_)|refine Tc ?_|exact Tz)
theorem aaI (a b:Nat) (ha:a<zb) (hb:b<zb) (hq:q<zb):Fn Tryz.prog 85 [yd p q g h,zf a,zf b] Tr (Is (rE (zD a b q) ((a+q - b)%q))):=by
 have hO:=aaC a b q ha hb hq;refine Fn.enter Tryz.func85 rfl rfl rfl ?_;intro w hw
 repeat (first|refine Td ?_|(refine Tm ?_;intro _)|refine WO.acall (hc:=hO) (k:=?_)|refine Tc ?_|exact Tz)
theorem aaD (a b:Nat) (ha:a<zb) (hb:b<zb) (hq:q<zb):Fn Tryz.prog 143 [yd p q g h,zf a,zf b] Tr (Is (rE (zD a b q) (a*b%q))):=by
 have hO:=fO a b q ha hb hq;refine Fn.enter Tryz.func143 rfl rfl rfl ?_;intro w hw
 repeat (first|refine Td ?_|(refine Tm ?_;intro _)|refine WO.acall (hc:=hO) (k:=?_)|refine Tc ?_|exact Tz)
theorem adq (a:Nat) (ha:a<zb) (hq:q<zb):Fn Tryz.prog 142 [yd p q g h,zf a] Tr (Is (.tuple #[zf (okV (zD a a q) (uf a q)),.int .i64 (kN a q)])):=by
 have hO:=ad0 a q ha hq;refine Fn.enter Tryz.func142 rfl rfl rfl ?_;intro w hw
 repeat (first|refine Td ?_|(refine Tm ?_;intro _)|refine WO.acall (hc:=hO) (k:=?_)|refine Tc ?_|exact Tz)
theorem kO:Fn Tryz.prog 80 [] Tr (Is (zf 1)):=by
 have hO:=sG;refine Fn.enter Tryz.func80 rfl rfl rfl ?_;intro w hw
 repeat (first|refine Td ?_|(refine Tm ?_;intro _)|refine WO.acall (hc:=hO) (k:=?_)|refine Tc ?_|exact Tz)
theorem qs (a:Nat) (ha:a<zb) (hp:p<zb):Fn Tryz.prog 78 [yd p q g h,zf a] Tr (Is (.bool (vo p a))):=by
 have hC1:=ny p 1 hp yA;have hC2:=ny a p ha hp
 by_cases h1:1<p
 ·rw[uL h1] at hC1
  by_cases h2:a=0
  ·have e:vo p a=false:=by simp[vo,h2]
   rw[e];refine Fn.enter Tryz.func78 rfl rfl rfl ?_;intro w hw
   repeat (first|refine Td ?_|(refine Tm ?_;intro _)|refine Tc ?_|exact Tz)
   refine WC.adraw 18 (k:=?_)
   repeat (first|refine DQ.decT (k:=?_)|refine DQ.decF (k:=?_)|refine Da ?_|refine DQ.acall (hc:=kO) (k:=?_)|refine DQ.acall (hc:=hC1) (k:=?_)|refine DQ.acall (hc:=hC2) (k:=?_)|refine Dc ?_)
   refine DQ.anil (k:=?_);intro sx _
   repeat (first|refine Td ?_|(refine Tm ?_;intro _)|refine Tc ?_|exact Tz)
  ·by_cases h3:a<p
   ·have e:vo p a=true:=by simp[vo,h1,h2,h3]
    rw[tJ h3] at hC2;rw[e];refine Fn.enter Tryz.func78 rfl rfl rfl ?_;intro w hw
    repeat (first|refine Td ?_|(refine Tm ?_;intro _)|refine Tc ?_|exact Tz)
    refine WC.adraw 18 (k:=?_)
    repeat (first|refine DQ.decT (k:=?_)|refine DQ.decF (k:=?_)|refine Da ?_|refine DQ.acall (hc:=kO) (k:=?_)|refine DQ.acall (hc:=hC1) (k:=?_)|refine DQ.acall (hc:=hC2) (k:=?_)|refine Dc ?_)
    refine DQ.anil (k:=?_);intro sx _
    repeat (first|refine Td ?_|(refine Tm ?_;intro _)|refine Tc ?_|exact Tz)
   ·have e:vo p a=false:=by simp[vo,h3]
    have e2:vG a p=0∨vG a p=1:=by
     rcases Nat.lt_or_ge p a with h4|h4
     ·exact .inr (uL h4)
     ·exact .inl (tK (by omega))
    rw[e]
    rcases e2 with e2|e2
    all_goals
     rw[e2] at hC2;refine Fn.enter Tryz.func78 rfl rfl rfl ?_;intro w hw
     repeat (first|refine Td ?_|(refine Tm ?_;intro _)|refine Tc ?_|exact Tz)
     refine WC.adraw 18 (k:=?_)
     repeat (first|refine DQ.decT (k:=?_)|refine DQ.decF (k:=?_)|refine Da ?_|refine DQ.acall (hc:=kO) (k:=?_)|refine DQ.acall (hc:=hC1) (k:=?_)|refine DQ.acall (hc:=hC2) (k:=?_)|refine Dc ?_)
     refine DQ.anil (k:=?_);intro sx _
     repeat (first|refine Td ?_|(refine Tm ?_;intro _)|refine Tc ?_|exact Tz)
 ·have e:vo p a=false:=by simp[vo,h1]
  have e2:vG p 1=0∨vG p 1 = -1:=by
   rcases Nat.lt_or_ge p 1 with h4|h4
   ·exact .inr (tJ h4)
   ·exact .inl (tK (by omega))
  rw[e]
  rcases e2 with e2|e2
  all_goals
   rw[e2] at hC1;refine Fn.enter Tryz.func78 rfl rfl rfl ?_;intro w hw
   repeat (first|refine Td ?_|(refine Tm ?_;intro _)|refine Tc ?_|exact Tz)
   refine WC.adraw 18 (k:=?_)
   repeat (first|refine DQ.decT (k:=?_)|refine DQ.decF (k:=?_)|refine Da ?_|refine DQ.acall (hc:=kO) (k:=?_)|refine DQ.acall (hc:=hC1) (k:=?_)|refine DQ.acall (hc:=hC2) (k:=?_)|refine Dc ?_)
   refine DQ.anil (k:=?_);intro sx _
   repeat (first|refine Td ?_|(refine Tm ?_;intro _)|refine Tc ?_|exact Tz)
theorem ln (a n:Nat) (ha:a<zb) (hn:n<zb) (hp:p<zb):Fn Tryz.prog 91 [yd p q g h,zf a,zf n] Tr (Is (rE (vo p a) (a ^ n%p))):=by
 have hM:=qs p q g h a ha hp;cases hy:vo p a with
 | true =>
  have hE:=abp a n p ha hn hp;rw[sr hy] at hE;rw[hy] at hM;generalize a ^ n%p=R at *;refine Fn.enter Tryz.func91 rfl rfl rfl ?_;intro w hw
  repeat (first|refine Td ?_|(refine Tm ?_;intro _)|refine WO.acall (hc:=hM) (k:=?_)|refine WO.acall (hc:=hE) (k:=?_)|refine Tc ?_|exact Tz)
 | false =>
  rw[hy] at hM;generalize a ^ n%p=R at *;refine Fn.enter Tryz.func91 rfl rfl rfl ?_;intro w hw
  repeat (first|refine Td ?_|(refine Tm ?_;intro _)|refine WO.acall (hc:=hM) (k:=?_)|refine Tc ?_|exact Tz)
theorem adF (a b:Nat) (ha:a<zb) (hb:b<zb) (hp:p<zb):Fn Tryz.prog 86 [yd p q g h,zf a,zf b] Tr (Is (rE (vo p a && vo p b) (a*b%p))):=by
 have hM1:=qs p q g h a ha hp;have hM2:=qs p q g h b hb hp;cases hy:vo p a with
 | true =>
  rw[hy] at hM1;cases hz:vo p b with
  | true =>
   rw[hz] at hM2;have hE:=fO a b p ha hb hp;have hm:zD a b p=true:=by
    obtain⟨h1,_,h3⟩:=yB hy;obtain⟨_,_,h4⟩:=yB hz;simp[zD,h1,h3,h4]
   rw[hm] at hE;generalize a*b%p=R at *;refine Fn.enter Tryz.func86 rfl rfl rfl ?_;intro w hw
   repeat (first|refine Td ?_|(refine Tm ?_;intro _)|refine WO.acall (hc:=hM1) (k:=?_)|refine WO.acall (hc:=hM2) (k:=?_)|refine WO.acall (hc:=hE) (k:=?_)|refine Tc ?_|exact Tz)
  | false =>
   rw[hz] at hM2;generalize a*b%p=R at *;refine Fn.enter Tryz.func86 rfl rfl rfl ?_;intro w hw
   repeat (first|refine Td ?_|(refine Tm ?_;intro _)|refine WO.acall (hc:=hM1) (k:=?_)|refine WO.acall (hc:=hM2) (k:=?_)|refine Tc ?_|exact Tz)
 | false =>
  rw[hy] at hM1;generalize a*b%p=R at *;refine Fn.enter Tryz.func86 rfl rfl rfl ?_;intro w hw
  repeat (first|refine Td ?_|(refine Tm ?_;intro _)|refine WO.acall (hc:=hM1) (k:=?_)|refine WO.acall (hc:=hM2) (k:=?_)|refine Tc ?_|exact Tz)
theorem qa (a:Nat) (ha:a<zb) (hp:p<zb) (hq:q<zb):Fn Tryz.prog 38 [yd p q g h,zf a] Tr (Is (.bool (gIn p q a))):=by
 have hM:=qs p q g h a ha hp;cases hy:vo p a with
 | true =>
  have hE:=abp a q p ha hq hp;rw[sr hy] at hE;rw[hy] at hM;have e:gIn p q a=decide (a ^ q%p=1):=by simp[gIn,hy]
  rw[e];have hl:a ^ q%p<zb:=Nat.lt_trans (Nat.mod_lt _ (by have:=(yB hy).1;omega)) hp;generalize a ^ q%p=R at *;refine Fn.enter Tryz.func38 rfl rfl rfl ?_;intro w hw
  repeat (first|refine Td ?_|(refine Tm ?_;intro _)|refine WO.acall (hc:=hM) (k:=?_)|refine WO.acall (hc:=hE) (k:=?_)|refine Tc ?_|exact Tz)
  refine WC.adraw 4 (k:=?_)
  repeat (first|refine DQ.decT (k:=?_)|refine DQ.decF (k:=?_)|refine Da ?_|refine DQ.acall (hc:=kO) (k:=?_)|refine DQ.does (fun s _=>zZ) Dp.const ?_|refine Dc ?_)
  refine DQ.anil (k:=?_);intro sx _
  repeat (first|refine Td ?_|(refine Tm ?_;intro _)|refine Tc ?_|exact Tz)
 | false =>
  rw[hy] at hM;have e:gIn p q a=false:=by simp[gIn,hy]
  rw[e];refine Fn.enter Tryz.func38 rfl rfl rfl ?_;intro w hw
  repeat (first|refine Td ?_|(refine Tm ?_;intro _)|refine WO.acall (hc:=hM) (k:=?_)|refine Tc ?_|exact Tz)
end
end Sx
end
end Go.Proofs.YtbbppkkhidkjpaaGreatDoor
