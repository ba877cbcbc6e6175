/- Part 34 of the proof. -/
import Derived.Test.YtiiefkchpicncaaGreatDoorB33
import Derived.Test.YtiiefkchpicncaaGreatDoorB32
set_option linter.unusedSimpArgs false
set_option linter.unusedVariables false
set_option maxHeartbeats 8000000
namespace Go.Proofs.YtiiefkchpicncaaGreatDoor
section
open Go Go.RowKit Go.BigFrame
namespace Sx
attribute [local irreducible] DQ WC WO WX wd
theorem abW (m:Nat) (hm:m<9223372036854775808):Fn Tryz.prog 176 [.int .i64 (m:Int)] Tr (Is (.tuple #[.int .u64 (m:Int),.int .i64 0])):=by
 have hcv:IntKind.u64.wrap (m:Int)=(m:Int):=u64_in Om Om;refine Fn.enter Tryz.func176 rfl rfl rfl ?_;intro w hw
 repeat (first|refine Ta ?_|(refine Tm ?_;intro _)|refine WO.does (zM rfl rfl Om) ?_|refine WO.does (zB rfl hcv) ?_|refine Tc ?_|exact Tz)
 done
section
variable (p q g h gV gG:Nat)
theorem dZ (a b:Nat) (ha:a<q) (hb:b<q) (h1:1<q) (hq:q<zd):FnM Tryz.prog 177 [zk b,pt gV,pt gG] gV 24 (zc a) (zc ((a+b)%q)) (fun w=>Seg w gG 0 (yr p q g h)∧gG≠gV) (.tuple #[]):=by
 have hA:=ags a b q (Nat.lt_trans ha hq) (Nat.lt_trans hb hq) hq;rw[show zQ a b q=true by simp[zQ,h1,ha,hb]] at hA;generalize (a+b)%q=R at *;refine FnM.enter Tryz.func177 rfl rfl rfl ?_;intro w ⟨hw,hne⟩;have hbG:gG ∉ [gV]:=by simpa using hne
 repeat (first|refine WO.does (zj (vs:=zc q) (hs:=hw) (hb:=hbG)) ?_|refine Ta ?_|(refine Tm ?_;intro _)|refine WO.acall (hc:=hA) (k:=?_)|refine Tc ?_|exact Tz)
 exact WX.retM_ofN (ahm rfl) Hs.a
def vy (m k i:Nat):Nat:=m / 2 ^ (k - i)
theorem lD {m k i:Nat} (h:i<k):vy m k (i+1)=2*vy m k i+m / 2 ^ (k - 1 - i)%2:=by
 unfold vy;rw[show k - (i+1)=k - 1 - i by omega,show k - i=(k - 1 - i)+1 by omega,Nat.pow_succ,← Nat.div_div_eq_div_mul];omega
theorem tT {m k:Nat} (h:m<2 ^ k):vy m k 0=0:=by unfold vy;exact Nat.div_eq_of_lt h
theorem j9 (m k:Nat):vy m k k=m:=by unfold vy;rw[Nat.sub_self,Nat.pow_zero,Nat.div_one]
theorem aQ (m:Nat) (hm:m<9223372036854775808):Fn Tryz.prog 151 [.int .u64 (m:Int)] Tr (Is (.int .i64 (zK m:Nat))):=.of fun w=>(Tryz.bits_Len64 (m:Int) w Om Om).mono fun e w' h=>by
 obtain⟨rfl,rfl⟩:=h;refine⟨?_,Below.refl _ _⟩;have:=bitLen_eq (x:=m) Om;rw[Int.toNat_natCast,this]
theorem pL (m:Nat) (hm:m<9223372036854775808) (hq:q<zd):Fn Tryz.prog 137 [y9 p q g h,.int .i64 (m:Int)] Tr (Is (zk (ofZ q (m:Int)))):=by
 have hB:=mG q hq
 by_cases h1:1<q
 ·have hb2:¬ ((zK q:Nat):Int)<2:=by
   have:¬ zK q≤1:=by rw[yW];omega
   omega
  have hA:=abW m hm;have hL:=aQ m hm;have hlb:=vm (k:=63) (x:=m) Om;have htop:=tT (tE m);have hall:=j9 m (zK m);rw[nB q m Om];generalize zK q=bq at *;generalize zK m=k at *;have hC:=fun gV gG a b (ha:a<q) (hb:b<q)=>(dZ p q g h gV gG a b ha hb h1 hq).toL;have h0:=ab4 0;have hO1:=ab4 1;refine Fn.enter Tryz.func137 rfl rfl rfl ?_;intro w hw
  repeat (first|refine Ta ?_|(refine Tm ?_;intro _)|refine WO.acall (hc:=hB) (k:=?_)|refine WO.does (zM rfl rfl hb2) ?_|refine WO.acall (hc:=hA) (k:=?_)|refine WO.acall (hc:=h0) (k:=?_)|refine WO.acall (hc:=hL) (k:=?_)|refine WO.does (zH rfl rfl) ?_|refine Tc ?_|exact Tz)
  rename_i g2 g4 gV;refine WC.ndp' (fun hnd=>?_);have hne:g2≠gV:=by intro e;simp[e] at hnd
  clear hnd
  refine WC.loopI (σ:=Nat) (fun i=>i≤k) (fun i=>[(2,Sx.pt g2),(4,Sx.pt g4),(5,.int .u64 (m:Int)),(6,.int .i64 0),(7,Sx.pt gV),(8,.func (.func 177) #[] #[Sx.pt gV,Sx.pt g2]),(23,.int .i64 (k:Int)),(24,.int .i64 (i:Int))])
   (fun i=>[⟨gV,24,zc (vy m k i%q)⟩,⟨g4,24,zc 0⟩,⟨g2,26,yr p q g h⟩]) (fun i=>k - i) 0 (fun i hi=>?_) (Nat.zero_le _)
   (hl:=by rw[htop,Nat.zero_mod];repeat (first|exact Lle.nil|refine Lle.cons Pk.a (by rfl) ?_))
  try dsimp only at hi ⊢
  by_cases hlt:i<k
  ·have hstep:=lD (m:=m) hlt;have hal:vy m k i%q<q:=Nat.mod_lt _ Om;have hadd2:IntKind.i64.wrap ((i:Int)+1)=((i+1:Nat):Int):=zo Om Om Om;have hs1:IntKind.i64.wrap ((k:Int) - 1)=((k - 1:Nat):Int):=zo Om Om Om;have hs2:IntKind.i64.wrap (((k - 1:Nat):Int) - (i:Int))=((k - 1 - i:Nat):Int):=zo Om Om Om;have hX:m / 2 ^ (k - 1 - i)<18446744073709551616:=Nat.lt_of_le_of_lt (Nat.div_le_self _ _) Om;have hand:IntKind.u64.wrap ((BitVec.ofInt IntKind.u64.bits ((m / 2 ^ (k - 1 - i):Nat):Int) &&& BitVec.ofInt IntKind.u64.bits 1).toNat)=((m / 2 ^ (k - 1 - i)%2:Nat):Int):=and_one _ hX;have hC1:=hC gV g2 (vy m k i%q) (vy m k i%q) hal hal;have hbl:(vy m k i%q+vy m k i%q)%q<q:=Nat.mod_lt _ Om;have hC2:=hC gV g2 ((vy m k i%q+vy m k i%q)%q) 1 hbl h1;have hv:∀ b,m / 2 ^ (k - 1 - i)%2=b→((vy m k i%q+vy m k i%q)%q+b)%q=vy m k (i+1)%q:=fun b hb=>by
    rw[hstep,hb,← Nat.add_mod,Nat.mod_add_mod,Nat.two_mul]
   repeat (first|refine Tw ?_|(refine Tm ?_;intro _)|exact Tz)
   refine WC.dT rfl Om ?_
   repeat (first|refine Tw ?_|(refine Tm ?_;intro _)|exact Tz)
   refine WO.callsLV hC1 rfl rfl rfl (Pks.cons Pk.a Pks.nil) (fun w1 hm=>⟨Hs.sg hm,hne⟩) (fun v N hv=>?_);obtain⟨rfl,rfl⟩:=hv;simp only[List.cons_append,List.nil_append];have hb2':=Nat.mod_lt (m / 2 ^ (k - 1 - i)) (show 2 > 0 by decide);generalize hbb:m / 2 ^ (k - 1 - i)%2=b at *;generalize (vy m k i%q+vy m k i%q)%q=A at *
   repeat (first|refine Ta ?_|(refine Tm ?_;intro _)|refine WO.acall (hc:=hL) (k:=?_)|refine WO.does (zr rfl rfl hs1) ?_|refine WO.does (zr rfl rfl hs2) ?_|refine WO.does (vC rfl rfl Om (tq (by show k - 1 - i≤64;omega))) ?_|refine WO.does (rm rfl rfl hand) ?_|refine Tc ?_|exact Tz)
   have hb01:b=0∨b=1:=by omega
   rcases hb01 with rfl|rfl
   ·have hv0:=hv 0 rfl;rw[Nat.add_zero,Nat.mod_eq_of_lt hbl] at hv0;refine WC.condF rfl ?_
    repeat (first|refine Ta ?_|(refine Tm ?_;intro _)|refine WO.does (ze rfl rfl hadd2) ?_|refine Tc ?_|exact Tz)
    rw[hv0];exact WX.metI (i+1) (hs:=⟨by show i+1≤k;omega,by show k - (i+1)<k - i;omega⟩)
   ·have hv1:=hv 1 rfl;rw[hv1] at hC2;refine WC.condT rfl ?_
    repeat (first|refine Ta ?_|(refine Tm ?_;intro _)|refine WO.acall (hc:=hO1) (k:=?_)|refine Tc ?_|exact Tz)
    refine WO.callsLV hC2 rfl rfl rfl (Pks.cons Pk.a Pks.nil) (fun w1 hm=>⟨Hs.sg hm,hne⟩) (fun v N hv=>?_);obtain⟨rfl,rfl⟩:=hv;simp only[List.cons_append,List.nil_append]
    repeat (first|refine Ta ?_|(refine Tm ?_;intro _)|refine WO.does (ze rfl rfl hadd2) ?_|refine Tc ?_|exact Tz)
    exact WX.metI (i+1) (hs:=⟨by show i+1≤k;omega,by show k - (i+1)<k - i;omega⟩)
  ·have hi2:i=k:=by omega
   subst hi2;rw[hall]
   repeat (first|refine Tw ?_|(refine Tm ?_;intro _)|exact Tz)
   refine WC.dF rfl Om ?_
   repeat (first|refine Tw ?_|(refine Tm ?_;intro _)|exact Tz)
   done
 ·rw[show ofZ q (m:Int)=0 by unfold ofZ;rw[if_pos Om]];have hb2:((zK q:Nat):Int)<2:=by
   have:zK q≤1:=by rw[yW];omega
   omega
  generalize zK q=bq at *;refine Fn.enter Tryz.func137 rfl rfl rfl ?_;intro w hw
  repeat (first|refine Ta ?_|(refine Tm ?_;intro _)|refine WO.acall (hc:=hB) (k:=?_)|refine WO.does (yy rfl rfl hb2) ?_|refine Tc ?_|exact Tz)
  done
end
theorem mU {P:Program} {w0:World} {gs:List Nat} {K:List (Nat × Value)} {L:List Ent} {x:Operand} {t ty:TypeId} {k:IntKind} {n r:Int} (hx:ev K x=some (.int k n)) (hr:k.wrap (0 - n)=r):Does P w0 gs K L (.unOp .neg t x) ty (.int k r):=hr ▸ j3 hx
theorem eZ (m:Nat) (hm:m<1000) (h0:0<m):Fn Tryz.prog 176 [.int .i64 (-(m:Int))] Tr (Is (.tuple #[.int .u64 (m:Int),.int .i64 1])):=by
 have hcv:IntKind.u64.wrap (-(m:Int))=((18446744073709551616 - m:Nat):Int):=by
  simp[IntKind.wrap,IntKind.signed,IntKind.bits];omega
 have hng:IntKind.u64.wrap (0 - ((18446744073709551616 - m:Nat):Int))=(m:Int):=by
  simp[IntKind.wrap,IntKind.signed,IntKind.bits];omega
 refine Fn.enter Tryz.func176 rfl rfl rfl ?_;intro w hw
 repeat (first|refine Ta ?_|(refine Tm ?_;intro _)|refine WO.does (yy rfl rfl Om) ?_|refine WO.does (zB rfl hcv) ?_|refine WO.does (mU rfl hng) ?_|refine Tc ?_|exact Tz)
 done
section
variable (p q g h gV gG:Nat)
theorem oF (m:Nat) (hm:m<1000) (h0m:0<m) (hmq:m<q) (hq:q<zd):Fn Tryz.prog 137 [y9 p q g h,.int .i64 (-(m:Int))] Tr (Is (zk (q - m))):=by
 have hB:=mG q hq;have h1:1<q:=by omega
 ·have hb2:¬ ((zK q:Nat):Int)<2:=by
   have:¬ zK q≤1:=by rw[yW];omega
   omega
  have hA:=eZ m hm h0m;have hL:=aQ m Om;have hlb:=vm (k:=63) (x:=m) Om;have htop:=tT (tE m);have hall:=j9 m (zK m);generalize zK q=bq at *;generalize zK m=k at *;have hC:=fun gV gG a b (ha:a<q) (hb:b<q)=>(dZ p q g h gV gG a b ha hb h1 hq).toL;have h0:=ab4 0;have hO1:=ab4 1;refine Fn.enter Tryz.func137 rfl rfl rfl ?_;intro w hw
  repeat (first|refine Ta ?_|(refine Tm ?_;intro _)|refine WO.acall (hc:=hB) (k:=?_)|refine WO.does (zM rfl rfl hb2) ?_|refine WO.acall (hc:=hA) (k:=?_)|refine WO.acall (hc:=h0) (k:=?_)|refine WO.acall (hc:=hL) (k:=?_)|refine WO.does (zH rfl rfl) ?_|refine Tc ?_|exact Tz)
  rename_i g2 g4 gV;refine WC.ndp' (fun hnd=>?_);have hne:g2≠gV:=by intro e;simp[e] at hnd
  clear hnd
  refine WC.loopI (σ:=Nat) (fun i=>i≤k) (fun i=>[(2,Sx.pt g2),(4,Sx.pt g4),(5,.int .u64 (m:Int)),(6,.int .i64 1),(7,Sx.pt gV),(8,.func (.func 177) #[] #[Sx.pt gV,Sx.pt g2]),(23,.int .i64 (k:Int)),(24,.int .i64 (i:Int))])
   (fun i=>[⟨gV,24,zc (vy m k i%q)⟩,⟨g4,24,zc 0⟩,⟨g2,26,yr p q g h⟩]) (fun i=>k - i) 0 (fun i hi=>?_) (Nat.zero_le _)
   (hl:=by rw[htop,Nat.zero_mod];repeat (first|exact Lle.nil|refine Lle.cons Pk.a (by rfl) ?_))
  try dsimp only at hi ⊢
  by_cases hlt:i<k
  ·have hstep:=lD (m:=m) hlt;have hal:vy m k i%q<q:=Nat.mod_lt _ Om;have hadd2:IntKind.i64.wrap ((i:Int)+1)=((i+1:Nat):Int):=zo Om Om Om;have hs1:IntKind.i64.wrap ((k:Int) - 1)=((k - 1:Nat):Int):=zo Om Om Om;have hs2:IntKind.i64.wrap (((k - 1:Nat):Int) - (i:Int))=((k - 1 - i:Nat):Int):=zo Om Om Om;have hX:m / 2 ^ (k - 1 - i)<18446744073709551616:=Nat.lt_of_le_of_lt (Nat.div_le_self _ _) Om;have hand:IntKind.u64.wrap ((BitVec.ofInt IntKind.u64.bits ((m / 2 ^ (k - 1 - i):Nat):Int) &&& BitVec.ofInt IntKind.u64.bits 1).toNat)=((m / 2 ^ (k - 1 - i)%2:Nat):Int):=and_one _ hX;have hC1:=hC gV g2 (vy m k i%q) (vy m k i%q) hal hal;have hbl:(vy m k i%q+vy m k i%q)%q<q:=Nat.mod_lt _ Om;have hC2:=hC gV g2 ((vy m k i%q+vy m k i%q)%q) 1 hbl h1;have hv:∀ b,m / 2 ^ (k - 1 - i)%2=b→((vy m k i%q+vy m k i%q)%q+b)%q=vy m k (i+1)%q:=fun b hb=>by
    rw[hstep,hb,← Nat.add_mod,Nat.mod_add_mod,Nat.two_mul]
   repeat (first|refine Tw ?_|(refine Tm ?_;intro _)|exact Tz)
   refine WC.dT rfl Om ?_
   repeat (first|refine Tw ?_|(refine Tm ?_;intro _)|exact Tz)
   refine WO.callsLV hC1 rfl rfl rfl (Pks.cons Pk.a Pks.nil) (fun w1 hm=>⟨Hs.sg hm,hne⟩) (fun v N hv=>?_);obtain⟨rfl,rfl⟩:=hv;simp only[List.cons_append,List.nil_append];have hb2':=Nat.mod_lt (m / 2 ^ (k - 1 - i)) (show 2 > 0 by decide);generalize hbb:m / 2 ^ (k - 1 - i)%2=b at *;generalize (vy m k i%q+vy m k i%q)%q=A at *
   repeat (first|refine Ta ?_|(refine Tm ?_;intro _)|refine WO.acall (hc:=hL) (k:=?_)|refine WO.does (zr rfl rfl hs1) ?_|refine WO.does (zr rfl rfl hs2) ?_|refine WO.does (vC rfl rfl Om (tq (by show k - 1 - i≤64;omega))) ?_|refine WO.does (rm rfl rfl hand) ?_|refine Tc ?_|exact Tz)
   have hb01:b=0∨b=1:=by omega
   rcases hb01 with rfl|rfl
   ·have hv0:=hv 0 rfl;rw[Nat.add_zero,Nat.mod_eq_of_lt hbl] at hv0;refine WC.condF rfl ?_
    repeat (first|refine Ta ?_|(refine Tm ?_;intro _)|refine WO.does (ze rfl rfl hadd2) ?_|refine Tc ?_|exact Tz)
    rw[hv0];exact WX.metI (i+1) (hs:=⟨by show i+1≤k;omega,by show k - (i+1)<k - i;omega⟩)
   ·have hv1:=hv 1 rfl;rw[hv1] at hC2;refine WC.condT rfl ?_
    repeat (first|refine Ta ?_|(refine Tm ?_;intro _)|refine WO.acall (hc:=hO1) (k:=?_)|refine Tc ?_|exact Tz)
    refine WO.callsLV hC2 rfl rfl rfl (Pks.cons Pk.a Pks.nil) (fun w1 hm=>⟨Hs.sg hm,hne⟩) (fun v N hv=>?_);obtain⟨rfl,rfl⟩:=hv;simp only[List.cons_append,List.nil_append]
    repeat (first|refine Ta ?_|(refine Tm ?_;intro _)|refine WO.does (ze rfl rfl hadd2) ?_|refine Tc ?_|exact Tz)
    exact WX.metI (i+1) (hs:=⟨by show i+1≤k;omega,by show k - (i+1)<k - i;omega⟩)
  ·have hi2:i=k:=by omega
   subst hi2;rw[hall]
   repeat (first|refine Tw ?_|(refine Tm ?_;intro _)|exact Tz)
   have hSb:=aec 0 m q zF (Nat.lt_trans hmq hq) hq;rw[show zQ 0 m q=true by simp[zQ,h1,hmq];omega,show (0+q - m)%q=q - m by rw[Nat.zero_add];exact Nat.mod_eq_of_lt Om] at hSb;rw[Nat.mod_eq_of_lt hmq];refine WC.dF rfl Om ?_
   repeat (first|refine Tw ?_|(refine Tm ?_;intro _)|exact Tz)
   refine WC.adrawF [7] 8 (k:=?_)
   repeat (first|refine Da ?_|refine DQ.acall (hc:=h0) (k:=?_)|refine DQ.acall (hc:=hSb) (k:=?_)|refine Df ?_)
   refine DQ.anil (k:=?_);intro sx _
   repeat (first|refine Tw ?_|(refine Tm ?_;intro _)|exact Tz)
   done
end
theorem aw (a:Nat):Fn Tryz.prog 223 [.int .u8 (a:Int)] Tr (Is (.bool false)):=by
 refine Fn.enter Tryz.func223 rfl rfl rfl ?_;intro w hw
 repeat (first|refine WO.does (zx rfl rfl rfl) ?_|refine Ta ?_|(refine Tm ?_;intro _)|refine Tc ?_|exact Tz)
theorem ah (a b:Nat):Fn Tryz.prog 185 [.int .u8 (a:Int),.int .u8 (b:Int)] Tr (Is (.int .i64 (nX a b))):=by
 have hA:=aw a;have hB:=aw b
 rcases Nat.lt_trichotomy a b with h|h|h
 ·rw[show nX a b = -1 by unfold nX;rw[if_pos h]];refine Fn.enter Tryz.func185 rfl rfl rfl ?_;intro w hw
  repeat (first|refine WO.does (yy rfl rfl Om) ?_|refine Ta ?_|(refine Tm ?_;intro _)|refine WO.acall (hc:=hA) (k:=?_)|refine WO.acall (hc:=hB) (k:=?_)|refine Tc ?_|exact Tz)
 ·rw[show nX a b=0 by unfold nX;rw[if_neg Om,if_neg Om]];refine Fn.enter Tryz.func185 rfl rfl rfl ?_;intro w hw
  repeat (first|refine WO.does (zM rfl rfl Om) ?_|refine WO.does (zZ rfl rfl Om) ?_|refine Ta ?_|(refine Tm ?_;intro _)|refine WO.acall (hc:=hA) (k:=?_)|refine WO.acall (hc:=hB) (k:=?_)|refine Tc ?_|exact Tz)
 ·rw[show nX a b=1 by unfold nX;rw[if_neg Om,if_pos h]];refine Fn.enter Tryz.func185 rfl rfl rfl ?_;intro w hw
  repeat (first|refine WO.does (zM rfl rfl Om) ?_|refine WO.does (yx rfl rfl Om) ?_|refine Ta ?_|(refine Tm ?_;intro _)|refine WO.acall (hc:=hA) (k:=?_)|refine WO.acall (hc:=hB) (k:=?_)|refine Tc ?_|exact Tz)
theorem bL (x y:Od):Fn Tryz.prog 148 [.agg (odC x).toArray,.agg (odC y).toArray] Tr (Is (.int .i64 (nX x.n y.n))):=by
 have hC:=ah x.n y.n;refine Fn.enter Tryz.func148 rfl rfl rfl ?_;intro w hw
 repeat (first|refine Ta ?_|(refine Tm ?_;intro _)|refine WO.acall (hc:=hC) (k:=?_)|refine Tc ?_|exact Tz)
theorem jQ {l:List Od} {i:Nat} {x:Od} (h:l[i]?=some x):cut (l.flatMap odC) (0+i*15) 15=odC x:=by
 rw[Nat.zero_add];exact yg (f:=odC) (k:=15) (fun _=>rfl) h
def afr (n:Nat) (l:List Od) (v:Value) (g:Nat) (N:List Ent):Prop:=v=.tuple #[]∧∃ l' : List Od,l'.Perm l∧l'.Pairwise (fun a b=>a.n≤b.n)∧N=[⟨g,238,l'.flatMap odC⟩]
theorem aW (l:List Od) (g c:Nat) (hn:l.length≤12) :
  FnL Tryz.prog 214 [.slice (some ⟨g,0,none⟩) l.length c,.int .i64 0,.int .i64 (l.length:Int),.func (.func 148) #[] #[]] [⟨g,238,l.flatMap odC⟩] Tr (fun v N=>afr l.length l v g N):=by
 refine FnL.enter Tryz.func214 rfl rfl rfl ?_;intro w hw
 repeat (first|refine Tw ?_|(refine Tm ?_;intro _)|exact Tz)
 refine WC.loopI (σ:=Nat × List Od) (fun s=>1≤s.1∧s.1≤l.length+1∧s.2.Perm l∧Srt s.2 s.1) (fun s=>[(0,.slice (some ⟨g,0,none⟩) l.length c),(1,.int .i64 0),(2,.int .i64 (l.length:Int)),(3,.func (.func 148) #[] #[]),(8,.int .i64 (s.1:Int))]) (fun s=>[⟨g,238,s.2.flatMap odC⟩]) (fun s=>l.length+1 - s.1) (1,l) (fun s hi=>?_) ⟨Nat.le_refl _,by show 1≤l.length+1;omega,.refl _,fun a b h1 h2=>by omega⟩;obtain⟨i,l1⟩:=s
 try dsimp only at hi ⊢
 obtain⟨hi1,hi2,hp1,hs1⟩:=hi
 by_cases hlt:i<l.length
 ·have hadd2:IntKind.i64.wrap ((i:Int)+1)=((i+1:Nat):Int):=zo Om Om Om
  repeat (first|refine Tw ?_|(refine Tm ?_;intro _)|exact Tz)
  refine WC.dT rfl Om ?_
  repeat (first|refine Tw ?_|(refine Tm ?_;intro _)|exact Tz)
  refine WC.loopI (σ:=Nat × List Od) (fun s=>s.1≤i∧s.2.Perm l∧Ins s.2 i s.1) (fun s=>[(0,.slice (some ⟨g,0,none⟩) l.length c),(1,.int .i64 0),(2,.int .i64 (l.length:Int)),(3,.func (.func 148) #[] #[]),(8,.int .i64 (i:Int)),(9,.int .i64 (s.1:Int))]) (fun s=>[⟨g,238,s.2.flatMap odC⟩]) (fun s=>s.1) (i,l1) (fun s hj=>?_) ⟨Nat.le_refl _,hp1,hs1.ins⟩;obtain⟨j,l2⟩:=s
  try dsimp only at hj ⊢
  obtain⟨hji,hp2,hI⟩:=hj;have hll:=hp2.length_eq
  rcases j with _|k
  ·have hS:=hI.done hji (.inl rfl)
   repeat (first|refine Tw ?_|(refine Tm ?_;intro _)|exact Tz)
   refine WC.adraw 17 (k:=?_)
   repeat (first|refine DQ.does (fun s _=>zZ rfl rfl (by decide)) Dp.const ?_|refine Da ?_|refine Dc ?_)
   refine DQ.anil (k:=?_);intro sx _
   repeat (first|refine WO.does (ze rfl rfl hadd2) ?_|refine Ta ?_|(refine Tm ?_;intro _)|refine Tc ?_|exact Tz)
   exact WX.metI (i+1,l2) (hs:=⟨⟨by show 1≤i+1;omega,by show i+1≤l.length+1;omega,hp2,hS⟩,by show l.length+1 - (i+1)<l.length+1 - i;omega⟩)
  ·have hk1:k<l.length:=by omega
   have hk2:k+1<l.length:=by omega
   obtain⟨x,hx⟩ : ∃ y,l2[k]?=some y:=⟨_,List.getElem?_eq_getElem Om⟩;obtain⟨y,hy⟩ : ∃ y,l2[k+1]?=some y:=⟨_,List.getElem?_eq_getElem Om⟩;have hcx:=jQ hx;have hcy:=jQ hy;have hA:=bL y x;have hsub:IntKind.i64.wrap (((k+1:Nat):Int) - 1)=((k:Nat):Int):=by rw[show ((k+1:Nat):Int) - 1=((k:Nat):Int) by omega];exact i64_in Om Om
   have hgt:((k+1:Nat):Int) > 0:=by omega
   by_cases hc:y.n<x.n
   ·have hyc:nX y.n x.n<0:=iu.2 hc;have hI2:=hI.swap hji hx hy hc;have hp3:=(cJ hx hy).trans hp2;have hov1:over (l2.flatMap odC) (0+(k+1)*15) (odC x)=(l2.set (k+1) x).flatMap odC:=by rw[Nat.zero_add];exact iB yB Om
    have hov2:over ((l2.set (k+1) x).flatMap odC) (0+k*15) (odC y)=((l2.set (k+1) x).set k y).flatMap odC:=by rw[Nat.zero_add];exact iB yB (by rw[List.length_set];omega)
    have hln1:Nat.ble (0+(k+1)*15+15) (l2.flatMap odC).length=true:=Nat.ble_eq_true_of_le (by rw[zy yB];omega);have hln2:Nat.ble (0+k*15+15) ((l2.set (k+1) x).flatMap odC).length=true:=Nat.ble_eq_true_of_le (by rw[zy yB,List.length_set];omega);generalize hC2:((l2.set (k+1) x).set k y).flatMap odC=C2 at *;generalize (l2.set (k+1) x).flatMap odC=C1 at *;generalize l2.flatMap odC=C0 at *;generalize nX y.n x.n=R at *
    repeat (first|refine Tw ?_|(refine Tm ?_;intro _)|exact Tz)
    refine WC.adraw 17 (k:=?_)
    iterate 17 (first|refine DQ.does (fun s _=>yx rfl rfl hgt) Dp.const ?_|refine DQ.does (fun s _=>zb (o':=0+(k+1)*15) rfl rfl hk2 rfl) Dp.const ?_|refine DQ.does (fun s _=>zE (vs:=odC y) (hc:=hcy)) Dp.const ?_|refine DQ.does (fun s _=>zb (o':=0+k*15) rfl rfl hk1 rfl) Dp.const ?_|refine DQ.does (fun s _=>zE (vs:=odC x) (hc:=hcx)) Dp.const ?_|refine DQ.does (fun s _=>zr rfl rfl hsub) Dp.const ?_|refine DQ.acallV (hc:=hA) (k:=?_)|refine DQ.does (fun s _=>yy rfl rfl hyc) Dp.const ?_|refine Da ?_|refine Dc ?_)
    refine DQ.anil (k:=?_);intro sx _
    repeat (first|refine Tw ?_|(refine Tm ?_;intro _)|exact Tz)
    refine WC.mainV [15,16,17] [(0,.slice (some ⟨g,0,none⟩) l.length c),(1,.int .i64 ((k+1:Nat):Int)),(2,.slice (some ⟨g,0,none⟩) l.length c),(3,.int .i64 ((k+1:Nat):Int)),(4,.int .i64 (k:Int)),(5,.slice (some ⟨g,0,none⟩) l.length c),(6,.int .i64 ((k+1:Nat):Int)),(7,.int .i64 (k:Int)),(8,.pointer (some ⟨g,0+k*15,none⟩)),(9,.agg (odC x).toArray),(10,.slice (some ⟨g,0,none⟩) l.length c),(11,.int .i64 ((k+1:Nat):Int)),(12,.pointer (some ⟨g,0+(k+1)*15,none⟩)),(13,.agg (odC y).toArray),(14,.pointer (some ⟨g,0+(k+1)*15,none⟩))] (by decide) ?_;refine WT.with [⟨g,238,C0⟩] (by kernel_rfl) (Tlv.auto (Tlv.auto (Tlv.auto (Tlv.auto (Tlv.auto (Tlv.auto (Tlv.auto (Tlv.auto (Tlv.auto (Tlv.auto (Tlv.auto (Tlv.auto (Tlv.auto (Tlv.auto (Tlv.auto Tlv.nil (ho:=by rfl) (h:=by exact (zb (o':=0+(k+1)*15) rfl rfl hk2 rfl))) (ho:=by rfl) (h:=by exact (zE (vs:=odC y) (hc:=hcy)))) (ho:=by rfl) (h:=by exact (zb (o':=0+(k+1)*15) rfl rfl hk2 rfl))))) (ho:=by rfl) (h:=by exact (zE (vs:=odC x) (hc:=hcx)))) (ho:=by rfl) (h:=by exact (zb (o':=0+k*15) rfl rfl hk1 rfl))) (ho:=by rfl) (h:=by exact (zr rfl rfl hsub))))) (ho:=by rfl) (h:=by exact (zr rfl rfl hsub))))))) (fun hc hT=>?_)
    refine WT.one (m:=15) rfl hc hT ?_;refine WO.stores (zG (vs:=odC x) (cs':=C1) (hc:=hov1) (hle:=hln1)) ?_;refine WO.nil (WX.wt [] ?_);refine WT.one (m:=16) (ex:=[9,13]) (Lc:=[]) (K0:=[(0,.slice (some ⟨g,0,none⟩) l.length c),(9,.int .i64 ((k+1:Nat):Int))]) rfl hc (Tlv.auto (Tlv.auto (Tlv.auto (Tlv.auto (Tlv.auto (Tlv.auto (Tlv.auto (Tlv.auto (Tlv.auto (Tlv.skip (by decide) (Tlv.auto (Tlv.auto (Tlv.auto (Tlv.skip (by decide) (Tlv.auto Tlv.nil (ho:=by rfl) (h:=by exact (zb (o':=0+(k+1)*15) rfl rfl hk2 rfl)))) (ho:=by rfl) (h:=by exact (zb (o':=0+(k+1)*15) rfl rfl hk2 rfl)))))) (ho:=by rfl) (h:=by exact (zb (o':=0+k*15) rfl rfl hk1 rfl))) (ho:=by rfl) (h:=by exact (zr rfl rfl hsub))))) (ho:=by rfl) (h:=by exact (zr rfl rfl hsub))))))) ?_;refine WO.does (zb (o':=0+k*15) rfl rfl hk1 rfl) ?_;refine WO.nil (WX.wt [(52,.pointer (some ⟨g,0+k*15,none⟩))] ?_);refine WT.one (m:=17) (ex:=[9,13]) (Lc:=[]) (K0:=[(0,.slice (some ⟨g,0,none⟩) l.length c),(9,.int .i64 ((k+1:Nat):Int))]) rfl hc (Tlv.auto (Tlv.auto (Tlv.auto (Tlv.auto (Tlv.auto (Tlv.auto (Tlv.auto (Tlv.auto (Tlv.auto (Tlv.skip (by decide) (Tlv.auto (Tlv.auto (Tlv.auto (Tlv.skip (by decide) (Tlv.auto Tlv.nil (ho:=by rfl) (h:=by exact (zb (o':=0+(k+1)*15) rfl rfl hk2 rfl)))) (ho:=by rfl) (h:=by exact (zb (o':=0+(k+1)*15) rfl rfl hk2 rfl)))))) (ho:=by rfl) (h:=by exact (zb (o':=0+k*15) rfl rfl hk1 rfl))) (ho:=by rfl) (h:=by exact (zr rfl rfl hsub))))) (ho:=by rfl) (h:=by exact (zr rfl rfl hsub))))))) ?_;refine WO.stores (zG (vs:=odC y) (cs':=C2) (hc:=hov2) (hle:=hln2)) ?_;refine WO.nil (WX.wt [] ?_);refine WT.fin [17] 1 hc rfl (by rfl) ?_;clear hc hT
    repeat (first|refine WO.does (zr rfl rfl hsub) ?_|refine Ta ?_|(refine Tm ?_;intro _)|refine Tc ?_|exact Tz)
    subst hC2;exact WX.metI (k,(l2.set (k+1) x).set k y) (hs:=⟨⟨by show k≤i;omega,hp3,hI2⟩,by show k<k+1;omega⟩)
   ·have hnc:¬ nX y.n x.n<0:=fun h=>hc (iu.1 h);have hS:=hI.done hji (.inr ⟨k,rfl,by rw[ss hx,ss hy];omega⟩);generalize nX y.n x.n=R at *
    repeat (first|refine Tw ?_|(refine Tm ?_;intro _)|exact Tz)
    refine WC.adraw 17 (k:=?_)
    iterate 17 (first|refine DQ.does (fun s _=>yx rfl rfl hgt) Dp.const ?_|refine DQ.does (fun s _=>zb (o':=0+(k+1)*15) rfl rfl hk2 rfl) Dp.const ?_|refine DQ.does (fun s _=>zE (vs:=odC y) (hc:=hcy)) Dp.const ?_|refine DQ.does (fun s _=>zb (o':=0+k*15) rfl rfl hk1 rfl) Dp.const ?_|refine DQ.does (fun s _=>zE (vs:=odC x) (hc:=hcx)) Dp.const ?_|refine DQ.does (fun s _=>zr rfl rfl hsub) Dp.const ?_|refine DQ.acallV (hc:=hA) (k:=?_)|refine DQ.does (fun s _=>zM rfl rfl hnc) Dp.const ?_|refine Da ?_|refine Dc ?_)
    refine DQ.anil (k:=?_);intro sx _
    repeat (first|refine WO.does (ze rfl rfl hadd2) ?_|refine Ta ?_|(refine Tm ?_;intro _)|refine Tc ?_|exact Tz)
    exact WX.metI (i+1,l2) (hs:=⟨⟨by show 1≤i+1;omega,by show i+1≤l.length+1;omega,hp2,hS⟩,by show l.length+1 - (i+1)<l.length+1 - i;omega⟩)
 ·have hS:Srt l1 l1.length:=by
   have:=hp1.length_eq;intro a b h1 h2;exact hs1 a b h1 Om
  repeat (first|refine Tw ?_|(refine Tm ?_;intro _)|exact Tz)
  refine WC.dF rfl Om ?_
  repeat (first|refine Tw ?_|(refine Tm ?_;intro _)|exact Tz)
  exact WX.retP_ofN (aeN rfl) (Lle.cons Pk.here rfl Lle.nil) ⟨rfl,l1,hp1,hS.pw,rfl⟩
theorem c8 (m:Nat) (hm:m<9223372036854775808):Fn Tryz.prog 184 [.int .u64 (m:Int)] Tr (Is (.int .i64 (zK m:Nat))):=.of fun w=>(Tryz.bits_Len (m:Int) w Om Om).mono fun e w' h=>by
 obtain⟨rfl,rfl⟩:=h;refine⟨?_,Below.refl _ _⟩;have:=bitLen_eq (x:=m) Om;rw[Int.toNat_natCast,this]
theorem ahj (l:List Od) (g c m:Nat) (hn:l.length≤12) :
  FnL Tryz.prog 183 [.slice (some ⟨g,0,none⟩) l.length c,.int .i64 0,.int .i64 (l.length:Int),.int .i64 (m:Int),.func (.func 148) #[] #[]] [⟨g,238,l.flatMap odC⟩] Tr (fun v N=>afr l.length l v g N):=by
 have hI:=aW l g c hn;have hsub:IntKind.i64.wrap ((l.length:Int) - 0)=(l.length:Int):=by rw[Int.sub_zero];exact i64_in Om Om
 refine FnL.enter Tryz.func183 rfl rfl rfl ?_;intro w hw
 repeat (first|refine WC.loopU 1 ?_|refine WO.does (zr rfl rfl hsub) ?_|refine WO.does (mh rfl rfl Om) ?_|refine Ta ?_|(refine Tm ?_;intro _)|refine Tc ?_|exact Tz)
 refine WO.callsL (hc:=hI) (hp:=.cons .here .nil) (fun _ _=>trivial) (fun v N hv=>?_);obtain⟨rfl,l',h1,h2,rfl⟩:=hv
 try dsimp only[List.cons_append,List.nil_append]
 repeat (first|refine Tw ?_|(refine Tm ?_;intro _)|exact Tz)
 exact WX.retP_of (aeN rfl) (Lle.cons Pk.here rfl Lle.nil) ⟨rfl,l',h1,h2,rfl⟩
theorem fE (l:List Od) (g c:Nat) (hn:l.length≤12) :
  FnL Tryz.prog 147 [.slice (some ⟨g,0,none⟩) l.length c,.func (.func 148) #[] #[]] [⟨g,238,l.flatMap odC⟩] Tr (fun v N=>afr l.length l v g N):=by
 have hcv:IntKind.u64.wrap (l.length:Int)=(l.length:Int):=u64_in Om Om;have hL:=c8 l.length Om;have hP:=ahj l g c (zK l.length) hn;refine FnL.enter Tryz.func147 rfl rfl rfl ?_;intro w hw
 repeat (first|refine WO.does (zB rfl hcv) ?_|refine Ta ?_|(refine Tm ?_;intro _)|refine WO.acall (hc:=hL) (k:=?_)|refine Tc ?_|exact Tz)
 refine WO.callsL (hc:=hP) (hp:=.cons .here .nil) (fun _ _=>trivial) (fun v N hv=>?_);obtain⟨rfl,l',h1,h2,rfl⟩:=hv
 try dsimp only[List.cons_append,List.nil_append]
 repeat (first|refine Tw ?_|(refine Tm ?_;intro _)|exact Tz)
 exact WX.retP_ofN (aeN rfl) (Lle.cons Pk.here rfl Lle.nil) ⟨rfl,l',h1,h2,rfl⟩
def nrL (g:Nat) (D:List Nat) (r:List Value):Nat→List Ent
 | 0=>[]
 | _+1=>[⟨g,24,D.flatMap zc++r⟩]
def nrV (g c n:Nat):Nat→Value
 | 0=>.slice none 0 0
 | _+1=>.slice (some ⟨g,0,none⟩) n c
section
variable (p q g h gF:Nat)
theorem m5 (l:List Nat) (pt:Option Addr) (c i x:Nat) (e:Int) (h1:1<q) (hl:∀ y∈l,y<q) (hx:x<q) (hn:l.length≤1000) (hi:i<1000) (hq:q<zd) :
  FnL Tryz.prog 227 [Sx.pt gF,.slice pt l.length c,.int .i64 (i:Int),zk x] [⟨gF,252,fdC p q g h e⟩] (fun w=>RdF zc (.slice pt l.length c) l w∧∀ b o,pt=some ⟨b,o,none⟩→l≠[]→b ∉ [gF])
   (fun v N=>∃ g' c' r',v=nrV g' c' (dif q l i x l.length).length (dif q l i x l.length).length∧N=⟨gF,252,fdC p q g h e⟩::nrL g' (dif q l i x l.length) r' (dif q l i x l.length).length):=by
 refine FnL.enter Tryz.func227 rfl rfl rfl ?_;intro w hw;rw[show List.map Ent.g [(⟨gF,252,fdC p q g h e⟩ : Ent)]=[gF] from rfl];obtain⟨⟨pt',c',e1,hpc⟩,hout⟩:=hw;cases e1
 repeat (first|refine Tw ?_|(refine Tm ?_;intro _)|exact Tz)
 rename_i gX
 refine WC.loopI (σ:=Nat × Nat × Nat × List Value) (fun s=>s.1≤l.length∧(0<(dif q l i x s.1).length→((dif q l i x s.1).flatMap zc++s.2.2.2).length=s.2.2.1*4∧s.2.2.1<9223372036854775808)) (fun s=>[(0,Sx.pt gF),(1,.slice pt l.length c),(2,.int .i64 (i:Int)),(7,Sx.pt gX),(8,nrV s.2.1 s.2.2.1 (dif q l i x s.1).length (dif q l i x s.1).length),(11,.int .i64 (l.length:Int)),(12,.int .i64 (s.1:Int))])
  (fun s=>⟨gX,24,zc x⟩::⟨gF,252,fdC p q g h e⟩::nrL s.2.1 (dif q l i x s.1) s.2.2.2 (dif q l i x s.1).length) (fun s=>l.length - s.1) (0,0,0,[]) (fun s hs=>?_) ⟨Nat.zero_le _,fun h=>absurd h (by simp[dif])⟩
 obtain⟨k,g0,c0,r0⟩:=s
 try dsimp only at hs ⊢
 obtain⟨hk,hr⟩:=hs
 by_cases hlt:k<l.length
 ·have hadd2:IntKind.i64.wrap ((k:Int)+1)=((k+1:Nat):Int):=zo Om Om Om
  by_cases hki:k=i
  ·have hd:=ny (q:=q) (l:=l) (x:=x) hki;rw[← hd] at hr ⊢
   repeat (first|refine Tw ?_|(refine Tm ?_;intro _)|exact Tz)
   refine WC.dT rfl Om ?_
   repeat (first|refine Ta ?_|(refine Tm ?_;intro _)|refine WO.does (zx rfl rfl Om) ?_|refine WO.does (ze rfl rfl hadd2) ?_|refine Tc ?_|exact Tz)
   exact WX.metI (k+1,g0,c0,r0) (hl:=Lle.same) (hs:=⟨⟨by show k+1≤l.length;omega,hr⟩,by show l.length - (k+1)<l.length - k;omega⟩)
  ·obtain⟨y,hy⟩ : ∃ y,l[k]?=some y:=⟨_,List.getElem?_eq_getElem hlt⟩
   rcases hpc with ⟨_,h0⟩|⟨b,o,rfl,hs⟩
   ·rw[h0] at hlt;simp at hlt
   have hb:b ∉ [gF]:=hout b o rfl (by rintro rfl;simp at hlt);have hcx:cut (l.flatMap zc) (o+k*4 - o) 4=zc y:=by rw[Nat.add_sub_cancel_left];exact yg (f:=zc) (k:=4) (fun _=>rfl) hy
   have hd:=oE (q:=q) (x:=x) hki hy;have hLs:=afq p q g h gF x y e h1 hx (hl y (List.mem_of_getElem? hy)) hq;have hDl:=jj (q:=q) (i:=i) (x:=x) (k:=k) (l:=l);have hfl:((dif q l i x k).flatMap zc).length=(dif q l i x k).length*4:=zy (f:=zc) (k:=4) (fun _=>rfl) _
   repeat (first|refine Tw ?_|(refine Tm ?_;intro _)|exact Tz)
   refine WC.dT rfl Om ?_
   repeat (first|refine Ta ?_|(refine Tm ?_;intro _)|refine WO.does (zU rfl rfl Om) ?_|refine Tc ?_|exact Tz)
   have hvl:(x+q - y)%q<q:=Nat.mod_lt _ Om;generalize (x+q - y)%q=v at *;generalize hD:dif q l i x k=D at *;refine WC.mainV [7,8,9,10] [(0,nrV g0 c0 D.length D.length),(1,Sx.pt gF),(2,zk x),(3,.slice (some ⟨b,o,none⟩) l.length c),(4,.int .i64 (k:Int)),(5,.pointer (some ⟨b,o+k*4,none⟩)),(6,zk y)] (by decide) ?_;refine WT.with [⟨gX,24,zc x⟩] (by kernel_rfl) (Tlv.auto (Tlv.auto (Tlv.auto (Tlv.auto (Tlv.auto (Tlv.d rfl (zb (o':=o+k*4) rfl rfl hlt rfl) (Tlv.d rfl (zj (vs:=zc y) (hs:=hs) (hle:=Nat.le_add_right _ _) (hb:=hb) (hc:=hcx)) Tlv.nil))))))) (fun hc hT=>?_)
   refine WT.one (m:=7) rfl hc hT ?_;refine WO.callM rfl hLs (by repeat (first|exact Rp.here|apply Rp.there)) (fun _ _=>trivial) (by decide) ?_ rfl rfl;refine WO.nil (WX.wt [(25,zk v)] ?_);refine WT.one (m:=8) rfl hc hT ?_;refine WO.makes (zh (cs:=zc v) rfl (by decide) rfl) (fun gT=>?_);refine WO.nil (WX.wt [(26,.slice (some ⟨gT,0,none⟩) 1 1)] ?_);refine WT.one (m:=9) rfl hc hT ?_
   rcases D with _|⟨d0,D⟩
   ·refine WO.appN (z:=zc 0) (ys:=zc v) (m:=1) rfl rfl rfl (Rds.own (m:=4) Hs.a rfl) rfl (by decide) (by decide) (by decide) (by decide) (fun g1 c1 r1 a1 a2 a3=>?_);refine WO.nil (WX.wt [(27,.slice (some ⟨g1,0,none⟩) 1 c1)] ?_);refine WT.one (m:=10) rfl hc hT ?_;refine WO.auto (k:=?_);refine WO.nil (WX.wt [(8,.slice (some ⟨g1,0,none⟩) 1 c1)] ?_);refine WT.fin [10] 1 hc rfl (by rfl) ?_;clear hc hT
    repeat (first|refine Ta ?_|(refine Tm ?_;intro _)|refine WO.does (ze rfl rfl hadd2) ?_|refine Tc ?_|exact Tz)
    exact WX.metI (k+1,g1,c1,r1) (hk:=by (try dsimp only);rw[hd];repeat (first|exact Kle.nil|refine Kle.cons rfl (by first|rfl|simp[nrV]) ?_)) (hl:=by (try dsimp only);rw[hd];repeat (first|exact Lle.nil|refine Lle.c ?_)) (hs:=⟨⟨by show k+1≤l.length;omega,fun _=>by show ((dif q l i x (k+1)).flatMap zc++r1).length=c1*4∧c1<9223372036854775808;rw[hd];exact⟨by simpa using a1,a2⟩⟩,by show l.length - (k+1)<l.length - k;omega⟩)
   ·obtain⟨u1,u2⟩:=hr (by simp);refine WO.appK (z:=zc 0) (m:=1) (l:=(d0::D).length+1) rfl rfl rfl (xs:=(d0::D).flatMap zc) (r:=r0) (ys:=zc v) hfl u1 Pk.a (Rds.own (m:=4) Hs.a rfl) rfl rfl rfl Om u2 Om (by decide) (by decide) (fun g1 c1 r1 a1 a2 a3=>?_);refine WO.nil (WX.wt [(27,.slice (some ⟨g1,0,none⟩) ((d0::D).length+1) c1)] ?_);refine WT.one (m:=10) rfl hc hT ?_;refine WO.auto (k:=?_);refine WO.nil (WX.wt [(8,.slice (some ⟨g1,0,none⟩) ((d0::D).length+1) c1)] ?_);refine WT.fin [10] 1 hc rfl (by rfl) ?_;clear hc hT
    repeat (first|refine Ta ?_|(refine Tm ?_;intro _)|refine WO.does (ze rfl rfl hadd2) ?_|refine Tc ?_|exact Tz)
    exact WX.metI (k+1,g1,c1,r1) (hk:=by (try dsimp only);rw[hd];repeat (first|exact Kle.nil|refine Kle.cons rfl (by first|rfl|simp[nrV]) ?_)) (hl:=by (try dsimp only);rw[hd];refine Lle.c ?_;refine Lle.c ?_;exact Lle.cons Pk.a (by simp) Lle.nil) (hs:=⟨⟨by show k+1≤l.length;omega,fun _=>by show ((dif q l i x (k+1)).flatMap zc++r1).length=c1*4∧c1<9223372036854775808;rw[hd];exact⟨by simpa using a1,a2⟩⟩,by show l.length - (k+1)<l.length - k;omega⟩)
 ·have hk2:k=l.length:=by omega
  subst hk2
  repeat (first|refine Tw ?_|(refine Tm ?_;intro _)|exact Tz)
  refine WC.dF rfl Om ?_
  repeat (first|refine Tw ?_|(refine Tm ?_;intro _)|exact Tz)
  exact WX.retP_of (ahw rfl Rv.t) (Lle.cons (.there .here) rfl (Lle.skip Lle.same)) ⟨g0,c0,r0,rfl,rfl⟩
end
end Sx
end
end Go.Proofs.YtiiefkchpicncaaGreatDoor
