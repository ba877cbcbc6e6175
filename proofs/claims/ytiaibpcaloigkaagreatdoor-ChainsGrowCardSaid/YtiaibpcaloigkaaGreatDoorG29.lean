/- Part 29 of the proof. -/
import Derived.Test.YtiaibpcaloigkaaGreatDoorG28
import Derived.Test.YtiaibpcaloigkaaGreatDoorG23
set_option linter.unusedSimpArgs false
set_option linter.unusedVariables false
set_option maxHeartbeats 8000000
namespace Go.Proofs.YtiaibpcaloigkaaGreatDoor
section
open Go Go.RowKit Go.BigFrame
namespace Sx
attribute [local irreducible] DQ WC WO WX wd
theorem abV (m:Nat) (hm:m<9223372036854775808):Fn Tryz.prog 195 [.int .i64 (m:Int)] Tr (Is (.tuple #[.int .u64 (m:Int),.int .i64 0])):=by
 have hcv:IntKind.u64.wrap (m:Int)=(m:Int):=u64_in Om Om;refine Fn.enter Tryz.func195 rfl rfl rfl ?_;intro w hw
 repeat (first|refine Tj ?_|intro _|refine WO.does (z7 rfl rfl Om) ?_|refine WO.does (zr rfl hcv) ?_|refine Tc ?_|exact Tz)
 done
section
variable (p q g h gV gG:Nat)
theorem dn (a b:Nat) (ha:a<q) (hb:b<q) (h1:1<q) (hq:q<ze):FnM Tryz.prog 196 [zk b,pt gV,pt gG] gV 24 (zc a) (zc ((a+b)%q)) (fun w=>Seg w gG 0 (yI p q g h)∧gG≠gV) (.tuple #[]):=by
 have hA:=afn a b q (Nat.lt_trans ha hq) (Nat.lt_trans hb hq) hq;rw[show zP a b q=true by simp[zP,h1,ha,hb]] at hA;generalize (a+b)%q=R at *;refine FnM.enter Tryz.func196 rfl rfl rfl ?_;intro w ⟨hw,hne⟩;have hbG:gG ∉ [gV]:=by simpa using hne
 repeat (first|refine WO.does (zn (vs:=zc q) (hs:=hw) (hb:=hbG)) ?_|refine Tj ?_|intro _|refine WO.acall (hc:=hA) (k:=?_)|refine Tc ?_|exact Tz)
 exact WX.retM_ofN (ahe rfl) Hs.a
def vg (m k i:Nat):Nat:=m / 2 ^ (k - i)
theorem lh {m k i:Nat} (h:i<k):vg m k (i+1)=2*vg m k i+m / 2 ^ (k - 1 - i)%2:=by
 unfold vg;rw[show k - (i+1)=k - 1 - i by omega,show k - i=(k - 1 - i)+1 by omega,Nat.pow_succ,← Nat.div_div_eq_div_mul];omega
theorem tZ {m k:Nat} (h:m<2 ^ k):vg m k 0=0:=by unfold vg;exact Nat.div_eq_of_lt h
theorem jv (m k:Nat):vg m k k=m:=by unfold vg;rw[Nat.sub_self,Nat.pow_zero,Nat.div_one]
theorem cn (m:Nat) (hm:m<9223372036854775808):Fn Tryz.prog 181 [.int .u64 (m:Int)] Tr (Is (.int .i64 (zJ m:Nat))):=.of fun w=>(Tryz.bits_Len64 (m:Int) w Om Om).mono fun e w' h=>by
 obtain⟨rfl,rfl⟩:=h;refine⟨?_,Below.refl _ _⟩;have:=bitLen_eq (x:=m) Om;rw[Int.toNat_natCast,this]
theorem jK (m:Nat) (hm:m<9223372036854775808) (hq:q<ze):Fn Tryz.prog 152 [vV p q g h,.int .i64 (m:Int)] Tr (Is (zk (ofZ q (m:Int)))):=by
 have hB:=lf q hq
 by_cases h1:1<q
 ·have hb2:¬ ((zJ q:Nat):Int)<2:=by
   have:¬ zJ q≤1:=by rw[yY];omega
   omega
  have hA:=abV m hm;have hL:=cn m hm;have hlb:=vd (k:=63) (x:=m) Om;have htop:=tZ (tI m);have hall:=jv m (zJ m);rw[ci q m Om];generalize zJ q=bq at *;generalize zJ m=k at *;have hC:=fun gV gG a b (ha:a<q) (hb:b<q)=>(dn p q g h gV gG a b ha hb h1 hq).toL;have h0:=aG 0;have hO1:=aG 1;refine Fn.enter Tryz.func152 rfl rfl rfl ?_;intro w hw
  repeat (first|refine Tj ?_|intro _|refine WO.acall (hc:=hB) (k:=?_)|refine WO.does (z7 rfl rfl hb2) ?_|refine WO.acall (hc:=hA) (k:=?_)|refine WO.acall (hc:=h0) (k:=?_)|refine WO.acall (hc:=hL) (k:=?_)|refine WO.does (zH rfl rfl) ?_|refine Tc ?_|exact Tz)
  rename_i g2 g4 gV;refine WC.ndp' (fun hnd=>?_);have hne:g2≠gV:=by intro e;simp[e] at hnd
  clear hnd
  refine WC.loopI (σ:=Nat) (fun i=>i≤k) (fun i=>[(2,Sx.pt g2),(4,Sx.pt g4),(5,.int .u64 (m:Int)),(6,.int .i64 0),(7,Sx.pt gV),(8,.func (.func 196) #[] #[Sx.pt gV,Sx.pt g2]),(23,.int .i64 (k:Int)),(24,.int .i64 (i:Int))])
   (fun i=>[⟨gV,24,zc (vg m k i%q)⟩,⟨g4,24,zc 0⟩,⟨g2,26,yI p q g h⟩]) (fun i=>k - i) 0 (fun i hi=>?_) (Nat.zero_le _)
   (hl:=by rw[htop,Nat.zero_mod];repeat (first|exact Lle.nil|refine Lle.cons Pk.a (by rfl) ?_))
  try dsimp only at hi ⊢
  by_cases hlt:i<k
  ·have hstep:=lh (m:=m) hlt;have hal:vg m k i%q<q:=Nat.mod_lt _ Om;have hadd2:IntKind.i64.wrap ((i:Int)+1)=((i+1:Nat):Int):=zl Om Om Om;have hs1:IntKind.i64.wrap ((k:Int) - 1)=((k - 1:Nat):Int):=zl Om Om Om;have hs2:IntKind.i64.wrap (((k - 1:Nat):Int) - (i:Int))=((k - 1 - i:Nat):Int):=zl Om Om Om;have hX:m / 2 ^ (k - 1 - i)<18446744073709551616:=Nat.lt_of_le_of_lt (Nat.div_le_self _ _) Om;have hand:IntKind.u64.wrap ((BitVec.ofInt IntKind.u64.bits ((m / 2 ^ (k - 1 - i):Nat):Int) &&& BitVec.ofInt IntKind.u64.bits 1).toNat)=((m / 2 ^ (k - 1 - i)%2:Nat):Int):=and_one _ hX;have hC1:=hC gV g2 (vg m k i%q) (vg m k i%q) hal hal;have hbl:(vg m k i%q+vg m k i%q)%q<q:=Nat.mod_lt _ Om;have hC2:=hC gV g2 ((vg m k i%q+vg m k i%q)%q) 1 hbl h1;have hv:∀ b,m / 2 ^ (k - 1 - i)%2=b→((vg m k i%q+vg m k i%q)%q+b)%q=vg m k (i+1)%q:=fun b hb=>by
    rw[hstep,hb,← Nat.add_mod,Nat.mod_add_mod,Nat.two_mul]
   repeat (first|refine Tk ?_|intro _|exact Tz)
   refine WC.dT rfl Om ?_
   repeat (first|refine Tk ?_|intro _|exact Tz)
   refine WO.callsLV hC1 rfl rfl rfl (Pks.cons Pk.a Pks.nil) (fun w1 hm=>⟨Hs.sg hm,hne⟩) (fun v N hv=>?_);obtain⟨rfl,rfl⟩:=hv;simp only[List.cons_append,List.nil_append];have hb2':=Nat.mod_lt (m / 2 ^ (k - 1 - i)) (show 2 > 0 by decide);generalize hbb:m / 2 ^ (k - 1 - i)%2=b at *;generalize (vg m k i%q+vg m k i%q)%q=A at *
   repeat (first|refine Tj ?_|intro _|refine WO.acall (hc:=hL) (k:=?_)|refine WO.does (zG rfl rfl hs1) ?_|refine WO.does (zG rfl rfl hs2) ?_|refine WO.does (vo rfl rfl Om (u5 (by show k - 1 - i≤64;omega))) ?_|refine WO.does (tY rfl rfl hand) ?_|refine Tc ?_|exact Tz)
   have hb01:b=0∨b=1:=by omega
   rcases hb01 with rfl|rfl
   ·have hv0:=hv 0 rfl;rw[Nat.add_zero,Nat.mod_eq_of_lt hbl] at hv0;refine WC.condF rfl ?_
    repeat (first|refine Tj ?_|intro _|refine WO.does (zi rfl rfl hadd2) ?_|refine Tc ?_|exact Tz)
    rw[hv0];exact WX.metI (i+1) (hs:=⟨by show i+1≤k;omega,by show k - (i+1)<k - i;omega⟩)
   ·have hv1:=hv 1 rfl;rw[hv1] at hC2;refine WC.condT rfl ?_
    repeat (first|refine Tj ?_|intro _|refine WO.acall (hc:=hO1) (k:=?_)|refine Tc ?_|exact Tz)
    refine WO.callsLV hC2 rfl rfl rfl (Pks.cons Pk.a Pks.nil) (fun w1 hm=>⟨Hs.sg hm,hne⟩) (fun v N hv=>?_);obtain⟨rfl,rfl⟩:=hv;simp only[List.cons_append,List.nil_append]
    repeat (first|refine Tj ?_|intro _|refine WO.does (zi rfl rfl hadd2) ?_|refine Tc ?_|exact Tz)
    exact WX.metI (i+1) (hs:=⟨by show i+1≤k;omega,by show k - (i+1)<k - i;omega⟩)
  ·have hi2:i=k:=by omega
   subst hi2;rw[hall]
   repeat (first|refine Tk ?_|intro _|exact Tz)
   refine WC.dF rfl Om ?_
   repeat (first|refine Tk ?_|intro _|exact Tz)
   done
 ·rw[show ofZ q (m:Int)=0 by unfold ofZ;rw[if_pos Om]];have hb2:((zJ q:Nat):Int)<2:=by
   have:zJ q≤1:=by rw[yY];omega
   omega
  generalize zJ q=bq at *;refine Fn.enter Tryz.func152 rfl rfl rfl ?_;intro w hw
  repeat (first|refine Tj ?_|intro _|refine WO.acall (hc:=hB) (k:=?_)|refine WO.does (vy rfl rfl hb2) ?_|refine Tc ?_|exact Tz)
  done
end
theorem mB {P:Program} {w0:World} {gs:LN} {K:List (Nat × Value)} {L:List Ent} {x:Operand} {t ty:TypeId} {k:IntKind} {n r:Int} (hx:ev K x=some (.int k n)) (hr:k.wrap (0 - n)=r):Does P w0 gs K L (.unOp .neg t x) ty (.int k r):=hr ▸ jf hx
theorem au (m:Nat) (hm:m<1000) (h0:0<m):Fn Tryz.prog 195 [.int .i64 (-(m:Int))] Tr (Is (.tuple #[.int .u64 (m:Int),.int .i64 1])):=by
 have hcv:IntKind.u64.wrap (-(m:Int))=((18446744073709551616 - m:Nat):Int):=by
  simp[IntKind.wrap,IntKind.signed,IntKind.bits];omega
 have hng:IntKind.u64.wrap (0 - ((18446744073709551616 - m:Nat):Int))=(m:Int):=by
  simp[IntKind.wrap,IntKind.signed,IntKind.bits];omega
 refine Fn.enter Tryz.func195 rfl rfl rfl ?_;intro w hw
 repeat (first|refine Tj ?_|intro _|refine WO.does (vy rfl rfl Om) ?_|refine WO.does (zr rfl hcv) ?_|refine WO.does (mB rfl hng) ?_|refine Tc ?_|exact Tz)
 done
section
variable (p q g h gV gG:Nat)
theorem dm (m:Nat) (hm:m<1000) (h0m:0<m) (hmq:m<q) (hq:q<ze):Fn Tryz.prog 152 [vV p q g h,.int .i64 (-(m:Int))] Tr (Is (zk (q - m))):=by
 have hB:=lf q hq;have h1:1<q:=by omega
 ·have hb2:¬ ((zJ q:Nat):Int)<2:=by
   have:¬ zJ q≤1:=by rw[yY];omega
   omega
  have hA:=au m hm h0m;have hL:=cn m Om;have hlb:=vd (k:=63) (x:=m) Om;have htop:=tZ (tI m);have hall:=jv m (zJ m);generalize zJ q=bq at *;generalize zJ m=k at *;have hC:=fun gV gG a b (ha:a<q) (hb:b<q)=>(dn p q g h gV gG a b ha hb h1 hq).toL;have h0:=aG 0;have hO1:=aG 1;refine Fn.enter Tryz.func152 rfl rfl rfl ?_;intro w hw
  repeat (first|refine Tj ?_|intro _|refine WO.acall (hc:=hB) (k:=?_)|refine WO.does (z7 rfl rfl hb2) ?_|refine WO.acall (hc:=hA) (k:=?_)|refine WO.acall (hc:=h0) (k:=?_)|refine WO.acall (hc:=hL) (k:=?_)|refine WO.does (zH rfl rfl) ?_|refine Tc ?_|exact Tz)
  rename_i g2 g4 gV;refine WC.ndp' (fun hnd=>?_);have hne:g2≠gV:=by intro e;simp[e] at hnd
  clear hnd
  refine WC.loopI (σ:=Nat) (fun i=>i≤k) (fun i=>[(2,Sx.pt g2),(4,Sx.pt g4),(5,.int .u64 (m:Int)),(6,.int .i64 1),(7,Sx.pt gV),(8,.func (.func 196) #[] #[Sx.pt gV,Sx.pt g2]),(23,.int .i64 (k:Int)),(24,.int .i64 (i:Int))])
   (fun i=>[⟨gV,24,zc (vg m k i%q)⟩,⟨g4,24,zc 0⟩,⟨g2,26,yI p q g h⟩]) (fun i=>k - i) 0 (fun i hi=>?_) (Nat.zero_le _)
   (hl:=by rw[htop,Nat.zero_mod];repeat (first|exact Lle.nil|refine Lle.cons Pk.a (by rfl) ?_))
  try dsimp only at hi ⊢
  by_cases hlt:i<k
  ·have hstep:=lh (m:=m) hlt;have hal:vg m k i%q<q:=Nat.mod_lt _ Om;have hadd2:IntKind.i64.wrap ((i:Int)+1)=((i+1:Nat):Int):=zl Om Om Om;have hs1:IntKind.i64.wrap ((k:Int) - 1)=((k - 1:Nat):Int):=zl Om Om Om;have hs2:IntKind.i64.wrap (((k - 1:Nat):Int) - (i:Int))=((k - 1 - i:Nat):Int):=zl Om Om Om;have hX:m / 2 ^ (k - 1 - i)<18446744073709551616:=Nat.lt_of_le_of_lt (Nat.div_le_self _ _) Om;have hand:IntKind.u64.wrap ((BitVec.ofInt IntKind.u64.bits ((m / 2 ^ (k - 1 - i):Nat):Int) &&& BitVec.ofInt IntKind.u64.bits 1).toNat)=((m / 2 ^ (k - 1 - i)%2:Nat):Int):=and_one _ hX;have hC1:=hC gV g2 (vg m k i%q) (vg m k i%q) hal hal;have hbl:(vg m k i%q+vg m k i%q)%q<q:=Nat.mod_lt _ Om;have hC2:=hC gV g2 ((vg m k i%q+vg m k i%q)%q) 1 hbl h1;have hv:∀ b,m / 2 ^ (k - 1 - i)%2=b→((vg m k i%q+vg m k i%q)%q+b)%q=vg m k (i+1)%q:=fun b hb=>by
    rw[hstep,hb,← Nat.add_mod,Nat.mod_add_mod,Nat.two_mul]
   repeat (first|refine Tk ?_|intro _|exact Tz)
   refine WC.dT rfl Om ?_
   repeat (first|refine Tk ?_|intro _|exact Tz)
   refine WO.callsLV hC1 rfl rfl rfl (Pks.cons Pk.a Pks.nil) (fun w1 hm=>⟨Hs.sg hm,hne⟩) (fun v N hv=>?_);obtain⟨rfl,rfl⟩:=hv;simp only[List.cons_append,List.nil_append];have hb2':=Nat.mod_lt (m / 2 ^ (k - 1 - i)) (show 2 > 0 by decide);generalize hbb:m / 2 ^ (k - 1 - i)%2=b at *;generalize (vg m k i%q+vg m k i%q)%q=A at *
   repeat (first|refine Tj ?_|intro _|refine WO.acall (hc:=hL) (k:=?_)|refine WO.does (zG rfl rfl hs1) ?_|refine WO.does (zG rfl rfl hs2) ?_|refine WO.does (vo rfl rfl Om (u5 (by show k - 1 - i≤64;omega))) ?_|refine WO.does (tY rfl rfl hand) ?_|refine Tc ?_|exact Tz)
   have hb01:b=0∨b=1:=by omega
   rcases hb01 with rfl|rfl
   ·have hv0:=hv 0 rfl;rw[Nat.add_zero,Nat.mod_eq_of_lt hbl] at hv0;refine WC.condF rfl ?_
    repeat (first|refine Tj ?_|intro _|refine WO.does (zi rfl rfl hadd2) ?_|refine Tc ?_|exact Tz)
    rw[hv0];exact WX.metI (i+1) (hs:=⟨by show i+1≤k;omega,by show k - (i+1)<k - i;omega⟩)
   ·have hv1:=hv 1 rfl;rw[hv1] at hC2;refine WC.condT rfl ?_
    repeat (first|refine Tj ?_|intro _|refine WO.acall (hc:=hO1) (k:=?_)|refine Tc ?_|exact Tz)
    refine WO.callsLV hC2 rfl rfl rfl (Pks.cons Pk.a Pks.nil) (fun w1 hm=>⟨Hs.sg hm,hne⟩) (fun v N hv=>?_);obtain⟨rfl,rfl⟩:=hv;simp only[List.cons_append,List.nil_append]
    repeat (first|refine Tj ?_|intro _|refine WO.does (zi rfl rfl hadd2) ?_|refine Tc ?_|exact Tz)
    exact WX.metI (i+1) (hs:=⟨by show i+1≤k;omega,by show k - (i+1)<k - i;omega⟩)
  ·have hi2:i=k:=by omega
   subst hi2;rw[hall]
   repeat (first|refine Tk ?_|intro _|exact Tz)
   have hSb:=ac7 0 m q zE (Nat.lt_trans hmq hq) hq;rw[show zP 0 m q=true by simp[zP,h1,hmq];omega,show (0+q - m)%q=q - m by rw[Nat.zero_add];exact Nat.mod_eq_of_lt Om] at hSb;rw[Nat.mod_eq_of_lt hmq];refine WC.dF rfl Om ?_
   repeat (first|refine Tk ?_|intro _|exact Tz)
   refine WC.adrawF [7] 8 (k:=?_)
   repeat (first|refine Da ?_|refine DQ.acall (hc:=h0) (k:=?_)|refine DQ.acall (hc:=hSb) (k:=?_)|refine Df ?_)
   refine DQ.anil (k:=?_);intro sx _
   repeat (first|refine Tk ?_|intro _|exact Tz)
   done
end
end Sx
end
end Go.Proofs.YtiaibpcaloigkaaGreatDoor
