/- Part 31 of the proof. -/
import Derived.Test.YtiaibpcaloigkaaGreatDoorE28
import Derived.Test.YtiaibpcaloigkaaGreatDoorE23
set_option linter.unusedSimpArgs false
set_option linter.unusedVariables false
set_option maxHeartbeats 8000000
namespace Go.Proofs.YtiaibpcaloigkaaGreatDoor
section
open Go Go.RowKit Go.BigFrame
namespace Sx
attribute [local irreducible] DQ WC WO WX wd
theorem abz (m:Nat) (hm:m<9223372036854775808):Fn Tryz.prog 195 [.int .i64 (m:Int)] Tr (Is (.tuple #[.int .u64 (m:Int),.int .i64 0])):=by
 have hcv:IntKind.u64.wrap (m:Int)=(m:Int):=u64_in Om Om;refine Fn.enter Tryz.func195 rfl rfl rfl ?_;intro w hw
 repeat (first|refine Tj ?_|intro _|refine WO.does (yd rfl rfl Om) ?_|refine WO.does (zA rfl hcv) ?_|refine Tc ?_|exact Tz)
 done
section
variable (p q g h gV gG:Nat)
theorem dq (a b:Nat) (ha:a<q) (hb:b<q) (h1:1<q) (hq:q<ze):FnM Tryz.prog 196 [zj b,pt gV,pt gG] gV 24 (zc a) (zc ((a+b)%q)) (fun w=>Seg w gG 0 (yO p q g h)∧gG≠gV) (.tuple #[]):=by
 have hA:=afZ a b q (Nat.lt_trans ha hq) (Nat.lt_trans hb hq) hq;rw[show zQ a b q=true by simp[zQ,h1,ha,hb]] at hA;generalize (a+b)%q=R at *;refine FnM.enter Tryz.func196 rfl rfl rfl ?_;intro w ⟨hw,hne⟩;have hbG:gG ∉ [gV]:=by simpa using hne
 repeat (first|refine WO.does (zm (vs:=zc q) (hs:=hw) (hb:=hbG)) ?_|refine Tj ?_|intro _|refine WO.acall (hc:=hA) (k:=?_)|refine Tc ?_|exact Tz)
 exact WX.retM_ofN (ag7 rfl) Hs.a
def vn (m k i:Nat):Nat:=m / 2 ^ (k - i)
theorem mw {m k i:Nat} (h:i<k):vn m k (i+1)=2*vn m k i+m / 2 ^ (k - 1 - i)%2:=by
 unfold vn;rw[show k - (i+1)=k - 1 - i by omega,show k - i=(k - 1 - i)+1 by omega,Nat.pow_succ,← Nat.div_div_eq_div_mul];omega
theorem tN {m k:Nat} (h:m<2 ^ k):vn m k 0=0:=by unfold vn;exact Nat.div_eq_of_lt h
theorem jd (m k:Nat):vn m k k=m:=by unfold vn;rw[Nat.sub_self,Nat.pow_zero,Nat.div_one]
theorem ce (m:Nat) (hm:m<9223372036854775808):Fn Tryz.prog 181 [.int .u64 (m:Int)] Tr (Is (.int .i64 (zL m:Nat))):=.of fun w=>(Tryz.bits_Len64 (m:Int) w Om Om).mono fun e w' h=>by
 obtain⟨rfl,rfl⟩:=h;refine⟨?_,Below.refl _ _⟩;have:=bitLen_eq (x:=m) Om;rw[Int.toNat_natCast,this]
theorem jq (m:Nat) (hm:m<9223372036854775808) (hq:q<ze):Fn Tryz.prog 152 [vY p q g h,.int .i64 (m:Int)] Tr (Is (zj (ofZ q (m:Int)))):=by
 have hB:=lc q hq
 by_cases h1:1<q
 ·have hb2:¬ ((zL q:Nat):Int)<2:=by
   have:¬ zL q≤1:=by rw[y8];omega
   omega
  have hA:=abz m hm;have hL:=ce m hm;have hlb:=vh (k:=63) (x:=m) Om;have htop:=tN (tZ m);have hall:=jd m (zL m);rw[cj q m Om];generalize zL q=bq at *;generalize zL m=k at *;have hC:=fun gV gG a b (ha:a<q) (hb:b<q)=>(dq p q g h gV gG a b ha hb h1 hq).toL;have h0:=aal 0;have hO1:=aal 1;refine Fn.enter Tryz.func152 rfl rfl rfl ?_;intro w hw
  repeat (first|refine Tj ?_|intro _|refine WO.acall (hc:=hB) (k:=?_)|refine WO.does (yd rfl rfl hb2) ?_|refine WO.acall (hc:=hA) (k:=?_)|refine WO.acall (hc:=h0) (k:=?_)|refine WO.acall (hc:=hL) (k:=?_)|refine WO.does (zM rfl rfl) ?_|refine Tc ?_|exact Tz)
  rename_i g2 g4 gV;refine WC.ndp' (fun hnd=>?_);have hne:g2≠gV:=by intro e;simp[e] at hnd
  clear hnd
  refine WC.loopI (σ:=Nat) (fun i=>i≤k) (fun i=>[(2,Sx.pt g2),(4,Sx.pt g4),(5,.int .u64 (m:Int)),(6,.int .i64 0),(7,Sx.pt gV),(8,.func (.func 196) #[] #[Sx.pt gV,Sx.pt g2]),(23,.int .i64 (k:Int)),(24,.int .i64 (i:Int))])
   (fun i=>[⟨gV,24,zc (vn m k i%q)⟩,⟨g4,24,zc 0⟩,⟨g2,26,yO p q g h⟩]) (fun i=>k - i) 0 (fun i hi=>?_) (Nat.zero_le _)
   (hl:=by rw[htop,Nat.zero_mod];repeat (first|exact Lle.nil|refine Lle.cons Pk.a (by rfl) ?_))
  try dsimp only at hi ⊢
  by_cases hlt:i<k
  ·have hstep:=mw (m:=m) hlt;have hal:vn m k i%q<q:=Nat.mod_lt _ Om;have hadd2:IntKind.i64.wrap ((i:Int)+1)=((i+1:Nat):Int):=zl Om Om Om;have hs1:IntKind.i64.wrap ((k:Int) - 1)=((k - 1:Nat):Int):=zl Om Om Om;have hs2:IntKind.i64.wrap (((k - 1:Nat):Int) - (i:Int))=((k - 1 - i:Nat):Int):=zl Om Om Om;have hX:m / 2 ^ (k - 1 - i)<18446744073709551616:=Nat.lt_of_le_of_lt (Nat.div_le_self _ _) Om;have hand:IntKind.u64.wrap ((BitVec.ofInt IntKind.u64.bits ((m / 2 ^ (k - 1 - i):Nat):Int) &&& BitVec.ofInt IntKind.u64.bits 1).toNat)=((m / 2 ^ (k - 1 - i)%2:Nat):Int):=and_one _ hX;have hC1:=hC gV g2 (vn m k i%q) (vn m k i%q) hal hal;have hbl:(vn m k i%q+vn m k i%q)%q<q:=Nat.mod_lt _ Om;have hC2:=hC gV g2 ((vn m k i%q+vn m k i%q)%q) 1 hbl h1;have hv:∀ b,m / 2 ^ (k - 1 - i)%2=b→((vn m k i%q+vn m k i%q)%q+b)%q=vn m k (i+1)%q:=fun b hb=>by
    rw[hstep,hb,← Nat.add_mod,Nat.mod_add_mod,Nat.two_mul]
   repeat (first|refine Tk ?_|intro _|exact Tz)
   refine WC.dT rfl Om ?_
   repeat (first|refine Tk ?_|intro _|exact Tz)
   refine WO.callsLV hC1 rfl rfl rfl (Pks.cons Pk.a Pks.nil) (fun w1 hm=>⟨Hs.sg hm,hne⟩) (fun v N hv=>?_);obtain⟨rfl,rfl⟩:=hv;simp only[List.cons_append,List.nil_append];have hb2':=Nat.mod_lt (m / 2 ^ (k - 1 - i)) (show 2 > 0 by decide);generalize hbb:m / 2 ^ (k - 1 - i)%2=b at *;generalize (vn m k i%q+vn m k i%q)%q=A at *
   repeat (first|refine Tj ?_|intro _|refine WO.acall (hc:=hL) (k:=?_)|refine WO.does (zH rfl rfl hs1) ?_|refine WO.does (zH rfl rfl hs2) ?_|refine WO.does (vu rfl rfl Om (u9 (by show k - 1 - i≤64;omega))) ?_|refine WO.does (tV rfl rfl hand) ?_|refine Tc ?_|exact Tz)
   have hb01:b=0∨b=1:=by omega
   rcases hb01 with rfl|rfl
   ·have hv0:=hv 0 rfl;rw[Nat.add_zero,Nat.mod_eq_of_lt hbl] at hv0;refine WC.condF rfl ?_
    repeat (first|refine Tj ?_|intro _|refine WO.does (zi rfl rfl hadd2) ?_|refine Tc ?_|exact Tz)
    rw[hv0];exact WX.metI (i+1) (hs:=⟨by show i+1≤k;omega,by show k - (i+1)<k - i;omega⟩)
   ·have hv1:=hv 1 rfl;rw[hv1] at hC2;refine WC.condT rfl ?_
    repeat (first|refine Tj ?_|intro _|refine WO.acall (hc:=hO1) (k:=?_)|refine Tc ?_|exact Tz)
    refine WO.callsLV hC2 rfl rfl rfl (Pks.cons Pk.a Pks.nil) (fun w1 hm=>⟨Hs.sg hm,hne⟩) (fun v N hv=>?_);obtain⟨rfl,rfl⟩:=hv;simp only[List.cons_append,List.nil_append]
    repeat (first|refine Tj ?_|intro _|refine WO.does (zi rfl rfl hadd2) ?_|refine Tc ?_|exact Tz)
    exact WX.metI (i+1) (hs:=⟨by show i+1≤k;omega,by show k - (i+1)<k - i;omega⟩)
  ·have hi2:i=k:=by omega
   subst hi2;rw[hall]
   repeat (first|refine Tk ?_|intro _|exact Tz)
   refine WC.dF rfl Om ?_
   repeat (first|refine Tk ?_|intro _|exact Tz)
   done
 ·rw[show ofZ q (m:Int)=0 by unfold ofZ;rw[if_pos Om]];have hb2:((zL q:Nat):Int)<2:=by
   have:zL q≤1:=by rw[y8];omega
   omega
  generalize zL q=bq at *;refine Fn.enter Tryz.func152 rfl rfl rfl ?_;intro w hw
  repeat (first|refine Tj ?_|intro _|refine WO.acall (hc:=hB) (k:=?_)|refine WO.does (vC rfl rfl hb2) ?_|refine Tc ?_|exact Tz)
  done
end
theorem ml {P:Program} {w0:World} {gs:LN} {K:List (Nat × Value)} {L:List Ent} {x:Operand} {t ty:TypeId} {k:IntKind} {n r:Int} (hx:ev K x=some (.int k n)) (hr:k.wrap (0 - n)=r):Does P w0 gs K L (.unOp .neg t x) ty (.int k r):=hr ▸ il hx
theorem bG (m:Nat) (hm:m<1000) (h0:0<m):Fn Tryz.prog 195 [.int .i64 (-(m:Int))] Tr (Is (.tuple #[.int .u64 (m:Int),.int .i64 1])):=by
 have hcv:IntKind.u64.wrap (-(m:Int))=((18446744073709551616 - m:Nat):Int):=by
  simp[IntKind.wrap,IntKind.signed,IntKind.bits];omega
 have hng:IntKind.u64.wrap (0 - ((18446744073709551616 - m:Nat):Int))=(m:Int):=by
  simp[IntKind.wrap,IntKind.signed,IntKind.bits];omega
 refine Fn.enter Tryz.func195 rfl rfl rfl ?_;intro w hw
 repeat (first|refine Tj ?_|intro _|refine WO.does (vC rfl rfl Om) ?_|refine WO.does (zA rfl hcv) ?_|refine WO.does (ml rfl hng) ?_|refine Tc ?_|exact Tz)
 done
section
variable (p q g h gV gG:Nat)
theorem ec (m:Nat) (hm:m<1000) (h0m:0<m) (hmq:m<q) (hq:q<ze):Fn Tryz.prog 152 [vY p q g h,.int .i64 (-(m:Int))] Tr (Is (zj (q - m))):=by
 have hB:=lc q hq;have h1:1<q:=by omega
 ·have hb2:¬ ((zL q:Nat):Int)<2:=by
   have:¬ zL q≤1:=by rw[y8];omega
   omega
  have hA:=bG m hm h0m;have hL:=ce m Om;have hlb:=vh (k:=63) (x:=m) Om;have htop:=tN (tZ m);have hall:=jd m (zL m);generalize zL q=bq at *;generalize zL m=k at *;have hC:=fun gV gG a b (ha:a<q) (hb:b<q)=>(dq p q g h gV gG a b ha hb h1 hq).toL;have h0:=aal 0;have hO1:=aal 1;refine Fn.enter Tryz.func152 rfl rfl rfl ?_;intro w hw
  repeat (first|refine Tj ?_|intro _|refine WO.acall (hc:=hB) (k:=?_)|refine WO.does (yd rfl rfl hb2) ?_|refine WO.acall (hc:=hA) (k:=?_)|refine WO.acall (hc:=h0) (k:=?_)|refine WO.acall (hc:=hL) (k:=?_)|refine WO.does (zM rfl rfl) ?_|refine Tc ?_|exact Tz)
  rename_i g2 g4 gV;refine WC.ndp' (fun hnd=>?_);have hne:g2≠gV:=by intro e;simp[e] at hnd
  clear hnd
  refine WC.loopI (σ:=Nat) (fun i=>i≤k) (fun i=>[(2,Sx.pt g2),(4,Sx.pt g4),(5,.int .u64 (m:Int)),(6,.int .i64 1),(7,Sx.pt gV),(8,.func (.func 196) #[] #[Sx.pt gV,Sx.pt g2]),(23,.int .i64 (k:Int)),(24,.int .i64 (i:Int))])
   (fun i=>[⟨gV,24,zc (vn m k i%q)⟩,⟨g4,24,zc 0⟩,⟨g2,26,yO p q g h⟩]) (fun i=>k - i) 0 (fun i hi=>?_) (Nat.zero_le _)
   (hl:=by rw[htop,Nat.zero_mod];repeat (first|exact Lle.nil|refine Lle.cons Pk.a (by rfl) ?_))
  try dsimp only at hi ⊢
  by_cases hlt:i<k
  ·have hstep:=mw (m:=m) hlt;have hal:vn m k i%q<q:=Nat.mod_lt _ Om;have hadd2:IntKind.i64.wrap ((i:Int)+1)=((i+1:Nat):Int):=zl Om Om Om;have hs1:IntKind.i64.wrap ((k:Int) - 1)=((k - 1:Nat):Int):=zl Om Om Om;have hs2:IntKind.i64.wrap (((k - 1:Nat):Int) - (i:Int))=((k - 1 - i:Nat):Int):=zl Om Om Om;have hX:m / 2 ^ (k - 1 - i)<18446744073709551616:=Nat.lt_of_le_of_lt (Nat.div_le_self _ _) Om;have hand:IntKind.u64.wrap ((BitVec.ofInt IntKind.u64.bits ((m / 2 ^ (k - 1 - i):Nat):Int) &&& BitVec.ofInt IntKind.u64.bits 1).toNat)=((m / 2 ^ (k - 1 - i)%2:Nat):Int):=and_one _ hX;have hC1:=hC gV g2 (vn m k i%q) (vn m k i%q) hal hal;have hbl:(vn m k i%q+vn m k i%q)%q<q:=Nat.mod_lt _ Om;have hC2:=hC gV g2 ((vn m k i%q+vn m k i%q)%q) 1 hbl h1;have hv:∀ b,m / 2 ^ (k - 1 - i)%2=b→((vn m k i%q+vn m k i%q)%q+b)%q=vn m k (i+1)%q:=fun b hb=>by
    rw[hstep,hb,← Nat.add_mod,Nat.mod_add_mod,Nat.two_mul]
   repeat (first|refine Tk ?_|intro _|exact Tz)
   refine WC.dT rfl Om ?_
   repeat (first|refine Tk ?_|intro _|exact Tz)
   refine WO.callsLV hC1 rfl rfl rfl (Pks.cons Pk.a Pks.nil) (fun w1 hm=>⟨Hs.sg hm,hne⟩) (fun v N hv=>?_);obtain⟨rfl,rfl⟩:=hv;simp only[List.cons_append,List.nil_append];have hb2':=Nat.mod_lt (m / 2 ^ (k - 1 - i)) (show 2 > 0 by decide);generalize hbb:m / 2 ^ (k - 1 - i)%2=b at *;generalize (vn m k i%q+vn m k i%q)%q=A at *
   repeat (first|refine Tj ?_|intro _|refine WO.acall (hc:=hL) (k:=?_)|refine WO.does (zH rfl rfl hs1) ?_|refine WO.does (zH rfl rfl hs2) ?_|refine WO.does (vu rfl rfl Om (u9 (by show k - 1 - i≤64;omega))) ?_|refine WO.does (tV rfl rfl hand) ?_|refine Tc ?_|exact Tz)
   have hb01:b=0∨b=1:=by omega
   rcases hb01 with rfl|rfl
   ·have hv0:=hv 0 rfl;rw[Nat.add_zero,Nat.mod_eq_of_lt hbl] at hv0;refine WC.condF rfl ?_
    repeat (first|refine Tj ?_|intro _|refine WO.does (zi rfl rfl hadd2) ?_|refine Tc ?_|exact Tz)
    rw[hv0];exact WX.metI (i+1) (hs:=⟨by show i+1≤k;omega,by show k - (i+1)<k - i;omega⟩)
   ·have hv1:=hv 1 rfl;rw[hv1] at hC2;refine WC.condT rfl ?_
    repeat (first|refine Tj ?_|intro _|refine WO.acall (hc:=hO1) (k:=?_)|refine Tc ?_|exact Tz)
    refine WO.callsLV hC2 rfl rfl rfl (Pks.cons Pk.a Pks.nil) (fun w1 hm=>⟨Hs.sg hm,hne⟩) (fun v N hv=>?_);obtain⟨rfl,rfl⟩:=hv;simp only[List.cons_append,List.nil_append]
    repeat (first|refine Tj ?_|intro _|refine WO.does (zi rfl rfl hadd2) ?_|refine Tc ?_|exact Tz)
    exact WX.metI (i+1) (hs:=⟨by show i+1≤k;omega,by show k - (i+1)<k - i;omega⟩)
  ·have hi2:i=k:=by omega
   subst hi2;rw[hall]
   repeat (first|refine Tk ?_|intro _|exact Tz)
   have hSb:=aeD 0 m q zF (Nat.lt_trans hmq hq) hq;rw[show zQ 0 m q=true by simp[zQ,h1,hmq];omega,show (0+q - m)%q=q - m by rw[Nat.zero_add];exact Nat.mod_eq_of_lt Om] at hSb;rw[Nat.mod_eq_of_lt hmq];refine WC.dF rfl Om ?_
   repeat (first|refine Tk ?_|intro _|exact Tz)
   refine WC.adrawF [7] 8 (k:=?_)
   repeat (first|refine Da ?_|refine DQ.acall (hc:=h0) (k:=?_)|refine DQ.acall (hc:=hSb) (k:=?_)|refine Df ?_)
   refine DQ.anil (k:=?_);intro sx _
   repeat (first|refine Tk ?_|intro _|exact Tz)
   done
end
end Sx
end
end Go.Proofs.YtiaibpcaloigkaaGreatDoor
