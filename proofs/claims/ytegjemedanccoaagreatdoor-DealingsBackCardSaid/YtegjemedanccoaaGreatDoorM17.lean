/- Part 17 of the proof. -/
import Derived.Test.YtegjemedanccoaaGreatDoorM15
set_option linter.unusedSimpArgs false
set_option linter.unusedVariables false
set_option maxHeartbeats 8000000
namespace Go.Proofs.YtegjemedanccoaaGreatDoor
section
open Go Go.RowKit
namespace Sx
attribute [local irreducible] DQ DQS WC WO WX
theorem y6 {a j:Nat} (h:j<4):(zb a)[j]?=some (.int .u64 ((wd j a:Nat):Int)):=by
 match j,h with
 | 0,_=>rfl
 | 1,_=>rfl
 | 2,_=>rfl
 | 3,_=>rfl
end Sx
end
section
open Go Go.RowKit
namespace Sx
attribute [local irreducible] DQ DQS WC WO WX wd
theorem ab0 (B W:List Nat) (wd c cw:Nat) (p:Option Addr) (bw ow:Nat) (h8:wd≤8) (hl:B.length+W.length*wd≤1099511627776) (hWl:W.length≤1099511627776) :
  Fn Tryz.prog 70 [.slice p B.length c,.int .i64 (wd:Int),.slice (some ⟨bw,ow,none⟩) W.length cw] (fun w=>Rd (.slice p B.length c) B.length (byC B) w∧Seg w bw ow (woC W))
   (e8 5 (B++beL wd W).length (byC (B++beL wd W))):=by
 have hT:(B++beL wd W).length=B.length+W.length*wd:=by rw[List.length_append,jE]
 have hmul:IntKind.i64.wrap ((wd:Int)*(W.length:Int))=((W.length*wd:Nat):Int):=by
  rw[Int.mul_comm,← Int.natCast_mul];exact i64_in (by omega) (by omega)
 have hadd:IntKind.i64.wrap ((B.length:Int)+((W.length*wd:Nat):Int))=(((B++beL wd W).length:Nat):Int):=by
  rw[← Int.natCast_add,hT];exact i64_in (by omega) (by omega)
 generalize hTT:B++beL wd W=T at *;refine Fn.enter Tryz.func70 rfl rfl rfl ?_;intro w hw;obtain⟨hB,hW⟩:=hw
 repeat (first|refine Td ?_|(refine Tm ?_;intro _)|refine WO.does (zR rfl rfl hmul) ?_|refine WO.does (zi rfl rfl hadd) ?_|(refine WO.makes (zV rfl rfl (by rw[hT];omega) (by rw[hT];omega) (by rw[hT];omega)) ?_;intro _)|refine WO.both (rq (st:=74) rfl rfl rfl hB.rds (by rw[zf,Nat.mul_one]) (m:=B.length) (by simp) (ys:=byC B) (by rw[Nat.mul_one,← zf,List.take_length]) (yP B) .here (cs':=pad T B.length) (by rw[r9,← hTT];exact bk B _) (by rw[r9,List.length_replicate,zf,hT];omega) (by decide)) ?_|refine Tc ?_|exact Tz)
 rename_i g
 refine WC.loopI (σ:=Nat) (fun i=>i≤W.length) (fun i=>[(1,.int .i64 (wd:Int)),(7,.slice (some ⟨g,0,none⟩) (B.length+i*wd) T.length),(24,.slice (some ⟨bw,ow,none⟩) W.length cw),(25,.int .i64 (W.length:Int)),(26,.int .i64 (i:Int))])
  (fun i=>[⟨g,5,pad T (B.length+i*wd)⟩]) (fun i=>W.length - i) 0 (fun i hi=>?_) (Nat.zero_le _) (by
   rw[Nat.zero_mul,Nat.add_zero]
   repeat (first|exact Kle.nil|refine Kle.cons rfl rfl ?_)) (by
   rw[Nat.zero_mul,Nat.add_zero]
   repeat (first|exact Lle.nil|refine Lle.c ?_))
 try dsimp only at hi ⊢
 by_cases hlt:i<W.length
 ·have hge:i*wd+wd≤W.length*wd:=by have:=Nat.mul_le_mul_right wd (Nat.succ_le_of_lt hlt);rwa [Nat.succ_mul] at this
  have hget:(woC W)[ow+i - ow]?=some (.int .u64 ((W[i]:Nat):Int)):=by rw[Nat.add_sub_cancel_left];exact aZ hlt
  repeat (first|refine Td ?_|(refine Tm ?_;intro _)|refine Tc ?_|exact Tz)
  refine WC.dT rfl (by omega) ?_
  repeat (first|refine Td ?_|(refine Tm ?_;intro _)|refine Tc ?_|exact Tz)
  refine WC.loopI (σ:=Nat) (fun j=>j≤wd) (fun j=>[(1,.int .i64 (wd:Int)),(7,.slice (some ⟨g,0,none⟩) (B.length+i*wd+j) T.length),(9,.int .u64 ((W[i]:Nat):Int)),(24,.slice (some ⟨bw,ow,none⟩) W.length cw),(25,.int .i64 (W.length:Int)),(26,.int .i64 (i:Int)),(30,.int .i64 (wd:Int)),(31,.int .i64 (j:Int))])
   (fun j=>[⟨g,5,pad T (B.length+i*wd+j)⟩]) (fun j=>wd - j) 0 (fun j hj=>?_) (Nat.zero_le _)
  try dsimp only at hj ⊢
  by_cases hlj:j<wd
  ·have hTg:T[B.length+i*wd+j]?=some (W[i] / 2 ^ (8*(wd - 1 - j))%256):=by
    rw[← hTT,List.getElem?_append_right (by omega),show B.length+i*wd+j - B.length=i*wd+j by omega];exact mM hlj hlt
   have h40:IntKind.i64.wrap (8*((wd:Int) - 1 - (j:Int)))=((8*(wd - 1 - j):Nat):Int):=by
    rw[show (8*((wd:Int) - 1 - (j:Int)))=((8*(wd - 1 - j):Nat):Int) by omega];exact i64_in (by omega) (by omega)
   repeat (first|refine Td ?_|(refine Tm ?_;intro _)|refine Tc ?_|exact Tz)
   refine WC.dT rfl (by omega) ?_
   repeat (first|refine Td ?_|(refine Tm ?_;intro _)|refine WO.does (zR rfl rfl h40) ?_|refine WO.does (y9 rfl rfl (by omega) (u9 (by show 8*(wd - 1 - j)≤64;omega))) ?_|refine WO.does (zL rfl (ei _)) ?_|(refine WO.makes (zd (cs:=[.int .u8 ((W[i] / 2 ^ (8*(wd - 1 - j))%256:Nat):Int)]) rfl (by decide) rfl) ?_;intro g2)|refine Tc ?_|exact Tz)
   refine WO.both (sG (n:=1) (xs:=[.int .u8 ((W[i] / 2 ^ (8*(wd - 1 - j))%256:Nat):Int)]) rfl rfl (Rds.own (m:=1) Hs.here rfl) rfl (by omega) rfl (Rp.there Rp.here) (lx hTg) (by rw[qE (by omega)];omega) (by decide) rfl) ?_
   repeat (first|refine Td ?_|(refine Tm ?_;intro _)|refine Tc ?_|exact Tz)
   refine WX.metI (j+1) (hs:=⟨by show j+1≤wd;omega,by show wd - (j+1)<wd - j;omega⟩)
  ·have:j=wd:=by omega
   subst this;rw[show B.length+i*j+j=B.length+(i+1)*j by rw[Nat.succ_mul];omega]
   repeat (first|refine Td ?_|(refine Tm ?_;intro _)|refine Tc ?_|exact Tz)
   refine WC.dF rfl (by omega) ?_
   repeat (first|refine Td ?_|(refine Tm ?_;intro _)|refine Tc ?_|exact Tz)
   refine WX.metI (i+1) (hs:=⟨by show i+1≤W.length;omega,by show W.length - (i+1)<W.length - i;omega⟩)
 ·have:i=W.length:=by omega
  subst this;rw[← hT,jc]
  repeat (first|refine Td ?_|(refine Tm ?_;intro _)|refine Tc ?_|exact Tz)
  refine WC.dF rfl (by omega) ?_
  repeat (first|refine Td ?_|(refine Tm ?_;intro _)|refine Tc ?_|exact Tz)
  exact WX.retN
theorem jy (B:List Nat) (x wd c:Nat) (p:Option Addr) (h8:wd≤8) (hl:B.length≤549755813888) :
  Fn Tryz.prog 30 [.slice p B.length c,.int .u64 (x:Int),.int .i64 (wd:Int)] (fun w=>Rd (.slice p B.length c) B.length (byC B) w)
   (e8 5 (B++be wd x).length (byC (B++be wd x))):=by
 have hb:beL wd [x]=be wd x:=by simp[beL]
 have hmax:(if (wd:Int) > 0 then (wd:Int) else 0)=(wd:Int):=by split<;>omega
 have hmin:(if (wd:Int)<8 then (wd:Int) else 8)=(wd:Int):=by split<;>omega
 have hP:=fun g=>ab0 B [x] wd c 1 p g 0 h8 (by simp;omega) (by simp);rw[hb] at hP;refine Fn.enter Tryz.func30 rfl rfl rfl ?_;intro w hw
 repeat (first|refine Ta ?_|(refine Tm ?_;intro _)|refine WO.does (lH rfl rfl hmax) ?_|refine WO.does (uf rfl rfl hmin) ?_|(refine WO.makes (zd (cs:=[.int .u64 (x:Int)]) rfl (by decide) rfl) ?_;intro g2)|refine Tc ?_|exact Tz)
 refine WO.acallN (hc:=hP g2) (hR:=fun w1 hm=>⟨hw.rds.rd hm,Hs.here.seg hm⟩) (k:=fun g3=>?_)
 repeat (first|refine Tw ?_|(refine Tm ?_;intro _)|exact Tz)
 exact WX.retN
def rvC (a b c d:Nat):Nat→List Value
 | 0=>[.int .u64 (a:Int),.int .u64 (b:Int),.int .u64 (c:Int),.int .u64 (d:Int)]
 | 1=>[.int .u64 (d:Int),.int .u64 (b:Int),.int .u64 (c:Int),.int .u64 (a:Int)]
 | _=>[.int .u64 (d:Int),.int .u64 (c:Int),.int .u64 (b:Int),.int .u64 (a:Int)]
def rvK (g:Nat):Nat→List (Nat × Value)
 | 0=>[(0,.slice (some ⟨g,0,none⟩) 4 4),(2,.int .i64 0),(3,.int .i64 3)]
 | 1=>[(0,.slice (some ⟨g,0,none⟩) 4 4),(2,.int .i64 1),(3,.int .i64 2)]
 | _=>[(0,.slice (some ⟨g,0,none⟩) 4 4),(2,.int .i64 2),(3,.int .i64 1)]
theorem acn (g t a b c d:Nat) (ht:t≠0):FnM Tryz.prog 112 [.slice (some ⟨g,0,none⟩) 4 4] g t (rvC a b c d 0) (rvC a b c d 2) Tr (.tuple #[]):=by
 refine FnM.enter Tryz.func112 rfl rfl rfl ?_;intro w hw;simp only[rvC]
 repeat (first|refine Tw ?_|(refine Tm ?_;intro _)|exact Tz)
 refine WC.loopI (σ:=Nat) (fun k=>k≤2) (rvK g) (fun k=>[⟨g,t,rvC a b c d k⟩]) (fun k=>2 - k) 0 (fun k hk=>?_) (by decide)
 match k,hk with
 | 0,_ =>
  simp only[rvK,rvC]
  repeat (first|refine Tw ?_|(refine Tm ?_;intro _)|exact Tz)
  refine WC.adrawF [2,3] 13 (k:=?_)
  repeat (first|refine Da ?_|refine Df ?_)
  refine DQ.anil (k:=?_);intro sx _
  repeat (first|refine Ta ?_|(refine Tm ?_;intro _)|refine WO.stores (zD (ht:=ht)) ?_|refine Tc ?_|exact Tz)
  exact WX.metI 1 (hs:=⟨by decide,by decide⟩)
 | 1,_ =>
  simp only[rvK,rvC]
  repeat (first|refine Tw ?_|(refine Tm ?_;intro _)|exact Tz)
  refine WC.adrawF [2,3] 13 (k:=?_)
  repeat (first|refine Da ?_|refine Df ?_)
  refine DQ.anil (k:=?_);intro sx _
  repeat (first|refine Ta ?_|(refine Tm ?_;intro _)|refine WO.stores (zD (ht:=ht)) ?_|refine Tc ?_|exact Tz)
  exact WX.metI 2 (hs:=⟨by decide,by decide⟩)
 | 2,_ =>
  simp only[rvK,rvC]
  repeat (first|refine Tw ?_|(refine Tm ?_;intro _)|exact Tz)
  exact WX.retM_ofN (ac6 rfl) Hs.here
end Sx
end
section
open Go Go.RowKit
namespace Sx
attribute [local irreducible] DQ DQS WC WO WX
theorem adi {l:List Nat} (h:l.length=16):∃ a b c d e f g i j k m n o p q r,l=[a,b,c,d,e,f,g,i,j,k,m,n,o,p,q,r]:=by
 match l,h with
 | [a,b,c,d,e,f,g,i,j,k,m,n,o,p,q,r],_=>exact⟨a,b,c,d,e,f,g,i,j,k,m,n,o,p,q,r,rfl⟩
end Sx
end
section
open Go Go.RowKit
namespace Sx
attribute [local irreducible] DQ DQS WC WO WX wd
theorem fm {a b:Nat} (h:a<b):ux a b = -1:=by unfold ux;rw[if_neg (by omega),if_pos h]
theorem mU {a b:Nat} (h:b<a):ux a b=1:=by unfold ux;rw[if_neg (by omega),if_neg (by omega)]
theorem gU {a b:Nat} (h:a=b):ux a b=0:=by unfold ux;rw[if_pos h]
theorem jB {a b m:Nat} (ha:a<m) (hb:b<m) (hm:m<zc) :
  ((a+b) / zc=0∧bw ((a+b)%zc) m 0=1∧(a+b)%m=(a+b)%zc) ∨
  ((a+b) / zc=1∧(a+b)%m=((a+b)%zc+zc - m)%zc) ∨
  ((a+b) / zc=0∧bw ((a+b)%zc) m 0=0∧(a+b)%m=((a+b)%zc+zc - m)%zc):=by
 by_cases hc:a+b<zc
 ·have e:(a+b)%zc=a+b:=Nat.mod_eq_of_lt hc;rw[e];have e0:(a+b) / zc=0:=Nat.div_eq_of_lt hc
  by_cases h:a+b<m
  ·exact .inl ⟨e0,by simp[bw];omega,Nat.mod_eq_of_lt h⟩
  ·refine .inr (.inr ⟨e0,by simp[bw];omega,?_⟩);rw[Nat.mod_eq_sub_mod (by omega),Nat.mod_eq_of_lt (by omega),show a+b+zc - m=(a+b - m)+zc by omega,Nat.add_mod_right,Nat.mod_eq_of_lt (by omega)]
 ·have e:(a+b)%zc=a+b - zc:=by rw[Nat.mod_eq_sub_mod (by omega),Nat.mod_eq_of_lt (by omega)]
  refine .inr (.inl ⟨?_,?_⟩)
  ·rw[Nat.div_eq_iff zp];omega
  ·rw[e,Nat.mod_eq_sub_mod (by omega),Nat.mod_eq_of_lt (by omega),show a+b - zc+zc - m=a+b - m by omega,Nat.mod_eq_of_lt (by omega)]
theorem jI {a b m:Nat} (ha:a<m) (hb:b<m) (hm:m<zc) :
  (bw a b 0=0∧(a+m - b)%m=(a+zc - b)%zc)∨(bw a b 0=1∧(a+m - b)%m=((a+zc - b)%zc+m)%zc):=by
 by_cases h:a<b
 ·refine .inr ⟨by simp[bw];omega,?_⟩;rw[Nat.mod_eq_of_lt (by omega:a+m - b<m),Nat.mod_eq_of_lt (by omega:a+zc - b<zc),show a+zc - b+m=(a+m - b)+zc by omega,Nat.add_mod_right,Nat.mod_eq_of_lt (by omega)]
 ·refine .inl ⟨by simp[bw];omega,?_⟩;rw[show a+m - b=(a - b)+m by omega,Nat.add_mod_right,Nat.mod_eq_of_lt (by omega),show a+zc - b=(a - b)+zc by omega,Nat.add_mod_right,Nat.mod_eq_of_lt (by omega)]
theorem acH (a b c:Nat):bw a b c=0∨bw a b c=1:=by unfold bw;split<;>simp
theorem ach (a b m:Nat) (ha:a<m) (hb:b<m) (hm:m<zc):Fn Tryz.prog 140 [ze a,ze b,ze m] Tr (Is (ze ((a+b)%m))):=by
 have hc:=jB ha hb hm;have hA:=aM a b (by omega) (by omega);have hS:=aI ((a+b)%zc) m (Nat.mod_lt _ zp) hm;have hl:=acH ((a+b)%zc) m 0;generalize (a+b)%m=R at *;generalize (a+b) / zc=c at *;generalize ((a+b)%zc+zc - m)%zc=y at *;generalize bw ((a+b)%zc) m 0=l at *;generalize (a+b)%zc=X at *
 rcases hc with ⟨rfl,rfl,rfl⟩|⟨rfl,rfl⟩|⟨rfl,rfl,rfl⟩
 ·refine Fn.enter Tryz.func140 rfl rfl rfl ?_;intro w hw
  repeat (first|refine Ta ?_|(refine Tm ?_;intro _)|refine WO.acall (hc:=hA) (k:=?_)|refine WO.acall (hc:=hS) (k:=?_)|refine Tc ?_|exact Tz)
 ·rcases hl with rfl|rfl
  all_goals
   refine Fn.enter Tryz.func140 rfl rfl rfl ?_;intro w hw
   repeat (first|refine Ta ?_|(refine Tm ?_;intro _)|refine WO.acall (hc:=hA) (k:=?_)|refine WO.acall (hc:=hS) (k:=?_)|refine Tc ?_|exact Tz)
 ·refine Fn.enter Tryz.func140 rfl rfl rfl ?_;intro w hw
  repeat (first|refine Ta ?_|(refine Tm ?_;intro _)|refine WO.acall (hc:=hA) (k:=?_)|refine WO.acall (hc:=hS) (k:=?_)|refine Tc ?_|exact Tz)
theorem abC (a b m:Nat) (ha:a<m) (hb:b<m) (hm:m<zc):Fn Tryz.prog 147 [ze a,ze b,ze m] Tr (Is (ze ((a+m - b)%m))):=by
 have hc:=jI ha hb hm;have hS:=aI a b (by omega) (by omega);have hA:=aM ((a+zc - b)%zc) m (Nat.mod_lt _ zp) hm;generalize (a+m - b)%m=R at *;generalize ((a+zc - b)%zc+m) / zc=c at *;generalize ((a+zc - b)%zc+m)%zc=y at *;generalize bw a b 0=l at *;generalize (a+zc - b)%zc=X at *
 rcases hc with ⟨rfl,rfl⟩|⟨rfl,rfl⟩
 all_goals
  refine Fn.enter Tryz.func147 rfl rfl rfl ?_;intro w hw
  repeat (first|refine Ta ?_|(refine Tm ?_;intro _)|refine WO.acall (hc:=hA) (k:=?_)|refine WO.acall (hc:=hS) (k:=?_)|refine Tc ?_|exact Tz)
def okE (c:Bool):Int:=if c then 0 else 1
def okV (c:Bool) (r:Nat):Nat:=if c then r else 0
def zF (a b m:Nat):Bool:=decide (1<m) && decide (a<m) && decide (b<m)
theorem j6 (a b m:Nat):(1<m∧a<m∧b<m∧zF a b m=true∧ux m 1=1∧ux a m = -1∧ux b m = -1) ∨
  (zF a b m=false∧((ux m 1=0∨ux m 1 = -1)∨(ux m 1=1∧(ux a m=0∨ux a m=1))∨(ux m 1=1∧ux a m = -1∧(ux b m=0∨ux b m=1)))):=by
 unfold zF ux
 by_cases h1:1<m
 ·by_cases h2:a<m
  ·by_cases h3:b<m
   ·refine .inl ⟨h1,h2,h3,by simp[h1,h2,h3],?_,?_,?_⟩
    ·rw[if_neg (by omega),if_neg (by omega)]
    ·rw[if_neg (by omega),if_pos h2]
    ·rw[if_neg (by omega),if_pos h3]
   ·refine .inr ⟨by simp[h3],.inr (.inr ⟨?_,?_,?_⟩)⟩
    ·rw[if_neg (by omega),if_neg (by omega)]
    ·rw[if_neg (by omega),if_pos h2]
    ·by_cases e:b=m
     ·exact .inl (if_pos e)
     ·exact .inr (by rw[if_neg e,if_neg h3])
  ·refine .inr ⟨by simp[h2],.inr (.inl ⟨?_,?_⟩)⟩
   ·rw[if_neg (by omega),if_neg (by omega)]
   ·by_cases e:a=m
    ·exact .inl (if_pos e)
    ·exact .inr (by rw[if_neg e,if_neg h2])
 ·refine .inr ⟨by simp[h1],.inl ?_⟩
  by_cases e:m=1
  ·exact .inl (if_pos e)
  ·exact .inr (by rw[if_neg e,if_pos (by omega)])
theorem acr {f:Nat} [Cal Tryz.prog f] (caps:List Value) (a b m r:Nat) (ha:a<zc) (hb:b<zc) (hm:m<zc) (R:World→Prop) (hst:ye R)
  (hf:zF a b m=true→Fn Tryz.prog f ([ze a,ze b,ze m]++caps) R (Is (ze r))) :
  Fn Tryz.prog 108 [.agg #[.func (.func f) #[] caps.toArray],ze a,ze b,ze m] R (Is (.tuple #[ze (okV (zF a b m) r),.int .i64 (okE (zF a b m))])):=by
 have hC1:=mc m 1 hm yz;have hC2:=mc a m ha hm;have hC3:=mc b m hb hm
 rcases j6 a b m with ⟨h1,h2,h3,hy,e1,e2,e3⟩|⟨hn,hc⟩
 ·have hF:=hf hy;rw[hy];rw[e1] at hC1;rw[e2] at hC2;rw[e3] at hC3;refine Fn.enter Tryz.func108 rfl rfl rfl ?_;intro w hw
  repeat (first|refine Tw ?_|(refine Tm ?_;intro _)|exact Tz)
  refine WC.adraw 16 (k:=?_)
  repeat (first|refine Da ?_|refine DQ.acall (hc:=vP) (k:=?_)|refine DQ.acall (hc:=hC1) (k:=?_)|refine DQ.acall (hc:=hC2) (k:=?_)|refine DQ.acall (hc:=hC3) (k:=?_)|refine Dc ?_)
  refine DQ.anil (k:=?_);intro sx _
  repeat (first|refine Ta ?_|(refine Tm ?_;intro _)|refine WO.acallV (hc:=hF) (hR:=fun w' hm=>hst _ _ hw hm.mod.below) (k:=?_)|refine Tc ?_|exact Tz)
 ·rw[hn]
  rcases hc with (e1|e1)|⟨e1,e2|e2⟩|⟨e1,e2,e3|e3⟩
  ·rw[e1] at hC1;refine Fn.enter Tryz.func108 rfl rfl rfl ?_;intro w hw
   repeat (first|refine Tw ?_|(refine Tm ?_;intro _)|exact Tz)
   refine WC.adraw 16 (k:=?_)
   repeat (first|refine Da ?_|refine DQ.acall (hc:=vP) (k:=?_)|refine DQ.acall (hc:=hC1) (k:=?_)|refine DQ.acall (hc:=hC2) (k:=?_)|refine DQ.acall (hc:=hC3) (k:=?_)|refine Dc ?_)
   refine DQ.anil (k:=?_);intro sx _
   repeat (first|refine Tw ?_|(refine Tm ?_;intro _)|exact Tz)
  ·rw[e1] at hC1;refine Fn.enter Tryz.func108 rfl rfl rfl ?_;intro w hw
   repeat (first|refine Tw ?_|(refine Tm ?_;intro _)|exact Tz)
   refine WC.adraw 16 (k:=?_)
   repeat (first|refine Da ?_|refine DQ.acall (hc:=vP) (k:=?_)|refine DQ.acall (hc:=hC1) (k:=?_)|refine DQ.acall (hc:=hC2) (k:=?_)|refine DQ.acall (hc:=hC3) (k:=?_)|refine Dc ?_)
   refine DQ.anil (k:=?_);intro sx _
   repeat (first|refine Tw ?_|(refine Tm ?_;intro _)|exact Tz)
  ·rw[e1] at hC1;rw[e2] at hC2;refine Fn.enter Tryz.func108 rfl rfl rfl ?_;intro w hw
   repeat (first|refine Tw ?_|(refine Tm ?_;intro _)|exact Tz)
   refine WC.adraw 16 (k:=?_)
   repeat (first|refine Da ?_|refine DQ.acall (hc:=vP) (k:=?_)|refine DQ.acall (hc:=hC1) (k:=?_)|refine DQ.acall (hc:=hC2) (k:=?_)|refine DQ.acall (hc:=hC3) (k:=?_)|refine Dc ?_)
   refine DQ.anil (k:=?_);intro sx _
   repeat (first|refine Tw ?_|(refine Tm ?_;intro _)|exact Tz)
  ·rw[e1] at hC1;rw[e2] at hC2;refine Fn.enter Tryz.func108 rfl rfl rfl ?_;intro w hw
   repeat (first|refine Tw ?_|(refine Tm ?_;intro _)|exact Tz)
   refine WC.adraw 16 (k:=?_)
   repeat (first|refine Da ?_|refine DQ.acall (hc:=vP) (k:=?_)|refine DQ.acall (hc:=hC1) (k:=?_)|refine DQ.acall (hc:=hC2) (k:=?_)|refine DQ.acall (hc:=hC3) (k:=?_)|refine Dc ?_)
   refine DQ.anil (k:=?_);intro sx _
   repeat (first|refine Tw ?_|(refine Tm ?_;intro _)|exact Tz)
  ·rw[e1] at hC1;rw[e2] at hC2;rw[e3] at hC3;refine Fn.enter Tryz.func108 rfl rfl rfl ?_;intro w hw
   repeat (first|refine Tw ?_|(refine Tm ?_;intro _)|exact Tz)
   refine WC.adraw 16 (k:=?_)
   repeat (first|refine Da ?_|refine DQ.acall (hc:=vP) (k:=?_)|refine DQ.acall (hc:=hC1) (k:=?_)|refine DQ.acall (hc:=hC2) (k:=?_)|refine DQ.acall (hc:=hC3) (k:=?_)|refine Dc ?_)
   refine DQ.anil (k:=?_);intro sx _
   repeat (first|refine Tw ?_|(refine Tm ?_;intro _)|exact Tz)
  ·rw[e1] at hC1;rw[e2] at hC2;rw[e3] at hC3;refine Fn.enter Tryz.func108 rfl rfl rfl ?_;intro w hw
   repeat (first|refine Tw ?_|(refine Tm ?_;intro _)|exact Tz)
   refine WC.adraw 16 (k:=?_)
   repeat (first|refine Da ?_|refine DQ.acall (hc:=vP) (k:=?_)|refine DQ.acall (hc:=hC1) (k:=?_)|refine DQ.acall (hc:=hC2) (k:=?_)|refine DQ.acall (hc:=hC3) (k:=?_)|refine Dc ?_)
   refine DQ.anil (k:=?_);intro sx _
   repeat (first|refine Tw ?_|(refine Tm ?_;intro _)|exact Tz)
theorem zG {a b m:Nat} (h:zF a b m=true):1<m∧a<m∧b<m:=by
 unfold zF at h;simp at h;exact⟨h.1.1,h.1.2,h.2⟩
abbrev rE (c:Bool) (r:Nat):Value:=.tuple #[ze (okV c r),.int .i64 (okE c)]
theorem acB (a b m:Nat) (ha:a<zc) (hb:b<zc) (hm:m<zc):Fn Tryz.prog 114 [ze a,ze b,ze m] Tr (Is (rE (zF a b m) ((a+b)%m))):=by
 have hO:=acr (f:=140) [] a b m ((a+b)%m) ha hb hm Tr ye.tr (fun h=>ach a b m (zG h).2.1 (zG h).2.2 hm);refine Fn.enter Tryz.func114 rfl rfl rfl ?_;intro w hw
 repeat (first|refine Ta ?_|(refine Tm ?_;intro _)|refine WO.acall (hc:=hO) (k:=?_)|refine Tc ?_|exact Tz)
theorem aak (a b m:Nat) (ha:a<zc) (hb:b<zc) (hm:m<zc):Fn Tryz.prog 121 [ze a,ze b,ze m] Tr (Is (rE (zF a b m) ((a+m - b)%m))):=by
 have hO:=acr (f:=147) [] a b m ((a+m - b)%m) ha hb hm Tr ye.tr (fun h=>abC a b m (zG h).2.1 (zG h).2.2 hm);refine Fn.enter Tryz.func121 rfl rfl rfl ?_;intro w hw
 repeat (first|refine Ta ?_|(refine Tm ?_;intro _)|refine WO.acall (hc:=hO) (k:=?_)|refine Tc ?_|exact Tz)
theorem aaz (a b m:Nat) (ha:a<zc) (hb:b<zc) (hm:m<zc):Fn Tryz.prog 113 [ze a,ze b,ze m] Tr (Is (rE (zF a b m) (a*b%m))):=by
 have hO:=acr (f:=107) [] a b m (a*b%m) ha hb hm Tr ye.tr (fun h=>lj a b m (zG h).2.1 (zG h).2.2 hm);refine Fn.enter Tryz.func113 rfl rfl rfl ?_;intro w hw
 repeat (first|refine Ta ?_|(refine Tm ?_;intro _)|refine WO.acall (hc:=hO) (k:=?_)|refine Tc ?_|exact Tz)
def eX (n N k:Nat):Nat:=n / 2 ^ (N - k)
theorem qM {n N:Nat} (h:n<2 ^ N):eX n N 0=0:=Nat.div_eq_of_lt (by simpa using h)
theorem kT (n N:Nat):eX n N N=n:=by unfold eX;simp
theorem o6 (n:Nat) {N k:Nat} (h:k<N):eX n N (k+1)=2*eX n N k+ug n (N - 1 - k):=by
 unfold eX ug;have e:N - k=(N - 1 - k)+1:=by omega
 have e2:N - (k+1)=N - 1 - k:=by omega
 rw[e2,e,Nat.pow_succ,← Nat.div_div_eq_div_mul];omega
theorem nW (a m t b:Nat) (hb:b=0∨b=1):a ^ (2*t+b)%m=if b=1 then (a ^ t%m*(a ^ t%m)%m)*a%m else a ^ t%m*(a ^ t%m)%m:=by
 have h1:a ^ (2*t)%m=a ^ t%m*(a ^ t%m)%m:=by rw[Nat.two_mul,Nat.pow_add,Nat.mul_mod]
 rcases hb with rfl|rfl
 ·simpa using h1
 ·rw[if_pos rfl,Nat.pow_succ,Nat.mul_mod,h1,Nat.mul_mod_mod]
theorem sZ (a i:Nat):ug a i=0∨ug a i=1:=by unfold ug;omega
theorem um (n:Nat):n<2 ^ zu n:=tE n
theorem nG {n:Nat} (h:n<zc):zu n≤256:=y4 (by simpa [zc] using h)
theorem dK {f:Nat} [Cal Tryz.prog f] (caps:List Value) (a n m:Nat) (h1:1<m) (ha:a<m) (hn:n<zc) (hm:m<18446744073709551616) (R:World→Prop) (hst:ye R)
  (hf:∀ x y:Nat,x<m→y<m→Fn Tryz.prog f ([.int .u64 (x:Int),.int .u64 (y:Int)]++caps) R (Is (.int .u64 ((x*y%m:Nat):Int)))) :
  Fn Tryz.prog 102 [.int .u64 (a:Int),.int .u64 1,ze n,.func (.func f) #[] caps.toArray] R (Is (.int .u64 ((a ^ n%m:Nat):Int))):=by
 have hB:=ru n hn;have hlt:=um n;have hN:=nG hn;have hbit:∀ i:Int,0≤i→i≤1000000→Fn Tryz.prog 134 [ze n,.int .i64 i] Tr (Is (.int .u64 (ug n i.toNat:Nat))):=fun i h0 h1=>acz n i hn h0 h1;have hend:=kT n (zu n);have hst0:=qM hlt;have hstep:=fun k (h:k<zu n)=>o6 n h;generalize zu n=N at *;refine Fn.enter Tryz.func102 rfl rfl rfl ?_;intro w hw
 repeat (first|refine Ta ?_|(refine Tm ?_;intro _)|refine WO.acall (hc:=hB) (k:=?_)|refine Tc ?_|exact Tz)
 rename_i g6;refine WC.loopI (σ:=Nat × Nat) (fun s=>s.1≤N∧s.2=a ^ eX n N s.1%m) (fun s=>[(0,.int .u64 (a:Int)),(3,.func (.func f) #[] caps.toArray),(6,pt g6),(9,.int .u64 (s.2:Int)),(13,.int .i64 (N:Int)),(14,.int .i64 (s.1:Int))]) (fun s=>[⟨g6,24,zb n⟩]) (fun s=>N - s.1) (0,1) (fun s hs=>?_) ⟨Nat.zero_le _,by rw[hst0,Nat.pow_zero,Nat.mod_eq_of_lt h1]⟩;obtain⟨k,x⟩:=s;obtain⟨hk,hx⟩:=hs;dsimp only at hk hx ⊢;have hxm:x<m:=by rw[hx];exact Nat.mod_lt _ (by omega)
 by_cases hlt:(k:Int)<(N:Int)
 ·have hkN:k<N:=by omega
  have hsq:=hf x x hxm hxm;have hma:=hf (x*x%m) a (Nat.mod_lt _ (by omega)) ha;have hbt:=hbit ((N:Int) - 1 - (k:Int)) (by omega) (by omega);rw[show ((N:Int) - 1 - (k:Int)).toNat=N - 1 - k by omega] at hbt;have hp:=nW a m (eX n N k) (ug n (N - 1 - k)) (sZ _ _);rw[← hstep k hkN,← hx] at hp
  repeat (first|refine Tw ?_|(refine Tm ?_;intro _)|exact Tz)
  refine WC.dT rfl hlt ?_
  repeat (first|refine Ta ?_|(refine Tm ?_;intro _)|refine WO.acallV (hc:=hsq) (hR:=fun w' hm=>hst _ _ hw hm.mod.below) (k:=?_)|refine Tc ?_|exact Tz)
  rcases sZ n (N - 1 - k) with e|e
  ·rw[e] at hbt hp;refine WC.adraw 8 (k:=?_)
   repeat (first|refine Da ?_|refine DQ.acall (hc:=hB) (k:=?_)|refine DQ.acall (hc:=hbt) (k:=?_)|refine Dc ?_)
   refine DQ.anil (k:=?_);intro sx _
   repeat (first|refine Tw ?_|(refine Tm ?_;intro _)|exact Tz)
   refine WX.metI (k+1,x*x%m) (hs:=⟨⟨by omega,by simpa using hp.symm⟩,by simp only;omega⟩)
  ·rw[e] at hbt hp;refine WC.adraw 8 (k:=?_)
   repeat (first|refine Da ?_|refine DQ.acall (hc:=hB) (k:=?_)|refine DQ.acall (hc:=hbt) (k:=?_)|refine Dc ?_)
   refine DQ.anil (k:=?_);intro sx _
   repeat (first|refine Ta ?_|(refine Tm ?_;intro _)|refine WO.acallV (hc:=hma) (hR:=fun w' hm=>hst _ _ hw hm.mod.below) (k:=?_)|refine Tc ?_|exact Tz)
   refine WX.metI (k+1,x*x%m*a%m) (hs:=⟨⟨by omega,by simpa using hp.symm⟩,by simp only;omega⟩)
 ·have hkN:k=N:=by omega
  subst hkN;rw[hend] at hx;subst hx
  repeat (first|refine Tw ?_|(refine Tm ?_;intro _)|exact Tz)
  refine WC.dF rfl hlt ?_
  repeat (first|refine Tw ?_|(refine Tm ?_;intro _)|exact Tz)
end Sx
end
section
open Go Go.RowKit
namespace Sx
attribute [local irreducible] DQ DQS WC WO WX
theorem bO {f:Nat} [Cal Tryz.prog f] (caps:List Value) (a n m:Nat) (h1:1<m) (ha:a<m) (hn:n<zc) (R:World→Prop) (hst:ye R)
  (hf:∀ x y:Nat,x<m→y<m→Fn Tryz.prog f ([ze x,ze y]++caps) R (Is (ze (x*y%m)))) :
  Fn Tryz.prog 105 [ze a,ze 1,ze n,.func (.func f) #[] caps.toArray] R (Is (ze (a ^ n%m))):=by
 have hB:=ru n hn;have hlt:=um n;have hN:=nG hn;have hbit:∀ i:Int,0≤i→i≤1000000→Fn Tryz.prog 134 [ze n,.int .i64 i] Tr (Is (.int .u64 (ug n i.toNat:Nat))):=fun i h0 h1=>acz n i hn h0 h1;have hend:=kT n (zu n);have hst0:=qM hlt;have hstep:=fun k (h:k<zu n)=>o6 n h;generalize zu n=N at *;refine Fn.enter Tryz.func105 rfl rfl rfl ?_;intro w hw
 repeat (first|refine Ta ?_|(refine Tm ?_;intro _)|refine WO.acall (hc:=hB) (k:=?_)|refine Tc ?_|exact Tz)
 rename_i g4 g5 g6 g8 g9
 refine WC.loopI (σ:=Nat × Nat) (fun s=>s.1≤N∧s.2=a ^ eX n N s.1%m) (fun s=>[(3,.func (.func f) #[] caps.toArray),(4,pt g4),(6,pt g6),(8,pt g8),(9,pt g9),(13,.int .i64 (N:Int)),(14,.int .i64 (s.1:Int))])
  (fun s=>[⟨g4,24,zb a⟩,⟨g6,24,zb n⟩,⟨g8,24,zb 0⟩,⟨g9,24,zb s.2⟩]) (fun s=>N - s.1) (0,1) (fun s hs=>?_) ⟨Nat.zero_le _,by rw[hst0,Nat.pow_zero,Nat.mod_eq_of_lt h1]⟩
 obtain⟨k,x⟩:=s;obtain⟨hk,hx⟩:=hs;dsimp only at hk hx ⊢;have hxm:x<m:=by rw[hx];exact Nat.mod_lt _ (by omega)
 by_cases hlt:(k:Int)<(N:Int)
 ·have hkN:k<N:=by omega
  have hsq:=hf x x hxm hxm;have hma:=hf (x*x%m) a (Nat.mod_lt _ (by omega)) ha;have hbt:=hbit ((N:Int) - 1 - (k:Int)) (by omega) (by omega);rw[show ((N:Int) - 1 - (k:Int)).toNat=N - 1 - k by omega] at hbt;have hp:=nW a m (eX n N k) (ug n (N - 1 - k)) (sZ _ _);rw[← hstep k hkN,← hx] at hp
  repeat (first|refine Tw ?_|(refine Tm ?_;intro _)|exact Tz)
  refine WC.dT rfl hlt ?_
  repeat (first|refine Ta ?_|(refine Tm ?_;intro _)|refine WO.acallV (hc:=hsq) (hR:=fun w' hm=>hst _ _ hw hm.mod.below) (k:=?_)|refine Tc ?_|exact Tz)
  rcases sZ n (N - 1 - k) with e|e
  ·rw[e] at hbt hp;refine WC.adraw 8 (k:=?_)
   repeat (first|refine Da ?_|refine DQ.acall (hc:=hB) (k:=?_)|refine DQ.acall (hc:=hbt) (k:=?_)|refine Dc ?_)
   refine DQ.anil (k:=?_);intro sx _
   repeat (first|refine Tw ?_|(refine Tm ?_;intro _)|exact Tz)
   refine WX.metI (k+1,x*x%m) (hs:=⟨⟨by omega,by simpa using hp.symm⟩,by simp only;omega⟩)
  ·rw[e] at hbt hp;refine WC.adraw 8 (k:=?_)
   repeat (first|refine Da ?_|refine DQ.acall (hc:=hB) (k:=?_)|refine DQ.acall (hc:=hbt) (k:=?_)|refine Dc ?_)
   refine DQ.anil (k:=?_);intro sx _
   repeat (first|refine Ta ?_|(refine Tm ?_;intro _)|refine WO.acallV (hc:=hma) (hR:=fun w' hm=>hst _ _ hw hm.mod.below) (k:=?_)|refine Tc ?_|exact Tz)
   refine WX.metI (k+1,x*x%m*a%m) (hs:=⟨⟨by omega,by simpa using hp.symm⟩,by simp only;omega⟩)
 ·have hkN:k=N:=by omega
  subst hkN;rw[hend] at hx;subst hx
  repeat (first|refine Tw ?_|(refine Tm ?_;intro _)|exact Tz)
  refine WC.dF rfl hlt ?_
  repeat (first|refine Tw ?_|(refine Tm ?_;intro _)|exact Tz)
theorem aaq (a b m g:Nat) (ha:a<m) (hb:b<m) (hm:m<18446744073709551616):Fn Tryz.prog 103 [.int .u64 (a:Int),.int .u64 (b:Int),pt g] (fun w=>Seg w g 0 (zb m)) (Is (.int .u64 ((a*b%m:Nat):Int))):=by
 have hW:=acJ a b m ha hb hm;have e:wd 0 m=m:=Nat.mod_eq_of_lt hm;rw[← e] at hW;refine Fn.enter Tryz.func103 rfl rfl rfl ?_;intro w hw;rw[← e]
 repeat (first|refine Ta ?_|(refine Tm ?_;intro _)|refine WO.acall (hc:=hW) (k:=?_)|refine Tc ?_|exact Tz)
theorem abl (a b m g:Nat) (ha:a<m) (hb:b<m) (hm:m<zc):Fn Tryz.prog 106 [ze a,ze b,pt g] (fun w=>Seg w g 0 (zb m)) (Is (ze (a*b%m))):=by
 have hW:=lj a b m ha hb hm;refine Fn.enter Tryz.func106 rfl rfl rfl ?_;intro w hw
 repeat (first|refine Ta ?_|(refine Tm ?_;intro _)|refine WO.acall (hc:=hW) (k:=?_)|refine Tc ?_|exact Tz)
theorem abB (a n m g:Nat) (h1:1<m) (ha:a<m) (hm:m<zc) (hn:n<zc):Fn Tryz.prog 101 [ze a,ze a,ze m,pt g] (fun w=>Seg w g 0 (zb n)) (Is (ze (a ^ n%m))):=by
 have hB:=ru m hm
 by_cases hs:m<18446744073709551616
 ·have hle:((zu m:Nat):Int)≤64:=by have:zu m≤64:=y4 (by simpa using hs);omega
  have ea:wd 0 a=a:=Nat.mod_eq_of_lt (by omega)
  have hP:∀ g,Fn Tryz.prog 102 [.int .u64 ((wd 0 a:Nat):Int),.int .u64 1,ze n,.func (.func 103) #[] #[pt g]] (fun w=>Seg w g 0 (zb m)) (Is (.int .u64 ((a ^ n%m:Nat):Int))) :=
   fun g=>by rw[ea];exact dK [pt g] a n m h1 ha hn hs _ ye.seg (fun x y hx hy=>aaq x y m g hx hy hs)
  have hO:=aF (a ^ n%m) (Nat.lt_trans (Nat.mod_lt _ (by omega)) hs);generalize zu m=N at *;refine Fn.enter Tryz.func101 rfl rfl rfl ?_;intro w hw
  repeat (first|refine Ta ?_|(refine Tm ?_;intro _)|refine WO.acall (hc:=hB) (k:=?_)|refine Tc ?_|exact Tz)
  refine WC.dT rfl hle ?_
  repeat (first|refine Ta ?_|(refine Tm ?_;intro _)|refine WO.acall (hc:=hO) (k:=?_)|refine WO.acallR (hc:=hP _) (hR:=fun w' hm=>Hs.sg hm) (k:=?_)|refine Tc ?_|exact Tz)
 ·have hle:¬ ((zu m:Nat):Int)≤64:=by
   intro h;have:zu m≤64:=by omega
   rw[yg] at this;exact hs (by simpa using this)
  have hP:∀ g,Fn Tryz.prog 105 [ze a,ze 1,ze n,.func (.func 106) #[] #[pt g]] (fun w=>Seg w g 0 (zb m)) (Is (ze (a ^ n%m))) :=
   fun g=>bO [pt g] a n m h1 ha hn _ ye.seg (fun x y hx hy=>abl x y m g hx hy hm)
  generalize zu m=N at *;refine Fn.enter Tryz.func101 rfl rfl rfl ?_;intro w hw
  repeat (first|refine Ta ?_|(refine Tm ?_;intro _)|refine WO.acall (hc:=hB) (k:=?_)|refine Tc ?_|exact Tz)
  refine WC.dF rfl hle ?_
  repeat (first|refine Tw ?_|(refine Tm ?_;intro _)|exact Tz)
  refine WC.adraw 5 (k:=?_)
  repeat (first|refine Da ?_|refine DQ.acall (hc:=vP) (k:=?_)|refine DQ.acallR (hc:=hP _) (hR:=fun w' hm=>Hs.sg hm) (k:=?_)|refine Dc ?_)
  refine DQ.anil (k:=?_);intro sx _
  repeat (first|refine Tw ?_|(refine Tm ?_;intro _)|exact Tz)
theorem ac8 (a n m:Nat) (ha:a<zc) (hn:n<zc) (hm:m<zc):Fn Tryz.prog 65 [ze a,ze n,ze m] Tr (Is (rE (zF a a m) (a ^ n%m))):=by
 have hO:=fun g=>acr (f:=101) [pt g] a a m (a ^ n%m) ha ha hm _ ye.seg (fun h=>abB a n m g (zG h).1 (zG h).2.1 hm hn);refine Fn.enter Tryz.func65 rfl rfl rfl ?_;intro w hw
 repeat (first|refine Ta ?_|(refine Tm ?_;intro _)|refine WO.acallR (hc:=hO _) (hR:=fun w' hm=>Hs.sg hm) (k:=?_)|refine Tc ?_|exact Tz)
end Sx
end
section
namespace Sx
def ig (m r s x y:Nat):Nat:=if h:s≤1 then y else ig m s (r%s) y ((x+m - r / s*y%m)%m)
termination_by s
decreasing_by exact Nat.mod_lt _ (by omega)
def uy (a m:Nat):Nat:=if Nat.gcd a m=1 then ig m m a 0 1 else 0
theorem mp {a b m:Int} (h:m ∣ a - b):a%m=b%m:=by
 obtain⟨c,hc⟩:=h;have:a=b+m*c:=by omega
 rw[this,Int.add_mul_emod_self_left]
theorem m6 {a b m:Int} (h:a%m=b%m):m ∣ a - b:=Int.dvd_of_emod_eq_zero (by rw[Int.sub_emod,h,Int.sub_self,Int.zero_emod])
theorem j0 {a b m:Nat} (h:(m:Int) ∣ (a:Int) - (b:Int)):a%m=b%m:=by
 have:=mp h;rw[← Int.natCast_emod,← Int.natCast_emod] at this;exact Int.ofNat.inj this
theorem qU {a b m:Nat} (h:a%m=b%m):(m:Int) ∣ (a:Int) - (b:Int):=by
 apply m6;rw[← Int.natCast_emod,← Int.natCast_emod,h]
theorem dG {a m r s x y:Nat} (hm:0<m) (h1:x*a%m=r%m) (h2:y*a%m=s%m):(x+m - r / s*y%m)%m*a%m=r%s%m:=by
 have ht:r / s*y%m<m:=Nat.mod_lt _ hm;have e1:r=s*(r / s)+r%s:=(Nat.div_add_mod r s).symm;have e2:r / s*y=m*(r / s*y / m)+r / s*y%m:=(Nat.div_add_mod _ m).symm;have e3:x+m - r / s*y%m=m*((x+m - r / s*y%m) / m)+(x+m - r / s*y%m)%m:=(Nat.div_add_mod _ m).symm;have d1:=qU h1;have d2:=qU h2;apply j0;generalize hz:(x+m - r / s*y%m)%m=z at *;generalize (x+m - r / s*y%m) / m=k at *;generalize hu:r / s*y%m=u at *;generalize r / s*y / m=l at *;generalize r / s=q at *;generalize r%s=p at *;obtain⟨c1,hc1⟩:=d1;obtain⟨c2,hc2⟩:=d2;have f3:(x:Int)+m - u=m*k+z:=by
  have:((x+m - u:Nat):Int)=((m*k+z:Nat):Int):=by rw[e3]
  rw[Int.ofNat_sub (by omega)] at this;push_cast at this;exact this
 have f2:(q:Int)*y=m*l+u:=by exact_mod_cast e2
 have f1:(r:Int)=s*q+p:=by exact_mod_cast e1
 push_cast at hc1 hc2 ⊢;refine⟨c1 - q*c2+a - k*a+l*a,?_⟩;have hz' : (z:Int)=x+m - (q*y - m*l) - m*k:=by omega
 have:(z:Int)*a - p=(x*a - r) - q*(y*a - s)+m*a+m*(l*a) - m*(k*a):=by
  rw[hz',f1];simp only[Int.sub_mul,Int.add_mul,Int.mul_sub,Int.mul_add,Int.mul_assoc,Int.mul_comm,Int.mul_left_comm];omega
 rw[this,hc1,hc2];simp only[Int.sub_mul,Int.add_mul,Int.mul_sub,Int.mul_add,Int.mul_assoc,Int.mul_comm,Int.mul_left_comm];omega
theorem kF {m r x y:Nat}:ig m r 1 x y=y:=by unfold ig;simp
theorem mf {m r s x y:Nat} (h:1<s):ig m r s x y=ig m s (r%s) y ((x+m - r / s*y%m)%m):=by
 rw[ig];rw[dif_neg (by omega)]
theorem kV {r s:Nat} (hs:1<s) (hg:Nat.gcd r s=1):0<r%s:=by
 rcases Nat.eq_zero_or_pos (r%s) with h|h
 ·exfalso;have h1:s ∣ r:=Nat.dvd_of_mod_eq_zero h;have:Nat.gcd r s=s:=Nat.gcd_eq_right h1;omega
 ·exact h
theorem kh {r s:Nat} (hg:Nat.gcd r s=1):Nat.gcd s (r%s)=1:=by
 rw[Nat.gcd_comm s,← Nat.gcd_rec,Nat.gcd_comm];exact hg
theorem i4 (m a:Nat) (hm:1<m):∀ (s r x y:Nat),0<s→Nat.gcd r s=1→x*a%m=r%m→y*a%m=s%m→y<m→ig m r s x y*a%m=1∧ig m r s x y<m:=by
 intro s
 induction s using Nat.strongRecOn with
 | _ s ih =>
  intro r x y hs hg h1 h2 hy
  by_cases e:s=1
  ·subst e;rw[kF,h2,Nat.mod_eq_of_lt hm];exact⟨rfl,hy⟩
  ·rw[mf (by omega)];exact ih (r%s) (Nat.mod_lt _ hs) s y _ (kV (by omega) hg) (kh hg) h2 (dG (by omega) h1 h2) (Nat.mod_lt _ (by omega))
theorem tM {m a:Nat} (hm:1<m) (ha:a<m) (hg:Nat.gcd a m=1):uy a m*a%m=1∧uy a m<m:=by
 unfold uy;rw[if_pos hg];have h0:0<a:=by
  rcases Nat.eq_zero_or_pos a with h|h
  ·subst h;rw[Nat.gcd_zero_left] at hg;omega
  ·exact h
 exact i4 m a hm a m 0 1 h0 (by rw[Nat.gcd_comm];exact hg) (by simp) (by simp) hm
theorem aaX {m a:Nat} (hm:1<m) (ha:a<m) (hg:Nat.gcd a m=1):uy a m≠0:=by
 intro h;have:=(tM hm ha hg).1;rw[h] at this;simp at this
theorem lw {m a:Nat} (hg:Nat.gcd a m≠1):uy a m=0:=by unfold uy;rw[if_neg hg]
def ij (a m:Nat):Int:=if zF a a m then (if Nat.gcd a m=1 then 0 else 7) else 1
end Sx
end
section
open Go Go.RowKit
namespace Sx
attribute [local irreducible] DQ DQS WC WO WX wd
theorem ady {r s m:Nat} (hs:1<s) (hr:r≤m) (hm:1<m):r / s<m:=Nat.lt_of_le_of_lt (Nat.div_le_div_right hr) (Nat.div_lt_self (by omega) hs)
theorem acw (a m:Nat) (h1:1<m) (ha:a<m) (hm:m<zc):Fn Tryz.prog 161 [ze a,ze a,ze m] Tr (Is (ze (uy a m))):=by
 have haB:a<zc:=by omega
 have hG:=bQ a m haB hm;have hgB:Nat.gcd a m<zc:=Nat.lt_of_le_of_lt (Nat.gcd_le_right _ (by omega)) hm
 by_cases hg:Nat.gcd a m=1
 ·have hne:¬ (Nat.gcd a m≠1):=fun h=>h hg;have hinv:uy a m=ig m m a 0 1:=by unfold uy;rw[if_pos hg]
  have h0:0<a:=by
   rcases Nat.eq_zero_or_pos a with h|h
   ·subst h;rw[Nat.gcd_zero_left] at hg;omega
   ·exact h
  have hgm:Nat.gcd m a=1:=by rw[Nat.gcd_comm];exact hg
  rw[hinv];refine Fn.enter Tryz.func161 rfl rfl rfl ?_;intro w hw
  repeat (first|refine Ta ?_|(refine Tm ?_;intro _)|refine WO.acall (hc:=hG) (k:=?_)|refine WO.acall (hc:=vP) (k:=?_)|refine Tc ?_|exact Tz)
  refine WC.dF rfl hne ?_
  repeat (first|refine Tw ?_|(refine Tm ?_;intro _)|exact Tz)
  rename_i g3 g4 g5 g6;refine WC.adrawS [1] [(1,[⟨g3,24,zb a⟩])] 8 (k:=?_)
  repeat (first|refine DQS.skip ?_|refine DQS.autoM (k:=?_)|refine DQS.acall (hc:=vP) (k:=?_)|refine DQS.acall (hc:=nw) (k:=?_)|refine DQS.autoH (k:=?_)|refine DQS.auto (k:=?_)|refine DQS.autoF (k:=?_)|refine DQS.does (fun s _=>yo) Dp.const ?_|refine DQS.does (fun s _=>vb) Dp.const ?_)
  refine DQS.anil (k:=?_);intro sx _
  repeat (first|refine WOS.autoS (kk:=?_)|refine WOS.auto (kk:=?_))
  refine WOS.nil ?_;refine WX.noPanic ?_;generalize sx 4 0=g7;generalize sx 5 0=g8;generalize sx 6 0=g9;generalize sx 7 0=g10
  repeat (first|refine Tw ?_|(refine Tm ?_;intro _)|exact Tz)
  refine WC.loopI (σ:=Nat × Nat × Nat × Nat) (fun s=>0<s.2.1∧s.2.1<s.1∧s.1≤m∧Nat.gcd s.1 s.2.1=1∧s.2.2.1<m∧s.2.2.2<m∧ig m s.1 s.2.1 s.2.2.1 s.2.2.2=ig m m a 0 1)
   (fun s=>[(5,pt g5),(6,pt g6),(7,pt g7),(8,pt g8),(9,pt g9),(10,pt g10)])
   (fun s=>[⟨g5,24,zb m⟩,⟨g6,24,zb 0⟩,⟨g7,24,zb s.1⟩,⟨g8,24,zb s.2.1⟩,⟨g9,24,zb s.2.2.1⟩,⟨g10,24,zb s.2.2.2⟩]) (fun s=>s.2.1) (m,a,0,1) (fun s hs=>?_) ⟨h0,ha,Nat.le_refl _,hgm,by show 0<m;omega,h1,rfl⟩
  obtain⟨r,s,x,y⟩:=s;obtain⟨hs0,hsr,hrm,hgc,hx,hy,heq⟩:=hs;dsimp only at hs0 hsr hrm hgc hx hy heq ⊢;have hsB:s<zc:=by omega
  by_cases hs1:s=1
  ·have hno:¬ (s≠1):=fun h=>h hs1;subst hs1;rw[kF] at heq;rw[← heq]
   repeat (first|refine Tw ?_|(refine Tm ?_;intro _)|exact Tz)
   refine WC.adraw 3 (k:=?_)
   repeat (first|refine Da ?_|refine DQ.acall (hc:=vP) (k:=?_)|refine Dc ?_)
   refine DQ.anil (k:=?_);intro sx _
   repeat (first|refine Tw ?_|(refine Tm ?_;intro _)|exact Tz)
  ·have hD:=adg r s (by omega) hsB hs0;have hq:=ady (r:=r) (s:=s) (m:=m) (by omega) hrm h1;have hT:=lj (r / s) y m hq hy hm;have hS:=aak x (r / s*y%m) m (by omega) (Nat.lt_trans (Nat.mod_lt _ (by omega)) hm) hm;have hmay:zF x (r / s*y%m) m=true:=by unfold zF;simp[h1,hx,Nat.mod_lt _ (show 0<m by omega)]
   rw[hmay] at hS;have hnext:=mf (m:=m) (r:=r) (x:=x) (y:=y) (show 1<s by omega);have hpos:=kV (show 1<s by omega) hgc;have hlt:=Nat.mod_lt r hs0;have hgn:=kh hgc;have hz:(x+m - r / s*y%m)%m<m:=Nat.mod_lt _ (by omega);rw[heq] at hnext;generalize (x+m - r / s*y%m)%m=z at *;generalize r / s*y%m=u at *;generalize r / s=q at *;generalize r%s=p at *
   repeat (first|refine Tw ?_|(refine Tm ?_;intro _)|exact Tz)
   refine WC.adraw 3 (k:=?_)
   repeat (first|refine Da ?_|refine DQ.acall (hc:=vP) (k:=?_)|refine Dc ?_)
   refine DQ.anil (k:=?_);intro sx _
   repeat (first|refine Tw ?_|(refine Tm ?_;intro _)|exact Tz)
   refine WC.dT rfl hs1 ?_
   repeat (first|refine Ta ?_|(refine Tm ?_;intro _)|refine WO.acall (hc:=hD) (k:=?_)|refine Tc ?_|exact Tz)
   rename_i g11 g12;refine WC.adrawF [9] 11 (k:=?_)
   repeat (first|refine Da ?_|refine DQ.acall (hc:=hT) (k:=?_)|refine DQ.acall (hc:=hS) (k:=?_)|refine Df ?_)
   refine DQ.anil (k:=?_);intro sx _
   repeat (first|refine Tw ?_|(refine Tm ?_;intro _)|exact Tz)
   generalize sx 10 0=g14;refine WC.adrawS [1,2,3] [(1,[⟨g12,24,zb p⟩]),(2,[⟨g10,24,zb y⟩]),(3,[⟨g14,24,zb z⟩])] 4 (k:=?_)
   repeat (first|refine DQS.skip ?_|refine DQS.autoM (k:=?_)|refine DQS.autoH (k:=?_)|refine DQS.auto (k:=?_)|refine DQS.autoF (k:=?_)|refine DQS.does (fun s _=>yo) Dp.const ?_|refine DQS.does (fun s _=>vb) Dp.const ?_)
   refine DQS.anil (k:=?_);intro sx _
   repeat (first|refine WOS.autoS (kk:=?_)|refine WOS.auto (kk:=?_))
   refine WOS.nil ?_;refine WX.noPanic ?_
   repeat (first|refine Tw ?_|(refine Tm ?_;intro _)|exact Tz)
   refine WX.metI (s,p,y,z) (hs:=⟨⟨hpos,hlt,by omega,hgn,hy,hz,hnext.symm⟩,hlt⟩)
 ·have hinv:uy a m=0:=lw hg;rw[hinv];refine Fn.enter Tryz.func161 rfl rfl rfl ?_;intro w hw
  repeat (first|refine Ta ?_|(refine Tm ?_;intro _)|refine WO.acall (hc:=hG) (k:=?_)|refine WO.acall (hc:=vP) (k:=?_)|refine Tc ?_|exact Tz)
  refine WC.dT rfl hg ?_
  repeat (first|refine Tw ?_|(refine Tm ?_;intro _)|exact Tz)
theorem ft {a m:Nat} (h1:1<m) (ha:a<m):uy a m<m:=by
 by_cases hg:Nat.gcd a m=1
 ·exact (tM h1 ha hg).2
 ·rw[lw hg];omega
theorem ac5 (a m:Nat) (ha:a<zc) (hm:m<zc):Fn Tryz.prog 152 [ze a,ze m] Tr (Is (.tuple #[ze (okV (zF a a m) (uy a m)),.int .i64 (ij a m)])):=by
 have hO:=acr (f:=161) [] a a m (uy a m) ha ha hm Tr ye.tr (fun h=>acw a m (zG h).1 (zG h).2.1 hm);cases hy:zF a a m with
 | false =>
  have he:ij a m=1:=by unfold ij;rw[hy];rfl
  rw[hy] at hO;rw[he];refine Fn.enter Tryz.func152 rfl rfl rfl ?_;intro w hw
  repeat (first|refine Ta ?_|(refine Tm ?_;intro _)|refine WO.acall (hc:=hO) (k:=?_)|refine Tc ?_|exact Tz)
  refine WC.adraw 7 (k:=?_)
  repeat (first|refine Da ?_|refine DQ.acall (hc:=nw) (k:=?_)|refine Dc ?_)
  refine DQ.anil (k:=?_);intro sx _
  repeat (first|refine Tw ?_|(refine Tm ?_;intro _)|exact Tz)
 | true =>
  obtain⟨h1,h2,_⟩:=zG hy;have hB:uy a m<zc:=Nat.lt_trans (ft h1 h2) hm;rw[hy] at hO
  by_cases hg:Nat.gcd a m=1
  ·have he:ij a m=0:=by unfold ij;rw[hy,if_pos hg];rfl
   have hz:¬ uy a m=0:=aaX h1 h2 hg;rw[he];generalize uy a m=v at *;refine Fn.enter Tryz.func152 rfl rfl rfl ?_;intro w hw
   repeat (first|refine Ta ?_|(refine Tm ?_;intro _)|refine WO.acall (hc:=hO) (k:=?_)|refine Tc ?_|exact Tz)
   refine WC.adraw 7 (k:=?_)
   repeat (first|refine Da ?_|refine DQ.acall (hc:=nw) (k:=?_)|refine Dc ?_)
   refine DQ.anil (k:=?_);intro sx _
   repeat (first|refine Tw ?_|(refine Tm ?_;intro _)|exact Tz)
   refine WC.dF rfl hz ?_
   repeat (first|refine Tw ?_|(refine Tm ?_;intro _)|exact Tz)
  ·have he:ij a m=7:=by unfold ij;rw[hy,if_neg hg];rfl
   rw[he];rw[lw hg] at hO ⊢;refine Fn.enter Tryz.func152 rfl rfl rfl ?_;intro w hw
   repeat (first|refine Ta ?_|(refine Tm ?_;intro _)|refine WO.acall (hc:=hO) (k:=?_)|refine Tc ?_|exact Tz)
   refine WC.adraw 7 (k:=?_)
   repeat (first|refine Da ?_|refine DQ.acall (hc:=nw) (k:=?_)|refine Dc ?_)
   refine DQ.anil (k:=?_);intro sx _
   repeat (first|refine Tw ?_|(refine Tm ?_;intro _)|exact Tz)
abbrev zJ (p q g h:Nat):List Value:=[.int .u64 ((wd 0 p:Nat):Int),.int .u64 ((wd 1 p:Nat):Int),.int .u64 ((wd 2 p:Nat):Int),.int .u64 ((wd 3 p:Nat):Int),.int .u64 ((wd 0 q:Nat):Int),.int .u64 ((wd 1 q:Nat):Int),.int .u64 ((wd 2 q:Nat):Int),.int .u64 ((wd 3 q:Nat):Int),.int .u64 ((wd 0 g:Nat):Int),.int .u64 ((wd 1 g:Nat):Int),.int .u64 ((wd 2 g:Nat):Int),.int .u64 ((wd 3 g:Nat):Int),.int .u64 ((wd 0 h:Nat):Int),.int .u64 ((wd 1 h:Nat):Int),.int .u64 ((wd 2 h:Nat):Int),.int .u64 ((wd 3 h:Nat):Int)]
abbrev yh (p q g h:Nat):Value:=.agg #[.int .u64 ((wd 0 p:Nat):Int),.int .u64 ((wd 1 p:Nat):Int),.int .u64 ((wd 2 p:Nat):Int),.int .u64 ((wd 3 p:Nat):Int),.int .u64 ((wd 0 q:Nat):Int),.int .u64 ((wd 1 q:Nat):Int),.int .u64 ((wd 2 q:Nat):Int),.int .u64 ((wd 3 q:Nat):Int),.int .u64 ((wd 0 g:Nat):Int),.int .u64 ((wd 1 g:Nat):Int),.int .u64 ((wd 2 g:Nat):Int),.int .u64 ((wd 3 g:Nat):Int),.int .u64 ((wd 0 h:Nat):Int),.int .u64 ((wd 1 h:Nat):Int),.int .u64 ((wd 2 h:Nat):Int),.int .u64 ((wd 3 h:Nat):Int)]
def yC (p a:Nat):Bool:=decide (1<p) && decide (a≠0) && decide (a<p)
theorem yI {p a:Nat} (h:yC p a=true):1<p∧a≠0∧a<p:=by
 unfold yC at h;simp at h;exact⟨h.1.1,h.1.2,h.2⟩
theorem eM {p a:Nat} (h:yC p a=true):zF a a p=true:=by
 obtain⟨h1,_,h3⟩:=yI h;simp[zF,h1,h3]
section
variable (p q g h:Nat)
theorem nF (a b:Nat) (ha:a<zc) (hb:b<zc) (hq:q<zc):Fn Tryz.prog 77 [yh p q g h,ze a,ze b] Tr (Is (rE (zF a b q) ((a+b)%q))):=by
 have hO:=acB a b q ha hb hq;refine Fn.enter Tryz.func77 rfl rfl rfl ?_;intro w hw
 repeat (first|refine Td ?_|(refine Tm ?_;intro _)|refine WO.acall (hc:=hO) (k:=?_)|refine Tc ?_|exact Tz)
theorem ad (a b:Nat) (ha:a<zc) (hb:b<zc) (hq:q<zc):Fn Tryz.prog 94 [yh p q g h,ze a,ze b] Tr (Is (rE (zF a b q) ((a+q - b)%q))):=by
 have hO:=aak a b q ha hb hq;refine Fn.enter Tryz.func94 rfl rfl rfl ?_;intro w hw
 repeat (first|refine Td ?_|(refine Tm ?_;intro _)|refine WO.acall (hc:=hO) (k:=?_)|refine Tc ?_|exact Tz)
theorem kC (a b:Nat) (ha:a<zc) (hb:b<zc) (hq:q<zc):Fn Tryz.prog 76 [yh p q g h,ze a,ze b] Tr (Is (rE (zF a b q) (a*b%q))):=by
 have hO:=aaz a b q ha hb hq;refine Fn.enter Tryz.func76 rfl rfl rfl ?_;intro w hw
 repeat (first|refine Td ?_|(refine Tm ?_;intro _)|refine WO.acall (hc:=hO) (k:=?_)|refine Tc ?_|exact Tz)
theorem abJ (a:Nat) (ha:a<zc) (hq:q<zc):Fn Tryz.prog 129 [yh p q g h,ze a] Tr (Is (.tuple #[ze (okV (zF a a q) (uy a q)),.int .i64 (ij a q)])):=by
 have hO:=ac5 a q ha hq;refine Fn.enter Tryz.func129 rfl rfl rfl ?_;intro w hw
 repeat (first|refine Td ?_|(refine Tm ?_;intro _)|refine WO.acall (hc:=hO) (k:=?_)|refine Tc ?_|exact Tz)
theorem abd (a:Nat) (ha:a<zc) (hp:p<zc):Fn Tryz.prog 64 [yh p q g h,ze a] Tr (Is (.bool (yC p a))):=by
 have hC1:=mc p 1 hp yz;have hC2:=mc a p ha hp
 by_cases h1:1<p
 ·rw[mU h1] at hC1
  by_cases h2:a=0
  ·have e:yC p a=false:=by simp[yC,h2]
   rw[e];refine Fn.enter Tryz.func64 rfl rfl rfl ?_;intro w hw
   repeat (first|refine Td ?_|(refine Tm ?_;intro _)|refine Tc ?_|exact Tz)
   refine WC.adraw 18 (k:=?_)
   repeat (first|refine DQ.decT (k:=?_)|refine DQ.decF (k:=?_)|refine Da ?_|refine DQ.acall (hc:=vP) (k:=?_)|refine DQ.acall (hc:=nw) (k:=?_)|refine DQ.acall (hc:=hC1) (k:=?_)|refine DQ.acall (hc:=hC2) (k:=?_)|refine Dc ?_)
   refine DQ.anil (k:=?_);intro sx _
   repeat (first|refine Td ?_|(refine Tm ?_;intro _)|refine Tc ?_|exact Tz)
  ·by_cases h3:a<p
   ·have e:yC p a=true:=by simp[yC,h1,h2,h3]
    rw[fm h3] at hC2;rw[e];refine Fn.enter Tryz.func64 rfl rfl rfl ?_;intro w hw
    repeat (first|refine Td ?_|(refine Tm ?_;intro _)|refine Tc ?_|exact Tz)
    refine WC.adraw 18 (k:=?_)
    repeat (first|refine DQ.decT (k:=?_)|refine DQ.decF (k:=?_)|refine Da ?_|refine DQ.acall (hc:=vP) (k:=?_)|refine DQ.acall (hc:=nw) (k:=?_)|refine DQ.acall (hc:=hC1) (k:=?_)|refine DQ.acall (hc:=hC2) (k:=?_)|refine Dc ?_)
    refine DQ.anil (k:=?_);intro sx _
    repeat (first|refine Td ?_|(refine Tm ?_;intro _)|refine Tc ?_|exact Tz)
   ·have e:yC p a=false:=by simp[yC,h3]
    have e2:ux a p=0∨ux a p=1:=by
     rcases Nat.lt_or_ge p a with h4|h4
     ·exact .inr (mU h4)
     ·exact .inl (gU (by omega))
    rw[e]
    rcases e2 with e2|e2
    all_goals
     rw[e2] at hC2;refine Fn.enter Tryz.func64 rfl rfl rfl ?_;intro w hw
     repeat (first|refine Td ?_|(refine Tm ?_;intro _)|refine Tc ?_|exact Tz)
     refine WC.adraw 18 (k:=?_)
     repeat (first|refine DQ.decT (k:=?_)|refine DQ.decF (k:=?_)|refine Da ?_|refine DQ.acall (hc:=vP) (k:=?_)|refine DQ.acall (hc:=nw) (k:=?_)|refine DQ.acall (hc:=hC1) (k:=?_)|refine DQ.acall (hc:=hC2) (k:=?_)|refine Dc ?_)
     refine DQ.anil (k:=?_);intro sx _
     repeat (first|refine Td ?_|(refine Tm ?_;intro _)|refine Tc ?_|exact Tz)
 ·have e:yC p a=false:=by simp[yC,h1]
  have e2:ux p 1=0∨ux p 1 = -1:=by
   rcases Nat.lt_or_ge p 1 with h4|h4
   ·exact .inr (fm h4)
   ·exact .inl (gU (by omega))
  rw[e]
  rcases e2 with e2|e2
  all_goals
   rw[e2] at hC1;refine Fn.enter Tryz.func64 rfl rfl rfl ?_;intro w hw
   repeat (first|refine Td ?_|(refine Tm ?_;intro _)|refine Tc ?_|exact Tz)
   refine WC.adraw 18 (k:=?_)
   repeat (first|refine DQ.decT (k:=?_)|refine DQ.decF (k:=?_)|refine Da ?_|refine DQ.acall (hc:=vP) (k:=?_)|refine DQ.acall (hc:=nw) (k:=?_)|refine DQ.acall (hc:=hC1) (k:=?_)|refine DQ.acall (hc:=hC2) (k:=?_)|refine Dc ?_)
   refine DQ.anil (k:=?_);intro sx _
   repeat (first|refine Td ?_|(refine Tm ?_;intro _)|refine Tc ?_|exact Tz)
theorem uk (a n:Nat) (ha:a<zc) (hn:n<zc) (hp:p<zc):Fn Tryz.prog 28 [yh p q g h,ze a,ze n] Tr (Is (rE (yC p a) (a ^ n%p))):=by
 have hM:=abd p q g h a ha hp;cases hy:yC p a with
 | true =>
  have hE:=ac8 a n p ha hn hp;rw[eM hy] at hE;rw[hy] at hM;refine Fn.enter Tryz.func28 rfl rfl rfl ?_;intro w hw
  repeat (first|refine Td ?_|(refine Tm ?_;intro _)|refine WO.acall (hc:=hM) (k:=?_)|refine WO.acall (hc:=hE) (k:=?_)|refine Tc ?_|exact Tz)
 | false =>
  rw[hy] at hM;refine Fn.enter Tryz.func28 rfl rfl rfl ?_;intro w hw
  repeat (first|refine Td ?_|(refine Tm ?_;intro _)|refine WO.acall (hc:=hM) (k:=?_)|refine Tc ?_|exact Tz)
theorem aQ (a b:Nat) (ha:a<zc) (hb:b<zc) (hp:p<zc):Fn Tryz.prog 72 [yh p q g h,ze a,ze b] Tr (Is (rE (yC p a && yC p b) (a*b%p))):=by
 have hM1:=abd p q g h a ha hp;have hM2:=abd p q g h b hb hp;cases hy:yC p a with
 | true =>
  rw[hy] at hM1;cases hz:yC p b with
  | true =>
   rw[hz] at hM2;have hE:=aaz a b p ha hb hp;have hm:zF a b p=true:=by
    obtain⟨h1,_,h3⟩:=yI hy;obtain⟨_,_,h4⟩:=yI hz;simp[zF,h1,h3,h4]
   rw[hm] at hE;refine Fn.enter Tryz.func72 rfl rfl rfl ?_;intro w hw
   repeat (first|refine Td ?_|(refine Tm ?_;intro _)|refine WO.acall (hc:=hM1) (k:=?_)|refine WO.acall (hc:=hM2) (k:=?_)|refine WO.acall (hc:=hE) (k:=?_)|refine Tc ?_|exact Tz)
  | false =>
   rw[hz] at hM2;refine Fn.enter Tryz.func72 rfl rfl rfl ?_;intro w hw
   repeat (first|refine Td ?_|(refine Tm ?_;intro _)|refine WO.acall (hc:=hM1) (k:=?_)|refine WO.acall (hc:=hM2) (k:=?_)|refine Tc ?_|exact Tz)
 | false =>
  rw[hy] at hM1;refine Fn.enter Tryz.func72 rfl rfl rfl ?_;intro w hw
  repeat (first|refine Td ?_|(refine Tm ?_;intro _)|refine WO.acall (hc:=hM1) (k:=?_)|refine WO.acall (hc:=hM2) (k:=?_)|refine Tc ?_|exact Tz)
def gIn (p q a:Nat):Bool:=yC p a && decide (a ^ q%p=1)
theorem tY (a:Nat) (ha:a<zc) (hp:p<zc) (hq:q<zc):Fn Tryz.prog 43 [yh p q g h,ze a] Tr (Is (.bool (gIn p q a))):=by
 have hE:=uk p q g h a q ha hq hp;cases hy:yC p a with
 | true =>
  rw[hy] at hE;have hB:a ^ q%p<zc:=Nat.lt_trans (Nat.mod_lt _ (by have:=yI hy;omega)) hp;have e:gIn p q a=decide (a ^ q%p=1):=by simp[gIn,hy]
  rw[e];generalize a ^ q%p=v at *;refine Fn.enter Tryz.func43 rfl rfl rfl ?_;intro w hw
  repeat (first|refine Td ?_|(refine Tm ?_;intro _)|refine WO.acall (hc:=hE) (k:=?_)|refine Tc ?_|exact Tz)
  by_cases hv:v=1
  ·rw[decide_eq_true hv];refine WC.adraw 8 (k:=?_)
   repeat (first|refine DQ.decT (k:=?_)|refine DQ.decF (k:=?_)|refine Da ?_|refine DQ.acall (hc:=vP) (k:=?_)|refine Dc ?_)
   refine DQ.anil (k:=?_);intro sx _
   repeat (first|refine Td ?_|(refine Tm ?_;intro _)|refine Tc ?_|exact Tz)
  ·rw[decide_eq_false hv];refine WC.adraw 8 (k:=?_)
   repeat (first|refine DQ.decT (k:=?_)|refine DQ.decF (k:=?_)|refine Da ?_|refine DQ.acall (hc:=vP) (k:=?_)|refine Dc ?_)
   refine DQ.anil (k:=?_);intro sx _
   repeat (first|refine Td ?_|(refine Tm ?_;intro _)|refine Tc ?_|exact Tz)
 | false =>
  have e:gIn p q a=false:=by simp[gIn,hy]
  rw[hy] at hE;rw[e];refine Fn.enter Tryz.func43 rfl rfl rfl ?_;intro w hw
  repeat (first|refine Td ?_|(refine Tm ?_;intro _)|refine WO.acall (hc:=hE) (k:=?_)|refine Tc ?_|exact Tz)
  refine WC.adraw 8 (k:=?_)
  repeat (first|refine DQ.decT (k:=?_)|refine DQ.decF (k:=?_)|refine Da ?_|refine DQ.acall (hc:=vP) (k:=?_)|refine Dc ?_)
  refine DQ.anil (k:=?_);intro sx _
  repeat (first|refine Td ?_|(refine Tm ?_;intro _)|refine Tc ?_|exact Tz)
end
end Sx
end
end Go.Proofs.YtegjemedanccoaaGreatDoor
