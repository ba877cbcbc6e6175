/- Part 21 of the proof. -/
import Derived.Test.YtegjemedanccoaaGreatDoorM17
import Derived.Test.YtegjemedanccoaaGreatDoorM08
set_option linter.unusedSimpArgs false
set_option linter.unusedVariables false
set_option maxHeartbeats 8000000
namespace Go.Proofs.YtegjemedanccoaaGreatDoor
section
open Go Go.RowKit
namespace Sx
attribute [local irreducible] DQ DQS WC WO WX wd
theorem uJ (B:List Nat) (x c:Nat) (p:Option Addr) (hl:B.length≤549755813888) :
  Fn Tryz.prog 71 [.slice p B.length c,ze x] (fun w=>Rd (.slice p B.length c) B.length (byC B) w) (e8 5 (B++be 32 x).length (byC (B++be 32 x))):=by
 have hP:=fun g=>ab0 B [wd 3 x,wd 2 x,wd 1 x,wd 0 x] 8 c 4 p g 0 (by omega) (by simp;omega) (by simp);rw[aaZ] at hP;have hR:=fun g=>acn g 24 (wd 0 x) (wd 1 x) (wd 2 x) (wd 3 x) (by decide);simp only[rvC] at hR;refine Fn.enter Tryz.func71 rfl rfl rfl ?_;intro w hw
 repeat (first|refine Td ?_|(refine Tm ?_;intro _)|refine Tc ?_|exact Tz)
 rename_i g3;refine WO.does (vo rfl) ?_;refine WO.callM (hc:=hR g3) rfl Rp.here (fun _ _=>trivial) (by decide) ?_ rfl rfl
 repeat (first|refine Td ?_|(refine Tm ?_;intro _)|refine WO.does (vo rfl) ?_|refine Tc ?_|exact Tz)
 refine WO.acallN (hc:=hP g3) (hR:=fun w1 hm=>⟨hw.rds.rd hm,Hs.here.seg hm⟩) (k:=fun g4=>?_)
 repeat (first|refine Td ?_|(refine Tm ?_;intro _)|refine Tc ?_|exact Tz)
 exact WX.retN
theorem adb (B:List Nat) (n c b o:Nat) (hB:∀ b∈B,b<256) (hn:8≤n) (hBn:n≤B.length) (hc:n≤c) (hc2:c<9223372036854775808) :
  Fn Tryz.prog 142 [.slice (some ⟨b,o,none⟩) n c,.int .i64 8] (fun w=>Seg w b o (byC B)) (Is (.tuple #[.int .u64 ((beV (B.take 8):Nat):Int),.int .i64 0])):=by
 refine Fn.enter Tryz.func142 rfl rfl rfl ?_;intro w hw
 repeat (first|refine Td ?_|(refine Tm ?_;intro _)|refine Tc ?_|exact Tz)
 repeat (first|refine Td ?_|(refine Tm ?_;intro _)|refine WO.does (yF (h:=8) rfl rfl (by omega)) ?_|refine Tc ?_|exact Tz)
 refine WC.loopI (σ:=Nat) (fun i=>i≤8) (fun i=>[(4,.int .u64 ((beV (B.take i):Nat):Int)),(22,.slice (some ⟨b,o,none⟩) 8 c),(23,.int .i64 8),(24,.int .i64 (i:Int))]) (fun _=>[]) (fun i=>8 - i) 0 (fun i hi=>?_) (Nat.zero_le _)
 try dsimp only at hi ⊢
 by_cases hlt:i<8
 ·have hi2:i<B.length:=by omega
  have hget:(byC B)[o+i - o]?=some (.int .u8 ((B[i]:Nat):Int)):=by rw[Nat.add_sub_cancel_left];exact lf hi2
  have hb:B[i] < 256:=hB _ (List.getElem_mem hi2);have hv:beV (B.take i)<72057594037927936:=by
   have h1:=iD (tv hB i);have h2:(B.take i).length≤7:=by rw[List.length_take];omega
   exact Nat.lt_of_lt_of_le h1 (Nat.pow_le_pow_right (n:=256) (by omega) h2)
  have hnext:beV (B.take i)*256+B[i]=beV (B.take (i+1)):=by rw[List.take_succ_eq_append_getElem hi2,dZ]
  repeat (first|refine Td ?_|(refine Tm ?_;intro _)|refine Tc ?_|exact Tz)
  refine WC.dT rfl (by omega) ?_
  repeat (first|refine Td ?_|(refine Tm ?_;intro _)|refine WO.does (pO rfl rfl (by decide) (bC hv)) ?_|refine WO.does (u6 rfl rfl (aag hv hb)) ?_|refine Tc ?_|exact Tz)
  rw[hnext];refine WX.metI (i+1) (hs:=⟨by show i+1≤8;omega,by show 8 - (i+1)<8 - i;omega⟩)
 ·have hi8:i=8:=by omega
  have hv:beV (B.take i)=beV (B.take 8):=by rw[hi8]
  rw[hv];generalize beV (B.take 8)=V
  repeat (first|refine Td ?_|(refine Tm ?_;intro _)|refine Tc ?_|exact Tz)
  refine WC.dF rfl (by omega) ?_
  repeat (first|refine Td ?_|(refine Tm ?_;intro _)|refine Tc ?_|exact Tz)
end Sx
end
section
open Go Go.RowKit
namespace Sx
attribute [local irreducible] DQ DQS WC WO WX
def glC (d c b a:Nat):Nat→List Value
 | 0=>[.int .u64 0,.int .u64 0,.int .u64 0,.int .u64 0]
 | 1=>[.int .u64 0,.int .u64 0,.int .u64 0,.int .u64 (d:Int)]
 | 2=>[.int .u64 0,.int .u64 0,.int .u64 (c:Int),.int .u64 (d:Int)]
 | 3=>[.int .u64 0,.int .u64 (b:Int),.int .u64 (c:Int),.int .u64 (d:Int)]
 | _=>[.int .u64 (a:Int),.int .u64 (b:Int),.int .u64 (c:Int),.int .u64 (d:Int)]
def glK (g:Nat) (s:Value):Nat→List (Nat × Value)
 | 0=>[(0,s),(2,pt g),(9,.int .i64 0)]
 | 1=>[(0,s),(2,pt g),(9,.int .i64 1)]
 | 2=>[(0,s),(2,pt g),(9,.int .i64 2)]
 | 3=>[(0,s),(2,pt g),(9,.int .i64 3)]
 | _=>[(0,s),(2,pt g),(9,.int .i64 4)]
theorem fv (B:List Nat) (b o:Nat) (hB:∀ b∈B,b<256) (hl:B.length=32) :
  Fn Tryz.prog 116 [.slice (some ⟨b,o,none⟩) 32 32] (fun w=>Seg w b o (byC B)) (Is (.tuple #[ze (beV B),.int .i64 0])):=by
 have hG:=fun l (h:l≤24)=>adb (B.drop l) (32 - l) (32 - l) b (o+l) (vA hB l) (by omega) (by rw[List.length_drop];omega) (by omega) (by omega);have hS:=fun l (w:World) (h:Seg w b o (byC B))=>h.sub (k:=l) (m:=32) (vs:=byC (B.drop l)) (by rw[cut,oG,List.take_of_length_le];rw[zf,List.length_drop];omega);have hend:Value.agg #[.int .u64 ((beV ((B.drop 24).take 8):Nat):Int),.int .u64 ((beV ((B.drop 16).take 8):Nat):Int),.int .u64 ((beV ((B.drop 8).take 8):Nat):Int),.int .u64 ((beV ((B.drop 0).take 8):Nat):Int)]=ze (beV B):=by
  rw[sc (pF (vA hB _) 0) (pF (vA hB _) 0) (pF (vA hB _) 0) (pF (vA hB _) 0),ew hl]
 have h0:=hG 0 (by decide);have h1:=hG 8 (by decide);have h2:=hG 16 (by decide);have h3:=hG 24 (by decide);rw[← hend];clear hend hG;generalize beV ((B.drop 0).take 8)=d0 at *;generalize beV ((B.drop 8).take 8)=d1 at *;generalize beV ((B.drop 16).take 8)=d2 at *;generalize beV ((B.drop 24).take 8)=d3 at *;simp only[Nat.reduceSub] at h0 h1 h2 h3;refine Fn.enter Tryz.func116 rfl rfl rfl ?_;intro w hw;have hw0:=hS 0 w hw;have hw1:=hS 8 w hw;have hw2:=hS 16 w hw;have hw3:=hS 24 w hw;clear hS
 repeat (first|refine Tw ?_|(refine Tm ?_;intro _)|exact Tz)
 rename_i g;refine WC.loopI (σ:=Nat) (fun k=>k≤4) (glK g (.slice (some ⟨b,o,none⟩) 32 32)) (fun k=>[⟨g,24,glC d0 d1 d2 d3 k⟩]) (fun k=>4 - k) 0 (fun k hk=>?_) (by decide)
 match k,hk with
 | 0,_ =>
  simp only[glK,glC]
  repeat (first|refine Ta ?_|(refine Tm ?_;intro _)|refine WO.does (yw (l:=0) rfl rfl (by decide) (by decide) rfl) ?_|refine WO.acallR (hc:=h0) (hR:=fun w' hm=>hw0.mod hm.mod (by simp)) (k:=?_)|refine Tc ?_|exact Tz)
  exact WX.metI 1 (hs:=⟨by decide,by decide⟩)
 | 1,_ =>
  simp only[glK,glC]
  repeat (first|refine Ta ?_|(refine Tm ?_;intro _)|refine WO.does (yw (l:=8) rfl rfl (by decide) (by decide) rfl) ?_|refine WO.acallR (hc:=h1) (hR:=fun w' hm=>hw1.mod hm.mod (by simp)) (k:=?_)|refine Tc ?_|exact Tz)
  exact WX.metI 2 (hs:=⟨by decide,by decide⟩)
 | 2,_ =>
  simp only[glK,glC]
  repeat (first|refine Ta ?_|(refine Tm ?_;intro _)|refine WO.does (yw (l:=16) rfl rfl (by decide) (by decide) rfl) ?_|refine WO.acallR (hc:=h2) (hR:=fun w' hm=>hw2.mod hm.mod (by simp)) (k:=?_)|refine Tc ?_|exact Tz)
  exact WX.metI 3 (hs:=⟨by decide,by decide⟩)
 | 3,_ =>
  simp only[glK,glC]
  repeat (first|refine Ta ?_|(refine Tm ?_;intro _)|refine WO.does (yw (l:=24) rfl rfl (by decide) (by decide) rfl) ?_|refine WO.acallR (hc:=h3) (hR:=fun w' hm=>hw3.mod hm.mod (by simp)) (k:=?_)|refine Tc ?_|exact Tz)
  exact WX.metI 4 (hs:=⟨by decide,by decide⟩)
 | 4,_ =>
  simp only[glK,glC]
  repeat (first|refine Tw ?_|(refine Tm ?_;intro _)|exact Tz)
end Sx
end
section
open Go Go.RowKit
namespace Sx
attribute [local irreducible] DQ DQS WC WO WX wd
theorem aay (n:Nat) (h0:0<n) (hn:n≤1099511627776):Fn Tryz.prog 139 [.slice none 0 0,.int .i64 (n:Int)] Tr
  (Ex (fun s=>.slice (some ⟨s 0,0,none⟩) 0 (s 1)) (fun s=>[⟨s 0,5,room [] (s 1)⟩]) (fun s=>n≤s 1∧s 1<9223372036854775808)):=by
 refine Fn.enter Tryz.func139 rfl rfl rfl ?_;intro w hw
 repeat (first|refine Ta ?_|(refine Tm ?_;intro _)|refine WO.does (ja rfl) ?_|refine Tc ?_|exact Tz)
 refine WC.dT rfl (by omega) ?_;have hn0:((n:Int) - 0)=(n:Int):=by omega
 repeat (first|refine Ta ?_|(refine Tm ?_;intro _)|refine WO.does (ja rfl) ?_|refine WO.does (yF (h:=0) rfl rfl (by decide)) ?_|refine Tc ?_|exact Tz)
 refine WO.eqv (v:=.int .i64 (n:Int)) (by simp) ?_;refine WO.news (iR (n:=n) rfl rfl h0 (by omega) (by decide) (by omega)) (fun s hs=>?_);obtain⟨h1,h2⟩:=hs;generalize s 0=g;generalize s 1=c at *
 repeat (first|refine Ta ?_|(refine Tm ?_;intro _)|refine WO.does (yF (h:=0) rfl rfl (by omega)) ?_|refine Tc ?_|exact Tz)
 exact WX.ret1 rfl (zr rfl) [⟨g,5,room [] c⟩] (Lle.cons Pk.here (gx n c h1) Lle.nil) ⟨fun i=>if i=0 then g else c,rfl,rfl,h1,h2⟩
def ccK (v:Value) (n1 n2:Nat):Nat→List (Nat × Value)
 | 0=>[(0,v),(3,.int .i64 0),(9,v),(10,.int .i64 2),(11,.int .i64 0)]
 | 1=>[(0,v),(3,.int .i64 (n1:Int)),(9,v),(10,.int .i64 2),(11,.int .i64 1)]
 | _=>[(0,v),(3,.int .i64 ((n1+n2:Nat):Int)),(9,v),(10,.int .i64 2),(11,.int .i64 2)]
def cdK (v:Value) (g c n1 n2:Nat):Nat→List (Nat × Value)
 | 0=>[(6,.slice (some ⟨g,0,none⟩) 0 c),(25,v),(26,.int .i64 2),(27,.int .i64 0)]
 | 1=>[(6,.slice (some ⟨g,0,none⟩) n1 c),(25,v),(26,.int .i64 2),(27,.int .i64 1)]
 | _=>[(6,.slice (some ⟨g,0,none⟩) (n1+n2) c),(25,v),(26,.int .i64 2),(27,.int .i64 2)]
def cdL (g c:Nat) (X1 X2:List Nat):Nat→List Ent
 | 0=>[⟨g,5,room [] c⟩]
 | 1=>[⟨g,5,room X1 (c - X1.length)⟩]
 | _=>[⟨g,5,room (X1++X2) (c - X1.length - X2.length)⟩]
theorem i2 (X1 X2:List Nat) (p1 p2:Option Addr) (c1 c2 S c:Nat) (h0:0<X1.length+X2.length) (hm:X1.length+X2.length≤1099511627776) :
  Fn Tryz.prog 111 [.slice (some ⟨S,0,none⟩) 2 c] (fun w=>Seg w S 0 [.slice p1 X1.length c1,.slice p2 X2.length c2]∧Rd (.slice p1 X1.length c1) X1.length (byC X1) w∧Rd (.slice p2 X2.length c2) X2.length (byC X2) w)
   (acT 5 (X1++X2).length (byC (X1++X2))):=by
 have hlen:(X1++X2).length=X1.length+X2.length:=List.length_append;have hG:=aay (X1.length+X2.length) h0 hm;have hbm:byC (X1++X2)=byC X1++byC X2:=zS X1 X2;rw[hlen];refine Fn.enter Tryz.func111 rfl rfl rfl ?_;intro w hw;obtain⟨hS,hX1,hX2⟩:=hw
 repeat (first|refine Tw ?_|(refine Tm ?_;intro _)|exact Tz)
 refine WC.loopI (σ:=Nat) (fun k=>k≤2) (ccK (.slice (some ⟨S,0,none⟩) 2 c) X1.length X2.length) (fun _=>[]) (fun k=>2 - k) 0 (fun k hk=>?_) (by decide)
 ·match k,hk with
  | 0,_ =>
   simp only[ccK]
   repeat (first|refine Ta ?_|(refine Tm ?_;intro _)|refine WO.does (zi (r:=(X1.length:Int)) rfl rfl (zm (by omega) (by omega) (by omega))) ?_|refine Tc ?_|exact Tz)
   exact WX.metI 1 (hs:=⟨by decide,by decide⟩)
  | 1,_ =>
   simp only[ccK]
   repeat (first|refine Ta ?_|(refine Tm ?_;intro _)|refine WO.does (zi (r:=((X1.length+X2.length:Nat):Int)) rfl rfl (zm (by omega) (by omega) (by omega))) ?_|refine Tc ?_|exact Tz)
   exact WX.metI 2 (hs:=⟨by decide,by decide⟩)
  | 2,_ =>
   simp only[ccK]
   repeat (first|refine Tw ?_|(refine Tm ?_;intro _)|exact Tz)
   refine WO.acallX (f:=139) (hc:=hG) (hR:=fun _ _=>trivial) (k:=fun s hs=>?_);obtain⟨h1,h2⟩:=hs;generalize s 0=g;generalize s 1=c' at *
   repeat (first|refine Tw ?_|(refine Tm ?_;intro _)|exact Tz)
   refine WC.loopI (σ:=Nat) (fun k=>k≤2) (cdK (.slice (some ⟨S,0,none⟩) 2 c) g c' X1.length X2.length) (cdL g c' X1 X2) (fun k=>2 - k) 0 (fun k hk=>?_) (by decide)
   match k,hk with
   | 0,_ =>
    simp only[cdK,cdL]
    repeat (first|refine Tw ?_|(refine Tm ?_;intro _)|exact Tz)
    refine WO.both (sG (n:=X1.length) (xs:=byC X1) (l:=X1.length) rfl rfl hX1.rds (zf X1) (by omega) (yP X1) Rp.here (np (A:=[]) (X:=X1) (by omega)) (by rw[qd];simp;omega) (by decide) (by omega)) ?_
    repeat (first|refine Tw ?_|(refine Tm ?_;intro _)|exact Tz)
    exact WX.metI 1 (hs:=⟨by decide,by decide⟩)
   | 1,_ =>
    simp only[cdK,cdL]
    repeat (first|refine Tw ?_|(refine Tm ?_;intro _)|exact Tz)
    refine WO.both (sG (n:=X2.length) (xs:=byC X2) (l:=X1.length+X2.length) rfl rfl hX2.rds (zf X2) (by omega) (yP X2) Rp.here (np (A:=X1) (X:=X2) (by omega)) (by rw[qd];omega) (by decide) (by omega)) ?_
    repeat (first|refine Tw ?_|(refine Tm ?_;intro _)|exact Tz)
    exact WX.metI 2 (hs:=⟨by decide,by decide⟩)
   | 2,_ =>
    simp only[cdK,cdL]
    repeat (first|refine Tw ?_|(refine Tm ?_;intro _)|exact Tz)
    exact WX.retL (cs:=byC (X1++X2)) h1 h2 Pk.here
theorem ib (B X:List Nat) (p q:Option Addr) (c d:Nat) (hB:B.length≤274877906944) (hX:X.length≤274877906944) :
  Fn Tryz.prog 68 [.slice p B.length c,.slice q X.length d] (fun w=>Rd (.slice p B.length c) B.length (byC B) w∧Rd (.slice q X.length d) X.length (byC X) w)
   (acT 5 (B++be 4 X.length++X).length (byC (B++be 4 X.length++X))):=by
 have h4:=jy B X.length 4 c p (by omega) (by omega);have hl:(B++be 4 X.length).length=B.length+4:=by rw[List.length_append,zh]
 have hC:=fun g S=>i2 (B++be 4 X.length) X (some ⟨g,0,none⟩) q (B++be 4 X.length).length d S 2 (by omega) (by omega);have hu:IntKind.u64.wrap ((X.length:Nat):Int)=((X.length:Nat):Int):=u64_in (by omega) (by omega);refine Fn.enter Tryz.func68 rfl rfl rfl ?_;intro w hw;obtain⟨hw1,hw2⟩:=hw
 repeat (first|refine Ta ?_|(refine Tm ?_;intro _)|refine WO.does (zL rfl hu) ?_|refine Tc ?_|exact Tz)
 refine WO.acallN (hc:=h4) (hR:=fun w1 hm=>hw1.rds.rd hm) (k:=fun g3=>?_)
 repeat (first|refine Ta ?_|(refine Tm ?_;intro _)|(refine WO.makes (zd (cs:=[.slice (some ⟨g3,0,none⟩) (B++be 4 X.length).length (B++be 4 X.length).length,.slice q X.length d]) rfl (by decide) rfl) ?_;intro g4)|refine Tc ?_|exact Tz)
 refine WO.acallL (hc:=hC g3 g4) (hR:=fun w1 hm=>⟨Hs.here.seg hm,Rd.of ((Hs.there Hs.here).seg hm),hw2.rds.rd hm⟩) (k:=fun g c r h1 h2=>?_)
 repeat (first|refine Tw ?_|(refine Tm ?_;intro _)|exact Tz)
 exact WX.retL h1 h2 Pk.here
theorem getD_set_ne {l:List Nat} {i j v:Nat} (h:i≠j):(l.set i v).getD j 0=l.getD j 0:=by simp[List.getD,List.getElem?_set_ne h]
theorem jZ {a:Nat} (ha:a<zc):a<18446744073709551616↔wd 1 a=0∧wd 2 a=0∧wd 3 a=0:=by
 unfold zc at ha;simp only[wd];omega
end Sx
end
section
open Go Go.RowKit
namespace Sx
attribute [local irreducible] DQ DQS WC WO WX
theorem r7 (a i:Nat):ug a i≤1:=by unfold ug;omega
theorem aav {x r:Nat} (h:r<64):x%18446744073709551616 / 2 ^ r%2=x / 2 ^ r%2:=by
 rw[show 18446744073709551616=2 ^ r*2 ^ (64 - r) by rw[← Nat.pow_add,show r+(64 - r)=64 by omega],Nat.mod_mul_right_div_self];refine Nat.mod_mod_of_dvd _ ?_;exact⟨2 ^ (63 - r),by rw[show 64 - r=(63 - r)+1 by omega,Nat.pow_succ,Nat.mul_comm]⟩
theorem kZ {n i:Nat} (h:i<256):wd (i / 64) n / 2 ^ (i%64)%2=ug n i:=by
 have e:wd (i / 64) n=n / 2 ^ (64*(i / 64))%18446744073709551616:=by
  have hk:i / 64<4:=by omega
  generalize i / 64=k at *
  match k,hk with
  | 0,_|1,_|2,_|3,_=>simp[wd]
  | k+4,h=>omega
 rw[e,aav (Nat.mod_lt _ (by decide)),Nat.div_div_eq_div_mul,← Nat.pow_add,show 64*(i / 64)+i%64=i by omega];rfl
theorem and_one (x:Nat) (h:x<18446744073709551616):IntKind.u64.wrap (((BitVec.ofInt IntKind.u64.bits ((x:Nat):Int) &&& BitVec.ofInt IntKind.u64.bits (1:Int)).toNat:Nat):Int)=((x%2:Nat):Int):=by
 have e:(BitVec.ofInt IntKind.u64.bits ((x:Nat):Int) &&& BitVec.ofInt IntKind.u64.bits (1:Int)).toNat=x%2:=by
  rw[BitVec.toNat_and,BitVec.toNat_ofInt,BitVec.toNat_ofInt];have e1:(((x:Nat):Int)%((2 ^ IntKind.u64.bits:Nat):Int)).toNat=x:=by show (((x:Nat):Int)%18446744073709551616).toNat=x;omega
  have e2:((1:Int)%((2 ^ IntKind.u64.bits:Nat):Int)).toNat=1:=by decide
  rw[e1,e2,Nat.and_one_is_mod]
 rw[e];exact u64_in (by omega) (by omega)
end Sx
end
end Go.Proofs.YtegjemedanccoaaGreatDoor
